/- A place and a gap that may be; what the laws' Few, Right and Small answer. -/
import Derived.Test.YtnidcoooenhebaaFt
namespace Go.Proofs.Ytnidcoooenhebaa.PS
open Go.RowKit Go.Proofs.Ytnidcoooenhebaa.PC Go.Proofs.YtnidcoooenhebaaW.PrintWords Go.Proofs.YtnidcoooenhebaaW.PrintLast Go.Proofs.YtnidcoooenhebaaW.PrintMore
attribute [local go_sem] max2_int min2_int max_two min_two max_three min_three max_four min_four   -- for this text's walks alone
set_option linter.unusedVariables false
set_option linter.unusedSimpArgs false
theorem task_c (W : World) (B : Int) (A : Option Addr) (l : List S39) (cap : Nat) (hC : Kd.C k39 W A l.length l) (hc : l.length ≤ cap) (hl : 1 ≤ l.length) (a b : Int) (ha : 0 ≤ a ∧ a ≤ 255) (hb : 0 ≤ b ∧ b ≤ 4294967295) (S : Array Value) (hS : S = #[.int .i64 B, .slice A l.length cap]) (i g : Int) (hi : i = a % (l.length : Int)) (hg : g = 1 + b % 1049576) :
    Calls Try.prog 12 #[.agg S, .int .u8 a, .int .u32 b] W fun e w' => e = .returned (.tuple #[.int .i64 i, .int .i64 g]) ∧ Below W.heap.size W w' := by
  subst hS hi hg
  have hm := Kd.C_max hC
  have h1 : 0 ≤ a % (l.length : Int) := Int.emod_nonneg _ (by omega)
  have h2 : 0 ≤ b % 1049576 := Int.emod_nonneg _ (by omega)
  have h3 : b % 1049576 < 1049576 := Int.emod_lt_of_pos _ (by omega)
  refine pendulumlaw19_task.calls B A cap l a b _ _ W hC hc ?_
  unfold pendulumlaw19_task.f
  rw [if_neg (by omega), w64 (x := a) (by omega) (by omega), w64 (x := b) (by omega) (by omega), Int.tmod_eq_emod_of_nonneg ha.1, Int.tmod_eq_emod_of_nonneg hb.1, w64 (x := 1 + b % 1049576) (by omega) (by omega)]
theorem fewq_c {B : Int} {l : List S39} {b : Bool} (hb : Ev (fun k => pendulumref05_Few.f k B l) b) {w : World} {A : Option Addr} {cap : Nat} (hC : Kd.C k39 w A l.length l) (hc : l.length ≤ cap) {B0 : Nat} {W : World} (h0 : w.heap.size = B0) (hW : Below B0 w W) (S : Array Value) (hS : S = #[.int .i64 B, .slice A l.length cap]) :
    Calls Try.prog 10 #[.agg S] W fun e w' => e = .returned (.bool b) ∧ Below W.heap.size W w' := by
  subst hS h0
  obtain ⟨k, h⟩ := hb.rounds
  exact pendulumref05_Few.calls k _ _ _ _ b W (Kd.C_below hC hW) hc h
theorem rightq_c {B : Int} {l : List S39} {b : Bool} (hb : Ev (fun k => pendulumref05_Right.f k B l) b) {w : World} {A : Option Addr} {cap : Nat} (hC : Kd.C k39 w A l.length l) (hc : l.length ≤ cap) {B0 : Nat} {W : World} (h0 : w.heap.size = B0) (hW : Below B0 w W) (S : Array Value) (hS : S = #[.int .i64 B, .slice A l.length cap]) :
    Calls Try.prog 11 #[.agg S] W fun e w' => e = .returned (.bool b) ∧ Below W.heap.size W w' := by
  subst hS h0
  obtain ⟨k, h⟩ := hb.rounds
  exact pendulumref05_Right.calls k _ _ _ _ b W (Kd.C_below hC hW) hc h
theorem smallq_c {B : Int} {l : List S39} {b : Bool} (hb : Ev (fun k => pendulumref19_Small.f k B l) b) {w : World} {A : Option Addr} {cap : Nat} (hC : Kd.C k39 w A l.length l) (hc : l.length ≤ cap) {B0 : Nat} {W : World} (h0 : w.heap.size = B0) (hW : Below B0 w W) (S : Array Value) (hS : S = #[.int .i64 B, .slice A l.length cap]) :
    Calls Try.prog 19 #[.agg S] W fun e w' => e = .returned (.bool b) ∧ Below W.heap.size W w' := by
  subst hS h0
  obtain ⟨k, h⟩ := hb.rounds
  exact pendulumref19_Small.calls k _ _ _ _ b W (Kd.C_below hC hW) hc h
end Go.Proofs.Ytnidcoooenhebaa.PS
