/- Seat 15's awake: what it computes. -/
import Derived.Test.YtkedmmimcmignaaPCu
import Derived.Lib.Hide
import Derived.Laws.CopyOwn
import Derived.Laws.Tables
import Derived.Deep.MidRow
namespace Go.Proofs.Ytkedmmimcmignaa.PC
open Go.RowKit Go.Proofs.YtkedmmimcmignaaW.PrintWords Go.Proofs.YtkedmmimcmignaaW.PrintLast Go.Proofs.YtkedmmimcmignaaW.PrintMore
set_option linter.unusedVariables false
set_option linter.unusedSimpArgs false
/-! ### pendulumlaw15_awake: function 7 -/
def pendulumlaw15_awake.j0 : Nat → Bool → ByteArray → Int → Int → Int → Int → Int → Int → Int → Int → Int → Int → Int → Int → Int → Bool → Int → Option (Bool)
  | 0, _, _, _, _, _, _, _, _, _, _, _, _, _, _, _, _, _ => none
  | k + 1, x21, x171000, x171001, x171002, x171003, x171004, x171005, x171006, x171007, x171008, x171009, x171010, x171011, x171012, x171013, x171014, x171015 => if x21 = true then (some false) else ((recover_Rest.f k x171000 x171001 x171002 x171003 x171004 x171005 x171006 x171007 x171008 x171009 x171010 x171011 x171012 x171013 x171014 x171015).bind fun t171 => ((recover_Step.f k x171000 x171001 x171002 x171003 x171004 x171005 x171006 x171007 x171008 x171009 x171010 x171011 x171012 x171013 x171014 x171015 true).bind fun bt172 => ((recover_Step.f k bt172.1 bt172.2.1 bt172.2.2.1 bt172.2.2.2.1 bt172.2.2.2.2.1 bt172.2.2.2.2.2.1 bt172.2.2.2.2.2.2.1 bt172.2.2.2.2.2.2.2.1 bt172.2.2.2.2.2.2.2.2.1 bt172.2.2.2.2.2.2.2.2.2.1 bt172.2.2.2.2.2.2.2.2.2.2.1 bt172.2.2.2.2.2.2.2.2.2.2.2.1 bt172.2.2.2.2.2.2.2.2.2.2.2.2.1 bt172.2.2.2.2.2.2.2.2.2.2.2.2.2.1 bt172.2.2.2.2.2.2.2.2.2.2.2.2.2.2.1 bt172.2.2.2.2.2.2.2.2.2.2.2.2.2.2.2.1 false).bind fun bt189 => ((recover_Step.f k bt189.1 bt189.2.1 bt189.2.2.1 bt189.2.2.2.1 bt189.2.2.2.2.1 bt189.2.2.2.2.2.1 bt189.2.2.2.2.2.2.1 bt189.2.2.2.2.2.2.2.1 bt189.2.2.2.2.2.2.2.2.1 bt189.2.2.2.2.2.2.2.2.2.1 bt189.2.2.2.2.2.2.2.2.2.2.1 bt189.2.2.2.2.2.2.2.2.2.2.2.1 bt189.2.2.2.2.2.2.2.2.2.2.2.2.1 bt189.2.2.2.2.2.2.2.2.2.2.2.2.2.1 bt189.2.2.2.2.2.2.2.2.2.2.2.2.2.2.1 bt189.2.2.2.2.2.2.2.2.2.2.2.2.2.2.2.1 false).bind fun bt206 => ((recover_Step.f k bt206.1 bt206.2.1 bt206.2.2.1 bt206.2.2.2.1 bt206.2.2.2.2.1 bt206.2.2.2.2.2.1 bt206.2.2.2.2.2.2.1 bt206.2.2.2.2.2.2.2.1 bt206.2.2.2.2.2.2.2.2.1 bt206.2.2.2.2.2.2.2.2.2.1 bt206.2.2.2.2.2.2.2.2.2.2.1 bt206.2.2.2.2.2.2.2.2.2.2.2.1 bt206.2.2.2.2.2.2.2.2.2.2.2.2.1 bt206.2.2.2.2.2.2.2.2.2.2.2.2.2.1 bt206.2.2.2.2.2.2.2.2.2.2.2.2.2.2.1 bt206.2.2.2.2.2.2.2.2.2.2.2.2.2.2.2.1 false).bind fun bt223 => ((recover_Begin.f k (⟨#[97]⟩ : ByteArray) 9 9 1 0 1 1 1 1 1 0 2).bind fun bt240 => (if t171 = 2 then (if bt172.2.2.2.2.2.2.2.2.2.2.2.2.2.2.2.2 = 0 then (if bt189.2.2.2.2.2.2.2.2.2.2.2.2.2.2.2.2 = 2 then (if bt206.2.2.2.2.2.2.2.2.2.2.2.2.2.2.2.2 = 0 then (if bt223.2.2.2.2.2.2.2.2.2.2.2.2.2.2.2.2 = 4 then (if bt223.2.2.2.2.2.2.2.2.2.2.2.2.2.2.2.1 = 1 then (if bt240.2.2.2.2.2.2.2.2.2.2.2.2.2.2.2.2 = 1 then ((recover_Urgent.f bt223.1 bt223.2.1 bt223.2.2.1 bt223.2.2.2.1 bt223.2.2.2.2.1 bt223.2.2.2.2.2.1 bt223.2.2.2.2.2.2.1 bt223.2.2.2.2.2.2.2.1 bt223.2.2.2.2.2.2.2.2.1 bt223.2.2.2.2.2.2.2.2.2.1 bt223.2.2.2.2.2.2.2.2.2.2.1 bt223.2.2.2.2.2.2.2.2.2.2.2.1 bt223.2.2.2.2.2.2.2.2.2.2.2.2.1 bt223.2.2.2.2.2.2.2.2.2.2.2.2.2.1 bt223.2.2.2.2.2.2.2.2.2.2.2.2.2.2.1 bt223.2.2.2.2.2.2.2.2.2.2.2.2.2.2.2.1).bind fun t258 => (some (!t258))) else (some false)) else (some false)) else (some false)) else (some false)) else (some false)) else (some false)) else (some false))))))))
def pendulumlaw15_awake.f (k : Nat)  : Option (Bool) := (recover_Begin.f k (⟨#[97]⟩ : ByteArray) 9 9 1 0 1 1 1 1 1 0 1).bind fun bt153 => (if bt153.2.2.2.2.2.2.2.2.2.2.2.2.2.2.2.2 = 0 then (pendulumlaw15_awake.j0 k (bt153.2.2.2.2.2.2.2.2.2.2.2.2.2.1 != 2) bt153.1 bt153.2.1 bt153.2.2.1 bt153.2.2.2.1 bt153.2.2.2.2.1 bt153.2.2.2.2.2.1 bt153.2.2.2.2.2.2.1 bt153.2.2.2.2.2.2.2.1 bt153.2.2.2.2.2.2.2.2.1 bt153.2.2.2.2.2.2.2.2.2.1 bt153.2.2.2.2.2.2.2.2.2.2.1 bt153.2.2.2.2.2.2.2.2.2.2.2.1 bt153.2.2.2.2.2.2.2.2.2.2.2.2.1 bt153.2.2.2.2.2.2.2.2.2.2.2.2.2.1 bt153.2.2.2.2.2.2.2.2.2.2.2.2.2.2.1 bt153.2.2.2.2.2.2.2.2.2.2.2.2.2.2.2.1) else (pendulumlaw15_awake.j0 k true bt153.1 bt153.2.1 bt153.2.2.1 bt153.2.2.2.1 bt153.2.2.2.2.1 bt153.2.2.2.2.2.1 bt153.2.2.2.2.2.2.1 bt153.2.2.2.2.2.2.2.1 bt153.2.2.2.2.2.2.2.2.1 bt153.2.2.2.2.2.2.2.2.2.1 bt153.2.2.2.2.2.2.2.2.2.2.1 bt153.2.2.2.2.2.2.2.2.2.2.2.1 bt153.2.2.2.2.2.2.2.2.2.2.2.2.1 bt153.2.2.2.2.2.2.2.2.2.2.2.2.2.1 bt153.2.2.2.2.2.2.2.2.2.2.2.2.2.2.1 bt153.2.2.2.2.2.2.2.2.2.2.2.2.2.2.2.1))
theorem pendulumlaw15_awake.mono_l : ∀ k, (∀ y0 y1 y2 y3 y4 y5 y6 y7 y8 y9 y10 y11 y12 y13 y14 y15 y16, LeO (pendulumlaw15_awake.j0 k y0 y1 y2 y3 y4 y5 y6 y7 y8 y9 y10 y11 y12 y13 y14 y15 y16) (pendulumlaw15_awake.j0 (k + 1) y0 y1 y2 y3 y4 y5 y6 y7 y8 y9 y10 y11 y12 y13 y14 y15 y16))
  | 0 => fun _ _ _ _ _ _ _ _ _ _ _ _ _ _ _ _ _ r h => by simp [pendulumlaw15_awake.j0] at h
  | k + 1 => by
    have ih0 := pendulumlaw15_awake.mono_l k
    · intro y0 y1 y2 y3 y4 y5 y6 y7 y8 y9 y10 y11 y12 y13 y14 y15 y16
      unfold pendulumlaw15_awake.j0
      repeat' first
      | (with_reducible exact ih0 _ _ _ _ _ _ _ _ _ _ _ _ _ _ _ _ _)
      | (with_reducible exact recover_Begin.mono _ _ _ _ _ _ _ _ _ _ _ _ _)
      | (with_reducible exact recover_Rest.mono _ _ _ _ _ _ _ _ _ _ _ _ _ _ _ _ _)
      | (with_reducible exact recover_Step.mono _ _ _ _ _ _ _ _ _ _ _ _ _ _ _ _ _ _)
      | (with_reducible exact LeO.refl _)
      | (with_reducible exact LeO.none _)
      | (with_reducible refine LeO.ite ?_ ?_)
      | (with_reducible refine LeO.bind ?_ (fun _ => ?_))
      | exact ih0 _ _ _ _ _ _ _ _ _ _ _ _ _ _ _ _ _
      | exact recover_Begin.mono _ _ _ _ _ _ _ _ _ _ _ _ _
      | exact recover_Rest.mono _ _ _ _ _ _ _ _ _ _ _ _ _ _ _ _ _
      | exact recover_Step.mono _ _ _ _ _ _ _ _ _ _ _ _ _ _ _ _ _ _
      | exact LeO.none _
      | refine LeO.ite ?_ ?_
      | refine LeO.bind ?_ (fun _ => ?_)
theorem pendulumlaw15_awake.mono : ∀ k, LeO (pendulumlaw15_awake.f k ) (pendulumlaw15_awake.f (k + 1) ) := by
  intro  k
  have ih0 := pendulumlaw15_awake.mono_l k
  unfold pendulumlaw15_awake.f
  repeat' first
      | (with_reducible exact ih0 _ _ _ _ _ _ _ _ _ _ _ _ _ _ _ _ _)
      | (with_reducible exact recover_Begin.mono _ _ _ _ _ _ _ _ _ _ _ _ _)
      | (with_reducible exact recover_Rest.mono _ _ _ _ _ _ _ _ _ _ _ _ _ _ _ _ _)
      | (with_reducible exact recover_Step.mono _ _ _ _ _ _ _ _ _ _ _ _ _ _ _ _ _ _)
      | (with_reducible exact LeO.refl _)
      | (with_reducible exact LeO.none _)
      | (with_reducible refine LeO.ite ?_ ?_)
      | (with_reducible refine LeO.bind ?_ (fun _ => ?_))
      | exact ih0 _ _ _ _ _ _ _ _ _ _ _ _ _ _ _ _ _
      | exact recover_Begin.mono _ _ _ _ _ _ _ _ _ _ _ _ _
      | exact recover_Rest.mono _ _ _ _ _ _ _ _ _ _ _ _ _ _ _ _ _
      | exact recover_Step.mono _ _ _ _ _ _ _ _ _ _ _ _ _ _ _ _ _ _
      | exact LeO.none _
      | refine LeO.ite ?_ ?_
      | refine LeO.bind ?_ (fun _ => ?_)
theorem awake_only {k : Nat} {r : Bool} (h : pendulumlaw15_awake.f k = some r) : r = true := by
  have up : ∀ n m, LeO (pendulumlaw15_awake.f n) (pendulumlaw15_awake.f (n + m)) := by
    intro n m
    induction m with
    | zero => exact LeO.refl _
    | succ m ih => exact fun v hv => pendulumlaw15_awake.mono _ v (ih v hv)
  have h1 := up k 40 r h
  have h2 := up 40 k true (by kernel_rfl)
  rw [Nat.add_comm] at h1
  exact Option.some.inj (h1.symm.trans h2)
theorem aw_begin (W : World) (A : Array Value) (eA : A = #[.string ⟨#[97]⟩, .int .i64 9, .int .i64 9, .int .i64 1, .int .i64 0, .int .i64 1, .int .i64 1, .int .i64 1, .int .i64 1, .int .i64 1, .int .i64 0, .int .i64 1, .int .i64 0, .int .i64 2, .bool false, .int .i64 0]) : Calls Try.prog 9 #[.agg #[.string ⟨#[97]⟩, .int .i64 9, .int .i64 9, .int .i64 1, .int .i64 0, .int .i64 1, .int .i64 1, .int .i64 1, .int .i64 1, .int .i64 1, .int .i64 0], .int .i64 1] W fun e w' => e = .returned (.tuple #[.agg A, .int .i64 0]) ∧ Below W.heap.size W w' := by
  subst eA
  exact recover_Begin.calls 40 ⟨#[97]⟩ 9 9 1 0 1 1 1 1 1 0 1 ⟨#[97]⟩ 9 9 1 0 1 1 1 1 1 0 1 0 2 false 0 0 W (by kernel_rfl)
theorem aw_begin2 (W : World) (A : Array Value) (eA : A = #[.string ⟨#[]⟩, .int .i64 0, .int .i64 0, .int .i64 0, .int .i64 0, .int .i64 0, .int .i64 0, .int .i64 0, .int .i64 0, .int .i64 0, .int .i64 0, .int .i64 0, .int .i64 0, .int .i64 0, .bool false, .int .i64 0]) : Calls Try.prog 9 #[.agg #[.string ⟨#[97]⟩, .int .i64 9, .int .i64 9, .int .i64 1, .int .i64 0, .int .i64 1, .int .i64 1, .int .i64 1, .int .i64 1, .int .i64 1, .int .i64 0], .int .i64 2] W fun e w' => e = .returned (.tuple #[.agg A, .int .i64 1]) ∧ Below W.heap.size W w' := by
  subst eA
  exact recover_Begin.calls 40 ⟨#[97]⟩ 9 9 1 0 1 1 1 1 1 0 2 ⟨#[]⟩ 0 0 0 0 0 0 0 0 0 0 0 0 0 false 0 1 W (by kernel_rfl)
theorem aw_rest (W : World) (A : Array Value) (eA : A = #[.string ⟨#[97]⟩, .int .i64 9, .int .i64 9, .int .i64 1, .int .i64 0, .int .i64 1, .int .i64 1, .int .i64 1, .int .i64 1, .int .i64 1, .int .i64 0, .int .i64 1, .int .i64 0, .int .i64 2, .bool false, .int .i64 0]) : Calls Try.prog 11 #[.agg A] W fun e w' => e = .returned (.int .i64 2) ∧ Below W.heap.size W w' := by
  subst eA
  exact recover_Rest.calls 40 ⟨#[97]⟩ 9 9 1 0 1 1 1 1 1 0 1 0 2 false 0 2 W (by kernel_rfl)
theorem aw_step0 (W : World) (A A' : Array Value) (eA : A = #[.string ⟨#[97]⟩, .int .i64 9, .int .i64 9, .int .i64 1, .int .i64 0, .int .i64 1, .int .i64 1, .int .i64 1, .int .i64 1, .int .i64 1, .int .i64 0, .int .i64 1, .int .i64 0, .int .i64 2, .bool false, .int .i64 0]) (eB : A' = #[.string ⟨#[97]⟩, .int .i64 9, .int .i64 9, .int .i64 1, .int .i64 0, .int .i64 1, .int .i64 1, .int .i64 1, .int .i64 1, .int .i64 1, .int .i64 0, .int .i64 1, .int .i64 0, .int .i64 1, .bool true, .int .i64 0]) : Calls Try.prog 10 #[.agg A, .bool true] W fun e w' => e = .returned (.tuple #[.agg A', .int .i64 0]) ∧ Below W.heap.size W w' := by
  subst eA eB
  exact recover_Step.calls 40 ⟨#[97]⟩ 9 9 1 0 1 1 1 1 1 0 1 0 2 false 0 true ⟨#[97]⟩ 9 9 1 0 1 1 1 1 1 0 1 0 1 true 0 0 W (by kernel_rfl)
theorem aw_step1 (W : World) (A A' : Array Value) (eA : A = #[.string ⟨#[97]⟩, .int .i64 9, .int .i64 9, .int .i64 1, .int .i64 0, .int .i64 1, .int .i64 1, .int .i64 1, .int .i64 1, .int .i64 1, .int .i64 0, .int .i64 1, .int .i64 0, .int .i64 1, .bool true, .int .i64 0]) (eB : A' = #[.string ⟨#[97]⟩, .int .i64 9, .int .i64 9, .int .i64 1, .int .i64 0, .int .i64 1, .int .i64 1, .int .i64 1, .int .i64 1, .int .i64 1, .int .i64 0, .int .i64 1, .int .i64 0, .int .i64 2, .bool false, .int .i64 1]) : Calls Try.prog 10 #[.agg A, .bool false] W fun e w' => e = .returned (.tuple #[.agg A', .int .i64 2]) ∧ Below W.heap.size W w' := by
  subst eA eB
  exact recover_Step.calls 40 ⟨#[97]⟩ 9 9 1 0 1 1 1 1 1 0 1 0 1 true 0 false ⟨#[97]⟩ 9 9 1 0 1 1 1 1 1 0 1 0 2 false 1 2 W (by kernel_rfl)
theorem aw_step2 (W : World) (A A' : Array Value) (eA : A = #[.string ⟨#[97]⟩, .int .i64 9, .int .i64 9, .int .i64 1, .int .i64 0, .int .i64 1, .int .i64 1, .int .i64 1, .int .i64 1, .int .i64 1, .int .i64 0, .int .i64 1, .int .i64 0, .int .i64 2, .bool false, .int .i64 1]) (eB : A' = #[.string ⟨#[97]⟩, .int .i64 9, .int .i64 9, .int .i64 1, .int .i64 0, .int .i64 1, .int .i64 1, .int .i64 1, .int .i64 1, .int .i64 1, .int .i64 0, .int .i64 1, .int .i64 0, .int .i64 1, .bool false, .int .i64 1]) : Calls Try.prog 10 #[.agg A, .bool false] W fun e w' => e = .returned (.tuple #[.agg A', .int .i64 0]) ∧ Below W.heap.size W w' := by
  subst eA eB
  exact recover_Step.calls 40 ⟨#[97]⟩ 9 9 1 0 1 1 1 1 1 0 1 0 2 false 1 false ⟨#[97]⟩ 9 9 1 0 1 1 1 1 1 0 1 0 1 false 1 0 W (by kernel_rfl)
theorem aw_step3 (W : World) (A A' : Array Value) (eA : A = #[.string ⟨#[97]⟩, .int .i64 9, .int .i64 9, .int .i64 1, .int .i64 0, .int .i64 1, .int .i64 1, .int .i64 1, .int .i64 1, .int .i64 1, .int .i64 0, .int .i64 1, .int .i64 0, .int .i64 1, .bool false, .int .i64 1]) (eB : A' = #[.string ⟨#[97]⟩, .int .i64 9, .int .i64 9, .int .i64 1, .int .i64 0, .int .i64 1, .int .i64 1, .int .i64 1, .int .i64 1, .int .i64 1, .int .i64 0, .int .i64 1, .int .i64 0, .int .i64 0, .bool false, .int .i64 1]) : Calls Try.prog 10 #[.agg A, .bool false] W fun e w' => e = .returned (.tuple #[.agg A', .int .i64 4]) ∧ Below W.heap.size W w' := by
  subst eA eB
  exact recover_Step.calls 40 ⟨#[97]⟩ 9 9 1 0 1 1 1 1 1 0 1 0 1 false 1 false ⟨#[97]⟩ 9 9 1 0 1 1 1 1 1 0 1 0 0 false 1 4 W (by kernel_rfl)
theorem aw_urgent (W : World) (A : Array Value) (eA : A = #[.string ⟨#[97]⟩, .int .i64 9, .int .i64 9, .int .i64 1, .int .i64 0, .int .i64 1, .int .i64 1, .int .i64 1, .int .i64 1, .int .i64 1, .int .i64 0, .int .i64 1, .int .i64 0, .int .i64 0, .bool false, .int .i64 1]) : Calls Try.prog 15 #[.agg A] W fun e w' => e = .returned (.bool false) ∧ Below W.heap.size W w' := by
  subst eA
  exact (recover_Urgent.calls ⟨#[97]⟩ 9 9 1 0 1 1 1 1 1 0 1 0 0 false 1 false W (by kernel_rfl))
set_option maxRecDepth 100000 in
set_option maxHeartbeats 4000000 in
theorem awake_walk (w : World) : Calls Try.prog 7 #[] w fun e w' => e = .returned (.bool true) ∧ Below w.heap.size w w' := by
  obtain ⟨Z, eZ⟩ : ∃ A : Array Value, A = #[.string ⟨#[]⟩, .int .i64 0, .int .i64 0, .int .i64 0, .int .i64 0, .int .i64 0, .int .i64 0, .int .i64 0, .int .i64 0, .int .i64 0, .int .i64 0, .int .i64 0, .int .i64 0, .int .i64 0, .bool false, .int .i64 0] := ⟨_, rfl⟩
  have zZ : Hid (Z.size = 16) := Lib.hid (by rw [eZ]; rfl)
  have oZ : Hid (Z.all (·.oneCell') = true) := Lib.hid (by rw [eZ]; simp [Value.oneCell'])
  replace eZ := Lib.hid eZ
  obtain ⟨A_1, eA_1⟩ : ∃ A : Array Value, A = #[.string ⟨#[97]⟩, .int .i64 9, .int .i64 9, .int .i64 1, .int .i64 0, .int .i64 1, .int .i64 1, .int .i64 1, .int .i64 1, .int .i64 1, .int .i64 0, .int .i64 1, .int .i64 0, .int .i64 2, .bool false, .int .i64 0] := ⟨_, rfl⟩
  have zA_1 : Hid (A_1.size = 16) := Lib.hid (by rw [eA_1]; rfl)
  have oA_1 : Hid (A_1.all (·.oneCell') = true) := Lib.hid (by rw [eA_1]; simp [Value.oneCell'])
  replace eA_1 := Lib.hid eA_1
  obtain ⟨A_2, eA_2⟩ : ∃ A : Array Value, A = #[.string ⟨#[97]⟩, .int .i64 9, .int .i64 9, .int .i64 1, .int .i64 0, .int .i64 1, .int .i64 1, .int .i64 1, .int .i64 1, .int .i64 1, .int .i64 0, .int .i64 1, .int .i64 0, .int .i64 1, .bool true, .int .i64 0] := ⟨_, rfl⟩
  have zA_2 : Hid (A_2.size = 16) := Lib.hid (by rw [eA_2]; rfl)
  have oA_2 : Hid (A_2.all (·.oneCell') = true) := Lib.hid (by rw [eA_2]; simp [Value.oneCell'])
  replace eA_2 := Lib.hid eA_2
  obtain ⟨A_3, eA_3⟩ : ∃ A : Array Value, A = #[.string ⟨#[97]⟩, .int .i64 9, .int .i64 9, .int .i64 1, .int .i64 0, .int .i64 1, .int .i64 1, .int .i64 1, .int .i64 1, .int .i64 1, .int .i64 0, .int .i64 1, .int .i64 0, .int .i64 2, .bool false, .int .i64 1] := ⟨_, rfl⟩
  have zA_3 : Hid (A_3.size = 16) := Lib.hid (by rw [eA_3]; rfl)
  have oA_3 : Hid (A_3.all (·.oneCell') = true) := Lib.hid (by rw [eA_3]; simp [Value.oneCell'])
  replace eA_3 := Lib.hid eA_3
  obtain ⟨A_4, eA_4⟩ : ∃ A : Array Value, A = #[.string ⟨#[97]⟩, .int .i64 9, .int .i64 9, .int .i64 1, .int .i64 0, .int .i64 1, .int .i64 1, .int .i64 1, .int .i64 1, .int .i64 1, .int .i64 0, .int .i64 1, .int .i64 0, .int .i64 1, .bool false, .int .i64 1] := ⟨_, rfl⟩
  have zA_4 : Hid (A_4.size = 16) := Lib.hid (by rw [eA_4]; rfl)
  have oA_4 : Hid (A_4.all (·.oneCell') = true) := Lib.hid (by rw [eA_4]; simp [Value.oneCell'])
  replace eA_4 := Lib.hid eA_4
  obtain ⟨A_5, eA_5⟩ : ∃ A : Array Value, A = #[.string ⟨#[97]⟩, .int .i64 9, .int .i64 9, .int .i64 1, .int .i64 0, .int .i64 1, .int .i64 1, .int .i64 1, .int .i64 1, .int .i64 1, .int .i64 0, .int .i64 1, .int .i64 0, .int .i64 0, .bool false, .int .i64 1] := ⟨_, rfl⟩
  have zA_5 : Hid (A_5.size = 16) := Lib.hid (by rw [eA_5]; rfl)
  have oA_5 : Hid (A_5.all (·.oneCell') = true) := Lib.hid (by rw [eA_5]; simp [Value.oneCell'])
  replace eA_5 := Lib.hid eA_5
  have HE : Hid (Below w.heap.size w w) := Lib.hid (Below.refl _ _)
  have hz : ∀ V : World, (zeroValue 28).run Try.prog V = .ok (.agg Z) V := fun V => by rw [eZ.out]; kernel_rfl
  have hz2 : ∀ V : World, (zeroValue 23).run Try.prog V = .ok (.agg #[.string ⟨#[]⟩, .int .i64 0, .int .i64 0, .int .i64 0, .int .i64 0, .int .i64 0, .int .i64 0, .int .i64 0, .int .i64 0, .int .i64 0, .int .i64 0]) V := fun V => by kernel_rfl
  go_enter Try.func7, Try.ntmps7
  go_wp2_with fail
  refine (aw_begin _ _ eA_1.out).mono ?_; rintro e V_6 ⟨rfl, hb_7⟩
  have HE_8 : Hid (Below w.heap.size w V_6) := Lib.hid (HE.out.trans (hb_7.mono HE.out.size))
  clear HE
  clear hb_7
  obtain ⟨X_9, hX_11⟩ : ∃ X, V_6.heap.size = X := ⟨_, rfl⟩
  obtain ⟨V_10, q_12_0, q_12_1, q_12_2, q_12_3⟩ := st_new (w := V_6) (T := 28) hX_11 zZ.out zA_1.out oA_1.out
  have ge_13 : w.heap.size ≤ X_9 := hX_11 ▸ HE_8.out.size
  have HE_14 : Hid (Below w.heap.size w V_10) := Lib.hid (q_12_3 _ _ ge_13 HE_8.out)
  have H_15 := Lib.hid q_12_1
  clear q_12_1 q_12_2 q_12_3
  go_upto_region 2 with (fail)
  clear q_12_0 hX_11
  clear HE_8
  have c_16 : V_10.cell? ⟨X_9, 13, none⟩ = some (.int .i64 2) := by rw [blk_cell H_15.out, eA_1.out]; rfl
  go_wp2_with (first | (refine wpl_ld _ _ rfl (by rfl) X_9 rfl H_15.out Try.underlying28 rfl (by kernel_rfl) zA_1.out ?_))
  refine (aw_rest _ _ eA_1.out).mono ?_; rintro e V_17 ⟨rfl, hb_18⟩
  have H_19 : Hid (V_17.heap[X_9]? = some (.cells A_1 28 (0, 0))) := Lib.hid ((hb_18.block X_9 (blk_lt H_15.out)).trans H_15.out)
  have HE_20 : Hid (Below w.heap.size w V_17) := Lib.hid (HE_14.out.trans (hb_18.mono HE_14.out.size))
  clear c_16
  clear HE_14 H_15
  clear hb_18
  go_upto_region 5 with (fail)
  go_wp2_with (first | (refine wpl_ld _ _ rfl (by rfl) X_9 rfl H_19.out Try.underlying28 rfl (by kernel_rfl) zA_1.out ?_))
  refine (aw_step0 _ _ _ eA_1.out eA_2.out).mono ?_; rintro e V_21 ⟨rfl, hb_22⟩
  have H_23 : Hid (V_21.heap[X_9]? = some (.cells A_1 28 (0, 0))) := Lib.hid ((hb_22.block X_9 (blk_lt H_19.out)).trans H_19.out)
  have HE_24 : Hid (Below w.heap.size w V_21) := Lib.hid (HE_20.out.trans (hb_22.mono HE_20.out.size))
  clear HE_20 H_19
  clear hb_22
  obtain ⟨V_25, q_26_0, q_26_1, q_26_2, q_26_3⟩ := st_any H_23.out zA_1.out zA_2.out oA_2.out
  have HE_27 : Hid (Below w.heap.size w V_25) := Lib.hid (q_26_3 _ _ ge_13 HE_24.out)
  have H_28 := Lib.hid q_26_1
  clear q_26_1 q_26_2 q_26_3
  go_upto_region 6 with (fail)
  clear q_26_0
  clear HE_24 H_23
  go_wp2_with (first | (refine wpl_ld _ _ rfl (by rfl) X_9 rfl H_28.out Try.underlying28 rfl (by kernel_rfl) zA_2.out ?_))
  refine (aw_step1 _ _ _ eA_2.out eA_3.out).mono ?_; rintro e V_29 ⟨rfl, hb_30⟩
  have H_31 : Hid (V_29.heap[X_9]? = some (.cells A_2 28 (0, 0))) := Lib.hid ((hb_30.block X_9 (blk_lt H_28.out)).trans H_28.out)
  have HE_32 : Hid (Below w.heap.size w V_29) := Lib.hid (HE_27.out.trans (hb_30.mono HE_27.out.size))
  clear HE_27 H_28
  clear hb_30
  obtain ⟨V_33, q_34_0, q_34_1, q_34_2, q_34_3⟩ := st_any H_31.out zA_2.out zA_3.out oA_3.out
  have HE_35 : Hid (Below w.heap.size w V_33) := Lib.hid (q_34_3 _ _ ge_13 HE_32.out)
  have H_36 := Lib.hid q_34_1
  clear q_34_1 q_34_2 q_34_3
  go_upto_region 7 with (fail)
  clear q_34_0
  clear HE_32 H_31
  go_wp2_with (first | (refine wpl_ld _ _ rfl (by rfl) X_9 rfl H_36.out Try.underlying28 rfl (by kernel_rfl) zA_3.out ?_))
  refine (aw_step2 _ _ _ eA_3.out eA_4.out).mono ?_; rintro e V_37 ⟨rfl, hb_38⟩
  have H_39 : Hid (V_37.heap[X_9]? = some (.cells A_3 28 (0, 0))) := Lib.hid ((hb_38.block X_9 (blk_lt H_36.out)).trans H_36.out)
  have HE_40 : Hid (Below w.heap.size w V_37) := Lib.hid (HE_35.out.trans (hb_38.mono HE_35.out.size))
  clear HE_35 H_36
  clear hb_38
  obtain ⟨V_41, q_42_0, q_42_1, q_42_2, q_42_3⟩ := st_any H_39.out zA_3.out zA_4.out oA_4.out
  have HE_43 : Hid (Below w.heap.size w V_41) := Lib.hid (q_42_3 _ _ ge_13 HE_40.out)
  have H_44 := Lib.hid q_42_1
  clear q_42_1 q_42_2 q_42_3
  go_upto_region 8 with (fail)
  clear q_42_0
  clear HE_40 H_39
  go_wp2_with (first | (refine wpl_ld _ _ rfl (by rfl) X_9 rfl H_44.out Try.underlying28 rfl (by kernel_rfl) zA_4.out ?_))
  refine (aw_step3 _ _ _ eA_4.out eA_5.out).mono ?_; rintro e V_45 ⟨rfl, hb_46⟩
  have H_47 : Hid (V_45.heap[X_9]? = some (.cells A_4 28 (0, 0))) := Lib.hid ((hb_46.block X_9 (blk_lt H_44.out)).trans H_44.out)
  have HE_48 : Hid (Below w.heap.size w V_45) := Lib.hid (HE_43.out.trans (hb_46.mono HE_43.out.size))
  clear HE_43 H_44
  clear hb_46
  obtain ⟨V_49, q_50_0, q_50_1, q_50_2, q_50_3⟩ := st_any H_47.out zA_4.out zA_5.out oA_5.out
  have HE_51 : Hid (Below w.heap.size w V_49) := Lib.hid (q_50_3 _ _ ge_13 HE_48.out)
  have H_52 := Lib.hid q_50_1
  clear q_50_1 q_50_2 q_50_3
  go_upto_region 9 with (fail)
  clear q_50_0
  clear HE_48 H_47
  go_wp2_with fail
  refine (aw_begin2 _ _ eZ.out).mono ?_; rintro e V_53 ⟨rfl, hb_54⟩
  have H_55 : Hid (V_53.heap[X_9]? = some (.cells A_5 28 (0, 0))) := Lib.hid ((hb_54.block X_9 (blk_lt H_52.out)).trans H_52.out)
  have HE_56 : Hid (Below w.heap.size w V_53) := Lib.hid (HE_51.out.trans (hb_54.mono HE_51.out.size))
  clear HE_51 H_52
  clear hb_54
  obtain ⟨X_57, hX_59⟩ : ∃ X, V_53.heap.size = X := ⟨_, rfl⟩
  obtain ⟨V_58, q_60_0, q_60_1, q_60_2, q_60_3⟩ := st_new (w := V_53) (T := 28) hX_59 zZ.out zZ.out oZ.out
  have ne_62 : X_9 < X_57 := hX_59 ▸ blk_lt H_55.out
  have H_61 : Hid (V_58.heap[X_9]? = some (.cells A_5 28 (0, 0))) := Lib.hid ((q_60_2 _ ne_62).trans H_55.out)
  have ge_63 : w.heap.size ≤ X_57 := hX_59 ▸ HE_56.out.size
  have HE_64 : Hid (Below w.heap.size w V_58) := Lib.hid (q_60_3 _ _ ge_63 HE_56.out)
  have H_65 := Lib.hid q_60_1
  clear q_60_1 q_60_2 q_60_3
  go_upto_region 10 with (fail)
  clear q_60_0 hX_59
  clear HE_56 H_55
  have c_66 : V_58.cell? ⟨X_9, 15, none⟩ = some (.int .i64 1) := by rw [blk_cell H_61.out, eA_5.out]; rfl
  go_wp2_with (first | (refine wpl_ld _ _ rfl (by rfl) X_9 rfl H_61.out Try.underlying28 rfl (by kernel_rfl) zA_5.out ?_))
  refine (aw_urgent _ _ eA_5.out).mono ?_; rintro e V_67 ⟨rfl, hb_68⟩
  have H_69 : Hid (V_67.heap[X_9]? = some (.cells A_5 28 (0, 0))) := Lib.hid ((hb_68.block X_9 (blk_lt H_61.out)).trans H_61.out)
  have H_70 : Hid (V_67.heap[X_57]? = some (.cells Z 28 (0, 0))) := Lib.hid ((hb_68.block X_57 (blk_lt H_65.out)).trans H_65.out)
  have HE_71 : Hid (Below w.heap.size w V_67) := Lib.hid (HE_64.out.trans (hb_68.mono HE_64.out.size))
  clear c_66
  clear HE_64 H_61 H_65
  clear hb_68
  go_wp2
  go_ret
  exact ⟨rfl, HE_71.out⟩
theorem pendulumlaw15_awake.calls (k : Nat) (r : Bool) (w : World) (h : pendulumlaw15_awake.f k = some r) : Calls Try.prog 7 #[] w fun e w' => e = .returned (.bool r) ∧ Below w.heap.size w w' := by
  rw [awake_only h]
  exact awake_walk w
end Go.Proofs.Ytkedmmimcmignaa.PC
