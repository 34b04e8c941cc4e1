/- What seat 22's laws share: Few, Right of a set in memory. -/
import Derived.Test.YtpjehbcchanmhaaLB
namespace Go.Proofs.Ytpjehbcchanmhaa.PS
open Go.RowKit Go.Proofs.Ytpjehbcchanmhaa.PC Go.Proofs.YtpjehbcchanmhaaW.PrintWords Go.Proofs.YtpjehbcchanmhaaW.PrintLast Go.Proofs.YtpjehbcchanmhaaW.PrintMore
set_option linter.unusedVariables false
set_option linter.unusedSimpArgs false
theorem few_l0 (B : Int) (l : List S28) : ∀ (n i : Nat), i ≤ 41 → 41 - i = n → Tot (fun k => pendulumref05_Few.l0 k (i : Int) B l) (fun b => b = true → l.length ≤ 30) := by
  intro n
  induction n with
  | zero =>
    intro i _ h
    have hj : Tot (fun k => pendulumref05_Few.j1 k (i : Int) false B l) (fun b => b = true → l.length ≤ 30) := by
      refine Tot.succ ?_
      simp only [pendulumref05_Few.j1]
      exact Tot.now (fun h => by have := of_decide_eq_true h; omega)
    refine Tot.succ ?_
    simp only [pendulumref05_Few.l0, show decide ((i : Int) < 40) = false by simp; omega]
    exact Tot.ite (fun _ => hj) (fun _ => hj)
  | succ n ih =>
    intro i hi h
    have hj : Tot (fun k => pendulumref05_Few.j1 k (i : Int) false B l) (fun b => b = true → l.length ≤ 30) := by
      refine Tot.succ ?_
      simp only [pendulumref05_Few.j1]
      exact Tot.now (fun h => by have := of_decide_eq_true h; omega)
    refine Tot.succ ?_
    simp only [pendulumref05_Few.l0]
    refine Tot.ite (fun c => ?_) (fun _ => hj)
    by_cases d : (i : Int) < 40
    · rw [decide_eq_true d]
      refine Tot.succ ?_
      simp only [pendulumref05_Few.j1, w1 (n := i) (by omega)]
      refine Tot.ite (fun _ => ?_) (fun e => (e trivial).elim)
      refine Tot.ite (fun _ => ?_) (fun e => by omega)
      refine Tot.ite (fun _ => ?_) (fun e => (e c).elim)
      exact Tot.ite (fun _ => Tot.now (fun h => by cases h)) (fun _ => ih (i + 1) (by omega) (by omega))
    · rw [decide_eq_false d]; exact hj
theorem few_tot (B : Int) (l : List S28) : Tot (fun k => pendulumref05_Few.f k B l) (fun b => b = true → l.length ≤ 30) := few_l0 B l 41 0 (by omega) rfl
theorem few_c {B : Int} {l : List S28} {b : Bool} (hb : Ev (fun k => pendulumref05_Few.f k B l) b) {w : World} {A : Option Addr} {cap : Nat} (hC : Kd.C k28 w A l.length l) (hc : l.length ≤ cap) {B0 : Nat} {W : World} (h0 : w.heap.size = B0) (hW : Below B0 w W) (S : Array Value) (hS : S = #[.int .i64 B, .slice A l.length cap]) :
    Calls Try.prog 9 #[.agg S] W fun e w' => e = .returned (.bool b) ∧ Below W.heap.size W w' := by
  subst hS h0
  obtain ⟨k, h⟩ := hb.rounds
  exact pendulumref05_Few.calls k _ _ _ _ b W (Kd.C_below hC hW) hc h
theorem right_c {B : Int} {l : List S28} {b : Bool} (hb : Ev (fun k => pendulumref05_Right.f k B l) b) {w : World} {A : Option Addr} {cap : Nat} (hC : Kd.C k28 w A l.length l) (hc : l.length ≤ cap) {B0 : Nat} {W : World} (h0 : w.heap.size = B0) (hW : Below B0 w W) (S : Array Value) (hS : S = #[.int .i64 B, .slice A l.length cap]) :
    Calls Try.prog 10 #[.agg S] W fun e w' => e = .returned (.bool b) ∧ Below W.heap.size W w' := by
  subst hS h0
  obtain ⟨k, h⟩ := hb.rounds
  exact pendulumref05_Right.calls k _ _ _ _ b W (Kd.C_below hC hW) hc h
theorem JP_size (a no rel dl : Int) (must over bg : Bool) : (JP a no rel dl must over bg).size = 7 := rfl
theorem JP_one (a no rel dl : Int) (must over bg : Bool) : (JP a no rel dl must over bg).all (·.oneCell') = true := by unfold JP; simp [Value.oneCell']
theorem JJ_size (a no rel dl : Int) (must over bg : Bool) (t : S28) (d : Int) (s : St) : (JP a no rel dl must over bg ++ RA t d s).size = 23 := by simp [JP, RA, TA]
theorem JJ_one (a no rel dl : Int) (must over bg : Bool) (t : S28) (d : Int) (s : St) : (JP a no rel dl must over bg ++ RA t d s).all (·.oneCell') = true := by
  rw [Array.all_append, JP_one, RA_one]; rfl
theorem JJ_at (a no rel dl : Int) (must over bg : Bool) (t : S28) (d : Int) (s : St) (i : Nat) (h : i < 7) : (JP a no rel dl must over bg ++ RA t d s)[i]? = (JP a no rel dl must over bg)[i]? := Array.getElem?_append_left (by simpa [JP] using h)
theorem JJ_run (a no rel dl : Int) (must over bg : Bool) (t : S28) (d : Int) (s : St) (i : Nat) : (JP a no rel dl must over bg ++ RA t d s)[7 + i]? = (RA t d s)[i]? := by
  rw [Array.getElem?_append_right (by simp [JP])]; simp [JP]
theorem row_c {w W : World} {ad : Addr} {l : List S28} {B0 : Nat} (hC : Kd.C k28 w (some ad) l.length l) (h0 : w.heap.size = B0) (hW : Below B0 w W) {i : Int} (hi : 0 ≤ i) (hi1 : i < (l.length : Int)) {j : Nat} {v : Value} (hv : (TA (rd_T28 l i)).toList[j]? = some v) : W.cell? ((ad.add (i.toNat * 11)).add j) = some v := by
  subst h0
  obtain ⟨ad', e, h⟩ := row_at (Kd.C_below hC hW) hi hi1
  injection e with e
  subst e
  exact h j v hv
theorem late_b (W : World) (J : Array Value) (dl x : Int) (b : Bool) (h3 : J[3]? = some (.int .i64 dl)) (hb : decide (dl ≤ x) = b) : Calls Try.prog 14 #[.agg J, .int .i64 x] W fun e w' => e = .returned (.bool b) ∧ Below W.heap.size W w' := by
  subst hb
  exact late_c W J dl x h3
theorem below_to {B0 : Nat} {w W : World} (h0 : w.heap.size = B0) (h : Below B0 w W) : Below w.heap.size w W := h0 ▸ h
end Go.Proofs.Ytpjehbcchanmhaa.PS
