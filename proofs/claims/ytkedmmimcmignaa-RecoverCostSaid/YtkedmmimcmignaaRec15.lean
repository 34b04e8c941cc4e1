/- The laws of seat 15: what they have in common. -/
import Derived.Test.YtkedmmimcmignaaRec
import Derived.Test.YtkedmmimcmignaaPCw
import Derived.Test.YtkedmmimcmignaaPCx6
import Derived.Test.YtkedmmimcmignaaPCx1
namespace Go.Proofs.Ytkedmmimcmignaa.PS
open Go.RowKit Go.Proofs.Ytkedmmimcmignaa.PC Go.Proofs.YtkedmmimcmignaaW.PrintWords Go.Proofs.YtkedmmimcmignaaW.PrintLast
set_option linter.unusedVariables false
theorem awake_ev : Ev (fun k => pendulumlaw15_awake.f k) true := Ev.of (k := 40) pendulumlaw15_awake.mono (by kernel_rfl)
theorem right14_tot (t : S23) : Tot (fun k => pendulumref14_Right.f k t.f0 t.f1 t.f2 t.f3 t.f4 t.f5 t.f6 t.f7 t.f8 t.f9 t.f10) (fun b => b = true → OkT t) := by
  unfold pendulumref14_Right.f
  exact Tot.bind (right_tot 1 [t]) (fun v hv => Tot.now (fun h => ((hv h).2.2.2.2 0 (by simp)).1))
/-- A right task of few ticks, and a demand. -/
def Okd (t : S23) (d : Int) : Prop := OkT t ∧ t.f3 ≤ 500 ∧ t.f4 ≤ 500 ∧ t.f6 ≤ 500 ∧ 1 ≤ d ∧ d ≤ t.f3
theorem small_tot (t : S23) (d : Int) : Tot (fun k => pendulumref15_Small.f k t.f0 t.f1 t.f2 t.f3 t.f4 t.f5 t.f6 t.f7 t.f8 t.f9 t.f10 d) (fun b => b = true → Okd t d) := by
  unfold pendulumref15_Small.f
  refine Tot.ite (fun _ => ?_) (fun _ => Tot.now (fun h => by cases h))
  refine Tot.bind (right14_tot t) (fun b hb => ?_)
  refine Tot.ite (fun e => ?_) (fun _ => Tot.now (fun h => by cases h))
  refine Tot.ite (fun c1 => ?_) (fun _ => Tot.now (fun h => by cases h))
  refine Tot.ite (fun c2 => ?_) (fun _ => Tot.now (fun h => by cases h))
  refine Tot.ite (fun c3 => ?_) (fun _ => Tot.now (fun h => by cases h))
  refine Tot.ite (fun c4 => ?_) (fun _ => Tot.now (fun h => by cases h))
  exact Tot.now (fun h => ⟨hb e, c1, c2, c3, c4, of_decide_eq_true h⟩)
theorem head15 {t : S23} {d : Int} {J : Nat → Bool → Option Bool} (hT : Ev (fun k => J k true) true) (hF : Okd t d → Ev (fun k => J k false) true) :
    Ev (fun k => (pendulumlaw15_awake.f k).bind fun x => (if x = true then ((pendulumref15_Small.f k t.f0 t.f1 t.f2 t.f3 t.f4 t.f5 t.f6 t.f7 t.f8 t.f9 t.f10 d).bind fun y => (J k (!y))) else J k true)) true := by
  refine Ev.bind awake_ev ?_
  simp only [if_true]
  obtain ⟨b, hb, hp⟩ := small_tot t d
  refine Ev.bind hb ?_
  cases b with
  | true => exact hF (hp rfl)
  | false => exact hT
theorem head15l {t : S23} {d : Int} {l : List Bool} {J : Nat → Bool → Option Bool} (hT : Ev (fun k => J k true) true) (hF : Okd t d → l.length ≤ 300 → Ev (fun k => J k false) true) :
    Ev (fun k => (pendulumlaw15_awake.f k).bind fun x => (if x = true then (if (l.length : Int) > 300 then J k true else ((pendulumref15_Small.f k t.f0 t.f1 t.f2 t.f3 t.f4 t.f5 t.f6 t.f7 t.f8 t.f9 t.f10 d).bind fun y => (J k (!y)))) else J k true)) true := by
  refine Ev.bind awake_ev ?_
  simp only [if_true]
  by_cases c : (l.length : Int) > 300
  · simp only [if_pos c]; exact hT
  · simp only [if_neg c]
    obtain ⟨b, hb, hp⟩ := small_tot t d
    refine Ev.bind hb ?_
    cases b with
    | true => exact hF (hp rfl) (by omega)
    | false => exact hT
theorem awake_then : Ev (fun k => (pendulumlaw15_awake.f k).bind fun x => some x) true := Ev.bind awake_ev (Ev.now _)
/-- How a run begins. -/
def ini (t : S23) (d : Int) : St := ⟨0, rd (pt t d) (0 : Nat), false, 0⟩
section
variable {t : S23} {d : Int} (od : Okd t d)
include od in
theorem sx_bd : su (pt t d) + ex t ≤ 252000 ∧ ex t ≤ 1000 := by
  obtain ⟨ok, a, b, c, h1, h2⟩ := od
  have hn := ok.nums
  have h3 := (pt_mono ok h1 h2).1
  rw [pt_whole ok] at h3
  unfold wh ex at *
  by_cases k : t.f9 = 1
  · have hs := ok.seg k
    rw [if_pos k] at h3
    rw [if_pos k]
    have g1 := cl_nonneg (a := t.f3) (b := t.f5) (by omega) hs.1
    have g2 := cl_le (a := t.f3) (b := t.f5) (by omega) hs.1
    have g4 : cl t.f3 t.f5 * t.f6 ≤ 500 * 500 := Int.mul_le_mul (by omega) (by omega) (by omega) (by omega)
    omega
  · have := ok.alt k
    rw [if_neg k] at h3
    rw [if_neg k]; omega
include od in
theorem len_pos : 0 < (pt t d).length := (pt_mono od.1 od.2.2.2.2.1 (Int.le_refl d)).2.2.2
include od in
theorem begin_ev : Ev (fun k => recover_Begin.f k t.f0 t.f1 t.f2 t.f3 t.f4 t.f5 t.f6 t.f7 t.f8 t.f9 t.f10 d) (tup t d (ini t d) 0) := by
  have hl := len_pos od
  obtain ⟨ok, a, b, c, h1, h2⟩ := od
  unfold recover_Begin.f
  refine Ev.bind (parts_ev ok d h1 h2) ?_
  rw [if_neg (by omega), if_pos (by omega)]
  exact Ev.now _
include od in
theorem ini_inv : Inv t d (ini t d) ∧ rem t d (ini t d) = su (pt t d) := by
  have hl := len_pos od
  obtain ⟨ok, a, b, c, h1, h2⟩ := od
  have h0 := (pt_mem ok d h1 _ (rd_mem hl)).1
  have hd := su_drop hl; rw [Nat.zero_add] at hd
  have hg := su_nonneg (l := (pt t d).drop 1) (fun x hx => pt_nonneg ok h1 x (List.mem_of_mem_drop hx))
  have he := ex_bd ok
  simp only [List.drop_zero] at hd
  refine ⟨⟨fun _ => ⟨hl, by simp [ini]⟩, fun _ => ⟨by simp [ini], by simp only [ini]; omega⟩, by simp only [ini]; omega⟩, ?_⟩
  unfold rem ini
  by_cases k : t.f9 = 1
  · rw [if_pos k]; simp only [Nat.zero_add]; omega
  · rw [if_neg k]
    have : pt t d = [d + t.f6] := by unfold pt; rw [if_neg k]
    rw [this]; simp [rd, su]
end
end Go.Proofs.Ytkedmmimcmignaa.PS
