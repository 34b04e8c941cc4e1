/- Of the laws of seat 14: what the printed function DemandParts computes is true. -/
import Derived.Test.YtdoieebfefomcaaLawsH
import Derived.Test.YtdoieebfefomcaaSetArgs
import Derived.Test.YtdoieebfefomcaaPCx6
namespace Go.Proofs.Ytdoieebfefomcaa.PS
open Go.RowKit Go.Proofs.Ytdoieebfefomcaa.PC Go.Proofs.YtdoieebfefomcaaW.PrintWords Go.Proofs.YtdoieebfefomcaaW.PrintLast
set_option linter.unusedVariables false
theorem same_l0 (l : List Int) (hl : l.length ≤ 1000000000) : ∀ (r : List Int) (i : Nat), l.drop i = r → Ev (fun k => pendulumlaw14_DemandParts.l0 k l l (i : Int)) true := by
  intro r
  induction r with
  | nil =>
    intro i h
    have := drop_nil h
    refine Ev.step (f := fun _ => some _) (fun k => ?_) (Ev.now _)
    simp only [pendulumlaw14_DemandParts.l0]
    rw [if_neg (by omega)]
  | cons x r ih =>
    intro i h
    obtain ⟨hi, hx, hd⟩ := drop_cons h
    refine Ev.step (fun k => ?_) (ih (i + 1) hd)
    simp only [pendulumlaw14_DemandParts.l0]
    rw [if_pos (by omega), if_pos (by omega), if_pos (by omega), w1 (n := i) (by omega)]
    first | rfl | rw [if_pos rfl]
theorem DemandParts (t : S23) (d : Int) : Ev (fun k => pendulumlaw14_DemandParts.f k t.f0 t.f1 t.f2 t.f3 t.f4 t.f5 t.f6 t.f7 t.f8 t.f9 t.f10 d) true := by
  unfold pendulumlaw14_DemandParts.f
  refine head (t := t) (J := fun k b => pendulumlaw14_DemandParts.j0 k d b t.f0 t.f1 t.f2 t.f3 t.f4 t.f5 t.f6 t.f7 t.f8 t.f9 t.f10) ?_ ?_
  · refine Ev.step (f := fun k => (pendulumlaw14_awake.f k).bind fun x => some x) (fun k => ?_) (Ev.bind awake_ev (Ev.now _))
    simp only [pendulumlaw14_DemandParts.j0]; rfl
  · intro ok h3
    have hn := ok.nums
    have hx := extra_eq ok
    have hrx : pendulumref14_Extra.f t.f0 t.f1 t.f2 t.f3 t.f4 t.f5 t.f6 t.f7 t.f8 t.f9 t.f10 = some (ex t) := extra_eq ok
    have hne : (ex t != ex t) = false := by simp
    have hend : ∀ b : Bool, b = true → Ev (fun k => pendulumlaw14_DemandParts.j2 k d [] b t.f0 t.f1 t.f2 t.f3 t.f4 t.f5 t.f6 t.f7 t.f8 t.f9 t.f10) true := by
      intro b hb
      subst hb
      refine Ev.step (f := fun _ => some _) (fun k => ?_) (Ev.now _)
      simp only [pendulumlaw14_DemandParts.j2]; rfl
    have hov : ¬ ((decide (d > t.f3) != decide (d > t.f3)) = true) := by simp
    by_cases c1 : d < 1
    · refine Ev.step (f := fun k => (demand_Parts.f k t.f0 t.f1 t.f2 t.f3 t.f4 t.f5 t.f6 t.f7 t.f8 t.f9 t.f10 d).bind fun l => pendulumlaw14_DemandParts.j1 k d l false t.f0 t.f1 t.f2 t.f3 t.f4 t.f5 t.f6 t.f7 t.f8 t.f9 t.f10) (fun k => ?_) (Ev.bind (parts_no d (.inl c1)) ?_)
      · have e : mn (mx d 1) t.f3 = 1 := by unfold mn mx; (repeat' split) <;> omega
        simp only [pendulumlaw14_DemandParts.j0, cut_eq, Option.bind_some, e, hx, hrx, hne, if_neg hov, if_neg (show ¬ d ≥ 1 by omega), if_neg (show ¬ d > t.f3 by omega), if_pos c1, if_true]
        rw [if_neg (by simp)]
      · refine Ev.step (fun k => ?_) (hend true rfl)
        simp only [pendulumlaw14_DemandParts.j1, if_pos c1]; rfl
    · by_cases c2 : d > t.f3
      · refine Ev.step (f := fun k => (demand_Parts.f k t.f0 t.f1 t.f2 t.f3 t.f4 t.f5 t.f6 t.f7 t.f8 t.f9 t.f10 d).bind fun l => pendulumlaw14_DemandParts.j1 k d l false t.f0 t.f1 t.f2 t.f3 t.f4 t.f5 t.f6 t.f7 t.f8 t.f9 t.f10) (fun k => ?_) (Ev.bind (parts_no d (.inr c2)) ?_)
        · have e : mn (mx d 1) t.f3 = t.f3 := by unfold mn mx; (repeat' split) <;> omega
          simp only [pendulumlaw14_DemandParts.j0, cut_eq, Option.bind_some, e, hx, hrx, hne, if_neg hov, if_pos (show d ≥ 1 by omega), if_neg (show ¬ d ≤ t.f3 by omega), if_pos c2, if_neg c1, if_true]
          rw [if_neg (by simp)]
        · refine Ev.step (fun k => ?_) (hend (decide (d > t.f3)) (decide_eq_true c2))
          simp only [pendulumlaw14_DemandParts.j1, if_neg c1]; rfl
      · refine Ev.step (f := fun k => (demand_Parts.f k t.f0 t.f1 t.f2 t.f3 t.f4 t.f5 t.f6 t.f7 t.f8 t.f9 t.f10 d).bind fun l => pendulumlaw14_DemandParts.j1 k d l false t.f0 t.f1 t.f2 t.f3 t.f4 t.f5 t.f6 t.f7 t.f8 t.f9 t.f10) (fun k => ?_) (Ev.bind (parts_ev ok d (by omega) (by omega)) ?_)
        · have e : mn (mx d 1) t.f3 = d := by unfold mn mx; (repeat' split) <;> omega
          simp only [pendulumlaw14_DemandParts.j0, cut_eq, Option.bind_some, e, hx, hrx, hne, if_neg hov, if_pos (show d ≥ 1 by omega), if_pos (show d ≤ t.f3 by omega), if_neg c2, if_neg c1, if_true]
          rw [if_neg (by simp)]
        · refine Ev.step (f := fun k => pendulumlaw14_DemandParts.j2 k d (pt t d) (decide (d > t.f3)) t.f0 t.f1 t.f2 t.f3 t.f4 t.f5 t.f6 t.f7 t.f8 t.f9 t.f10) (fun k => ?_) ?_
          · simp only [pendulumlaw14_DemandParts.j1, if_neg c1]; rfl
          · rw [decide_eq_false c2]
            refine Ev.step (f := fun k => (pendulumref14_Parts.f k t.f0 t.f1 t.f2 t.f3 t.f4 t.f5 t.f6 t.f7 t.f8 t.f9 t.f10 d).bind fun u => if ((pt t d).length : Int) = (u.length : Int) then pendulumlaw14_DemandParts.l0 k (pt t d) u 0 else some false) (fun k => ?_) (Ev.bind (refparts_ev ok d (by omega) (by omega)) ?_)
            · simp only [pendulumlaw14_DemandParts.j2]; rfl
            · simp only [if_true]
              exact same_l0 (pt t d) (by have := pt_len ok d (by omega) (by omega); omega) (pt t d) 0 rfl
theorem dparts_walk (w : World) (x : S23) (d : Int) (_ : (Lit.int .i64 d).wf = true) : Calls Try.prog 3 #[.agg #[.string x.f0, .int .i64 x.f1, .int .i64 x.f2, .int .i64 x.f3, .int .i64 x.f4, .int .i64 x.f5, .int .i64 x.f6, .int .i64 x.f7, .int .i64 x.f8, .int .i64 x.f9, .int .i64 x.f10], .int .i64 d] w fun e w' => e = .returned (.bool true) ∧ Below w.heap.size w w' := by
  obtain ⟨k, h⟩ := Ev.rounds (DemandParts x d)
  exact pendulumlaw14_DemandParts.calls k _ _ _ _ _ _ _ _ _ _ _ _ true rfl w h
end Go.Proofs.Ytdoieebfefomcaa.PS
