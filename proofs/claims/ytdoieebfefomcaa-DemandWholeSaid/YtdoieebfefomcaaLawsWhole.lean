/- Of the laws of seat 14: what the printed functions compute is true. -/
import Derived.Test.YtdoieebfefomcaaLawsH
import Derived.Test.YtdoieebfefomcaaSetArgs
import Derived.Test.YtdoieebfefomcaaPCx8
namespace Go.Proofs.Ytdoieebfefomcaa.PS
open Go.RowKit Go.Proofs.Ytdoieebfefomcaa.PC Go.Proofs.YtdoieebfefomcaaW.PrintWords Go.Proofs.YtdoieebfefomcaaW.PrintLast
set_option linter.unusedVariables false
section
variable {t : S23} (ok : OkT t)
theorem whole_l0 (l : List Int) (hl : l.length ≤ 1000000000) (he : t.f9 = 1 → demand_Extra.f t.f0 t.f1 t.f2 t.f3 t.f4 t.f5 t.f6 t.f7 t.f8 t.f9 t.f10 = some (ex t)) (hm : ∀ x ∈ l, 1 ≤ x ∧ (t.f9 = 1 → x ≤ ex t)) : ∀ (r : List Int) (i : Nat), l.drop i = r → Ev (fun k => pendulumlaw14_DemandWhole.l0 k l (i : Int) t.f0 t.f1 t.f2 t.f3 t.f4 t.f5 t.f6 t.f7 t.f8 t.f9 t.f10) true := by
  intro r
  induction r with
  | nil =>
    intro i h
    have := drop_nil h
    refine Ev.step (f := fun _ => some _) (fun k => ?_) (Ev.now _)
    simp only [pendulumlaw14_DemandWhole.l0]
    rw [if_neg (by omega)]
  | cons x r ih =>
    intro i h
    obtain ⟨hi, hx, hd⟩ := drop_cons h
    have hm1 := hm x (List.mem_of_mem_drop (h ▸ List.mem_cons_self ..))
    refine Ev.step (fun k => ?_) (ih (i + 1) hd)
    simp only [pendulumlaw14_DemandWhole.l0]
    rw [if_pos (by omega), hx, w1 (n := i) (by omega)]
    by_cases c : t.f9 = 1
    · rw [if_pos c, if_pos (by omega), he c]
      have := hm1.2 c
      simp only [Option.bind_some]
      rw [if_neg (by omega), if_neg (by omega)]
    · rw [if_neg c, if_pos (by omega), if_neg (by omega)]
end
theorem DemandWhole (t : S23) (d : Int) : Ev (fun k => pendulumlaw14_DemandWhole.f k t.f0 t.f1 t.f2 t.f3 t.f4 t.f5 t.f6 t.f7 t.f8 t.f9 t.f10 d) true := by
  unfold pendulumlaw14_DemandWhole.f
  refine head (t := t) (J := fun k b => pendulumlaw14_DemandWhole.j0 k d b t.f0 t.f1 t.f2 t.f3 t.f4 t.f5 t.f6 t.f7 t.f8 t.f9 t.f10) ?_ ?_
  · refine Ev.step (f := fun k => (pendulumlaw14_awake.f k).bind fun x => some x) (fun k => ?_) (Ev.bind awake_ev (Ev.now _))
    simp only [pendulumlaw14_DemandWhole.j0]; rfl
  · intro ok h3
    have hn := ok.nums
    obtain ⟨n, hcut, hn1, hn2⟩ : ∃ n, mn (mx d 1) t.f3 = n ∧ 1 ≤ n ∧ n ≤ t.f3 := ⟨_, rfl, by unfold mn mx; split <;> split <;> omega, by unfold mn mx; split <;> split <;> omega⟩
    have hwb := wh_bd ok
    have hex : 1 ≤ ex t := by
      unfold ex
      by_cases c : t.f9 = 1
      · have := ok.seg c; rw [if_pos c]; omega
      · have := ok.alt c; rw [if_neg c]; omega
    have hmm := pt_mono ok hn1 hn2
    have hj1 : Ev (fun k => pendulumlaw14_DemandWhole.j1 k d (pt t t.f3) false t.f0 t.f1 t.f2 t.f3 t.f4 t.f5 t.f6 t.f7 t.f8 t.f9 t.f10) true := by
      refine Ev.step (f := fun k => (demand_Parts.f k t.f0 t.f1 t.f2 t.f3 t.f4 t.f5 t.f6 t.f7 t.f8 t.f9 t.f10 n).bind _) (fun k => by simp only [pendulumlaw14_DemandWhole.j1, cut_eq, Option.bind_some, hcut]; rw [if_neg (by simp)]) ?_
      refine Ev.bind (parts_ev ok n hn1 hn2) ?_
      refine Ev.bind (sum_pt ok n hn1 hn2) ?_
      refine Ev.bind (whole_ev ok) ?_
      rw [← pt_whole ok]
      simp only [if_neg (show ¬ su (pt t n) > su (pt t t.f3) by omega)]
      refine Ev.bind (sum_pt ok n hn1 hn2) ?_
      simp only [if_neg (show ¬ su (pt t n) < n by omega), if_neg (show ¬ ((pt t n).length : Int) > ((pt t t.f3).length : Int) by omega), show ((((pt t n).length : Int)) == 0) = false from beq_eq_false_iff_ne.mpr (by omega)]
      refine Ev.step (fun k => ?_) (whole_l0 (t := t) (pt t n) (by have := pt_len ok n hn1 hn2; omega) (fun _ => extra_eq ok) (pt_mem ok n hn1) (pt t n) 0 rfl)
      simp only [pendulumlaw14_DemandWhole.j2]; rfl
    refine Ev.step (f := fun k => (demand_Parts.f k t.f0 t.f1 t.f2 t.f3 t.f4 t.f5 t.f6 t.f7 t.f8 t.f9 t.f10 t.f3).bind _) (fun k => by simp only [pendulumlaw14_DemandWhole.j0]; rw [if_neg (by simp)]) ?_
    refine Ev.bind (parts_ev ok t.f3 (by omega) (by omega)) ?_
    refine Ev.bind (sum_pt ok t.f3 (by omega) (by omega)) ?_
    refine Ev.bind (whole_ev ok) ?_
    simp only [if_pos (pt_whole ok)]
    refine Ev.bind (whole_ev ok) ?_
    simp only [if_neg (show ¬ wh t < t.f3 by omega), extra_eq ok, Option.bind_some, show decide (ex t < 1) = false by simp; omega]
    exact hj1
theorem whole_walk (w : World) (x : S23) (d : Int) (_ : (Lit.int .i64 d).wf = true) : Calls Try.prog 4 #[.agg #[.string x.f0, .int .i64 x.f1, .int .i64 x.f2, .int .i64 x.f3, .int .i64 x.f4, .int .i64 x.f5, .int .i64 x.f6, .int .i64 x.f7, .int .i64 x.f8, .int .i64 x.f9, .int .i64 x.f10], .int .i64 d] w fun e w' => e = .returned (.bool true) ∧ Below w.heap.size w w' := by
  obtain ⟨k, h⟩ := Ev.rounds (DemandWhole x d)
  exact pendulumlaw14_DemandWhole.calls k _ _ _ _ _ _ _ _ _ _ _ _ true w h
end Go.Proofs.Ytdoieebfefomcaa.PS
