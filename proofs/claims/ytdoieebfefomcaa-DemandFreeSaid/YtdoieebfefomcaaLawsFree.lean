/- Of the laws of seat 14: what the printed functions compute is true. -/
import Derived.Test.YtdoieebfefomcaaLawsH
import Derived.Test.YtdoieebfefomcaaSetArgs
import Derived.Test.YtdoieebfefomcaaPCx11
namespace Go.Proofs.Ytdoieebfefomcaa.PS
open Go.RowKit Go.Proofs.Ytdoieebfefomcaa.PC Go.Proofs.YtdoieebfefomcaaW.PrintWords Go.Proofs.YtdoieebfefomcaaW.PrintLast
set_option linter.unusedVariables false
theorem DemandFree (t : S23) (d : Int) (hd : 0 ≤ d ∧ d ≤ 65535) : Ev (fun k => pendulumlaw14_DemandFree.f k t.f0 t.f1 t.f2 t.f3 t.f4 t.f5 t.f6 t.f7 t.f8 t.f9 t.f10 d) true := by
  unfold pendulumlaw14_DemandFree.f
  refine head (t := t) (J := fun k b => pendulumlaw14_DemandFree.j0 k d b t.f0 t.f1 t.f2 t.f3 t.f4 t.f5 t.f6 t.f7 t.f8 t.f9 t.f10) ?_ ?_
  · refine Ev.step (f := fun k => (pendulumlaw14_awake.f k).bind fun x => some x) (fun k => ?_) (Ev.bind awake_ev (Ev.now _))
    simp only [pendulumlaw14_DemandFree.j0]; rfl
  · intro ok h3
    have hn := ok.nums
    obtain ⟨x, hx, hx1, hx2⟩ := dem_of hd.1 hd.2 hn.1 (show t.f3 ≤ 1048576 by omega)
    obtain ⟨u, hu⟩ : ∃ u : S23, u = ⟨t.f0, t.f1, t.f2, t.f3, t.f4, t.f5, 0, t.f7, t.f8, t.f9, t.f10⟩ := ⟨_, rfl⟩
    have oku : OkT u := by subst hu; unfold OkT at ok ⊢; simp only; omega
    have hp := parts_ev oku x hx1 (by subst hu; exact hx2)
    have hs := sum_pt oku x hx1 (by subst hu; exact hx2)
    have hw := whole_ev oku
    have he := extra_eq oku
    have es : su (pt u x) = x := by
      unfold pt
      by_cases c : u.f9 = 1
      · have := oku.seg c
        rw [if_pos c, ps_su this.1 x.toNat x (by omega) (by omega), show u.f6 = 0 by rw [hu]]; omega
      · rw [if_neg c, show u.f6 = 0 by rw [hu]]; simp [su]
    have ew : wh u = t.f3 := by
      unfold wh
      rw [show u.f6 = 0 by rw [hu], show u.f3 = t.f3 by rw [hu]]; split <;> omega
    have ee : ex u = if t.f9 = 1 then t.f5 else t.f4 := by
      unfold ex
      rw [show u.f6 = 0 by rw [hu], show u.f9 = t.f9 by rw [hu], show u.f5 = t.f5 by rw [hu], show u.f4 = t.f4 by rw [hu]]; split <;> omega
    rw [es] at hs
    rw [ew] at hw
    rw [ee] at he
    generalize pt u x = L at hp hs
    rw [hu] at hp hw he
    simp only at hp hw he
    refine Ev.step (f := fun k => (demand_Parts.f k t.f0 t.f1 t.f2 t.f3 t.f4 t.f5 0 t.f7 t.f8 t.f9 t.f10 x).bind _) (fun k => by simp only [pendulumlaw14_DemandFree.j0, hx]; rw [if_neg (by simp), if_neg (by omega)]) ?_
    refine Ev.bind hp ?_
    refine Ev.bind hs ?_
    simp only [if_true]
    refine Ev.bind hw ?_
    simp only [if_true, he, Option.bind_some]
    by_cases c : t.f9 = 1
    · simp only [if_pos c, if_true]; exact Ev.now _
    · simp only [if_neg c, BEq.rfl]; exact Ev.now _
theorem free_walk (w : World) (x : S23) (d : Int) (hd : (Lit.int .u16 d).wf = true) : Calls Try.prog 7 #[.agg #[.string x.f0, .int .i64 x.f1, .int .i64 x.f2, .int .i64 x.f3, .int .i64 x.f4, .int .i64 x.f5, .int .i64 x.f6, .int .i64 x.f7, .int .i64 x.f8, .int .i64 x.f9, .int .i64 x.f10], .int .u16 d] w fun e w' => e = .returned (.bool true) ∧ Below w.heap.size w w' := by
  obtain ⟨k, h⟩ := Ev.rounds (DemandFree x d (Args.bd_u16 hd))
  exact pendulumlaw14_DemandFree.calls k _ _ _ _ _ _ _ _ _ _ _ _ true w h
end Go.Proofs.Ytdoieebfefomcaa.PS
