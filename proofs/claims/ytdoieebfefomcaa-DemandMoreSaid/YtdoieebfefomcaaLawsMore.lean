/- Of the laws of seat 14: what the printed functions compute is true. -/
import Derived.Test.YtdoieebfefomcaaLawsH
import Derived.Test.YtdoieebfefomcaaSetArgs
import Derived.Test.YtdoieebfefomcaaPCx10
namespace Go.Proofs.Ytdoieebfefomcaa.PS
open Go.RowKit Go.Proofs.Ytdoieebfefomcaa.PC Go.Proofs.YtdoieebfefomcaaW.PrintWords Go.Proofs.YtdoieebfefomcaaW.PrintLast
set_option linter.unusedVariables false
theorem more_l0 {t : S23} (ok : OkT t) {d : Int} (h1 : 1 ≤ d) (h2 : d ≤ t.f3) : ∀ (n : Nat) (l : List Int) (i : Nat), l.length ≤ 2000000 → l.length - i = n → Ev (fun k => pendulumlaw14_DemandMore.l0 k d l (i : Int) t.f0 t.f1 t.f2 t.f3 t.f4 t.f5 t.f6 t.f7 t.f8 t.f9 t.f10) true := by
  intro n
  induction n with
  | zero =>
    intro l i hl h
    refine Ev.step (f := fun k => (demand_Parts.f k t.f0 t.f1 t.f2 t.f3 t.f4 t.f5 t.f6 t.f7 t.f8 t.f9 t.f10 d).bind _) (fun k => by simp only [pendulumlaw14_DemandMore.l0]; rw [if_neg (by omega)]) ?_
    refine Ev.bind (parts_ev ok d h1 h2) ?_
    refine Ev.bind (sum_pt ok d h1 h2) ?_
    refine Ev.bind (refparts_ev ok d h1 h2) ?_
    refine Ev.bind (sum_pt ok d h1 h2) ?_
    simp only [BEq.rfl]
    exact Ev.now _
  | succ n ih =>
    intro l i hl h
    refine Ev.step (fun k => ?_) (ih (l.set i (-1)) (i + 1) (by simpa using hl) (by simp; omega))
    simp only [pendulumlaw14_DemandMore.l0]
    rw [if_pos (by omega), if_pos (by omega), w1 (n := i) (by omega), Int.toNat_natCast]
theorem DemandMore (t : S23) (d e : Int) (hd : 0 ≤ d ∧ d ≤ 65535) (he : 0 ≤ e ∧ e ≤ 65535) : Ev (fun k => pendulumlaw14_DemandMore.f k t.f0 t.f1 t.f2 t.f3 t.f4 t.f5 t.f6 t.f7 t.f8 t.f9 t.f10 d e) true := by
  unfold pendulumlaw14_DemandMore.f
  refine head (t := t) (J := fun k b => pendulumlaw14_DemandMore.j0 k d e b t.f0 t.f1 t.f2 t.f3 t.f4 t.f5 t.f6 t.f7 t.f8 t.f9 t.f10) ?_ ?_
  · refine Ev.step (f := fun k => (pendulumlaw14_awake.f k).bind fun x => some x) (fun k => ?_) (Ev.bind awake_ev (Ev.now _))
    simp only [pendulumlaw14_DemandMore.j0]; rfl
  · intro ok h3
    have hn := ok.nums
    obtain ⟨x, hx, hx1, hx2⟩ := dem_of hd.1 hd.2 hn.1 (show t.f3 ≤ 1048576 by omega)
    obtain ⟨y, hy, hy1, hy2⟩ := dem_of he.1 he.2 hn.1 (show t.f3 ≤ 1048576 by omega)
    have go : ∀ x y : Int, 1 ≤ x → x ≤ t.f3 → 1 ≤ y → y ≤ t.f3 → x ≤ y → Ev (fun k => pendulumlaw14_DemandMore.j1 k x y t.f0 t.f1 t.f2 t.f3 t.f4 t.f5 t.f6 t.f7 t.f8 t.f9 t.f10) true := by
      intro x y hx1 hx2 hy1 hy2 hxy
      have hmm := pt_mono ok hx1 hxy
      refine Ev.step (f := fun k => (demand_Parts.f k t.f0 t.f1 t.f2 t.f3 t.f4 t.f5 t.f6 t.f7 t.f8 t.f9 t.f10 x).bind _) (fun k => by simp only [pendulumlaw14_DemandMore.j1]; rfl) ?_
      refine Ev.bind (parts_ev ok x hx1 hx2) ?_
      refine Ev.bind (parts_ev ok y hy1 hy2) ?_
      refine Ev.bind (sum_pt ok x hx1 hx2) ?_
      refine Ev.bind (sum_pt ok y hy1 hy2) ?_
      simp only [if_neg (show ¬ su (pt t x) > su (pt t y) by omega), show decide ((((pt t x).length : Int)) > ((pt t y).length : Int)) = false by simp; omega]
      refine Ev.step (fun k => ?_) (more_l0 ok hx1 hx2 _ (pt t x) 0 (by have := pt_len ok x hx1 hx2; omega) rfl)
      simp only [pendulumlaw14_DemandMore.j2]; rfl
    refine Ev.step (f := fun k => if x > y then _ else _) (fun k => by simp only [pendulumlaw14_DemandMore.j0, hx, hy]; rw [if_neg (by simp), if_neg (by omega)]) ?_
    by_cases c : x > y
    · simp only [if_pos c]; exact go y x hy1 hy2 hx1 hx2 (by omega)
    · simp only [if_neg c]; exact go x y hx1 hx2 hy1 hy2 (by omega)
theorem more_walk (w : World) (x : S23) (d : Int) (hd : (Lit.int .u16 d).wf = true) (e : Int) (he : (Lit.int .u16 e).wf = true) : Calls Try.prog 6 #[.agg #[.string x.f0, .int .i64 x.f1, .int .i64 x.f2, .int .i64 x.f3, .int .i64 x.f4, .int .i64 x.f5, .int .i64 x.f6, .int .i64 x.f7, .int .i64 x.f8, .int .i64 x.f9, .int .i64 x.f10], .int .u16 d, .int .u16 e] w fun e w' => e = .returned (.bool true) ∧ Below w.heap.size w w' := by
  obtain ⟨k, h⟩ := Ev.rounds (DemandMore x d e (Args.bd_u16 hd) (Args.bd_u16 he))
  exact pendulumlaw14_DemandMore.calls k _ _ _ _ _ _ _ _ _ _ _ _ _ true w h
end Go.Proofs.Ytdoieebfefomcaa.PS
