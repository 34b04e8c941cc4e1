/- Of the laws of seat 14: what the printed functions compute is true. -/
import Derived.Test.YtdoieebfefomcaaDem
import Derived.Test.YtdoieebfefomcaaPCx2
namespace Go.Proofs.Ytdoieebfefomcaa.PS
open Go.RowKit Go.Proofs.Ytdoieebfefomcaa.PC Go.Proofs.YtdoieebfefomcaaW.PrintWords Go.Proofs.YtdoieebfefomcaaW.PrintLast
set_option linter.unusedVariables false
theorem awake_ev : Ev (fun k => pendulumlaw14_awake.f k) true := Ev.of (k := 20) pendulumlaw14_awake.mono (by kernel_rfl)
theorem right14_tot (t : S23) : Tot (fun k => pendulumref14_Right.f k t.f0 t.f1 t.f2 t.f3 t.f4 t.f5 t.f6 t.f7 t.f8 t.f9 t.f10) (fun b => b = true → OkT t) := by
  unfold pendulumref14_Right.f
  exact Tot.bind (right_tot 1 [t]) (fun v hv => Tot.now (fun h => ((hv h).2.2.2.2 0 (by simp)).1))
theorem head {t : S23} {J : Nat → Bool → Option Bool} (hT : Ev (fun k => J k true) true) (hF : OkT t → t.f3 ≤ 3000 → Ev (fun k => J k false) true) :
    Ev (fun k => (pendulumlaw14_awake.f k).bind fun x => (if x = true then (if (t.f0.size : Int) > 60 then J k true else ((pendulumref14_Right.f k t.f0 t.f1 t.f2 t.f3 t.f4 t.f5 t.f6 t.f7 t.f8 t.f9 t.f10).bind fun y => (if y = true then J k (decide (t.f3 > 3000)) else J k true))) else J k true)) true := by
  refine Ev.bind awake_ev ?_
  simp only [if_true]
  by_cases c : (t.f0.size : Int) > 60
  · simp only [if_pos c]; exact hT
  · simp only [if_neg c]
    obtain ⟨b, hb, hp⟩ := right14_tot t
    refine Ev.bind hb ?_
    by_cases d : b = true
    · simp only [if_pos d]
      by_cases e : t.f3 > 3000
      · rw [decide_eq_true e]; exact hT
      · rw [decide_eq_false e]; exact hF (hp d) (by omega)
    · simp only [if_neg d]; exact hT
section
variable {t : S23} (ok : OkT t)
include ok in
theorem sum_pt (d : Int) (h1 : 1 ≤ d) (h2 : d ≤ t.f3) : Ev (fun k => pendulumref14_Sum.f k (pt t d)) (su (pt t d)) := by
  have h3 := (pt_mono ok h1 h2).1
  rw [pt_whole ok] at h3
  have h4 := (wh_bd ok).2
  exact sum_ev _ (by have := pt_len ok d h1 h2; omega) (fun x hx => by have := (pt_mem ok d h1 x hx).1; omega) (by omega)
end
section
variable {t0 : ByteArray} {t1 t2 t3 t4 t5 t6 t7 t8 t9 t10 : Int}
theorem refparts_l0 (hs : 1 ≤ t5) (hs2 : t5 ≤ 1048576) (hc : 0 ≤ t6) (hc2 : t6 ≤ 1000) : ∀ (n : Nat) (d : Int) (acc : List Int), d ≤ n → n ≤ 1048576 → 1 ≤ d → acc.length + n ≤ 2000000 → Ev (fun k => pendulumref14_Parts.l0 k d acc t0 t1 t2 t3 t4 t5 t6 t7 t8 t9 t10) (acc ++ ps t5 t6 d) := by
  intro n
  induction n with
  | zero => intro d acc h _ _ _; omega
  | succ n ih =>
    intro d acc h hn hd hl
    have hm : mn d t5 = if d < t5 then d else t5 := by unfold mn; split <;> split <;> omega
    rw [ps_pos hs (by omega)]
    by_cases c : d > t5
    · have := ih (d - t5) (acc ++ [t5 + t6]) (by omega) (by omega) (by omega) (by simp; omega)
      rw [show acc ++ (mn d t5 + t6) :: ps t5 t6 (d - t5) = acc ++ [t5 + t6] ++ ps t5 t6 (d - t5) by rw [hm, if_neg (by omega)]; simp]
      refine Ev.step (fun k => ?_) this
      simp only [pendulumref14_Parts.l0]
      rw [if_pos c, if_pos (by omega), w64 (x := d - t5) (by omega) (by omega), w64 (x := t5 + t6) (by omega) (by omega)]
    · rw [ps_neg (d := d - t5) (by omega), show mn d t5 = d by rw [hm]; split <;> omega]
      refine Ev.step (f := fun _ => some _) (fun k => ?_) (Ev.now _)
      simp only [pendulumref14_Parts.l0]
      rw [if_neg c, if_pos (by omega), w64 (x := d + t6) (by omega) (by omega)]
end
theorem refparts_ev {t : S23} (ok : OkT t) (d : Int) (h1 : 1 ≤ d) (h2 : d ≤ t.f3) : Ev (fun k => pendulumref14_Parts.f k t.f0 t.f1 t.f2 t.f3 t.f4 t.f5 t.f6 t.f7 t.f8 t.f9 t.f10 d) (pt t d) := by
  have hn := ok.nums
  unfold pendulumref14_Parts.f pt
  by_cases c : t.f9 = 1
  · have hs := ok.seg c
    simp only [if_pos c]
    have := refparts_l0 (t0 := t.f0) (t1 := t.f1) (t2 := t.f2) (t3 := t.f3) (t4 := t.f4) (t5 := t.f5) (t6 := t.f6) (t7 := t.f7) (t8 := t.f8) (t9 := t.f9) (t10 := t.f10) hs.1 (by omega) (by omega) (by omega) d.toNat d [] (by omega) (by omega) (by omega) (by simp; omega)
    simpa using this
  · simp only [if_neg c]
    rw [w64 (x := d + t.f6) (by omega) (by omega)]
    exact Ev.now _
/-- A demand out of a small number. -/
theorem dem_of {a c : Int} (ha : 0 ≤ a) (ha2 : a ≤ 65535) (hc : 1 ≤ c) (hc2 : c ≤ 1048576) : ∃ n, wrap64 (1 + Int.tmod (wrap64 a) c) = n ∧ 1 ≤ n ∧ n ≤ c := by
  refine ⟨_, rfl, ?_⟩
  rw [w64 (x := a) (by omega) (by omega), Int.tmod_eq_emod_of_nonneg ha]
  have h1 := Int.emod_nonneg a (show c ≠ 0 by omega)
  have h2 := Int.emod_lt_of_pos a (show 0 < c by omega)
  rw [w64 (by omega) (by omega)]; omega
end Go.Proofs.Ytdoieebfefomcaa.PS
