/- What the recurrence makes of a time, as mathematics. -/
import Derived.Test.YtnidcoooenhebaaFc
namespace Go.Proofs.Ytnidcoooenhebaa.PS
open Go.RowKit Go.Proofs.Ytnidcoooenhebaa.PC Go.Proofs.YtnidcoooenhebaaW.PrintWords Go.Proofs.YtnidcoooenhebaaW.PrintLast Go.Proofs.YtnidcoooenhebaaW.PrintMore
attribute [local go_sem] max2_int min2_int max_two min_two max_three min_three max_four min_four   -- for this text's walks alone
set_option linter.unusedVariables false
set_option linter.unusedSimpArgs false
/-- What those above call in a time, one behind the other. -/
def pl (w p : Int) : List S39 → List Int
  | [] => []
  | t :: r => if t.f10 < p then cl w t.f1 * wh t :: pl w p r else pl w p r
theorem pl_snoc (w p : Int) (t : S39) : ∀ l : List S39, pl w p (l ++ [t]) = if t.f10 < p then pl w p l ++ [cl w t.f1 * wh t] else pl w p l := by
  intro l
  induction l with
  | nil => simp only [List.nil_append, pl]
  | cons x r ih =>
    simp only [List.cons_append, pl, ih]
    by_cases h : t.f10 < p
    · simp only [if_pos h]; by_cases h2 : x.f10 < p
      · simp only [if_pos h2, List.cons_append]
      · simp only [if_neg h2]
    · simp only [if_neg h]
theorem pl_take (w p : Int) {l : List S39} {k : Nat} (h : k < l.length) : pl w p (l.take (k + 1)) = if (rd_T39 l k).f10 < p then pl w p (l.take k) ++ [cl w (rd_T39 l k).f1 * wh (rd_T39 l k)] else pl w p (l.take k) := by
  rw [rd_take h, pl_snoc]
theorem pl_len (w p : Int) : ∀ l : List S39, (pl w p l).length ≤ l.length := by
  intro l
  induction l with
  | nil => simp [pl]
  | cons x r ih => simp only [pl]; split <;> simp <;> omega
theorem mul_bd {a b c d : Int} (ha : 0 ≤ a) (hac : a ≤ c) (hb : 0 ≤ b) (hbd : b ≤ d) : 0 ≤ a * b ∧ a * b ≤ c * d := ⟨Int.mul_nonneg ha hb, Int.mul_le_mul hac hbd hb (by omega)⟩
theorem part_bd {w : Int} (h0 : 0 ≤ w) (h1 : w ≤ 1048576) {t : S39} (ok : OkT t) : 0 ≤ cl w t.f1 * wh t ∧ cl w t.f1 * wh t ≤ 1100611139403776 := by
  have hn := ok.nums
  have hw := wh_bd ok
  have hc := cl_bd (a := w) (b := t.f1) h0 (by omega)
  have := mul_bd (a := cl w t.f1) (b := wh t) (c := 1048576) (d := 1049624576) hc.1 (by omega) (by omega) hw.2
  omega
theorem pl_bd {w p : Int} (h0 : 0 ≤ w) (h1 : w ≤ 1048576) : ∀ {l : List S39}, (∀ x ∈ l, OkT x) → (∀ y ∈ pl w p l, 0 ≤ y) ∧ su (pl w p l) ≤ 1100611139403776 * (l.length : Int) := by
  intro l
  induction l with
  | nil => intro _; simp [pl, su]
  | cons x r ih =>
    intro h
    have hx := part_bd h0 h1 (h x (List.mem_cons_self ..))
    obtain ⟨i1, i2⟩ := ih (fun y hy => h y (List.mem_cons_of_mem _ hy))
    have e : ((x :: r).length : Int) = (r.length : Int) + 1 := by simp
    simp only [pl]
    by_cases c : x.f10 < p
    · rw [if_pos c]
      refine ⟨fun y hy => ?_, by simp only [su]; rw [e]; omega⟩
      rcases List.mem_cons.1 hy with rfl | hy
      · exact hx.1
      · exact i1 y hy
    · rw [if_neg c]; exact ⟨i1, by rw [e]; omega⟩
theorem mxs_bd (f : S39 → Bool) : ∀ (l : List S39) (m : Int), (∀ x ∈ l, OkT x) → 0 ≤ m → m ≤ 1049576 → 0 ≤ mxs f l m ∧ mxs f l m ≤ 1049576 := by
  intro l
  induction l with
  | nil => intro m _ h0 h1; exact ⟨h0, h1⟩
  | cons x r ih =>
    intro m h h0 h1
    have hx := h x (List.mem_cons_self ..)
    have he : 1 ≤ ex x ∧ ex x ≤ 1049576 := by
      have hn := hx.nums
      unfold ex
      by_cases c : x.f9 = 1
      · have := hx.seg c; rw [if_pos c]; omega
      · have := hx.alt c; rw [if_neg c]; omega
    have hr := fun y hy => h y (List.mem_cons_of_mem x hy)
    unfold mxs
    by_cases c : f x = true
    · rw [if_pos c]; exact ih _ hr (by unfold mx; split <;> omega) (by unfold mx; split <;> omega)
    · rw [if_neg c]; exact ih _ hr h0 h1
theorem OkS.mem {B : Int} {l : List S39} (ok : OkS B l) : ∀ x ∈ l, OkT x := fun x hx => by
  obtain ⟨j, hj, rfl⟩ := List.getElem_of_mem hx
  have := (ok.2.2.2.2 j hj).1
  simpa [rd_T39, List.getD_eq_getElem?_getD, hj] using this
/-- The dearest failing part; what may be called ahead; what the recurrence makes of a time. -/
def dr (l : List S39) (i : Int) : Int := mxs (fD (rd_T39 l i).f10) l 0
def ah (l : List S39) (i : Int) : Int := mxs (fA (rd_T39 l i).f10) l 0
def nxt (B g : Int) (l : List S39) (i w : Int) : Int := wh (rd_T39 l i) + ah l i + mst w B g * (B * dr l i) + su (pl w (rd_T39 l i).f10 l)
theorem nx_bd {B g w : Int} {l : List S39} (ok : OkS B l) (h0 : 0 ≤ w) (h1 : w ≤ 1048576) (hg : 1 ≤ g) (i : Int) : (0 ≤ dr l i ∧ dr l i ≤ 1049576) ∧ (0 ≤ ah l i ∧ ah l i ≤ 1049576) ∧ (0 ≤ B * dr l i ∧ B * dr l i ≤ 1049576000) ∧ (0 ≤ mst w B g ∧ mst w B g ≤ 1049576) ∧ (0 ≤ mst w B g * (B * dr l i) ∧ mst w B g * (B * dr l i) ≤ 1101609779776000) := by
  have hd := mxs_bd (fD (rd_T39 l i).f10) l 0 ok.mem (by omega) (by omega)
  have ha := mxs_bd (fA (rd_T39 l i).f10) l 0 ok.mem (by omega) (by omega)
  have hB := ok.1
  have hB2 := ok.2.1
  have hp := mul_bd (a := B) (b := dr l i) (c := 1000) (d := 1049576) (by omega) hB2 hd.1 hd.2
  have hm := mst_bd (w := w) (b := B) (g := g) h0 hB hg
  have hq := mul_bd (a := mst w B g) (b := B * dr l i) (c := 1049576) (d := 1049576000) hm.1 (by omega) hp.1 (by omega)
  exact ⟨hd, ha, ⟨hp.1, by omega⟩, ⟨hm.1, by omega⟩, ⟨hq.1, by omega⟩⟩
end Go.Proofs.Ytnidcoooenhebaa.PS
