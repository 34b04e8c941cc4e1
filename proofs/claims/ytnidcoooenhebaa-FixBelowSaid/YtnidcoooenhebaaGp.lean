/- The plain laws of response times: the least fixed point up to the deadline. -/
import Derived.Test.YtnidcoooenhebaaFx
namespace Go.Proofs.Ytnidcoooenhebaa.PS
open Go.RowKit Go.Proofs.Ytnidcoooenhebaa.PC Go.Proofs.YtnidcoooenhebaaW.PrintWords Go.Proofs.YtnidcoooenhebaaW.PrintLast Go.Proofs.YtnidcoooenhebaaW.PrintMore
attribute [local go_sem] max2_int min2_int max_two min_two max_three min_three max_four min_four   -- for this text's walks alone
set_option linter.unusedVariables false
set_option linter.unusedSimpArgs false
theorem dl_bd {B : Int} {l : List S39} (ok : OkS B l) {i : Int} (hi : 0 ≤ i) (hi1 : i < (l.length : Int)) : OkT (rd_T39 l i) ∧ 1 ≤ (rd_T39 l i).f2 ∧ (rd_T39 l i).f2 ≤ 1048576 := by
  have oki := (ok.2.2.2.2 i.toNat (by omega)).1
  rw [show ((i.toNat : Nat) : Int) = i by omega] at oki
  have := oki.nums
  exact ⟨oki, by omega, by omega⟩
theorem rsp_sum {B g : Int} {l : List S39} (ok : OkS B l) (hg : 1 ≤ g) {i : Int} (hi : 0 ≤ i) (hi1 : i < (l.length : Int)) :
    (∃ r, rsp B g l i = (r, true) ∧ 1 ≤ r ∧ r ≤ (rd_T39 l i).f2 ∧ nxt B g l i r = r ∧ Up (nxt B g l i) r) ∨ (rsp B g l i = (0, false) ∧ ∀ y, 0 ≤ y → y ≤ (rd_T39 l i).f2 → y < nxt B g l i y) := by
  have hD := (dl_bd ok hi hi1).2
  have h0 := nxt_pos ok hg hi hi1 (Int.le_refl 0)
  unfold rsp
  rcases rsp_spec (D := (rd_T39 l i).f2) (fun w w' h0 h => nxt_mono ok hg i h0 h) ((rd_T39 l i).f2.toNat + 1) 0 (Int.le_refl 0) (by omega) (by omega) (by omega) (fun y h1 h2 => by omega) with ⟨r, e, h1, h2, h3, h4⟩ | h
  · have := nxt_pos ok hg hi hi1 (w := r) h1
    exact .inl ⟨r, e, by omega, h2, h3, h4⟩
  · exact .inr h
theorem rrsp_rsp {B g : Int} {l : List S39} (ok : OkS B l) (hg : 1 ≤ g) {i : Int} (hi : 0 ≤ i) (hi1 : i < (l.length : Int)) : rrsp B g l i = rsp B g l i := by
  have hD := (dl_bd ok hi hi1).2
  rcases rsp_sum ok hg hi hi1 with ⟨r, e, h1, h2, h3, h4⟩ | ⟨e, h⟩
  · rw [e]; exact fst_yes h2 h3 _ 0 (by omega) (by omega) (fun y hy hyr hf => by have := h4 y hy hyr; omega)
  · rw [e]; exact fst_no _ 0 (by omega) (fun y h1 h2 hf => by have := h y h1 h2; omega)
/-- A recurrence that makes less has a response time, and no greater one. -/
theorem rsp_le {B B' g g' : Int} {l : List S39} (ok : OkS B l) (ok' : OkS B' l) (hg : 1 ≤ g) (hg' : 1 ≤ g') {i : Int} (hi : 0 ≤ i) (hi1 : i < (l.length : Int)) (h : ∀ y, 0 ≤ y → nxt B g l i y ≤ nxt B' g' l i y) (h2 : (rsp B' g' l i).2 = true) :
    (rsp B g l i).2 = true ∧ (rsp B g l i).1 ≤ (rsp B' g' l i).1 := by
  rcases rsp_sum ok' hg' hi hi1 with ⟨r', e', a1, a2, a3, a4⟩ | ⟨e', _⟩
  · rw [e']
    have hle := h r' (by omega)
    rcases rsp_sum ok hg hi hi1 with ⟨r, e, b1, b2, b3, b4⟩ | ⟨e, b⟩
    · rw [e]
      refine ⟨rfl, ?_⟩
      show r ≤ r'
      by_cases c : r ≤ r'
      · exact c
      · have := b4 r' (by omega) (by omega); omega
    · have := b r' (by omega) a2; omega
  · rw [e'] at h2; cases h2
theorem rsp_wh {B g : Int} {l : List S39} (ok : OkS B l) (hg : 1 ≤ g) {i : Int} (hi : 0 ≤ i) (hi1 : i < (l.length : Int)) (h2 : (rsp B g l i).2 = true) : wh (rd_T39 l i) ≤ (rsp B g l i).1 := by
  rcases rsp_sum ok hg hi hi1 with ⟨r, e, b1, b2, b3, b4⟩ | ⟨e, b⟩
  · rw [e]
    show wh (rd_T39 l i) ≤ r
    have hD := dl_bd ok hi hi1
    have NB := nx_bd ok (show 0 ≤ r by omega) (by omega) hg i
    have hs := su_nonneg (pl_bd (p := (rd_T39 l i).f10) (w := r) (by omega) (by omega) ok.mem).1
    unfold nxt at b3; omega
  · rw [e] at h2; cases h2
theorem cl_anti {a b b' : Int} (h0 : 0 ≤ a) (hb : 1 ≤ b) (h : b ≤ b') : cl a b' ≤ cl a b := by
  by_cases c : cl a b' ≤ cl a b
  · exact c
  · exfalso
    have h1 : cl a b * b' ≥ cl a b * b := Int.mul_le_mul_of_nonneg_left h (cl_nonneg h0 (by omega))
    have h2 : a ≤ cl a b * b := by
      unfold cl
      have := Int.emod_add_mul_ediv (a + b - 1) b
      have h3 := Int.emod_lt_of_pos (a + b - 1) (show 0 < b by omega)
      have h4 : (a + b - 1) / b * b = b * ((a + b - 1) / b) := Int.mul_comm _ _
      omega
    have h5 : cl a b' * b' ≤ a + b' - 1 := by
      unfold cl
      have := Int.emod_add_mul_ediv (a + b' - 1) b'
      have h3 := Int.emod_nonneg (a + b' - 1) (show b' ≠ 0 by omega)
      have h4 : (a + b' - 1) / b' * b' = b' * ((a + b' - 1) / b') := Int.mul_comm _ _
      omega
    have h6 : (cl a b + 1) * b' ≤ cl a b' * b' := Int.mul_le_mul_of_nonneg_right (by omega) (by omega)
    have h7 : (cl a b + 1) * b' = cl a b * b' + b' := by rw [Int.add_mul, Int.one_mul]
    omega
theorem mst_anti {w b g g' : Int} (h0 : 0 ≤ w) (hb : 1 ≤ b) (hg : 1 ≤ g) (h : g ≤ g') : mst w b g' ≤ mst w b g := by
  unfold mst
  by_cases c : w = 0
  · rw [if_pos c, if_pos c]; exact Int.le_refl _
  · rw [if_neg c, if_neg c]; exact cl_anti (by omega) hg h
theorem mst_more {w b b' g : Int} (h0 : 0 ≤ w) (h : b ≤ b') (hg : 1 ≤ g) : mst w b g ≤ mst w b' g := by
  unfold mst
  by_cases c : w = 0
  · rw [if_pos c, if_pos c]; exact Int.le_refl _
  · rw [if_neg c, if_neg c]; exact cl_mono (by omega) (by omega)
theorem nxt_wide {B g g' : Int} {l : List S39} (ok : OkS B l) (hg : 1 ≤ g) (h : g ≤ g') (i : Int) (y : Int) (h0 : 0 ≤ y) : nxt B g' l i y ≤ nxt B g l i y := by
  have hd := mxs_bd (fD (rd_T39 l i).f10) l 0 ok.mem (by omega) (by omega)
  have hp : 0 ≤ B * dr l i := Int.mul_nonneg (by have := ok.1; omega) hd.1
  have h1 := Int.mul_le_mul_of_nonneg_right (mst_anti h0 ok.1 hg h) hp
  unfold nxt; omega
theorem nxt_more {B B' g : Int} {l : List S39} (ok : OkS B l) (hg : 1 ≤ g) (h : B ≤ B') (i : Int) (y : Int) (h0 : 0 ≤ y) : nxt B g l i y ≤ nxt B' g l i y := by
  have hd := mxs_bd (fD (rd_T39 l i).f10) l 0 ok.mem (by omega) (by omega)
  have hm := mst_bd (w := y) (b := B) (g := g) h0 ok.1 hg
  have h1 := mul_bd hm.1 (mst_more h0 h hg) (Int.mul_nonneg (show 0 ≤ B by have := ok.1; omega) hd.1) (Int.mul_le_mul_of_nonneg_right h hd.1)
  have h2 : mst y B g * (B * dr l i) ≤ mst y B' g * (B' * dr l i) := h1.2
  unfold nxt; omega
end Go.Proofs.Ytnidcoooenhebaa.PS
