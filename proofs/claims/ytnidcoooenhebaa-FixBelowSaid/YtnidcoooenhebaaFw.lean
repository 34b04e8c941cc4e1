/- awake of the laws: what it computes. -/
import Derived.Test.YtnidcoooenhebaaFu
namespace Go.Proofs.Ytnidcoooenhebaa.PS
open Go.RowKit Go.Proofs.Ytnidcoooenhebaa.PC Go.Proofs.YtnidcoooenhebaaW.PrintWords Go.Proofs.YtnidcoooenhebaaW.PrintLast Go.Proofs.YtnidcoooenhebaaW.PrintMore
attribute [local go_sem] max2_int min2_int max_two min_two max_three min_three max_four min_four   -- for this text's walks alone
set_option linter.unusedVariables false
set_option linter.unusedSimpArgs false
theorem two_C {w : World} {g : Nat} {A : Array Value} (h : w.heap[g]? = some (.cells A 39 (0, 0))) (x y : S39) (hA : A = TA x ++ TA y) : Kd.C k39 w (some ⟨g, 0, none⟩) [x, y].length [x, y] := by
  refine ⟨rfl, by simp, fun _ => ⟨_, rfl, fun j p hj => ?_⟩⟩
  match j, hj with
  | 0, hj =>
    obtain rfl := Option.some.inj hj
    refine ⟨_, rfl, k39_mk w x, fun i u hu => ?_⟩
    have hs : k39.sz = 11 := rfl
    rw [Go.WideShapes.add_plain, hs, blk_cell h, hA]
    have hi : i < (TA x).size := by have := (List.getElem?_eq_some_iff.1 hu).1; simpa [TA] using this
    rw [show 0 + (0 * 11 + i) = i by omega, Array.getElem?_append_left hi]
    simpa [TA] using hu
  | 1, hj =>
    obtain rfl := Option.some.inj hj
    refine ⟨_, rfl, k39_mk w y, fun i u hu => ?_⟩
    have hs : k39.sz = 11 := rfl
    rw [Go.WideShapes.add_plain, hs, blk_cell h, hA]
    rw [show 0 + (1 * 11 + i) = (TA x).size + i by simp [TA], Array.getElem?_append_right (by omega), show (TA x).size + i - (TA x).size = i by omega]
    simpa [TA] using hu
  | j + 2, hj => simp at hj
def ta : S39 := (⟨⟨#[97]⟩, 20, 20, 3, 0, 3, 0, 1, 1, 1, 1⟩ : S39)
def tb : S39 := (⟨⟨#[98]⟩, 50, 40, 4, 2, 0, 0, 1, 1, 3, 2⟩ : S39)
theorem aw_ok : OkS 1 [ta, tb] := by
  refine ⟨by omega, by omega, by simp, by simp, fun j hj => ?_⟩
  have hj : j = 0 ∨ j = 1 := by simp at hj; omega
  rcases hj with rfl | rfl
  · refine ⟨?_, fun m hm => by omega⟩
    show OkT ta
    unfold OkT ta; simp
  · refine ⟨?_, fun m hm => ?_⟩
    · show OkT tb
      unfold OkT tb; simp
    · obtain rfl : m = 0 := by omega
      exact ⟨by decide, by rw [ByteArray.toList_eq, ByteArray.toList_eq]; decide⟩
theorem aw_r0 : rsp 1 1000 [ta, tb] 0 = (8, true) := by kernel_rfl
theorem aw_r1 : rsp 1 1000 [ta, tb] 1 = (12, true) := by kernel_rfl
theorem aw_n : nxt 1 1000 [ta, tb] 1 0 = 6 := by kernel_rfl
theorem aw_d : mxs (fD (rd_T39 [ta, tb] 0).f10) [ta, tb] 0 = 3 := by kernel_rfl
theorem aw_a : mxs (fA (rd_T39 [ta, tb] 0).f10) [ta, tb] 0 = 2 := by kernel_rfl
end Go.Proofs.Ytnidcoooenhebaa.PS
