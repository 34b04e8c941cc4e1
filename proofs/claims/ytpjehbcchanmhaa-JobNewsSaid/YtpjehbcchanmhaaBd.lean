/- job.Band, job.Late: what they compute. -/
import Derived.Test.YtpjehbcchanmhaaMid
namespace Go.Proofs.Ytpjehbcchanmhaa.PC
open Go.RowKit Go.Proofs.YtpjehbcchanmhaaW.PrintWords Go.Proofs.YtpjehbcchanmhaaW.PrintLast Go.Proofs.YtpjehbcchanmhaaW.PrintMore
set_option linter.unusedVariables false
set_option linter.unusedSimpArgs false
set_option maxRecDepth 100000 in
set_option maxHeartbeats 1000000 in
theorem late_c (w : World) (J : Array Value) (dl now : Int) (h3 : J[3]? = some (.int .i64 dl)) : Calls Try.prog 14 #[.agg J, .int .i64 now] w fun e w' => e = .returned (.bool (decide (dl ≤ now))) ∧ Below w.heap.size w w' := by
  obtain ⟨B0, hB0⟩ : ∃ B, w.heap.size = B := ⟨_, rfl⟩
  rw [hB0]
  obtain ⟨V1, hV1⟩ : ∃ V, w.alloc (.cells J 32) = V := ⟨_, rfl⟩
  have Hj : Hid (V1.heap[B0]? = some (.cells J 32 (0, 0))) := Lib.hid (by rw [← hV1]; exact (box_new hB0).1)
  have HE : Hid (Below B0 w V1) := Lib.hid (by rw [← hV1, ← hB0]; exact (Below.refl _ _).alloc (Nat.le_refl _) _)
  go_enter Try.func14, Try.ntmps14
  go_upto_region 1 with (fail)
  replace hB0 := Lib.hid hB0
  replace hV1 := Lib.hid hV1
  have c3 : V1.cell? ⟨B0, 3, none⟩ = some (.int .i64 dl) := (blk_cell Hj.out 3).trans h3
  go_wp2
  go_ret
  exact ⟨rfl, HE.out⟩
set_option maxRecDepth 100000 in
set_option maxHeartbeats 1000000 in
theorem band_no (w : World) (J : Array Value) (h4 : J[4]? = some (.bool false)) : Calls Try.prog 18 #[.agg J] w fun e w' => e = .returned (.int .i64 2) ∧ Below w.heap.size w w' := by
  obtain ⟨B0, hB0⟩ : ∃ B, w.heap.size = B := ⟨_, rfl⟩
  rw [hB0]
  obtain ⟨V1, hV1⟩ : ∃ V, w.alloc (.cells J 32) = V := ⟨_, rfl⟩
  have Hj : Hid (V1.heap[B0]? = some (.cells J 32 (0, 0))) := Lib.hid (by rw [← hV1]; exact (box_new hB0).1)
  have HE : Hid (Below B0 w V1) := Lib.hid (by rw [← hV1, ← hB0]; exact (Below.refl _ _).alloc (Nat.le_refl _) _)
  go_enter Try.func18, Try.ntmps18
  go_upto_region 1 with (fail)
  replace hB0 := Lib.hid hB0
  replace hV1 := Lib.hid hV1
  have c4 : V1.cell? ⟨B0, 4, none⟩ = some (.bool false) := (blk_cell Hj.out 4).trans h4
  go_wp2
  go_ret
  exact ⟨rfl, HE.out⟩
set_option maxRecDepth 100000 in
set_option maxHeartbeats 1000000 in
theorem band_urg (w : World) (P R : Array Value) (zP : P.size = 7) (zR : R.size = 16) (h4 : (P ++ R)[4]? = some (.bool true)) (HU : ∀ W : World, Calls Try.prog 24 #[.agg R] W fun e w' => e = .returned (.bool true) ∧ Below W.heap.size W w') : Calls Try.prog 18 #[.agg (P ++ R)] w fun e w' => e = .returned (.int .i64 0) ∧ Below w.heap.size w w' := by
  obtain ⟨B0, hB0⟩ : ∃ B, w.heap.size = B := ⟨_, rfl⟩
  rw [hB0]
  obtain ⟨V1, hV1⟩ : ∃ V, w.alloc (.cells (P ++ R) 32) = V := ⟨_, rfl⟩
  have Hj : Hid (V1.heap[B0]? = some (.cells (P ++ R) 32 (0, 0))) := Lib.hid (by rw [← hV1]; exact (box_new hB0).1)
  have HE : Hid (Below B0 w V1) := Lib.hid (by rw [← hV1, ← hB0]; exact (Below.refl _ _).alloc (Nat.le_refl _) _)
  go_enter Try.func18, Try.ntmps18
  go_upto_region 1 with (fail)
  replace hB0 := Lib.hid hB0
  replace hV1 := Lib.hid hV1
  have c4 : V1.cell? ⟨B0, 4, none⟩ = some (.bool true) := (blk_cell Hj.out 4).trans h4
  replace HU := Lib.hid HU
  replace zP := Lib.hid zP
  replace zR := Lib.hid zR
  go_wp2_with (first | (refine wpl_ldm _ _ rfl (by rfl) B0 7 rfl Hj.out zP.out Try.underlying30 rfl (by kernel_rfl) zR.out ?_))
  refine (HU.out _).mono ?_; rintro e V_1 ⟨rfl, hb_2⟩
  have H_3 : Hid (V_1.heap[B0]? = some (.cells (P ++ R) 32 (0, 0))) := Lib.hid ((hb_2.block B0 (blk_lt Hj.out)).trans Hj.out)
  have HE_4 : Hid (Below B0 w V_1) := Lib.hid (HE.out.trans (hb_2.mono (sz_le hB0.out HE.out.size)))
  clear c4
  clear HE Hj
  clear hb_2
  go_wp2
  go_ret
  exact ⟨rfl, HE_4.out⟩
set_option maxRecDepth 100000 in
set_option maxHeartbeats 1000000 in
theorem band_must (w : World) (P R : Array Value) (zP : P.size = 7) (zR : R.size = 16) (h4 : (P ++ R)[4]? = some (.bool true)) (HU : ∀ W : World, Calls Try.prog 24 #[.agg R] W fun e w' => e = .returned (.bool false) ∧ Below W.heap.size W w') : Calls Try.prog 18 #[.agg (P ++ R)] w fun e w' => e = .returned (.int .i64 1) ∧ Below w.heap.size w w' := by
  obtain ⟨B0, hB0⟩ : ∃ B, w.heap.size = B := ⟨_, rfl⟩
  rw [hB0]
  obtain ⟨V1, hV1⟩ : ∃ V, w.alloc (.cells (P ++ R) 32) = V := ⟨_, rfl⟩
  have Hj : Hid (V1.heap[B0]? = some (.cells (P ++ R) 32 (0, 0))) := Lib.hid (by rw [← hV1]; exact (box_new hB0).1)
  have HE : Hid (Below B0 w V1) := Lib.hid (by rw [← hV1, ← hB0]; exact (Below.refl _ _).alloc (Nat.le_refl _) _)
  go_enter Try.func18, Try.ntmps18
  go_upto_region 1 with (fail)
  replace hB0 := Lib.hid hB0
  replace hV1 := Lib.hid hV1
  have c4 : V1.cell? ⟨B0, 4, none⟩ = some (.bool true) := (blk_cell Hj.out 4).trans h4
  replace HU := Lib.hid HU
  replace zP := Lib.hid zP
  replace zR := Lib.hid zR
  go_wp2_with (first | (refine wpl_ldm _ _ rfl (by rfl) B0 7 rfl Hj.out zP.out Try.underlying30 rfl (by kernel_rfl) zR.out ?_))
  refine (HU.out _).mono ?_; rintro e V_5 ⟨rfl, hb_6⟩
  have H_7 : Hid (V_5.heap[B0]? = some (.cells (P ++ R) 32 (0, 0))) := Lib.hid ((hb_6.block B0 (blk_lt Hj.out)).trans Hj.out)
  have HE_8 : Hid (Below B0 w V_5) := Lib.hid (HE.out.trans (hb_6.mono (sz_le hB0.out HE.out.size)))
  clear c4
  clear HE Hj
  clear hb_6
  go_wp2
  go_ret
  exact ⟨rfl, HE_8.out⟩
end Go.Proofs.Ytpjehbcchanmhaa.PC
