/- The reference's Step of a run, over arrays. -/
import Derived.Test.YtpjehbcchanmhaaRl
namespace Go.Proofs.Ytpjehbcchanmhaa.PS
open Go.RowKit Go.Proofs.Ytpjehbcchanmhaa.PC Go.Proofs.YtpjehbcchanmhaaW.PrintWords Go.Proofs.YtpjehbcchanmhaaW.PrintLast Go.Proofs.YtpjehbcchanmhaaW.PrintMore
set_option linter.unusedVariables false
set_option linter.unusedSimpArgs false
set_option maxRecDepth 100000 in
set_option maxHeartbeats 6000000 in
theorem rs_runs_t (w : World) (t : S28) (d : Int) (p : Nat) (lf fl lm fm : Int) (st : Bool) (R : Array Value) (eR : R = RA t d ⟨p, lf, st, fl⟩) (ok : OkT t) (h1 : 1 ≤ d) (h2 : d ≤ t.f3) (hw1 : wrap64 (lf - 1) = lm) (hw2 : wrap64 (fl + 1) = fm) (hw3 : wrap64 ((p : Int) + 1) = (p : Int) + 1) (hgt : decide (0 < lm) = true) : Calls Try.prog 17 #[.agg R, .bool true] w fun e w' => e = .returned (.tuple #[.agg (RA t d ⟨p, lm, true, fl⟩), .int .i64 0]) ∧ Below w.heap.size w w' := by
  have zR : Hid (R.size = 16) := Lib.hid (by rw [eR]; exact RA_size _ _ _)
  have oR : Hid (R.all (·.oneCell') = true) := Lib.hid (by rw [eR]; exact RA_one _ _ _)
  replace eR := Lib.hid eR
  obtain ⟨pI, hpI⟩ : ∃ pI : Int, (p : Int) = pI := ⟨_, rfl⟩
  rw [hpI] at hw3
  replace ok := Lib.hid ok
  obtain ⟨ZR, eZR⟩ : ∃ A : Array Value, A = #[.string ⟨#[]⟩, .int .i64 0, .int .i64 0, .int .i64 0, .int .i64 0, .int .i64 0, .int .i64 0, .int .i64 0, .int .i64 0, .int .i64 0, .int .i64 0, .int .i64 0, .int .i64 0, .int .i64 0, .bool false, .int .i64 0] := ⟨_, rfl⟩
  have zZR : Hid (ZR.size = 16) := Lib.hid (by rw [eZR]; rfl)
  have hz : ∀ V : World, (zeroValue 30).run Try.prog V = .ok (.agg ZR) V := fun V => by rw [eZR]; kernel_rfl
  replace eZR := Lib.hid eZR
  obtain ⟨B0, hB0⟩ : ∃ B, w.heap.size = B := ⟨_, rfl⟩
  rw [hB0]
  obtain ⟨V0, hV0⟩ : ∃ V, w.alloc (.cells R 30) = V := ⟨_, rfl⟩
  obtain ⟨X1, hX1⟩ : ∃ X, V0.heap.size = X := ⟨_, rfl⟩
  obtain ⟨V1, hV1⟩ : ∃ V, V0.alloc (.cells ZR 30) = V := ⟨_, rfl⟩
  have g0 : V0.heap[B0]? = some (.cells R 30 (0, 0)) := by rw [← hV0]; exact (box_new hB0).1
  have lt1 : B0 < X1 := hX1 ▸ blk_lt g0
  have Hr : Hid (V1.heap[B0]? = some (.cells R 30 (0, 0))) := Lib.hid (by rw [← hV1]; exact ((box_new hX1).2 _ lt1).trans g0)
  have Hz : Hid (V1.heap[X1]? = some (.cells ZR 30 (0, 0))) := Lib.hid (by rw [← hV1]; exact (box_new hX1).1)
  have HE : Hid (Below B0 w V1) := Lib.hid (by rw [← hV1, ← hV0, ← hB0]; exact ((Below.refl _ _).alloc (Nat.le_refl _) _).alloc (by simp) _)
  have ge1 : B0 ≤ X1 := Nat.le_of_lt lt1
  clear g0
  go_enter Try.func17, Try.ntmps17
  go_upto_region 1 with (fail)
  replace hB0 := Lib.hid hB0
  replace hV0 := Lib.hid hV0
  replace hX1 := Lib.hid hX1
  replace hV1 := Lib.hid hV1
  replace hpI := Lib.hid hpI
  obtain ⟨A_8, eA_8⟩ : ∃ A, A = RA t d ⟨p, lm, st, fl⟩ := ⟨_, rfl⟩
  have zA_8 : Hid (A_8.size = 16) := Lib.hid (by rw [eA_8]; exact RA_size _ _ _)
  have oA_8 : Hid (A_8.all (·.oneCell') = true) := Lib.hid (by rw [eA_8]; exact RA_one _ _ _)
  replace eA_8 := Lib.hid eA_8
  have cp_10 : V1.cell? ⟨B0, 13, none⟩ = some (.int .i64 lf) := by rw [blk_cell Hr.out]; exact (by rw [eR.out]; simp [RA, TA])
  have zp_11 : V1.frozen? ⟨B0, 13, none⟩ = false := blk_frozen Hr.out 13
  go_upto_region 2 with (fail)
  have H_12 : Hid ((V1.setCell ⟨B0, 13, none⟩ (.int .i64 lm)).heap[X1]? = some (.cells ZR 30 (0, 0))) := Lib.hid (blk_far Hz.out (Nat.ne_of_gt lt1) _)
  have H_13 : Hid ((V1.setCell ⟨B0, 13, none⟩ (.int .i64 lm)).heap[B0]? = some (.cells A_8 30 (0, 0))) := Lib.hid (blk_put Hr.out 13 _ (by rw [eR.out, eA_8.out]; simp [RA, TA]))
  have HE_14 : Hid (Below B0 w (V1.setCell ⟨B0, 13, none⟩ (.int .i64 lm))) := Lib.hid (HE.out.setCell (p := ⟨B0, 13, none⟩) (Nat.le_refl B0) _)
  clear cp_10 zp_11
  generalize (V1.setCell ⟨B0, 13, none⟩ (.int .i64 lm)) = V_9 at H_12 H_13 HE_14 ⊢
  clear HE Hz Hr
  obtain ⟨A_15, eA_15⟩ : ∃ A, A = RA t d ⟨p, lm, true, fl⟩ := ⟨_, rfl⟩
  have zA_15 : Hid (A_15.size = 16) := Lib.hid (by rw [eA_15]; exact RA_size _ _ _)
  have oA_15 : Hid (A_15.all (·.oneCell') = true) := Lib.hid (by rw [eA_15]; exact RA_one _ _ _)
  replace eA_15 := Lib.hid eA_15
  have cp_17 : V_9.cell? ⟨B0, 14, none⟩ = some (.bool st) := by rw [blk_cell H_13.out]; exact (by rw [eA_8.out]; simp [RA, TA])
  have zp_18 : V_9.frozen? ⟨B0, 14, none⟩ = false := blk_frozen H_13.out 14
  go_upto_region 4 with (fail)
  have H_19 : Hid ((V_9.setCell ⟨B0, 14, none⟩ (.bool true)).heap[X1]? = some (.cells ZR 30 (0, 0))) := Lib.hid (blk_far H_12.out (Nat.ne_of_gt lt1) _)
  have H_20 : Hid ((V_9.setCell ⟨B0, 14, none⟩ (.bool true)).heap[B0]? = some (.cells A_15 30 (0, 0))) := Lib.hid (blk_put H_13.out 14 _ (by rw [eA_8.out, eA_15.out]; simp [RA, TA]))
  have HE_21 : Hid (Below B0 w (V_9.setCell ⟨B0, 14, none⟩ (.bool true))) := Lib.hid (HE_14.out.setCell (p := ⟨B0, 14, none⟩) (Nat.le_refl B0) _)
  clear cp_17 zp_18
  generalize (V_9.setCell ⟨B0, 14, none⟩ (.bool true)) = V_16 at H_19 H_20 HE_21 ⊢
  clear HE_14 H_12 H_13
  have c_22 : V_16.cell? ⟨B0, 13, none⟩ = some (.int .i64 lm) := by rw [blk_cell H_20.out, eA_15.out]; simp [RA, TA]
  go_upto_region 5 with (fail)
  clear c_22
  obtain ⟨V_23, q_24_0, q_24_1, q_24_2, q_24_3⟩ := st_any H_19.out zZR.out zA_15.out oA_15.out
  have H_25 : Hid (V_23.heap[B0]? = some (.cells A_15 30 (0, 0))) := Lib.hid ((q_24_2 _ (Nat.ne_of_lt lt1)).trans H_20.out)
  have HE_26 : Hid (Below B0 w V_23) := Lib.hid (q_24_3 _ _ ge1 HE_21.out)
  have H_27 := Lib.hid q_24_1
  clear q_24_1 q_24_2 q_24_3
  go_wp2_with (first | (refine wpl_ld _ _ rfl (by rfl) B0 rfl H_20.out Try.underlying30 rfl (by kernel_rfl) zA_15.out ?_))
  clear q_24_0
  clear HE_21 H_20 H_19
  refine bodyPost_ret (v := .tuple #[.agg A_15, .int .i64 0]) (by refine Eq.trans (rc2 (fn := Try.f17) rfl _ _ X1 ?_ H_27.out Try.underlying30 rfl (by kernel_rfl) zA_15.out) ?_ <;> rfl) rfl ⟨?_, HE_26.out⟩
  rw [eA_15.out]
set_option maxRecDepth 100000 in
set_option maxHeartbeats 6000000 in
theorem rs_runs_f (w : World) (t : S28) (d : Int) (p : Nat) (lf fl lm fm : Int) (st : Bool) (R : Array Value) (eR : R = RA t d ⟨p, lf, st, fl⟩) (ok : OkT t) (h1 : 1 ≤ d) (h2 : d ≤ t.f3) (hw1 : wrap64 (lf - 1) = lm) (hw2 : wrap64 (fl + 1) = fm) (hw3 : wrap64 ((p : Int) + 1) = (p : Int) + 1) (hgt : decide (0 < lm) = true) : Calls Try.prog 17 #[.agg R, .bool false] w fun e w' => e = .returned (.tuple #[.agg (RA t d ⟨p, lm, st, fl⟩), .int .i64 0]) ∧ Below w.heap.size w w' := by
  have zR : Hid (R.size = 16) := Lib.hid (by rw [eR]; exact RA_size _ _ _)
  have oR : Hid (R.all (·.oneCell') = true) := Lib.hid (by rw [eR]; exact RA_one _ _ _)
  replace eR := Lib.hid eR
  obtain ⟨pI, hpI⟩ : ∃ pI : Int, (p : Int) = pI := ⟨_, rfl⟩
  rw [hpI] at hw3
  replace ok := Lib.hid ok
  obtain ⟨ZR, eZR⟩ : ∃ A : Array Value, A = #[.string ⟨#[]⟩, .int .i64 0, .int .i64 0, .int .i64 0, .int .i64 0, .int .i64 0, .int .i64 0, .int .i64 0, .int .i64 0, .int .i64 0, .int .i64 0, .int .i64 0, .int .i64 0, .int .i64 0, .bool false, .int .i64 0] := ⟨_, rfl⟩
  have zZR : Hid (ZR.size = 16) := Lib.hid (by rw [eZR]; rfl)
  have hz : ∀ V : World, (zeroValue 30).run Try.prog V = .ok (.agg ZR) V := fun V => by rw [eZR]; kernel_rfl
  replace eZR := Lib.hid eZR
  obtain ⟨B0, hB0⟩ : ∃ B, w.heap.size = B := ⟨_, rfl⟩
  rw [hB0]
  obtain ⟨V0, hV0⟩ : ∃ V, w.alloc (.cells R 30) = V := ⟨_, rfl⟩
  obtain ⟨X1, hX1⟩ : ∃ X, V0.heap.size = X := ⟨_, rfl⟩
  obtain ⟨V1, hV1⟩ : ∃ V, V0.alloc (.cells ZR 30) = V := ⟨_, rfl⟩
  have g0 : V0.heap[B0]? = some (.cells R 30 (0, 0)) := by rw [← hV0]; exact (box_new hB0).1
  have lt1 : B0 < X1 := hX1 ▸ blk_lt g0
  have Hr : Hid (V1.heap[B0]? = some (.cells R 30 (0, 0))) := Lib.hid (by rw [← hV1]; exact ((box_new hX1).2 _ lt1).trans g0)
  have Hz : Hid (V1.heap[X1]? = some (.cells ZR 30 (0, 0))) := Lib.hid (by rw [← hV1]; exact (box_new hX1).1)
  have HE : Hid (Below B0 w V1) := Lib.hid (by rw [← hV1, ← hV0, ← hB0]; exact ((Below.refl _ _).alloc (Nat.le_refl _) _).alloc (by simp) _)
  have ge1 : B0 ≤ X1 := Nat.le_of_lt lt1
  clear g0
  go_enter Try.func17, Try.ntmps17
  go_upto_region 1 with (fail)
  replace hB0 := Lib.hid hB0
  replace hV0 := Lib.hid hV0
  replace hX1 := Lib.hid hX1
  replace hV1 := Lib.hid hV1
  replace hpI := Lib.hid hpI
  obtain ⟨A_28, eA_28⟩ : ∃ A, A = RA t d ⟨p, lm, st, fl⟩ := ⟨_, rfl⟩
  have zA_28 : Hid (A_28.size = 16) := Lib.hid (by rw [eA_28]; exact RA_size _ _ _)
  have oA_28 : Hid (A_28.all (·.oneCell') = true) := Lib.hid (by rw [eA_28]; exact RA_one _ _ _)
  replace eA_28 := Lib.hid eA_28
  have cp_30 : V1.cell? ⟨B0, 13, none⟩ = some (.int .i64 lf) := by rw [blk_cell Hr.out]; exact (by rw [eR.out]; simp [RA, TA])
  have zp_31 : V1.frozen? ⟨B0, 13, none⟩ = false := blk_frozen Hr.out 13
  go_upto_region 2 with (fail)
  have H_32 : Hid ((V1.setCell ⟨B0, 13, none⟩ (.int .i64 lm)).heap[X1]? = some (.cells ZR 30 (0, 0))) := Lib.hid (blk_far Hz.out (Nat.ne_of_gt lt1) _)
  have H_33 : Hid ((V1.setCell ⟨B0, 13, none⟩ (.int .i64 lm)).heap[B0]? = some (.cells A_28 30 (0, 0))) := Lib.hid (blk_put Hr.out 13 _ (by rw [eR.out, eA_28.out]; simp [RA, TA]))
  have HE_34 : Hid (Below B0 w (V1.setCell ⟨B0, 13, none⟩ (.int .i64 lm))) := Lib.hid (HE.out.setCell (p := ⟨B0, 13, none⟩) (Nat.le_refl B0) _)
  clear cp_30 zp_31
  generalize (V1.setCell ⟨B0, 13, none⟩ (.int .i64 lm)) = V_29 at H_32 H_33 HE_34 ⊢
  clear HE Hz Hr
  have c_35 : V_29.cell? ⟨B0, 13, none⟩ = some (.int .i64 lm) := by rw [blk_cell H_33.out, eA_28.out]; simp [RA, TA]
  go_upto_region 5 with (fail)
  clear c_35
  obtain ⟨V_36, q_37_0, q_37_1, q_37_2, q_37_3⟩ := st_any H_32.out zZR.out zA_28.out oA_28.out
  have H_38 : Hid (V_36.heap[B0]? = some (.cells A_28 30 (0, 0))) := Lib.hid ((q_37_2 _ (Nat.ne_of_lt lt1)).trans H_33.out)
  have HE_39 : Hid (Below B0 w V_36) := Lib.hid (q_37_3 _ _ ge1 HE_34.out)
  have H_40 := Lib.hid q_37_1
  clear q_37_1 q_37_2 q_37_3
  go_wp2_with (first | (refine wpl_ld _ _ rfl (by rfl) B0 rfl H_33.out Try.underlying30 rfl (by kernel_rfl) zA_28.out ?_))
  clear q_37_0
  clear HE_34 H_33 H_32
  refine bodyPost_ret (v := .tuple #[.agg A_28, .int .i64 0]) (by refine Eq.trans (rc2 (fn := Try.f17) rfl _ _ X1 ?_ H_40.out Try.underlying30 rfl (by kernel_rfl) zA_28.out) ?_ <;> rfl) rfl ⟨?_, HE_39.out⟩
  rw [eA_28.out]
set_option maxRecDepth 100000 in
set_option maxHeartbeats 6000000 in
theorem rs_passed_f (w : World) (t : S28) (d : Int) (p : Nat) (lf fl lm fm : Int) (st : Bool) (R : Array Value) (eR : R = RA t d ⟨p, lf, st, fl⟩) (ok : OkT t) (h1 : 1 ≤ d) (h2 : d ≤ t.f3) (hw1 : wrap64 (lf - 1) = lm) (hw2 : wrap64 (fl + 1) = fm) (hw3 : wrap64 ((p : Int) + 1) = (p : Int) + 1) (hgt : decide (0 < lm) = false) (hst : st = false) (h9 : (t.f9 == 1) = true) (hlt : decide ((p : Int) + 1 < ((pt t d).length : Int)) = true) (x : Int) (hx : x = rd (pt t d) ((p + 1 : Nat) : Int)) : Calls Try.prog 17 #[.agg R, .bool false] w fun e w' => e = .returned (.tuple #[.agg (RA t d ⟨(p + 1), x, false, fl⟩), .int .i64 1]) ∧ Below w.heap.size w w' := by
  have zR : Hid (R.size = 16) := Lib.hid (by rw [eR]; exact RA_size _ _ _)
  have oR : Hid (R.all (·.oneCell') = true) := Lib.hid (by rw [eR]; exact RA_one _ _ _)
  replace eR := Lib.hid eR
  obtain ⟨pI, hpI⟩ : ∃ pI : Int, (p : Int) = pI := ⟨_, rfl⟩
  rw [hpI] at hw3
  replace ok := Lib.hid ok
  obtain ⟨ZR, eZR⟩ : ∃ A : Array Value, A = #[.string ⟨#[]⟩, .int .i64 0, .int .i64 0, .int .i64 0, .int .i64 0, .int .i64 0, .int .i64 0, .int .i64 0, .int .i64 0, .int .i64 0, .int .i64 0, .int .i64 0, .int .i64 0, .int .i64 0, .bool false, .int .i64 0] := ⟨_, rfl⟩
  have zZR : Hid (ZR.size = 16) := Lib.hid (by rw [eZR]; rfl)
  have hz : ∀ V : World, (zeroValue 30).run Try.prog V = .ok (.agg ZR) V := fun V => by rw [eZR]; kernel_rfl
  replace eZR := Lib.hid eZR
  obtain ⟨B0, hB0⟩ : ∃ B, w.heap.size = B := ⟨_, rfl⟩
  rw [hB0]
  obtain ⟨V0, hV0⟩ : ∃ V, w.alloc (.cells R 30) = V := ⟨_, rfl⟩
  obtain ⟨X1, hX1⟩ : ∃ X, V0.heap.size = X := ⟨_, rfl⟩
  obtain ⟨V1, hV1⟩ : ∃ V, V0.alloc (.cells ZR 30) = V := ⟨_, rfl⟩
  have g0 : V0.heap[B0]? = some (.cells R 30 (0, 0)) := by rw [← hV0]; exact (box_new hB0).1
  have lt1 : B0 < X1 := hX1 ▸ blk_lt g0
  have Hr : Hid (V1.heap[B0]? = some (.cells R 30 (0, 0))) := Lib.hid (by rw [← hV1]; exact ((box_new hX1).2 _ lt1).trans g0)
  have Hz : Hid (V1.heap[X1]? = some (.cells ZR 30 (0, 0))) := Lib.hid (by rw [← hV1]; exact (box_new hX1).1)
  have HE : Hid (Below B0 w V1) := Lib.hid (by rw [← hV1, ← hV0, ← hB0]; exact ((Below.refl _ _).alloc (Nat.le_refl _) _).alloc (by simp) _)
  have ge1 : B0 ≤ X1 := Nat.le_of_lt lt1
  clear g0
  go_enter Try.func17, Try.ntmps17
  go_upto_region 1 with (fail)
  replace hB0 := Lib.hid hB0
  replace hV0 := Lib.hid hV0
  replace hX1 := Lib.hid hX1
  replace hV1 := Lib.hid hV1
  replace hpI := Lib.hid hpI
  obtain ⟨A_41, eA_41⟩ : ∃ A, A = RA t d ⟨p, lm, st, fl⟩ := ⟨_, rfl⟩
  have zA_41 : Hid (A_41.size = 16) := Lib.hid (by rw [eA_41]; exact RA_size _ _ _)
  have oA_41 : Hid (A_41.all (·.oneCell') = true) := Lib.hid (by rw [eA_41]; exact RA_one _ _ _)
  replace eA_41 := Lib.hid eA_41
  have cp_43 : V1.cell? ⟨B0, 13, none⟩ = some (.int .i64 lf) := by rw [blk_cell Hr.out]; exact (by rw [eR.out]; simp [RA, TA])
  have zp_44 : V1.frozen? ⟨B0, 13, none⟩ = false := blk_frozen Hr.out 13
  go_upto_region 2 with (fail)
  have H_45 : Hid ((V1.setCell ⟨B0, 13, none⟩ (.int .i64 lm)).heap[X1]? = some (.cells ZR 30 (0, 0))) := Lib.hid (blk_far Hz.out (Nat.ne_of_gt lt1) _)
  have H_46 : Hid ((V1.setCell ⟨B0, 13, none⟩ (.int .i64 lm)).heap[B0]? = some (.cells A_41 30 (0, 0))) := Lib.hid (blk_put Hr.out 13 _ (by rw [eR.out, eA_41.out]; simp [RA, TA]))
  have HE_47 : Hid (Below B0 w (V1.setCell ⟨B0, 13, none⟩ (.int .i64 lm))) := Lib.hid (HE.out.setCell (p := ⟨B0, 13, none⟩) (Nat.le_refl B0) _)
  clear cp_43 zp_44
  generalize (V1.setCell ⟨B0, 13, none⟩ (.int .i64 lm)) = V_42 at H_45 H_46 HE_47 ⊢
  clear HE Hz Hr
  have c_48 : V_42.cell? ⟨B0, 13, none⟩ = some (.int .i64 lm) := by rw [blk_cell H_46.out, eA_41.out]; simp [RA, TA]
  go_upto_region 6 with (fail)
  clear c_48
  subst hst
  have c_49 : V_42.cell? ⟨B0, 14, none⟩ = some (.bool false) := by rw [blk_cell H_46.out, eA_41.out]; simp [RA, TA]
  go_upto_region 7 with (fail)
  clear c_49
  have PC := Lib.hid (fun W A hA => refparts_c ok.out h1 h2 W A hA)
  obtain ⟨len, hlen⟩ : ∃ n, n = (pt t d).length := ⟨_, rfl⟩
  rw [← hlen, hpI.out] at hlt
  replace hlen := Lib.hid hlen
  refine start_ (n := 16) (S := fun w' => w'.heap[B0]? = some (.cells A_41 30 (0, 0)) ∧ w'.cell? ⟨B0, 9, none⟩ = some (.int .i64 t.f9) ∧ w'.cell? ⟨B0, 11, none⟩ = some (.int .i64 d) ∧ w'.cell? ⟨B0, 12, none⟩ = some (.int .i64 pI)) (ds := []) #[false, false, false, false, false, false, false, false, false, false, false, false, false, false, false, false] (by kernel_rfl) rfl rfl ⟨H_46.out, (blk_cell (H_46.out) 9).trans (by rw [eA_41.out]; simp [RA, TA]), (blk_cell (H_46.out) 11).trans (by rw [eA_41.out]; simp [RA, TA]), (blk_cell (H_46.out) 12).trans (by rw [eA_41.out, ← hpI.out]; simp [RA, TA])⟩ (fun hHeld => ?_)
  refine pure_ (i := 0) (N := (some 20)) (v := ?_) (a' := ?_) #[true, false, false, false, false, false, false, false, false, false, false, false, false, false, false, false] rfl rfl (by kernel_rfl) (fun _ _ _ h => h) (Or.inl ⟨by rfl, ?_⟩) ?_ ?_
  rotate_left
  · intro w'
    go_simp
    with_reducible rfl
  rotate_left
  · simp only [Act.put, List.setIfInBounds_toArray, List.set_cons_zero, List.set_cons_succ, i64_w, i32_w]
    rfl
  refine pure_ (i := 1) (N := (some 21)) (v := ?_) (a' := ?_) #[true, true, false, false, false, false, false, false, false, false, false, false, false, false, false, false] rfl rfl (by kernel_rfl) (fun _ _ _ h => h) (Or.inl ⟨by rfl, ?_⟩) ?_ ?_
  rotate_left
  · intro w'
    go_simp
    with_reducible rfl
  rotate_left
  · simp only [Act.put, List.setIfInBounds_toArray, List.set_cons_zero, List.set_cons_succ, i64_w, i32_w]
    rfl
  refine take_ (i := 2) (N := (some 22)) (v := ?_) (a' := ?_) #[true, true, true, false, false, false, false, false, false, false, false, false, false, false, false, false] rfl rfl (by kernel_rfl) (fun _ _ _ h => h) (Or.inl ⟨by rfl, ?_⟩) hHeld ?_ ?_
  rotate_left
  · rintro w' ⟨s0, s1, s2, s3⟩
    go_simp
    with_reducible rfl
  rotate_left
  · simp only [Act.put, List.setIfInBounds_toArray, List.set_cons_zero, List.set_cons_succ, i64_w, i32_w]
    rfl
  refine pure_ (i := 3) (N := (some 23)) (v := ?_) (a' := ?_) #[true, true, true, true, false, false, false, false, false, false, false, false, false, false, false, false] rfl rfl (by kernel_rfl) (fun _ _ _ h => h) (Or.inl ⟨by rfl, ?_⟩) ?_ ?_
  rotate_left
  · intro w'
    go_simp
    with_reducible rfl
  rotate_left
  · simp only [Act.put, List.setIfInBounds_toArray, List.set_cons_zero, List.set_cons_succ, i64_w, i32_w]
    rfl
  refine pure_ (i := 4) (N := (some 24)) (v := ?_) (a' := ?_) #[true, true, true, true, true, false, false, false, false, false, false, false, false, false, false, false] rfl rfl (by kernel_rfl) (fun _ _ _ h => h) (Or.inl ⟨by rfl, ?_⟩) ?_ ?_
  rotate_left
  · intro w'
    go_simp
    with_reducible rfl
  rotate_left
  · simp only [Act.put, List.setIfInBounds_toArray, List.set_cons_zero, List.set_cons_succ, i64_w, i32_w]
    rfl
  refine pure_ (i := 5) (N := (some 25)) (v := ?_) (a' := ?_) #[true, true, true, true, true, true, false, false, false, false, false, false, false, false, false, false] rfl rfl (by kernel_rfl) (fun _ _ _ h => h) (Or.inl ⟨by rfl, ?_⟩) ?_ ?_
  rotate_left
  · intro w'
    go_simp
    with_reducible rfl
  rotate_left
  · simp only [Act.put, List.setIfInBounds_toArray, List.set_cons_zero, List.set_cons_succ, i64_w, i32_w]
    rfl
  refine take_ (i := 6) (N := (some 26)) (v := ?_) (a' := ?_) #[true, true, true, true, true, true, true, false, false, false, false, false, false, false, false, false] rfl rfl (by kernel_rfl) (fun _ _ _ h => h) (Or.inl ⟨by rfl, ?_⟩) hHeld ?_ ?_
  rotate_left
  · rintro w' ⟨s0, s1, s2, s3⟩
    go_simp
    with_reducible rfl
  rotate_left
  · simp only [Act.put, List.setIfInBounds_toArray, List.set_cons_zero, List.set_cons_succ, i64_w, i32_w]
    rfl
  refine pure_ (i := 7) (N := (some 27)) (v := ?_) (a' := ?_) #[true, true, true, true, true, true, true, true, false, false, false, false, false, false, false, false] rfl rfl (by kernel_rfl) (fun _ _ _ h => h) (Or.inl ⟨by rfl, ?_⟩) ?_ ?_
  rotate_left
  · intro w'
    go_simp
    with_reducible rfl
  rotate_left
  · simp only [Act.put, List.setIfInBounds_toArray, List.set_cons_zero, List.set_cons_succ, i64_w, i32_w]
    rfl
  refine pure_ (i := 8) (N := (some 28)) (v := ?_) (a' := ?_) #[true, true, true, true, true, true, true, true, true, false, false, false, false, false, false, false] rfl rfl (by kernel_rfl) (fun _ _ _ h => h) (Or.inl ⟨by rfl, ?_⟩) ?_ ?_
  rotate_left
  · intro w'
    go_simp
    with_reducible rfl
  rotate_left
  · simp only [Act.put, List.setIfInBounds_toArray, List.set_cons_zero, List.set_cons_succ, i64_w, i32_w]
    rfl
  refine take_ (i := 9) (N := (some 29)) (v := .agg (TA t)) (a' := ?_) #[true, true, true, true, true, true, true, true, true, true, false, false, false, false, false, false] rfl rfl (by kernel_rfl) (fun _ _ _ h => h) (Or.inl ⟨by rfl, ?_⟩) hHeld ?_ ?_
  · rintro w' ⟨s0, s1, s2, s3⟩
    exact ld_row 28 _ rfl B0 0 rfl (row_of s0 eA_41.out) Try.underlying28 rfl (by kernel_rfl) rfl
  rotate_left
  · simp only [Act.put, List.setIfInBounds_toArray, List.set_cons_zero, List.set_cons_succ, i64_w, i32_w]
    rfl
  refine pure_ (i := 10) (N := (some 30)) (v := ?_) (a' := ?_) #[true, true, true, true, true, true, true, true, true, true, true, false, false, false, false, false] rfl rfl (by kernel_rfl) (fun _ _ _ h => h) (Or.inl ⟨by rfl, ?_⟩) ?_ ?_
  rotate_left
  · intro w'
    go_simp
    with_reducible rfl
  rotate_left
  · simp only [Act.put, List.setIfInBounds_toArray, List.set_cons_zero, List.set_cons_succ, i64_w, i32_w]
    rfl
  refine take_ (i := 11) (N := (some 31)) (v := ?_) (a' := ?_) #[true, true, true, true, true, true, true, true, true, true, true, true, false, false, false, false] rfl rfl (by kernel_rfl) (fun _ _ _ h => h) (Or.inl ⟨by rfl, ?_⟩) hHeld ?_ ?_
  rotate_left
  · rintro w' ⟨s0, s1, s2, s3⟩
    go_simp
    with_reducible rfl
  rotate_left
  · simp only [Act.put, List.setIfInBounds_toArray, List.set_cons_zero, List.set_cons_succ, i64_w, i32_w]
    rfl
  refine one_ (i := 12) (N := (some 32)) #[true, true, true, true, true, true, true, true, true, true, true, true, true, false, false, false] rfl rfl (by kernel_rfl) (by decide) (fun K hK => ?_)
  refine goes_ Try.func22 (by kernel_rfl) rfl #[.agg (TA t), .int .i64 d] (by rfl) rfl rfl (by (try simp only [List.map_toArray, List.map_cons, List.map_nil]); first | done | rfl) ?_
  refine (PC.out _ _ rfl).mono ?_
  rintro e V4 ⟨g, cp, cur, rfl, hgr, hrow, hcp, hb4⟩
  have Hr4 := Lib.hid ((hb4.block B0 (blk_lt H_46.out)).trans H_46.out)
  have Hz4 := Lib.hid ((hb4.block X1 (blk_lt H_45.out)).trans H_45.out)
  have HE4 := Lib.hid ((HE_47.out.drew).trans (hb4.mono (sz_le hB0.out HE_47.out.size)))
  clear hrow hgr
  rw [← hlen.out] at hcp ⊢
  refine ⟨_, rfl, ?_⟩
  refine hK.out _ _ ⟨Hr4.out, (blk_cell (Hr4.out) 9).trans (by rw [eA_41.out]; simp [RA, TA]), (blk_cell (Hr4.out) 11).trans (by rw [eA_41.out]; simp [RA, TA]), (blk_cell (Hr4.out) 12).trans (by rw [eA_41.out, ← hpI.out]; simp [RA, TA])⟩ (fun hHeld => ?_)
  clear hb4 H_46 H_45 HE_47
  clear hK K
  refine norm_ (a' := ?_) ?_ ?_
  rotate_left
  · show Act.put _ (some 32) _ = _
    simp only [Act.put, List.setIfInBounds_toArray, List.set_cons_zero, List.set_cons_succ, i64_w, i32_w]
    rfl
  refine pure_ (i := 13) (N := (some 33)) (v := ?_) (a' := ?_) #[true, true, true, true, true, true, true, true, true, true, true, true, true, true, false, false] rfl rfl (by kernel_rfl) (fun _ _ _ h => h) (Or.inl ⟨by rfl, ?_⟩) ?_ ?_
  rotate_left
  · intro w'
    go_simp
    with_reducible rfl
  rotate_left
  · simp only [Act.put, List.setIfInBounds_toArray, List.set_cons_zero, List.set_cons_succ, i64_w, i32_w]
    rfl
  refine pure_ (i := 14) (N := (some 34)) (v := ?_) (a' := ?_) #[true, true, true, true, true, true, true, true, true, true, true, true, true, true, true, false] rfl rfl (by kernel_rfl) (fun _ _ _ h => h) (Or.inl ⟨by rfl, ?_⟩) ?_ ?_
  rotate_left
  · intro w'
    go_simp
    with_reducible rfl
  rotate_left
  · simp only [Act.put, List.setIfInBounds_toArray, List.set_cons_zero, List.set_cons_succ, i64_w, i32_w]
    rfl
  refine pure_ (i := 15) (N := (some 35)) (v := ?_) (a' := ?_) #[true, true, true, true, true, true, true, true, true, true, true, true, true, true, true, true] rfl rfl (by kernel_rfl) (fun _ _ _ h => h) (Or.inl ⟨by rfl, ?_⟩) ?_ ?_
  rotate_left
  · intro w'
    go_simp
    with_reducible rfl
  rotate_left
  · simp only [Act.put, List.setIfInBounds_toArray, List.set_cons_zero, List.set_cons_succ, i64_w, i32_w]
    rfl
  refine done_ (by kernel_rfl) ?_
  go_upto_region 8 with (fail)
  obtain ⟨A_50, eA_50⟩ : ∃ A, A = RA t d ⟨(p + 1), lm, false, fl⟩ := ⟨_, rfl⟩
  have zA_50 : Hid (A_50.size = 16) := Lib.hid (by rw [eA_50]; exact RA_size _ _ _)
  have oA_50 : Hid (A_50.all (·.oneCell') = true) := Lib.hid (by rw [eA_50]; exact RA_one _ _ _)
  replace eA_50 := Lib.hid eA_50
  have cp_52 : V4.cell? ⟨B0, 12, none⟩ = some (.int .i64 pI) := by rw [blk_cell Hr4.out]; exact (by rw [eA_41.out, ← hpI.out]; simp [RA, TA])
  have zp_53 : V4.frozen? ⟨B0, 12, none⟩ = false := blk_frozen Hr4.out 12
  go_upto_region 9 with (fail)
  have H_54 : Hid ((V4.setCell ⟨B0, 12, none⟩ (.int .i64 (pI + 1))).heap[X1]? = some (.cells ZR 30 (0, 0))) := Lib.hid (blk_far Hz4.out (Nat.ne_of_gt lt1) _)
  have H_55 : Hid ((V4.setCell ⟨B0, 12, none⟩ (.int .i64 (pI + 1))).heap[B0]? = some (.cells A_50 30 (0, 0))) := Lib.hid (blk_put Hr4.out 12 _ (by rw [eA_41.out, eA_50.out]; simp [RA, TA, hpI.out]))
  have HE_56 : Hid (Below B0 w (V4.setCell ⟨B0, 12, none⟩ (.int .i64 (pI + 1)))) := Lib.hid (HE4.out.setCell (p := ⟨B0, 12, none⟩) (Nat.le_refl B0) _)
  clear cp_52 zp_53
  generalize (V4.setCell ⟨B0, 12, none⟩ (.int .i64 (pI + 1))) = V_51 at H_54 H_55 HE_56 ⊢
  clear HE4 Hz4 Hr4
  have h9' : t.f9 = 1 := by simpa using h9
  replace hx := Lib.hid hx
  have hlp : p + 1 < (pt t d).length := by have := of_decide_eq_true hlt; rw [← hpI.out, hlen.out] at this; omega
  replace h9' := Lib.hid h9'
  replace hlp := Lib.hid hlp
  go_wp2_with (first | (refine wpl_ld _ _ rfl (by rfl) B0 rfl H_55.out Try.underlying30 rfl (by kernel_rfl) zA_50.out ?_))
  refine (length_c _ t d ⟨p + 1, lm, false, fl⟩ _ eA_50.out ok.out h1 h2 (.inr hlp.out) x (by unfold lenv; rw [if_neg (fun h => h.1 h9'.out)]; exact hx.out)).mono ?_; rintro e V_57 ⟨rfl, hb_58⟩
  have H_59 : Hid (V_57.heap[B0]? = some (.cells A_50 30 (0, 0))) := Lib.hid ((hb_58.block B0 (blk_lt H_55.out)).trans H_55.out)
  have H_60 : Hid (V_57.heap[X1]? = some (.cells ZR 30 (0, 0))) := Lib.hid ((hb_58.block X1 (blk_lt H_54.out)).trans H_54.out)
  have HE_61 : Hid (Below B0 w V_57) := Lib.hid (HE_56.out.trans (hb_58.mono (sz_le hB0.out HE_56.out.size)))
  clear HE_56 H_55 H_54
  clear hb_58
  obtain ⟨A_62, eA_62⟩ : ∃ A, A = RA t d ⟨(p + 1), x, false, fl⟩ := ⟨_, rfl⟩
  have zA_62 : Hid (A_62.size = 16) := Lib.hid (by rw [eA_62]; exact RA_size _ _ _)
  have oA_62 : Hid (A_62.all (·.oneCell') = true) := Lib.hid (by rw [eA_62]; exact RA_one _ _ _)
  replace eA_62 := Lib.hid eA_62
  have cp_64 : V_57.cell? ⟨B0, 13, none⟩ = some (.int .i64 lm) := by rw [blk_cell H_59.out]; exact (by rw [eA_50.out]; simp [RA, TA])
  have zp_65 : V_57.frozen? ⟨B0, 13, none⟩ = false := blk_frozen H_59.out 13
  go_upto_region 10 with (fail)
  have H_66 : Hid ((V_57.setCell ⟨B0, 13, none⟩ (.int .i64 x)).heap[X1]? = some (.cells ZR 30 (0, 0))) := Lib.hid (blk_far H_60.out (Nat.ne_of_gt lt1) _)
  have H_67 : Hid ((V_57.setCell ⟨B0, 13, none⟩ (.int .i64 x)).heap[B0]? = some (.cells A_62 30 (0, 0))) := Lib.hid (blk_put H_59.out 13 _ (by rw [eA_50.out, eA_62.out]; simp [RA, TA]))
  have HE_68 : Hid (Below B0 w (V_57.setCell ⟨B0, 13, none⟩ (.int .i64 x))) := Lib.hid (HE_61.out.setCell (p := ⟨B0, 13, none⟩) (Nat.le_refl B0) _)
  clear cp_64 zp_65
  generalize (V_57.setCell ⟨B0, 13, none⟩ (.int .i64 x)) = V_63 at H_66 H_67 HE_68 ⊢
  clear HE_61 H_60 H_59
  obtain ⟨V_69, q_70_0, q_70_1, q_70_2, q_70_3⟩ := st_any H_66.out zZR.out zA_62.out oA_62.out
  have H_71 : Hid (V_69.heap[B0]? = some (.cells A_62 30 (0, 0))) := Lib.hid ((q_70_2 _ (Nat.ne_of_lt lt1)).trans H_67.out)
  have HE_72 : Hid (Below B0 w V_69) := Lib.hid (q_70_3 _ _ ge1 HE_68.out)
  have H_73 := Lib.hid q_70_1
  clear q_70_1 q_70_2 q_70_3
  go_wp2_with (first | (refine wpl_ld _ _ rfl (by rfl) B0 rfl H_67.out Try.underlying30 rfl (by kernel_rfl) zA_62.out ?_))
  clear q_70_0
  clear HE_68 H_67 H_66
  refine bodyPost_ret (v := .tuple #[.agg A_62, .int .i64 1]) (by refine Eq.trans (rc2 (fn := Try.f17) rfl _ _ X1 ?_ H_73.out Try.underlying30 rfl (by kernel_rfl) zA_62.out) ?_ <;> rfl) rfl ⟨?_, HE_72.out⟩
  rw [eA_62.out]
set_option maxRecDepth 100000 in
set_option maxHeartbeats 6000000 in
theorem rs_done1_f (w : World) (t : S28) (d : Int) (p : Nat) (lf fl lm fm : Int) (st : Bool) (R : Array Value) (eR : R = RA t d ⟨p, lf, st, fl⟩) (ok : OkT t) (h1 : 1 ≤ d) (h2 : d ≤ t.f3) (hw1 : wrap64 (lf - 1) = lm) (hw2 : wrap64 (fl + 1) = fm) (hw3 : wrap64 ((p : Int) + 1) = (p : Int) + 1) (hgt : decide (0 < lm) = false) (hst : st = false) (h9 : (t.f9 == 1) = true) (hlt : decide ((p : Int) + 1 < ((pt t d).length : Int)) = false) : Calls Try.prog 17 #[.agg R, .bool false] w fun e w' => e = .returned (.tuple #[.agg (RA t d ⟨p, lm, false, fl⟩), .int .i64 4]) ∧ Below w.heap.size w w' := by
  have zR : Hid (R.size = 16) := Lib.hid (by rw [eR]; exact RA_size _ _ _)
  have oR : Hid (R.all (·.oneCell') = true) := Lib.hid (by rw [eR]; exact RA_one _ _ _)
  replace eR := Lib.hid eR
  obtain ⟨pI, hpI⟩ : ∃ pI : Int, (p : Int) = pI := ⟨_, rfl⟩
  rw [hpI] at hw3
  replace ok := Lib.hid ok
  obtain ⟨ZR, eZR⟩ : ∃ A : Array Value, A = #[.string ⟨#[]⟩, .int .i64 0, .int .i64 0, .int .i64 0, .int .i64 0, .int .i64 0, .int .i64 0, .int .i64 0, .int .i64 0, .int .i64 0, .int .i64 0, .int .i64 0, .int .i64 0, .int .i64 0, .bool false, .int .i64 0] := ⟨_, rfl⟩
  have zZR : Hid (ZR.size = 16) := Lib.hid (by rw [eZR]; rfl)
  have hz : ∀ V : World, (zeroValue 30).run Try.prog V = .ok (.agg ZR) V := fun V => by rw [eZR]; kernel_rfl
  replace eZR := Lib.hid eZR
  obtain ⟨B0, hB0⟩ : ∃ B, w.heap.size = B := ⟨_, rfl⟩
  rw [hB0]
  obtain ⟨V0, hV0⟩ : ∃ V, w.alloc (.cells R 30) = V := ⟨_, rfl⟩
  obtain ⟨X1, hX1⟩ : ∃ X, V0.heap.size = X := ⟨_, rfl⟩
  obtain ⟨V1, hV1⟩ : ∃ V, V0.alloc (.cells ZR 30) = V := ⟨_, rfl⟩
  have g0 : V0.heap[B0]? = some (.cells R 30 (0, 0)) := by rw [← hV0]; exact (box_new hB0).1
  have lt1 : B0 < X1 := hX1 ▸ blk_lt g0
  have Hr : Hid (V1.heap[B0]? = some (.cells R 30 (0, 0))) := Lib.hid (by rw [← hV1]; exact ((box_new hX1).2 _ lt1).trans g0)
  have Hz : Hid (V1.heap[X1]? = some (.cells ZR 30 (0, 0))) := Lib.hid (by rw [← hV1]; exact (box_new hX1).1)
  have HE : Hid (Below B0 w V1) := Lib.hid (by rw [← hV1, ← hV0, ← hB0]; exact ((Below.refl _ _).alloc (Nat.le_refl _) _).alloc (by simp) _)
  have ge1 : B0 ≤ X1 := Nat.le_of_lt lt1
  clear g0
  go_enter Try.func17, Try.ntmps17
  go_upto_region 1 with (fail)
  replace hB0 := Lib.hid hB0
  replace hV0 := Lib.hid hV0
  replace hX1 := Lib.hid hX1
  replace hV1 := Lib.hid hV1
  replace hpI := Lib.hid hpI
  obtain ⟨A_74, eA_74⟩ : ∃ A, A = RA t d ⟨p, lm, st, fl⟩ := ⟨_, rfl⟩
  have zA_74 : Hid (A_74.size = 16) := Lib.hid (by rw [eA_74]; exact RA_size _ _ _)
  have oA_74 : Hid (A_74.all (·.oneCell') = true) := Lib.hid (by rw [eA_74]; exact RA_one _ _ _)
  replace eA_74 := Lib.hid eA_74
  have cp_76 : V1.cell? ⟨B0, 13, none⟩ = some (.int .i64 lf) := by rw [blk_cell Hr.out]; exact (by rw [eR.out]; simp [RA, TA])
  have zp_77 : V1.frozen? ⟨B0, 13, none⟩ = false := blk_frozen Hr.out 13
  go_upto_region 2 with (fail)
  have H_78 : Hid ((V1.setCell ⟨B0, 13, none⟩ (.int .i64 lm)).heap[X1]? = some (.cells ZR 30 (0, 0))) := Lib.hid (blk_far Hz.out (Nat.ne_of_gt lt1) _)
  have H_79 : Hid ((V1.setCell ⟨B0, 13, none⟩ (.int .i64 lm)).heap[B0]? = some (.cells A_74 30 (0, 0))) := Lib.hid (blk_put Hr.out 13 _ (by rw [eR.out, eA_74.out]; simp [RA, TA]))
  have HE_80 : Hid (Below B0 w (V1.setCell ⟨B0, 13, none⟩ (.int .i64 lm))) := Lib.hid (HE.out.setCell (p := ⟨B0, 13, none⟩) (Nat.le_refl B0) _)
  clear cp_76 zp_77
  generalize (V1.setCell ⟨B0, 13, none⟩ (.int .i64 lm)) = V_75 at H_78 H_79 HE_80 ⊢
  clear HE Hz Hr
  have c_81 : V_75.cell? ⟨B0, 13, none⟩ = some (.int .i64 lm) := by rw [blk_cell H_79.out, eA_74.out]; simp [RA, TA]
  go_upto_region 6 with (fail)
  clear c_81
  subst hst
  have c_82 : V_75.cell? ⟨B0, 14, none⟩ = some (.bool false) := by rw [blk_cell H_79.out, eA_74.out]; simp [RA, TA]
  go_upto_region 7 with (fail)
  clear c_82
  have PC := Lib.hid (fun W A hA => refparts_c ok.out h1 h2 W A hA)
  obtain ⟨len, hlen⟩ : ∃ n, n = (pt t d).length := ⟨_, rfl⟩
  rw [← hlen, hpI.out] at hlt
  replace hlen := Lib.hid hlen
  refine start_ (n := 16) (S := fun w' => w'.heap[B0]? = some (.cells A_74 30 (0, 0)) ∧ w'.cell? ⟨B0, 9, none⟩ = some (.int .i64 t.f9) ∧ w'.cell? ⟨B0, 11, none⟩ = some (.int .i64 d) ∧ w'.cell? ⟨B0, 12, none⟩ = some (.int .i64 pI)) (ds := []) #[false, false, false, false, false, false, false, false, false, false, false, false, false, false, false, false] (by kernel_rfl) rfl rfl ⟨H_79.out, (blk_cell (H_79.out) 9).trans (by rw [eA_74.out]; simp [RA, TA]), (blk_cell (H_79.out) 11).trans (by rw [eA_74.out]; simp [RA, TA]), (blk_cell (H_79.out) 12).trans (by rw [eA_74.out, ← hpI.out]; simp [RA, TA])⟩ (fun hHeld => ?_)
  refine pure_ (i := 0) (N := (some 20)) (v := ?_) (a' := ?_) #[true, false, false, false, false, false, false, false, false, false, false, false, false, false, false, false] rfl rfl (by kernel_rfl) (fun _ _ _ h => h) (Or.inl ⟨by rfl, ?_⟩) ?_ ?_
  rotate_left
  · intro w'
    go_simp
    with_reducible rfl
  rotate_left
  · simp only [Act.put, List.setIfInBounds_toArray, List.set_cons_zero, List.set_cons_succ, i64_w, i32_w]
    rfl
  refine pure_ (i := 1) (N := (some 21)) (v := ?_) (a' := ?_) #[true, true, false, false, false, false, false, false, false, false, false, false, false, false, false, false] rfl rfl (by kernel_rfl) (fun _ _ _ h => h) (Or.inl ⟨by rfl, ?_⟩) ?_ ?_
  rotate_left
  · intro w'
    go_simp
    with_reducible rfl
  rotate_left
  · simp only [Act.put, List.setIfInBounds_toArray, List.set_cons_zero, List.set_cons_succ, i64_w, i32_w]
    rfl
  refine take_ (i := 2) (N := (some 22)) (v := ?_) (a' := ?_) #[true, true, true, false, false, false, false, false, false, false, false, false, false, false, false, false] rfl rfl (by kernel_rfl) (fun _ _ _ h => h) (Or.inl ⟨by rfl, ?_⟩) hHeld ?_ ?_
  rotate_left
  · rintro w' ⟨s0, s1, s2, s3⟩
    go_simp
    with_reducible rfl
  rotate_left
  · simp only [Act.put, List.setIfInBounds_toArray, List.set_cons_zero, List.set_cons_succ, i64_w, i32_w]
    rfl
  refine pure_ (i := 3) (N := (some 23)) (v := ?_) (a' := ?_) #[true, true, true, true, false, false, false, false, false, false, false, false, false, false, false, false] rfl rfl (by kernel_rfl) (fun _ _ _ h => h) (Or.inl ⟨by rfl, ?_⟩) ?_ ?_
  rotate_left
  · intro w'
    go_simp
    with_reducible rfl
  rotate_left
  · simp only [Act.put, List.setIfInBounds_toArray, List.set_cons_zero, List.set_cons_succ, i64_w, i32_w]
    rfl
  refine pure_ (i := 4) (N := (some 24)) (v := ?_) (a' := ?_) #[true, true, true, true, true, false, false, false, false, false, false, false, false, false, false, false] rfl rfl (by kernel_rfl) (fun _ _ _ h => h) (Or.inl ⟨by rfl, ?_⟩) ?_ ?_
  rotate_left
  · intro w'
    go_simp
    with_reducible rfl
  rotate_left
  · simp only [Act.put, List.setIfInBounds_toArray, List.set_cons_zero, List.set_cons_succ, i64_w, i32_w]
    rfl
  refine pure_ (i := 5) (N := (some 25)) (v := ?_) (a' := ?_) #[true, true, true, true, true, true, false, false, false, false, false, false, false, false, false, false] rfl rfl (by kernel_rfl) (fun _ _ _ h => h) (Or.inl ⟨by rfl, ?_⟩) ?_ ?_
  rotate_left
  · intro w'
    go_simp
    with_reducible rfl
  rotate_left
  · simp only [Act.put, List.setIfInBounds_toArray, List.set_cons_zero, List.set_cons_succ, i64_w, i32_w]
    rfl
  refine take_ (i := 6) (N := (some 26)) (v := ?_) (a' := ?_) #[true, true, true, true, true, true, true, false, false, false, false, false, false, false, false, false] rfl rfl (by kernel_rfl) (fun _ _ _ h => h) (Or.inl ⟨by rfl, ?_⟩) hHeld ?_ ?_
  rotate_left
  · rintro w' ⟨s0, s1, s2, s3⟩
    go_simp
    with_reducible rfl
  rotate_left
  · simp only [Act.put, List.setIfInBounds_toArray, List.set_cons_zero, List.set_cons_succ, i64_w, i32_w]
    rfl
  refine pure_ (i := 7) (N := (some 27)) (v := ?_) (a' := ?_) #[true, true, true, true, true, true, true, true, false, false, false, false, false, false, false, false] rfl rfl (by kernel_rfl) (fun _ _ _ h => h) (Or.inl ⟨by rfl, ?_⟩) ?_ ?_
  rotate_left
  · intro w'
    go_simp
    with_reducible rfl
  rotate_left
  · simp only [Act.put, List.setIfInBounds_toArray, List.set_cons_zero, List.set_cons_succ, i64_w, i32_w]
    rfl
  refine pure_ (i := 8) (N := (some 28)) (v := ?_) (a' := ?_) #[true, true, true, true, true, true, true, true, true, false, false, false, false, false, false, false] rfl rfl (by kernel_rfl) (fun _ _ _ h => h) (Or.inl ⟨by rfl, ?_⟩) ?_ ?_
  rotate_left
  · intro w'
    go_simp
    with_reducible rfl
  rotate_left
  · simp only [Act.put, List.setIfInBounds_toArray, List.set_cons_zero, List.set_cons_succ, i64_w, i32_w]
    rfl
  refine take_ (i := 9) (N := (some 29)) (v := .agg (TA t)) (a' := ?_) #[true, true, true, true, true, true, true, true, true, true, false, false, false, false, false, false] rfl rfl (by kernel_rfl) (fun _ _ _ h => h) (Or.inl ⟨by rfl, ?_⟩) hHeld ?_ ?_
  · rintro w' ⟨s0, s1, s2, s3⟩
    exact ld_row 28 _ rfl B0 0 rfl (row_of s0 eA_74.out) Try.underlying28 rfl (by kernel_rfl) rfl
  rotate_left
  · simp only [Act.put, List.setIfInBounds_toArray, List.set_cons_zero, List.set_cons_succ, i64_w, i32_w]
    rfl
  refine pure_ (i := 10) (N := (some 30)) (v := ?_) (a' := ?_) #[true, true, true, true, true, true, true, true, true, true, true, false, false, false, false, false] rfl rfl (by kernel_rfl) (fun _ _ _ h => h) (Or.inl ⟨by rfl, ?_⟩) ?_ ?_
  rotate_left
  · intro w'
    go_simp
    with_reducible rfl
  rotate_left
  · simp only [Act.put, List.setIfInBounds_toArray, List.set_cons_zero, List.set_cons_succ, i64_w, i32_w]
    rfl
  refine take_ (i := 11) (N := (some 31)) (v := ?_) (a' := ?_) #[true, true, true, true, true, true, true, true, true, true, true, true, false, false, false, false] rfl rfl (by kernel_rfl) (fun _ _ _ h => h) (Or.inl ⟨by rfl, ?_⟩) hHeld ?_ ?_
  rotate_left
  · rintro w' ⟨s0, s1, s2, s3⟩
    go_simp
    with_reducible rfl
  rotate_left
  · simp only [Act.put, List.setIfInBounds_toArray, List.set_cons_zero, List.set_cons_succ, i64_w, i32_w]
    rfl
  refine one_ (i := 12) (N := (some 32)) #[true, true, true, true, true, true, true, true, true, true, true, true, true, false, false, false] rfl rfl (by kernel_rfl) (by decide) (fun K hK => ?_)
  refine goes_ Try.func22 (by kernel_rfl) rfl #[.agg (TA t), .int .i64 d] (by rfl) rfl rfl (by (try simp only [List.map_toArray, List.map_cons, List.map_nil]); first | done | rfl) ?_
  refine (PC.out _ _ rfl).mono ?_
  rintro e V4 ⟨g, cp, cur, rfl, hgr, hrow, hcp, hb4⟩
  have Hr4 := Lib.hid ((hb4.block B0 (blk_lt H_79.out)).trans H_79.out)
  have Hz4 := Lib.hid ((hb4.block X1 (blk_lt H_78.out)).trans H_78.out)
  have HE4 := Lib.hid ((HE_80.out.drew).trans (hb4.mono (sz_le hB0.out HE_80.out.size)))
  clear hrow hgr
  rw [← hlen.out] at hcp ⊢
  refine ⟨_, rfl, ?_⟩
  refine hK.out _ _ ⟨Hr4.out, (blk_cell (Hr4.out) 9).trans (by rw [eA_74.out]; simp [RA, TA]), (blk_cell (Hr4.out) 11).trans (by rw [eA_74.out]; simp [RA, TA]), (blk_cell (Hr4.out) 12).trans (by rw [eA_74.out, ← hpI.out]; simp [RA, TA])⟩ (fun hHeld => ?_)
  clear hb4 H_79 H_78 HE_80
  clear hK K
  refine norm_ (a' := ?_) ?_ ?_
  rotate_left
  · show Act.put _ (some 32) _ = _
    simp only [Act.put, List.setIfInBounds_toArray, List.set_cons_zero, List.set_cons_succ, i64_w, i32_w]
    rfl
  refine pure_ (i := 13) (N := (some 33)) (v := ?_) (a' := ?_) #[true, true, true, true, true, true, true, true, true, true, true, true, true, true, false, false] rfl rfl (by kernel_rfl) (fun _ _ _ h => h) (Or.inl ⟨by rfl, ?_⟩) ?_ ?_
  rotate_left
  · intro w'
    go_simp
    with_reducible rfl
  rotate_left
  · simp only [Act.put, List.setIfInBounds_toArray, List.set_cons_zero, List.set_cons_succ, i64_w, i32_w]
    rfl
  refine pure_ (i := 14) (N := (some 34)) (v := ?_) (a' := ?_) #[true, true, true, true, true, true, true, true, true, true, true, true, true, true, true, false] rfl rfl (by kernel_rfl) (fun _ _ _ h => h) (Or.inl ⟨by rfl, ?_⟩) ?_ ?_
  rotate_left
  · intro w'
    go_simp
    with_reducible rfl
  rotate_left
  · simp only [Act.put, List.setIfInBounds_toArray, List.set_cons_zero, List.set_cons_succ, i64_w, i32_w]
    rfl
  refine pure_ (i := 15) (N := (some 35)) (v := ?_) (a' := ?_) #[true, true, true, true, true, true, true, true, true, true, true, true, true, true, true, true] rfl rfl (by kernel_rfl) (fun _ _ _ h => h) (Or.inl ⟨by rfl, ?_⟩) ?_ ?_
  rotate_left
  · intro w'
    go_simp
    with_reducible rfl
  rotate_left
  · simp only [Act.put, List.setIfInBounds_toArray, List.set_cons_zero, List.set_cons_succ, i64_w, i32_w]
    rfl
  refine done_ (by kernel_rfl) ?_
  go_upto_region 11 with (fail)
  obtain ⟨V_83, q_84_0, q_84_1, q_84_2, q_84_3⟩ := st_any Hz4.out zZR.out zA_74.out oA_74.out
  have H_85 : Hid (V_83.heap[B0]? = some (.cells A_74 30 (0, 0))) := Lib.hid ((q_84_2 _ (Nat.ne_of_lt lt1)).trans Hr4.out)
  have HE_86 : Hid (Below B0 w V_83) := Lib.hid (q_84_3 _ _ ge1 HE4.out)
  have H_87 := Lib.hid q_84_1
  clear q_84_1 q_84_2 q_84_3
  go_wp2_with (first | (refine wpl_ld _ _ rfl (by rfl) B0 rfl Hr4.out Try.underlying30 rfl (by kernel_rfl) zA_74.out ?_))
  clear q_84_0
  clear HE4 Hr4 Hz4
  refine bodyPost_ret (v := .tuple #[.agg A_74, .int .i64 4]) (by refine Eq.trans (rc2 (fn := Try.f17) rfl _ _ X1 ?_ H_87.out Try.underlying30 rfl (by kernel_rfl) zA_74.out) ?_ <;> rfl) rfl ⟨?_, HE_86.out⟩
  rw [eA_74.out]
set_option maxRecDepth 100000 in
set_option maxHeartbeats 6000000 in
theorem rs_doneN_f (w : World) (t : S28) (d : Int) (p : Nat) (lf fl lm fm : Int) (st : Bool) (R : Array Value) (eR : R = RA t d ⟨p, lf, st, fl⟩) (ok : OkT t) (h1 : 1 ≤ d) (h2 : d ≤ t.f3) (hw1 : wrap64 (lf - 1) = lm) (hw2 : wrap64 (fl + 1) = fm) (hw3 : wrap64 ((p : Int) + 1) = (p : Int) + 1) (hgt : decide (0 < lm) = false) (hst : st = false) (h9 : (t.f9 == 1) = false) : Calls Try.prog 17 #[.agg R, .bool false] w fun e w' => e = .returned (.tuple #[.agg (RA t d ⟨p, lm, false, fl⟩), .int .i64 4]) ∧ Below w.heap.size w w' := by
  have zR : Hid (R.size = 16) := Lib.hid (by rw [eR]; exact RA_size _ _ _)
  have oR : Hid (R.all (·.oneCell') = true) := Lib.hid (by rw [eR]; exact RA_one _ _ _)
  replace eR := Lib.hid eR
  obtain ⟨pI, hpI⟩ : ∃ pI : Int, (p : Int) = pI := ⟨_, rfl⟩
  rw [hpI] at hw3
  replace ok := Lib.hid ok
  obtain ⟨ZR, eZR⟩ : ∃ A : Array Value, A = #[.string ⟨#[]⟩, .int .i64 0, .int .i64 0, .int .i64 0, .int .i64 0, .int .i64 0, .int .i64 0, .int .i64 0, .int .i64 0, .int .i64 0, .int .i64 0, .int .i64 0, .int .i64 0, .int .i64 0, .bool false, .int .i64 0] := ⟨_, rfl⟩
  have zZR : Hid (ZR.size = 16) := Lib.hid (by rw [eZR]; rfl)
  have hz : ∀ V : World, (zeroValue 30).run Try.prog V = .ok (.agg ZR) V := fun V => by rw [eZR]; kernel_rfl
  replace eZR := Lib.hid eZR
  obtain ⟨B0, hB0⟩ : ∃ B, w.heap.size = B := ⟨_, rfl⟩
  rw [hB0]
  obtain ⟨V0, hV0⟩ : ∃ V, w.alloc (.cells R 30) = V := ⟨_, rfl⟩
  obtain ⟨X1, hX1⟩ : ∃ X, V0.heap.size = X := ⟨_, rfl⟩
  obtain ⟨V1, hV1⟩ : ∃ V, V0.alloc (.cells ZR 30) = V := ⟨_, rfl⟩
  have g0 : V0.heap[B0]? = some (.cells R 30 (0, 0)) := by rw [← hV0]; exact (box_new hB0).1
  have lt1 : B0 < X1 := hX1 ▸ blk_lt g0
  have Hr : Hid (V1.heap[B0]? = some (.cells R 30 (0, 0))) := Lib.hid (by rw [← hV1]; exact ((box_new hX1).2 _ lt1).trans g0)
  have Hz : Hid (V1.heap[X1]? = some (.cells ZR 30 (0, 0))) := Lib.hid (by rw [← hV1]; exact (box_new hX1).1)
  have HE : Hid (Below B0 w V1) := Lib.hid (by rw [← hV1, ← hV0, ← hB0]; exact ((Below.refl _ _).alloc (Nat.le_refl _) _).alloc (by simp) _)
  have ge1 : B0 ≤ X1 := Nat.le_of_lt lt1
  clear g0
  go_enter Try.func17, Try.ntmps17
  go_upto_region 1 with (fail)
  replace hB0 := Lib.hid hB0
  replace hV0 := Lib.hid hV0
  replace hX1 := Lib.hid hX1
  replace hV1 := Lib.hid hV1
  replace hpI := Lib.hid hpI
  obtain ⟨A_88, eA_88⟩ : ∃ A, A = RA t d ⟨p, lm, st, fl⟩ := ⟨_, rfl⟩
  have zA_88 : Hid (A_88.size = 16) := Lib.hid (by rw [eA_88]; exact RA_size _ _ _)
  have oA_88 : Hid (A_88.all (·.oneCell') = true) := Lib.hid (by rw [eA_88]; exact RA_one _ _ _)
  replace eA_88 := Lib.hid eA_88
  have cp_90 : V1.cell? ⟨B0, 13, none⟩ = some (.int .i64 lf) := by rw [blk_cell Hr.out]; exact (by rw [eR.out]; simp [RA, TA])
  have zp_91 : V1.frozen? ⟨B0, 13, none⟩ = false := blk_frozen Hr.out 13
  go_upto_region 2 with (fail)
  have H_92 : Hid ((V1.setCell ⟨B0, 13, none⟩ (.int .i64 lm)).heap[X1]? = some (.cells ZR 30 (0, 0))) := Lib.hid (blk_far Hz.out (Nat.ne_of_gt lt1) _)
  have H_93 : Hid ((V1.setCell ⟨B0, 13, none⟩ (.int .i64 lm)).heap[B0]? = some (.cells A_88 30 (0, 0))) := Lib.hid (blk_put Hr.out 13 _ (by rw [eR.out, eA_88.out]; simp [RA, TA]))
  have HE_94 : Hid (Below B0 w (V1.setCell ⟨B0, 13, none⟩ (.int .i64 lm))) := Lib.hid (HE.out.setCell (p := ⟨B0, 13, none⟩) (Nat.le_refl B0) _)
  clear cp_90 zp_91
  generalize (V1.setCell ⟨B0, 13, none⟩ (.int .i64 lm)) = V_89 at H_92 H_93 HE_94 ⊢
  clear HE Hz Hr
  have c_95 : V_89.cell? ⟨B0, 13, none⟩ = some (.int .i64 lm) := by rw [blk_cell H_93.out, eA_88.out]; simp [RA, TA]
  go_upto_region 6 with (fail)
  clear c_95
  subst hst
  have c_96 : V_89.cell? ⟨B0, 14, none⟩ = some (.bool false) := by rw [blk_cell H_93.out, eA_88.out]; simp [RA, TA]
  go_upto_region 7 with (fail)
  clear c_96
  refine start_ (n := 16) (S := fun w' => w'.heap[B0]? = some (.cells A_88 30 (0, 0)) ∧ w'.cell? ⟨B0, 9, none⟩ = some (.int .i64 t.f9) ∧ w'.cell? ⟨B0, 11, none⟩ = some (.int .i64 d) ∧ w'.cell? ⟨B0, 12, none⟩ = some (.int .i64 pI)) (ds := []) #[false, false, false, false, false, false, false, false, false, false, false, false, false, false, false, false] (by kernel_rfl) rfl rfl ⟨H_93.out, (blk_cell (H_93.out) 9).trans (by rw [eA_88.out]; simp [RA, TA]), (blk_cell (H_93.out) 11).trans (by rw [eA_88.out]; simp [RA, TA]), (blk_cell (H_93.out) 12).trans (by rw [eA_88.out, ← hpI.out]; simp [RA, TA])⟩ (fun hHeld => ?_)
  refine pure_ (i := 0) (N := (some 20)) (v := ?_) (a' := ?_) #[true, false, false, false, false, false, false, false, false, false, false, false, false, false, false, false] rfl rfl (by kernel_rfl) (fun _ _ _ h => h) (Or.inl ⟨by rfl, ?_⟩) ?_ ?_
  rotate_left
  · intro w'
    go_simp
    with_reducible rfl
  rotate_left
  · simp only [Act.put, List.setIfInBounds_toArray, List.set_cons_zero, List.set_cons_succ, i64_w, i32_w]
    rfl
  refine pure_ (i := 1) (N := (some 21)) (v := ?_) (a' := ?_) #[true, true, false, false, false, false, false, false, false, false, false, false, false, false, false, false] rfl rfl (by kernel_rfl) (fun _ _ _ h => h) (Or.inl ⟨by rfl, ?_⟩) ?_ ?_
  rotate_left
  · intro w'
    go_simp
    with_reducible rfl
  rotate_left
  · simp only [Act.put, List.setIfInBounds_toArray, List.set_cons_zero, List.set_cons_succ, i64_w, i32_w]
    rfl
  refine take_ (i := 2) (N := (some 22)) (v := ?_) (a' := ?_) #[true, true, true, false, false, false, false, false, false, false, false, false, false, false, false, false] rfl rfl (by kernel_rfl) (fun _ _ _ h => h) (Or.inl ⟨by rfl, ?_⟩) hHeld ?_ ?_
  rotate_left
  · rintro w' ⟨s0, s1, s2, s3⟩
    go_simp
    with_reducible rfl
  rotate_left
  · simp only [Act.put, List.setIfInBounds_toArray, List.set_cons_zero, List.set_cons_succ, i64_w, i32_w]
    rfl
  refine pure_ (i := 3) (N := (some 23)) (v := ?_) (a' := ?_) #[true, true, true, true, false, false, false, false, false, false, false, false, false, false, false, false] rfl rfl (by kernel_rfl) (fun _ _ _ h => h) (Or.inl ⟨by rfl, ?_⟩) ?_ ?_
  rotate_left
  · intro w'
    go_simp
    with_reducible rfl
  rotate_left
  · simp only [Act.put, List.setIfInBounds_toArray, List.set_cons_zero, List.set_cons_succ, i64_w, i32_w]
    rfl
  refine pure_ (i := 4) (N := (some 24)) (v := ?_) (a' := ?_) #[true, true, true, true, true, false, false, false, false, false, false, false, false, false, false, false] rfl rfl (by kernel_rfl) (fun _ _ _ h => h) (Or.inl ⟨by rfl, ?_⟩) ?_ ?_
  rotate_left
  · intro w'
    go_simp
    with_reducible rfl
  rotate_left
  · simp only [Act.put, List.setIfInBounds_toArray, List.set_cons_zero, List.set_cons_succ, i64_w, i32_w]
    rfl
  refine pure_ (i := 5) (N := (some 25)) (v := undef) (a' := ?_) #[true, true, true, true, true, true, false, false, false, false, false, false, false, false, false, false] rfl rfl (by kernel_rfl) (fun _ _ _ h => h) (Or.inr ⟨by rfl, rfl⟩) ?_ ?_
  rotate_left
  · simp only [Act.put, List.setIfInBounds_toArray, List.set_cons_zero, List.set_cons_succ, i64_w, i32_w]
    rfl
  refine pure_ (i := 6) (N := (some 26)) (v := undef) (a' := ?_) #[true, true, true, true, true, true, true, false, false, false, false, false, false, false, false, false] rfl rfl (by kernel_rfl) (fun _ _ _ h => h) (Or.inr ⟨by rfl, rfl⟩) ?_ ?_
  rotate_left
  · simp only [Act.put, List.setIfInBounds_toArray, List.set_cons_zero, List.set_cons_succ, i64_w, i32_w]
    rfl
  refine pure_ (i := 7) (N := (some 27)) (v := undef) (a' := ?_) #[true, true, true, true, true, true, true, true, false, false, false, false, false, false, false, false] rfl rfl (by kernel_rfl) (fun _ _ _ h => h) (Or.inr ⟨by rfl, rfl⟩) ?_ ?_
  rotate_left
  · simp only [Act.put, List.setIfInBounds_toArray, List.set_cons_zero, List.set_cons_succ, i64_w, i32_w]
    rfl
  refine pure_ (i := 8) (N := (some 28)) (v := undef) (a' := ?_) #[true, true, true, true, true, true, true, true, true, false, false, false, false, false, false, false] rfl rfl (by kernel_rfl) (fun _ _ _ h => h) (Or.inr ⟨by rfl, rfl⟩) ?_ ?_
  rotate_left
  · simp only [Act.put, List.setIfInBounds_toArray, List.set_cons_zero, List.set_cons_succ, i64_w, i32_w]
    rfl
  refine pure_ (i := 9) (N := (some 29)) (v := undef) (a' := ?_) #[true, true, true, true, true, true, true, true, true, true, false, false, false, false, false, false] rfl rfl (by kernel_rfl) (fun _ _ _ h => h) (Or.inr ⟨by rfl, rfl⟩) ?_ ?_
  rotate_left
  · simp only [Act.put, List.setIfInBounds_toArray, List.set_cons_zero, List.set_cons_succ, i64_w, i32_w]
    rfl
  refine pure_ (i := 10) (N := (some 30)) (v := undef) (a' := ?_) #[true, true, true, true, true, true, true, true, true, true, true, false, false, false, false, false] rfl rfl (by kernel_rfl) (fun _ _ _ h => h) (Or.inr ⟨by rfl, rfl⟩) ?_ ?_
  rotate_left
  · simp only [Act.put, List.setIfInBounds_toArray, List.set_cons_zero, List.set_cons_succ, i64_w, i32_w]
    rfl
  refine pure_ (i := 11) (N := (some 31)) (v := undef) (a' := ?_) #[true, true, true, true, true, true, true, true, true, true, true, true, false, false, false, false] rfl rfl (by kernel_rfl) (fun _ _ _ h => h) (Or.inr ⟨by rfl, rfl⟩) ?_ ?_
  rotate_left
  · simp only [Act.put, List.setIfInBounds_toArray, List.set_cons_zero, List.set_cons_succ, i64_w, i32_w]
    rfl
  refine pure_ (i := 12) (N := (some 32)) (v := undef) (a' := ?_) #[true, true, true, true, true, true, true, true, true, true, true, true, true, false, false, false] rfl rfl (by kernel_rfl) (fun _ _ _ h => h) (Or.inr ⟨by rfl, rfl⟩) ?_ ?_
  rotate_left
  · simp only [Act.put, List.setIfInBounds_toArray, List.set_cons_zero, List.set_cons_succ, i64_w, i32_w]
    rfl
  refine pure_ (i := 13) (N := (some 33)) (v := undef) (a' := ?_) #[true, true, true, true, true, true, true, true, true, true, true, true, true, true, false, false] rfl rfl (by kernel_rfl) (fun _ _ _ h => h) (Or.inr ⟨by rfl, rfl⟩) ?_ ?_
  rotate_left
  · simp only [Act.put, List.setIfInBounds_toArray, List.set_cons_zero, List.set_cons_succ, i64_w, i32_w]
    rfl
  refine pure_ (i := 14) (N := (some 34)) (v := undef) (a' := ?_) #[true, true, true, true, true, true, true, true, true, true, true, true, true, true, true, false] rfl rfl (by kernel_rfl) (fun _ _ _ h => h) (Or.inr ⟨by rfl, rfl⟩) ?_ ?_
  rotate_left
  · simp only [Act.put, List.setIfInBounds_toArray, List.set_cons_zero, List.set_cons_succ, i64_w, i32_w]
    rfl
  refine pure_ (i := 15) (N := (some 35)) (v := ?_) (a' := ?_) #[true, true, true, true, true, true, true, true, true, true, true, true, true, true, true, true] rfl rfl (by kernel_rfl) (fun _ _ _ h => h) (Or.inl ⟨by rfl, ?_⟩) ?_ ?_
  rotate_left
  · intro w'
    go_simp
    with_reducible rfl
  rotate_left
  · simp only [Act.put, List.setIfInBounds_toArray, List.set_cons_zero, List.set_cons_succ, i64_w, i32_w]
    rfl
  refine done_ (by kernel_rfl) ?_
  go_upto_region 11 with (fail)
  skip
  have HrN : Hid (V_89.drew.heap[B0]? = some (.cells A_88 30 (0, 0))) := Lib.hid H_93.out
  have HzN : Hid (V_89.drew.heap[X1]? = some (.cells ZR 30 (0, 0))) := Lib.hid H_92.out
  have HEN : Hid (Below B0 w V_89.drew) := Lib.hid HE_94.out.drew
  clear H_93 H_92 HE_94
  generalize V_89.drew = VN at HrN HzN HEN ⊢
  obtain ⟨V_97, q_98_0, q_98_1, q_98_2, q_98_3⟩ := st_any HzN.out zZR.out zA_88.out oA_88.out
  have H_99 : Hid (V_97.heap[B0]? = some (.cells A_88 30 (0, 0))) := Lib.hid ((q_98_2 _ (Nat.ne_of_lt lt1)).trans HrN.out)
  have HE_100 : Hid (Below B0 w V_97) := Lib.hid (q_98_3 _ _ ge1 HEN.out)
  have H_101 := Lib.hid q_98_1
  clear q_98_1 q_98_2 q_98_3
  go_wp2_with (first | (refine wpl_ld _ _ rfl (by rfl) B0 rfl HrN.out Try.underlying30 rfl (by kernel_rfl) zA_88.out ?_))
  clear q_98_0
  clear HEN HrN HzN
  refine bodyPost_ret (v := .tuple #[.agg A_88, .int .i64 4]) (by refine Eq.trans (rc2 (fn := Try.f17) rfl _ _ X1 ?_ H_101.out Try.underlying30 rfl (by kernel_rfl) zA_88.out) ?_ <;> rfl) rfl ⟨?_, HE_100.out⟩
  rw [eA_88.out]
set_option maxRecDepth 100000 in
set_option maxHeartbeats 6000000 in
theorem rs_failR_t (w : World) (t : S28) (d : Int) (p : Nat) (lf fl lm fm : Int) (st : Bool) (R : Array Value) (eR : R = RA t d ⟨p, lf, st, fl⟩) (ok : OkT t) (h1 : 1 ≤ d) (h2 : d ≤ t.f3) (hw1 : wrap64 (lf - 1) = lm) (hw2 : wrap64 (fl + 1) = fm) (hw3 : wrap64 ((p : Int) + 1) = (p : Int) + 1) (hgt : decide (0 < lm) = false) (h9 : (t.f9 == 1) = true) (hpl : p < (pt t d).length) (x : Int) (hx : x = rd (pt t d) (p : Int)) : Calls Try.prog 17 #[.agg R, .bool true] w fun e w' => e = .returned (.tuple #[.agg (RA t d ⟨p, x, false, fm⟩), .int .i64 2]) ∧ Below w.heap.size w w' := by
  have zR : Hid (R.size = 16) := Lib.hid (by rw [eR]; exact RA_size _ _ _)
  have oR : Hid (R.all (·.oneCell') = true) := Lib.hid (by rw [eR]; exact RA_one _ _ _)
  replace eR := Lib.hid eR
  obtain ⟨pI, hpI⟩ : ∃ pI : Int, (p : Int) = pI := ⟨_, rfl⟩
  rw [hpI] at hw3
  replace ok := Lib.hid ok
  obtain ⟨ZR, eZR⟩ : ∃ A : Array Value, A = #[.string ⟨#[]⟩, .int .i64 0, .int .i64 0, .int .i64 0, .int .i64 0, .int .i64 0, .int .i64 0, .int .i64 0, .int .i64 0, .int .i64 0, .int .i64 0, .int .i64 0, .int .i64 0, .int .i64 0, .bool false, .int .i64 0] := ⟨_, rfl⟩
  have zZR : Hid (ZR.size = 16) := Lib.hid (by rw [eZR]; rfl)
  have hz : ∀ V : World, (zeroValue 30).run Try.prog V = .ok (.agg ZR) V := fun V => by rw [eZR]; kernel_rfl
  replace eZR := Lib.hid eZR
  obtain ⟨B0, hB0⟩ : ∃ B, w.heap.size = B := ⟨_, rfl⟩
  rw [hB0]
  obtain ⟨V0, hV0⟩ : ∃ V, w.alloc (.cells R 30) = V := ⟨_, rfl⟩
  obtain ⟨X1, hX1⟩ : ∃ X, V0.heap.size = X := ⟨_, rfl⟩
  obtain ⟨V1, hV1⟩ : ∃ V, V0.alloc (.cells ZR 30) = V := ⟨_, rfl⟩
  have g0 : V0.heap[B0]? = some (.cells R 30 (0, 0)) := by rw [← hV0]; exact (box_new hB0).1
  have lt1 : B0 < X1 := hX1 ▸ blk_lt g0
  have Hr : Hid (V1.heap[B0]? = some (.cells R 30 (0, 0))) := Lib.hid (by rw [← hV1]; exact ((box_new hX1).2 _ lt1).trans g0)
  have Hz : Hid (V1.heap[X1]? = some (.cells ZR 30 (0, 0))) := Lib.hid (by rw [← hV1]; exact (box_new hX1).1)
  have HE : Hid (Below B0 w V1) := Lib.hid (by rw [← hV1, ← hV0, ← hB0]; exact ((Below.refl _ _).alloc (Nat.le_refl _) _).alloc (by simp) _)
  have ge1 : B0 ≤ X1 := Nat.le_of_lt lt1
  clear g0
  go_enter Try.func17, Try.ntmps17
  go_upto_region 1 with (fail)
  replace hB0 := Lib.hid hB0
  replace hV0 := Lib.hid hV0
  replace hX1 := Lib.hid hX1
  replace hV1 := Lib.hid hV1
  replace hpI := Lib.hid hpI
  obtain ⟨A_102, eA_102⟩ : ∃ A, A = RA t d ⟨p, lm, st, fl⟩ := ⟨_, rfl⟩
  have zA_102 : Hid (A_102.size = 16) := Lib.hid (by rw [eA_102]; exact RA_size _ _ _)
  have oA_102 : Hid (A_102.all (·.oneCell') = true) := Lib.hid (by rw [eA_102]; exact RA_one _ _ _)
  replace eA_102 := Lib.hid eA_102
  have cp_104 : V1.cell? ⟨B0, 13, none⟩ = some (.int .i64 lf) := by rw [blk_cell Hr.out]; exact (by rw [eR.out]; simp [RA, TA])
  have zp_105 : V1.frozen? ⟨B0, 13, none⟩ = false := blk_frozen Hr.out 13
  go_upto_region 2 with (fail)
  have H_106 : Hid ((V1.setCell ⟨B0, 13, none⟩ (.int .i64 lm)).heap[X1]? = some (.cells ZR 30 (0, 0))) := Lib.hid (blk_far Hz.out (Nat.ne_of_gt lt1) _)
  have H_107 : Hid ((V1.setCell ⟨B0, 13, none⟩ (.int .i64 lm)).heap[B0]? = some (.cells A_102 30 (0, 0))) := Lib.hid (blk_put Hr.out 13 _ (by rw [eR.out, eA_102.out]; simp [RA, TA]))
  have HE_108 : Hid (Below B0 w (V1.setCell ⟨B0, 13, none⟩ (.int .i64 lm))) := Lib.hid (HE.out.setCell (p := ⟨B0, 13, none⟩) (Nat.le_refl B0) _)
  clear cp_104 zp_105
  generalize (V1.setCell ⟨B0, 13, none⟩ (.int .i64 lm)) = V_103 at H_106 H_107 HE_108 ⊢
  clear HE Hz Hr
  obtain ⟨A_109, eA_109⟩ : ∃ A, A = RA t d ⟨p, lm, true, fl⟩ := ⟨_, rfl⟩
  have zA_109 : Hid (A_109.size = 16) := Lib.hid (by rw [eA_109]; exact RA_size _ _ _)
  have oA_109 : Hid (A_109.all (·.oneCell') = true) := Lib.hid (by rw [eA_109]; exact RA_one _ _ _)
  replace eA_109 := Lib.hid eA_109
  have cp_111 : V_103.cell? ⟨B0, 14, none⟩ = some (.bool st) := by rw [blk_cell H_107.out]; exact (by rw [eA_102.out]; simp [RA, TA])
  have zp_112 : V_103.frozen? ⟨B0, 14, none⟩ = false := blk_frozen H_107.out 14
  go_upto_region 4 with (fail)
  have H_113 : Hid ((V_103.setCell ⟨B0, 14, none⟩ (.bool true)).heap[X1]? = some (.cells ZR 30 (0, 0))) := Lib.hid (blk_far H_106.out (Nat.ne_of_gt lt1) _)
  have H_114 : Hid ((V_103.setCell ⟨B0, 14, none⟩ (.bool true)).heap[B0]? = some (.cells A_109 30 (0, 0))) := Lib.hid (blk_put H_107.out 14 _ (by rw [eA_102.out, eA_109.out]; simp [RA, TA]))
  have HE_115 : Hid (Below B0 w (V_103.setCell ⟨B0, 14, none⟩ (.bool true))) := Lib.hid (HE_108.out.setCell (p := ⟨B0, 14, none⟩) (Nat.le_refl B0) _)
  clear cp_111 zp_112
  generalize (V_103.setCell ⟨B0, 14, none⟩ (.bool true)) = V_110 at H_113 H_114 HE_115 ⊢
  clear HE_108 H_106 H_107
  have c_116 : V_110.cell? ⟨B0, 13, none⟩ = some (.int .i64 lm) := by rw [blk_cell H_114.out, eA_109.out]; simp [RA, TA]
  go_upto_region 6 with (fail)
  clear c_116
  have c_117 : V_110.cell? ⟨B0, 14, none⟩ = some (.bool true) := by rw [blk_cell H_114.out, eA_109.out]; simp [RA, TA]
  go_upto_region 12 with (fail)
  clear c_117
  obtain ⟨A_118, eA_118⟩ : ∃ A, A = RA t d ⟨p, lm, false, fl⟩ := ⟨_, rfl⟩
  have zA_118 : Hid (A_118.size = 16) := Lib.hid (by rw [eA_118]; exact RA_size _ _ _)
  have oA_118 : Hid (A_118.all (·.oneCell') = true) := Lib.hid (by rw [eA_118]; exact RA_one _ _ _)
  replace eA_118 := Lib.hid eA_118
  have cp_120 : V_110.cell? ⟨B0, 14, none⟩ = some (.bool true) := by rw [blk_cell H_114.out]; exact (by rw [eA_109.out]; simp [RA, TA])
  have zp_121 : V_110.frozen? ⟨B0, 14, none⟩ = false := blk_frozen H_114.out 14
  go_upto_region 13 with (fail)
  have H_122 : Hid ((V_110.setCell ⟨B0, 14, none⟩ (.bool false)).heap[X1]? = some (.cells ZR 30 (0, 0))) := Lib.hid (blk_far H_113.out (Nat.ne_of_gt lt1) _)
  have H_123 : Hid ((V_110.setCell ⟨B0, 14, none⟩ (.bool false)).heap[B0]? = some (.cells A_118 30 (0, 0))) := Lib.hid (blk_put H_114.out 14 _ (by rw [eA_109.out, eA_118.out]; simp [RA, TA]))
  have HE_124 : Hid (Below B0 w (V_110.setCell ⟨B0, 14, none⟩ (.bool false))) := Lib.hid (HE_115.out.setCell (p := ⟨B0, 14, none⟩) (Nat.le_refl B0) _)
  clear cp_120 zp_121
  generalize (V_110.setCell ⟨B0, 14, none⟩ (.bool false)) = V_119 at H_122 H_123 HE_124 ⊢
  clear HE_115 H_113 H_114
  obtain ⟨A_125, eA_125⟩ : ∃ A, A = RA t d ⟨p, lm, false, fm⟩ := ⟨_, rfl⟩
  have zA_125 : Hid (A_125.size = 16) := Lib.hid (by rw [eA_125]; exact RA_size _ _ _)
  have oA_125 : Hid (A_125.all (·.oneCell') = true) := Lib.hid (by rw [eA_125]; exact RA_one _ _ _)
  replace eA_125 := Lib.hid eA_125
  have cp_127 : V_119.cell? ⟨B0, 15, none⟩ = some (.int .i64 fl) := by rw [blk_cell H_123.out]; exact (by rw [eA_118.out]; simp [RA, TA])
  have zp_128 : V_119.frozen? ⟨B0, 15, none⟩ = false := blk_frozen H_123.out 15
  go_upto_region 15 with (fail)
  have H_129 : Hid ((V_119.setCell ⟨B0, 15, none⟩ (.int .i64 fm)).heap[X1]? = some (.cells ZR 30 (0, 0))) := Lib.hid (blk_far H_122.out (Nat.ne_of_gt lt1) _)
  have H_130 : Hid ((V_119.setCell ⟨B0, 15, none⟩ (.int .i64 fm)).heap[B0]? = some (.cells A_125 30 (0, 0))) := Lib.hid (blk_put H_123.out 15 _ (by rw [eA_118.out, eA_125.out]; simp [RA, TA]))
  have HE_131 : Hid (Below B0 w (V_119.setCell ⟨B0, 15, none⟩ (.int .i64 fm))) := Lib.hid (HE_124.out.setCell (p := ⟨B0, 15, none⟩) (Nat.le_refl B0) _)
  clear cp_127 zp_128
  generalize (V_119.setCell ⟨B0, 15, none⟩ (.int .i64 fm)) = V_126 at H_129 H_130 HE_131 ⊢
  clear HE_124 H_122 H_123
  have c_132 : V_126.cell? ⟨B0, 9, none⟩ = some (.int .i64 t.f9) := by rw [blk_cell H_130.out, eA_125.out]; simp [RA, TA]
  have h9n : (t.f9 != 1) = false := by simpa using h9
  go_upto_region 19 with (fail)
  clear c_132
  have h9' : t.f9 = 1 := by simpa using h9
  replace hx := Lib.hid hx
  replace h9' := Lib.hid h9'
  go_wp2_with (first | (refine wpl_ld _ _ rfl (by rfl) B0 rfl H_130.out Try.underlying30 rfl (by kernel_rfl) zA_125.out ?_))
  refine (length_c _ t d ⟨p, lm, false, fm⟩ _ eA_125.out ok.out h1 h2 (.inr hpl) x (by unfold lenv; rw [if_neg (fun h => h.1 h9'.out)]; exact hx.out)).mono ?_; rintro e V_133 ⟨rfl, hb_134⟩
  have H_135 : Hid (V_133.heap[B0]? = some (.cells A_125 30 (0, 0))) := Lib.hid ((hb_134.block B0 (blk_lt H_130.out)).trans H_130.out)
  have H_136 : Hid (V_133.heap[X1]? = some (.cells ZR 30 (0, 0))) := Lib.hid ((hb_134.block X1 (blk_lt H_129.out)).trans H_129.out)
  have HE_137 : Hid (Below B0 w V_133) := Lib.hid (HE_131.out.trans (hb_134.mono (sz_le hB0.out HE_131.out.size)))
  clear HE_131 H_130 H_129
  clear hb_134
  obtain ⟨A_138, eA_138⟩ : ∃ A, A = RA t d ⟨p, x, false, fm⟩ := ⟨_, rfl⟩
  have zA_138 : Hid (A_138.size = 16) := Lib.hid (by rw [eA_138]; exact RA_size _ _ _)
  have oA_138 : Hid (A_138.all (·.oneCell') = true) := Lib.hid (by rw [eA_138]; exact RA_one _ _ _)
  replace eA_138 := Lib.hid eA_138
  have cp_140 : V_133.cell? ⟨B0, 13, none⟩ = some (.int .i64 lm) := by rw [blk_cell H_135.out]; exact (by rw [eA_125.out]; simp [RA, TA])
  have zp_141 : V_133.frozen? ⟨B0, 13, none⟩ = false := blk_frozen H_135.out 13
  go_upto_region 20 with (fail)
  have H_142 : Hid ((V_133.setCell ⟨B0, 13, none⟩ (.int .i64 x)).heap[X1]? = some (.cells ZR 30 (0, 0))) := Lib.hid (blk_far H_136.out (Nat.ne_of_gt lt1) _)
  have H_143 : Hid ((V_133.setCell ⟨B0, 13, none⟩ (.int .i64 x)).heap[B0]? = some (.cells A_138 30 (0, 0))) := Lib.hid (blk_put H_135.out 13 _ (by rw [eA_125.out, eA_138.out]; simp [RA, TA]))
  have HE_144 : Hid (Below B0 w (V_133.setCell ⟨B0, 13, none⟩ (.int .i64 x))) := Lib.hid (HE_137.out.setCell (p := ⟨B0, 13, none⟩) (Nat.le_refl B0) _)
  clear cp_140 zp_141
  generalize (V_133.setCell ⟨B0, 13, none⟩ (.int .i64 x)) = V_139 at H_142 H_143 HE_144 ⊢
  clear HE_137 H_136 H_135
  obtain ⟨V_145, q_146_0, q_146_1, q_146_2, q_146_3⟩ := st_any H_142.out zZR.out zA_138.out oA_138.out
  have H_147 : Hid (V_145.heap[B0]? = some (.cells A_138 30 (0, 0))) := Lib.hid ((q_146_2 _ (Nat.ne_of_lt lt1)).trans H_143.out)
  have HE_148 : Hid (Below B0 w V_145) := Lib.hid (q_146_3 _ _ ge1 HE_144.out)
  have H_149 := Lib.hid q_146_1
  clear q_146_1 q_146_2 q_146_3
  go_wp2_with (first | (refine wpl_ld _ _ rfl (by rfl) B0 rfl H_143.out Try.underlying30 rfl (by kernel_rfl) zA_138.out ?_))
  clear q_146_0
  clear HE_144 H_143 H_142
  refine bodyPost_ret (v := .tuple #[.agg A_138, .int .i64 2]) (by refine Eq.trans (rc2 (fn := Try.f17) rfl _ _ X1 ?_ H_149.out Try.underlying30 rfl (by kernel_rfl) zA_138.out) ?_ <;> rfl) rfl ⟨?_, HE_148.out⟩
  rw [eA_138.out]
set_option maxRecDepth 100000 in
set_option maxHeartbeats 6000000 in
theorem rs_failR_f (w : World) (t : S28) (d : Int) (p : Nat) (lf fl lm fm : Int) (st : Bool) (R : Array Value) (eR : R = RA t d ⟨p, lf, st, fl⟩) (ok : OkT t) (h1 : 1 ≤ d) (h2 : d ≤ t.f3) (hw1 : wrap64 (lf - 1) = lm) (hw2 : wrap64 (fl + 1) = fm) (hw3 : wrap64 ((p : Int) + 1) = (p : Int) + 1) (hgt : decide (0 < lm) = false) (hst : st = true) (h9 : (t.f9 == 1) = true) (hpl : p < (pt t d).length) (x : Int) (hx : x = rd (pt t d) (p : Int)) : Calls Try.prog 17 #[.agg R, .bool false] w fun e w' => e = .returned (.tuple #[.agg (RA t d ⟨p, x, false, fm⟩), .int .i64 2]) ∧ Below w.heap.size w w' := by
  have zR : Hid (R.size = 16) := Lib.hid (by rw [eR]; exact RA_size _ _ _)
  have oR : Hid (R.all (·.oneCell') = true) := Lib.hid (by rw [eR]; exact RA_one _ _ _)
  replace eR := Lib.hid eR
  obtain ⟨pI, hpI⟩ : ∃ pI : Int, (p : Int) = pI := ⟨_, rfl⟩
  rw [hpI] at hw3
  replace ok := Lib.hid ok
  obtain ⟨ZR, eZR⟩ : ∃ A : Array Value, A = #[.string ⟨#[]⟩, .int .i64 0, .int .i64 0, .int .i64 0, .int .i64 0, .int .i64 0, .int .i64 0, .int .i64 0, .int .i64 0, .int .i64 0, .int .i64 0, .int .i64 0, .int .i64 0, .int .i64 0, .bool false, .int .i64 0] := ⟨_, rfl⟩
  have zZR : Hid (ZR.size = 16) := Lib.hid (by rw [eZR]; rfl)
  have hz : ∀ V : World, (zeroValue 30).run Try.prog V = .ok (.agg ZR) V := fun V => by rw [eZR]; kernel_rfl
  replace eZR := Lib.hid eZR
  obtain ⟨B0, hB0⟩ : ∃ B, w.heap.size = B := ⟨_, rfl⟩
  rw [hB0]
  obtain ⟨V0, hV0⟩ : ∃ V, w.alloc (.cells R 30) = V := ⟨_, rfl⟩
  obtain ⟨X1, hX1⟩ : ∃ X, V0.heap.size = X := ⟨_, rfl⟩
  obtain ⟨V1, hV1⟩ : ∃ V, V0.alloc (.cells ZR 30) = V := ⟨_, rfl⟩
  have g0 : V0.heap[B0]? = some (.cells R 30 (0, 0)) := by rw [← hV0]; exact (box_new hB0).1
  have lt1 : B0 < X1 := hX1 ▸ blk_lt g0
  have Hr : Hid (V1.heap[B0]? = some (.cells R 30 (0, 0))) := Lib.hid (by rw [← hV1]; exact ((box_new hX1).2 _ lt1).trans g0)
  have Hz : Hid (V1.heap[X1]? = some (.cells ZR 30 (0, 0))) := Lib.hid (by rw [← hV1]; exact (box_new hX1).1)
  have HE : Hid (Below B0 w V1) := Lib.hid (by rw [← hV1, ← hV0, ← hB0]; exact ((Below.refl _ _).alloc (Nat.le_refl _) _).alloc (by simp) _)
  have ge1 : B0 ≤ X1 := Nat.le_of_lt lt1
  clear g0
  go_enter Try.func17, Try.ntmps17
  go_upto_region 1 with (fail)
  replace hB0 := Lib.hid hB0
  replace hV0 := Lib.hid hV0
  replace hX1 := Lib.hid hX1
  replace hV1 := Lib.hid hV1
  replace hpI := Lib.hid hpI
  obtain ⟨A_150, eA_150⟩ : ∃ A, A = RA t d ⟨p, lm, st, fl⟩ := ⟨_, rfl⟩
  have zA_150 : Hid (A_150.size = 16) := Lib.hid (by rw [eA_150]; exact RA_size _ _ _)
  have oA_150 : Hid (A_150.all (·.oneCell') = true) := Lib.hid (by rw [eA_150]; exact RA_one _ _ _)
  replace eA_150 := Lib.hid eA_150
  have cp_152 : V1.cell? ⟨B0, 13, none⟩ = some (.int .i64 lf) := by rw [blk_cell Hr.out]; exact (by rw [eR.out]; simp [RA, TA])
  have zp_153 : V1.frozen? ⟨B0, 13, none⟩ = false := blk_frozen Hr.out 13
  go_upto_region 2 with (fail)
  have H_154 : Hid ((V1.setCell ⟨B0, 13, none⟩ (.int .i64 lm)).heap[X1]? = some (.cells ZR 30 (0, 0))) := Lib.hid (blk_far Hz.out (Nat.ne_of_gt lt1) _)
  have H_155 : Hid ((V1.setCell ⟨B0, 13, none⟩ (.int .i64 lm)).heap[B0]? = some (.cells A_150 30 (0, 0))) := Lib.hid (blk_put Hr.out 13 _ (by rw [eR.out, eA_150.out]; simp [RA, TA]))
  have HE_156 : Hid (Below B0 w (V1.setCell ⟨B0, 13, none⟩ (.int .i64 lm))) := Lib.hid (HE.out.setCell (p := ⟨B0, 13, none⟩) (Nat.le_refl B0) _)
  clear cp_152 zp_153
  generalize (V1.setCell ⟨B0, 13, none⟩ (.int .i64 lm)) = V_151 at H_154 H_155 HE_156 ⊢
  clear HE Hz Hr
  have c_157 : V_151.cell? ⟨B0, 13, none⟩ = some (.int .i64 lm) := by rw [blk_cell H_155.out, eA_150.out]; simp [RA, TA]
  go_upto_region 6 with (fail)
  clear c_157
  subst hst
  have c_158 : V_151.cell? ⟨B0, 14, none⟩ = some (.bool true) := by rw [blk_cell H_155.out, eA_150.out]; simp [RA, TA]
  go_upto_region 12 with (fail)
  clear c_158
  obtain ⟨A_159, eA_159⟩ : ∃ A, A = RA t d ⟨p, lm, false, fl⟩ := ⟨_, rfl⟩
  have zA_159 : Hid (A_159.size = 16) := Lib.hid (by rw [eA_159]; exact RA_size _ _ _)
  have oA_159 : Hid (A_159.all (·.oneCell') = true) := Lib.hid (by rw [eA_159]; exact RA_one _ _ _)
  replace eA_159 := Lib.hid eA_159
  have cp_161 : V_151.cell? ⟨B0, 14, none⟩ = some (.bool true) := by rw [blk_cell H_155.out]; exact (by rw [eA_150.out]; simp [RA, TA])
  have zp_162 : V_151.frozen? ⟨B0, 14, none⟩ = false := blk_frozen H_155.out 14
  go_upto_region 13 with (fail)
  have H_163 : Hid ((V_151.setCell ⟨B0, 14, none⟩ (.bool false)).heap[X1]? = some (.cells ZR 30 (0, 0))) := Lib.hid (blk_far H_154.out (Nat.ne_of_gt lt1) _)
  have H_164 : Hid ((V_151.setCell ⟨B0, 14, none⟩ (.bool false)).heap[B0]? = some (.cells A_159 30 (0, 0))) := Lib.hid (blk_put H_155.out 14 _ (by rw [eA_150.out, eA_159.out]; simp [RA, TA]))
  have HE_165 : Hid (Below B0 w (V_151.setCell ⟨B0, 14, none⟩ (.bool false))) := Lib.hid (HE_156.out.setCell (p := ⟨B0, 14, none⟩) (Nat.le_refl B0) _)
  clear cp_161 zp_162
  generalize (V_151.setCell ⟨B0, 14, none⟩ (.bool false)) = V_160 at H_163 H_164 HE_165 ⊢
  clear HE_156 H_154 H_155
  obtain ⟨A_166, eA_166⟩ : ∃ A, A = RA t d ⟨p, lm, false, fm⟩ := ⟨_, rfl⟩
  have zA_166 : Hid (A_166.size = 16) := Lib.hid (by rw [eA_166]; exact RA_size _ _ _)
  have oA_166 : Hid (A_166.all (·.oneCell') = true) := Lib.hid (by rw [eA_166]; exact RA_one _ _ _)
  replace eA_166 := Lib.hid eA_166
  have cp_168 : V_160.cell? ⟨B0, 15, none⟩ = some (.int .i64 fl) := by rw [blk_cell H_164.out]; exact (by rw [eA_159.out]; simp [RA, TA])
  have zp_169 : V_160.frozen? ⟨B0, 15, none⟩ = false := blk_frozen H_164.out 15
  go_upto_region 15 with (fail)
  have H_170 : Hid ((V_160.setCell ⟨B0, 15, none⟩ (.int .i64 fm)).heap[X1]? = some (.cells ZR 30 (0, 0))) := Lib.hid (blk_far H_163.out (Nat.ne_of_gt lt1) _)
  have H_171 : Hid ((V_160.setCell ⟨B0, 15, none⟩ (.int .i64 fm)).heap[B0]? = some (.cells A_166 30 (0, 0))) := Lib.hid (blk_put H_164.out 15 _ (by rw [eA_159.out, eA_166.out]; simp [RA, TA]))
  have HE_172 : Hid (Below B0 w (V_160.setCell ⟨B0, 15, none⟩ (.int .i64 fm))) := Lib.hid (HE_165.out.setCell (p := ⟨B0, 15, none⟩) (Nat.le_refl B0) _)
  clear cp_168 zp_169
  generalize (V_160.setCell ⟨B0, 15, none⟩ (.int .i64 fm)) = V_167 at H_170 H_171 HE_172 ⊢
  clear HE_165 H_163 H_164
  have c_173 : V_167.cell? ⟨B0, 9, none⟩ = some (.int .i64 t.f9) := by rw [blk_cell H_171.out, eA_166.out]; simp [RA, TA]
  have h9n : (t.f9 != 1) = false := by simpa using h9
  go_upto_region 19 with (fail)
  clear c_173
  have h9' : t.f9 = 1 := by simpa using h9
  replace hx := Lib.hid hx
  replace h9' := Lib.hid h9'
  go_wp2_with (first | (refine wpl_ld _ _ rfl (by rfl) B0 rfl H_171.out Try.underlying30 rfl (by kernel_rfl) zA_166.out ?_))
  refine (length_c _ t d ⟨p, lm, false, fm⟩ _ eA_166.out ok.out h1 h2 (.inr hpl) x (by unfold lenv; rw [if_neg (fun h => h.1 h9'.out)]; exact hx.out)).mono ?_; rintro e V_174 ⟨rfl, hb_175⟩
  have H_176 : Hid (V_174.heap[B0]? = some (.cells A_166 30 (0, 0))) := Lib.hid ((hb_175.block B0 (blk_lt H_171.out)).trans H_171.out)
  have H_177 : Hid (V_174.heap[X1]? = some (.cells ZR 30 (0, 0))) := Lib.hid ((hb_175.block X1 (blk_lt H_170.out)).trans H_170.out)
  have HE_178 : Hid (Below B0 w V_174) := Lib.hid (HE_172.out.trans (hb_175.mono (sz_le hB0.out HE_172.out.size)))
  clear HE_172 H_171 H_170
  clear hb_175
  obtain ⟨A_179, eA_179⟩ : ∃ A, A = RA t d ⟨p, x, false, fm⟩ := ⟨_, rfl⟩
  have zA_179 : Hid (A_179.size = 16) := Lib.hid (by rw [eA_179]; exact RA_size _ _ _)
  have oA_179 : Hid (A_179.all (·.oneCell') = true) := Lib.hid (by rw [eA_179]; exact RA_one _ _ _)
  replace eA_179 := Lib.hid eA_179
  have cp_181 : V_174.cell? ⟨B0, 13, none⟩ = some (.int .i64 lm) := by rw [blk_cell H_176.out]; exact (by rw [eA_166.out]; simp [RA, TA])
  have zp_182 : V_174.frozen? ⟨B0, 13, none⟩ = false := blk_frozen H_176.out 13
  go_upto_region 20 with (fail)
  have H_183 : Hid ((V_174.setCell ⟨B0, 13, none⟩ (.int .i64 x)).heap[X1]? = some (.cells ZR 30 (0, 0))) := Lib.hid (blk_far H_177.out (Nat.ne_of_gt lt1) _)
  have H_184 : Hid ((V_174.setCell ⟨B0, 13, none⟩ (.int .i64 x)).heap[B0]? = some (.cells A_179 30 (0, 0))) := Lib.hid (blk_put H_176.out 13 _ (by rw [eA_166.out, eA_179.out]; simp [RA, TA]))
  have HE_185 : Hid (Below B0 w (V_174.setCell ⟨B0, 13, none⟩ (.int .i64 x))) := Lib.hid (HE_178.out.setCell (p := ⟨B0, 13, none⟩) (Nat.le_refl B0) _)
  clear cp_181 zp_182
  generalize (V_174.setCell ⟨B0, 13, none⟩ (.int .i64 x)) = V_180 at H_183 H_184 HE_185 ⊢
  clear HE_178 H_177 H_176
  obtain ⟨V_186, q_187_0, q_187_1, q_187_2, q_187_3⟩ := st_any H_183.out zZR.out zA_179.out oA_179.out
  have H_188 : Hid (V_186.heap[B0]? = some (.cells A_179 30 (0, 0))) := Lib.hid ((q_187_2 _ (Nat.ne_of_lt lt1)).trans H_184.out)
  have HE_189 : Hid (Below B0 w V_186) := Lib.hid (q_187_3 _ _ ge1 HE_185.out)
  have H_190 := Lib.hid q_187_1
  clear q_187_1 q_187_2 q_187_3
  go_wp2_with (first | (refine wpl_ld _ _ rfl (by rfl) B0 rfl H_184.out Try.underlying30 rfl (by kernel_rfl) zA_179.out ?_))
  clear q_187_0
  clear HE_185 H_184 H_183
  refine bodyPost_ret (v := .tuple #[.agg A_179, .int .i64 2]) (by refine Eq.trans (rc2 (fn := Try.f17) rfl _ _ X1 ?_ H_190.out Try.underlying30 rfl (by kernel_rfl) zA_179.out) ?_ <;> rfl) rfl ⟨?_, HE_189.out⟩
  rw [eA_179.out]
set_option maxRecDepth 100000 in
set_option maxHeartbeats 6000000 in
theorem rs_fail3_t (w : World) (t : S28) (d : Int) (p : Nat) (lf fl lm fm : Int) (st : Bool) (R : Array Value) (eR : R = RA t d ⟨p, lf, st, fl⟩) (ok : OkT t) (h1 : 1 ≤ d) (h2 : d ≤ t.f3) (hw1 : wrap64 (lf - 1) = lm) (hw2 : wrap64 (fl + 1) = fm) (hw3 : wrap64 ((p : Int) + 1) = (p : Int) + 1) (hgt : decide (0 < lm) = false) (h9 : (t.f9 == 1) = false) (h3 : (t.f9 == 3) = true) (hp0 : ((p : Int) == 0) = true) (x : Int) (hx : x = t.f4 + t.f6) : Calls Try.prog 17 #[.agg R, .bool true] w fun e w' => e = .returned (.tuple #[.agg (RA t d ⟨1, x, false, fm⟩), .int .i64 3]) ∧ Below w.heap.size w w' := by
  have zR : Hid (R.size = 16) := Lib.hid (by rw [eR]; exact RA_size _ _ _)
  have oR : Hid (R.all (·.oneCell') = true) := Lib.hid (by rw [eR]; exact RA_one _ _ _)
  replace eR := Lib.hid eR
  obtain ⟨pI, hpI⟩ : ∃ pI : Int, (p : Int) = pI := ⟨_, rfl⟩
  rw [hpI] at hw3
  replace ok := Lib.hid ok
  obtain ⟨ZR, eZR⟩ : ∃ A : Array Value, A = #[.string ⟨#[]⟩, .int .i64 0, .int .i64 0, .int .i64 0, .int .i64 0, .int .i64 0, .int .i64 0, .int .i64 0, .int .i64 0, .int .i64 0, .int .i64 0, .int .i64 0, .int .i64 0, .int .i64 0, .bool false, .int .i64 0] := ⟨_, rfl⟩
  have zZR : Hid (ZR.size = 16) := Lib.hid (by rw [eZR]; rfl)
  have hz : ∀ V : World, (zeroValue 30).run Try.prog V = .ok (.agg ZR) V := fun V => by rw [eZR]; kernel_rfl
  replace eZR := Lib.hid eZR
  obtain ⟨B0, hB0⟩ : ∃ B, w.heap.size = B := ⟨_, rfl⟩
  rw [hB0]
  obtain ⟨V0, hV0⟩ : ∃ V, w.alloc (.cells R 30) = V := ⟨_, rfl⟩
  obtain ⟨X1, hX1⟩ : ∃ X, V0.heap.size = X := ⟨_, rfl⟩
  obtain ⟨V1, hV1⟩ : ∃ V, V0.alloc (.cells ZR 30) = V := ⟨_, rfl⟩
  have g0 : V0.heap[B0]? = some (.cells R 30 (0, 0)) := by rw [← hV0]; exact (box_new hB0).1
  have lt1 : B0 < X1 := hX1 ▸ blk_lt g0
  have Hr : Hid (V1.heap[B0]? = some (.cells R 30 (0, 0))) := Lib.hid (by rw [← hV1]; exact ((box_new hX1).2 _ lt1).trans g0)
  have Hz : Hid (V1.heap[X1]? = some (.cells ZR 30 (0, 0))) := Lib.hid (by rw [← hV1]; exact (box_new hX1).1)
  have HE : Hid (Below B0 w V1) := Lib.hid (by rw [← hV1, ← hV0, ← hB0]; exact ((Below.refl _ _).alloc (Nat.le_refl _) _).alloc (by simp) _)
  have ge1 : B0 ≤ X1 := Nat.le_of_lt lt1
  clear g0
  go_enter Try.func17, Try.ntmps17
  go_upto_region 1 with (fail)
  replace hB0 := Lib.hid hB0
  replace hV0 := Lib.hid hV0
  replace hX1 := Lib.hid hX1
  replace hV1 := Lib.hid hV1
  replace hpI := Lib.hid hpI
  obtain ⟨A_191, eA_191⟩ : ∃ A, A = RA t d ⟨p, lm, st, fl⟩ := ⟨_, rfl⟩
  have zA_191 : Hid (A_191.size = 16) := Lib.hid (by rw [eA_191]; exact RA_size _ _ _)
  have oA_191 : Hid (A_191.all (·.oneCell') = true) := Lib.hid (by rw [eA_191]; exact RA_one _ _ _)
  replace eA_191 := Lib.hid eA_191
  have cp_193 : V1.cell? ⟨B0, 13, none⟩ = some (.int .i64 lf) := by rw [blk_cell Hr.out]; exact (by rw [eR.out]; simp [RA, TA])
  have zp_194 : V1.frozen? ⟨B0, 13, none⟩ = false := blk_frozen Hr.out 13
  go_upto_region 2 with (fail)
  have H_195 : Hid ((V1.setCell ⟨B0, 13, none⟩ (.int .i64 lm)).heap[X1]? = some (.cells ZR 30 (0, 0))) := Lib.hid (blk_far Hz.out (Nat.ne_of_gt lt1) _)
  have H_196 : Hid ((V1.setCell ⟨B0, 13, none⟩ (.int .i64 lm)).heap[B0]? = some (.cells A_191 30 (0, 0))) := Lib.hid (blk_put Hr.out 13 _ (by rw [eR.out, eA_191.out]; simp [RA, TA]))
  have HE_197 : Hid (Below B0 w (V1.setCell ⟨B0, 13, none⟩ (.int .i64 lm))) := Lib.hid (HE.out.setCell (p := ⟨B0, 13, none⟩) (Nat.le_refl B0) _)
  clear cp_193 zp_194
  generalize (V1.setCell ⟨B0, 13, none⟩ (.int .i64 lm)) = V_192 at H_195 H_196 HE_197 ⊢
  clear HE Hz Hr
  obtain ⟨A_198, eA_198⟩ : ∃ A, A = RA t d ⟨p, lm, true, fl⟩ := ⟨_, rfl⟩
  have zA_198 : Hid (A_198.size = 16) := Lib.hid (by rw [eA_198]; exact RA_size _ _ _)
  have oA_198 : Hid (A_198.all (·.oneCell') = true) := Lib.hid (by rw [eA_198]; exact RA_one _ _ _)
  replace eA_198 := Lib.hid eA_198
  have cp_200 : V_192.cell? ⟨B0, 14, none⟩ = some (.bool st) := by rw [blk_cell H_196.out]; exact (by rw [eA_191.out]; simp [RA, TA])
  have zp_201 : V_192.frozen? ⟨B0, 14, none⟩ = false := blk_frozen H_196.out 14
  go_upto_region 4 with (fail)
  have H_202 : Hid ((V_192.setCell ⟨B0, 14, none⟩ (.bool true)).heap[X1]? = some (.cells ZR 30 (0, 0))) := Lib.hid (blk_far H_195.out (Nat.ne_of_gt lt1) _)
  have H_203 : Hid ((V_192.setCell ⟨B0, 14, none⟩ (.bool true)).heap[B0]? = some (.cells A_198 30 (0, 0))) := Lib.hid (blk_put H_196.out 14 _ (by rw [eA_191.out, eA_198.out]; simp [RA, TA]))
  have HE_204 : Hid (Below B0 w (V_192.setCell ⟨B0, 14, none⟩ (.bool true))) := Lib.hid (HE_197.out.setCell (p := ⟨B0, 14, none⟩) (Nat.le_refl B0) _)
  clear cp_200 zp_201
  generalize (V_192.setCell ⟨B0, 14, none⟩ (.bool true)) = V_199 at H_202 H_203 HE_204 ⊢
  clear HE_197 H_195 H_196
  have c_205 : V_199.cell? ⟨B0, 13, none⟩ = some (.int .i64 lm) := by rw [blk_cell H_203.out, eA_198.out]; simp [RA, TA]
  go_upto_region 6 with (fail)
  clear c_205
  have c_206 : V_199.cell? ⟨B0, 14, none⟩ = some (.bool true) := by rw [blk_cell H_203.out, eA_198.out]; simp [RA, TA]
  go_upto_region 12 with (fail)
  clear c_206
  obtain ⟨A_207, eA_207⟩ : ∃ A, A = RA t d ⟨p, lm, false, fl⟩ := ⟨_, rfl⟩
  have zA_207 : Hid (A_207.size = 16) := Lib.hid (by rw [eA_207]; exact RA_size _ _ _)
  have oA_207 : Hid (A_207.all (·.oneCell') = true) := Lib.hid (by rw [eA_207]; exact RA_one _ _ _)
  replace eA_207 := Lib.hid eA_207
  have cp_209 : V_199.cell? ⟨B0, 14, none⟩ = some (.bool true) := by rw [blk_cell H_203.out]; exact (by rw [eA_198.out]; simp [RA, TA])
  have zp_210 : V_199.frozen? ⟨B0, 14, none⟩ = false := blk_frozen H_203.out 14
  go_upto_region 13 with (fail)
  have H_211 : Hid ((V_199.setCell ⟨B0, 14, none⟩ (.bool false)).heap[X1]? = some (.cells ZR 30 (0, 0))) := Lib.hid (blk_far H_202.out (Nat.ne_of_gt lt1) _)
  have H_212 : Hid ((V_199.setCell ⟨B0, 14, none⟩ (.bool false)).heap[B0]? = some (.cells A_207 30 (0, 0))) := Lib.hid (blk_put H_203.out 14 _ (by rw [eA_198.out, eA_207.out]; simp [RA, TA]))
  have HE_213 : Hid (Below B0 w (V_199.setCell ⟨B0, 14, none⟩ (.bool false))) := Lib.hid (HE_204.out.setCell (p := ⟨B0, 14, none⟩) (Nat.le_refl B0) _)
  clear cp_209 zp_210
  generalize (V_199.setCell ⟨B0, 14, none⟩ (.bool false)) = V_208 at H_211 H_212 HE_213 ⊢
  clear HE_204 H_202 H_203
  obtain ⟨A_214, eA_214⟩ : ∃ A, A = RA t d ⟨p, lm, false, fm⟩ := ⟨_, rfl⟩
  have zA_214 : Hid (A_214.size = 16) := Lib.hid (by rw [eA_214]; exact RA_size _ _ _)
  have oA_214 : Hid (A_214.all (·.oneCell') = true) := Lib.hid (by rw [eA_214]; exact RA_one _ _ _)
  replace eA_214 := Lib.hid eA_214
  have cp_216 : V_208.cell? ⟨B0, 15, none⟩ = some (.int .i64 fl) := by rw [blk_cell H_212.out]; exact (by rw [eA_207.out]; simp [RA, TA])
  have zp_217 : V_208.frozen? ⟨B0, 15, none⟩ = false := blk_frozen H_212.out 15
  go_upto_region 15 with (fail)
  have H_218 : Hid ((V_208.setCell ⟨B0, 15, none⟩ (.int .i64 fm)).heap[X1]? = some (.cells ZR 30 (0, 0))) := Lib.hid (blk_far H_211.out (Nat.ne_of_gt lt1) _)
  have H_219 : Hid ((V_208.setCell ⟨B0, 15, none⟩ (.int .i64 fm)).heap[B0]? = some (.cells A_214 30 (0, 0))) := Lib.hid (blk_put H_212.out 15 _ (by rw [eA_207.out, eA_214.out]; simp [RA, TA]))
  have HE_220 : Hid (Below B0 w (V_208.setCell ⟨B0, 15, none⟩ (.int .i64 fm))) := Lib.hid (HE_213.out.setCell (p := ⟨B0, 15, none⟩) (Nat.le_refl B0) _)
  clear cp_216 zp_217
  generalize (V_208.setCell ⟨B0, 15, none⟩ (.int .i64 fm)) = V_215 at H_218 H_219 HE_220 ⊢
  clear HE_213 H_211 H_212
  have c_221 : V_215.cell? ⟨B0, 9, none⟩ = some (.int .i64 t.f9) := by rw [blk_cell H_219.out, eA_214.out]; simp [RA, TA]
  have h9n : (t.f9 != 1) = true := by simpa using h9
  rw [hpI.out] at hp0
  have c_222 : V_215.cell? ⟨B0, 12, none⟩ = some (.int .i64 pI) := by rw [blk_cell H_219.out, eA_214.out, ← hpI.out]; simp [RA, TA]
  go_upto_region 18 with (fail)
  clear c_221 c_222
  obtain ⟨A_223, eA_223⟩ : ∃ A, A = RA t d ⟨1, lm, false, fm⟩ := ⟨_, rfl⟩
  have zA_223 : Hid (A_223.size = 16) := Lib.hid (by rw [eA_223]; exact RA_size _ _ _)
  have oA_223 : Hid (A_223.all (·.oneCell') = true) := Lib.hid (by rw [eA_223]; exact RA_one _ _ _)
  replace eA_223 := Lib.hid eA_223
  have cp_225 : V_215.cell? ⟨B0, 12, none⟩ = some (.int .i64 pI) := by rw [blk_cell H_219.out]; exact (by rw [eA_214.out, ← hpI.out]; simp [RA, TA])
  have zp_226 : V_215.frozen? ⟨B0, 12, none⟩ = false := blk_frozen H_219.out 12
  go_upto_region 19 with (fail)
  have H_227 : Hid ((V_215.setCell ⟨B0, 12, none⟩ (.int .i64 1)).heap[X1]? = some (.cells ZR 30 (0, 0))) := Lib.hid (blk_far H_218.out (Nat.ne_of_gt lt1) _)
  have H_228 : Hid ((V_215.setCell ⟨B0, 12, none⟩ (.int .i64 1)).heap[B0]? = some (.cells A_223 30 (0, 0))) := Lib.hid (blk_put H_219.out 12 _ (by rw [eA_214.out, eA_223.out]; simp [RA, TA]))
  have HE_229 : Hid (Below B0 w (V_215.setCell ⟨B0, 12, none⟩ (.int .i64 1))) := Lib.hid (HE_220.out.setCell (p := ⟨B0, 12, none⟩) (Nat.le_refl B0) _)
  clear cp_225 zp_226
  generalize (V_215.setCell ⟨B0, 12, none⟩ (.int .i64 1)) = V_224 at H_227 H_228 HE_229 ⊢
  clear HE_220 H_218 H_219
  have h9' : ¬ t.f9 = 1 := by simpa using h9
  replace h9' := Lib.hid h9'
  replace hx := Lib.hid hx
  go_wp2_with (first | (refine wpl_ld _ _ rfl (by rfl) B0 rfl H_228.out Try.underlying30 rfl (by kernel_rfl) zA_223.out ?_))
  refine (length_c _ t d ⟨1, lm, false, fm⟩ _ eA_223.out ok.out h1 h2 (.inl ⟨h9'.out, rfl⟩) x (by unfold lenv; rw [if_pos ⟨h9'.out, rfl⟩]; exact hx.out)).mono ?_; rintro e V_230 ⟨rfl, hb_231⟩
  have H_232 : Hid (V_230.heap[B0]? = some (.cells A_223 30 (0, 0))) := Lib.hid ((hb_231.block B0 (blk_lt H_228.out)).trans H_228.out)
  have H_233 : Hid (V_230.heap[X1]? = some (.cells ZR 30 (0, 0))) := Lib.hid ((hb_231.block X1 (blk_lt H_227.out)).trans H_227.out)
  have HE_234 : Hid (Below B0 w V_230) := Lib.hid (HE_229.out.trans (hb_231.mono (sz_le hB0.out HE_229.out.size)))
  clear HE_229 H_228 H_227
  clear hb_231
  obtain ⟨A_235, eA_235⟩ : ∃ A, A = RA t d ⟨1, x, false, fm⟩ := ⟨_, rfl⟩
  have zA_235 : Hid (A_235.size = 16) := Lib.hid (by rw [eA_235]; exact RA_size _ _ _)
  have oA_235 : Hid (A_235.all (·.oneCell') = true) := Lib.hid (by rw [eA_235]; exact RA_one _ _ _)
  replace eA_235 := Lib.hid eA_235
  have cp_237 : V_230.cell? ⟨B0, 13, none⟩ = some (.int .i64 lm) := by rw [blk_cell H_232.out]; exact (by rw [eA_223.out]; simp [RA, TA])
  have zp_238 : V_230.frozen? ⟨B0, 13, none⟩ = false := blk_frozen H_232.out 13
  go_upto_region 20 with (fail)
  have H_239 : Hid ((V_230.setCell ⟨B0, 13, none⟩ (.int .i64 x)).heap[X1]? = some (.cells ZR 30 (0, 0))) := Lib.hid (blk_far H_233.out (Nat.ne_of_gt lt1) _)
  have H_240 : Hid ((V_230.setCell ⟨B0, 13, none⟩ (.int .i64 x)).heap[B0]? = some (.cells A_235 30 (0, 0))) := Lib.hid (blk_put H_232.out 13 _ (by rw [eA_223.out, eA_235.out]; simp [RA, TA]))
  have HE_241 : Hid (Below B0 w (V_230.setCell ⟨B0, 13, none⟩ (.int .i64 x))) := Lib.hid (HE_234.out.setCell (p := ⟨B0, 13, none⟩) (Nat.le_refl B0) _)
  clear cp_237 zp_238
  generalize (V_230.setCell ⟨B0, 13, none⟩ (.int .i64 x)) = V_236 at H_239 H_240 HE_241 ⊢
  clear HE_234 H_233 H_232
  obtain ⟨V_242, q_243_0, q_243_1, q_243_2, q_243_3⟩ := st_any H_239.out zZR.out zA_235.out oA_235.out
  have H_244 : Hid (V_242.heap[B0]? = some (.cells A_235 30 (0, 0))) := Lib.hid ((q_243_2 _ (Nat.ne_of_lt lt1)).trans H_240.out)
  have HE_245 : Hid (Below B0 w V_242) := Lib.hid (q_243_3 _ _ ge1 HE_241.out)
  have H_246 := Lib.hid q_243_1
  clear q_243_1 q_243_2 q_243_3
  go_wp2_with (first | (refine wpl_ld _ _ rfl (by rfl) B0 rfl H_240.out Try.underlying30 rfl (by kernel_rfl) zA_235.out ?_))
  clear q_243_0
  clear HE_241 H_240 H_239
  refine bodyPost_ret (v := .tuple #[.agg A_235, .int .i64 3]) (by refine Eq.trans (rc2 (fn := Try.f17) rfl _ _ X1 ?_ H_246.out Try.underlying30 rfl (by kernel_rfl) zA_235.out) ?_ <;> rfl) rfl ⟨?_, HE_245.out⟩
  rw [eA_235.out]
set_option maxRecDepth 100000 in
set_option maxHeartbeats 6000000 in
theorem rs_fail3_f (w : World) (t : S28) (d : Int) (p : Nat) (lf fl lm fm : Int) (st : Bool) (R : Array Value) (eR : R = RA t d ⟨p, lf, st, fl⟩) (ok : OkT t) (h1 : 1 ≤ d) (h2 : d ≤ t.f3) (hw1 : wrap64 (lf - 1) = lm) (hw2 : wrap64 (fl + 1) = fm) (hw3 : wrap64 ((p : Int) + 1) = (p : Int) + 1) (hgt : decide (0 < lm) = false) (hst : st = true) (h9 : (t.f9 == 1) = false) (h3 : (t.f9 == 3) = true) (hp0 : ((p : Int) == 0) = true) (x : Int) (hx : x = t.f4 + t.f6) : Calls Try.prog 17 #[.agg R, .bool false] w fun e w' => e = .returned (.tuple #[.agg (RA t d ⟨1, x, false, fm⟩), .int .i64 3]) ∧ Below w.heap.size w w' := by
  have zR : Hid (R.size = 16) := Lib.hid (by rw [eR]; exact RA_size _ _ _)
  have oR : Hid (R.all (·.oneCell') = true) := Lib.hid (by rw [eR]; exact RA_one _ _ _)
  replace eR := Lib.hid eR
  obtain ⟨pI, hpI⟩ : ∃ pI : Int, (p : Int) = pI := ⟨_, rfl⟩
  rw [hpI] at hw3
  replace ok := Lib.hid ok
  obtain ⟨ZR, eZR⟩ : ∃ A : Array Value, A = #[.string ⟨#[]⟩, .int .i64 0, .int .i64 0, .int .i64 0, .int .i64 0, .int .i64 0, .int .i64 0, .int .i64 0, .int .i64 0, .int .i64 0, .int .i64 0, .int .i64 0, .int .i64 0, .int .i64 0, .bool false, .int .i64 0] := ⟨_, rfl⟩
  have zZR : Hid (ZR.size = 16) := Lib.hid (by rw [eZR]; rfl)
  have hz : ∀ V : World, (zeroValue 30).run Try.prog V = .ok (.agg ZR) V := fun V => by rw [eZR]; kernel_rfl
  replace eZR := Lib.hid eZR
  obtain ⟨B0, hB0⟩ : ∃ B, w.heap.size = B := ⟨_, rfl⟩
  rw [hB0]
  obtain ⟨V0, hV0⟩ : ∃ V, w.alloc (.cells R 30) = V := ⟨_, rfl⟩
  obtain ⟨X1, hX1⟩ : ∃ X, V0.heap.size = X := ⟨_, rfl⟩
  obtain ⟨V1, hV1⟩ : ∃ V, V0.alloc (.cells ZR 30) = V := ⟨_, rfl⟩
  have g0 : V0.heap[B0]? = some (.cells R 30 (0, 0)) := by rw [← hV0]; exact (box_new hB0).1
  have lt1 : B0 < X1 := hX1 ▸ blk_lt g0
  have Hr : Hid (V1.heap[B0]? = some (.cells R 30 (0, 0))) := Lib.hid (by rw [← hV1]; exact ((box_new hX1).2 _ lt1).trans g0)
  have Hz : Hid (V1.heap[X1]? = some (.cells ZR 30 (0, 0))) := Lib.hid (by rw [← hV1]; exact (box_new hX1).1)
  have HE : Hid (Below B0 w V1) := Lib.hid (by rw [← hV1, ← hV0, ← hB0]; exact ((Below.refl _ _).alloc (Nat.le_refl _) _).alloc (by simp) _)
  have ge1 : B0 ≤ X1 := Nat.le_of_lt lt1
  clear g0
  go_enter Try.func17, Try.ntmps17
  go_upto_region 1 with (fail)
  replace hB0 := Lib.hid hB0
  replace hV0 := Lib.hid hV0
  replace hX1 := Lib.hid hX1
  replace hV1 := Lib.hid hV1
  replace hpI := Lib.hid hpI
  obtain ⟨A_247, eA_247⟩ : ∃ A, A = RA t d ⟨p, lm, st, fl⟩ := ⟨_, rfl⟩
  have zA_247 : Hid (A_247.size = 16) := Lib.hid (by rw [eA_247]; exact RA_size _ _ _)
  have oA_247 : Hid (A_247.all (·.oneCell') = true) := Lib.hid (by rw [eA_247]; exact RA_one _ _ _)
  replace eA_247 := Lib.hid eA_247
  have cp_249 : V1.cell? ⟨B0, 13, none⟩ = some (.int .i64 lf) := by rw [blk_cell Hr.out]; exact (by rw [eR.out]; simp [RA, TA])
  have zp_250 : V1.frozen? ⟨B0, 13, none⟩ = false := blk_frozen Hr.out 13
  go_upto_region 2 with (fail)
  have H_251 : Hid ((V1.setCell ⟨B0, 13, none⟩ (.int .i64 lm)).heap[X1]? = some (.cells ZR 30 (0, 0))) := Lib.hid (blk_far Hz.out (Nat.ne_of_gt lt1) _)
  have H_252 : Hid ((V1.setCell ⟨B0, 13, none⟩ (.int .i64 lm)).heap[B0]? = some (.cells A_247 30 (0, 0))) := Lib.hid (blk_put Hr.out 13 _ (by rw [eR.out, eA_247.out]; simp [RA, TA]))
  have HE_253 : Hid (Below B0 w (V1.setCell ⟨B0, 13, none⟩ (.int .i64 lm))) := Lib.hid (HE.out.setCell (p := ⟨B0, 13, none⟩) (Nat.le_refl B0) _)
  clear cp_249 zp_250
  generalize (V1.setCell ⟨B0, 13, none⟩ (.int .i64 lm)) = V_248 at H_251 H_252 HE_253 ⊢
  clear HE Hz Hr
  have c_254 : V_248.cell? ⟨B0, 13, none⟩ = some (.int .i64 lm) := by rw [blk_cell H_252.out, eA_247.out]; simp [RA, TA]
  go_upto_region 6 with (fail)
  clear c_254
  subst hst
  have c_255 : V_248.cell? ⟨B0, 14, none⟩ = some (.bool true) := by rw [blk_cell H_252.out, eA_247.out]; simp [RA, TA]
  go_upto_region 12 with (fail)
  clear c_255
  obtain ⟨A_256, eA_256⟩ : ∃ A, A = RA t d ⟨p, lm, false, fl⟩ := ⟨_, rfl⟩
  have zA_256 : Hid (A_256.size = 16) := Lib.hid (by rw [eA_256]; exact RA_size _ _ _)
  have oA_256 : Hid (A_256.all (·.oneCell') = true) := Lib.hid (by rw [eA_256]; exact RA_one _ _ _)
  replace eA_256 := Lib.hid eA_256
  have cp_258 : V_248.cell? ⟨B0, 14, none⟩ = some (.bool true) := by rw [blk_cell H_252.out]; exact (by rw [eA_247.out]; simp [RA, TA])
  have zp_259 : V_248.frozen? ⟨B0, 14, none⟩ = false := blk_frozen H_252.out 14
  go_upto_region 13 with (fail)
  have H_260 : Hid ((V_248.setCell ⟨B0, 14, none⟩ (.bool false)).heap[X1]? = some (.cells ZR 30 (0, 0))) := Lib.hid (blk_far H_251.out (Nat.ne_of_gt lt1) _)
  have H_261 : Hid ((V_248.setCell ⟨B0, 14, none⟩ (.bool false)).heap[B0]? = some (.cells A_256 30 (0, 0))) := Lib.hid (blk_put H_252.out 14 _ (by rw [eA_247.out, eA_256.out]; simp [RA, TA]))
  have HE_262 : Hid (Below B0 w (V_248.setCell ⟨B0, 14, none⟩ (.bool false))) := Lib.hid (HE_253.out.setCell (p := ⟨B0, 14, none⟩) (Nat.le_refl B0) _)
  clear cp_258 zp_259
  generalize (V_248.setCell ⟨B0, 14, none⟩ (.bool false)) = V_257 at H_260 H_261 HE_262 ⊢
  clear HE_253 H_251 H_252
  obtain ⟨A_263, eA_263⟩ : ∃ A, A = RA t d ⟨p, lm, false, fm⟩ := ⟨_, rfl⟩
  have zA_263 : Hid (A_263.size = 16) := Lib.hid (by rw [eA_263]; exact RA_size _ _ _)
  have oA_263 : Hid (A_263.all (·.oneCell') = true) := Lib.hid (by rw [eA_263]; exact RA_one _ _ _)
  replace eA_263 := Lib.hid eA_263
  have cp_265 : V_257.cell? ⟨B0, 15, none⟩ = some (.int .i64 fl) := by rw [blk_cell H_261.out]; exact (by rw [eA_256.out]; simp [RA, TA])
  have zp_266 : V_257.frozen? ⟨B0, 15, none⟩ = false := blk_frozen H_261.out 15
  go_upto_region 15 with (fail)
  have H_267 : Hid ((V_257.setCell ⟨B0, 15, none⟩ (.int .i64 fm)).heap[X1]? = some (.cells ZR 30 (0, 0))) := Lib.hid (blk_far H_260.out (Nat.ne_of_gt lt1) _)
  have H_268 : Hid ((V_257.setCell ⟨B0, 15, none⟩ (.int .i64 fm)).heap[B0]? = some (.cells A_263 30 (0, 0))) := Lib.hid (blk_put H_261.out 15 _ (by rw [eA_256.out, eA_263.out]; simp [RA, TA]))
  have HE_269 : Hid (Below B0 w (V_257.setCell ⟨B0, 15, none⟩ (.int .i64 fm))) := Lib.hid (HE_262.out.setCell (p := ⟨B0, 15, none⟩) (Nat.le_refl B0) _)
  clear cp_265 zp_266
  generalize (V_257.setCell ⟨B0, 15, none⟩ (.int .i64 fm)) = V_264 at H_267 H_268 HE_269 ⊢
  clear HE_262 H_260 H_261
  have c_270 : V_264.cell? ⟨B0, 9, none⟩ = some (.int .i64 t.f9) := by rw [blk_cell H_268.out, eA_263.out]; simp [RA, TA]
  have h9n : (t.f9 != 1) = true := by simpa using h9
  rw [hpI.out] at hp0
  have c_271 : V_264.cell? ⟨B0, 12, none⟩ = some (.int .i64 pI) := by rw [blk_cell H_268.out, eA_263.out, ← hpI.out]; simp [RA, TA]
  go_upto_region 18 with (fail)
  clear c_270 c_271
  obtain ⟨A_272, eA_272⟩ : ∃ A, A = RA t d ⟨1, lm, false, fm⟩ := ⟨_, rfl⟩
  have zA_272 : Hid (A_272.size = 16) := Lib.hid (by rw [eA_272]; exact RA_size _ _ _)
  have oA_272 : Hid (A_272.all (·.oneCell') = true) := Lib.hid (by rw [eA_272]; exact RA_one _ _ _)
  replace eA_272 := Lib.hid eA_272
  have cp_274 : V_264.cell? ⟨B0, 12, none⟩ = some (.int .i64 pI) := by rw [blk_cell H_268.out]; exact (by rw [eA_263.out, ← hpI.out]; simp [RA, TA])
  have zp_275 : V_264.frozen? ⟨B0, 12, none⟩ = false := blk_frozen H_268.out 12
  go_upto_region 19 with (fail)
  have H_276 : Hid ((V_264.setCell ⟨B0, 12, none⟩ (.int .i64 1)).heap[X1]? = some (.cells ZR 30 (0, 0))) := Lib.hid (blk_far H_267.out (Nat.ne_of_gt lt1) _)
  have H_277 : Hid ((V_264.setCell ⟨B0, 12, none⟩ (.int .i64 1)).heap[B0]? = some (.cells A_272 30 (0, 0))) := Lib.hid (blk_put H_268.out 12 _ (by rw [eA_263.out, eA_272.out]; simp [RA, TA]))
  have HE_278 : Hid (Below B0 w (V_264.setCell ⟨B0, 12, none⟩ (.int .i64 1))) := Lib.hid (HE_269.out.setCell (p := ⟨B0, 12, none⟩) (Nat.le_refl B0) _)
  clear cp_274 zp_275
  generalize (V_264.setCell ⟨B0, 12, none⟩ (.int .i64 1)) = V_273 at H_276 H_277 HE_278 ⊢
  clear HE_269 H_267 H_268
  have h9' : ¬ t.f9 = 1 := by simpa using h9
  replace h9' := Lib.hid h9'
  replace hx := Lib.hid hx
  go_wp2_with (first | (refine wpl_ld _ _ rfl (by rfl) B0 rfl H_277.out Try.underlying30 rfl (by kernel_rfl) zA_272.out ?_))
  refine (length_c _ t d ⟨1, lm, false, fm⟩ _ eA_272.out ok.out h1 h2 (.inl ⟨h9'.out, rfl⟩) x (by unfold lenv; rw [if_pos ⟨h9'.out, rfl⟩]; exact hx.out)).mono ?_; rintro e V_279 ⟨rfl, hb_280⟩
  have H_281 : Hid (V_279.heap[B0]? = some (.cells A_272 30 (0, 0))) := Lib.hid ((hb_280.block B0 (blk_lt H_277.out)).trans H_277.out)
  have H_282 : Hid (V_279.heap[X1]? = some (.cells ZR 30 (0, 0))) := Lib.hid ((hb_280.block X1 (blk_lt H_276.out)).trans H_276.out)
  have HE_283 : Hid (Below B0 w V_279) := Lib.hid (HE_278.out.trans (hb_280.mono (sz_le hB0.out HE_278.out.size)))
  clear HE_278 H_277 H_276
  clear hb_280
  obtain ⟨A_284, eA_284⟩ : ∃ A, A = RA t d ⟨1, x, false, fm⟩ := ⟨_, rfl⟩
  have zA_284 : Hid (A_284.size = 16) := Lib.hid (by rw [eA_284]; exact RA_size _ _ _)
  have oA_284 : Hid (A_284.all (·.oneCell') = true) := Lib.hid (by rw [eA_284]; exact RA_one _ _ _)
  replace eA_284 := Lib.hid eA_284
  have cp_286 : V_279.cell? ⟨B0, 13, none⟩ = some (.int .i64 lm) := by rw [blk_cell H_281.out]; exact (by rw [eA_272.out]; simp [RA, TA])
  have zp_287 : V_279.frozen? ⟨B0, 13, none⟩ = false := blk_frozen H_281.out 13
  go_upto_region 20 with (fail)
  have H_288 : Hid ((V_279.setCell ⟨B0, 13, none⟩ (.int .i64 x)).heap[X1]? = some (.cells ZR 30 (0, 0))) := Lib.hid (blk_far H_282.out (Nat.ne_of_gt lt1) _)
  have H_289 : Hid ((V_279.setCell ⟨B0, 13, none⟩ (.int .i64 x)).heap[B0]? = some (.cells A_284 30 (0, 0))) := Lib.hid (blk_put H_281.out 13 _ (by rw [eA_272.out, eA_284.out]; simp [RA, TA]))
  have HE_290 : Hid (Below B0 w (V_279.setCell ⟨B0, 13, none⟩ (.int .i64 x))) := Lib.hid (HE_283.out.setCell (p := ⟨B0, 13, none⟩) (Nat.le_refl B0) _)
  clear cp_286 zp_287
  generalize (V_279.setCell ⟨B0, 13, none⟩ (.int .i64 x)) = V_285 at H_288 H_289 HE_290 ⊢
  clear HE_283 H_282 H_281
  obtain ⟨V_291, q_292_0, q_292_1, q_292_2, q_292_3⟩ := st_any H_288.out zZR.out zA_284.out oA_284.out
  have H_293 : Hid (V_291.heap[B0]? = some (.cells A_284 30 (0, 0))) := Lib.hid ((q_292_2 _ (Nat.ne_of_lt lt1)).trans H_289.out)
  have HE_294 : Hid (Below B0 w V_291) := Lib.hid (q_292_3 _ _ ge1 HE_290.out)
  have H_295 := Lib.hid q_292_1
  clear q_292_1 q_292_2 q_292_3
  go_wp2_with (first | (refine wpl_ld _ _ rfl (by rfl) B0 rfl H_289.out Try.underlying30 rfl (by kernel_rfl) zA_284.out ?_))
  clear q_292_0
  clear HE_290 H_289 H_288
  refine bodyPost_ret (v := .tuple #[.agg A_284, .int .i64 3]) (by refine Eq.trans (rc2 (fn := Try.f17) rfl _ _ X1 ?_ H_295.out Try.underlying30 rfl (by kernel_rfl) zA_284.out) ?_ <;> rfl) rfl ⟨?_, HE_294.out⟩
  rw [eA_284.out]
set_option maxRecDepth 100000 in
set_option maxHeartbeats 6000000 in
theorem rs_failA_t (w : World) (t : S28) (d : Int) (p : Nat) (lf fl lm fm : Int) (st : Bool) (R : Array Value) (eR : R = RA t d ⟨p, lf, st, fl⟩) (ok : OkT t) (h1 : 1 ≤ d) (h2 : d ≤ t.f3) (hw1 : wrap64 (lf - 1) = lm) (hw2 : wrap64 (fl + 1) = fm) (hw3 : wrap64 ((p : Int) + 1) = (p : Int) + 1) (hgt : decide (0 < lm) = false) (h9 : (t.f9 == 1) = false) (h3 : (t.f9 == 3) = false) (x : Int) (hx : x = t.f4 + t.f6) : Calls Try.prog 17 #[.agg R, .bool true] w fun e w' => e = .returned (.tuple #[.agg (RA t d ⟨1, x, false, fm⟩), .int .i64 2]) ∧ Below w.heap.size w w' := by
  have zR : Hid (R.size = 16) := Lib.hid (by rw [eR]; exact RA_size _ _ _)
  have oR : Hid (R.all (·.oneCell') = true) := Lib.hid (by rw [eR]; exact RA_one _ _ _)
  replace eR := Lib.hid eR
  obtain ⟨pI, hpI⟩ : ∃ pI : Int, (p : Int) = pI := ⟨_, rfl⟩
  rw [hpI] at hw3
  replace ok := Lib.hid ok
  obtain ⟨ZR, eZR⟩ : ∃ A : Array Value, A = #[.string ⟨#[]⟩, .int .i64 0, .int .i64 0, .int .i64 0, .int .i64 0, .int .i64 0, .int .i64 0, .int .i64 0, .int .i64 0, .int .i64 0, .int .i64 0, .int .i64 0, .int .i64 0, .int .i64 0, .bool false, .int .i64 0] := ⟨_, rfl⟩
  have zZR : Hid (ZR.size = 16) := Lib.hid (by rw [eZR]; rfl)
  have hz : ∀ V : World, (zeroValue 30).run Try.prog V = .ok (.agg ZR) V := fun V => by rw [eZR]; kernel_rfl
  replace eZR := Lib.hid eZR
  obtain ⟨B0, hB0⟩ : ∃ B, w.heap.size = B := ⟨_, rfl⟩
  rw [hB0]
  obtain ⟨V0, hV0⟩ : ∃ V, w.alloc (.cells R 30) = V := ⟨_, rfl⟩
  obtain ⟨X1, hX1⟩ : ∃ X, V0.heap.size = X := ⟨_, rfl⟩
  obtain ⟨V1, hV1⟩ : ∃ V, V0.alloc (.cells ZR 30) = V := ⟨_, rfl⟩
  have g0 : V0.heap[B0]? = some (.cells R 30 (0, 0)) := by rw [← hV0]; exact (box_new hB0).1
  have lt1 : B0 < X1 := hX1 ▸ blk_lt g0
  have Hr : Hid (V1.heap[B0]? = some (.cells R 30 (0, 0))) := Lib.hid (by rw [← hV1]; exact ((box_new hX1).2 _ lt1).trans g0)
  have Hz : Hid (V1.heap[X1]? = some (.cells ZR 30 (0, 0))) := Lib.hid (by rw [← hV1]; exact (box_new hX1).1)
  have HE : Hid (Below B0 w V1) := Lib.hid (by rw [← hV1, ← hV0, ← hB0]; exact ((Below.refl _ _).alloc (Nat.le_refl _) _).alloc (by simp) _)
  have ge1 : B0 ≤ X1 := Nat.le_of_lt lt1
  clear g0
  go_enter Try.func17, Try.ntmps17
  go_upto_region 1 with (fail)
  replace hB0 := Lib.hid hB0
  replace hV0 := Lib.hid hV0
  replace hX1 := Lib.hid hX1
  replace hV1 := Lib.hid hV1
  replace hpI := Lib.hid hpI
  obtain ⟨A_296, eA_296⟩ : ∃ A, A = RA t d ⟨p, lm, st, fl⟩ := ⟨_, rfl⟩
  have zA_296 : Hid (A_296.size = 16) := Lib.hid (by rw [eA_296]; exact RA_size _ _ _)
  have oA_296 : Hid (A_296.all (·.oneCell') = true) := Lib.hid (by rw [eA_296]; exact RA_one _ _ _)
  replace eA_296 := Lib.hid eA_296
  have cp_298 : V1.cell? ⟨B0, 13, none⟩ = some (.int .i64 lf) := by rw [blk_cell Hr.out]; exact (by rw [eR.out]; simp [RA, TA])
  have zp_299 : V1.frozen? ⟨B0, 13, none⟩ = false := blk_frozen Hr.out 13
  go_upto_region 2 with (fail)
  have H_300 : Hid ((V1.setCell ⟨B0, 13, none⟩ (.int .i64 lm)).heap[X1]? = some (.cells ZR 30 (0, 0))) := Lib.hid (blk_far Hz.out (Nat.ne_of_gt lt1) _)
  have H_301 : Hid ((V1.setCell ⟨B0, 13, none⟩ (.int .i64 lm)).heap[B0]? = some (.cells A_296 30 (0, 0))) := Lib.hid (blk_put Hr.out 13 _ (by rw [eR.out, eA_296.out]; simp [RA, TA]))
  have HE_302 : Hid (Below B0 w (V1.setCell ⟨B0, 13, none⟩ (.int .i64 lm))) := Lib.hid (HE.out.setCell (p := ⟨B0, 13, none⟩) (Nat.le_refl B0) _)
  clear cp_298 zp_299
  generalize (V1.setCell ⟨B0, 13, none⟩ (.int .i64 lm)) = V_297 at H_300 H_301 HE_302 ⊢
  clear HE Hz Hr
  obtain ⟨A_303, eA_303⟩ : ∃ A, A = RA t d ⟨p, lm, true, fl⟩ := ⟨_, rfl⟩
  have zA_303 : Hid (A_303.size = 16) := Lib.hid (by rw [eA_303]; exact RA_size _ _ _)
  have oA_303 : Hid (A_303.all (·.oneCell') = true) := Lib.hid (by rw [eA_303]; exact RA_one _ _ _)
  replace eA_303 := Lib.hid eA_303
  have cp_305 : V_297.cell? ⟨B0, 14, none⟩ = some (.bool st) := by rw [blk_cell H_301.out]; exact (by rw [eA_296.out]; simp [RA, TA])
  have zp_306 : V_297.frozen? ⟨B0, 14, none⟩ = false := blk_frozen H_301.out 14
  go_upto_region 4 with (fail)
  have H_307 : Hid ((V_297.setCell ⟨B0, 14, none⟩ (.bool true)).heap[X1]? = some (.cells ZR 30 (0, 0))) := Lib.hid (blk_far H_300.out (Nat.ne_of_gt lt1) _)
  have H_308 : Hid ((V_297.setCell ⟨B0, 14, none⟩ (.bool true)).heap[B0]? = some (.cells A_303 30 (0, 0))) := Lib.hid (blk_put H_301.out 14 _ (by rw [eA_296.out, eA_303.out]; simp [RA, TA]))
  have HE_309 : Hid (Below B0 w (V_297.setCell ⟨B0, 14, none⟩ (.bool true))) := Lib.hid (HE_302.out.setCell (p := ⟨B0, 14, none⟩) (Nat.le_refl B0) _)
  clear cp_305 zp_306
  generalize (V_297.setCell ⟨B0, 14, none⟩ (.bool true)) = V_304 at H_307 H_308 HE_309 ⊢
  clear HE_302 H_300 H_301
  have c_310 : V_304.cell? ⟨B0, 13, none⟩ = some (.int .i64 lm) := by rw [blk_cell H_308.out, eA_303.out]; simp [RA, TA]
  go_upto_region 6 with (fail)
  clear c_310
  have c_311 : V_304.cell? ⟨B0, 14, none⟩ = some (.bool true) := by rw [blk_cell H_308.out, eA_303.out]; simp [RA, TA]
  go_upto_region 12 with (fail)
  clear c_311
  obtain ⟨A_312, eA_312⟩ : ∃ A, A = RA t d ⟨p, lm, false, fl⟩ := ⟨_, rfl⟩
  have zA_312 : Hid (A_312.size = 16) := Lib.hid (by rw [eA_312]; exact RA_size _ _ _)
  have oA_312 : Hid (A_312.all (·.oneCell') = true) := Lib.hid (by rw [eA_312]; exact RA_one _ _ _)
  replace eA_312 := Lib.hid eA_312
  have cp_314 : V_304.cell? ⟨B0, 14, none⟩ = some (.bool true) := by rw [blk_cell H_308.out]; exact (by rw [eA_303.out]; simp [RA, TA])
  have zp_315 : V_304.frozen? ⟨B0, 14, none⟩ = false := blk_frozen H_308.out 14
  go_upto_region 13 with (fail)
  have H_316 : Hid ((V_304.setCell ⟨B0, 14, none⟩ (.bool false)).heap[X1]? = some (.cells ZR 30 (0, 0))) := Lib.hid (blk_far H_307.out (Nat.ne_of_gt lt1) _)
  have H_317 : Hid ((V_304.setCell ⟨B0, 14, none⟩ (.bool false)).heap[B0]? = some (.cells A_312 30 (0, 0))) := Lib.hid (blk_put H_308.out 14 _ (by rw [eA_303.out, eA_312.out]; simp [RA, TA]))
  have HE_318 : Hid (Below B0 w (V_304.setCell ⟨B0, 14, none⟩ (.bool false))) := Lib.hid (HE_309.out.setCell (p := ⟨B0, 14, none⟩) (Nat.le_refl B0) _)
  clear cp_314 zp_315
  generalize (V_304.setCell ⟨B0, 14, none⟩ (.bool false)) = V_313 at H_316 H_317 HE_318 ⊢
  clear HE_309 H_307 H_308
  obtain ⟨A_319, eA_319⟩ : ∃ A, A = RA t d ⟨p, lm, false, fm⟩ := ⟨_, rfl⟩
  have zA_319 : Hid (A_319.size = 16) := Lib.hid (by rw [eA_319]; exact RA_size _ _ _)
  have oA_319 : Hid (A_319.all (·.oneCell') = true) := Lib.hid (by rw [eA_319]; exact RA_one _ _ _)
  replace eA_319 := Lib.hid eA_319
  have cp_321 : V_313.cell? ⟨B0, 15, none⟩ = some (.int .i64 fl) := by rw [blk_cell H_317.out]; exact (by rw [eA_312.out]; simp [RA, TA])
  have zp_322 : V_313.frozen? ⟨B0, 15, none⟩ = false := blk_frozen H_317.out 15
  go_upto_region 15 with (fail)
  have H_323 : Hid ((V_313.setCell ⟨B0, 15, none⟩ (.int .i64 fm)).heap[X1]? = some (.cells ZR 30 (0, 0))) := Lib.hid (blk_far H_316.out (Nat.ne_of_gt lt1) _)
  have H_324 : Hid ((V_313.setCell ⟨B0, 15, none⟩ (.int .i64 fm)).heap[B0]? = some (.cells A_319 30 (0, 0))) := Lib.hid (blk_put H_317.out 15 _ (by rw [eA_312.out, eA_319.out]; simp [RA, TA]))
  have HE_325 : Hid (Below B0 w (V_313.setCell ⟨B0, 15, none⟩ (.int .i64 fm))) := Lib.hid (HE_318.out.setCell (p := ⟨B0, 15, none⟩) (Nat.le_refl B0) _)
  clear cp_321 zp_322
  generalize (V_313.setCell ⟨B0, 15, none⟩ (.int .i64 fm)) = V_320 at H_323 H_324 HE_325 ⊢
  clear HE_318 H_316 H_317
  have c_326 : V_320.cell? ⟨B0, 9, none⟩ = some (.int .i64 t.f9) := by rw [blk_cell H_324.out, eA_319.out]; simp [RA, TA]
  have h9n : (t.f9 != 1) = true := by simpa using h9
  have c_327 : V_320.cell? ⟨B0, 12, none⟩ = some (.int .i64 pI) := by rw [blk_cell H_324.out, eA_319.out, ← hpI.out]; simp [RA, TA]
  go_upto_region 18 with (fail)
  clear c_326 c_327
  obtain ⟨A_328, eA_328⟩ : ∃ A, A = RA t d ⟨1, lm, false, fm⟩ := ⟨_, rfl⟩
  have zA_328 : Hid (A_328.size = 16) := Lib.hid (by rw [eA_328]; exact RA_size _ _ _)
  have oA_328 : Hid (A_328.all (·.oneCell') = true) := Lib.hid (by rw [eA_328]; exact RA_one _ _ _)
  replace eA_328 := Lib.hid eA_328
  have cp_330 : V_320.cell? ⟨B0, 12, none⟩ = some (.int .i64 pI) := by rw [blk_cell H_324.out]; exact (by rw [eA_319.out, ← hpI.out]; simp [RA, TA])
  have zp_331 : V_320.frozen? ⟨B0, 12, none⟩ = false := blk_frozen H_324.out 12
  go_upto_region 19 with (fail)
  have H_332 : Hid ((V_320.setCell ⟨B0, 12, none⟩ (.int .i64 1)).heap[X1]? = some (.cells ZR 30 (0, 0))) := Lib.hid (blk_far H_323.out (Nat.ne_of_gt lt1) _)
  have H_333 : Hid ((V_320.setCell ⟨B0, 12, none⟩ (.int .i64 1)).heap[B0]? = some (.cells A_328 30 (0, 0))) := Lib.hid (blk_put H_324.out 12 _ (by rw [eA_319.out, eA_328.out]; simp [RA, TA]))
  have HE_334 : Hid (Below B0 w (V_320.setCell ⟨B0, 12, none⟩ (.int .i64 1))) := Lib.hid (HE_325.out.setCell (p := ⟨B0, 12, none⟩) (Nat.le_refl B0) _)
  clear cp_330 zp_331
  generalize (V_320.setCell ⟨B0, 12, none⟩ (.int .i64 1)) = V_329 at H_332 H_333 HE_334 ⊢
  clear HE_325 H_323 H_324
  have h9' : ¬ t.f9 = 1 := by simpa using h9
  replace h9' := Lib.hid h9'
  replace hx := Lib.hid hx
  go_wp2_with (first | (refine wpl_ld _ _ rfl (by rfl) B0 rfl H_333.out Try.underlying30 rfl (by kernel_rfl) zA_328.out ?_))
  refine (length_c _ t d ⟨1, lm, false, fm⟩ _ eA_328.out ok.out h1 h2 (.inl ⟨h9'.out, rfl⟩) x (by unfold lenv; rw [if_pos ⟨h9'.out, rfl⟩]; exact hx.out)).mono ?_; rintro e V_335 ⟨rfl, hb_336⟩
  have H_337 : Hid (V_335.heap[B0]? = some (.cells A_328 30 (0, 0))) := Lib.hid ((hb_336.block B0 (blk_lt H_333.out)).trans H_333.out)
  have H_338 : Hid (V_335.heap[X1]? = some (.cells ZR 30 (0, 0))) := Lib.hid ((hb_336.block X1 (blk_lt H_332.out)).trans H_332.out)
  have HE_339 : Hid (Below B0 w V_335) := Lib.hid (HE_334.out.trans (hb_336.mono (sz_le hB0.out HE_334.out.size)))
  clear HE_334 H_333 H_332
  clear hb_336
  obtain ⟨A_340, eA_340⟩ : ∃ A, A = RA t d ⟨1, x, false, fm⟩ := ⟨_, rfl⟩
  have zA_340 : Hid (A_340.size = 16) := Lib.hid (by rw [eA_340]; exact RA_size _ _ _)
  have oA_340 : Hid (A_340.all (·.oneCell') = true) := Lib.hid (by rw [eA_340]; exact RA_one _ _ _)
  replace eA_340 := Lib.hid eA_340
  have cp_342 : V_335.cell? ⟨B0, 13, none⟩ = some (.int .i64 lm) := by rw [blk_cell H_337.out]; exact (by rw [eA_328.out]; simp [RA, TA])
  have zp_343 : V_335.frozen? ⟨B0, 13, none⟩ = false := blk_frozen H_337.out 13
  go_upto_region 20 with (fail)
  have H_344 : Hid ((V_335.setCell ⟨B0, 13, none⟩ (.int .i64 x)).heap[X1]? = some (.cells ZR 30 (0, 0))) := Lib.hid (blk_far H_338.out (Nat.ne_of_gt lt1) _)
  have H_345 : Hid ((V_335.setCell ⟨B0, 13, none⟩ (.int .i64 x)).heap[B0]? = some (.cells A_340 30 (0, 0))) := Lib.hid (blk_put H_337.out 13 _ (by rw [eA_328.out, eA_340.out]; simp [RA, TA]))
  have HE_346 : Hid (Below B0 w (V_335.setCell ⟨B0, 13, none⟩ (.int .i64 x))) := Lib.hid (HE_339.out.setCell (p := ⟨B0, 13, none⟩) (Nat.le_refl B0) _)
  clear cp_342 zp_343
  generalize (V_335.setCell ⟨B0, 13, none⟩ (.int .i64 x)) = V_341 at H_344 H_345 HE_346 ⊢
  clear HE_339 H_338 H_337
  obtain ⟨V_347, q_348_0, q_348_1, q_348_2, q_348_3⟩ := st_any H_344.out zZR.out zA_340.out oA_340.out
  have H_349 : Hid (V_347.heap[B0]? = some (.cells A_340 30 (0, 0))) := Lib.hid ((q_348_2 _ (Nat.ne_of_lt lt1)).trans H_345.out)
  have HE_350 : Hid (Below B0 w V_347) := Lib.hid (q_348_3 _ _ ge1 HE_346.out)
  have H_351 := Lib.hid q_348_1
  clear q_348_1 q_348_2 q_348_3
  go_wp2_with (first | (refine wpl_ld _ _ rfl (by rfl) B0 rfl H_345.out Try.underlying30 rfl (by kernel_rfl) zA_340.out ?_))
  clear q_348_0
  clear HE_346 H_345 H_344
  refine bodyPost_ret (v := .tuple #[.agg A_340, .int .i64 2]) (by refine Eq.trans (rc2 (fn := Try.f17) rfl _ _ X1 ?_ H_351.out Try.underlying30 rfl (by kernel_rfl) zA_340.out) ?_ <;> rfl) rfl ⟨?_, HE_350.out⟩
  rw [eA_340.out]
set_option maxRecDepth 100000 in
set_option maxHeartbeats 6000000 in
theorem rs_failA_f (w : World) (t : S28) (d : Int) (p : Nat) (lf fl lm fm : Int) (st : Bool) (R : Array Value) (eR : R = RA t d ⟨p, lf, st, fl⟩) (ok : OkT t) (h1 : 1 ≤ d) (h2 : d ≤ t.f3) (hw1 : wrap64 (lf - 1) = lm) (hw2 : wrap64 (fl + 1) = fm) (hw3 : wrap64 ((p : Int) + 1) = (p : Int) + 1) (hgt : decide (0 < lm) = false) (hst : st = true) (h9 : (t.f9 == 1) = false) (h3 : (t.f9 == 3) = false) (x : Int) (hx : x = t.f4 + t.f6) : Calls Try.prog 17 #[.agg R, .bool false] w fun e w' => e = .returned (.tuple #[.agg (RA t d ⟨1, x, false, fm⟩), .int .i64 2]) ∧ Below w.heap.size w w' := by
  have zR : Hid (R.size = 16) := Lib.hid (by rw [eR]; exact RA_size _ _ _)
  have oR : Hid (R.all (·.oneCell') = true) := Lib.hid (by rw [eR]; exact RA_one _ _ _)
  replace eR := Lib.hid eR
  obtain ⟨pI, hpI⟩ : ∃ pI : Int, (p : Int) = pI := ⟨_, rfl⟩
  rw [hpI] at hw3
  replace ok := Lib.hid ok
  obtain ⟨ZR, eZR⟩ : ∃ A : Array Value, A = #[.string ⟨#[]⟩, .int .i64 0, .int .i64 0, .int .i64 0, .int .i64 0, .int .i64 0, .int .i64 0, .int .i64 0, .int .i64 0, .int .i64 0, .int .i64 0, .int .i64 0, .int .i64 0, .int .i64 0, .bool false, .int .i64 0] := ⟨_, rfl⟩
  have zZR : Hid (ZR.size = 16) := Lib.hid (by rw [eZR]; rfl)
  have hz : ∀ V : World, (zeroValue 30).run Try.prog V = .ok (.agg ZR) V := fun V => by rw [eZR]; kernel_rfl
  replace eZR := Lib.hid eZR
  obtain ⟨B0, hB0⟩ : ∃ B, w.heap.size = B := ⟨_, rfl⟩
  rw [hB0]
  obtain ⟨V0, hV0⟩ : ∃ V, w.alloc (.cells R 30) = V := ⟨_, rfl⟩
  obtain ⟨X1, hX1⟩ : ∃ X, V0.heap.size = X := ⟨_, rfl⟩
  obtain ⟨V1, hV1⟩ : ∃ V, V0.alloc (.cells ZR 30) = V := ⟨_, rfl⟩
  have g0 : V0.heap[B0]? = some (.cells R 30 (0, 0)) := by rw [← hV0]; exact (box_new hB0).1
  have lt1 : B0 < X1 := hX1 ▸ blk_lt g0
  have Hr : Hid (V1.heap[B0]? = some (.cells R 30 (0, 0))) := Lib.hid (by rw [← hV1]; exact ((box_new hX1).2 _ lt1).trans g0)
  have Hz : Hid (V1.heap[X1]? = some (.cells ZR 30 (0, 0))) := Lib.hid (by rw [← hV1]; exact (box_new hX1).1)
  have HE : Hid (Below B0 w V1) := Lib.hid (by rw [← hV1, ← hV0, ← hB0]; exact ((Below.refl _ _).alloc (Nat.le_refl _) _).alloc (by simp) _)
  have ge1 : B0 ≤ X1 := Nat.le_of_lt lt1
  clear g0
  go_enter Try.func17, Try.ntmps17
  go_upto_region 1 with (fail)
  replace hB0 := Lib.hid hB0
  replace hV0 := Lib.hid hV0
  replace hX1 := Lib.hid hX1
  replace hV1 := Lib.hid hV1
  replace hpI := Lib.hid hpI
  obtain ⟨A_352, eA_352⟩ : ∃ A, A = RA t d ⟨p, lm, st, fl⟩ := ⟨_, rfl⟩
  have zA_352 : Hid (A_352.size = 16) := Lib.hid (by rw [eA_352]; exact RA_size _ _ _)
  have oA_352 : Hid (A_352.all (·.oneCell') = true) := Lib.hid (by rw [eA_352]; exact RA_one _ _ _)
  replace eA_352 := Lib.hid eA_352
  have cp_354 : V1.cell? ⟨B0, 13, none⟩ = some (.int .i64 lf) := by rw [blk_cell Hr.out]; exact (by rw [eR.out]; simp [RA, TA])
  have zp_355 : V1.frozen? ⟨B0, 13, none⟩ = false := blk_frozen Hr.out 13
  go_upto_region 2 with (fail)
  have H_356 : Hid ((V1.setCell ⟨B0, 13, none⟩ (.int .i64 lm)).heap[X1]? = some (.cells ZR 30 (0, 0))) := Lib.hid (blk_far Hz.out (Nat.ne_of_gt lt1) _)
  have H_357 : Hid ((V1.setCell ⟨B0, 13, none⟩ (.int .i64 lm)).heap[B0]? = some (.cells A_352 30 (0, 0))) := Lib.hid (blk_put Hr.out 13 _ (by rw [eR.out, eA_352.out]; simp [RA, TA]))
  have HE_358 : Hid (Below B0 w (V1.setCell ⟨B0, 13, none⟩ (.int .i64 lm))) := Lib.hid (HE.out.setCell (p := ⟨B0, 13, none⟩) (Nat.le_refl B0) _)
  clear cp_354 zp_355
  generalize (V1.setCell ⟨B0, 13, none⟩ (.int .i64 lm)) = V_353 at H_356 H_357 HE_358 ⊢
  clear HE Hz Hr
  have c_359 : V_353.cell? ⟨B0, 13, none⟩ = some (.int .i64 lm) := by rw [blk_cell H_357.out, eA_352.out]; simp [RA, TA]
  go_upto_region 6 with (fail)
  clear c_359
  subst hst
  have c_360 : V_353.cell? ⟨B0, 14, none⟩ = some (.bool true) := by rw [blk_cell H_357.out, eA_352.out]; simp [RA, TA]
  go_upto_region 12 with (fail)
  clear c_360
  obtain ⟨A_361, eA_361⟩ : ∃ A, A = RA t d ⟨p, lm, false, fl⟩ := ⟨_, rfl⟩
  have zA_361 : Hid (A_361.size = 16) := Lib.hid (by rw [eA_361]; exact RA_size _ _ _)
  have oA_361 : Hid (A_361.all (·.oneCell') = true) := Lib.hid (by rw [eA_361]; exact RA_one _ _ _)
  replace eA_361 := Lib.hid eA_361
  have cp_363 : V_353.cell? ⟨B0, 14, none⟩ = some (.bool true) := by rw [blk_cell H_357.out]; exact (by rw [eA_352.out]; simp [RA, TA])
  have zp_364 : V_353.frozen? ⟨B0, 14, none⟩ = false := blk_frozen H_357.out 14
  go_upto_region 13 with (fail)
  have H_365 : Hid ((V_353.setCell ⟨B0, 14, none⟩ (.bool false)).heap[X1]? = some (.cells ZR 30 (0, 0))) := Lib.hid (blk_far H_356.out (Nat.ne_of_gt lt1) _)
  have H_366 : Hid ((V_353.setCell ⟨B0, 14, none⟩ (.bool false)).heap[B0]? = some (.cells A_361 30 (0, 0))) := Lib.hid (blk_put H_357.out 14 _ (by rw [eA_352.out, eA_361.out]; simp [RA, TA]))
  have HE_367 : Hid (Below B0 w (V_353.setCell ⟨B0, 14, none⟩ (.bool false))) := Lib.hid (HE_358.out.setCell (p := ⟨B0, 14, none⟩) (Nat.le_refl B0) _)
  clear cp_363 zp_364
  generalize (V_353.setCell ⟨B0, 14, none⟩ (.bool false)) = V_362 at H_365 H_366 HE_367 ⊢
  clear HE_358 H_356 H_357
  obtain ⟨A_368, eA_368⟩ : ∃ A, A = RA t d ⟨p, lm, false, fm⟩ := ⟨_, rfl⟩
  have zA_368 : Hid (A_368.size = 16) := Lib.hid (by rw [eA_368]; exact RA_size _ _ _)
  have oA_368 : Hid (A_368.all (·.oneCell') = true) := Lib.hid (by rw [eA_368]; exact RA_one _ _ _)
  replace eA_368 := Lib.hid eA_368
  have cp_370 : V_362.cell? ⟨B0, 15, none⟩ = some (.int .i64 fl) := by rw [blk_cell H_366.out]; exact (by rw [eA_361.out]; simp [RA, TA])
  have zp_371 : V_362.frozen? ⟨B0, 15, none⟩ = false := blk_frozen H_366.out 15
  go_upto_region 15 with (fail)
  have H_372 : Hid ((V_362.setCell ⟨B0, 15, none⟩ (.int .i64 fm)).heap[X1]? = some (.cells ZR 30 (0, 0))) := Lib.hid (blk_far H_365.out (Nat.ne_of_gt lt1) _)
  have H_373 : Hid ((V_362.setCell ⟨B0, 15, none⟩ (.int .i64 fm)).heap[B0]? = some (.cells A_368 30 (0, 0))) := Lib.hid (blk_put H_366.out 15 _ (by rw [eA_361.out, eA_368.out]; simp [RA, TA]))
  have HE_374 : Hid (Below B0 w (V_362.setCell ⟨B0, 15, none⟩ (.int .i64 fm))) := Lib.hid (HE_367.out.setCell (p := ⟨B0, 15, none⟩) (Nat.le_refl B0) _)
  clear cp_370 zp_371
  generalize (V_362.setCell ⟨B0, 15, none⟩ (.int .i64 fm)) = V_369 at H_372 H_373 HE_374 ⊢
  clear HE_367 H_365 H_366
  have c_375 : V_369.cell? ⟨B0, 9, none⟩ = some (.int .i64 t.f9) := by rw [blk_cell H_373.out, eA_368.out]; simp [RA, TA]
  have h9n : (t.f9 != 1) = true := by simpa using h9
  have c_376 : V_369.cell? ⟨B0, 12, none⟩ = some (.int .i64 pI) := by rw [blk_cell H_373.out, eA_368.out, ← hpI.out]; simp [RA, TA]
  go_upto_region 18 with (fail)
  clear c_375 c_376
  obtain ⟨A_377, eA_377⟩ : ∃ A, A = RA t d ⟨1, lm, false, fm⟩ := ⟨_, rfl⟩
  have zA_377 : Hid (A_377.size = 16) := Lib.hid (by rw [eA_377]; exact RA_size _ _ _)
  have oA_377 : Hid (A_377.all (·.oneCell') = true) := Lib.hid (by rw [eA_377]; exact RA_one _ _ _)
  replace eA_377 := Lib.hid eA_377
  have cp_379 : V_369.cell? ⟨B0, 12, none⟩ = some (.int .i64 pI) := by rw [blk_cell H_373.out]; exact (by rw [eA_368.out, ← hpI.out]; simp [RA, TA])
  have zp_380 : V_369.frozen? ⟨B0, 12, none⟩ = false := blk_frozen H_373.out 12
  go_upto_region 19 with (fail)
  have H_381 : Hid ((V_369.setCell ⟨B0, 12, none⟩ (.int .i64 1)).heap[X1]? = some (.cells ZR 30 (0, 0))) := Lib.hid (blk_far H_372.out (Nat.ne_of_gt lt1) _)
  have H_382 : Hid ((V_369.setCell ⟨B0, 12, none⟩ (.int .i64 1)).heap[B0]? = some (.cells A_377 30 (0, 0))) := Lib.hid (blk_put H_373.out 12 _ (by rw [eA_368.out, eA_377.out]; simp [RA, TA]))
  have HE_383 : Hid (Below B0 w (V_369.setCell ⟨B0, 12, none⟩ (.int .i64 1))) := Lib.hid (HE_374.out.setCell (p := ⟨B0, 12, none⟩) (Nat.le_refl B0) _)
  clear cp_379 zp_380
  generalize (V_369.setCell ⟨B0, 12, none⟩ (.int .i64 1)) = V_378 at H_381 H_382 HE_383 ⊢
  clear HE_374 H_372 H_373
  have h9' : ¬ t.f9 = 1 := by simpa using h9
  replace h9' := Lib.hid h9'
  replace hx := Lib.hid hx
  go_wp2_with (first | (refine wpl_ld _ _ rfl (by rfl) B0 rfl H_382.out Try.underlying30 rfl (by kernel_rfl) zA_377.out ?_))
  refine (length_c _ t d ⟨1, lm, false, fm⟩ _ eA_377.out ok.out h1 h2 (.inl ⟨h9'.out, rfl⟩) x (by unfold lenv; rw [if_pos ⟨h9'.out, rfl⟩]; exact hx.out)).mono ?_; rintro e V_384 ⟨rfl, hb_385⟩
  have H_386 : Hid (V_384.heap[B0]? = some (.cells A_377 30 (0, 0))) := Lib.hid ((hb_385.block B0 (blk_lt H_382.out)).trans H_382.out)
  have H_387 : Hid (V_384.heap[X1]? = some (.cells ZR 30 (0, 0))) := Lib.hid ((hb_385.block X1 (blk_lt H_381.out)).trans H_381.out)
  have HE_388 : Hid (Below B0 w V_384) := Lib.hid (HE_383.out.trans (hb_385.mono (sz_le hB0.out HE_383.out.size)))
  clear HE_383 H_382 H_381
  clear hb_385
  obtain ⟨A_389, eA_389⟩ : ∃ A, A = RA t d ⟨1, x, false, fm⟩ := ⟨_, rfl⟩
  have zA_389 : Hid (A_389.size = 16) := Lib.hid (by rw [eA_389]; exact RA_size _ _ _)
  have oA_389 : Hid (A_389.all (·.oneCell') = true) := Lib.hid (by rw [eA_389]; exact RA_one _ _ _)
  replace eA_389 := Lib.hid eA_389
  have cp_391 : V_384.cell? ⟨B0, 13, none⟩ = some (.int .i64 lm) := by rw [blk_cell H_386.out]; exact (by rw [eA_377.out]; simp [RA, TA])
  have zp_392 : V_384.frozen? ⟨B0, 13, none⟩ = false := blk_frozen H_386.out 13
  go_upto_region 20 with (fail)
  have H_393 : Hid ((V_384.setCell ⟨B0, 13, none⟩ (.int .i64 x)).heap[X1]? = some (.cells ZR 30 (0, 0))) := Lib.hid (blk_far H_387.out (Nat.ne_of_gt lt1) _)
  have H_394 : Hid ((V_384.setCell ⟨B0, 13, none⟩ (.int .i64 x)).heap[B0]? = some (.cells A_389 30 (0, 0))) := Lib.hid (blk_put H_386.out 13 _ (by rw [eA_377.out, eA_389.out]; simp [RA, TA]))
  have HE_395 : Hid (Below B0 w (V_384.setCell ⟨B0, 13, none⟩ (.int .i64 x))) := Lib.hid (HE_388.out.setCell (p := ⟨B0, 13, none⟩) (Nat.le_refl B0) _)
  clear cp_391 zp_392
  generalize (V_384.setCell ⟨B0, 13, none⟩ (.int .i64 x)) = V_390 at H_393 H_394 HE_395 ⊢
  clear HE_388 H_387 H_386
  obtain ⟨V_396, q_397_0, q_397_1, q_397_2, q_397_3⟩ := st_any H_393.out zZR.out zA_389.out oA_389.out
  have H_398 : Hid (V_396.heap[B0]? = some (.cells A_389 30 (0, 0))) := Lib.hid ((q_397_2 _ (Nat.ne_of_lt lt1)).trans H_394.out)
  have HE_399 : Hid (Below B0 w V_396) := Lib.hid (q_397_3 _ _ ge1 HE_395.out)
  have H_400 := Lib.hid q_397_1
  clear q_397_1 q_397_2 q_397_3
  go_wp2_with (first | (refine wpl_ld _ _ rfl (by rfl) B0 rfl H_394.out Try.underlying30 rfl (by kernel_rfl) zA_389.out ?_))
  clear q_397_0
  clear HE_395 H_394 H_393
  refine bodyPost_ret (v := .tuple #[.agg A_389, .int .i64 2]) (by refine Eq.trans (rc2 (fn := Try.f17) rfl _ _ X1 ?_ H_400.out Try.underlying30 rfl (by kernel_rfl) zA_389.out) ?_ <;> rfl) rfl ⟨?_, HE_399.out⟩
  rw [eA_389.out]
set_option maxRecDepth 100000 in
set_option maxHeartbeats 6000000 in
theorem rs_failB_t (w : World) (t : S28) (d : Int) (p : Nat) (lf fl lm fm : Int) (st : Bool) (R : Array Value) (eR : R = RA t d ⟨p, lf, st, fl⟩) (ok : OkT t) (h1 : 1 ≤ d) (h2 : d ≤ t.f3) (hw1 : wrap64 (lf - 1) = lm) (hw2 : wrap64 (fl + 1) = fm) (hw3 : wrap64 ((p : Int) + 1) = (p : Int) + 1) (hgt : decide (0 < lm) = false) (h9 : (t.f9 == 1) = false) (h3 : (t.f9 == 3) = true) (hp0 : ((p : Int) == 0) = false) (x : Int) (hx : x = t.f4 + t.f6) : Calls Try.prog 17 #[.agg R, .bool true] w fun e w' => e = .returned (.tuple #[.agg (RA t d ⟨1, x, false, fm⟩), .int .i64 2]) ∧ Below w.heap.size w w' := by
  have zR : Hid (R.size = 16) := Lib.hid (by rw [eR]; exact RA_size _ _ _)
  have oR : Hid (R.all (·.oneCell') = true) := Lib.hid (by rw [eR]; exact RA_one _ _ _)
  replace eR := Lib.hid eR
  obtain ⟨pI, hpI⟩ : ∃ pI : Int, (p : Int) = pI := ⟨_, rfl⟩
  rw [hpI] at hw3
  replace ok := Lib.hid ok
  obtain ⟨ZR, eZR⟩ : ∃ A : Array Value, A = #[.string ⟨#[]⟩, .int .i64 0, .int .i64 0, .int .i64 0, .int .i64 0, .int .i64 0, .int .i64 0, .int .i64 0, .int .i64 0, .int .i64 0, .int .i64 0, .int .i64 0, .int .i64 0, .int .i64 0, .bool false, .int .i64 0] := ⟨_, rfl⟩
  have zZR : Hid (ZR.size = 16) := Lib.hid (by rw [eZR]; rfl)
  have hz : ∀ V : World, (zeroValue 30).run Try.prog V = .ok (.agg ZR) V := fun V => by rw [eZR]; kernel_rfl
  replace eZR := Lib.hid eZR
  obtain ⟨B0, hB0⟩ : ∃ B, w.heap.size = B := ⟨_, rfl⟩
  rw [hB0]
  obtain ⟨V0, hV0⟩ : ∃ V, w.alloc (.cells R 30) = V := ⟨_, rfl⟩
  obtain ⟨X1, hX1⟩ : ∃ X, V0.heap.size = X := ⟨_, rfl⟩
  obtain ⟨V1, hV1⟩ : ∃ V, V0.alloc (.cells ZR 30) = V := ⟨_, rfl⟩
  have g0 : V0.heap[B0]? = some (.cells R 30 (0, 0)) := by rw [← hV0]; exact (box_new hB0).1
  have lt1 : B0 < X1 := hX1 ▸ blk_lt g0
  have Hr : Hid (V1.heap[B0]? = some (.cells R 30 (0, 0))) := Lib.hid (by rw [← hV1]; exact ((box_new hX1).2 _ lt1).trans g0)
  have Hz : Hid (V1.heap[X1]? = some (.cells ZR 30 (0, 0))) := Lib.hid (by rw [← hV1]; exact (box_new hX1).1)
  have HE : Hid (Below B0 w V1) := Lib.hid (by rw [← hV1, ← hV0, ← hB0]; exact ((Below.refl _ _).alloc (Nat.le_refl _) _).alloc (by simp) _)
  have ge1 : B0 ≤ X1 := Nat.le_of_lt lt1
  clear g0
  go_enter Try.func17, Try.ntmps17
  go_upto_region 1 with (fail)
  replace hB0 := Lib.hid hB0
  replace hV0 := Lib.hid hV0
  replace hX1 := Lib.hid hX1
  replace hV1 := Lib.hid hV1
  replace hpI := Lib.hid hpI
  obtain ⟨A_401, eA_401⟩ : ∃ A, A = RA t d ⟨p, lm, st, fl⟩ := ⟨_, rfl⟩
  have zA_401 : Hid (A_401.size = 16) := Lib.hid (by rw [eA_401]; exact RA_size _ _ _)
  have oA_401 : Hid (A_401.all (·.oneCell') = true) := Lib.hid (by rw [eA_401]; exact RA_one _ _ _)
  replace eA_401 := Lib.hid eA_401
  have cp_403 : V1.cell? ⟨B0, 13, none⟩ = some (.int .i64 lf) := by rw [blk_cell Hr.out]; exact (by rw [eR.out]; simp [RA, TA])
  have zp_404 : V1.frozen? ⟨B0, 13, none⟩ = false := blk_frozen Hr.out 13
  go_upto_region 2 with (fail)
  have H_405 : Hid ((V1.setCell ⟨B0, 13, none⟩ (.int .i64 lm)).heap[X1]? = some (.cells ZR 30 (0, 0))) := Lib.hid (blk_far Hz.out (Nat.ne_of_gt lt1) _)
  have H_406 : Hid ((V1.setCell ⟨B0, 13, none⟩ (.int .i64 lm)).heap[B0]? = some (.cells A_401 30 (0, 0))) := Lib.hid (blk_put Hr.out 13 _ (by rw [eR.out, eA_401.out]; simp [RA, TA]))
  have HE_407 : Hid (Below B0 w (V1.setCell ⟨B0, 13, none⟩ (.int .i64 lm))) := Lib.hid (HE.out.setCell (p := ⟨B0, 13, none⟩) (Nat.le_refl B0) _)
  clear cp_403 zp_404
  generalize (V1.setCell ⟨B0, 13, none⟩ (.int .i64 lm)) = V_402 at H_405 H_406 HE_407 ⊢
  clear HE Hz Hr
  obtain ⟨A_408, eA_408⟩ : ∃ A, A = RA t d ⟨p, lm, true, fl⟩ := ⟨_, rfl⟩
  have zA_408 : Hid (A_408.size = 16) := Lib.hid (by rw [eA_408]; exact RA_size _ _ _)
  have oA_408 : Hid (A_408.all (·.oneCell') = true) := Lib.hid (by rw [eA_408]; exact RA_one _ _ _)
  replace eA_408 := Lib.hid eA_408
  have cp_410 : V_402.cell? ⟨B0, 14, none⟩ = some (.bool st) := by rw [blk_cell H_406.out]; exact (by rw [eA_401.out]; simp [RA, TA])
  have zp_411 : V_402.frozen? ⟨B0, 14, none⟩ = false := blk_frozen H_406.out 14
  go_upto_region 4 with (fail)
  have H_412 : Hid ((V_402.setCell ⟨B0, 14, none⟩ (.bool true)).heap[X1]? = some (.cells ZR 30 (0, 0))) := Lib.hid (blk_far H_405.out (Nat.ne_of_gt lt1) _)
  have H_413 : Hid ((V_402.setCell ⟨B0, 14, none⟩ (.bool true)).heap[B0]? = some (.cells A_408 30 (0, 0))) := Lib.hid (blk_put H_406.out 14 _ (by rw [eA_401.out, eA_408.out]; simp [RA, TA]))
  have HE_414 : Hid (Below B0 w (V_402.setCell ⟨B0, 14, none⟩ (.bool true))) := Lib.hid (HE_407.out.setCell (p := ⟨B0, 14, none⟩) (Nat.le_refl B0) _)
  clear cp_410 zp_411
  generalize (V_402.setCell ⟨B0, 14, none⟩ (.bool true)) = V_409 at H_412 H_413 HE_414 ⊢
  clear HE_407 H_405 H_406
  have c_415 : V_409.cell? ⟨B0, 13, none⟩ = some (.int .i64 lm) := by rw [blk_cell H_413.out, eA_408.out]; simp [RA, TA]
  go_upto_region 6 with (fail)
  clear c_415
  have c_416 : V_409.cell? ⟨B0, 14, none⟩ = some (.bool true) := by rw [blk_cell H_413.out, eA_408.out]; simp [RA, TA]
  go_upto_region 12 with (fail)
  clear c_416
  obtain ⟨A_417, eA_417⟩ : ∃ A, A = RA t d ⟨p, lm, false, fl⟩ := ⟨_, rfl⟩
  have zA_417 : Hid (A_417.size = 16) := Lib.hid (by rw [eA_417]; exact RA_size _ _ _)
  have oA_417 : Hid (A_417.all (·.oneCell') = true) := Lib.hid (by rw [eA_417]; exact RA_one _ _ _)
  replace eA_417 := Lib.hid eA_417
  have cp_419 : V_409.cell? ⟨B0, 14, none⟩ = some (.bool true) := by rw [blk_cell H_413.out]; exact (by rw [eA_408.out]; simp [RA, TA])
  have zp_420 : V_409.frozen? ⟨B0, 14, none⟩ = false := blk_frozen H_413.out 14
  go_upto_region 13 with (fail)
  have H_421 : Hid ((V_409.setCell ⟨B0, 14, none⟩ (.bool false)).heap[X1]? = some (.cells ZR 30 (0, 0))) := Lib.hid (blk_far H_412.out (Nat.ne_of_gt lt1) _)
  have H_422 : Hid ((V_409.setCell ⟨B0, 14, none⟩ (.bool false)).heap[B0]? = some (.cells A_417 30 (0, 0))) := Lib.hid (blk_put H_413.out 14 _ (by rw [eA_408.out, eA_417.out]; simp [RA, TA]))
  have HE_423 : Hid (Below B0 w (V_409.setCell ⟨B0, 14, none⟩ (.bool false))) := Lib.hid (HE_414.out.setCell (p := ⟨B0, 14, none⟩) (Nat.le_refl B0) _)
  clear cp_419 zp_420
  generalize (V_409.setCell ⟨B0, 14, none⟩ (.bool false)) = V_418 at H_421 H_422 HE_423 ⊢
  clear HE_414 H_412 H_413
  obtain ⟨A_424, eA_424⟩ : ∃ A, A = RA t d ⟨p, lm, false, fm⟩ := ⟨_, rfl⟩
  have zA_424 : Hid (A_424.size = 16) := Lib.hid (by rw [eA_424]; exact RA_size _ _ _)
  have oA_424 : Hid (A_424.all (·.oneCell') = true) := Lib.hid (by rw [eA_424]; exact RA_one _ _ _)
  replace eA_424 := Lib.hid eA_424
  have cp_426 : V_418.cell? ⟨B0, 15, none⟩ = some (.int .i64 fl) := by rw [blk_cell H_422.out]; exact (by rw [eA_417.out]; simp [RA, TA])
  have zp_427 : V_418.frozen? ⟨B0, 15, none⟩ = false := blk_frozen H_422.out 15
  go_upto_region 15 with (fail)
  have H_428 : Hid ((V_418.setCell ⟨B0, 15, none⟩ (.int .i64 fm)).heap[X1]? = some (.cells ZR 30 (0, 0))) := Lib.hid (blk_far H_421.out (Nat.ne_of_gt lt1) _)
  have H_429 : Hid ((V_418.setCell ⟨B0, 15, none⟩ (.int .i64 fm)).heap[B0]? = some (.cells A_424 30 (0, 0))) := Lib.hid (blk_put H_422.out 15 _ (by rw [eA_417.out, eA_424.out]; simp [RA, TA]))
  have HE_430 : Hid (Below B0 w (V_418.setCell ⟨B0, 15, none⟩ (.int .i64 fm))) := Lib.hid (HE_423.out.setCell (p := ⟨B0, 15, none⟩) (Nat.le_refl B0) _)
  clear cp_426 zp_427
  generalize (V_418.setCell ⟨B0, 15, none⟩ (.int .i64 fm)) = V_425 at H_428 H_429 HE_430 ⊢
  clear HE_423 H_421 H_422
  have c_431 : V_425.cell? ⟨B0, 9, none⟩ = some (.int .i64 t.f9) := by rw [blk_cell H_429.out, eA_424.out]; simp [RA, TA]
  have h9n : (t.f9 != 1) = true := by simpa using h9
  rw [hpI.out] at hp0
  have c_432 : V_425.cell? ⟨B0, 12, none⟩ = some (.int .i64 pI) := by rw [blk_cell H_429.out, eA_424.out, ← hpI.out]; simp [RA, TA]
  go_upto_region 18 with (fail)
  clear c_431 c_432
  obtain ⟨A_433, eA_433⟩ : ∃ A, A = RA t d ⟨1, lm, false, fm⟩ := ⟨_, rfl⟩
  have zA_433 : Hid (A_433.size = 16) := Lib.hid (by rw [eA_433]; exact RA_size _ _ _)
  have oA_433 : Hid (A_433.all (·.oneCell') = true) := Lib.hid (by rw [eA_433]; exact RA_one _ _ _)
  replace eA_433 := Lib.hid eA_433
  have cp_435 : V_425.cell? ⟨B0, 12, none⟩ = some (.int .i64 pI) := by rw [blk_cell H_429.out]; exact (by rw [eA_424.out, ← hpI.out]; simp [RA, TA])
  have zp_436 : V_425.frozen? ⟨B0, 12, none⟩ = false := blk_frozen H_429.out 12
  go_upto_region 19 with (fail)
  have H_437 : Hid ((V_425.setCell ⟨B0, 12, none⟩ (.int .i64 1)).heap[X1]? = some (.cells ZR 30 (0, 0))) := Lib.hid (blk_far H_428.out (Nat.ne_of_gt lt1) _)
  have H_438 : Hid ((V_425.setCell ⟨B0, 12, none⟩ (.int .i64 1)).heap[B0]? = some (.cells A_433 30 (0, 0))) := Lib.hid (blk_put H_429.out 12 _ (by rw [eA_424.out, eA_433.out]; simp [RA, TA]))
  have HE_439 : Hid (Below B0 w (V_425.setCell ⟨B0, 12, none⟩ (.int .i64 1))) := Lib.hid (HE_430.out.setCell (p := ⟨B0, 12, none⟩) (Nat.le_refl B0) _)
  clear cp_435 zp_436
  generalize (V_425.setCell ⟨B0, 12, none⟩ (.int .i64 1)) = V_434 at H_437 H_438 HE_439 ⊢
  clear HE_430 H_428 H_429
  have h9' : ¬ t.f9 = 1 := by simpa using h9
  replace h9' := Lib.hid h9'
  replace hx := Lib.hid hx
  go_wp2_with (first | (refine wpl_ld _ _ rfl (by rfl) B0 rfl H_438.out Try.underlying30 rfl (by kernel_rfl) zA_433.out ?_))
  refine (length_c _ t d ⟨1, lm, false, fm⟩ _ eA_433.out ok.out h1 h2 (.inl ⟨h9'.out, rfl⟩) x (by unfold lenv; rw [if_pos ⟨h9'.out, rfl⟩]; exact hx.out)).mono ?_; rintro e V_440 ⟨rfl, hb_441⟩
  have H_442 : Hid (V_440.heap[B0]? = some (.cells A_433 30 (0, 0))) := Lib.hid ((hb_441.block B0 (blk_lt H_438.out)).trans H_438.out)
  have H_443 : Hid (V_440.heap[X1]? = some (.cells ZR 30 (0, 0))) := Lib.hid ((hb_441.block X1 (blk_lt H_437.out)).trans H_437.out)
  have HE_444 : Hid (Below B0 w V_440) := Lib.hid (HE_439.out.trans (hb_441.mono (sz_le hB0.out HE_439.out.size)))
  clear HE_439 H_438 H_437
  clear hb_441
  obtain ⟨A_445, eA_445⟩ : ∃ A, A = RA t d ⟨1, x, false, fm⟩ := ⟨_, rfl⟩
  have zA_445 : Hid (A_445.size = 16) := Lib.hid (by rw [eA_445]; exact RA_size _ _ _)
  have oA_445 : Hid (A_445.all (·.oneCell') = true) := Lib.hid (by rw [eA_445]; exact RA_one _ _ _)
  replace eA_445 := Lib.hid eA_445
  have cp_447 : V_440.cell? ⟨B0, 13, none⟩ = some (.int .i64 lm) := by rw [blk_cell H_442.out]; exact (by rw [eA_433.out]; simp [RA, TA])
  have zp_448 : V_440.frozen? ⟨B0, 13, none⟩ = false := blk_frozen H_442.out 13
  go_upto_region 20 with (fail)
  have H_449 : Hid ((V_440.setCell ⟨B0, 13, none⟩ (.int .i64 x)).heap[X1]? = some (.cells ZR 30 (0, 0))) := Lib.hid (blk_far H_443.out (Nat.ne_of_gt lt1) _)
  have H_450 : Hid ((V_440.setCell ⟨B0, 13, none⟩ (.int .i64 x)).heap[B0]? = some (.cells A_445 30 (0, 0))) := Lib.hid (blk_put H_442.out 13 _ (by rw [eA_433.out, eA_445.out]; simp [RA, TA]))
  have HE_451 : Hid (Below B0 w (V_440.setCell ⟨B0, 13, none⟩ (.int .i64 x))) := Lib.hid (HE_444.out.setCell (p := ⟨B0, 13, none⟩) (Nat.le_refl B0) _)
  clear cp_447 zp_448
  generalize (V_440.setCell ⟨B0, 13, none⟩ (.int .i64 x)) = V_446 at H_449 H_450 HE_451 ⊢
  clear HE_444 H_443 H_442
  obtain ⟨V_452, q_453_0, q_453_1, q_453_2, q_453_3⟩ := st_any H_449.out zZR.out zA_445.out oA_445.out
  have H_454 : Hid (V_452.heap[B0]? = some (.cells A_445 30 (0, 0))) := Lib.hid ((q_453_2 _ (Nat.ne_of_lt lt1)).trans H_450.out)
  have HE_455 : Hid (Below B0 w V_452) := Lib.hid (q_453_3 _ _ ge1 HE_451.out)
  have H_456 := Lib.hid q_453_1
  clear q_453_1 q_453_2 q_453_3
  go_wp2_with (first | (refine wpl_ld _ _ rfl (by rfl) B0 rfl H_450.out Try.underlying30 rfl (by kernel_rfl) zA_445.out ?_))
  clear q_453_0
  clear HE_451 H_450 H_449
  refine bodyPost_ret (v := .tuple #[.agg A_445, .int .i64 2]) (by refine Eq.trans (rc2 (fn := Try.f17) rfl _ _ X1 ?_ H_456.out Try.underlying30 rfl (by kernel_rfl) zA_445.out) ?_ <;> rfl) rfl ⟨?_, HE_455.out⟩
  rw [eA_445.out]
set_option maxRecDepth 100000 in
set_option maxHeartbeats 6000000 in
theorem rs_failB_f (w : World) (t : S28) (d : Int) (p : Nat) (lf fl lm fm : Int) (st : Bool) (R : Array Value) (eR : R = RA t d ⟨p, lf, st, fl⟩) (ok : OkT t) (h1 : 1 ≤ d) (h2 : d ≤ t.f3) (hw1 : wrap64 (lf - 1) = lm) (hw2 : wrap64 (fl + 1) = fm) (hw3 : wrap64 ((p : Int) + 1) = (p : Int) + 1) (hgt : decide (0 < lm) = false) (hst : st = true) (h9 : (t.f9 == 1) = false) (h3 : (t.f9 == 3) = true) (hp0 : ((p : Int) == 0) = false) (x : Int) (hx : x = t.f4 + t.f6) : Calls Try.prog 17 #[.agg R, .bool false] w fun e w' => e = .returned (.tuple #[.agg (RA t d ⟨1, x, false, fm⟩), .int .i64 2]) ∧ Below w.heap.size w w' := by
  have zR : Hid (R.size = 16) := Lib.hid (by rw [eR]; exact RA_size _ _ _)
  have oR : Hid (R.all (·.oneCell') = true) := Lib.hid (by rw [eR]; exact RA_one _ _ _)
  replace eR := Lib.hid eR
  obtain ⟨pI, hpI⟩ : ∃ pI : Int, (p : Int) = pI := ⟨_, rfl⟩
  rw [hpI] at hw3
  replace ok := Lib.hid ok
  obtain ⟨ZR, eZR⟩ : ∃ A : Array Value, A = #[.string ⟨#[]⟩, .int .i64 0, .int .i64 0, .int .i64 0, .int .i64 0, .int .i64 0, .int .i64 0, .int .i64 0, .int .i64 0, .int .i64 0, .int .i64 0, .int .i64 0, .int .i64 0, .int .i64 0, .bool false, .int .i64 0] := ⟨_, rfl⟩
  have zZR : Hid (ZR.size = 16) := Lib.hid (by rw [eZR]; rfl)
  have hz : ∀ V : World, (zeroValue 30).run Try.prog V = .ok (.agg ZR) V := fun V => by rw [eZR]; kernel_rfl
  replace eZR := Lib.hid eZR
  obtain ⟨B0, hB0⟩ : ∃ B, w.heap.size = B := ⟨_, rfl⟩
  rw [hB0]
  obtain ⟨V0, hV0⟩ : ∃ V, w.alloc (.cells R 30) = V := ⟨_, rfl⟩
  obtain ⟨X1, hX1⟩ : ∃ X, V0.heap.size = X := ⟨_, rfl⟩
  obtain ⟨V1, hV1⟩ : ∃ V, V0.alloc (.cells ZR 30) = V := ⟨_, rfl⟩
  have g0 : V0.heap[B0]? = some (.cells R 30 (0, 0)) := by rw [← hV0]; exact (box_new hB0).1
  have lt1 : B0 < X1 := hX1 ▸ blk_lt g0
  have Hr : Hid (V1.heap[B0]? = some (.cells R 30 (0, 0))) := Lib.hid (by rw [← hV1]; exact ((box_new hX1).2 _ lt1).trans g0)
  have Hz : Hid (V1.heap[X1]? = some (.cells ZR 30 (0, 0))) := Lib.hid (by rw [← hV1]; exact (box_new hX1).1)
  have HE : Hid (Below B0 w V1) := Lib.hid (by rw [← hV1, ← hV0, ← hB0]; exact ((Below.refl _ _).alloc (Nat.le_refl _) _).alloc (by simp) _)
  have ge1 : B0 ≤ X1 := Nat.le_of_lt lt1
  clear g0
  go_enter Try.func17, Try.ntmps17
  go_upto_region 1 with (fail)
  replace hB0 := Lib.hid hB0
  replace hV0 := Lib.hid hV0
  replace hX1 := Lib.hid hX1
  replace hV1 := Lib.hid hV1
  replace hpI := Lib.hid hpI
  obtain ⟨A_457, eA_457⟩ : ∃ A, A = RA t d ⟨p, lm, st, fl⟩ := ⟨_, rfl⟩
  have zA_457 : Hid (A_457.size = 16) := Lib.hid (by rw [eA_457]; exact RA_size _ _ _)
  have oA_457 : Hid (A_457.all (·.oneCell') = true) := Lib.hid (by rw [eA_457]; exact RA_one _ _ _)
  replace eA_457 := Lib.hid eA_457
  have cp_459 : V1.cell? ⟨B0, 13, none⟩ = some (.int .i64 lf) := by rw [blk_cell Hr.out]; exact (by rw [eR.out]; simp [RA, TA])
  have zp_460 : V1.frozen? ⟨B0, 13, none⟩ = false := blk_frozen Hr.out 13
  go_upto_region 2 with (fail)
  have H_461 : Hid ((V1.setCell ⟨B0, 13, none⟩ (.int .i64 lm)).heap[X1]? = some (.cells ZR 30 (0, 0))) := Lib.hid (blk_far Hz.out (Nat.ne_of_gt lt1) _)
  have H_462 : Hid ((V1.setCell ⟨B0, 13, none⟩ (.int .i64 lm)).heap[B0]? = some (.cells A_457 30 (0, 0))) := Lib.hid (blk_put Hr.out 13 _ (by rw [eR.out, eA_457.out]; simp [RA, TA]))
  have HE_463 : Hid (Below B0 w (V1.setCell ⟨B0, 13, none⟩ (.int .i64 lm))) := Lib.hid (HE.out.setCell (p := ⟨B0, 13, none⟩) (Nat.le_refl B0) _)
  clear cp_459 zp_460
  generalize (V1.setCell ⟨B0, 13, none⟩ (.int .i64 lm)) = V_458 at H_461 H_462 HE_463 ⊢
  clear HE Hz Hr
  have c_464 : V_458.cell? ⟨B0, 13, none⟩ = some (.int .i64 lm) := by rw [blk_cell H_462.out, eA_457.out]; simp [RA, TA]
  go_upto_region 6 with (fail)
  clear c_464
  subst hst
  have c_465 : V_458.cell? ⟨B0, 14, none⟩ = some (.bool true) := by rw [blk_cell H_462.out, eA_457.out]; simp [RA, TA]
  go_upto_region 12 with (fail)
  clear c_465
  obtain ⟨A_466, eA_466⟩ : ∃ A, A = RA t d ⟨p, lm, false, fl⟩ := ⟨_, rfl⟩
  have zA_466 : Hid (A_466.size = 16) := Lib.hid (by rw [eA_466]; exact RA_size _ _ _)
  have oA_466 : Hid (A_466.all (·.oneCell') = true) := Lib.hid (by rw [eA_466]; exact RA_one _ _ _)
  replace eA_466 := Lib.hid eA_466
  have cp_468 : V_458.cell? ⟨B0, 14, none⟩ = some (.bool true) := by rw [blk_cell H_462.out]; exact (by rw [eA_457.out]; simp [RA, TA])
  have zp_469 : V_458.frozen? ⟨B0, 14, none⟩ = false := blk_frozen H_462.out 14
  go_upto_region 13 with (fail)
  have H_470 : Hid ((V_458.setCell ⟨B0, 14, none⟩ (.bool false)).heap[X1]? = some (.cells ZR 30 (0, 0))) := Lib.hid (blk_far H_461.out (Nat.ne_of_gt lt1) _)
  have H_471 : Hid ((V_458.setCell ⟨B0, 14, none⟩ (.bool false)).heap[B0]? = some (.cells A_466 30 (0, 0))) := Lib.hid (blk_put H_462.out 14 _ (by rw [eA_457.out, eA_466.out]; simp [RA, TA]))
  have HE_472 : Hid (Below B0 w (V_458.setCell ⟨B0, 14, none⟩ (.bool false))) := Lib.hid (HE_463.out.setCell (p := ⟨B0, 14, none⟩) (Nat.le_refl B0) _)
  clear cp_468 zp_469
  generalize (V_458.setCell ⟨B0, 14, none⟩ (.bool false)) = V_467 at H_470 H_471 HE_472 ⊢
  clear HE_463 H_461 H_462
  obtain ⟨A_473, eA_473⟩ : ∃ A, A = RA t d ⟨p, lm, false, fm⟩ := ⟨_, rfl⟩
  have zA_473 : Hid (A_473.size = 16) := Lib.hid (by rw [eA_473]; exact RA_size _ _ _)
  have oA_473 : Hid (A_473.all (·.oneCell') = true) := Lib.hid (by rw [eA_473]; exact RA_one _ _ _)
  replace eA_473 := Lib.hid eA_473
  have cp_475 : V_467.cell? ⟨B0, 15, none⟩ = some (.int .i64 fl) := by rw [blk_cell H_471.out]; exact (by rw [eA_466.out]; simp [RA, TA])
  have zp_476 : V_467.frozen? ⟨B0, 15, none⟩ = false := blk_frozen H_471.out 15
  go_upto_region 15 with (fail)
  have H_477 : Hid ((V_467.setCell ⟨B0, 15, none⟩ (.int .i64 fm)).heap[X1]? = some (.cells ZR 30 (0, 0))) := Lib.hid (blk_far H_470.out (Nat.ne_of_gt lt1) _)
  have H_478 : Hid ((V_467.setCell ⟨B0, 15, none⟩ (.int .i64 fm)).heap[B0]? = some (.cells A_473 30 (0, 0))) := Lib.hid (blk_put H_471.out 15 _ (by rw [eA_466.out, eA_473.out]; simp [RA, TA]))
  have HE_479 : Hid (Below B0 w (V_467.setCell ⟨B0, 15, none⟩ (.int .i64 fm))) := Lib.hid (HE_472.out.setCell (p := ⟨B0, 15, none⟩) (Nat.le_refl B0) _)
  clear cp_475 zp_476
  generalize (V_467.setCell ⟨B0, 15, none⟩ (.int .i64 fm)) = V_474 at H_477 H_478 HE_479 ⊢
  clear HE_472 H_470 H_471
  have c_480 : V_474.cell? ⟨B0, 9, none⟩ = some (.int .i64 t.f9) := by rw [blk_cell H_478.out, eA_473.out]; simp [RA, TA]
  have h9n : (t.f9 != 1) = true := by simpa using h9
  rw [hpI.out] at hp0
  have c_481 : V_474.cell? ⟨B0, 12, none⟩ = some (.int .i64 pI) := by rw [blk_cell H_478.out, eA_473.out, ← hpI.out]; simp [RA, TA]
  go_upto_region 18 with (fail)
  clear c_480 c_481
  obtain ⟨A_482, eA_482⟩ : ∃ A, A = RA t d ⟨1, lm, false, fm⟩ := ⟨_, rfl⟩
  have zA_482 : Hid (A_482.size = 16) := Lib.hid (by rw [eA_482]; exact RA_size _ _ _)
  have oA_482 : Hid (A_482.all (·.oneCell') = true) := Lib.hid (by rw [eA_482]; exact RA_one _ _ _)
  replace eA_482 := Lib.hid eA_482
  have cp_484 : V_474.cell? ⟨B0, 12, none⟩ = some (.int .i64 pI) := by rw [blk_cell H_478.out]; exact (by rw [eA_473.out, ← hpI.out]; simp [RA, TA])
  have zp_485 : V_474.frozen? ⟨B0, 12, none⟩ = false := blk_frozen H_478.out 12
  go_upto_region 19 with (fail)
  have H_486 : Hid ((V_474.setCell ⟨B0, 12, none⟩ (.int .i64 1)).heap[X1]? = some (.cells ZR 30 (0, 0))) := Lib.hid (blk_far H_477.out (Nat.ne_of_gt lt1) _)
  have H_487 : Hid ((V_474.setCell ⟨B0, 12, none⟩ (.int .i64 1)).heap[B0]? = some (.cells A_482 30 (0, 0))) := Lib.hid (blk_put H_478.out 12 _ (by rw [eA_473.out, eA_482.out]; simp [RA, TA]))
  have HE_488 : Hid (Below B0 w (V_474.setCell ⟨B0, 12, none⟩ (.int .i64 1))) := Lib.hid (HE_479.out.setCell (p := ⟨B0, 12, none⟩) (Nat.le_refl B0) _)
  clear cp_484 zp_485
  generalize (V_474.setCell ⟨B0, 12, none⟩ (.int .i64 1)) = V_483 at H_486 H_487 HE_488 ⊢
  clear HE_479 H_477 H_478
  have h9' : ¬ t.f9 = 1 := by simpa using h9
  replace h9' := Lib.hid h9'
  replace hx := Lib.hid hx
  go_wp2_with (first | (refine wpl_ld _ _ rfl (by rfl) B0 rfl H_487.out Try.underlying30 rfl (by kernel_rfl) zA_482.out ?_))
  refine (length_c _ t d ⟨1, lm, false, fm⟩ _ eA_482.out ok.out h1 h2 (.inl ⟨h9'.out, rfl⟩) x (by unfold lenv; rw [if_pos ⟨h9'.out, rfl⟩]; exact hx.out)).mono ?_; rintro e V_489 ⟨rfl, hb_490⟩
  have H_491 : Hid (V_489.heap[B0]? = some (.cells A_482 30 (0, 0))) := Lib.hid ((hb_490.block B0 (blk_lt H_487.out)).trans H_487.out)
  have H_492 : Hid (V_489.heap[X1]? = some (.cells ZR 30 (0, 0))) := Lib.hid ((hb_490.block X1 (blk_lt H_486.out)).trans H_486.out)
  have HE_493 : Hid (Below B0 w V_489) := Lib.hid (HE_488.out.trans (hb_490.mono (sz_le hB0.out HE_488.out.size)))
  clear HE_488 H_487 H_486
  clear hb_490
  obtain ⟨A_494, eA_494⟩ : ∃ A, A = RA t d ⟨1, x, false, fm⟩ := ⟨_, rfl⟩
  have zA_494 : Hid (A_494.size = 16) := Lib.hid (by rw [eA_494]; exact RA_size _ _ _)
  have oA_494 : Hid (A_494.all (·.oneCell') = true) := Lib.hid (by rw [eA_494]; exact RA_one _ _ _)
  replace eA_494 := Lib.hid eA_494
  have cp_496 : V_489.cell? ⟨B0, 13, none⟩ = some (.int .i64 lm) := by rw [blk_cell H_491.out]; exact (by rw [eA_482.out]; simp [RA, TA])
  have zp_497 : V_489.frozen? ⟨B0, 13, none⟩ = false := blk_frozen H_491.out 13
  go_upto_region 20 with (fail)
  have H_498 : Hid ((V_489.setCell ⟨B0, 13, none⟩ (.int .i64 x)).heap[X1]? = some (.cells ZR 30 (0, 0))) := Lib.hid (blk_far H_492.out (Nat.ne_of_gt lt1) _)
  have H_499 : Hid ((V_489.setCell ⟨B0, 13, none⟩ (.int .i64 x)).heap[B0]? = some (.cells A_494 30 (0, 0))) := Lib.hid (blk_put H_491.out 13 _ (by rw [eA_482.out, eA_494.out]; simp [RA, TA]))
  have HE_500 : Hid (Below B0 w (V_489.setCell ⟨B0, 13, none⟩ (.int .i64 x))) := Lib.hid (HE_493.out.setCell (p := ⟨B0, 13, none⟩) (Nat.le_refl B0) _)
  clear cp_496 zp_497
  generalize (V_489.setCell ⟨B0, 13, none⟩ (.int .i64 x)) = V_495 at H_498 H_499 HE_500 ⊢
  clear HE_493 H_492 H_491
  obtain ⟨V_501, q_502_0, q_502_1, q_502_2, q_502_3⟩ := st_any H_498.out zZR.out zA_494.out oA_494.out
  have H_503 : Hid (V_501.heap[B0]? = some (.cells A_494 30 (0, 0))) := Lib.hid ((q_502_2 _ (Nat.ne_of_lt lt1)).trans H_499.out)
  have HE_504 : Hid (Below B0 w V_501) := Lib.hid (q_502_3 _ _ ge1 HE_500.out)
  have H_505 := Lib.hid q_502_1
  clear q_502_1 q_502_2 q_502_3
  go_wp2_with (first | (refine wpl_ld _ _ rfl (by rfl) B0 rfl H_499.out Try.underlying30 rfl (by kernel_rfl) zA_494.out ?_))
  clear q_502_0
  clear HE_500 H_499 H_498
  refine bodyPost_ret (v := .tuple #[.agg A_494, .int .i64 2]) (by refine Eq.trans (rc2 (fn := Try.f17) rfl _ _ X1 ?_ H_505.out Try.underlying30 rfl (by kernel_rfl) zA_494.out) ?_ <;> rfl) rfl ⟨?_, HE_504.out⟩
  rw [eA_494.out]
theorem rstep_c {t : S28} {d : Int} (ok : OkT t) (h1 : 1 ≤ d) (h2 : d ≤ t.f3) {s u : St} {e : Int} (I : Inv t d s) (hit : Bool) (hf : 0 ≤ s.fl) (hf2 : s.fl ≤ 1000000000000) (hq : nx t d s hit = (u, e)) (W : World) (R R' : Array Value) (hR : R = RA t d s) (hR' : R' = RA t d u) :
    Calls Try.prog 17 #[.agg R, .bool hit] W fun e' w' => e' = .returned (.tuple #[.agg R', .int .i64 e]) ∧ Below W.heap.size W w' := by
  subst hR'
  have hn := ok.nums
  have he := ex_bd ok
  have hs := su_bd ok h1 h2
  have hlen := pt_len ok d h1 h2
  have hlb : s.left ≤ 10000000000 := by
    by_cases c : t.f9 = 1
    · have := I.1 c; have := rd_bd ok h1 this.1 c; omega
    · have := I.2.1 c; omega
  have hl1 := I.2.2
  have hpb : s.p ≤ 100000000 := by
    by_cases c : t.f9 = 1
    · have := (I.1 c).1; omega
    · have := (I.2.1 c).1; omega
  have hw1 : wrap64 (s.left - 1) = s.left - 1 := w64 (by omega) (by omega)
  have hw2 : wrap64 (s.fl + 1) = s.fl + 1 := w64 (by omega) (by omega)
  have hw3 : wrap64 ((s.p : Int) + 1) = (s.p : Int) + 1 := w64 (by omega) (by omega)
  have hI1 := I.1
  have hI2 := I.2.1
  obtain ⟨p, lf, st, fl⟩ := s
  simp only at hw1 hw2 hw3 hI1 hI2 hl1
  unfold nx at hq
  simp only at hq
  clear hlb hpb
  by_cases c1 : lf - 1 > 0
  · rw [if_pos c1] at hq
    injection hq with q1 q2
    subst q1 q2
    have hgt : decide (0 < lf - 1) = true := by simpa using c1
    cases hit with
    | true => simpa using rs_runs_t W t d p lf fl _ _ st R hR ok h1 h2 hw1 hw2 hw3 hgt
    | false => simpa using rs_runs_f W t d p lf fl _ _ st R hR ok h1 h2 hw1 hw2 hw3 hgt
  · rw [if_neg c1] at hq
    have hgt : decide (0 < lf - 1) = false := by simpa using c1
    by_cases c2 : (st || hit) = true
    · rw [if_pos c2] at hq
      by_cases c : t.f9 = 1
      · rw [if_pos c] at hq
        injection hq with q1 q2
        subst q1 q2
        have h9 : (t.f9 == 1) = true := by simpa using c
        have hpl := (hI1 c).1
        cases hit with
        | true => exact rs_failR_t W t d p lf fl _ _ st R hR ok h1 h2 hw1 hw2 hw3 hgt h9 hpl _ rfl
        | false => exact rs_failR_f W t d p lf fl _ _ st R hR ok h1 h2 hw1 hw2 hw3 hgt (by simpa using c2) h9 hpl _ rfl
      · rw [if_neg c] at hq
        have h9 : (t.f9 == 1) = false := by simpa using c
        have hp1 := (hI2 c).1
        injection hq with q1 q2
        subst q1
        by_cases c3 : t.f9 = 3
        · have h3 : (t.f9 == 3) = true := by simpa using c3
          by_cases c4 : p = 0
          · rw [if_pos ⟨c3, by omega⟩] at q2
            subst q2
            have hp0 : ((p : Int) == 0) = true := by simp [c4]
            cases hit with
            | true => exact rs_fail3_t W t d p lf fl _ _ st R hR ok h1 h2 hw1 hw2 hw3 hgt h9 h3 hp0 _ rfl
            | false => exact rs_fail3_f W t d p lf fl _ _ st R hR ok h1 h2 hw1 hw2 hw3 hgt (by simpa using c2) h9 h3 hp0 _ rfl
          · rw [if_neg (fun h => by omega)] at q2
            subst q2
            have hp0 : ((p : Int) == 0) = false := by simpa using c4
            cases hit with
            | true => exact rs_failB_t W t d p lf fl _ _ st R hR ok h1 h2 hw1 hw2 hw3 hgt h9 h3 hp0 _ rfl
            | false => exact rs_failB_f W t d p lf fl _ _ st R hR ok h1 h2 hw1 hw2 hw3 hgt (by simpa using c2) h9 h3 hp0 _ rfl
        · rw [if_neg (fun h => c3 h.1)] at q2
          subst q2
          have h3 : (t.f9 == 3) = false := by simpa using c3
          cases hit with
          | true => exact rs_failA_t W t d p lf fl _ _ st R hR ok h1 h2 hw1 hw2 hw3 hgt h9 h3 _ rfl
          | false => exact rs_failA_f W t d p lf fl _ _ st R hR ok h1 h2 hw1 hw2 hw3 hgt (by simpa using c2) h9 h3 _ rfl
    · rw [if_neg c2] at hq
      have c2' : (st || hit) = false := by simpa using c2
      rw [Bool.or_eq_false_iff] at c2'
      obtain ⟨hst, rfl⟩ := c2'
      by_cases c3 : t.f9 = 1 ∧ p + 1 < (pt t d).length
      · rw [if_pos c3] at hq
        injection hq with q1 q2
        subst q1 q2
        exact rs_passed_f W t d p lf fl _ _ st R hR ok h1 h2 hw1 hw2 hw3 hgt hst (by simpa using c3.1) (by have := c3.2; simp; omega) _ rfl
      · rw [if_neg c3] at hq
        injection hq with q1 q2
        subst q1 q2
        by_cases c : t.f9 = 1
        · exact rs_done1_f W t d p lf fl _ _ st R hR ok h1 h2 hw1 hw2 hw3 hgt hst (by simpa using c) (by have : ¬ p + 1 < (pt t d).length := fun k => c3 ⟨c, k⟩; simp; omega)
        · exact rs_doneN_f W t d p lf fl _ _ st R hR ok h1 h2 hw1 hw2 hw3 hgt hst (by simpa using c)
end Go.Proofs.Ytpjehbcchanmhaa.PS
