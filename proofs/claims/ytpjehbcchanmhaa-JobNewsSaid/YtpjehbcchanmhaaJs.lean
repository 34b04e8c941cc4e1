/- job.Step: what it computes, over a run's step. -/
import Derived.Test.YtpjehbcchanmhaaMid
namespace Go.Proofs.Ytpjehbcchanmhaa.PC
open Go.RowKit Go.Proofs.YtpjehbcchanmhaaW.PrintWords Go.Proofs.YtpjehbcchanmhaaW.PrintLast Go.Proofs.YtpjehbcchanmhaaW.PrintMore
set_option linter.unusedVariables false
set_option linter.unusedSimpArgs false
theorem P_set (a0 a1 a2 a3 : Int) (must over bg : Bool) (R : Array Value) : ((#[.int .i64 a0, .int .i64 a1, .int .i64 a2, .int .i64 a3, .bool must, .bool over, .bool bg] : Array Value) ++ R).setIfInBounds 6 (.bool true) = (#[.int .i64 a0, .int .i64 a1, .int .i64 a2, .int .i64 a3, .bool must, .bool over, .bool true] : Array Value) ++ R := by
  rw [Array.setIfInBounds_append_left (show 6 < 7 by decide)]
  rfl
theorem P_get6 (a0 a1 a2 a3 : Int) (must over bg : Bool) (R : Array Value) : ((#[.int .i64 a0, .int .i64 a1, .int .i64 a2, .int .i64 a3, .bool must, .bool over, .bool bg] : Array Value) ++ R)[6]? = some (.bool bg) := by
  rw [Array.getElem?_append_left (show 6 < 7 by decide)]
  rfl
theorem P_get5 (a0 a1 a2 a3 : Int) (must over bg : Bool) (R : Array Value) : ((#[.int .i64 a0, .int .i64 a1, .int .i64 a2, .int .i64 a3, .bool must, .bool over, .bool bg] : Array Value) ++ R)[5]? = some (.bool over) := by
  rw [Array.getElem?_append_left (show 5 < 7 by decide)]
  rfl
theorem P_get4 (a0 a1 a2 a3 : Int) (must over bg : Bool) (R : Array Value) : ((#[.int .i64 a0, .int .i64 a1, .int .i64 a2, .int .i64 a3, .bool must, .bool over, .bool bg] : Array Value) ++ R)[4]? = some (.bool must) := by
  rw [Array.getElem?_append_left (show 4 < 7 by decide)]
  rfl
set_option maxRecDepth 100000 in
set_option maxHeartbeats 2000000 in
theorem js_over (w : World) (a0 a1 a2 a3 : Int) (must over bg hit : Bool) (R R1 : Array Value) (zR : R.size = 16) (zR1 : R1.size = 16) (oR1 : R1.all (·.oneCell') = true) (e1 : Int) (HS : ∀ W : World, Calls Try.prog 23 #[.agg R, .bool hit] W fun e w' => e = .returned (.tuple #[.agg R1, .int .i64 e1]) ∧ Below W.heap.size W w') (R2 : Array Value) (st : Bool) (hR1 : R1[14]? = some (.bool st)) (hR2 : R1.setIfInBounds 14 (.bool true) = R2) (zR2 : R2.size = 16) (oR2 : R2.all (·.oneCell') = true) (he : e1 = 4) (ho : over = true) :
    Calls Try.prog 16 #[.agg ((#[.int .i64 a0, .int .i64 a1, .int .i64 a2, .int .i64 a3, .bool must, .bool over, .bool bg] : Array Value) ++ R), .bool hit] w fun e w' => e = .returned (.tuple #[.agg ((#[.int .i64 a0, .int .i64 a1, .int .i64 a2, .int .i64 a3, .bool must, .bool over, .bool true] : Array Value) ++ R2), .int .i64 2]) ∧ Below w.heap.size w w' := by
  subst ho
  have g4 : (e1 == 4) = true := by rw [he]; rfl
  replace he := Lib.hid he
  replace zR2 := Lib.hid zR2
  replace oR2 := Lib.hid oR2
  obtain ⟨PA, ePA⟩ : ∃ A : Array Value, A = #[.int .i64 a0, .int .i64 a1, .int .i64 a2, .int .i64 a3, .bool must, .bool true, .bool bg] := ⟨_, rfl⟩
  have zPA : Hid (PA.size = 7) := Lib.hid (by rw [ePA]; rfl)
  have oPA : Hid (PA.all (·.oneCell') = true) := Lib.hid (by rw [ePA]; simp [Value.oneCell'])
  replace ePA := Lib.hid ePA
  obtain ⟨PB, ePB⟩ : ∃ A : Array Value, A = #[.int .i64 a0, .int .i64 a1, .int .i64 a2, .int .i64 a3, .bool must, .bool true, .bool true] := ⟨_, rfl⟩
  have zPB : Hid (PB.size = 7) := Lib.hid (by rw [ePB]; rfl)
  have oPB : Hid (PB.all (·.oneCell') = true) := Lib.hid (by rw [ePB]; simp [Value.oneCell'])
  replace ePB := Lib.hid ePB
  obtain ⟨Z, eZ⟩ : ∃ A : Array Value, A = #[.int .i64 0, .int .i64 0, .int .i64 0, .int .i64 0, .bool false, .bool false, .bool false, .string ⟨#[]⟩, .int .i64 0, .int .i64 0, .int .i64 0, .int .i64 0, .int .i64 0, .int .i64 0, .int .i64 0, .int .i64 0, .int .i64 0, .int .i64 0, .int .i64 0, .int .i64 0, .int .i64 0, .bool false, .int .i64 0] := ⟨_, rfl⟩
  have zZ : Hid (Z.size = 23) := Lib.hid (by rw [eZ]; rfl)
  have oZ : Hid (Z.all (·.oneCell') = true) := Lib.hid (by rw [eZ]; simp [Value.oneCell'])
  replace eZ := Lib.hid eZ
  obtain ⟨Y, eY⟩ : ∃ A : Array Value, A = #[.string ⟨#[]⟩, .int .i64 0, .int .i64 0, .int .i64 0, .int .i64 0, .int .i64 0, .int .i64 0, .int .i64 0, .int .i64 0, .int .i64 0, .int .i64 0, .int .i64 0, .int .i64 0, .int .i64 0, .bool false, .int .i64 0] := ⟨_, rfl⟩
  have zY : Hid (Y.size = 16) := Lib.hid (by rw [eY]; rfl)
  have oY : Hid (Y.all (·.oneCell') = true) := Lib.hid (by rw [eY]; simp [Value.oneCell'])
  replace eY := Lib.hid eY
  rw [← ePA.out]
  have zJ : Hid ((PA ++ R).size = 23) := Lib.hid (by rw [Array.size_append, zPA.out, zR])
  have hz : ∀ V : World, (zeroValue 32).run Try.prog V = .ok (.agg Z) V := fun V => by rw [eZ.out]; kernel_rfl
  have hz2 : ∀ V : World, (zeroValue 30).run Try.prog V = .ok (.agg Y) V := fun V => by rw [eY.out]; kernel_rfl
  replace zR := Lib.hid zR
  replace zR1 := Lib.hid zR1
  replace oR1 := Lib.hid oR1
  replace HS := Lib.hid HS
  replace hR1 := Lib.hid hR1
  obtain ⟨B0, hB0⟩ : ∃ B, w.heap.size = B := ⟨_, rfl⟩
  rw [hB0]
  obtain ⟨V0, hV0⟩ : ∃ V, w.alloc (.cells (PA ++ R) 32) = V := ⟨_, rfl⟩
  obtain ⟨X1, hX1⟩ : ∃ X, V0.heap.size = X := ⟨_, rfl⟩
  obtain ⟨V1, hV1⟩ : ∃ V, V0.alloc (.cells Z 32) = V := ⟨_, rfl⟩
  have h0 : V0.heap[B0]? = some (.cells (PA ++ R) 32 (0, 0)) := by rw [← hV0]; exact (box_new hB0).1
  have lt1 : B0 < X1 := hX1 ▸ blk_lt h0
  have Hj : Hid (V1.heap[B0]? = some (.cells (PA ++ R) 32 (0, 0))) := Lib.hid (by rw [← hV1]; exact ((box_new hX1).2 _ lt1).trans h0)
  have Hr : Hid (V1.heap[X1]? = some (.cells Z 32 (0, 0))) := Lib.hid (by rw [← hV1]; exact (box_new hX1).1)
  have HE : Hid (Below B0 w V1) := Lib.hid (by rw [← hV1, ← hV0, ← hB0]; exact ((Below.refl _ _).alloc (Nat.le_refl _) _).alloc (by simp) _)
  have ge1 : B0 ≤ X1 := Nat.le_of_lt lt1
  have n1 : B0 ≠ X1 := Nat.ne_of_lt lt1
  clear h0
  go_enter Try.func16, Try.ntmps16
  go_upto_region 1 with (fail)
  replace hB0 := Lib.hid hB0
  replace hV0 := Lib.hid hV0
  replace hX1 := Lib.hid hX1
  replace hV1 := Lib.hid hV1
  go_wp2_with (first | (refine wpl_ldm _ _ rfl (by rfl) B0 7 rfl Hj.out zPA.out Try.underlying30 rfl (by kernel_rfl) zR.out ?_))
  refine (HS.out _).mono ?_; rintro e V_1 ⟨rfl, hb_2⟩
  have H_3 : Hid (V_1.heap[B0]? = some (.cells (PA ++ R) 32 (0, 0))) := Lib.hid ((hb_2.block B0 (blk_lt Hj.out)).trans Hj.out)
  have H_4 : Hid (V_1.heap[X1]? = some (.cells Z 32 (0, 0))) := Lib.hid ((hb_2.block X1 (blk_lt Hr.out)).trans Hr.out)
  have HE_5 : Hid (Below B0 w V_1) := Lib.hid (HE.out.trans (hb_2.mono (sz_le hB0.out HE.out.size)))
  clear HE Hj Hr
  clear hb_2
  obtain ⟨X_6, hX_8⟩ : ∃ X, V_1.heap.size = X := ⟨_, rfl⟩
  obtain ⟨V_7, q_9_0, q_9_1, q_9_2, q_9_3⟩ := st_new (w := V_1) (T := 30) hX_8 zY.out zR1.out oR1.out
  have ne_11 : B0 < X_6 := hX_8 ▸ blk_lt H_3.out
  have H_10 : Hid (V_7.heap[B0]? = some (.cells (PA ++ R) 32 (0, 0))) := Lib.hid ((q_9_2 _ ne_11).trans H_3.out)
  have ne_13 : X1 < X_6 := hX_8 ▸ blk_lt H_4.out
  have H_12 : Hid (V_7.heap[X1]? = some (.cells Z 32 (0, 0))) := Lib.hid ((q_9_2 _ ne_13).trans H_4.out)
  have ge_14 : B0 ≤ X_6 := hX_8 ▸ (sz_le hB0.out HE_5.out.size)
  have HE_15 : Hid (Below B0 w V_7) := Lib.hid (q_9_3 _ _ ge_14 HE_5.out)
  have H_16 := Lib.hid q_9_1
  clear q_9_1 q_9_2 q_9_3
  go_upto_region 2 with (fail)
  clear q_9_0 hX_8
  clear HE_5 H_3 H_4
  have c6 : V_7.cell? ⟨B0, 6, none⟩ = some (.bool bg) := by rw [blk_cell H_10.out, ePA.out]; exact P_get6 _ _ _ _ _ _ _ _
  have z6 : V_7.frozen? ⟨B0, 6, none⟩ = false := blk_frozen H_10.out 6
  have Hj2 : Hid ((V_7.setCell ⟨B0, 6, none⟩ (.bool true)).heap[B0]? = some (.cells (PB ++ R) 32 (0, 0))) := Lib.hid (blk_put H_10.out 6 _ (by rw [ePA.out, ePB.out]; exact P_set a0 a1 a2 a3 _ _ bg R))
  have Hr2 : Hid ((V_7.setCell ⟨B0, 6, none⟩ (.bool true)).heap[X1]? = some (.cells Z 32 (0, 0))) := Lib.hid (blk_far H_12.out (Ne.symm n1) _)
  have Hx2 : Hid ((V_7.setCell ⟨B0, 6, none⟩ (.bool true)).heap[X_6]? = some (.cells R1 30 (0, 0))) := Lib.hid (blk_far H_16.out (Nat.ne_of_gt ne_11) _)
  have HE2 : Hid (Below B0 w (V_7.setCell ⟨B0, 6, none⟩ (.bool true))) := Lib.hid (HE_15.out.setCell (p := ⟨B0, 6, none⟩) (Nat.le_refl _) _)
  go_upto_region 3 with (fail)
  generalize (V_7.setCell ⟨B0, 6, none⟩ (.bool true)) = V4 at Hj2 Hr2 Hx2 HE2 ⊢
  clear c6 z6 H_10 H_12 H_16 HE_15
  have c5 : V4.cell? ⟨B0, 5, none⟩ = some (.bool true) := by rw [blk_cell Hj2.out, ePB.out]; exact P_get5 _ _ _ _ _ _ _ _
  have c4 : V4.cell? ⟨B0, 4, none⟩ = some (.bool must) := by rw [blk_cell Hj2.out, ePB.out]; exact P_get4 _ _ _ _ _ _ _ _
  have p0 : V4.cell? ⟨X_6, 14, none⟩ = some (.bool st) := by rw [blk_cell Hx2.out]; exact hR1.out
  have p1 : V4.frozen? ⟨X_6, 14, none⟩ = false := blk_frozen Hx2.out 14
  have Hx3 : Hid ((V4.setCell ⟨X_6, 14, none⟩ (.bool true)).heap[X_6]? = some (.cells R2 30 (0, 0))) := Lib.hid (blk_put Hx2.out 14 _ hR2)
  have Hr3 : Hid ((V4.setCell ⟨X_6, 14, none⟩ (.bool true)).heap[X1]? = some (.cells Z 32 (0, 0))) := Lib.hid (blk_far Hr2.out (Nat.ne_of_lt ne_13) _)
  have Hj3 : Hid ((V4.setCell ⟨X_6, 14, none⟩ (.bool true)).heap[B0]? = some (.cells (PB ++ R) 32 (0, 0))) := Lib.hid (blk_far Hj2.out (Nat.ne_of_lt ne_11) _)
  have HE3 : Hid (Below B0 w (V4.setCell ⟨X_6, 14, none⟩ (.bool true))) := Lib.hid (HE2.out.setCell (p := ⟨X_6, 14, none⟩) ge_14 _)
  replace hR2 := Lib.hid hR2
  go_upto_region 9 with (fail)
  generalize (V4.setCell ⟨X_6, 14, none⟩ (.bool true)) = V5 at Hj3 Hr3 Hx3 HE3 ⊢
  clear p0 p1 c5 c4 Hj2 Hr2 Hx2 HE2
  obtain ⟨V6, q0, q1, q2, q3⟩ := st_mid Hj3.out zPB.out zR.out zR2.out oR2.out
  obtain ⟨J2, hJ2⟩ : ∃ J, PB ++ R2 = J := ⟨_, rfl⟩
  rw [hJ2] at q1
  have Hj6 := Lib.hid q1
  have Hr6 := Lib.hid ((q2 _ (Ne.symm n1)).trans Hr3.out)
  have HE6 := Lib.hid (q3 _ _ (Nat.le_refl B0) HE3.out)
  clear q1 q2 q3
  go_upto_region 10 with (refine wpl_ld _ _ rfl (by rfl) X_6 rfl Hx3.out Try.underlying30 rfl (by kernel_rfl) zR2.out ?_)
  clear q0
  have zJ2 : Hid (J2.size = 23) := Lib.hid (by rw [← hJ2, Array.size_append, zPB.out, zR2.out])
  have oJ2 : Hid (J2.all (·.oneCell') = true) := Lib.hid (by rw [← hJ2, Array.all_append, oPB.out, oR2.out]; rfl)
  replace hJ2 := Lib.hid hJ2
  obtain ⟨V7, q0, q1, q2, q3⟩ := st_any Hr6.out zZ.out zJ2.out oJ2.out
  have Hr7 := Lib.hid q1
  have HE7 := Lib.hid (q3 _ _ ge1 HE6.out)
  clear q1 q2 q3
  go_wp2_with (refine wpl_ld _ _ rfl (by rfl) B0 rfl Hj6.out Try.underlying32 rfl (by kernel_rfl) zJ2.out ?_)
  refine bodyPost_ret (v := .tuple #[.agg J2, .int .i64 2]) (by refine Eq.trans (rc2 (fn := Try.f16) rfl _ _ X1 ?_ Hr7.out Try.underlying32 rfl (by kernel_rfl) zJ2.out) ?_ <;> rfl) rfl ⟨?_, HE7.out⟩
  rw [← hJ2.out, ePB.out]
set_option maxRecDepth 100000 in
set_option maxHeartbeats 2000000 in
theorem js_drop2 (w : World) (a0 a1 a2 a3 : Int) (must over bg hit : Bool) (R R1 : Array Value) (zR : R.size = 16) (zR1 : R1.size = 16) (oR1 : R1.all (·.oneCell') = true) (e1 : Int) (HS : ∀ W : World, Calls Try.prog 23 #[.agg R, .bool hit] W fun e w' => e = .returned (.tuple #[.agg R1, .int .i64 e1]) ∧ Below W.heap.size W w') (R2 : Array Value) (lf : Int) (hR1 : R1[13]? = some (.int .i64 lf)) (hR2 : R1.setIfInBounds 13 (.int .i64 0) = R2) (zR2 : R2.size = 16) (oR2 : R2.all (·.oneCell') = true) (he : e1 = 2) (ho : must = false) :
    Calls Try.prog 16 #[.agg ((#[.int .i64 a0, .int .i64 a1, .int .i64 a2, .int .i64 a3, .bool must, .bool over, .bool bg] : Array Value) ++ R), .bool hit] w fun e w' => e = .returned (.tuple #[.agg ((#[.int .i64 a0, .int .i64 a1, .int .i64 a2, .int .i64 a3, .bool must, .bool over, .bool true] : Array Value) ++ R2), .int .i64 2]) ∧ Below w.heap.size w w' := by
  subst ho
  have g4 : (e1 == 4) = false := beq_eq_false_iff_ne.mpr (by omega)
  have g2 : (e1 == 2) = true := by rw [he]; rfl
  replace he := Lib.hid he
  replace zR2 := Lib.hid zR2
  replace oR2 := Lib.hid oR2
  obtain ⟨PA, ePA⟩ : ∃ A : Array Value, A = #[.int .i64 a0, .int .i64 a1, .int .i64 a2, .int .i64 a3, .bool false, .bool over, .bool bg] := ⟨_, rfl⟩
  have zPA : Hid (PA.size = 7) := Lib.hid (by rw [ePA]; rfl)
  have oPA : Hid (PA.all (·.oneCell') = true) := Lib.hid (by rw [ePA]; simp [Value.oneCell'])
  replace ePA := Lib.hid ePA
  obtain ⟨PB, ePB⟩ : ∃ A : Array Value, A = #[.int .i64 a0, .int .i64 a1, .int .i64 a2, .int .i64 a3, .bool false, .bool over, .bool true] := ⟨_, rfl⟩
  have zPB : Hid (PB.size = 7) := Lib.hid (by rw [ePB]; rfl)
  have oPB : Hid (PB.all (·.oneCell') = true) := Lib.hid (by rw [ePB]; simp [Value.oneCell'])
  replace ePB := Lib.hid ePB
  obtain ⟨Z, eZ⟩ : ∃ A : Array Value, A = #[.int .i64 0, .int .i64 0, .int .i64 0, .int .i64 0, .bool false, .bool false, .bool false, .string ⟨#[]⟩, .int .i64 0, .int .i64 0, .int .i64 0, .int .i64 0, .int .i64 0, .int .i64 0, .int .i64 0, .int .i64 0, .int .i64 0, .int .i64 0, .int .i64 0, .int .i64 0, .int .i64 0, .bool false, .int .i64 0] := ⟨_, rfl⟩
  have zZ : Hid (Z.size = 23) := Lib.hid (by rw [eZ]; rfl)
  have oZ : Hid (Z.all (·.oneCell') = true) := Lib.hid (by rw [eZ]; simp [Value.oneCell'])
  replace eZ := Lib.hid eZ
  obtain ⟨Y, eY⟩ : ∃ A : Array Value, A = #[.string ⟨#[]⟩, .int .i64 0, .int .i64 0, .int .i64 0, .int .i64 0, .int .i64 0, .int .i64 0, .int .i64 0, .int .i64 0, .int .i64 0, .int .i64 0, .int .i64 0, .int .i64 0, .int .i64 0, .bool false, .int .i64 0] := ⟨_, rfl⟩
  have zY : Hid (Y.size = 16) := Lib.hid (by rw [eY]; rfl)
  have oY : Hid (Y.all (·.oneCell') = true) := Lib.hid (by rw [eY]; simp [Value.oneCell'])
  replace eY := Lib.hid eY
  rw [← ePA.out]
  have zJ : Hid ((PA ++ R).size = 23) := Lib.hid (by rw [Array.size_append, zPA.out, zR])
  have hz : ∀ V : World, (zeroValue 32).run Try.prog V = .ok (.agg Z) V := fun V => by rw [eZ.out]; kernel_rfl
  have hz2 : ∀ V : World, (zeroValue 30).run Try.prog V = .ok (.agg Y) V := fun V => by rw [eY.out]; kernel_rfl
  replace zR := Lib.hid zR
  replace zR1 := Lib.hid zR1
  replace oR1 := Lib.hid oR1
  replace HS := Lib.hid HS
  replace hR1 := Lib.hid hR1
  obtain ⟨B0, hB0⟩ : ∃ B, w.heap.size = B := ⟨_, rfl⟩
  rw [hB0]
  obtain ⟨V0, hV0⟩ : ∃ V, w.alloc (.cells (PA ++ R) 32) = V := ⟨_, rfl⟩
  obtain ⟨X1, hX1⟩ : ∃ X, V0.heap.size = X := ⟨_, rfl⟩
  obtain ⟨V1, hV1⟩ : ∃ V, V0.alloc (.cells Z 32) = V := ⟨_, rfl⟩
  have h0 : V0.heap[B0]? = some (.cells (PA ++ R) 32 (0, 0)) := by rw [← hV0]; exact (box_new hB0).1
  have lt1 : B0 < X1 := hX1 ▸ blk_lt h0
  have Hj : Hid (V1.heap[B0]? = some (.cells (PA ++ R) 32 (0, 0))) := Lib.hid (by rw [← hV1]; exact ((box_new hX1).2 _ lt1).trans h0)
  have Hr : Hid (V1.heap[X1]? = some (.cells Z 32 (0, 0))) := Lib.hid (by rw [← hV1]; exact (box_new hX1).1)
  have HE : Hid (Below B0 w V1) := Lib.hid (by rw [← hV1, ← hV0, ← hB0]; exact ((Below.refl _ _).alloc (Nat.le_refl _) _).alloc (by simp) _)
  have ge1 : B0 ≤ X1 := Nat.le_of_lt lt1
  have n1 : B0 ≠ X1 := Nat.ne_of_lt lt1
  clear h0
  go_enter Try.func16, Try.ntmps16
  go_upto_region 1 with (fail)
  replace hB0 := Lib.hid hB0
  replace hV0 := Lib.hid hV0
  replace hX1 := Lib.hid hX1
  replace hV1 := Lib.hid hV1
  go_wp2_with (first | (refine wpl_ldm _ _ rfl (by rfl) B0 7 rfl Hj.out zPA.out Try.underlying30 rfl (by kernel_rfl) zR.out ?_))
  refine (HS.out _).mono ?_; rintro e V_17 ⟨rfl, hb_18⟩
  have H_19 : Hid (V_17.heap[B0]? = some (.cells (PA ++ R) 32 (0, 0))) := Lib.hid ((hb_18.block B0 (blk_lt Hj.out)).trans Hj.out)
  have H_20 : Hid (V_17.heap[X1]? = some (.cells Z 32 (0, 0))) := Lib.hid ((hb_18.block X1 (blk_lt Hr.out)).trans Hr.out)
  have HE_21 : Hid (Below B0 w V_17) := Lib.hid (HE.out.trans (hb_18.mono (sz_le hB0.out HE.out.size)))
  clear HE Hj Hr
  clear hb_18
  obtain ⟨X_22, hX_24⟩ : ∃ X, V_17.heap.size = X := ⟨_, rfl⟩
  obtain ⟨V_23, q_25_0, q_25_1, q_25_2, q_25_3⟩ := st_new (w := V_17) (T := 30) hX_24 zY.out zR1.out oR1.out
  have ne_27 : B0 < X_22 := hX_24 ▸ blk_lt H_19.out
  have H_26 : Hid (V_23.heap[B0]? = some (.cells (PA ++ R) 32 (0, 0))) := Lib.hid ((q_25_2 _ ne_27).trans H_19.out)
  have ne_29 : X1 < X_22 := hX_24 ▸ blk_lt H_20.out
  have H_28 : Hid (V_23.heap[X1]? = some (.cells Z 32 (0, 0))) := Lib.hid ((q_25_2 _ ne_29).trans H_20.out)
  have ge_30 : B0 ≤ X_22 := hX_24 ▸ (sz_le hB0.out HE_21.out.size)
  have HE_31 : Hid (Below B0 w V_23) := Lib.hid (q_25_3 _ _ ge_30 HE_21.out)
  have H_32 := Lib.hid q_25_1
  clear q_25_1 q_25_2 q_25_3
  go_upto_region 2 with (fail)
  clear q_25_0 hX_24
  clear HE_21 H_19 H_20
  have c6 : V_23.cell? ⟨B0, 6, none⟩ = some (.bool bg) := by rw [blk_cell H_26.out, ePA.out]; exact P_get6 _ _ _ _ _ _ _ _
  have z6 : V_23.frozen? ⟨B0, 6, none⟩ = false := blk_frozen H_26.out 6
  have Hj2 : Hid ((V_23.setCell ⟨B0, 6, none⟩ (.bool true)).heap[B0]? = some (.cells (PB ++ R) 32 (0, 0))) := Lib.hid (blk_put H_26.out 6 _ (by rw [ePA.out, ePB.out]; exact P_set a0 a1 a2 a3 _ _ bg R))
  have Hr2 : Hid ((V_23.setCell ⟨B0, 6, none⟩ (.bool true)).heap[X1]? = some (.cells Z 32 (0, 0))) := Lib.hid (blk_far H_28.out (Ne.symm n1) _)
  have Hx2 : Hid ((V_23.setCell ⟨B0, 6, none⟩ (.bool true)).heap[X_22]? = some (.cells R1 30 (0, 0))) := Lib.hid (blk_far H_32.out (Nat.ne_of_gt ne_27) _)
  have HE2 : Hid (Below B0 w (V_23.setCell ⟨B0, 6, none⟩ (.bool true))) := Lib.hid (HE_31.out.setCell (p := ⟨B0, 6, none⟩) (Nat.le_refl _) _)
  go_upto_region 3 with (fail)
  generalize (V_23.setCell ⟨B0, 6, none⟩ (.bool true)) = V4 at Hj2 Hr2 Hx2 HE2 ⊢
  clear c6 z6 H_26 H_28 H_32 HE_31
  have c5 : V4.cell? ⟨B0, 5, none⟩ = some (.bool over) := by rw [blk_cell Hj2.out, ePB.out]; exact P_get5 _ _ _ _ _ _ _ _
  have c4 : V4.cell? ⟨B0, 4, none⟩ = some (.bool false) := by rw [blk_cell Hj2.out, ePB.out]; exact P_get4 _ _ _ _ _ _ _ _
  have p0 : V4.cell? ⟨X_22, 13, none⟩ = some (.int .i64 lf) := by rw [blk_cell Hx2.out]; exact hR1.out
  have p1 : V4.frozen? ⟨X_22, 13, none⟩ = false := blk_frozen Hx2.out 13
  have Hx3 : Hid ((V4.setCell ⟨X_22, 13, none⟩ (.int .i64 0)).heap[X_22]? = some (.cells R2 30 (0, 0))) := Lib.hid (blk_put Hx2.out 13 _ hR2)
  have Hr3 : Hid ((V4.setCell ⟨X_22, 13, none⟩ (.int .i64 0)).heap[X1]? = some (.cells Z 32 (0, 0))) := Lib.hid (blk_far Hr2.out (Nat.ne_of_lt ne_29) _)
  have Hj3 : Hid ((V4.setCell ⟨X_22, 13, none⟩ (.int .i64 0)).heap[B0]? = some (.cells (PB ++ R) 32 (0, 0))) := Lib.hid (blk_far Hj2.out (Nat.ne_of_lt ne_27) _)
  have HE3 : Hid (Below B0 w (V4.setCell ⟨X_22, 13, none⟩ (.int .i64 0))) := Lib.hid (HE2.out.setCell (p := ⟨X_22, 13, none⟩) ge_30 _)
  replace hR2 := Lib.hid hR2
  go_upto_region 9 with (fail)
  generalize (V4.setCell ⟨X_22, 13, none⟩ (.int .i64 0)) = V5 at Hj3 Hr3 Hx3 HE3 ⊢
  clear p0 p1 c5 c4 Hj2 Hr2 Hx2 HE2
  obtain ⟨V6, q0, q1, q2, q3⟩ := st_mid Hj3.out zPB.out zR.out zR2.out oR2.out
  obtain ⟨J2, hJ2⟩ : ∃ J, PB ++ R2 = J := ⟨_, rfl⟩
  rw [hJ2] at q1
  have Hj6 := Lib.hid q1
  have Hr6 := Lib.hid ((q2 _ (Ne.symm n1)).trans Hr3.out)
  have HE6 := Lib.hid (q3 _ _ (Nat.le_refl B0) HE3.out)
  clear q1 q2 q3
  go_upto_region 10 with (refine wpl_ld _ _ rfl (by rfl) X_22 rfl Hx3.out Try.underlying30 rfl (by kernel_rfl) zR2.out ?_)
  clear q0
  have zJ2 : Hid (J2.size = 23) := Lib.hid (by rw [← hJ2, Array.size_append, zPB.out, zR2.out])
  have oJ2 : Hid (J2.all (·.oneCell') = true) := Lib.hid (by rw [← hJ2, Array.all_append, oPB.out, oR2.out]; rfl)
  replace hJ2 := Lib.hid hJ2
  obtain ⟨V7, q0, q1, q2, q3⟩ := st_any Hr6.out zZ.out zJ2.out oJ2.out
  have Hr7 := Lib.hid q1
  have HE7 := Lib.hid (q3 _ _ ge1 HE6.out)
  clear q1 q2 q3
  go_wp2_with (refine wpl_ld _ _ rfl (by rfl) B0 rfl Hj6.out Try.underlying32 rfl (by kernel_rfl) zJ2.out ?_)
  refine bodyPost_ret (v := .tuple #[.agg J2, .int .i64 2]) (by refine Eq.trans (rc2 (fn := Try.f16) rfl _ _ X1 ?_ Hr7.out Try.underlying32 rfl (by kernel_rfl) zJ2.out) ?_ <;> rfl) rfl ⟨?_, HE7.out⟩
  rw [← hJ2.out, ePB.out]
set_option maxRecDepth 100000 in
set_option maxHeartbeats 2000000 in
theorem js_drop3 (w : World) (a0 a1 a2 a3 : Int) (must over bg hit : Bool) (R R1 : Array Value) (zR : R.size = 16) (zR1 : R1.size = 16) (oR1 : R1.all (·.oneCell') = true) (e1 : Int) (HS : ∀ W : World, Calls Try.prog 23 #[.agg R, .bool hit] W fun e w' => e = .returned (.tuple #[.agg R1, .int .i64 e1]) ∧ Below W.heap.size W w') (R2 : Array Value) (lf : Int) (hR1 : R1[13]? = some (.int .i64 lf)) (hR2 : R1.setIfInBounds 13 (.int .i64 0) = R2) (zR2 : R2.size = 16) (oR2 : R2.all (·.oneCell') = true) (he : e1 = 3) (ho : must = false) :
    Calls Try.prog 16 #[.agg ((#[.int .i64 a0, .int .i64 a1, .int .i64 a2, .int .i64 a3, .bool must, .bool over, .bool bg] : Array Value) ++ R), .bool hit] w fun e w' => e = .returned (.tuple #[.agg ((#[.int .i64 a0, .int .i64 a1, .int .i64 a2, .int .i64 a3, .bool must, .bool over, .bool true] : Array Value) ++ R2), .int .i64 2]) ∧ Below w.heap.size w w' := by
  subst ho
  have g4 : (e1 == 4) = false := beq_eq_false_iff_ne.mpr (by omega)
  have g2 : (e1 == 2) = false := beq_eq_false_iff_ne.mpr (by omega)
  have g3 : (e1 == 3) = true := by rw [he]; rfl
  replace he := Lib.hid he
  replace zR2 := Lib.hid zR2
  replace oR2 := Lib.hid oR2
  obtain ⟨PA, ePA⟩ : ∃ A : Array Value, A = #[.int .i64 a0, .int .i64 a1, .int .i64 a2, .int .i64 a3, .bool false, .bool over, .bool bg] := ⟨_, rfl⟩
  have zPA : Hid (PA.size = 7) := Lib.hid (by rw [ePA]; rfl)
  have oPA : Hid (PA.all (·.oneCell') = true) := Lib.hid (by rw [ePA]; simp [Value.oneCell'])
  replace ePA := Lib.hid ePA
  obtain ⟨PB, ePB⟩ : ∃ A : Array Value, A = #[.int .i64 a0, .int .i64 a1, .int .i64 a2, .int .i64 a3, .bool false, .bool over, .bool true] := ⟨_, rfl⟩
  have zPB : Hid (PB.size = 7) := Lib.hid (by rw [ePB]; rfl)
  have oPB : Hid (PB.all (·.oneCell') = true) := Lib.hid (by rw [ePB]; simp [Value.oneCell'])
  replace ePB := Lib.hid ePB
  obtain ⟨Z, eZ⟩ : ∃ A : Array Value, A = #[.int .i64 0, .int .i64 0, .int .i64 0, .int .i64 0, .bool false, .bool false, .bool false, .string ⟨#[]⟩, .int .i64 0, .int .i64 0, .int .i64 0, .int .i64 0, .int .i64 0, .int .i64 0, .int .i64 0, .int .i64 0, .int .i64 0, .int .i64 0, .int .i64 0, .int .i64 0, .int .i64 0, .bool false, .int .i64 0] := ⟨_, rfl⟩
  have zZ : Hid (Z.size = 23) := Lib.hid (by rw [eZ]; rfl)
  have oZ : Hid (Z.all (·.oneCell') = true) := Lib.hid (by rw [eZ]; simp [Value.oneCell'])
  replace eZ := Lib.hid eZ
  obtain ⟨Y, eY⟩ : ∃ A : Array Value, A = #[.string ⟨#[]⟩, .int .i64 0, .int .i64 0, .int .i64 0, .int .i64 0, .int .i64 0, .int .i64 0, .int .i64 0, .int .i64 0, .int .i64 0, .int .i64 0, .int .i64 0, .int .i64 0, .int .i64 0, .bool false, .int .i64 0] := ⟨_, rfl⟩
  have zY : Hid (Y.size = 16) := Lib.hid (by rw [eY]; rfl)
  have oY : Hid (Y.all (·.oneCell') = true) := Lib.hid (by rw [eY]; simp [Value.oneCell'])
  replace eY := Lib.hid eY
  rw [← ePA.out]
  have zJ : Hid ((PA ++ R).size = 23) := Lib.hid (by rw [Array.size_append, zPA.out, zR])
  have hz : ∀ V : World, (zeroValue 32).run Try.prog V = .ok (.agg Z) V := fun V => by rw [eZ.out]; kernel_rfl
  have hz2 : ∀ V : World, (zeroValue 30).run Try.prog V = .ok (.agg Y) V := fun V => by rw [eY.out]; kernel_rfl
  replace zR := Lib.hid zR
  replace zR1 := Lib.hid zR1
  replace oR1 := Lib.hid oR1
  replace HS := Lib.hid HS
  replace hR1 := Lib.hid hR1
  obtain ⟨B0, hB0⟩ : ∃ B, w.heap.size = B := ⟨_, rfl⟩
  rw [hB0]
  obtain ⟨V0, hV0⟩ : ∃ V, w.alloc (.cells (PA ++ R) 32) = V := ⟨_, rfl⟩
  obtain ⟨X1, hX1⟩ : ∃ X, V0.heap.size = X := ⟨_, rfl⟩
  obtain ⟨V1, hV1⟩ : ∃ V, V0.alloc (.cells Z 32) = V := ⟨_, rfl⟩
  have h0 : V0.heap[B0]? = some (.cells (PA ++ R) 32 (0, 0)) := by rw [← hV0]; exact (box_new hB0).1
  have lt1 : B0 < X1 := hX1 ▸ blk_lt h0
  have Hj : Hid (V1.heap[B0]? = some (.cells (PA ++ R) 32 (0, 0))) := Lib.hid (by rw [← hV1]; exact ((box_new hX1).2 _ lt1).trans h0)
  have Hr : Hid (V1.heap[X1]? = some (.cells Z 32 (0, 0))) := Lib.hid (by rw [← hV1]; exact (box_new hX1).1)
  have HE : Hid (Below B0 w V1) := Lib.hid (by rw [← hV1, ← hV0, ← hB0]; exact ((Below.refl _ _).alloc (Nat.le_refl _) _).alloc (by simp) _)
  have ge1 : B0 ≤ X1 := Nat.le_of_lt lt1
  have n1 : B0 ≠ X1 := Nat.ne_of_lt lt1
  clear h0
  go_enter Try.func16, Try.ntmps16
  go_upto_region 1 with (fail)
  replace hB0 := Lib.hid hB0
  replace hV0 := Lib.hid hV0
  replace hX1 := Lib.hid hX1
  replace hV1 := Lib.hid hV1
  go_wp2_with (first | (refine wpl_ldm _ _ rfl (by rfl) B0 7 rfl Hj.out zPA.out Try.underlying30 rfl (by kernel_rfl) zR.out ?_))
  refine (HS.out _).mono ?_; rintro e V_33 ⟨rfl, hb_34⟩
  have H_35 : Hid (V_33.heap[B0]? = some (.cells (PA ++ R) 32 (0, 0))) := Lib.hid ((hb_34.block B0 (blk_lt Hj.out)).trans Hj.out)
  have H_36 : Hid (V_33.heap[X1]? = some (.cells Z 32 (0, 0))) := Lib.hid ((hb_34.block X1 (blk_lt Hr.out)).trans Hr.out)
  have HE_37 : Hid (Below B0 w V_33) := Lib.hid (HE.out.trans (hb_34.mono (sz_le hB0.out HE.out.size)))
  clear HE Hj Hr
  clear hb_34
  obtain ⟨X_38, hX_40⟩ : ∃ X, V_33.heap.size = X := ⟨_, rfl⟩
  obtain ⟨V_39, q_41_0, q_41_1, q_41_2, q_41_3⟩ := st_new (w := V_33) (T := 30) hX_40 zY.out zR1.out oR1.out
  have ne_43 : B0 < X_38 := hX_40 ▸ blk_lt H_35.out
  have H_42 : Hid (V_39.heap[B0]? = some (.cells (PA ++ R) 32 (0, 0))) := Lib.hid ((q_41_2 _ ne_43).trans H_35.out)
  have ne_45 : X1 < X_38 := hX_40 ▸ blk_lt H_36.out
  have H_44 : Hid (V_39.heap[X1]? = some (.cells Z 32 (0, 0))) := Lib.hid ((q_41_2 _ ne_45).trans H_36.out)
  have ge_46 : B0 ≤ X_38 := hX_40 ▸ (sz_le hB0.out HE_37.out.size)
  have HE_47 : Hid (Below B0 w V_39) := Lib.hid (q_41_3 _ _ ge_46 HE_37.out)
  have H_48 := Lib.hid q_41_1
  clear q_41_1 q_41_2 q_41_3
  go_upto_region 2 with (fail)
  clear q_41_0 hX_40
  clear HE_37 H_35 H_36
  have c6 : V_39.cell? ⟨B0, 6, none⟩ = some (.bool bg) := by rw [blk_cell H_42.out, ePA.out]; exact P_get6 _ _ _ _ _ _ _ _
  have z6 : V_39.frozen? ⟨B0, 6, none⟩ = false := blk_frozen H_42.out 6
  have Hj2 : Hid ((V_39.setCell ⟨B0, 6, none⟩ (.bool true)).heap[B0]? = some (.cells (PB ++ R) 32 (0, 0))) := Lib.hid (blk_put H_42.out 6 _ (by rw [ePA.out, ePB.out]; exact P_set a0 a1 a2 a3 _ _ bg R))
  have Hr2 : Hid ((V_39.setCell ⟨B0, 6, none⟩ (.bool true)).heap[X1]? = some (.cells Z 32 (0, 0))) := Lib.hid (blk_far H_44.out (Ne.symm n1) _)
  have Hx2 : Hid ((V_39.setCell ⟨B0, 6, none⟩ (.bool true)).heap[X_38]? = some (.cells R1 30 (0, 0))) := Lib.hid (blk_far H_48.out (Nat.ne_of_gt ne_43) _)
  have HE2 : Hid (Below B0 w (V_39.setCell ⟨B0, 6, none⟩ (.bool true))) := Lib.hid (HE_47.out.setCell (p := ⟨B0, 6, none⟩) (Nat.le_refl _) _)
  go_upto_region 3 with (fail)
  generalize (V_39.setCell ⟨B0, 6, none⟩ (.bool true)) = V4 at Hj2 Hr2 Hx2 HE2 ⊢
  clear c6 z6 H_42 H_44 H_48 HE_47
  have c5 : V4.cell? ⟨B0, 5, none⟩ = some (.bool over) := by rw [blk_cell Hj2.out, ePB.out]; exact P_get5 _ _ _ _ _ _ _ _
  have c4 : V4.cell? ⟨B0, 4, none⟩ = some (.bool false) := by rw [blk_cell Hj2.out, ePB.out]; exact P_get4 _ _ _ _ _ _ _ _
  have p0 : V4.cell? ⟨X_38, 13, none⟩ = some (.int .i64 lf) := by rw [blk_cell Hx2.out]; exact hR1.out
  have p1 : V4.frozen? ⟨X_38, 13, none⟩ = false := blk_frozen Hx2.out 13
  have Hx3 : Hid ((V4.setCell ⟨X_38, 13, none⟩ (.int .i64 0)).heap[X_38]? = some (.cells R2 30 (0, 0))) := Lib.hid (blk_put Hx2.out 13 _ hR2)
  have Hr3 : Hid ((V4.setCell ⟨X_38, 13, none⟩ (.int .i64 0)).heap[X1]? = some (.cells Z 32 (0, 0))) := Lib.hid (blk_far Hr2.out (Nat.ne_of_lt ne_45) _)
  have Hj3 : Hid ((V4.setCell ⟨X_38, 13, none⟩ (.int .i64 0)).heap[B0]? = some (.cells (PB ++ R) 32 (0, 0))) := Lib.hid (blk_far Hj2.out (Nat.ne_of_lt ne_43) _)
  have HE3 : Hid (Below B0 w (V4.setCell ⟨X_38, 13, none⟩ (.int .i64 0))) := Lib.hid (HE2.out.setCell (p := ⟨X_38, 13, none⟩) ge_46 _)
  replace hR2 := Lib.hid hR2
  go_upto_region 9 with (fail)
  generalize (V4.setCell ⟨X_38, 13, none⟩ (.int .i64 0)) = V5 at Hj3 Hr3 Hx3 HE3 ⊢
  clear p0 p1 c5 c4 Hj2 Hr2 Hx2 HE2
  obtain ⟨V6, q0, q1, q2, q3⟩ := st_mid Hj3.out zPB.out zR.out zR2.out oR2.out
  obtain ⟨J2, hJ2⟩ : ∃ J, PB ++ R2 = J := ⟨_, rfl⟩
  rw [hJ2] at q1
  have Hj6 := Lib.hid q1
  have Hr6 := Lib.hid ((q2 _ (Ne.symm n1)).trans Hr3.out)
  have HE6 := Lib.hid (q3 _ _ (Nat.le_refl B0) HE3.out)
  clear q1 q2 q3
  go_upto_region 10 with (refine wpl_ld _ _ rfl (by rfl) X_38 rfl Hx3.out Try.underlying30 rfl (by kernel_rfl) zR2.out ?_)
  clear q0
  have zJ2 : Hid (J2.size = 23) := Lib.hid (by rw [← hJ2, Array.size_append, zPB.out, zR2.out])
  have oJ2 : Hid (J2.all (·.oneCell') = true) := Lib.hid (by rw [← hJ2, Array.all_append, oPB.out, oR2.out]; rfl)
  replace hJ2 := Lib.hid hJ2
  obtain ⟨V7, q0, q1, q2, q3⟩ := st_any Hr6.out zZ.out zJ2.out oJ2.out
  have Hr7 := Lib.hid q1
  have HE7 := Lib.hid (q3 _ _ ge1 HE6.out)
  clear q1 q2 q3
  go_wp2_with (refine wpl_ld _ _ rfl (by rfl) B0 rfl Hj6.out Try.underlying32 rfl (by kernel_rfl) zJ2.out ?_)
  refine bodyPost_ret (v := .tuple #[.agg J2, .int .i64 2]) (by refine Eq.trans (rc2 (fn := Try.f16) rfl _ _ X1 ?_ Hr7.out Try.underlying32 rfl (by kernel_rfl) zJ2.out) ?_ <;> rfl) rfl ⟨?_, HE7.out⟩
  rw [← hJ2.out, ePB.out]
set_option maxRecDepth 100000 in
set_option maxHeartbeats 2000000 in
theorem js_done (w : World) (a0 a1 a2 a3 : Int) (must over bg hit : Bool) (R R1 : Array Value) (zR : R.size = 16) (zR1 : R1.size = 16) (oR1 : R1.all (·.oneCell') = true) (e1 : Int) (HS : ∀ W : World, Calls Try.prog 23 #[.agg R, .bool hit] W fun e w' => e = .returned (.tuple #[.agg R1, .int .i64 e1]) ∧ Below W.heap.size W w') (hR1 : True) (he : e1 = 4) (ho : over = false) :
    Calls Try.prog 16 #[.agg ((#[.int .i64 a0, .int .i64 a1, .int .i64 a2, .int .i64 a3, .bool must, .bool over, .bool bg] : Array Value) ++ R), .bool hit] w fun e w' => e = .returned (.tuple #[.agg ((#[.int .i64 a0, .int .i64 a1, .int .i64 a2, .int .i64 a3, .bool must, .bool over, .bool true] : Array Value) ++ R1), .int .i64 e1]) ∧ Below w.heap.size w w' := by
  subst ho
  have g4 : (e1 == 4) = true := by rw [he]; rfl
  have g2 : (e1 == 2) = false := beq_eq_false_iff_ne.mpr (by omega)
  have g3 : (e1 == 3) = false := beq_eq_false_iff_ne.mpr (by omega)
  replace he := Lib.hid he
  obtain ⟨PA, ePA⟩ : ∃ A : Array Value, A = #[.int .i64 a0, .int .i64 a1, .int .i64 a2, .int .i64 a3, .bool must, .bool false, .bool bg] := ⟨_, rfl⟩
  have zPA : Hid (PA.size = 7) := Lib.hid (by rw [ePA]; rfl)
  have oPA : Hid (PA.all (·.oneCell') = true) := Lib.hid (by rw [ePA]; simp [Value.oneCell'])
  replace ePA := Lib.hid ePA
  obtain ⟨PB, ePB⟩ : ∃ A : Array Value, A = #[.int .i64 a0, .int .i64 a1, .int .i64 a2, .int .i64 a3, .bool must, .bool false, .bool true] := ⟨_, rfl⟩
  have zPB : Hid (PB.size = 7) := Lib.hid (by rw [ePB]; rfl)
  have oPB : Hid (PB.all (·.oneCell') = true) := Lib.hid (by rw [ePB]; simp [Value.oneCell'])
  replace ePB := Lib.hid ePB
  obtain ⟨Z, eZ⟩ : ∃ A : Array Value, A = #[.int .i64 0, .int .i64 0, .int .i64 0, .int .i64 0, .bool false, .bool false, .bool false, .string ⟨#[]⟩, .int .i64 0, .int .i64 0, .int .i64 0, .int .i64 0, .int .i64 0, .int .i64 0, .int .i64 0, .int .i64 0, .int .i64 0, .int .i64 0, .int .i64 0, .int .i64 0, .int .i64 0, .bool false, .int .i64 0] := ⟨_, rfl⟩
  have zZ : Hid (Z.size = 23) := Lib.hid (by rw [eZ]; rfl)
  have oZ : Hid (Z.all (·.oneCell') = true) := Lib.hid (by rw [eZ]; simp [Value.oneCell'])
  replace eZ := Lib.hid eZ
  obtain ⟨Y, eY⟩ : ∃ A : Array Value, A = #[.string ⟨#[]⟩, .int .i64 0, .int .i64 0, .int .i64 0, .int .i64 0, .int .i64 0, .int .i64 0, .int .i64 0, .int .i64 0, .int .i64 0, .int .i64 0, .int .i64 0, .int .i64 0, .int .i64 0, .bool false, .int .i64 0] := ⟨_, rfl⟩
  have zY : Hid (Y.size = 16) := Lib.hid (by rw [eY]; rfl)
  have oY : Hid (Y.all (·.oneCell') = true) := Lib.hid (by rw [eY]; simp [Value.oneCell'])
  replace eY := Lib.hid eY
  rw [← ePA.out]
  have zJ : Hid ((PA ++ R).size = 23) := Lib.hid (by rw [Array.size_append, zPA.out, zR])
  have hz : ∀ V : World, (zeroValue 32).run Try.prog V = .ok (.agg Z) V := fun V => by rw [eZ.out]; kernel_rfl
  have hz2 : ∀ V : World, (zeroValue 30).run Try.prog V = .ok (.agg Y) V := fun V => by rw [eY.out]; kernel_rfl
  replace zR := Lib.hid zR
  replace zR1 := Lib.hid zR1
  replace oR1 := Lib.hid oR1
  replace HS := Lib.hid HS
  replace hR1 := Lib.hid hR1
  obtain ⟨B0, hB0⟩ : ∃ B, w.heap.size = B := ⟨_, rfl⟩
  rw [hB0]
  obtain ⟨V0, hV0⟩ : ∃ V, w.alloc (.cells (PA ++ R) 32) = V := ⟨_, rfl⟩
  obtain ⟨X1, hX1⟩ : ∃ X, V0.heap.size = X := ⟨_, rfl⟩
  obtain ⟨V1, hV1⟩ : ∃ V, V0.alloc (.cells Z 32) = V := ⟨_, rfl⟩
  have h0 : V0.heap[B0]? = some (.cells (PA ++ R) 32 (0, 0)) := by rw [← hV0]; exact (box_new hB0).1
  have lt1 : B0 < X1 := hX1 ▸ blk_lt h0
  have Hj : Hid (V1.heap[B0]? = some (.cells (PA ++ R) 32 (0, 0))) := Lib.hid (by rw [← hV1]; exact ((box_new hX1).2 _ lt1).trans h0)
  have Hr : Hid (V1.heap[X1]? = some (.cells Z 32 (0, 0))) := Lib.hid (by rw [← hV1]; exact (box_new hX1).1)
  have HE : Hid (Below B0 w V1) := Lib.hid (by rw [← hV1, ← hV0, ← hB0]; exact ((Below.refl _ _).alloc (Nat.le_refl _) _).alloc (by simp) _)
  have ge1 : B0 ≤ X1 := Nat.le_of_lt lt1
  have n1 : B0 ≠ X1 := Nat.ne_of_lt lt1
  clear h0
  go_enter Try.func16, Try.ntmps16
  go_upto_region 1 with (fail)
  replace hB0 := Lib.hid hB0
  replace hV0 := Lib.hid hV0
  replace hX1 := Lib.hid hX1
  replace hV1 := Lib.hid hV1
  go_wp2_with (first | (refine wpl_ldm _ _ rfl (by rfl) B0 7 rfl Hj.out zPA.out Try.underlying30 rfl (by kernel_rfl) zR.out ?_))
  refine (HS.out _).mono ?_; rintro e V_49 ⟨rfl, hb_50⟩
  have H_51 : Hid (V_49.heap[B0]? = some (.cells (PA ++ R) 32 (0, 0))) := Lib.hid ((hb_50.block B0 (blk_lt Hj.out)).trans Hj.out)
  have H_52 : Hid (V_49.heap[X1]? = some (.cells Z 32 (0, 0))) := Lib.hid ((hb_50.block X1 (blk_lt Hr.out)).trans Hr.out)
  have HE_53 : Hid (Below B0 w V_49) := Lib.hid (HE.out.trans (hb_50.mono (sz_le hB0.out HE.out.size)))
  clear HE Hj Hr
  clear hb_50
  obtain ⟨X_54, hX_56⟩ : ∃ X, V_49.heap.size = X := ⟨_, rfl⟩
  obtain ⟨V_55, q_57_0, q_57_1, q_57_2, q_57_3⟩ := st_new (w := V_49) (T := 30) hX_56 zY.out zR1.out oR1.out
  have ne_59 : B0 < X_54 := hX_56 ▸ blk_lt H_51.out
  have H_58 : Hid (V_55.heap[B0]? = some (.cells (PA ++ R) 32 (0, 0))) := Lib.hid ((q_57_2 _ ne_59).trans H_51.out)
  have ne_61 : X1 < X_54 := hX_56 ▸ blk_lt H_52.out
  have H_60 : Hid (V_55.heap[X1]? = some (.cells Z 32 (0, 0))) := Lib.hid ((q_57_2 _ ne_61).trans H_52.out)
  have ge_62 : B0 ≤ X_54 := hX_56 ▸ (sz_le hB0.out HE_53.out.size)
  have HE_63 : Hid (Below B0 w V_55) := Lib.hid (q_57_3 _ _ ge_62 HE_53.out)
  have H_64 := Lib.hid q_57_1
  clear q_57_1 q_57_2 q_57_3
  go_upto_region 2 with (fail)
  clear q_57_0 hX_56
  clear HE_53 H_51 H_52
  have c6 : V_55.cell? ⟨B0, 6, none⟩ = some (.bool bg) := by rw [blk_cell H_58.out, ePA.out]; exact P_get6 _ _ _ _ _ _ _ _
  have z6 : V_55.frozen? ⟨B0, 6, none⟩ = false := blk_frozen H_58.out 6
  have Hj2 : Hid ((V_55.setCell ⟨B0, 6, none⟩ (.bool true)).heap[B0]? = some (.cells (PB ++ R) 32 (0, 0))) := Lib.hid (blk_put H_58.out 6 _ (by rw [ePA.out, ePB.out]; exact P_set a0 a1 a2 a3 _ _ bg R))
  have Hr2 : Hid ((V_55.setCell ⟨B0, 6, none⟩ (.bool true)).heap[X1]? = some (.cells Z 32 (0, 0))) := Lib.hid (blk_far H_60.out (Ne.symm n1) _)
  have Hx2 : Hid ((V_55.setCell ⟨B0, 6, none⟩ (.bool true)).heap[X_54]? = some (.cells R1 30 (0, 0))) := Lib.hid (blk_far H_64.out (Nat.ne_of_gt ne_59) _)
  have HE2 : Hid (Below B0 w (V_55.setCell ⟨B0, 6, none⟩ (.bool true))) := Lib.hid (HE_63.out.setCell (p := ⟨B0, 6, none⟩) (Nat.le_refl _) _)
  go_upto_region 3 with (fail)
  generalize (V_55.setCell ⟨B0, 6, none⟩ (.bool true)) = V4 at Hj2 Hr2 Hx2 HE2 ⊢
  clear c6 z6 H_58 H_60 H_64 HE_63
  have c5 : V4.cell? ⟨B0, 5, none⟩ = some (.bool false) := by rw [blk_cell Hj2.out, ePB.out]; exact P_get5 _ _ _ _ _ _ _ _
  have c4 : V4.cell? ⟨B0, 4, none⟩ = some (.bool must) := by rw [blk_cell Hj2.out, ePB.out]; exact P_get4 _ _ _ _ _ _ _ _
  go_upto_region 9 with (fail)
  clear c5 c4
  obtain ⟨V6, q0, q1, q2, q3⟩ := st_mid Hj2.out zPB.out zR.out zR1.out oR1.out
  obtain ⟨J2, hJ2⟩ : ∃ J, PB ++ R1 = J := ⟨_, rfl⟩
  rw [hJ2] at q1
  have Hj6 := Lib.hid q1
  have Hr6 := Lib.hid ((q2 _ (Ne.symm n1)).trans Hr2.out)
  have HE6 := Lib.hid (q3 _ _ (Nat.le_refl B0) HE2.out)
  clear q1 q2 q3
  go_upto_region 10 with (refine wpl_ld _ _ rfl (by rfl) X_54 rfl Hx2.out Try.underlying30 rfl (by kernel_rfl) zR1.out ?_)
  clear q0
  have zJ2 : Hid (J2.size = 23) := Lib.hid (by rw [← hJ2, Array.size_append, zPB.out, zR1.out])
  have oJ2 : Hid (J2.all (·.oneCell') = true) := Lib.hid (by rw [← hJ2, Array.all_append, oPB.out, oR1.out]; rfl)
  replace hJ2 := Lib.hid hJ2
  obtain ⟨V7, q0, q1, q2, q3⟩ := st_any Hr6.out zZ.out zJ2.out oJ2.out
  have Hr7 := Lib.hid q1
  have HE7 := Lib.hid (q3 _ _ ge1 HE6.out)
  clear q1 q2 q3
  go_wp2_with (refine wpl_ld _ _ rfl (by rfl) B0 rfl Hj6.out Try.underlying32 rfl (by kernel_rfl) zJ2.out ?_)
  refine bodyPost_ret (v := .tuple #[.agg J2, .int .i64 e1]) (by refine Eq.trans (rc2 (fn := Try.f16) rfl _ _ X1 ?_ Hr7.out Try.underlying32 rfl (by kernel_rfl) zJ2.out) ?_ <;> rfl) rfl ⟨?_, HE7.out⟩
  rw [← hJ2.out, ePB.out]
set_option maxRecDepth 100000 in
set_option maxHeartbeats 2000000 in
theorem js_runs (w : World) (a0 a1 a2 a3 : Int) (must over bg hit : Bool) (R R1 : Array Value) (zR : R.size = 16) (zR1 : R1.size = 16) (oR1 : R1.all (·.oneCell') = true) (e1 : Int) (HS : ∀ W : World, Calls Try.prog 23 #[.agg R, .bool hit] W fun e w' => e = .returned (.tuple #[.agg R1, .int .i64 e1]) ∧ Below W.heap.size W w') (hR1 : True) (he : ¬ e1 = 4) (h2 : ¬ e1 = 2) (h3 : ¬ e1 = 3) :
    Calls Try.prog 16 #[.agg ((#[.int .i64 a0, .int .i64 a1, .int .i64 a2, .int .i64 a3, .bool must, .bool over, .bool bg] : Array Value) ++ R), .bool hit] w fun e w' => e = .returned (.tuple #[.agg ((#[.int .i64 a0, .int .i64 a1, .int .i64 a2, .int .i64 a3, .bool must, .bool over, .bool true] : Array Value) ++ R1), .int .i64 e1]) ∧ Below w.heap.size w w' := by
  have g4 : (e1 == 4) = false := beq_eq_false_iff_ne.mpr (by omega)
  have g2 : (e1 == 2) = false := beq_eq_false_iff_ne.mpr (by omega)
  have g3 : (e1 == 3) = false := beq_eq_false_iff_ne.mpr (by omega)
  clear he h2 h3
  obtain ⟨PA, ePA⟩ : ∃ A : Array Value, A = #[.int .i64 a0, .int .i64 a1, .int .i64 a2, .int .i64 a3, .bool must, .bool over, .bool bg] := ⟨_, rfl⟩
  have zPA : Hid (PA.size = 7) := Lib.hid (by rw [ePA]; rfl)
  have oPA : Hid (PA.all (·.oneCell') = true) := Lib.hid (by rw [ePA]; simp [Value.oneCell'])
  replace ePA := Lib.hid ePA
  obtain ⟨PB, ePB⟩ : ∃ A : Array Value, A = #[.int .i64 a0, .int .i64 a1, .int .i64 a2, .int .i64 a3, .bool must, .bool over, .bool true] := ⟨_, rfl⟩
  have zPB : Hid (PB.size = 7) := Lib.hid (by rw [ePB]; rfl)
  have oPB : Hid (PB.all (·.oneCell') = true) := Lib.hid (by rw [ePB]; simp [Value.oneCell'])
  replace ePB := Lib.hid ePB
  obtain ⟨Z, eZ⟩ : ∃ A : Array Value, A = #[.int .i64 0, .int .i64 0, .int .i64 0, .int .i64 0, .bool false, .bool false, .bool false, .string ⟨#[]⟩, .int .i64 0, .int .i64 0, .int .i64 0, .int .i64 0, .int .i64 0, .int .i64 0, .int .i64 0, .int .i64 0, .int .i64 0, .int .i64 0, .int .i64 0, .int .i64 0, .int .i64 0, .bool false, .int .i64 0] := ⟨_, rfl⟩
  have zZ : Hid (Z.size = 23) := Lib.hid (by rw [eZ]; rfl)
  have oZ : Hid (Z.all (·.oneCell') = true) := Lib.hid (by rw [eZ]; simp [Value.oneCell'])
  replace eZ := Lib.hid eZ
  obtain ⟨Y, eY⟩ : ∃ A : Array Value, A = #[.string ⟨#[]⟩, .int .i64 0, .int .i64 0, .int .i64 0, .int .i64 0, .int .i64 0, .int .i64 0, .int .i64 0, .int .i64 0, .int .i64 0, .int .i64 0, .int .i64 0, .int .i64 0, .int .i64 0, .bool false, .int .i64 0] := ⟨_, rfl⟩
  have zY : Hid (Y.size = 16) := Lib.hid (by rw [eY]; rfl)
  have oY : Hid (Y.all (·.oneCell') = true) := Lib.hid (by rw [eY]; simp [Value.oneCell'])
  replace eY := Lib.hid eY
  rw [← ePA.out]
  have zJ : Hid ((PA ++ R).size = 23) := Lib.hid (by rw [Array.size_append, zPA.out, zR])
  have hz : ∀ V : World, (zeroValue 32).run Try.prog V = .ok (.agg Z) V := fun V => by rw [eZ.out]; kernel_rfl
  have hz2 : ∀ V : World, (zeroValue 30).run Try.prog V = .ok (.agg Y) V := fun V => by rw [eY.out]; kernel_rfl
  replace zR := Lib.hid zR
  replace zR1 := Lib.hid zR1
  replace oR1 := Lib.hid oR1
  replace HS := Lib.hid HS
  replace hR1 := Lib.hid hR1
  obtain ⟨B0, hB0⟩ : ∃ B, w.heap.size = B := ⟨_, rfl⟩
  rw [hB0]
  obtain ⟨V0, hV0⟩ : ∃ V, w.alloc (.cells (PA ++ R) 32) = V := ⟨_, rfl⟩
  obtain ⟨X1, hX1⟩ : ∃ X, V0.heap.size = X := ⟨_, rfl⟩
  obtain ⟨V1, hV1⟩ : ∃ V, V0.alloc (.cells Z 32) = V := ⟨_, rfl⟩
  have h0 : V0.heap[B0]? = some (.cells (PA ++ R) 32 (0, 0)) := by rw [← hV0]; exact (box_new hB0).1
  have lt1 : B0 < X1 := hX1 ▸ blk_lt h0
  have Hj : Hid (V1.heap[B0]? = some (.cells (PA ++ R) 32 (0, 0))) := Lib.hid (by rw [← hV1]; exact ((box_new hX1).2 _ lt1).trans h0)
  have Hr : Hid (V1.heap[X1]? = some (.cells Z 32 (0, 0))) := Lib.hid (by rw [← hV1]; exact (box_new hX1).1)
  have HE : Hid (Below B0 w V1) := Lib.hid (by rw [← hV1, ← hV0, ← hB0]; exact ((Below.refl _ _).alloc (Nat.le_refl _) _).alloc (by simp) _)
  have ge1 : B0 ≤ X1 := Nat.le_of_lt lt1
  have n1 : B0 ≠ X1 := Nat.ne_of_lt lt1
  clear h0
  go_enter Try.func16, Try.ntmps16
  go_upto_region 1 with (fail)
  replace hB0 := Lib.hid hB0
  replace hV0 := Lib.hid hV0
  replace hX1 := Lib.hid hX1
  replace hV1 := Lib.hid hV1
  go_wp2_with (first | (refine wpl_ldm _ _ rfl (by rfl) B0 7 rfl Hj.out zPA.out Try.underlying30 rfl (by kernel_rfl) zR.out ?_))
  refine (HS.out _).mono ?_; rintro e V_65 ⟨rfl, hb_66⟩
  have H_67 : Hid (V_65.heap[B0]? = some (.cells (PA ++ R) 32 (0, 0))) := Lib.hid ((hb_66.block B0 (blk_lt Hj.out)).trans Hj.out)
  have H_68 : Hid (V_65.heap[X1]? = some (.cells Z 32 (0, 0))) := Lib.hid ((hb_66.block X1 (blk_lt Hr.out)).trans Hr.out)
  have HE_69 : Hid (Below B0 w V_65) := Lib.hid (HE.out.trans (hb_66.mono (sz_le hB0.out HE.out.size)))
  clear HE Hj Hr
  clear hb_66
  obtain ⟨X_70, hX_72⟩ : ∃ X, V_65.heap.size = X := ⟨_, rfl⟩
  obtain ⟨V_71, q_73_0, q_73_1, q_73_2, q_73_3⟩ := st_new (w := V_65) (T := 30) hX_72 zY.out zR1.out oR1.out
  have ne_75 : B0 < X_70 := hX_72 ▸ blk_lt H_67.out
  have H_74 : Hid (V_71.heap[B0]? = some (.cells (PA ++ R) 32 (0, 0))) := Lib.hid ((q_73_2 _ ne_75).trans H_67.out)
  have ne_77 : X1 < X_70 := hX_72 ▸ blk_lt H_68.out
  have H_76 : Hid (V_71.heap[X1]? = some (.cells Z 32 (0, 0))) := Lib.hid ((q_73_2 _ ne_77).trans H_68.out)
  have ge_78 : B0 ≤ X_70 := hX_72 ▸ (sz_le hB0.out HE_69.out.size)
  have HE_79 : Hid (Below B0 w V_71) := Lib.hid (q_73_3 _ _ ge_78 HE_69.out)
  have H_80 := Lib.hid q_73_1
  clear q_73_1 q_73_2 q_73_3
  go_upto_region 2 with (fail)
  clear q_73_0 hX_72
  clear HE_69 H_67 H_68
  have c6 : V_71.cell? ⟨B0, 6, none⟩ = some (.bool bg) := by rw [blk_cell H_74.out, ePA.out]; exact P_get6 _ _ _ _ _ _ _ _
  have z6 : V_71.frozen? ⟨B0, 6, none⟩ = false := blk_frozen H_74.out 6
  have Hj2 : Hid ((V_71.setCell ⟨B0, 6, none⟩ (.bool true)).heap[B0]? = some (.cells (PB ++ R) 32 (0, 0))) := Lib.hid (blk_put H_74.out 6 _ (by rw [ePA.out, ePB.out]; exact P_set a0 a1 a2 a3 _ _ bg R))
  have Hr2 : Hid ((V_71.setCell ⟨B0, 6, none⟩ (.bool true)).heap[X1]? = some (.cells Z 32 (0, 0))) := Lib.hid (blk_far H_76.out (Ne.symm n1) _)
  have Hx2 : Hid ((V_71.setCell ⟨B0, 6, none⟩ (.bool true)).heap[X_70]? = some (.cells R1 30 (0, 0))) := Lib.hid (blk_far H_80.out (Nat.ne_of_gt ne_75) _)
  have HE2 : Hid (Below B0 w (V_71.setCell ⟨B0, 6, none⟩ (.bool true))) := Lib.hid (HE_79.out.setCell (p := ⟨B0, 6, none⟩) (Nat.le_refl _) _)
  go_upto_region 3 with (fail)
  generalize (V_71.setCell ⟨B0, 6, none⟩ (.bool true)) = V4 at Hj2 Hr2 Hx2 HE2 ⊢
  clear c6 z6 H_74 H_76 H_80 HE_79
  have c5 : V4.cell? ⟨B0, 5, none⟩ = some (.bool over) := by rw [blk_cell Hj2.out, ePB.out]; exact P_get5 _ _ _ _ _ _ _ _
  have c4 : V4.cell? ⟨B0, 4, none⟩ = some (.bool must) := by rw [blk_cell Hj2.out, ePB.out]; exact P_get4 _ _ _ _ _ _ _ _
  go_upto_region 9 with (fail)
  clear c5 c4
  obtain ⟨V6, q0, q1, q2, q3⟩ := st_mid Hj2.out zPB.out zR.out zR1.out oR1.out
  obtain ⟨J2, hJ2⟩ : ∃ J, PB ++ R1 = J := ⟨_, rfl⟩
  rw [hJ2] at q1
  have Hj6 := Lib.hid q1
  have Hr6 := Lib.hid ((q2 _ (Ne.symm n1)).trans Hr2.out)
  have HE6 := Lib.hid (q3 _ _ (Nat.le_refl B0) HE2.out)
  clear q1 q2 q3
  go_upto_region 10 with (refine wpl_ld _ _ rfl (by rfl) X_70 rfl Hx2.out Try.underlying30 rfl (by kernel_rfl) zR1.out ?_)
  clear q0
  have zJ2 : Hid (J2.size = 23) := Lib.hid (by rw [← hJ2, Array.size_append, zPB.out, zR1.out])
  have oJ2 : Hid (J2.all (·.oneCell') = true) := Lib.hid (by rw [← hJ2, Array.all_append, oPB.out, oR1.out]; rfl)
  replace hJ2 := Lib.hid hJ2
  obtain ⟨V7, q0, q1, q2, q3⟩ := st_any Hr6.out zZ.out zJ2.out oJ2.out
  have Hr7 := Lib.hid q1
  have HE7 := Lib.hid (q3 _ _ ge1 HE6.out)
  clear q1 q2 q3
  go_wp2_with (refine wpl_ld _ _ rfl (by rfl) B0 rfl Hj6.out Try.underlying32 rfl (by kernel_rfl) zJ2.out ?_)
  refine bodyPost_ret (v := .tuple #[.agg J2, .int .i64 e1]) (by refine Eq.trans (rc2 (fn := Try.f16) rfl _ _ X1 ?_ Hr7.out Try.underlying32 rfl (by kernel_rfl) zJ2.out) ?_ <;> rfl) rfl ⟨?_, HE7.out⟩
  rw [← hJ2.out, ePB.out]
set_option maxRecDepth 100000 in
set_option maxHeartbeats 2000000 in
theorem js_fail2 (w : World) (a0 a1 a2 a3 : Int) (must over bg hit : Bool) (R R1 : Array Value) (zR : R.size = 16) (zR1 : R1.size = 16) (oR1 : R1.all (·.oneCell') = true) (e1 : Int) (HS : ∀ W : World, Calls Try.prog 23 #[.agg R, .bool hit] W fun e w' => e = .returned (.tuple #[.agg R1, .int .i64 e1]) ∧ Below W.heap.size W w') (hR1 : True) (he : e1 = 2) (ho : must = true) :
    Calls Try.prog 16 #[.agg ((#[.int .i64 a0, .int .i64 a1, .int .i64 a2, .int .i64 a3, .bool must, .bool over, .bool bg] : Array Value) ++ R), .bool hit] w fun e w' => e = .returned (.tuple #[.agg ((#[.int .i64 a0, .int .i64 a1, .int .i64 a2, .int .i64 a3, .bool must, .bool over, .bool true] : Array Value) ++ R1), .int .i64 e1]) ∧ Below w.heap.size w w' := by
  subst ho
  have g4 : (e1 == 4) = false := beq_eq_false_iff_ne.mpr (by omega)
  have g2 : (e1 == 2) = true := by rw [he]; rfl
  replace he := Lib.hid he
  obtain ⟨PA, ePA⟩ : ∃ A : Array Value, A = #[.int .i64 a0, .int .i64 a1, .int .i64 a2, .int .i64 a3, .bool true, .bool over, .bool bg] := ⟨_, rfl⟩
  have zPA : Hid (PA.size = 7) := Lib.hid (by rw [ePA]; rfl)
  have oPA : Hid (PA.all (·.oneCell') = true) := Lib.hid (by rw [ePA]; simp [Value.oneCell'])
  replace ePA := Lib.hid ePA
  obtain ⟨PB, ePB⟩ : ∃ A : Array Value, A = #[.int .i64 a0, .int .i64 a1, .int .i64 a2, .int .i64 a3, .bool true, .bool over, .bool true] := ⟨_, rfl⟩
  have zPB : Hid (PB.size = 7) := Lib.hid (by rw [ePB]; rfl)
  have oPB : Hid (PB.all (·.oneCell') = true) := Lib.hid (by rw [ePB]; simp [Value.oneCell'])
  replace ePB := Lib.hid ePB
  obtain ⟨Z, eZ⟩ : ∃ A : Array Value, A = #[.int .i64 0, .int .i64 0, .int .i64 0, .int .i64 0, .bool false, .bool false, .bool false, .string ⟨#[]⟩, .int .i64 0, .int .i64 0, .int .i64 0, .int .i64 0, .int .i64 0, .int .i64 0, .int .i64 0, .int .i64 0, .int .i64 0, .int .i64 0, .int .i64 0, .int .i64 0, .int .i64 0, .bool false, .int .i64 0] := ⟨_, rfl⟩
  have zZ : Hid (Z.size = 23) := Lib.hid (by rw [eZ]; rfl)
  have oZ : Hid (Z.all (·.oneCell') = true) := Lib.hid (by rw [eZ]; simp [Value.oneCell'])
  replace eZ := Lib.hid eZ
  obtain ⟨Y, eY⟩ : ∃ A : Array Value, A = #[.string ⟨#[]⟩, .int .i64 0, .int .i64 0, .int .i64 0, .int .i64 0, .int .i64 0, .int .i64 0, .int .i64 0, .int .i64 0, .int .i64 0, .int .i64 0, .int .i64 0, .int .i64 0, .int .i64 0, .bool false, .int .i64 0] := ⟨_, rfl⟩
  have zY : Hid (Y.size = 16) := Lib.hid (by rw [eY]; rfl)
  have oY : Hid (Y.all (·.oneCell') = true) := Lib.hid (by rw [eY]; simp [Value.oneCell'])
  replace eY := Lib.hid eY
  rw [← ePA.out]
  have zJ : Hid ((PA ++ R).size = 23) := Lib.hid (by rw [Array.size_append, zPA.out, zR])
  have hz : ∀ V : World, (zeroValue 32).run Try.prog V = .ok (.agg Z) V := fun V => by rw [eZ.out]; kernel_rfl
  have hz2 : ∀ V : World, (zeroValue 30).run Try.prog V = .ok (.agg Y) V := fun V => by rw [eY.out]; kernel_rfl
  replace zR := Lib.hid zR
  replace zR1 := Lib.hid zR1
  replace oR1 := Lib.hid oR1
  replace HS := Lib.hid HS
  replace hR1 := Lib.hid hR1
  obtain ⟨B0, hB0⟩ : ∃ B, w.heap.size = B := ⟨_, rfl⟩
  rw [hB0]
  obtain ⟨V0, hV0⟩ : ∃ V, w.alloc (.cells (PA ++ R) 32) = V := ⟨_, rfl⟩
  obtain ⟨X1, hX1⟩ : ∃ X, V0.heap.size = X := ⟨_, rfl⟩
  obtain ⟨V1, hV1⟩ : ∃ V, V0.alloc (.cells Z 32) = V := ⟨_, rfl⟩
  have h0 : V0.heap[B0]? = some (.cells (PA ++ R) 32 (0, 0)) := by rw [← hV0]; exact (box_new hB0).1
  have lt1 : B0 < X1 := hX1 ▸ blk_lt h0
  have Hj : Hid (V1.heap[B0]? = some (.cells (PA ++ R) 32 (0, 0))) := Lib.hid (by rw [← hV1]; exact ((box_new hX1).2 _ lt1).trans h0)
  have Hr : Hid (V1.heap[X1]? = some (.cells Z 32 (0, 0))) := Lib.hid (by rw [← hV1]; exact (box_new hX1).1)
  have HE : Hid (Below B0 w V1) := Lib.hid (by rw [← hV1, ← hV0, ← hB0]; exact ((Below.refl _ _).alloc (Nat.le_refl _) _).alloc (by simp) _)
  have ge1 : B0 ≤ X1 := Nat.le_of_lt lt1
  have n1 : B0 ≠ X1 := Nat.ne_of_lt lt1
  clear h0
  go_enter Try.func16, Try.ntmps16
  go_upto_region 1 with (fail)
  replace hB0 := Lib.hid hB0
  replace hV0 := Lib.hid hV0
  replace hX1 := Lib.hid hX1
  replace hV1 := Lib.hid hV1
  go_wp2_with (first | (refine wpl_ldm _ _ rfl (by rfl) B0 7 rfl Hj.out zPA.out Try.underlying30 rfl (by kernel_rfl) zR.out ?_))
  refine (HS.out _).mono ?_; rintro e V_81 ⟨rfl, hb_82⟩
  have H_83 : Hid (V_81.heap[B0]? = some (.cells (PA ++ R) 32 (0, 0))) := Lib.hid ((hb_82.block B0 (blk_lt Hj.out)).trans Hj.out)
  have H_84 : Hid (V_81.heap[X1]? = some (.cells Z 32 (0, 0))) := Lib.hid ((hb_82.block X1 (blk_lt Hr.out)).trans Hr.out)
  have HE_85 : Hid (Below B0 w V_81) := Lib.hid (HE.out.trans (hb_82.mono (sz_le hB0.out HE.out.size)))
  clear HE Hj Hr
  clear hb_82
  obtain ⟨X_86, hX_88⟩ : ∃ X, V_81.heap.size = X := ⟨_, rfl⟩
  obtain ⟨V_87, q_89_0, q_89_1, q_89_2, q_89_3⟩ := st_new (w := V_81) (T := 30) hX_88 zY.out zR1.out oR1.out
  have ne_91 : B0 < X_86 := hX_88 ▸ blk_lt H_83.out
  have H_90 : Hid (V_87.heap[B0]? = some (.cells (PA ++ R) 32 (0, 0))) := Lib.hid ((q_89_2 _ ne_91).trans H_83.out)
  have ne_93 : X1 < X_86 := hX_88 ▸ blk_lt H_84.out
  have H_92 : Hid (V_87.heap[X1]? = some (.cells Z 32 (0, 0))) := Lib.hid ((q_89_2 _ ne_93).trans H_84.out)
  have ge_94 : B0 ≤ X_86 := hX_88 ▸ (sz_le hB0.out HE_85.out.size)
  have HE_95 : Hid (Below B0 w V_87) := Lib.hid (q_89_3 _ _ ge_94 HE_85.out)
  have H_96 := Lib.hid q_89_1
  clear q_89_1 q_89_2 q_89_3
  go_upto_region 2 with (fail)
  clear q_89_0 hX_88
  clear HE_85 H_83 H_84
  have c6 : V_87.cell? ⟨B0, 6, none⟩ = some (.bool bg) := by rw [blk_cell H_90.out, ePA.out]; exact P_get6 _ _ _ _ _ _ _ _
  have z6 : V_87.frozen? ⟨B0, 6, none⟩ = false := blk_frozen H_90.out 6
  have Hj2 : Hid ((V_87.setCell ⟨B0, 6, none⟩ (.bool true)).heap[B0]? = some (.cells (PB ++ R) 32 (0, 0))) := Lib.hid (blk_put H_90.out 6 _ (by rw [ePA.out, ePB.out]; exact P_set a0 a1 a2 a3 _ _ bg R))
  have Hr2 : Hid ((V_87.setCell ⟨B0, 6, none⟩ (.bool true)).heap[X1]? = some (.cells Z 32 (0, 0))) := Lib.hid (blk_far H_92.out (Ne.symm n1) _)
  have Hx2 : Hid ((V_87.setCell ⟨B0, 6, none⟩ (.bool true)).heap[X_86]? = some (.cells R1 30 (0, 0))) := Lib.hid (blk_far H_96.out (Nat.ne_of_gt ne_91) _)
  have HE2 : Hid (Below B0 w (V_87.setCell ⟨B0, 6, none⟩ (.bool true))) := Lib.hid (HE_95.out.setCell (p := ⟨B0, 6, none⟩) (Nat.le_refl _) _)
  go_upto_region 3 with (fail)
  generalize (V_87.setCell ⟨B0, 6, none⟩ (.bool true)) = V4 at Hj2 Hr2 Hx2 HE2 ⊢
  clear c6 z6 H_90 H_92 H_96 HE_95
  have c5 : V4.cell? ⟨B0, 5, none⟩ = some (.bool over) := by rw [blk_cell Hj2.out, ePB.out]; exact P_get5 _ _ _ _ _ _ _ _
  have c4 : V4.cell? ⟨B0, 4, none⟩ = some (.bool true) := by rw [blk_cell Hj2.out, ePB.out]; exact P_get4 _ _ _ _ _ _ _ _
  go_upto_region 9 with (fail)
  clear c5 c4
  obtain ⟨V6, q0, q1, q2, q3⟩ := st_mid Hj2.out zPB.out zR.out zR1.out oR1.out
  obtain ⟨J2, hJ2⟩ : ∃ J, PB ++ R1 = J := ⟨_, rfl⟩
  rw [hJ2] at q1
  have Hj6 := Lib.hid q1
  have Hr6 := Lib.hid ((q2 _ (Ne.symm n1)).trans Hr2.out)
  have HE6 := Lib.hid (q3 _ _ (Nat.le_refl B0) HE2.out)
  clear q1 q2 q3
  go_upto_region 10 with (refine wpl_ld _ _ rfl (by rfl) X_86 rfl Hx2.out Try.underlying30 rfl (by kernel_rfl) zR1.out ?_)
  clear q0
  have zJ2 : Hid (J2.size = 23) := Lib.hid (by rw [← hJ2, Array.size_append, zPB.out, zR1.out])
  have oJ2 : Hid (J2.all (·.oneCell') = true) := Lib.hid (by rw [← hJ2, Array.all_append, oPB.out, oR1.out]; rfl)
  replace hJ2 := Lib.hid hJ2
  obtain ⟨V7, q0, q1, q2, q3⟩ := st_any Hr6.out zZ.out zJ2.out oJ2.out
  have Hr7 := Lib.hid q1
  have HE7 := Lib.hid (q3 _ _ ge1 HE6.out)
  clear q1 q2 q3
  go_wp2_with (refine wpl_ld _ _ rfl (by rfl) B0 rfl Hj6.out Try.underlying32 rfl (by kernel_rfl) zJ2.out ?_)
  refine bodyPost_ret (v := .tuple #[.agg J2, .int .i64 e1]) (by refine Eq.trans (rc2 (fn := Try.f16) rfl _ _ X1 ?_ Hr7.out Try.underlying32 rfl (by kernel_rfl) zJ2.out) ?_ <;> rfl) rfl ⟨?_, HE7.out⟩
  rw [← hJ2.out, ePB.out]
set_option maxRecDepth 100000 in
set_option maxHeartbeats 2000000 in
theorem js_fail3 (w : World) (a0 a1 a2 a3 : Int) (must over bg hit : Bool) (R R1 : Array Value) (zR : R.size = 16) (zR1 : R1.size = 16) (oR1 : R1.all (·.oneCell') = true) (e1 : Int) (HS : ∀ W : World, Calls Try.prog 23 #[.agg R, .bool hit] W fun e w' => e = .returned (.tuple #[.agg R1, .int .i64 e1]) ∧ Below W.heap.size W w') (hR1 : True) (he : e1 = 3) (ho : must = true) :
    Calls Try.prog 16 #[.agg ((#[.int .i64 a0, .int .i64 a1, .int .i64 a2, .int .i64 a3, .bool must, .bool over, .bool bg] : Array Value) ++ R), .bool hit] w fun e w' => e = .returned (.tuple #[.agg ((#[.int .i64 a0, .int .i64 a1, .int .i64 a2, .int .i64 a3, .bool must, .bool over, .bool true] : Array Value) ++ R1), .int .i64 e1]) ∧ Below w.heap.size w w' := by
  subst ho
  have g4 : (e1 == 4) = false := beq_eq_false_iff_ne.mpr (by omega)
  have g2 : (e1 == 2) = false := beq_eq_false_iff_ne.mpr (by omega)
  have g3 : (e1 == 3) = true := by rw [he]; rfl
  replace he := Lib.hid he
  obtain ⟨PA, ePA⟩ : ∃ A : Array Value, A = #[.int .i64 a0, .int .i64 a1, .int .i64 a2, .int .i64 a3, .bool true, .bool over, .bool bg] := ⟨_, rfl⟩
  have zPA : Hid (PA.size = 7) := Lib.hid (by rw [ePA]; rfl)
  have oPA : Hid (PA.all (·.oneCell') = true) := Lib.hid (by rw [ePA]; simp [Value.oneCell'])
  replace ePA := Lib.hid ePA
  obtain ⟨PB, ePB⟩ : ∃ A : Array Value, A = #[.int .i64 a0, .int .i64 a1, .int .i64 a2, .int .i64 a3, .bool true, .bool over, .bool true] := ⟨_, rfl⟩
  have zPB : Hid (PB.size = 7) := Lib.hid (by rw [ePB]; rfl)
  have oPB : Hid (PB.all (·.oneCell') = true) := Lib.hid (by rw [ePB]; simp [Value.oneCell'])
  replace ePB := Lib.hid ePB
  obtain ⟨Z, eZ⟩ : ∃ A : Array Value, A = #[.int .i64 0, .int .i64 0, .int .i64 0, .int .i64 0, .bool false, .bool false, .bool false, .string ⟨#[]⟩, .int .i64 0, .int .i64 0, .int .i64 0, .int .i64 0, .int .i64 0, .int .i64 0, .int .i64 0, .int .i64 0, .int .i64 0, .int .i64 0, .int .i64 0, .int .i64 0, .int .i64 0, .bool false, .int .i64 0] := ⟨_, rfl⟩
  have zZ : Hid (Z.size = 23) := Lib.hid (by rw [eZ]; rfl)
  have oZ : Hid (Z.all (·.oneCell') = true) := Lib.hid (by rw [eZ]; simp [Value.oneCell'])
  replace eZ := Lib.hid eZ
  obtain ⟨Y, eY⟩ : ∃ A : Array Value, A = #[.string ⟨#[]⟩, .int .i64 0, .int .i64 0, .int .i64 0, .int .i64 0, .int .i64 0, .int .i64 0, .int .i64 0, .int .i64 0, .int .i64 0, .int .i64 0, .int .i64 0, .int .i64 0, .int .i64 0, .bool false, .int .i64 0] := ⟨_, rfl⟩
  have zY : Hid (Y.size = 16) := Lib.hid (by rw [eY]; rfl)
  have oY : Hid (Y.all (·.oneCell') = true) := Lib.hid (by rw [eY]; simp [Value.oneCell'])
  replace eY := Lib.hid eY
  rw [← ePA.out]
  have zJ : Hid ((PA ++ R).size = 23) := Lib.hid (by rw [Array.size_append, zPA.out, zR])
  have hz : ∀ V : World, (zeroValue 32).run Try.prog V = .ok (.agg Z) V := fun V => by rw [eZ.out]; kernel_rfl
  have hz2 : ∀ V : World, (zeroValue 30).run Try.prog V = .ok (.agg Y) V := fun V => by rw [eY.out]; kernel_rfl
  replace zR := Lib.hid zR
  replace zR1 := Lib.hid zR1
  replace oR1 := Lib.hid oR1
  replace HS := Lib.hid HS
  replace hR1 := Lib.hid hR1
  obtain ⟨B0, hB0⟩ : ∃ B, w.heap.size = B := ⟨_, rfl⟩
  rw [hB0]
  obtain ⟨V0, hV0⟩ : ∃ V, w.alloc (.cells (PA ++ R) 32) = V := ⟨_, rfl⟩
  obtain ⟨X1, hX1⟩ : ∃ X, V0.heap.size = X := ⟨_, rfl⟩
  obtain ⟨V1, hV1⟩ : ∃ V, V0.alloc (.cells Z 32) = V := ⟨_, rfl⟩
  have h0 : V0.heap[B0]? = some (.cells (PA ++ R) 32 (0, 0)) := by rw [← hV0]; exact (box_new hB0).1
  have lt1 : B0 < X1 := hX1 ▸ blk_lt h0
  have Hj : Hid (V1.heap[B0]? = some (.cells (PA ++ R) 32 (0, 0))) := Lib.hid (by rw [← hV1]; exact ((box_new hX1).2 _ lt1).trans h0)
  have Hr : Hid (V1.heap[X1]? = some (.cells Z 32 (0, 0))) := Lib.hid (by rw [← hV1]; exact (box_new hX1).1)
  have HE : Hid (Below B0 w V1) := Lib.hid (by rw [← hV1, ← hV0, ← hB0]; exact ((Below.refl _ _).alloc (Nat.le_refl _) _).alloc (by simp) _)
  have ge1 : B0 ≤ X1 := Nat.le_of_lt lt1
  have n1 : B0 ≠ X1 := Nat.ne_of_lt lt1
  clear h0
  go_enter Try.func16, Try.ntmps16
  go_upto_region 1 with (fail)
  replace hB0 := Lib.hid hB0
  replace hV0 := Lib.hid hV0
  replace hX1 := Lib.hid hX1
  replace hV1 := Lib.hid hV1
  go_wp2_with (first | (refine wpl_ldm _ _ rfl (by rfl) B0 7 rfl Hj.out zPA.out Try.underlying30 rfl (by kernel_rfl) zR.out ?_))
  refine (HS.out _).mono ?_; rintro e V_97 ⟨rfl, hb_98⟩
  have H_99 : Hid (V_97.heap[B0]? = some (.cells (PA ++ R) 32 (0, 0))) := Lib.hid ((hb_98.block B0 (blk_lt Hj.out)).trans Hj.out)
  have H_100 : Hid (V_97.heap[X1]? = some (.cells Z 32 (0, 0))) := Lib.hid ((hb_98.block X1 (blk_lt Hr.out)).trans Hr.out)
  have HE_101 : Hid (Below B0 w V_97) := Lib.hid (HE.out.trans (hb_98.mono (sz_le hB0.out HE.out.size)))
  clear HE Hj Hr
  clear hb_98
  obtain ⟨X_102, hX_104⟩ : ∃ X, V_97.heap.size = X := ⟨_, rfl⟩
  obtain ⟨V_103, q_105_0, q_105_1, q_105_2, q_105_3⟩ := st_new (w := V_97) (T := 30) hX_104 zY.out zR1.out oR1.out
  have ne_107 : B0 < X_102 := hX_104 ▸ blk_lt H_99.out
  have H_106 : Hid (V_103.heap[B0]? = some (.cells (PA ++ R) 32 (0, 0))) := Lib.hid ((q_105_2 _ ne_107).trans H_99.out)
  have ne_109 : X1 < X_102 := hX_104 ▸ blk_lt H_100.out
  have H_108 : Hid (V_103.heap[X1]? = some (.cells Z 32 (0, 0))) := Lib.hid ((q_105_2 _ ne_109).trans H_100.out)
  have ge_110 : B0 ≤ X_102 := hX_104 ▸ (sz_le hB0.out HE_101.out.size)
  have HE_111 : Hid (Below B0 w V_103) := Lib.hid (q_105_3 _ _ ge_110 HE_101.out)
  have H_112 := Lib.hid q_105_1
  clear q_105_1 q_105_2 q_105_3
  go_upto_region 2 with (fail)
  clear q_105_0 hX_104
  clear HE_101 H_99 H_100
  have c6 : V_103.cell? ⟨B0, 6, none⟩ = some (.bool bg) := by rw [blk_cell H_106.out, ePA.out]; exact P_get6 _ _ _ _ _ _ _ _
  have z6 : V_103.frozen? ⟨B0, 6, none⟩ = false := blk_frozen H_106.out 6
  have Hj2 : Hid ((V_103.setCell ⟨B0, 6, none⟩ (.bool true)).heap[B0]? = some (.cells (PB ++ R) 32 (0, 0))) := Lib.hid (blk_put H_106.out 6 _ (by rw [ePA.out, ePB.out]; exact P_set a0 a1 a2 a3 _ _ bg R))
  have Hr2 : Hid ((V_103.setCell ⟨B0, 6, none⟩ (.bool true)).heap[X1]? = some (.cells Z 32 (0, 0))) := Lib.hid (blk_far H_108.out (Ne.symm n1) _)
  have Hx2 : Hid ((V_103.setCell ⟨B0, 6, none⟩ (.bool true)).heap[X_102]? = some (.cells R1 30 (0, 0))) := Lib.hid (blk_far H_112.out (Nat.ne_of_gt ne_107) _)
  have HE2 : Hid (Below B0 w (V_103.setCell ⟨B0, 6, none⟩ (.bool true))) := Lib.hid (HE_111.out.setCell (p := ⟨B0, 6, none⟩) (Nat.le_refl _) _)
  go_upto_region 3 with (fail)
  generalize (V_103.setCell ⟨B0, 6, none⟩ (.bool true)) = V4 at Hj2 Hr2 Hx2 HE2 ⊢
  clear c6 z6 H_106 H_108 H_112 HE_111
  have c5 : V4.cell? ⟨B0, 5, none⟩ = some (.bool over) := by rw [blk_cell Hj2.out, ePB.out]; exact P_get5 _ _ _ _ _ _ _ _
  have c4 : V4.cell? ⟨B0, 4, none⟩ = some (.bool true) := by rw [blk_cell Hj2.out, ePB.out]; exact P_get4 _ _ _ _ _ _ _ _
  go_upto_region 9 with (fail)
  clear c5 c4
  obtain ⟨V6, q0, q1, q2, q3⟩ := st_mid Hj2.out zPB.out zR.out zR1.out oR1.out
  obtain ⟨J2, hJ2⟩ : ∃ J, PB ++ R1 = J := ⟨_, rfl⟩
  rw [hJ2] at q1
  have Hj6 := Lib.hid q1
  have Hr6 := Lib.hid ((q2 _ (Ne.symm n1)).trans Hr2.out)
  have HE6 := Lib.hid (q3 _ _ (Nat.le_refl B0) HE2.out)
  clear q1 q2 q3
  go_upto_region 10 with (refine wpl_ld _ _ rfl (by rfl) X_102 rfl Hx2.out Try.underlying30 rfl (by kernel_rfl) zR1.out ?_)
  clear q0
  have zJ2 : Hid (J2.size = 23) := Lib.hid (by rw [← hJ2, Array.size_append, zPB.out, zR1.out])
  have oJ2 : Hid (J2.all (·.oneCell') = true) := Lib.hid (by rw [← hJ2, Array.all_append, oPB.out, oR1.out]; rfl)
  replace hJ2 := Lib.hid hJ2
  obtain ⟨V7, q0, q1, q2, q3⟩ := st_any Hr6.out zZ.out zJ2.out oJ2.out
  have Hr7 := Lib.hid q1
  have HE7 := Lib.hid (q3 _ _ ge1 HE6.out)
  clear q1 q2 q3
  go_wp2_with (refine wpl_ld _ _ rfl (by rfl) B0 rfl Hj6.out Try.underlying32 rfl (by kernel_rfl) zJ2.out ?_)
  refine bodyPost_ret (v := .tuple #[.agg J2, .int .i64 e1]) (by refine Eq.trans (rc2 (fn := Try.f16) rfl _ _ X1 ?_ Hr7.out Try.underlying32 rfl (by kernel_rfl) zJ2.out) ?_ <;> rfl) rfl ⟨?_, HE7.out⟩
  rw [← hJ2.out, ePB.out]
end Go.Proofs.Ytpjehbcchanmhaa.PC
