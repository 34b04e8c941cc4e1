/- The law Over, walked. -/
import Derived.Test.YtpjehbcchanmhaaLt
namespace Go.Proofs.Ytpjehbcchanmhaa.PS
open Go.RowKit Go.Proofs.Ytpjehbcchanmhaa.PC Go.Proofs.YtpjehbcchanmhaaW.PrintWords Go.Proofs.YtpjehbcchanmhaaW.PrintLast Go.Proofs.YtpjehbcchanmhaaW.PrintMore
set_option linter.unusedVariables false
set_option linter.unusedSimpArgs false
theorem ld_op {o : Oper} {a : Act} {w : World} (T : TypeId) (x : Operand) (ho : o.op = .load T x) (g : Nat) (hx : a.eval x = .pointer (some ⟨g, 0, none⟩)) {A : Array Value} {T' : TypeId} {n : Nat} {d : TypeDesc}
    (hg : w.heap[g]? = some (.cells A T' (0, 0))) (hu : Try.prog.underlying T = some d) (hd : d.isRow = true) (hi : (Try.prog.info? T).map (·.size) = some n) (hA : A.size = n) : (execOp a.eval o).run Try.prog w = .ok (.value (.agg A)) w := by
  have := run_loadVar_mid (P := Try.prog) w g 0 T A.toList d (fun j v hv => by rw [Nat.zero_add, blk_cell hg]; simpa using hv) hu hd (by rw [hi, ← hA]; simp)
  unfold execOp
  simp only [ho, hx, Instr.loadAt, Instr.sureAddr, Sem.run_bind, Sem.run_pure, Result.andThen_ok, this]
set_option maxRecDepth 100000 in
set_option maxHeartbeats 6000000 in
theorem over_out0 (w : World) (t : S28) (more : Int) (A : Option Addr) (l : List Bool) (cap : Nat) (hm : l.length ≤ 9223372036854775807) (c0 : decide ((400 : Int) < (l.length : Int)) = true) : Calls Try.prog 6 #[.agg (TA t), .int .u16 more, .slice A l.length cap] w fun e w' => e = .returned (.bool true) ∧ Below w.heap.size w w' := by
  obtain ⟨A0, eA0⟩ : ∃ A0, A0 = TA t := ⟨_, rfl⟩
  rw [← eA0]
  have zA0 : Hid (A0.size = 11) := Lib.hid (by rw [eA0]; rfl)
  have oA0 : Hid (A0.all (·.oneCell') = true) := Lib.hid (by rw [eA0]; exact TA_one _)
  replace eA0 := Lib.hid eA0
  obtain ⟨B0, hB0⟩ : ∃ B, w.heap.size = B := ⟨_, rfl⟩
  rw [hB0]
  obtain ⟨V0, hV0⟩ : ∃ V, w.alloc (.cells A0 28) = V := ⟨_, rfl⟩
  have Ht : Hid (V0.heap[B0]? = some (.cells A0 28 (0, 0))) := Lib.hid (by rw [← hV0]; exact (box_new hB0).1)
  have HE : Hid (Below B0 w V0) := Lib.hid (by rw [← hV0, ← hB0]; exact (Below.refl _ _).alloc (Nat.le_refl _) _)
  go_enter Try.func6, Try.ntmps6
  go_upto_region 1 with (fail)
  replace hB0 := Lib.hid hB0
  replace hV0 := Lib.hid hV0
  go_wp2_with fail
  refine (aw_c _).mono ?_; rintro e V_1 ⟨rfl, hb_2⟩
  have H_3 : Hid (V_1.heap[B0]? = some (.cells A0 28 (0, 0))) := Lib.hid ((hb_2.block B0 (blk_lt Ht.out)).trans Ht.out)
  have HE_4 : Hid (Below B0 w V_1) := Lib.hid (HE.out.trans (hb_2.mono (sz_le hB0.out HE.out.size)))
  clear HE Ht
  clear hb_2
  have c_5 : V_1.cell? ⟨B0, 0, none⟩ = some (.string t.f0) := by rw [blk_cell H_3.out, eA0.out]; rfl
  go_wp2_with fail
  refine (aw_c _).mono ?_; rintro e V_6 ⟨rfl, hb_7⟩
  have H_8 : Hid (V_6.heap[B0]? = some (.cells A0 28 (0, 0))) := Lib.hid ((hb_7.block B0 (blk_lt H_3.out)).trans H_3.out)
  have HE_9 : Hid (Below B0 w V_6) := Lib.hid (HE_4.out.trans (hb_7.mono (sz_le hB0.out HE_4.out.size)))
  clear c_5
  clear HE_4 H_3
  clear hb_7
  go_wp2
  go_ret
  exact ⟨rfl, HE_9.out⟩
set_option maxRecDepth 100000 in
set_option maxHeartbeats 6000000 in
theorem over_out1 (w : World) (t : S28) (more : Int) (A : Option Addr) (l : List Bool) (cap : Nat) (hm : l.length ≤ 9223372036854775807) (c0 : decide ((400 : Int) < (l.length : Int)) = false) (c1 : decide ((60 : Int) < (t.f0.size : Int)) = true) : Calls Try.prog 6 #[.agg (TA t), .int .u16 more, .slice A l.length cap] w fun e w' => e = .returned (.bool true) ∧ Below w.heap.size w w' := by
  obtain ⟨A0, eA0⟩ : ∃ A0, A0 = TA t := ⟨_, rfl⟩
  rw [← eA0]
  have zA0 : Hid (A0.size = 11) := Lib.hid (by rw [eA0]; rfl)
  have oA0 : Hid (A0.all (·.oneCell') = true) := Lib.hid (by rw [eA0]; exact TA_one _)
  replace eA0 := Lib.hid eA0
  obtain ⟨B0, hB0⟩ : ∃ B, w.heap.size = B := ⟨_, rfl⟩
  rw [hB0]
  obtain ⟨V0, hV0⟩ : ∃ V, w.alloc (.cells A0 28) = V := ⟨_, rfl⟩
  have Ht : Hid (V0.heap[B0]? = some (.cells A0 28 (0, 0))) := Lib.hid (by rw [← hV0]; exact (box_new hB0).1)
  have HE : Hid (Below B0 w V0) := Lib.hid (by rw [← hV0, ← hB0]; exact (Below.refl _ _).alloc (Nat.le_refl _) _)
  go_enter Try.func6, Try.ntmps6
  go_upto_region 1 with (fail)
  replace hB0 := Lib.hid hB0
  replace hV0 := Lib.hid hV0
  go_wp2_with fail
  refine (aw_c _).mono ?_; rintro e V_10 ⟨rfl, hb_11⟩
  have H_12 : Hid (V_10.heap[B0]? = some (.cells A0 28 (0, 0))) := Lib.hid ((hb_11.block B0 (blk_lt Ht.out)).trans Ht.out)
  have HE_13 : Hid (Below B0 w V_10) := Lib.hid (HE.out.trans (hb_11.mono (sz_le hB0.out HE.out.size)))
  clear HE Ht
  clear hb_11
  have c_14 : V_10.cell? ⟨B0, 0, none⟩ = some (.string t.f0) := by rw [blk_cell H_12.out, eA0.out]; rfl
  go_wp2_with fail
  refine (aw_c _).mono ?_; rintro e V_15 ⟨rfl, hb_16⟩
  have H_17 : Hid (V_15.heap[B0]? = some (.cells A0 28 (0, 0))) := Lib.hid ((hb_16.block B0 (blk_lt H_12.out)).trans H_12.out)
  have HE_18 : Hid (Below B0 w V_15) := Lib.hid (HE_13.out.trans (hb_16.mono (sz_le hB0.out HE_13.out.size)))
  clear c_14
  clear HE_13 H_12
  clear hb_16
  go_wp2
  go_ret
  exact ⟨rfl, HE_18.out⟩
set_option maxRecDepth 100000 in
set_option maxHeartbeats 6000000 in
theorem over_out2 (w : World) (t : S28) (more : Int) (A : Option Addr) (l : List Bool) (cap : Nat) (hm : l.length ≤ 9223372036854775807) (c0 : decide ((400 : Int) < (l.length : Int)) = false) (c1 : decide ((60 : Int) < (t.f0.size : Int)) = false) (hr : Ev (fun k => pendulumref14_Right.f k t.f0 t.f1 t.f2 t.f3 t.f4 t.f5 t.f6 t.f7 t.f8 t.f9 t.f10) false) : Calls Try.prog 6 #[.agg (TA t), .int .u16 more, .slice A l.length cap] w fun e w' => e = .returned (.bool true) ∧ Below w.heap.size w w' := by
  obtain ⟨A0, eA0⟩ : ∃ A0, A0 = TA t := ⟨_, rfl⟩
  rw [← eA0]
  have zA0 : Hid (A0.size = 11) := Lib.hid (by rw [eA0]; rfl)
  have oA0 : Hid (A0.all (·.oneCell') = true) := Lib.hid (by rw [eA0]; exact TA_one _)
  replace eA0 := Lib.hid eA0
  obtain ⟨B0, hB0⟩ : ∃ B, w.heap.size = B := ⟨_, rfl⟩
  rw [hB0]
  obtain ⟨V0, hV0⟩ : ∃ V, w.alloc (.cells A0 28) = V := ⟨_, rfl⟩
  have Ht : Hid (V0.heap[B0]? = some (.cells A0 28 (0, 0))) := Lib.hid (by rw [← hV0]; exact (box_new hB0).1)
  have HE : Hid (Below B0 w V0) := Lib.hid (by rw [← hV0, ← hB0]; exact (Below.refl _ _).alloc (Nat.le_refl _) _)
  go_enter Try.func6, Try.ntmps6
  go_upto_region 1 with (fail)
  replace hB0 := Lib.hid hB0
  replace hV0 := Lib.hid hV0
  go_wp2_with fail
  refine (aw_c _).mono ?_; rintro e V_19 ⟨rfl, hb_20⟩
  have H_21 : Hid (V_19.heap[B0]? = some (.cells A0 28 (0, 0))) := Lib.hid ((hb_20.block B0 (blk_lt Ht.out)).trans Ht.out)
  have HE_22 : Hid (Below B0 w V_19) := Lib.hid (HE.out.trans (hb_20.mono (sz_le hB0.out HE.out.size)))
  clear HE Ht
  clear hb_20
  have c_23 : V_19.cell? ⟨B0, 0, none⟩ = some (.string t.f0) := by rw [blk_cell H_21.out, eA0.out]; rfl
  go_wp2_with (first | (refine wpl_ld _ _ rfl (by rfl) B0 rfl H_21.out Try.underlying28 rfl (by kernel_rfl) zA0.out ?_))
  refine (right14_c hr _ _ eA0.out).mono ?_; rintro e V_24 ⟨rfl, hb_25⟩
  have H_26 : Hid (V_24.heap[B0]? = some (.cells A0 28 (0, 0))) := Lib.hid ((hb_25.block B0 (blk_lt H_21.out)).trans H_21.out)
  have HE_27 : Hid (Below B0 w V_24) := Lib.hid (HE_22.out.trans (hb_25.mono (sz_le hB0.out HE_22.out.size)))
  clear c_23
  clear HE_22 H_21
  clear hb_25
  go_wp2_with fail
  refine (aw_c _).mono ?_; rintro e V_28 ⟨rfl, hb_29⟩
  have H_30 : Hid (V_28.heap[B0]? = some (.cells A0 28 (0, 0))) := Lib.hid ((hb_29.block B0 (blk_lt H_26.out)).trans H_26.out)
  have HE_31 : Hid (Below B0 w V_28) := Lib.hid (HE_27.out.trans (hb_29.mono (sz_le hB0.out HE_27.out.size)))
  clear HE_27 H_26
  clear hb_29
  go_wp2
  go_ret
  exact ⟨rfl, HE_31.out⟩
set_option maxRecDepth 100000 in
set_option maxHeartbeats 6000000 in
theorem over_out3 (w : World) (t : S28) (more : Int) (A : Option Addr) (l : List Bool) (cap : Nat) (hm : l.length ≤ 9223372036854775807) (c0 : decide ((400 : Int) < (l.length : Int)) = false) (c1 : decide ((60 : Int) < (t.f0.size : Int)) = false) (hr : Ev (fun k => pendulumref14_Right.f k t.f0 t.f1 t.f2 t.f3 t.f4 t.f5 t.f6 t.f7 t.f8 t.f9 t.f10) true) (c3 : decide (300 < t.f3) = true) : Calls Try.prog 6 #[.agg (TA t), .int .u16 more, .slice A l.length cap] w fun e w' => e = .returned (.bool true) ∧ Below w.heap.size w w' := by
  obtain ⟨A0, eA0⟩ : ∃ A0, A0 = TA t := ⟨_, rfl⟩
  rw [← eA0]
  have zA0 : Hid (A0.size = 11) := Lib.hid (by rw [eA0]; rfl)
  have oA0 : Hid (A0.all (·.oneCell') = true) := Lib.hid (by rw [eA0]; exact TA_one _)
  replace eA0 := Lib.hid eA0
  obtain ⟨B0, hB0⟩ : ∃ B, w.heap.size = B := ⟨_, rfl⟩
  rw [hB0]
  obtain ⟨V0, hV0⟩ : ∃ V, w.alloc (.cells A0 28) = V := ⟨_, rfl⟩
  have Ht : Hid (V0.heap[B0]? = some (.cells A0 28 (0, 0))) := Lib.hid (by rw [← hV0]; exact (box_new hB0).1)
  have HE : Hid (Below B0 w V0) := Lib.hid (by rw [← hV0, ← hB0]; exact (Below.refl _ _).alloc (Nat.le_refl _) _)
  go_enter Try.func6, Try.ntmps6
  go_upto_region 1 with (fail)
  replace hB0 := Lib.hid hB0
  replace hV0 := Lib.hid hV0
  go_wp2_with fail
  refine (aw_c _).mono ?_; rintro e V_32 ⟨rfl, hb_33⟩
  have H_34 : Hid (V_32.heap[B0]? = some (.cells A0 28 (0, 0))) := Lib.hid ((hb_33.block B0 (blk_lt Ht.out)).trans Ht.out)
  have HE_35 : Hid (Below B0 w V_32) := Lib.hid (HE.out.trans (hb_33.mono (sz_le hB0.out HE.out.size)))
  clear HE Ht
  clear hb_33
  have c_36 : V_32.cell? ⟨B0, 0, none⟩ = some (.string t.f0) := by rw [blk_cell H_34.out, eA0.out]; rfl
  go_wp2_with (first | (refine wpl_ld _ _ rfl (by rfl) B0 rfl H_34.out Try.underlying28 rfl (by kernel_rfl) zA0.out ?_))
  refine (right14_c hr _ _ eA0.out).mono ?_; rintro e V_37 ⟨rfl, hb_38⟩
  have H_39 : Hid (V_37.heap[B0]? = some (.cells A0 28 (0, 0))) := Lib.hid ((hb_38.block B0 (blk_lt H_34.out)).trans H_34.out)
  have HE_40 : Hid (Below B0 w V_37) := Lib.hid (HE_35.out.trans (hb_38.mono (sz_le hB0.out HE_35.out.size)))
  clear c_36
  clear HE_35 H_34
  clear hb_38
  have c_41 : V_37.cell? ⟨B0, 3, none⟩ = some (.int .i64 t.f3) := by rw [blk_cell H_39.out, eA0.out]; rfl
  have c_42 : V_37.cell? ⟨B0, 4, none⟩ = some (.int .i64 t.f4) := by rw [blk_cell H_39.out, eA0.out]; rfl
  have c_43 : V_37.cell? ⟨B0, 6, none⟩ = some (.int .i64 t.f6) := by rw [blk_cell H_39.out, eA0.out]; rfl
  go_wp2_with fail
  refine (aw_c _).mono ?_; rintro e V_44 ⟨rfl, hb_45⟩
  have H_46 : Hid (V_44.heap[B0]? = some (.cells A0 28 (0, 0))) := Lib.hid ((hb_45.block B0 (blk_lt H_39.out)).trans H_39.out)
  have HE_47 : Hid (Below B0 w V_44) := Lib.hid (HE_40.out.trans (hb_45.mono (sz_le hB0.out HE_40.out.size)))
  clear c_41 c_42 c_43
  clear HE_40 H_39
  clear hb_45
  go_wp2
  go_ret
  exact ⟨rfl, HE_47.out⟩
set_option maxRecDepth 100000 in
set_option maxHeartbeats 6000000 in
theorem over_out4 (w : World) (t : S28) (more : Int) (A : Option Addr) (l : List Bool) (cap : Nat) (hm : l.length ≤ 9223372036854775807) (c0 : decide ((400 : Int) < (l.length : Int)) = false) (c1 : decide ((60 : Int) < (t.f0.size : Int)) = false) (hr : Ev (fun k => pendulumref14_Right.f k t.f0 t.f1 t.f2 t.f3 t.f4 t.f5 t.f6 t.f7 t.f8 t.f9 t.f10) true) (c3 : decide (300 < t.f3) = false) (c4 : decide (300 < t.f4) = true) : Calls Try.prog 6 #[.agg (TA t), .int .u16 more, .slice A l.length cap] w fun e w' => e = .returned (.bool true) ∧ Below w.heap.size w w' := by
  obtain ⟨A0, eA0⟩ : ∃ A0, A0 = TA t := ⟨_, rfl⟩
  rw [← eA0]
  have zA0 : Hid (A0.size = 11) := Lib.hid (by rw [eA0]; rfl)
  have oA0 : Hid (A0.all (·.oneCell') = true) := Lib.hid (by rw [eA0]; exact TA_one _)
  replace eA0 := Lib.hid eA0
  obtain ⟨B0, hB0⟩ : ∃ B, w.heap.size = B := ⟨_, rfl⟩
  rw [hB0]
  obtain ⟨V0, hV0⟩ : ∃ V, w.alloc (.cells A0 28) = V := ⟨_, rfl⟩
  have Ht : Hid (V0.heap[B0]? = some (.cells A0 28 (0, 0))) := Lib.hid (by rw [← hV0]; exact (box_new hB0).1)
  have HE : Hid (Below B0 w V0) := Lib.hid (by rw [← hV0, ← hB0]; exact (Below.refl _ _).alloc (Nat.le_refl _) _)
  go_enter Try.func6, Try.ntmps6
  go_upto_region 1 with (fail)
  replace hB0 := Lib.hid hB0
  replace hV0 := Lib.hid hV0
  go_wp2_with fail
  refine (aw_c _).mono ?_; rintro e V_48 ⟨rfl, hb_49⟩
  have H_50 : Hid (V_48.heap[B0]? = some (.cells A0 28 (0, 0))) := Lib.hid ((hb_49.block B0 (blk_lt Ht.out)).trans Ht.out)
  have HE_51 : Hid (Below B0 w V_48) := Lib.hid (HE.out.trans (hb_49.mono (sz_le hB0.out HE.out.size)))
  clear HE Ht
  clear hb_49
  have c_52 : V_48.cell? ⟨B0, 0, none⟩ = some (.string t.f0) := by rw [blk_cell H_50.out, eA0.out]; rfl
  go_wp2_with (first | (refine wpl_ld _ _ rfl (by rfl) B0 rfl H_50.out Try.underlying28 rfl (by kernel_rfl) zA0.out ?_))
  refine (right14_c hr _ _ eA0.out).mono ?_; rintro e V_53 ⟨rfl, hb_54⟩
  have H_55 : Hid (V_53.heap[B0]? = some (.cells A0 28 (0, 0))) := Lib.hid ((hb_54.block B0 (blk_lt H_50.out)).trans H_50.out)
  have HE_56 : Hid (Below B0 w V_53) := Lib.hid (HE_51.out.trans (hb_54.mono (sz_le hB0.out HE_51.out.size)))
  clear c_52
  clear HE_51 H_50
  clear hb_54
  have c_57 : V_53.cell? ⟨B0, 3, none⟩ = some (.int .i64 t.f3) := by rw [blk_cell H_55.out, eA0.out]; rfl
  have c_58 : V_53.cell? ⟨B0, 4, none⟩ = some (.int .i64 t.f4) := by rw [blk_cell H_55.out, eA0.out]; rfl
  have c_59 : V_53.cell? ⟨B0, 6, none⟩ = some (.int .i64 t.f6) := by rw [blk_cell H_55.out, eA0.out]; rfl
  go_wp2_with fail
  refine (aw_c _).mono ?_; rintro e V_60 ⟨rfl, hb_61⟩
  have H_62 : Hid (V_60.heap[B0]? = some (.cells A0 28 (0, 0))) := Lib.hid ((hb_61.block B0 (blk_lt H_55.out)).trans H_55.out)
  have HE_63 : Hid (Below B0 w V_60) := Lib.hid (HE_56.out.trans (hb_61.mono (sz_le hB0.out HE_56.out.size)))
  clear c_57 c_58 c_59
  clear HE_56 H_55
  clear hb_61
  go_wp2
  go_ret
  exact ⟨rfl, HE_63.out⟩
set_option maxRecDepth 100000 in
set_option maxHeartbeats 6000000 in
theorem over_out5 (w : World) (t : S28) (more : Int) (A : Option Addr) (l : List Bool) (cap : Nat) (hm : l.length ≤ 9223372036854775807) (c0 : decide ((400 : Int) < (l.length : Int)) = false) (c1 : decide ((60 : Int) < (t.f0.size : Int)) = false) (hr : Ev (fun k => pendulumref14_Right.f k t.f0 t.f1 t.f2 t.f3 t.f4 t.f5 t.f6 t.f7 t.f8 t.f9 t.f10) true) (c3 : decide (300 < t.f3) = false) (c4 : decide (300 < t.f4) = false) (c5 : decide (300 < t.f6) = true) : Calls Try.prog 6 #[.agg (TA t), .int .u16 more, .slice A l.length cap] w fun e w' => e = .returned (.bool true) ∧ Below w.heap.size w w' := by
  obtain ⟨A0, eA0⟩ : ∃ A0, A0 = TA t := ⟨_, rfl⟩
  rw [← eA0]
  have zA0 : Hid (A0.size = 11) := Lib.hid (by rw [eA0]; rfl)
  have oA0 : Hid (A0.all (·.oneCell') = true) := Lib.hid (by rw [eA0]; exact TA_one _)
  replace eA0 := Lib.hid eA0
  obtain ⟨B0, hB0⟩ : ∃ B, w.heap.size = B := ⟨_, rfl⟩
  rw [hB0]
  obtain ⟨V0, hV0⟩ : ∃ V, w.alloc (.cells A0 28) = V := ⟨_, rfl⟩
  have Ht : Hid (V0.heap[B0]? = some (.cells A0 28 (0, 0))) := Lib.hid (by rw [← hV0]; exact (box_new hB0).1)
  have HE : Hid (Below B0 w V0) := Lib.hid (by rw [← hV0, ← hB0]; exact (Below.refl _ _).alloc (Nat.le_refl _) _)
  go_enter Try.func6, Try.ntmps6
  go_upto_region 1 with (fail)
  replace hB0 := Lib.hid hB0
  replace hV0 := Lib.hid hV0
  go_wp2_with fail
  refine (aw_c _).mono ?_; rintro e V_64 ⟨rfl, hb_65⟩
  have H_66 : Hid (V_64.heap[B0]? = some (.cells A0 28 (0, 0))) := Lib.hid ((hb_65.block B0 (blk_lt Ht.out)).trans Ht.out)
  have HE_67 : Hid (Below B0 w V_64) := Lib.hid (HE.out.trans (hb_65.mono (sz_le hB0.out HE.out.size)))
  clear HE Ht
  clear hb_65
  have c_68 : V_64.cell? ⟨B0, 0, none⟩ = some (.string t.f0) := by rw [blk_cell H_66.out, eA0.out]; rfl
  go_wp2_with (first | (refine wpl_ld _ _ rfl (by rfl) B0 rfl H_66.out Try.underlying28 rfl (by kernel_rfl) zA0.out ?_))
  refine (right14_c hr _ _ eA0.out).mono ?_; rintro e V_69 ⟨rfl, hb_70⟩
  have H_71 : Hid (V_69.heap[B0]? = some (.cells A0 28 (0, 0))) := Lib.hid ((hb_70.block B0 (blk_lt H_66.out)).trans H_66.out)
  have HE_72 : Hid (Below B0 w V_69) := Lib.hid (HE_67.out.trans (hb_70.mono (sz_le hB0.out HE_67.out.size)))
  clear c_68
  clear HE_67 H_66
  clear hb_70
  have c_73 : V_69.cell? ⟨B0, 3, none⟩ = some (.int .i64 t.f3) := by rw [blk_cell H_71.out, eA0.out]; rfl
  have c_74 : V_69.cell? ⟨B0, 4, none⟩ = some (.int .i64 t.f4) := by rw [blk_cell H_71.out, eA0.out]; rfl
  have c_75 : V_69.cell? ⟨B0, 6, none⟩ = some (.int .i64 t.f6) := by rw [blk_cell H_71.out, eA0.out]; rfl
  go_wp2_with fail
  refine (aw_c _).mono ?_; rintro e V_76 ⟨rfl, hb_77⟩
  have H_78 : Hid (V_76.heap[B0]? = some (.cells A0 28 (0, 0))) := Lib.hid ((hb_77.block B0 (blk_lt H_71.out)).trans H_71.out)
  have HE_79 : Hid (Below B0 w V_76) := Lib.hid (HE_72.out.trans (hb_77.mono (sz_le hB0.out HE_72.out.size)))
  clear c_73 c_74 c_75
  clear HE_72 H_71
  clear hb_77
  go_wp2
  go_ret
  exact ⟨rfl, HE_79.out⟩
theorem tick_left {t : S28} {d : Int} {s u : St} {hit : Bool} (T : Tick t d s hit (u, 4)) : u.left = 0 := by
  cases T with
  | failed _ _ e1 e2 e3 e4 e5 e6 e7 e8 e9 => omega
  | done _ e1 e2 e3 e4 e5 e6 e7 e8 => exact e5
theorem tick_go {t : S28} {d : Int} {s u : St} {hit : Bool} {e : Int} (T : Tick t d s hit (u, e)) (h : ¬ e = 4) : Inv t d u ∧ s.fl ≤ u.fl ∧ u.fl ≤ s.fl + 1 := by
  cases T with
  | runs _ e1 e2 e3 e4 e5 e6 e7 => exact ⟨e2, by omega, by omega⟩
  | passed _ e1 e0 e2 e3 e4 e5 e6 e7 e8 e9 => exact ⟨e3, by omega, by omega⟩
  | failed _ _ e1 e2 e3 e4 e5 e6 e7 e8 e9 => exact ⟨e4, by omega, by omega⟩
  | done _ e1 e2 e3 e4 e5 e6 e7 e8 => exact absurd rfl h
def OI (t : S28) (d : Int) (w : World) (B0 Xa Xb : Nat) (n : Int) (wr : World) : Prop := ∃ s bg Ja Jb, Ja = JP 0 3 9 (9 + t.f2) true true bg ++ RA t d s ∧ Jb = JP 0 3 9 (9 + t.f2) true false bg ++ RA t d s ∧ wr.heap[Xa]? = some (.cells Ja 32 (0, 0)) ∧ wr.heap[Xb]? = some (.cells Jb 32 (0, 0)) ∧ Below B0 w wr ∧ Inv t d s ∧ 0 ≤ s.fl ∧ s.fl ≤ n
set_option maxRecDepth 100000 in
set_option maxHeartbeats 6000000 in
theorem over_main (w : World) (t : S28) (more : Int) (hmo : 0 ≤ more ∧ more ≤ 65535) (A : Option Addr) (l : List Bool) (cap : Nat) (hm : l.length ≤ 9223372036854775807) (c0 : decide ((400 : Int) < (l.length : Int)) = false) (c1 : decide ((60 : Int) < (t.f0.size : Int)) = false) (hr : Ev (fun k => pendulumref14_Right.f k t.f0 t.f1 t.f2 t.f3 t.f4 t.f5 t.f6 t.f7 t.f8 t.f9 t.f10) true) (c3 : decide (300 < t.f3) = false) (c4 : decide (300 < t.f4) = false) (c5 : decide (300 < t.f6) = false) (ok : OkT t) (ha : Args.Arg Value.bool w A l) : Calls Try.prog 6 #[.agg (TA t), .int .u16 more, .slice A l.length cap] w fun e w' => e = .returned (.bool true) ∧ Below w.heap.size w w' := by
  obtain ⟨Z, eZ⟩ : ∃ A : Array Value, A = #[.int .i64 0, .int .i64 0, .int .i64 0, .int .i64 0, .bool false, .bool false, .bool false, .string ⟨#[]⟩, .int .i64 0, .int .i64 0, .int .i64 0, .int .i64 0, .int .i64 0, .int .i64 0, .int .i64 0, .int .i64 0, .int .i64 0, .int .i64 0, .int .i64 0, .int .i64 0, .int .i64 0, .bool false, .int .i64 0] := ⟨_, rfl⟩
  have zZ : Hid (Z.size = 23) := Lib.hid (by rw [eZ]; rfl)
  have hzZ : ∀ V : World, (zeroValue 32).run Try.prog V = .ok (.agg Z) V := fun V => by rw [eZ]; kernel_rfl
  replace eZ := Lib.hid eZ
  obtain ⟨ZR, eZR⟩ : ∃ A : Array Value, A = #[.string ⟨#[]⟩, .int .i64 0, .int .i64 0, .int .i64 0, .int .i64 0, .int .i64 0, .int .i64 0, .int .i64 0, .int .i64 0, .int .i64 0, .int .i64 0, .int .i64 0, .int .i64 0, .int .i64 0, .bool false, .int .i64 0] := ⟨_, rfl⟩
  have zZR : Hid (ZR.size = 16) := Lib.hid (by rw [eZR]; rfl)
  have hzZR : ∀ V : World, (zeroValue 30).run Try.prog V = .ok (.agg ZR) V := fun V => by rw [eZR]; kernel_rfl
  replace eZR := Lib.hid eZR
  obtain ⟨ZS, eZS⟩ : ∃ A : Array Value, A = #[.int .i64 0, .slice none 0 0] := ⟨_, rfl⟩
  have zZS : Hid (ZS.size = 2) := Lib.hid (by rw [eZS]; rfl)
  have hzZS : ∀ V : World, (zeroValue 24).run Try.prog V = .ok (.agg ZS) V := fun V => by rw [eZS]; kernel_rfl
  replace eZS := Lib.hid eZS
  obtain ⟨A0, eA0⟩ : ∃ A0, A0 = TA t := ⟨_, rfl⟩
  rw [← eA0]
  have zA0 : Hid (A0.size = 11) := Lib.hid (by rw [eA0]; rfl)
  have oA0 : Hid (A0.all (·.oneCell') = true) := Lib.hid (by rw [eA0]; exact TA_one _)
  replace eA0 := Lib.hid eA0
  obtain ⟨B0, hB0⟩ : ∃ B, w.heap.size = B := ⟨_, rfl⟩
  rw [hB0]
  obtain ⟨V0, hV0⟩ : ∃ V, w.alloc (.cells A0 28) = V := ⟨_, rfl⟩
  have Ht : Hid (V0.heap[B0]? = some (.cells A0 28 (0, 0))) := Lib.hid (by rw [← hV0]; exact (box_new hB0).1)
  have HE : Hid (Below B0 w V0) := Lib.hid (by rw [← hV0, ← hB0]; exact (Below.refl _ _).alloc (Nat.le_refl _) _)
  go_enter Try.func6, Try.ntmps6
  go_upto_region 1 with (fail)
  replace hB0 := Lib.hid hB0
  replace hV0 := Lib.hid hV0
  go_wp2_with fail
  refine (aw_c _).mono ?_; rintro e V_80 ⟨rfl, hb_81⟩
  have H_82 : Hid (V_80.heap[B0]? = some (.cells A0 28 (0, 0))) := Lib.hid ((hb_81.block B0 (blk_lt Ht.out)).trans Ht.out)
  have HE_83 : Hid (Below B0 w V_80) := Lib.hid (HE.out.trans (hb_81.mono (sz_le hB0.out HE.out.size)))
  clear HE Ht
  clear hb_81
  have c_84 : V_80.cell? ⟨B0, 0, none⟩ = some (.string t.f0) := by rw [blk_cell H_82.out, eA0.out]; rfl
  go_wp2_with (first | (refine wpl_ld _ _ rfl (by rfl) B0 rfl H_82.out Try.underlying28 rfl (by kernel_rfl) zA0.out ?_))
  refine (right14_c hr _ _ eA0.out).mono ?_; rintro e V_85 ⟨rfl, hb_86⟩
  have H_87 : Hid (V_85.heap[B0]? = some (.cells A0 28 (0, 0))) := Lib.hid ((hb_86.block B0 (blk_lt H_82.out)).trans H_82.out)
  have HE_88 : Hid (Below B0 w V_85) := Lib.hid (HE_83.out.trans (hb_86.mono (sz_le hB0.out HE_83.out.size)))
  clear c_84
  clear HE_83 H_82
  clear hb_86
  have c_89 : V_85.cell? ⟨B0, 3, none⟩ = some (.int .i64 t.f3) := by rw [blk_cell H_87.out, eA0.out]; rfl
  have c_90 : V_85.cell? ⟨B0, 4, none⟩ = some (.int .i64 t.f4) := by rw [blk_cell H_87.out, eA0.out]; rfl
  have c_91 : V_85.cell? ⟨B0, 6, none⟩ = some (.int .i64 t.f6) := by rw [blk_cell H_87.out, eA0.out]; rfl
  go_upto_region 3 with (fail)
  clear c_89 c_90 c_91
  obtain ⟨C, hC⟩ : ∃ c, t.f3 = c := ⟨_, rfl⟩
  have hnum := ok.nums
  have hC1 : 1 ≤ C := by omega
  have hC2 : C ≤ 300 := by simpa [hC] using c3
  replace hC := Lib.hid hC
  clear hnum
  obtain ⟨X1, hX1⟩ : ∃ X, V_85.heap.size = X := ⟨_, rfl⟩
  obtain ⟨V2, hV2⟩ : ∃ V', V_85.alloc (.cells A0 28) = V' := ⟨_, rfl⟩
  have lt1 : B0 < X1 := hX1 ▸ blk_lt H_87.out
  have ge1 : B0 ≤ X1 := Nat.le_of_lt lt1
  have Ht2 : Hid (V2.heap[B0]? = some (.cells A0 28 (0, 0))) := Lib.hid (by rw [← hV2]; exact blk_alloc H_87.out _)
  have Hk2 : Hid (V2.heap[X1]? = some (.cells A0 28 (0, 0))) := Lib.hid (by rw [← hV2]; exact (box_new hX1).1)
  have HE2 : Hid (Below B0 w V2) := Lib.hid (by rw [← hV2]; exact HE_88.out.alloc (sz_le hB0.out HE_88.out.size) _)
  have hfold : Array.foldl (fun (cs : Array Value) (x : Value × Nat) => cs.setIfInBounds x.snd x.fst) #[.string ⟨#[]⟩, .int .i64 0, .int .i64 0, .int .i64 0, .int .i64 0, .int .i64 0, .int .i64 0, .int .i64 0, .int .i64 0, .int .i64 0, .int .i64 0] A0.zipIdx 0 11 = A0 := by rw [eA0.out]; simp [TA]
  obtain ⟨SS, eSS⟩ : ∃ A : Array Value, A = #[.int .i64 1, .slice (some ⟨X1, 0, none⟩) 1 1] := ⟨_, rfl⟩
  have zSS : Hid (SS.size = 2) := Lib.hid (by rw [eSS]; rfl)
  have oSS : Hid (SS.all (·.oneCell') = true) := Lib.hid (by rw [eSS]; simp [Value.oneCell'])
  replace eSS := Lib.hid eSS
  have hA11 := zA0.out
  obtain ⟨X_92, hX_94⟩ : ∃ X, V2.heap.size = X := ⟨_, rfl⟩
  obtain ⟨V_93, q_95_0, q_95_1, q_95_2, q_95_3⟩ := st_new (w := V2) (T := 24) hX_94 zZS.out zSS.out oSS.out
  have ne_97 : B0 < X_92 := hX_94 ▸ blk_lt Ht2.out
  have H_96 : Hid (V_93.heap[B0]? = some (.cells A0 28 (0, 0))) := Lib.hid ((q_95_2 _ ne_97).trans Ht2.out)
  have ne_99 : X1 < X_92 := hX_94 ▸ blk_lt Hk2.out
  have H_98 : Hid (V_93.heap[X1]? = some (.cells A0 28 (0, 0))) := Lib.hid ((q_95_2 _ ne_99).trans Hk2.out)
  have ge_100 : B0 ≤ X_92 := hX_94 ▸ (sz_le hB0.out HE2.out.size)
  have HE_101 : Hid (Below B0 w V_93) := Lib.hid (q_95_3 _ _ ge_100 HE2.out)
  have H_102 := Lib.hid q_95_1
  clear q_95_1 q_95_2 q_95_3
  go_upto_region 4 with (first | (refine wpl_ld _ _ rfl (by rfl) B0 rfl H_87.out Try.underlying28 rfl (by kernel_rfl) zA0.out ?_) | (refine wpl_bld 24 _ rfl (by rfl) (set_built X1 (by simp [go_sem]) eSS.out) ?_))
  clear q_95_0 hX_94
  clear HE2 Ht2 Hk2
  clear H_87 HE_88 hX1 hV2 hfold hA11
  obtain ⟨J, eJ⟩ : ∃ A, A = JP 0 3 9 (9 + t.f2) true true false ++ RA t C (ini t C) := ⟨_, rfl⟩
  have zJ : Hid (J.size = 23) := Lib.hid (by rw [eJ]; exact JJ_size _ _ _ _ _ _ _ _ _ _)
  have oJ : Hid (J.all (·.oneCell') = true) := Lib.hid (by rw [eJ]; exact JJ_one _ _ _ _ _ _ _ _ _ _)
  replace eJ := Lib.hid eJ
  obtain ⟨M, eM⟩ : ∃ A, A = JP 0 3 9 (9 + t.f2) true false false ++ RA t C (ini t C) := ⟨_, rfl⟩
  have zM : Hid (M.size = 23) := Lib.hid (by rw [eM]; exact JJ_size _ _ _ _ _ _ _ _ _ _)
  have oM : Hid (M.all (·.oneCell') = true) := Lib.hid (by rw [eM]; exact JJ_one _ _ _ _ _ _ _ _ _ _)
  replace eM := Lib.hid eM
  have c3' : V_93.cell? ⟨B0, 3, none⟩ = some (.int .i64 C) := by rw [blk_cell H_96.out, eA0.out, ← hC.out]; rfl
  go_wp2_with (first | (refine wpl_ld _ _ rfl (by rfl) X_92 rfl H_102.out Try.underlying24 rfl (by kernel_rfl) zSS.out ?_))
  refine (new1_c H_98.out eA0.out ok (by decide) (by decide) (by decide) (x := C + 1 + more) (n := C) (by rw [hC.out]; exact mn_cap hC1 (by omega)) (ov := true) (by rw [hC.out]; simp; omega) _ _ eSS.out eJ.out).mono ?_; rintro e V_103 ⟨rfl, hb_104⟩
  have H_105 : Hid (V_103.heap[B0]? = some (.cells A0 28 (0, 0))) := Lib.hid ((hb_104.block B0 (blk_lt H_96.out)).trans H_96.out)
  have H_106 : Hid (V_103.heap[X1]? = some (.cells A0 28 (0, 0))) := Lib.hid ((hb_104.block X1 (blk_lt H_98.out)).trans H_98.out)
  have H_107 : Hid (V_103.heap[X_92]? = some (.cells SS 24 (0, 0))) := Lib.hid ((hb_104.block X_92 (blk_lt H_102.out)).trans H_102.out)
  have HE_108 : Hid (Below B0 w V_103) := Lib.hid (HE_101.out.trans (hb_104.mono (sz_le hB0.out HE_101.out.size)))
  clear c3'
  clear HE_101 H_96 H_98 H_102
  clear hb_104
  obtain ⟨X_109, hX_111⟩ : ∃ X, V_103.heap.size = X := ⟨_, rfl⟩
  obtain ⟨V_110, q_112_0, q_112_1, q_112_2, q_112_3⟩ := st_new (w := V_103) (T := 32) hX_111 zZ.out zJ.out oJ.out
  have ne_114 : B0 < X_109 := hX_111 ▸ blk_lt H_105.out
  have H_113 : Hid (V_110.heap[B0]? = some (.cells A0 28 (0, 0))) := Lib.hid ((q_112_2 _ ne_114).trans H_105.out)
  have ne_116 : X1 < X_109 := hX_111 ▸ blk_lt H_106.out
  have H_115 : Hid (V_110.heap[X1]? = some (.cells A0 28 (0, 0))) := Lib.hid ((q_112_2 _ ne_116).trans H_106.out)
  have ne_118 : X_92 < X_109 := hX_111 ▸ blk_lt H_107.out
  have H_117 : Hid (V_110.heap[X_92]? = some (.cells SS 24 (0, 0))) := Lib.hid ((q_112_2 _ ne_118).trans H_107.out)
  have ge_119 : B0 ≤ X_109 := hX_111 ▸ (sz_le hB0.out HE_108.out.size)
  have HE_120 : Hid (Below B0 w V_110) := Lib.hid (q_112_3 _ _ ge_119 HE_108.out)
  have H_121 := Lib.hid q_112_1
  clear q_112_1 q_112_2 q_112_3
  go_upto_region 5 with (fail)
  clear q_112_0 hX_111
  clear HE_108 H_105 H_106 H_107
  have c3' : V_110.cell? ⟨B0, 3, none⟩ = some (.int .i64 C) := by rw [blk_cell H_113.out, eA0.out, ← hC.out]; rfl
  go_wp2_with (first | (refine wpl_ld _ _ rfl (by rfl) X_92 rfl H_117.out Try.underlying24 rfl (by kernel_rfl) zSS.out ?_))
  refine (new1_c H_115.out eA0.out ok (by decide) (by decide) (by decide) (x := C) (n := C) (by rw [hC.out]; exact mn_cap hC1 (by omega)) (ov := false) (by rw [hC.out]; simp) _ _ eSS.out eM.out).mono ?_; rintro e V_122 ⟨rfl, hb_123⟩
  have H_124 : Hid (V_122.heap[B0]? = some (.cells A0 28 (0, 0))) := Lib.hid ((hb_123.block B0 (blk_lt H_113.out)).trans H_113.out)
  have H_125 : Hid (V_122.heap[X1]? = some (.cells A0 28 (0, 0))) := Lib.hid ((hb_123.block X1 (blk_lt H_115.out)).trans H_115.out)
  have H_126 : Hid (V_122.heap[X_92]? = some (.cells SS 24 (0, 0))) := Lib.hid ((hb_123.block X_92 (blk_lt H_117.out)).trans H_117.out)
  have H_127 : Hid (V_122.heap[X_109]? = some (.cells J 32 (0, 0))) := Lib.hid ((hb_123.block X_109 (blk_lt H_121.out)).trans H_121.out)
  have HE_128 : Hid (Below B0 w V_122) := Lib.hid (HE_120.out.trans (hb_123.mono (sz_le hB0.out HE_120.out.size)))
  clear c3'
  clear HE_120 H_113 H_115 H_117 H_121
  clear hb_123
  obtain ⟨X_129, hX_131⟩ : ∃ X, V_122.heap.size = X := ⟨_, rfl⟩
  obtain ⟨V_130, q_132_0, q_132_1, q_132_2, q_132_3⟩ := st_new (w := V_122) (T := 32) hX_131 zZ.out zM.out oM.out
  have ne_134 : B0 < X_129 := hX_131 ▸ blk_lt H_124.out
  have H_133 : Hid (V_130.heap[B0]? = some (.cells A0 28 (0, 0))) := Lib.hid ((q_132_2 _ ne_134).trans H_124.out)
  have ne_136 : X1 < X_129 := hX_131 ▸ blk_lt H_125.out
  have H_135 : Hid (V_130.heap[X1]? = some (.cells A0 28 (0, 0))) := Lib.hid ((q_132_2 _ ne_136).trans H_125.out)
  have ne_138 : X_92 < X_129 := hX_131 ▸ blk_lt H_126.out
  have H_137 : Hid (V_130.heap[X_92]? = some (.cells SS 24 (0, 0))) := Lib.hid ((q_132_2 _ ne_138).trans H_126.out)
  have ne_140 : X_109 < X_129 := hX_131 ▸ blk_lt H_127.out
  have H_139 : Hid (V_130.heap[X_109]? = some (.cells J 32 (0, 0))) := Lib.hid ((q_132_2 _ ne_140).trans H_127.out)
  have ge_141 : B0 ≤ X_129 := hX_131 ▸ (sz_le hB0.out HE_128.out.size)
  have HE_142 : Hid (Below B0 w V_130) := Lib.hid (q_132_3 _ _ ge_141 HE_128.out)
  have H_143 := Lib.hid q_132_1
  clear q_132_1 q_132_2 q_132_3
  go_upto_region 6 with (fail)
  clear q_132_0 hX_131
  clear HE_128 H_124 H_125 H_126 H_127
  obtain ⟨R0, eR0⟩ : ∃ A, A = RA t C (ini t C) := ⟨_, rfl⟩
  have zR0 : Hid (R0.size = 16) := Lib.hid (by rw [eR0]; exact RA_size _ _ _)
  have oR0 : Hid (R0.all (·.oneCell') = true) := Lib.hid (by rw [eR0]; exact RA_one _ _ _)
  replace eR0 := Lib.hid eR0
  obtain ⟨PJ, ePJ⟩ : ∃ P, P = JP 0 3 9 (9 + t.f2) true true false := ⟨_, rfl⟩
  have zPJ : Hid (PJ.size = 7) := Lib.hid (by rw [ePJ]; rfl)
  have hJJ : Hid (PJ ++ R0 = J) := Lib.hid (by rw [ePJ, eR0.out, eJ.out])
  replace ePJ := Lib.hid ePJ
  obtain ⟨PM, ePM⟩ : ∃ P, P = JP 0 3 9 (9 + t.f2) true false false := ⟨_, rfl⟩
  have zPM : Hid (PM.size = 7) := Lib.hid (by rw [ePM]; rfl)
  have hJM : Hid (PM ++ R0 = M) := Lib.hid (by rw [ePM, eR0.out, eM.out])
  replace ePM := Lib.hid ePM
  have hrs : ∀ W : World, (binOp .neq 30 (.agg R0) (.agg R0)).run Try.prog W = .ok (.bool false) W := fun W => run_same R0 t C (ini t C) eR0.out W
  have hrg : ∀ (a b : Operand) (W : World), (eqGuard .neq 30 a b (.agg R0) (.agg R0)).run Try.prog W = .ok () W := run_guard R0
  have c5a : V_130.cell? ⟨X_109, 5, none⟩ = some (.bool true) := (blk_cell H_139.out 5).trans (by rw [eJ.out]; exact JJ_at _ _ _ _ _ _ _ _ _ _ 5 (by decide))
  have c5b : V_130.cell? ⟨X_129, 5, none⟩ = some (.bool false) := (blk_cell H_143.out 5).trans (by rw [eM.out]; exact JJ_at _ _ _ _ _ _ _ _ _ _ 5 (by decide))
  have tok1 : True := trivial
  have tok2 : True := trivial
  go_upto_region 8 with (first | (clear tok1; refine wpl_ldm _ _ rfl (by rfl) X_109 7 rfl (P := PJ) (A := R0) (by rw [hJJ.out]; exact H_139.out) zPJ.out Try.underlying30 rfl (by kernel_rfl) zR0.out ?_) | (clear tok2; refine wpl_ldm _ _ rfl (by rfl) X_129 7 rfl (P := PM) (A := R0) (by rw [hJM.out]; exact H_143.out) zPM.out Try.underlying30 rfl (by kernel_rfl) zR0.out ?_))
  clear c5a c5b
  clear hrs hrg
  have hI : Hid (OI t C w B0 X_109 X_129 0 V_130) := Lib.hid ⟨ini t C, false, J, M, eJ.out, eM.out, H_139.out, H_143.out, HE_142.out, ini_inv ok hC1, by simp [ini], by simp [ini]⟩
  replace ok := Lib.hid ok
  have hl4 : l.length ≤ 400 := by have := of_decide_eq_false c0; omega
  clear c0 c1 c3 c4 c5
  have hfa := Lib.hid ha
  clear ha
  go_wp2_with fail
  go_loopw [12] (fun i wr => ∃ k : Nat, i = .int .i64 (k : Int) ∧ k ≤ l.length ∧ OI t C w B0 X_109 X_129 (k : Int) wr) (fun i _ => l.length - (intOf i).toNat)
  case atStart => exact ⟨0, rfl, Nat.zero_le _, hI.out⟩
  case round =>
    obtain ⟨k, rfl, hk, s, bg, Ja, Jb, eJa, eJb, HJa, HJb, HE, Iv, hf0, hf1⟩ := hrel
    have zJa : Hid (Ja.size = 23) := Lib.hid (by rw [eJa]; exact JJ_size _ _ _ _ _ _ _ _ _ _)
    have zJb : Hid (Jb.size = 23) := Lib.hid (by rw [eJb]; exact JJ_size _ _ _ _ _ _ _ _ _ _)
    have oJa : Hid (Ja.all (·.oneCell') = true) := Lib.hid (by rw [eJa]; exact JJ_one _ _ _ _ _ _ _ _ _ _)
    have oJb : Hid (Jb.all (·.oneCell') = true) := Lib.hid (by rw [eJb]; exact JJ_one _ _ _ _ _ _ _ _ _ _)
    clear hI
    by_cases hlt : k < l.length
    · skip
      obtain ⟨b, off, rfl, hbw, hcell⟩ := hfa.out (by omega)
      obtain ⟨hit, hh⟩ : ∃ x, l[k]? = some x := ⟨l[k], by simp [hlt]⟩
      have hil : (k : Int) < (l.length : Int) := by omega
      have hild : decide (k < l.length) = true := by simpa using hlt
      have hCX := Lib.hid (fun (W : World) (hW : Below B0 w W) => (hW.cell (p := ⟨b, off + k, none⟩) (by rw [← hB0.out]; exact hbw)).trans (hcell k hit hh))
      clear hcell hh hbw
      obtain ⟨q, hq⟩ : ∃ q, nx t C s hit = q := ⟨_, rfl⟩
      have TK := nx_tick ok.out hC1 (by rw [hC.out]; exact Int.le_refl C) Iv hit
      rw [hq] at TK
      obtain ⟨u, e'⟩ := q
      obtain ⟨qa, hqa⟩ : ∃ q, jx true true u e' = q := ⟨_, rfl⟩
      obtain ⟨va, fa⟩ := qa
      have hqb : jx true false u e' = (u, e') := by unfold jx; simp
      obtain ⟨Ja', eJa'⟩ : ∃ A, A = JP 0 3 9 (9 + t.f2) true true true ++ RA t C va := ⟨_, rfl⟩
      have zJa' : Hid (Ja'.size = 23) := Lib.hid (by rw [eJa']; exact JJ_size _ _ _ _ _ _ _ _ _ _)
      have oJa' : Hid (Ja'.all (·.oneCell') = true) := Lib.hid (by rw [eJa']; exact JJ_one _ _ _ _ _ _ _ _ _ _)
      replace eJa' := Lib.hid eJa'
      obtain ⟨Jb', eJb'⟩ : ∃ A, A = JP 0 3 9 (9 + t.f2) true false true ++ RA t C u := ⟨_, rfl⟩
      have zJb' : Hid (Jb'.size = 23) := Lib.hid (by rw [eJb']; exact JJ_size _ _ _ _ _ _ _ _ _ _)
      have oJb' : Hid (Jb'.all (·.oneCell') = true) := Lib.hid (by rw [eJb']; exact JJ_one _ _ _ _ _ _ _ _ _ _)
      replace eJb' := Lib.hid eJb'
      have SA := Lib.hid (jstep_c ok.out hC1 (by rw [hC.out]; exact Int.le_refl C) Iv hit hf0 (by omega) hq 0 3 9 (9 + t.f2) true true bg hqa)
      have SB := Lib.hid (jstep_c ok.out hC1 (by rw [hC.out]; exact Int.le_refl C) Iv hit hf0 (by omega) hq 0 3 9 (9 + t.f2) true false bg hqb)
      replace eJa := Lib.hid eJa
      replace eJb := Lib.hid eJb
      replace HJa := Lib.hid HJa
      replace HJb := Lib.hid HJb
      replace HE := Lib.hid HE
      replace TK := Lib.hid TK
      replace Iv := Lib.hid Iv
      replace hqa := Lib.hid hqa
      clear hq hqb
      have hz := hzZ
      go_wp2_with fail
      have cxp := hCX.out wr HE.out
      refine start_ (n := 12) (S := fun w' => w'.heap[X_109]? = some (.cells Ja 32 (0, 0)) ∧ w'.cell? ⟨b, off + k, none⟩ = some (.bool hit)) (ds := []) #[false, false, false, false, false, false, false, false, false, false, false, false] (by kernel_rfl) rfl rfl ⟨HJa.out, cxp⟩ (fun hHeld => ?_)
      refine take_ (i := 0) (N := (some 101)) (v := .agg Ja) (a' := ?_) #[true, false, false, false, false, false, false, false, false, false, false, false] rfl rfl (by kernel_rfl) (fun _ _ _ h => h) (Or.inl ⟨by rfl, ?_⟩) hHeld ?_ ?_
      · rintro w' ⟨s0, s1⟩
        exact ld_op 32 _ rfl X_109 rfl s0 Try.underlying32 rfl (by kernel_rfl) zJa.out
      rotate_left
      · simp only [Act.put, List.setIfInBounds_toArray, List.set_cons_zero, List.set_cons_succ, i64_w, i32_w]
        rfl
      refine pure_ (i := 1) (N := (some 102)) (v := ?_) (a' := ?_) #[true, true, false, false, false, false, false, false, false, false, false, false] rfl rfl (by kernel_rfl) (fun _ _ _ h => h) (Or.inl ⟨by rfl, ?_⟩) ?_ ?_
      rotate_left
      · intro w'
        go_simp
        with_reducible rfl
      rotate_left
      · simp only [Act.put, List.setIfInBounds_toArray, List.set_cons_zero, List.set_cons_succ, i64_w, i32_w]
        rfl
      refine pure_ (i := 2) (N := (some 103)) (v := ?_) (a' := ?_) #[true, true, true, false, false, false, false, false, false, false, false, false] rfl rfl (by kernel_rfl) (fun _ _ _ h => h) (Or.inl ⟨by rfl, ?_⟩) ?_ ?_
      rotate_left
      · intro w'
        go_simp
        with_reducible rfl
      rotate_left
      · simp only [Act.put, List.setIfInBounds_toArray, List.set_cons_zero, List.set_cons_succ, i64_w, i32_w]
        rfl
      refine pure_ (i := 3) (N := (some 104)) (v := ?_) (a' := ?_) #[true, true, true, true, false, false, false, false, false, false, false, false] rfl rfl (by kernel_rfl) (fun _ _ _ h => h) (Or.inl ⟨by rfl, ?_⟩) ?_ ?_
      rotate_left
      · intro w'
        go_simp
        with_reducible rfl
      rotate_left
      · simp only [Act.put, List.setIfInBounds_toArray, List.set_cons_zero, List.set_cons_succ, i64_w, i32_w]
        rfl
      refine take_ (i := 4) (N := (some 105)) (v := ?_) (a' := ?_) #[true, true, true, true, true, false, false, false, false, false, false, false] rfl rfl (by kernel_rfl) (fun _ _ _ h => h) (Or.inl ⟨by rfl, ?_⟩) hHeld ?_ ?_
      rotate_left
      · rintro w' ⟨s0, s1⟩
        go_simp
        with_reducible rfl
      rotate_left
      · simp only [Act.put, List.setIfInBounds_toArray, List.set_cons_zero, List.set_cons_succ, i64_w, i32_w]
        rfl
      refine join_ (σ := Nat) 2 #[true, true, true, true, true, true, true, true, true, true, false, false] (fun s_ => [(106, .tuple #[.agg Ja', .int .i64 fa]), (13, .pointer (some ⟨s_, 0, none⟩)), (100, .tuple #[.agg Ja', .int .i64 fa]), (107, .agg Ja'), (108, .int .i64 fa)]) (fun s_ w' => w'.heap[X_109]? = some (.cells Ja 32 (0, 0)) ∧ w'.heap[X_129]? = some (.cells Jb 32 (0, 0)) ∧ w'.heap[s_]? = some (.cells Z 32 (0, 0)) ∧ B0 ≤ s_ ∧ X_109 < s_ ∧ X_129 < s_ ∧ Below B0 w w') ?_ ?_
      rotate_left
      · intro hCont
        refine two_ (i := 5) (j := 9) (Ni := some 106) (Nj := some 13) #[true, true, true, true, true, true, false, false, false, false, false, false] #[true, true, true, true, true, false, false, false, false, true, false, false] rfl rfl rfl rfl (by kernel_rfl) (by decide) (by decide) (fun K hK => ?_) (fun K hK => ?_)
        · skip
          refine goes_ Try.func16 (by kernel_rfl) rfl #[.agg Ja, .bool hit] (by rfl) rfl rfl (by (try simp only [List.map_toArray, List.map_cons, List.map_nil]); first | done | rfl) ?_
          refine (SA.out _ _ _ eJa.out eJa'.out).mono ?_
          rintro e V4 ⟨rfl, hb4⟩
          have Hp_a_4 : Hid (V4.heap[X_109]? = some (.cells Ja 32 (0, 0))) := Lib.hid ((hb4.block X_109 (blk_lt HJa.out)).trans HJa.out)
          have Hp_b_4 : Hid (V4.heap[X_129]? = some (.cells Jb 32 (0, 0))) := Lib.hid ((hb4.block X_129 (blk_lt HJb.out)).trans HJb.out)
          have HE4 : Hid (Below B0 w V4) := Lib.hid ((HE.out.drew).trans (hb4.mono (sz_le hB0.out HE.out.size)))
          refine ⟨_, rfl, ?_⟩
          refine hK.out _ _ ⟨Hp_a_4.out, hCX.out V4 HE4.out⟩ (fun hHeld => ?_)
          clear hK K
          refine norm_ (a' := ?_) ?_ ?_
          rotate_left
          · show Act.put _ (some 106) _ = _
            simp only [Act.put, List.setIfInBounds_toArray, List.set_cons_zero, List.set_cons_succ, i64_w, i32_w]
            rfl
          refine pure_ (i := 6) (N := (some 100)) (v := ?_) (a' := ?_) #[true, true, true, true, true, true, true, false, false, false, false, false] rfl rfl (by kernel_rfl) (fun _ _ _ h => h) (Or.inl ⟨by rfl, ?_⟩) ?_ ?_
          rotate_left
          · intro w'
            go_simp
            with_reducible rfl
          rotate_left
          · simp only [Act.put, List.setIfInBounds_toArray, List.set_cons_zero, List.set_cons_succ, i64_w, i32_w]
            rfl
          refine pure_ (i := 7) (N := (some 107)) (v := ?_) (a' := ?_) #[true, true, true, true, true, true, true, true, false, false, false, false] rfl rfl (by kernel_rfl) (fun _ _ _ h => h) (Or.inl ⟨by rfl, ?_⟩) ?_ ?_
          rotate_left
          · intro w'
            go_simp
            with_reducible rfl
          rotate_left
          · simp only [Act.put, List.setIfInBounds_toArray, List.set_cons_zero, List.set_cons_succ, i64_w, i32_w]
            rfl
          refine pure_ (i := 8) (N := (some 108)) (v := ?_) (a' := ?_) #[true, true, true, true, true, true, true, true, true, false, false, false] rfl rfl (by kernel_rfl) (fun _ _ _ h => h) (Or.inl ⟨by rfl, ?_⟩) ?_ ?_
          rotate_left
          · intro w'
            go_simp
            with_reducible rfl
          rotate_left
          · simp only [Act.put, List.setIfInBounds_toArray, List.set_cons_zero, List.set_cons_succ, i64_w, i32_w]
            rfl
          refine one_ (i := 9) (N := (some 13)) #[true, true, true, true, true, true, true, true, true, true, false, false] rfl rfl (by kernel_rfl) (by decide) (fun K hK => ?_)
          refine value_ (v := .pointer (some ⟨V4.heap.size, 0, none⟩)) (w1 := V4.alloc (.cells Z 32)) rfl rfl (by go_simp) ?_
          have HE6 : Hid (Below B0 w (V4.alloc (.cells Z 32))) := Lib.hid (HE4.out.alloc (sz_le hB0.out HE4.out.size) _)
          have Hp_a_6 : Hid ((V4.alloc (.cells Z 32)).heap[X_109]? = some (.cells Ja 32 (0, 0))) := Lib.hid (blk_alloc Hp_a_4.out _)
          have Hp_b_6 : Hid ((V4.alloc (.cells Z 32)).heap[X_129]? = some (.cells Jb 32 (0, 0))) := Lib.hid (blk_alloc Hp_b_4.out _)
          refine hK.out _ _ ⟨Hp_a_6.out, hCX.out _ HE6.out⟩ (fun hHeld => ?_)
          clear hK K
          refine norm_ (a' := ?_) ?_ ?_
          rotate_left
          · show Act.put _ (some 13) _ = _
            simp only [Act.put, List.setIfInBounds_toArray, List.set_cons_zero, List.set_cons_succ, i64_w, i32_w]
            rfl
          exact norm_ (by simp only [putAll, Act.put, List.setIfInBounds_toArray, List.set_cons_zero, List.set_cons_succ]) (hCont V4.heap.size _ ⟨Hp_a_6.out, Hp_b_6.out, blk_new V4 _, (sz_le hB0.out HE4.out.size), blk_lt Hp_a_4.out, blk_lt Hp_b_4.out, HE6.out⟩)
        · skip
          refine value_ (v := .pointer (some ⟨wr.heap.size, 0, none⟩)) (w1 := (wr.alloc (.cells Z 32)).drew) rfl rfl (by go_simp) ?_
          have HE4 : Hid (Below B0 w (wr.alloc (.cells Z 32)).drew) := Lib.hid ((HE.out.alloc (sz_le hB0.out HE.out.size) _).drew)
          have Hp_a_4 : Hid ((wr.alloc (.cells Z 32)).drew.heap[X_109]? = some (.cells Ja 32 (0, 0))) := Lib.hid (blk_alloc HJa.out _)
          have Hp_b_4 : Hid ((wr.alloc (.cells Z 32)).drew.heap[X_129]? = some (.cells Jb 32 (0, 0))) := Lib.hid (blk_alloc HJb.out _)
          have HZ4 : Hid ((wr.alloc (.cells Z 32)).drew.heap[wr.heap.size]? = some (.cells Z 32 (0, 0))) := Lib.hid (blk_new wr _)
          refine hK.out _ _ ⟨Hp_a_4.out, hCX.out _ HE4.out⟩ (fun hHeld => ?_)
          clear hK K
          refine norm_ (a' := ?_) ?_ ?_
          rotate_left
          · show Act.put _ (some 13) _ = _
            simp only [Act.put, List.setIfInBounds_toArray, List.set_cons_zero, List.set_cons_succ, i64_w, i32_w]
            rfl
          refine one_ (i := 5) (N := (some 106)) #[true, true, true, true, true, true, false, false, false, true, false, false] rfl rfl (by kernel_rfl) (by decide) (fun K hK => ?_)
          refine goes_ Try.func16 (by kernel_rfl) rfl #[.agg Ja, .bool hit] (by rfl) rfl rfl (by (try simp only [List.map_toArray, List.map_cons, List.map_nil]); first | done | rfl) ?_
          refine (SA.out _ _ _ eJa.out eJa'.out).mono ?_
          rintro e V4 ⟨rfl, hb4⟩
          have Hp_a_6 : Hid (V4.heap[X_109]? = some (.cells Ja 32 (0, 0))) := Lib.hid ((hb4.block X_109 (blk_lt Hp_a_4.out)).trans Hp_a_4.out)
          have Hp_b_6 : Hid (V4.heap[X_129]? = some (.cells Jb 32 (0, 0))) := Lib.hid ((hb4.block X_129 (blk_lt Hp_b_4.out)).trans Hp_b_4.out)
          have HZ6 : Hid (V4.heap[wr.heap.size]? = some (.cells Z 32 (0, 0))) := Lib.hid ((hb4.block _ (blk_lt HZ4.out)).trans HZ4.out)
          have HE6 : Hid (Below B0 w V4) := Lib.hid (HE4.out.trans (hb4.mono (sz_le hB0.out HE4.out.size)))
          refine ⟨_, rfl, ?_⟩
          refine hK.out _ _ ⟨Hp_a_6.out, hCX.out V4 HE6.out⟩ (fun hHeld => ?_)
          clear hK K
          refine norm_ (a' := ?_) ?_ ?_
          rotate_left
          · show Act.put _ (some 106) _ = _
            simp only [Act.put, List.setIfInBounds_toArray, List.set_cons_zero, List.set_cons_succ, i64_w, i32_w]
            rfl
          refine pure_ (i := 6) (N := (some 100)) (v := ?_) (a' := ?_) #[true, true, true, true, true, true, true, false, false, true, false, false] rfl rfl (by kernel_rfl) (fun _ _ _ h => h) (Or.inl ⟨by rfl, ?_⟩) ?_ ?_
          rotate_left
          · intro w'
            go_simp
            with_reducible rfl
          rotate_left
          · simp only [Act.put, List.setIfInBounds_toArray, List.set_cons_zero, List.set_cons_succ, i64_w, i32_w]
            rfl
          refine pure_ (i := 7) (N := (some 107)) (v := ?_) (a' := ?_) #[true, true, true, true, true, true, true, true, false, true, false, false] rfl rfl (by kernel_rfl) (fun _ _ _ h => h) (Or.inl ⟨by rfl, ?_⟩) ?_ ?_
          rotate_left
          · intro w'
            go_simp
            with_reducible rfl
          rotate_left
          · simp only [Act.put, List.setIfInBounds_toArray, List.set_cons_zero, List.set_cons_succ, i64_w, i32_w]
            rfl
          refine pure_ (i := 8) (N := (some 108)) (v := ?_) (a' := ?_) #[true, true, true, true, true, true, true, true, true, true, false, false] rfl rfl (by kernel_rfl) (fun _ _ _ h => h) (Or.inl ⟨by rfl, ?_⟩) ?_ ?_
          rotate_left
          · intro w'
            go_simp
            with_reducible rfl
          rotate_left
          · simp only [Act.put, List.setIfInBounds_toArray, List.set_cons_zero, List.set_cons_succ, i64_w, i32_w]
            rfl
          exact norm_ (by simp only [putAll, Act.put, List.setIfInBounds_toArray, List.set_cons_zero, List.set_cons_succ]) (hCont wr.heap.size _ ⟨Hp_a_6.out, Hp_b_6.out, HZ6.out, (sz_le hB0.out HE.out.size), blk_lt HJa.out, blk_lt HJb.out, HE6.out⟩)
      rintro Xp V4p ⟨h0, h1, hzz, gep, ltp_a, ltp_b, hbb⟩
      have Hp_a_4 := Lib.hid h0
      have Hp_b_4 := Lib.hid h1
      have HZ4 := Lib.hid hzz
      have HE4 := Lib.hid hbb
      clear hzz hbb h0 h1
      have hHeld : V4p.heap[X_109]? = some (.cells Ja 32 (0, 0)) ∧ V4p.cell? ⟨b, off + k, none⟩ = some (.bool hit) := ⟨Hp_a_4.out, hCX.out V4p HE4.out⟩
      refine norm_ (a' := ?_) ?_ ?_
      rotate_left
      · simp only [putAll, Act.put, List.setIfInBounds_toArray, List.set_cons_zero, List.set_cons_succ]
        rfl
      refine one_ (i := 10) (N := none) #[true, true, true, true, true, true, true, true, true, true, true, false] rfl rfl (by kernel_rfl) (by decide) (fun K hK => ?_)
      obtain ⟨V5p, hst, hs1, hs2, hs3⟩ := st_any HZ4.out zZ.out zJa'.out oJa'.out
      refine skip_ (w1 := V5p) rfl rfl (by have hsz := zJa'.out; go_simp) ?_
      have HX5p : Hid (V5p.heap[Xp]? = some (.cells Ja' 32 (0, 0))) := Lib.hid hs1
      have Hp_a_5 : Hid (V5p.heap[X_109]? = some (.cells Ja 32 (0, 0))) := Lib.hid ((hs2 _ (Nat.ne_of_lt ltp_a)).trans Hp_a_4.out)
      have Hp_b_5 : Hid (V5p.heap[X_129]? = some (.cells Jb 32 (0, 0))) := Lib.hid ((hs2 _ (Nat.ne_of_lt ltp_b)).trans Hp_b_4.out)
      have HE5p : Hid (Below B0 w V5p) := Lib.hid (hs3 _ _ gep HE4.out)
      refine hK.out _ _ ⟨Hp_a_5.out, hCX.out _ HE5p.out⟩ (fun hHeld => ?_)
      clear hst hs1 hs2 hs3 hK K
      refine pure_ (i := 11) (N := (some 14)) (v := ?_) (a' := ?_) #[true, true, true, true, true, true, true, true, true, true, true, true] rfl rfl (by kernel_rfl) (fun _ _ _ h => h) (Or.inl ⟨by rfl, ?_⟩) ?_ ?_
      rotate_left
      · intro w'
        go_simp
        with_reducible rfl
      rotate_left
      · simp only [Act.put, List.setIfInBounds_toArray, List.set_cons_zero, List.set_cons_succ, i64_w, i32_w]
        rfl
      refine done_ (by kernel_rfl) ?_
      clear hHeld HE4 HZ4 cxp HE HJa HJb Hp_a_4 Hp_b_4
      go_wp2_with fail
      have cxq := hCX.out V5p HE5p.out
      refine start_ (n := 12) (S := fun w' => w'.heap[X_129]? = some (.cells Jb 32 (0, 0)) ∧ w'.cell? ⟨b, off + k, none⟩ = some (.bool hit)) (ds := []) #[false, false, false, false, false, false, false, false, false, false, false, false] (by kernel_rfl) rfl rfl ⟨Hp_b_5.out, cxq⟩ (fun hHeld => ?_)
      refine take_ (i := 0) (N := (some 110)) (v := .agg Jb) (a' := ?_) #[true, false, false, false, false, false, false, false, false, false, false, false] rfl rfl (by kernel_rfl) (fun _ _ _ h => h) (Or.inl ⟨by rfl, ?_⟩) hHeld ?_ ?_
      · rintro w' ⟨s0, s1⟩
        exact ld_op 32 _ rfl X_129 rfl s0 Try.underlying32 rfl (by kernel_rfl) zJb.out
      rotate_left
      · simp only [Act.put, List.setIfInBounds_toArray, List.set_cons_zero, List.set_cons_succ, i64_w, i32_w]
        rfl
      refine pure_ (i := 1) (N := (some 111)) (v := ?_) (a' := ?_) #[true, true, false, false, false, false, false, false, false, false, false, false] rfl rfl (by kernel_rfl) (fun _ _ _ h => h) (Or.inl ⟨by rfl, ?_⟩) ?_ ?_
      rotate_left
      · intro w'
        go_simp
        with_reducible rfl
      rotate_left
      · simp only [Act.put, List.setIfInBounds_toArray, List.set_cons_zero, List.set_cons_succ, i64_w, i32_w]
        rfl
      refine pure_ (i := 2) (N := (some 112)) (v := ?_) (a' := ?_) #[true, true, true, false, false, false, false, false, false, false, false, false] rfl rfl (by kernel_rfl) (fun _ _ _ h => h) (Or.inl ⟨by rfl, ?_⟩) ?_ ?_
      rotate_left
      · intro w'
        go_simp
        with_reducible rfl
      rotate_left
      · simp only [Act.put, List.setIfInBounds_toArray, List.set_cons_zero, List.set_cons_succ, i64_w, i32_w]
        rfl
      refine pure_ (i := 3) (N := (some 113)) (v := ?_) (a' := ?_) #[true, true, true, true, false, false, false, false, false, false, false, false] rfl rfl (by kernel_rfl) (fun _ _ _ h => h) (Or.inl ⟨by rfl, ?_⟩) ?_ ?_
      rotate_left
      · intro w'
        go_simp
        with_reducible rfl
      rotate_left
      · simp only [Act.put, List.setIfInBounds_toArray, List.set_cons_zero, List.set_cons_succ, i64_w, i32_w]
        rfl
      refine take_ (i := 4) (N := (some 114)) (v := ?_) (a' := ?_) #[true, true, true, true, true, false, false, false, false, false, false, false] rfl rfl (by kernel_rfl) (fun _ _ _ h => h) (Or.inl ⟨by rfl, ?_⟩) hHeld ?_ ?_
      rotate_left
      · rintro w' ⟨s0, s1⟩
        go_simp
        with_reducible rfl
      rotate_left
      · simp only [Act.put, List.setIfInBounds_toArray, List.set_cons_zero, List.set_cons_succ, i64_w, i32_w]
        rfl
      refine join_ (σ := Nat) 2 #[true, true, true, true, true, true, true, true, true, true, false, false] (fun s_ => [(115, .tuple #[.agg Jb', .int .i64 e']), (15, .pointer (some ⟨s_, 0, none⟩)), (109, .tuple #[.agg Jb', .int .i64 e']), (116, .agg Jb'), (117, .int .i64 e')]) (fun s_ w' => w'.heap[X_109]? = some (.cells Ja 32 (0, 0)) ∧ w'.heap[X_129]? = some (.cells Jb 32 (0, 0)) ∧ w'.heap[Xp]? = some (.cells Ja' 32 (0, 0)) ∧ w'.heap[s_]? = some (.cells Z 32 (0, 0)) ∧ B0 ≤ s_ ∧ X_109 < s_ ∧ X_129 < s_ ∧ Xp < s_ ∧ Below B0 w w') ?_ ?_
      rotate_left
      · intro hCont
        refine two_ (i := 5) (j := 9) (Ni := some 115) (Nj := some 15) #[true, true, true, true, true, true, false, false, false, false, false, false] #[true, true, true, true, true, false, false, false, false, true, false, false] rfl rfl rfl rfl (by kernel_rfl) (by decide) (by decide) (fun K hK => ?_) (fun K hK => ?_)
        · skip
          refine goes_ Try.func16 (by kernel_rfl) rfl #[.agg Jb, .bool hit] (by rfl) rfl rfl (by (try simp only [List.map_toArray, List.map_cons, List.map_nil]); first | done | rfl) ?_
          refine (SB.out _ _ _ eJb.out eJb'.out).mono ?_
          rintro e V4 ⟨rfl, hb4⟩
          have Hq_a_4 : Hid (V4.heap[X_109]? = some (.cells Ja 32 (0, 0))) := Lib.hid ((hb4.block X_109 (blk_lt Hp_a_5.out)).trans Hp_a_5.out)
          have Hq_b_4 : Hid (V4.heap[X_129]? = some (.cells Jb 32 (0, 0))) := Lib.hid ((hb4.block X_129 (blk_lt Hp_b_5.out)).trans Hp_b_5.out)
          have Hq_xp_4 : Hid (V4.heap[Xp]? = some (.cells Ja' 32 (0, 0))) := Lib.hid ((hb4.block Xp (blk_lt HX5p.out)).trans HX5p.out)
          have HE4 : Hid (Below B0 w V4) := Lib.hid ((HE5p.out.drew).trans (hb4.mono (sz_le hB0.out HE5p.out.size)))
          refine ⟨_, rfl, ?_⟩
          refine hK.out _ _ ⟨Hq_b_4.out, hCX.out V4 HE4.out⟩ (fun hHeld => ?_)
          clear hK K
          refine norm_ (a' := ?_) ?_ ?_
          rotate_left
          · show Act.put _ (some 115) _ = _
            simp only [Act.put, List.setIfInBounds_toArray, List.set_cons_zero, List.set_cons_succ, i64_w, i32_w]
            rfl
          refine pure_ (i := 6) (N := (some 109)) (v := ?_) (a' := ?_) #[true, true, true, true, true, true, true, false, false, false, false, false] rfl rfl (by kernel_rfl) (fun _ _ _ h => h) (Or.inl ⟨by rfl, ?_⟩) ?_ ?_
          rotate_left
          · intro w'
            go_simp
            with_reducible rfl
          rotate_left
          · simp only [Act.put, List.setIfInBounds_toArray, List.set_cons_zero, List.set_cons_succ, i64_w, i32_w]
            rfl
          refine pure_ (i := 7) (N := (some 116)) (v := ?_) (a' := ?_) #[true, true, true, true, true, true, true, true, false, false, false, false] rfl rfl (by kernel_rfl) (fun _ _ _ h => h) (Or.inl ⟨by rfl, ?_⟩) ?_ ?_
          rotate_left
          · intro w'
            go_simp
            with_reducible rfl
          rotate_left
          · simp only [Act.put, List.setIfInBounds_toArray, List.set_cons_zero, List.set_cons_succ, i64_w, i32_w]
            rfl
          refine pure_ (i := 8) (N := (some 117)) (v := ?_) (a' := ?_) #[true, true, true, true, true, true, true, true, true, false, false, false] rfl rfl (by kernel_rfl) (fun _ _ _ h => h) (Or.inl ⟨by rfl, ?_⟩) ?_ ?_
          rotate_left
          · intro w'
            go_simp
            with_reducible rfl
          rotate_left
          · simp only [Act.put, List.setIfInBounds_toArray, List.set_cons_zero, List.set_cons_succ, i64_w, i32_w]
            rfl
          refine one_ (i := 9) (N := (some 15)) #[true, true, true, true, true, true, true, true, true, true, false, false] rfl rfl (by kernel_rfl) (by decide) (fun K hK => ?_)
          refine value_ (v := .pointer (some ⟨V4.heap.size, 0, none⟩)) (w1 := V4.alloc (.cells Z 32)) rfl rfl (by go_simp) ?_
          have HE6 : Hid (Below B0 w (V4.alloc (.cells Z 32))) := Lib.hid (HE4.out.alloc (sz_le hB0.out HE4.out.size) _)
          have Hq_a_6 : Hid ((V4.alloc (.cells Z 32)).heap[X_109]? = some (.cells Ja 32 (0, 0))) := Lib.hid (blk_alloc Hq_a_4.out _)
          have Hq_b_6 : Hid ((V4.alloc (.cells Z 32)).heap[X_129]? = some (.cells Jb 32 (0, 0))) := Lib.hid (blk_alloc Hq_b_4.out _)
          have Hq_xp_6 : Hid ((V4.alloc (.cells Z 32)).heap[Xp]? = some (.cells Ja' 32 (0, 0))) := Lib.hid (blk_alloc Hq_xp_4.out _)
          refine hK.out _ _ ⟨Hq_b_6.out, hCX.out _ HE6.out⟩ (fun hHeld => ?_)
          clear hK K
          refine norm_ (a' := ?_) ?_ ?_
          rotate_left
          · show Act.put _ (some 15) _ = _
            simp only [Act.put, List.setIfInBounds_toArray, List.set_cons_zero, List.set_cons_succ, i64_w, i32_w]
            rfl
          exact norm_ (by simp only [putAll, Act.put, List.setIfInBounds_toArray, List.set_cons_zero, List.set_cons_succ]) (hCont V4.heap.size _ ⟨Hq_a_6.out, Hq_b_6.out, Hq_xp_6.out, blk_new V4 _, (sz_le hB0.out HE4.out.size), blk_lt Hq_a_4.out, blk_lt Hq_b_4.out, blk_lt Hq_xp_4.out, HE6.out⟩)
        · skip
          refine value_ (v := .pointer (some ⟨V5p.heap.size, 0, none⟩)) (w1 := (V5p.alloc (.cells Z 32)).drew) rfl rfl (by go_simp) ?_
          have HE4 : Hid (Below B0 w (V5p.alloc (.cells Z 32)).drew) := Lib.hid ((HE5p.out.alloc (sz_le hB0.out HE5p.out.size) _).drew)
          have Hq_a_4 : Hid ((V5p.alloc (.cells Z 32)).drew.heap[X_109]? = some (.cells Ja 32 (0, 0))) := Lib.hid (blk_alloc Hp_a_5.out _)
          have Hq_b_4 : Hid ((V5p.alloc (.cells Z 32)).drew.heap[X_129]? = some (.cells Jb 32 (0, 0))) := Lib.hid (blk_alloc Hp_b_5.out _)
          have Hq_xp_4 : Hid ((V5p.alloc (.cells Z 32)).drew.heap[Xp]? = some (.cells Ja' 32 (0, 0))) := Lib.hid (blk_alloc HX5p.out _)
          have HZ4 : Hid ((V5p.alloc (.cells Z 32)).drew.heap[V5p.heap.size]? = some (.cells Z 32 (0, 0))) := Lib.hid (blk_new V5p _)
          refine hK.out _ _ ⟨Hq_b_4.out, hCX.out _ HE4.out⟩ (fun hHeld => ?_)
          clear hK K
          refine norm_ (a' := ?_) ?_ ?_
          rotate_left
          · show Act.put _ (some 15) _ = _
            simp only [Act.put, List.setIfInBounds_toArray, List.set_cons_zero, List.set_cons_succ, i64_w, i32_w]
            rfl
          refine one_ (i := 5) (N := (some 115)) #[true, true, true, true, true, true, false, false, false, true, false, false] rfl rfl (by kernel_rfl) (by decide) (fun K hK => ?_)
          refine goes_ Try.func16 (by kernel_rfl) rfl #[.agg Jb, .bool hit] (by rfl) rfl rfl (by (try simp only [List.map_toArray, List.map_cons, List.map_nil]); first | done | rfl) ?_
          refine (SB.out _ _ _ eJb.out eJb'.out).mono ?_
          rintro e V4 ⟨rfl, hb4⟩
          have Hq_a_6 : Hid (V4.heap[X_109]? = some (.cells Ja 32 (0, 0))) := Lib.hid ((hb4.block X_109 (blk_lt Hq_a_4.out)).trans Hq_a_4.out)
          have Hq_b_6 : Hid (V4.heap[X_129]? = some (.cells Jb 32 (0, 0))) := Lib.hid ((hb4.block X_129 (blk_lt Hq_b_4.out)).trans Hq_b_4.out)
          have Hq_xp_6 : Hid (V4.heap[Xp]? = some (.cells Ja' 32 (0, 0))) := Lib.hid ((hb4.block Xp (blk_lt Hq_xp_4.out)).trans Hq_xp_4.out)
          have HZ6 : Hid (V4.heap[V5p.heap.size]? = some (.cells Z 32 (0, 0))) := Lib.hid ((hb4.block _ (blk_lt HZ4.out)).trans HZ4.out)
          have HE6 : Hid (Below B0 w V4) := Lib.hid (HE4.out.trans (hb4.mono (sz_le hB0.out HE4.out.size)))
          refine ⟨_, rfl, ?_⟩
          refine hK.out _ _ ⟨Hq_b_6.out, hCX.out V4 HE6.out⟩ (fun hHeld => ?_)
          clear hK K
          refine norm_ (a' := ?_) ?_ ?_
          rotate_left
          · show Act.put _ (some 115) _ = _
            simp only [Act.put, List.setIfInBounds_toArray, List.set_cons_zero, List.set_cons_succ, i64_w, i32_w]
            rfl
          refine pure_ (i := 6) (N := (some 109)) (v := ?_) (a' := ?_) #[true, true, true, true, true, true, true, false, false, true, false, false] rfl rfl (by kernel_rfl) (fun _ _ _ h => h) (Or.inl ⟨by rfl, ?_⟩) ?_ ?_
          rotate_left
          · intro w'
            go_simp
            with_reducible rfl
          rotate_left
          · simp only [Act.put, List.setIfInBounds_toArray, List.set_cons_zero, List.set_cons_succ, i64_w, i32_w]
            rfl
          refine pure_ (i := 7) (N := (some 116)) (v := ?_) (a' := ?_) #[true, true, true, true, true, true, true, true, false, true, false, false] rfl rfl (by kernel_rfl) (fun _ _ _ h => h) (Or.inl ⟨by rfl, ?_⟩) ?_ ?_
          rotate_left
          · intro w'
            go_simp
            with_reducible rfl
          rotate_left
          · simp only [Act.put, List.setIfInBounds_toArray, List.set_cons_zero, List.set_cons_succ, i64_w, i32_w]
            rfl
          refine pure_ (i := 8) (N := (some 117)) (v := ?_) (a' := ?_) #[true, true, true, true, true, true, true, true, true, true, false, false] rfl rfl (by kernel_rfl) (fun _ _ _ h => h) (Or.inl ⟨by rfl, ?_⟩) ?_ ?_
          rotate_left
          · intro w'
            go_simp
            with_reducible rfl
          rotate_left
          · simp only [Act.put, List.setIfInBounds_toArray, List.set_cons_zero, List.set_cons_succ, i64_w, i32_w]
            rfl
          exact norm_ (by simp only [putAll, Act.put, List.setIfInBounds_toArray, List.set_cons_zero, List.set_cons_succ]) (hCont V5p.heap.size _ ⟨Hq_a_6.out, Hq_b_6.out, Hq_xp_6.out, HZ6.out, (sz_le hB0.out HE5p.out.size), blk_lt Hp_a_5.out, blk_lt Hp_b_5.out, blk_lt HX5p.out, HE6.out⟩)
      rintro Xq V4q ⟨h0, h1, h2, hzz, geq, ltq_a, ltq_b, ltq_xp, hbb⟩
      have Hq_a_4 := Lib.hid h0
      have Hq_b_4 := Lib.hid h1
      have Hq_xp_4 := Lib.hid h2
      have HZ4 := Lib.hid hzz
      have HE4 := Lib.hid hbb
      clear hzz hbb h0 h1 h2
      have hHeld : V4q.heap[X_129]? = some (.cells Jb 32 (0, 0)) ∧ V4q.cell? ⟨b, off + k, none⟩ = some (.bool hit) := ⟨Hq_b_4.out, hCX.out V4q HE4.out⟩
      refine norm_ (a' := ?_) ?_ ?_
      rotate_left
      · simp only [putAll, Act.put, List.setIfInBounds_toArray, List.set_cons_zero, List.set_cons_succ]
        rfl
      refine one_ (i := 10) (N := none) #[true, true, true, true, true, true, true, true, true, true, true, false] rfl rfl (by kernel_rfl) (by decide) (fun K hK => ?_)
      obtain ⟨V5q, hst, hs1, hs2, hs3⟩ := st_any HZ4.out zZ.out zJb'.out oJb'.out
      refine skip_ (w1 := V5q) rfl rfl (by have hsz := zJb'.out; go_simp) ?_
      have HX5q : Hid (V5q.heap[Xq]? = some (.cells Jb' 32 (0, 0))) := Lib.hid hs1
      have Hq_a_5 : Hid (V5q.heap[X_109]? = some (.cells Ja 32 (0, 0))) := Lib.hid ((hs2 _ (Nat.ne_of_lt ltq_a)).trans Hq_a_4.out)
      have Hq_b_5 : Hid (V5q.heap[X_129]? = some (.cells Jb 32 (0, 0))) := Lib.hid ((hs2 _ (Nat.ne_of_lt ltq_b)).trans Hq_b_4.out)
      have Hq_xp_5 : Hid (V5q.heap[Xp]? = some (.cells Ja' 32 (0, 0))) := Lib.hid ((hs2 _ (Nat.ne_of_lt ltq_xp)).trans Hq_xp_4.out)
      have HE5q : Hid (Below B0 w V5q) := Lib.hid (hs3 _ _ geq HE4.out)
      refine hK.out _ _ ⟨Hq_b_5.out, hCX.out _ HE5q.out⟩ (fun hHeld => ?_)
      clear hst hs1 hs2 hs3 hK K
      refine pure_ (i := 11) (N := (some 16)) (v := ?_) (a' := ?_) #[true, true, true, true, true, true, true, true, true, true, true, true] rfl rfl (by kernel_rfl) (fun _ _ _ h => h) (Or.inl ⟨by rfl, ?_⟩) ?_ ?_
      rotate_left
      · intro w'
        go_simp
        with_reducible rfl
      rotate_left
      · simp only [Act.put, List.setIfInBounds_toArray, List.set_cons_zero, List.set_cons_succ, i64_w, i32_w]
        rfl
      refine done_ (by kernel_rfl) ?_
      clear hHeld HE4 HZ4 cxq HE5p Hp_a_5 Hp_b_5 HX5p Hq_a_4 Hq_b_4 Hq_xp_4
      go_upto_region 13 with (fail)
      by_cases he : e' = 4
      · have g4 : (e' == 4) = true := by rw [he]; rfl
        have hv := hqa.out
        unfold jx at hv
        rw [if_pos ⟨he, rfl⟩] at hv
        injection hv with hv1 hv2
        have hul : u.left = 0 := by
          have := TK.out
          rw [he] at this
          exact tick_left this
        have g2 : (fa == 2) = true := by rw [← hv2]; rfl
        have h20 : Hid (Ja'[20]? = some (.int .i64 0)) := Lib.hid (by rw [eJa'.out, ← hv1]; exact (JJ_run _ _ _ _ _ _ _ _ _ _ 13).trans (by rw [RA_13]; simp [hul]))
        have h21 : Hid (Ja'[21]? = some (.bool true)) := Lib.hid (by rw [eJa'.out, ← hv1]; exact (JJ_run _ _ _ _ _ _ _ _ _ _ 14).trans (RA_14 _ _ _))
        clear hv1 hv2 hul he TK hqa
        obtain ⟨V_144, q_145_0, q_145_1, q_145_2, q_145_3⟩ := st_any Hq_a_5.out zJa.out zJa'.out oJa'.out
        have H_146 : Hid (V_144.heap[X_129]? = some (.cells Jb 32 (0, 0))) := Lib.hid ((q_145_2 _ (Nat.ne_of_gt ne_140)).trans Hq_b_5.out)
        have H_147 : Hid (V_144.heap[Xp]? = some (.cells Ja' 32 (0, 0))) := Lib.hid ((q_145_2 _ (Nat.ne_of_gt ltp_a)).trans Hq_xp_5.out)
        have H_148 : Hid (V_144.heap[Xq]? = some (.cells Jb' 32 (0, 0))) := Lib.hid ((q_145_2 _ (Nat.ne_of_gt ltq_a)).trans HX5q.out)
        have HE_149 : Hid (Below B0 w V_144) := Lib.hid (q_145_3 _ _ ge_119 HE5q.out)
        have H_150 := Lib.hid q_145_1
        clear q_145_1 q_145_2 q_145_3
        go_upto_region 14 with (first | (refine wpl_ld _ _ rfl (by rfl) Xp rfl Hq_xp_5.out Try.underlying32 rfl (by kernel_rfl) zJa'.out ?_))
        clear q_145_0
        clear HE5q Hq_b_5 Hq_xp_5 HX5q Hq_a_5
        obtain ⟨V_151, q_152_0, q_152_1, q_152_2, q_152_3⟩ := st_any H_146.out zJb.out zJb'.out oJb'.out
        have H_153 : Hid (V_151.heap[X_109]? = some (.cells Ja' 32 (0, 0))) := Lib.hid ((q_152_2 _ (Nat.ne_of_lt ne_140)).trans H_150.out)
        have H_154 : Hid (V_151.heap[Xp]? = some (.cells Ja' 32 (0, 0))) := Lib.hid ((q_152_2 _ (Nat.ne_of_gt ltp_b)).trans H_147.out)
        have H_155 : Hid (V_151.heap[Xq]? = some (.cells Jb' 32 (0, 0))) := Lib.hid ((q_152_2 _ (Nat.ne_of_gt ltq_b)).trans H_148.out)
        have HE_156 : Hid (Below B0 w V_151) := Lib.hid (q_152_3 _ _ ge_141 HE_149.out)
        have H_157 := Lib.hid q_152_1
        clear q_152_1 q_152_2 q_152_3
        go_upto_region 16 with (first | (refine wpl_ld _ _ rfl (by rfl) Xq rfl H_148.out Try.underlying32 rfl (by kernel_rfl) zJb'.out ?_))
        clear q_152_0
        clear HE_149 H_150 H_147 H_148 H_146
        have c20 := (blk_cell H_153.out 20).trans h20.out
        have c21 := (blk_cell H_153.out 21).trans h21.out
        go_wp2
        go_ret
        exact ⟨rfl, HE_156.out⟩
      · have g4 : (e' == 4) = false := by rw [beq_eq_false_iff_ne]; exact he
        have hv := hqa.out
        unfold jx at hv
        rw [if_neg (fun h => he h.1), if_neg (by simp)] at hv
        injection hv with hv1 hv2
        subst hv1
        subst hv2
        have NX := tick_go TK.out he
        have hfe : (e' != e') = false := by simp
        clear he TK hqa
        obtain ⟨V_158, q_159_0, q_159_1, q_159_2, q_159_3⟩ := st_any Hq_a_5.out zJa.out zJa'.out oJa'.out
        have H_160 : Hid (V_158.heap[X_129]? = some (.cells Jb 32 (0, 0))) := Lib.hid ((q_159_2 _ (Nat.ne_of_gt ne_140)).trans Hq_b_5.out)
        have H_161 : Hid (V_158.heap[Xp]? = some (.cells Ja' 32 (0, 0))) := Lib.hid ((q_159_2 _ (Nat.ne_of_gt ltp_a)).trans Hq_xp_5.out)
        have H_162 : Hid (V_158.heap[Xq]? = some (.cells Jb' 32 (0, 0))) := Lib.hid ((q_159_2 _ (Nat.ne_of_gt ltq_a)).trans HX5q.out)
        have HE_163 : Hid (Below B0 w V_158) := Lib.hid (q_159_3 _ _ ge_119 HE5q.out)
        have H_164 := Lib.hid q_159_1
        clear q_159_1 q_159_2 q_159_3
        go_upto_region 14 with (first | (refine wpl_ld _ _ rfl (by rfl) Xp rfl Hq_xp_5.out Try.underlying32 rfl (by kernel_rfl) zJa'.out ?_))
        clear q_159_0
        clear HE5q Hq_b_5 Hq_xp_5 HX5q Hq_a_5
        obtain ⟨V_165, q_166_0, q_166_1, q_166_2, q_166_3⟩ := st_any H_160.out zJb.out zJb'.out oJb'.out
        have H_167 : Hid (V_165.heap[X_109]? = some (.cells Ja' 32 (0, 0))) := Lib.hid ((q_166_2 _ (Nat.ne_of_lt ne_140)).trans H_164.out)
        have H_168 : Hid (V_165.heap[Xp]? = some (.cells Ja' 32 (0, 0))) := Lib.hid ((q_166_2 _ (Nat.ne_of_gt ltp_b)).trans H_161.out)
        have H_169 : Hid (V_165.heap[Xq]? = some (.cells Jb' 32 (0, 0))) := Lib.hid ((q_166_2 _ (Nat.ne_of_gt ltq_b)).trans H_162.out)
        have HE_170 : Hid (Below B0 w V_165) := Lib.hid (q_166_3 _ _ ge_141 HE_163.out)
        have H_171 := Lib.hid q_166_1
        clear q_166_1 q_166_2 q_166_3
        go_upto_region 17 with (first | (refine wpl_ld _ _ rfl (by rfl) Xq rfl H_162.out Try.underlying32 rfl (by kernel_rfl) zJb'.out ?_))
        clear q_166_0
        clear HE_163 H_164 H_161 H_162 H_160
        obtain ⟨R1, eR1⟩ : ∃ A, A = RA t C u := ⟨_, rfl⟩
        have zR1 : Hid (R1.size = 16) := Lib.hid (by rw [eR1]; exact RA_size _ _ _)
        have oR1 : Hid (R1.all (·.oneCell') = true) := Lib.hid (by rw [eR1]; exact RA_one _ _ _)
        replace eR1 := Lib.hid eR1
        obtain ⟨Pa, ePa⟩ : ∃ P, P = JP 0 3 9 (9 + t.f2) true true true := ⟨_, rfl⟩
        have zPa : Hid (Pa.size = 7) := Lib.hid (by rw [ePa]; rfl)
        have hJa : Hid (Pa ++ R1 = Ja') := Lib.hid (by rw [ePa, eR1.out, eJa'.out])
        replace ePa := Lib.hid ePa
        obtain ⟨Pb, ePb⟩ : ∃ P, P = JP 0 3 9 (9 + t.f2) true false true := ⟨_, rfl⟩
        have zPb : Hid (Pb.size = 7) := Lib.hid (by rw [ePb]; rfl)
        have hJb : Hid (Pb ++ R1 = Jb') := Lib.hid (by rw [ePb, eR1.out, eJb'.out])
        replace ePb := Lib.hid ePb
        have hrs : ∀ W : World, (binOp .neq 30 (.agg R1) (.agg R1)).run Try.prog W = .ok (.bool false) W := fun W => run_same R1 t C u eR1.out W
        have hrg : ∀ (a b : Operand) (W : World), (eqGuard .neq 30 a b (.agg R1) (.agg R1)).run Try.prog W = .ok () W := run_guard R1
        have tok3 : True := trivial
        have tok4 : True := trivial
        replace NX := Lib.hid NX
        go_wp2_with (first | (clear tok3; refine wpl_ldm _ _ rfl (by rfl) X_109 7 rfl (P := Pa) (A := R1) (by rw [hJa.out]; exact H_167.out) zPa.out Try.underlying30 rfl (by kernel_rfl) zR1.out ?_) | (clear tok4; refine wpl_ldm _ _ rfl (by rfl) X_129 7 rfl (P := Pb) (A := R1) (by rw [hJb.out]; exact H_171.out) zPb.out Try.underlying30 rfl (by kernel_rfl) zR1.out ?_))
        go_roundw
        case rel => exact ⟨k + 1, by go_num, by omega, u, true, Ja', Jb', eJa'.out, eJb'.out, H_167.out, H_171.out, HE_170.out, NX.out.1, by have := NX.out.2; omega, by have := NX.out.2; push_cast; omega⟩
        case measure => simp [intOf] <;> omega
    · have hkl : k = l.length := by omega
      have hge : decide (k < l.length) = false := by simp; omega
      clear hlt
      go_wp2_with fail
      go_ret
      exact ⟨rfl, HE⟩
theorem over_row (w : World) (t : S28) (more : Int) (hw : (Lit.int .u16 more).wf = true) (A : Option Addr) (l : List Bool) (cap : Nat) (hc : l.length ≤ cap) (hm : cap ≤ maxLen) (ha : Args.Arg Value.bool w A l) : Calls Try.prog 6 #[.agg (TA t), .int .u16 more, .slice A l.length cap] w fun e w' => e = .returned (.bool true) ∧ Below w.heap.size w w' := by
  unfold maxLen at hm
  have hm : l.length ≤ 9223372036854775807 := by omega
  cases c0 : decide ((400 : Int) < (l.length : Int)) with
  | true => exact over_out0 w t more A l cap hm c0
  | false =>
    cases c1 : decide ((60 : Int) < (t.f0.size : Int)) with
    | true => exact over_out1 w t more A l cap hm c0 c1
    | false =>
      obtain ⟨b, hr, pr⟩ := right14_tot t
      cases b with
      | false => exact over_out2 w t more A l cap hm c0 c1 hr
      | true =>
        cases c3 : decide (300 < t.f3) with
        | true => exact over_out3 w t more A l cap hm c0 c1 hr c3
        | false =>
          cases c4 : decide (300 < t.f4) with
          | true => exact over_out4 w t more A l cap hm c0 c1 hr c3 c4
          | false =>
            cases c5 : decide (300 < t.f6) with
            | true => exact over_out5 w t more A l cap hm c0 c1 hr c3 c4 c5
            | false =>
              exact over_main w t more (Args.bd_u16 hw) A l cap hm c0 c1 hr c3 c4 c5 (pr rfl) ha
end Go.Proofs.Ytpjehbcchanmhaa.PS
