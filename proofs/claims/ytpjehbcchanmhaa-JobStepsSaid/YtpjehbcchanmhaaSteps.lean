/- The law Steps, walked. -/
import Derived.Test.YtpjehbcchanmhaaRs
namespace Go.Proofs.Ytpjehbcchanmhaa.PS
open Go.RowKit Go.Proofs.Ytpjehbcchanmhaa.PC Go.Proofs.YtpjehbcchanmhaaW.PrintWords Go.Proofs.YtpjehbcchanmhaaW.PrintLast Go.Proofs.YtpjehbcchanmhaaW.PrintMore
set_option linter.unusedVariables false
set_option linter.unusedSimpArgs false
theorem wpl_gate {P : Program} {ops : Array Oper} {Q : Exit → Act → World → Prop} {o : Oper} {rest : List Oper} {a : Act} {w : World} {T : TypeId} {x : Operand} (_ho : o.op = .load T x) (h : wpList P ops Q (o :: rest) a w) : wpList P ops Q (o :: rest) a w := h
theorem wpl_gateb {P : Program} {ops : Array Oper} {Q : Exit → Act → World → Prop} {o : Oper} {rest : List Oper} {a : Act} {w : World} {T : TypeId} {x : Array (Nat × Operand)} (_ho : o.op = .build T x) (h : wpList P ops Q (o :: rest) a w) : wpList P ops Q (o :: rest) a w := h
set_option maxRecDepth 100000 in
set_option maxHeartbeats 6000000 in
theorem steps_out0 (w : World) (t : S28) (d : Int) (must : Bool) (A : Option Addr) (l : List Bool) (cap : Nat) (hm : l.length ≤ 9223372036854775807) (c0 : decide ((400 : Int) < (l.length : Int)) = true) : Calls Try.prog 4 #[.agg (TA t), .int .i64 d, .bool must, .slice A l.length cap] w fun e w' => e = .returned (.bool true) ∧ Below w.heap.size w w' := by
  obtain ⟨A0, eA0⟩ : ∃ A0, A0 = TA t := ⟨_, rfl⟩
  rw [← eA0]
  have zA0 : Hid (A0.size = 11) := Lib.hid (by rw [eA0]; rfl)
  have oA0 : Hid (A0.all (·.oneCell') = true) := Lib.hid (by rw [eA0]; exact TA_one _)
  replace eA0 := Lib.hid eA0
  obtain ⟨B0, hB0⟩ : ∃ B, w.heap.size = B := ⟨_, rfl⟩
  rw [hB0]
  obtain ⟨V0, hV0⟩ : ∃ V, w.alloc (.cells A0 28) = V := ⟨_, rfl⟩
  have Ht : Hid (V0.heap[B0]? = some (.cells A0 28 (0, 0))) := Lib.hid (by rw [← hV0]; exact (box_new hB0).1)
  have HE : Hid (Below B0 w V0) := Lib.hid (by rw [← hV0, ← hB0]; exact (Below.refl _ _).alloc (Nat.le_refl _) _)
  go_enter Try.func4, Try.ntmps4
  go_upto_region 1 with (fail)
  replace hB0 := Lib.hid hB0
  replace hV0 := Lib.hid hV0
  go_wp2_with fail
  refine (aw_c _).mono ?_; rintro e V_1 ⟨rfl, hb_2⟩
  have H_3 : Hid (V_1.heap[B0]? = some (.cells A0 28 (0, 0))) := Lib.hid ((hb_2.block B0 (blk_lt Ht.out)).trans Ht.out)
  have HE_4 : Hid (Below B0 w V_1) := Lib.hid (HE.out.trans (hb_2.mono (sz_le hB0.out HE.out.size)))
  clear HE Ht
  clear hb_2
  have c_5 : V_1.cell? ⟨B0, 0, none⟩ = some (.string t.f0) := by rw [blk_cell H_3.out, eA0.out]; rfl
  go_wp2_with fail
  refine (aw_c _).mono ?_; rintro e V_6 ⟨rfl, hb_7⟩
  have H_8 : Hid (V_6.heap[B0]? = some (.cells A0 28 (0, 0))) := Lib.hid ((hb_7.block B0 (blk_lt H_3.out)).trans H_3.out)
  have HE_9 : Hid (Below B0 w V_6) := Lib.hid (HE_4.out.trans (hb_7.mono (sz_le hB0.out HE_4.out.size)))
  clear c_5
  clear HE_4 H_3
  clear hb_7
  go_wp2
  go_ret
  exact ⟨rfl, HE_9.out⟩
set_option maxRecDepth 100000 in
set_option maxHeartbeats 6000000 in
theorem steps_out1 (w : World) (t : S28) (d : Int) (must : Bool) (A : Option Addr) (l : List Bool) (cap : Nat) (hm : l.length ≤ 9223372036854775807) (c0 : decide ((400 : Int) < (l.length : Int)) = false) (c1 : decide ((60 : Int) < (t.f0.size : Int)) = true) : Calls Try.prog 4 #[.agg (TA t), .int .i64 d, .bool must, .slice A l.length cap] w fun e w' => e = .returned (.bool true) ∧ Below w.heap.size w w' := by
  obtain ⟨A0, eA0⟩ : ∃ A0, A0 = TA t := ⟨_, rfl⟩
  rw [← eA0]
  have zA0 : Hid (A0.size = 11) := Lib.hid (by rw [eA0]; rfl)
  have oA0 : Hid (A0.all (·.oneCell') = true) := Lib.hid (by rw [eA0]; exact TA_one _)
  replace eA0 := Lib.hid eA0
  obtain ⟨B0, hB0⟩ : ∃ B, w.heap.size = B := ⟨_, rfl⟩
  rw [hB0]
  obtain ⟨V0, hV0⟩ : ∃ V, w.alloc (.cells A0 28) = V := ⟨_, rfl⟩
  have Ht : Hid (V0.heap[B0]? = some (.cells A0 28 (0, 0))) := Lib.hid (by rw [← hV0]; exact (box_new hB0).1)
  have HE : Hid (Below B0 w V0) := Lib.hid (by rw [← hV0, ← hB0]; exact (Below.refl _ _).alloc (Nat.le_refl _) _)
  go_enter Try.func4, Try.ntmps4
  go_upto_region 1 with (fail)
  replace hB0 := Lib.hid hB0
  replace hV0 := Lib.hid hV0
  go_wp2_with fail
  refine (aw_c _).mono ?_; rintro e V_10 ⟨rfl, hb_11⟩
  have H_12 : Hid (V_10.heap[B0]? = some (.cells A0 28 (0, 0))) := Lib.hid ((hb_11.block B0 (blk_lt Ht.out)).trans Ht.out)
  have HE_13 : Hid (Below B0 w V_10) := Lib.hid (HE.out.trans (hb_11.mono (sz_le hB0.out HE.out.size)))
  clear HE Ht
  clear hb_11
  have c_14 : V_10.cell? ⟨B0, 0, none⟩ = some (.string t.f0) := by rw [blk_cell H_12.out, eA0.out]; rfl
  go_wp2_with fail
  refine (aw_c _).mono ?_; rintro e V_15 ⟨rfl, hb_16⟩
  have H_17 : Hid (V_15.heap[B0]? = some (.cells A0 28 (0, 0))) := Lib.hid ((hb_16.block B0 (blk_lt H_12.out)).trans H_12.out)
  have HE_18 : Hid (Below B0 w V_15) := Lib.hid (HE_13.out.trans (hb_16.mono (sz_le hB0.out HE_13.out.size)))
  clear c_14
  clear HE_13 H_12
  clear hb_16
  go_wp2
  go_ret
  exact ⟨rfl, HE_18.out⟩
set_option maxRecDepth 100000 in
set_option maxHeartbeats 6000000 in
theorem steps_out2 (w : World) (t : S28) (d : Int) (must : Bool) (A : Option Addr) (l : List Bool) (cap : Nat) (hm : l.length ≤ 9223372036854775807) (c0 : decide ((400 : Int) < (l.length : Int)) = false) (c1 : decide ((60 : Int) < (t.f0.size : Int)) = false) (hr : Ev (fun k => pendulumref14_Right.f k t.f0 t.f1 t.f2 t.f3 t.f4 t.f5 t.f6 t.f7 t.f8 t.f9 t.f10) false) : Calls Try.prog 4 #[.agg (TA t), .int .i64 d, .bool must, .slice A l.length cap] w fun e w' => e = .returned (.bool true) ∧ Below w.heap.size w w' := by
  obtain ⟨A0, eA0⟩ : ∃ A0, A0 = TA t := ⟨_, rfl⟩
  rw [← eA0]
  have zA0 : Hid (A0.size = 11) := Lib.hid (by rw [eA0]; rfl)
  have oA0 : Hid (A0.all (·.oneCell') = true) := Lib.hid (by rw [eA0]; exact TA_one _)
  replace eA0 := Lib.hid eA0
  obtain ⟨B0, hB0⟩ : ∃ B, w.heap.size = B := ⟨_, rfl⟩
  rw [hB0]
  obtain ⟨V0, hV0⟩ : ∃ V, w.alloc (.cells A0 28) = V := ⟨_, rfl⟩
  have Ht : Hid (V0.heap[B0]? = some (.cells A0 28 (0, 0))) := Lib.hid (by rw [← hV0]; exact (box_new hB0).1)
  have HE : Hid (Below B0 w V0) := Lib.hid (by rw [← hV0, ← hB0]; exact (Below.refl _ _).alloc (Nat.le_refl _) _)
  go_enter Try.func4, Try.ntmps4
  go_upto_region 1 with (fail)
  replace hB0 := Lib.hid hB0
  replace hV0 := Lib.hid hV0
  go_wp2_with fail
  refine (aw_c _).mono ?_; rintro e V_19 ⟨rfl, hb_20⟩
  have H_21 : Hid (V_19.heap[B0]? = some (.cells A0 28 (0, 0))) := Lib.hid ((hb_20.block B0 (blk_lt Ht.out)).trans Ht.out)
  have HE_22 : Hid (Below B0 w V_19) := Lib.hid (HE.out.trans (hb_20.mono (sz_le hB0.out HE.out.size)))
  clear HE Ht
  clear hb_20
  have c_23 : V_19.cell? ⟨B0, 0, none⟩ = some (.string t.f0) := by rw [blk_cell H_21.out, eA0.out]; rfl
  go_wp2_with (first | ((with_reducible refine wpl_gate (T := 28) rfl ?_); refine wpl_ld _ _ rfl (by rfl) B0 rfl H_21.out Try.underlying28 rfl (by kernel_rfl) zA0.out ?_))
  refine (right14_c hr _ _ eA0.out).mono ?_; rintro e V_24 ⟨rfl, hb_25⟩
  have H_26 : Hid (V_24.heap[B0]? = some (.cells A0 28 (0, 0))) := Lib.hid ((hb_25.block B0 (blk_lt H_21.out)).trans H_21.out)
  have HE_27 : Hid (Below B0 w V_24) := Lib.hid (HE_22.out.trans (hb_25.mono (sz_le hB0.out HE_22.out.size)))
  clear c_23
  clear HE_22 H_21
  clear hb_25
  go_wp2_with fail
  refine (aw_c _).mono ?_; rintro e V_28 ⟨rfl, hb_29⟩
  have H_30 : Hid (V_28.heap[B0]? = some (.cells A0 28 (0, 0))) := Lib.hid ((hb_29.block B0 (blk_lt H_26.out)).trans H_26.out)
  have HE_31 : Hid (Below B0 w V_28) := Lib.hid (HE_27.out.trans (hb_29.mono (sz_le hB0.out HE_27.out.size)))
  clear HE_27 H_26
  clear hb_29
  go_wp2
  go_ret
  exact ⟨rfl, HE_31.out⟩
set_option maxRecDepth 100000 in
set_option maxHeartbeats 6000000 in
theorem steps_out3 (w : World) (t : S28) (d : Int) (must : Bool) (A : Option Addr) (l : List Bool) (cap : Nat) (hm : l.length ≤ 9223372036854775807) (c0 : decide ((400 : Int) < (l.length : Int)) = false) (c1 : decide ((60 : Int) < (t.f0.size : Int)) = false) (hr : Ev (fun k => pendulumref14_Right.f k t.f0 t.f1 t.f2 t.f3 t.f4 t.f5 t.f6 t.f7 t.f8 t.f9 t.f10) true) (c3 : decide (300 < t.f3) = true) : Calls Try.prog 4 #[.agg (TA t), .int .i64 d, .bool must, .slice A l.length cap] w fun e w' => e = .returned (.bool true) ∧ Below w.heap.size w w' := by
  obtain ⟨A0, eA0⟩ : ∃ A0, A0 = TA t := ⟨_, rfl⟩
  rw [← eA0]
  have zA0 : Hid (A0.size = 11) := Lib.hid (by rw [eA0]; rfl)
  have oA0 : Hid (A0.all (·.oneCell') = true) := Lib.hid (by rw [eA0]; exact TA_one _)
  replace eA0 := Lib.hid eA0
  obtain ⟨B0, hB0⟩ : ∃ B, w.heap.size = B := ⟨_, rfl⟩
  rw [hB0]
  obtain ⟨V0, hV0⟩ : ∃ V, w.alloc (.cells A0 28) = V := ⟨_, rfl⟩
  have Ht : Hid (V0.heap[B0]? = some (.cells A0 28 (0, 0))) := Lib.hid (by rw [← hV0]; exact (box_new hB0).1)
  have HE : Hid (Below B0 w V0) := Lib.hid (by rw [← hV0, ← hB0]; exact (Below.refl _ _).alloc (Nat.le_refl _) _)
  go_enter Try.func4, Try.ntmps4
  go_upto_region 1 with (fail)
  replace hB0 := Lib.hid hB0
  replace hV0 := Lib.hid hV0
  go_wp2_with fail
  refine (aw_c _).mono ?_; rintro e V_32 ⟨rfl, hb_33⟩
  have H_34 : Hid (V_32.heap[B0]? = some (.cells A0 28 (0, 0))) := Lib.hid ((hb_33.block B0 (blk_lt Ht.out)).trans Ht.out)
  have HE_35 : Hid (Below B0 w V_32) := Lib.hid (HE.out.trans (hb_33.mono (sz_le hB0.out HE.out.size)))
  clear HE Ht
  clear hb_33
  have c_36 : V_32.cell? ⟨B0, 0, none⟩ = some (.string t.f0) := by rw [blk_cell H_34.out, eA0.out]; rfl
  go_wp2_with (first | ((with_reducible refine wpl_gate (T := 28) rfl ?_); refine wpl_ld _ _ rfl (by rfl) B0 rfl H_34.out Try.underlying28 rfl (by kernel_rfl) zA0.out ?_))
  refine (right14_c hr _ _ eA0.out).mono ?_; rintro e V_37 ⟨rfl, hb_38⟩
  have H_39 : Hid (V_37.heap[B0]? = some (.cells A0 28 (0, 0))) := Lib.hid ((hb_38.block B0 (blk_lt H_34.out)).trans H_34.out)
  have HE_40 : Hid (Below B0 w V_37) := Lib.hid (HE_35.out.trans (hb_38.mono (sz_le hB0.out HE_35.out.size)))
  clear c_36
  clear HE_35 H_34
  clear hb_38
  have c_41 : V_37.cell? ⟨B0, 3, none⟩ = some (.int .i64 t.f3) := by rw [blk_cell H_39.out, eA0.out]; rfl
  have c_42 : V_37.cell? ⟨B0, 4, none⟩ = some (.int .i64 t.f4) := by rw [blk_cell H_39.out, eA0.out]; rfl
  have c_43 : V_37.cell? ⟨B0, 6, none⟩ = some (.int .i64 t.f6) := by rw [blk_cell H_39.out, eA0.out]; rfl
  go_wp2_with fail
  refine (aw_c _).mono ?_; rintro e V_44 ⟨rfl, hb_45⟩
  have H_46 : Hid (V_44.heap[B0]? = some (.cells A0 28 (0, 0))) := Lib.hid ((hb_45.block B0 (blk_lt H_39.out)).trans H_39.out)
  have HE_47 : Hid (Below B0 w V_44) := Lib.hid (HE_40.out.trans (hb_45.mono (sz_le hB0.out HE_40.out.size)))
  clear c_41 c_42 c_43
  clear HE_40 H_39
  clear hb_45
  go_wp2
  go_ret
  exact ⟨rfl, HE_47.out⟩
set_option maxRecDepth 100000 in
set_option maxHeartbeats 6000000 in
theorem steps_out4 (w : World) (t : S28) (d : Int) (must : Bool) (A : Option Addr) (l : List Bool) (cap : Nat) (hm : l.length ≤ 9223372036854775807) (c0 : decide ((400 : Int) < (l.length : Int)) = false) (c1 : decide ((60 : Int) < (t.f0.size : Int)) = false) (hr : Ev (fun k => pendulumref14_Right.f k t.f0 t.f1 t.f2 t.f3 t.f4 t.f5 t.f6 t.f7 t.f8 t.f9 t.f10) true) (c3 : decide (300 < t.f3) = false) (c4 : decide (300 < t.f4) = true) : Calls Try.prog 4 #[.agg (TA t), .int .i64 d, .bool must, .slice A l.length cap] w fun e w' => e = .returned (.bool true) ∧ Below w.heap.size w w' := by
  obtain ⟨A0, eA0⟩ : ∃ A0, A0 = TA t := ⟨_, rfl⟩
  rw [← eA0]
  have zA0 : Hid (A0.size = 11) := Lib.hid (by rw [eA0]; rfl)
  have oA0 : Hid (A0.all (·.oneCell') = true) := Lib.hid (by rw [eA0]; exact TA_one _)
  replace eA0 := Lib.hid eA0
  obtain ⟨B0, hB0⟩ : ∃ B, w.heap.size = B := ⟨_, rfl⟩
  rw [hB0]
  obtain ⟨V0, hV0⟩ : ∃ V, w.alloc (.cells A0 28) = V := ⟨_, rfl⟩
  have Ht : Hid (V0.heap[B0]? = some (.cells A0 28 (0, 0))) := Lib.hid (by rw [← hV0]; exact (box_new hB0).1)
  have HE : Hid (Below B0 w V0) := Lib.hid (by rw [← hV0, ← hB0]; exact (Below.refl _ _).alloc (Nat.le_refl _) _)
  go_enter Try.func4, Try.ntmps4
  go_upto_region 1 with (fail)
  replace hB0 := Lib.hid hB0
  replace hV0 := Lib.hid hV0
  go_wp2_with fail
  refine (aw_c _).mono ?_; rintro e V_48 ⟨rfl, hb_49⟩
  have H_50 : Hid (V_48.heap[B0]? = some (.cells A0 28 (0, 0))) := Lib.hid ((hb_49.block B0 (blk_lt Ht.out)).trans Ht.out)
  have HE_51 : Hid (Below B0 w V_48) := Lib.hid (HE.out.trans (hb_49.mono (sz_le hB0.out HE.out.size)))
  clear HE Ht
  clear hb_49
  have c_52 : V_48.cell? ⟨B0, 0, none⟩ = some (.string t.f0) := by rw [blk_cell H_50.out, eA0.out]; rfl
  go_wp2_with (first | ((with_reducible refine wpl_gate (T := 28) rfl ?_); refine wpl_ld _ _ rfl (by rfl) B0 rfl H_50.out Try.underlying28 rfl (by kernel_rfl) zA0.out ?_))
  refine (right14_c hr _ _ eA0.out).mono ?_; rintro e V_53 ⟨rfl, hb_54⟩
  have H_55 : Hid (V_53.heap[B0]? = some (.cells A0 28 (0, 0))) := Lib.hid ((hb_54.block B0 (blk_lt H_50.out)).trans H_50.out)
  have HE_56 : Hid (Below B0 w V_53) := Lib.hid (HE_51.out.trans (hb_54.mono (sz_le hB0.out HE_51.out.size)))
  clear c_52
  clear HE_51 H_50
  clear hb_54
  have c_57 : V_53.cell? ⟨B0, 3, none⟩ = some (.int .i64 t.f3) := by rw [blk_cell H_55.out, eA0.out]; rfl
  have c_58 : V_53.cell? ⟨B0, 4, none⟩ = some (.int .i64 t.f4) := by rw [blk_cell H_55.out, eA0.out]; rfl
  have c_59 : V_53.cell? ⟨B0, 6, none⟩ = some (.int .i64 t.f6) := by rw [blk_cell H_55.out, eA0.out]; rfl
  go_wp2_with fail
  refine (aw_c _).mono ?_; rintro e V_60 ⟨rfl, hb_61⟩
  have H_62 : Hid (V_60.heap[B0]? = some (.cells A0 28 (0, 0))) := Lib.hid ((hb_61.block B0 (blk_lt H_55.out)).trans H_55.out)
  have HE_63 : Hid (Below B0 w V_60) := Lib.hid (HE_56.out.trans (hb_61.mono (sz_le hB0.out HE_56.out.size)))
  clear c_57 c_58 c_59
  clear HE_56 H_55
  clear hb_61
  go_wp2
  go_ret
  exact ⟨rfl, HE_63.out⟩
set_option maxRecDepth 100000 in
set_option maxHeartbeats 6000000 in
theorem steps_out5 (w : World) (t : S28) (d : Int) (must : Bool) (A : Option Addr) (l : List Bool) (cap : Nat) (hm : l.length ≤ 9223372036854775807) (c0 : decide ((400 : Int) < (l.length : Int)) = false) (c1 : decide ((60 : Int) < (t.f0.size : Int)) = false) (hr : Ev (fun k => pendulumref14_Right.f k t.f0 t.f1 t.f2 t.f3 t.f4 t.f5 t.f6 t.f7 t.f8 t.f9 t.f10) true) (c3 : decide (300 < t.f3) = false) (c4 : decide (300 < t.f4) = false) (c5 : decide (300 < t.f6) = true) : Calls Try.prog 4 #[.agg (TA t), .int .i64 d, .bool must, .slice A l.length cap] w fun e w' => e = .returned (.bool true) ∧ Below w.heap.size w w' := by
  obtain ⟨A0, eA0⟩ : ∃ A0, A0 = TA t := ⟨_, rfl⟩
  rw [← eA0]
  have zA0 : Hid (A0.size = 11) := Lib.hid (by rw [eA0]; rfl)
  have oA0 : Hid (A0.all (·.oneCell') = true) := Lib.hid (by rw [eA0]; exact TA_one _)
  replace eA0 := Lib.hid eA0
  obtain ⟨B0, hB0⟩ : ∃ B, w.heap.size = B := ⟨_, rfl⟩
  rw [hB0]
  obtain ⟨V0, hV0⟩ : ∃ V, w.alloc (.cells A0 28) = V := ⟨_, rfl⟩
  have Ht : Hid (V0.heap[B0]? = some (.cells A0 28 (0, 0))) := Lib.hid (by rw [← hV0]; exact (box_new hB0).1)
  have HE : Hid (Below B0 w V0) := Lib.hid (by rw [← hV0, ← hB0]; exact (Below.refl _ _).alloc (Nat.le_refl _) _)
  go_enter Try.func4, Try.ntmps4
  go_upto_region 1 with (fail)
  replace hB0 := Lib.hid hB0
  replace hV0 := Lib.hid hV0
  go_wp2_with fail
  refine (aw_c _).mono ?_; rintro e V_64 ⟨rfl, hb_65⟩
  have H_66 : Hid (V_64.heap[B0]? = some (.cells A0 28 (0, 0))) := Lib.hid ((hb_65.block B0 (blk_lt Ht.out)).trans Ht.out)
  have HE_67 : Hid (Below B0 w V_64) := Lib.hid (HE.out.trans (hb_65.mono (sz_le hB0.out HE.out.size)))
  clear HE Ht
  clear hb_65
  have c_68 : V_64.cell? ⟨B0, 0, none⟩ = some (.string t.f0) := by rw [blk_cell H_66.out, eA0.out]; rfl
  go_wp2_with (first | ((with_reducible refine wpl_gate (T := 28) rfl ?_); refine wpl_ld _ _ rfl (by rfl) B0 rfl H_66.out Try.underlying28 rfl (by kernel_rfl) zA0.out ?_))
  refine (right14_c hr _ _ eA0.out).mono ?_; rintro e V_69 ⟨rfl, hb_70⟩
  have H_71 : Hid (V_69.heap[B0]? = some (.cells A0 28 (0, 0))) := Lib.hid ((hb_70.block B0 (blk_lt H_66.out)).trans H_66.out)
  have HE_72 : Hid (Below B0 w V_69) := Lib.hid (HE_67.out.trans (hb_70.mono (sz_le hB0.out HE_67.out.size)))
  clear c_68
  clear HE_67 H_66
  clear hb_70
  have c_73 : V_69.cell? ⟨B0, 3, none⟩ = some (.int .i64 t.f3) := by rw [blk_cell H_71.out, eA0.out]; rfl
  have c_74 : V_69.cell? ⟨B0, 4, none⟩ = some (.int .i64 t.f4) := by rw [blk_cell H_71.out, eA0.out]; rfl
  have c_75 : V_69.cell? ⟨B0, 6, none⟩ = some (.int .i64 t.f6) := by rw [blk_cell H_71.out, eA0.out]; rfl
  go_wp2_with fail
  refine (aw_c _).mono ?_; rintro e V_76 ⟨rfl, hb_77⟩
  have H_78 : Hid (V_76.heap[B0]? = some (.cells A0 28 (0, 0))) := Lib.hid ((hb_77.block B0 (blk_lt H_71.out)).trans H_71.out)
  have HE_79 : Hid (Below B0 w V_76) := Lib.hid (HE_72.out.trans (hb_77.mono (sz_le hB0.out HE_72.out.size)))
  clear c_73 c_74 c_75
  clear HE_72 H_71
  clear hb_77
  go_wp2
  go_ret
  exact ⟨rfl, HE_79.out⟩
theorem tick_left {t : S28} {d : Int} {s u : St} {hit : Bool} (T : Tick t d s hit (u, 4)) : u.left = 0 := by
  cases T with
  | failed _ _ e1 e2 e3 e4 e5 e6 e7 e8 e9 => omega
  | done _ e1 e2 e3 e4 e5 e6 e7 e8 => exact e5
theorem tick_go {t : S28} {d : Int} {s u : St} {hit : Bool} {e : Int} (T : Tick t d s hit (u, e)) (h : ¬ e = 4) : Inv t d u ∧ s.fl ≤ u.fl ∧ u.fl ≤ s.fl + 1 := by
  cases T with
  | runs _ e1 e2 e3 e4 e5 e6 e7 => exact ⟨e2, by omega, by omega⟩
  | passed _ e1 e0 e2 e3 e4 e5 e6 e7 e8 e9 => exact ⟨e3, by omega, by omega⟩
  | failed _ _ e1 e2 e3 e4 e5 e6 e7 e8 e9 => exact ⟨e4, by omega, by omega⟩
  | done _ e1 e2 e3 e4 e5 e6 e7 e8 => exact absurd rfl h
theorem jx_over {u : St} {must : Bool} : jx must true u 4 = (⟨u.p, u.left, true, u.fl⟩, 2) := by unfold jx; simp
theorem jx_drop {u : St} {over : Bool} {e : Int} (h : e = 2 ∨ e = 3) : jx false over u e = (⟨u.p, 0, u.str, u.fl⟩, 2) := by
  unfold jx; rw [if_neg (fun k => by omega), if_pos ⟨h, rfl⟩]
theorem jx_same {u : St} {must over : Bool} {e : Int} (h1 : ¬ (e = 4 ∧ over = true)) (h2 : ¬ ((e = 2 ∨ e = 3) ∧ must = false)) : jx must over u e = (u, e) := by
  unfold jx; rw [if_neg h1, if_neg h2]
def SI (t : S28) (n : Int) (must ov : Bool) (w : World) (B0 Xj Xm : Nat) (A0 : Array Value) (m : Int) (wr : World) : Prop := ∃ s bg Ja Ra, Ja = JP 0 0 5 (5 + t.f2) must ov bg ++ RA t n s ∧ Ra = RA t n s ∧ wr.heap[Xj]? = some (.cells Ja 32 (0, 0)) ∧ wr.heap[Xm]? = some (.cells Ra 30 (0, 0)) ∧ wr.heap[B0]? = some (.cells A0 28 (0, 0)) ∧ Below B0 w wr ∧ Inv t n s ∧ 0 ≤ s.fl ∧ s.fl ≤ m
set_option maxRecDepth 100000 in
set_option maxHeartbeats 6000000 in
theorem steps_main (w : World) (t : S28) (d : Int) (must : Bool) (A : Option Addr) (l : List Bool) (cap : Nat) (hm : l.length ≤ 9223372036854775807) (c0 : decide ((400 : Int) < (l.length : Int)) = false) (c1 : decide ((60 : Int) < (t.f0.size : Int)) = false) (hr : Ev (fun k => pendulumref14_Right.f k t.f0 t.f1 t.f2 t.f3 t.f4 t.f5 t.f6 t.f7 t.f8 t.f9 t.f10) true) (c3 : decide (300 < t.f3) = false) (c4 : decide (300 < t.f4) = false) (c5 : decide (300 < t.f6) = false) (ok : OkT t) (ha : Args.Arg Value.bool w A l) : Calls Try.prog 4 #[.agg (TA t), .int .i64 d, .bool must, .slice A l.length cap] w fun e w' => e = .returned (.bool true) ∧ Below w.heap.size w w' := by
  have hl4 : l.length ≤ 400 := by have := of_decide_eq_false c0; omega
  have hfa := Lib.hid ha
  clear ha
  obtain ⟨n, hn⟩ : ∃ n, mn (mx d 1) t.f3 = n := ⟨_, rfl⟩
  have hnum := ok.nums
  have hn1 : 1 ≤ n := by rw [← hn]; unfold mn mx; split <;> split <;> omega
  have hn2 : Hid (n ≤ t.f3) := Lib.hid (by rw [← hn]; unfold mn mx; split <;> split <;> omega)
  obtain ⟨ov, hov⟩ : ∃ b, decide (d > t.f3) = b := ⟨_, rfl⟩
  replace hn := Lib.hid hn
  replace hov := Lib.hid hov
  clear hnum
  obtain ⟨Z, eZ⟩ : ∃ A : Array Value, A = #[.int .i64 0, .int .i64 0, .int .i64 0, .int .i64 0, .bool false, .bool false, .bool false, .string ⟨#[]⟩, .int .i64 0, .int .i64 0, .int .i64 0, .int .i64 0, .int .i64 0, .int .i64 0, .int .i64 0, .int .i64 0, .int .i64 0, .int .i64 0, .int .i64 0, .int .i64 0, .int .i64 0, .bool false, .int .i64 0] := ⟨_, rfl⟩
  have zZ : Hid (Z.size = 23) := Lib.hid (by rw [eZ]; rfl)
  have hzZ : ∀ V : World, (zeroValue 32).run Try.prog V = .ok (.agg Z) V := fun V => by rw [eZ]; kernel_rfl
  replace eZ := Lib.hid eZ
  obtain ⟨ZR, eZR⟩ : ∃ A : Array Value, A = #[.string ⟨#[]⟩, .int .i64 0, .int .i64 0, .int .i64 0, .int .i64 0, .int .i64 0, .int .i64 0, .int .i64 0, .int .i64 0, .int .i64 0, .int .i64 0, .int .i64 0, .int .i64 0, .int .i64 0, .bool false, .int .i64 0] := ⟨_, rfl⟩
  have zZR : Hid (ZR.size = 16) := Lib.hid (by rw [eZR]; rfl)
  have hzZR : ∀ V : World, (zeroValue 30).run Try.prog V = .ok (.agg ZR) V := fun V => by rw [eZR]; kernel_rfl
  replace eZR := Lib.hid eZR
  obtain ⟨ZS, eZS⟩ : ∃ A : Array Value, A = #[.int .i64 0, .slice none 0 0] := ⟨_, rfl⟩
  have zZS : Hid (ZS.size = 2) := Lib.hid (by rw [eZS]; rfl)
  have hzZS : ∀ V : World, (zeroValue 24).run Try.prog V = .ok (.agg ZS) V := fun V => by rw [eZS]; kernel_rfl
  replace eZS := Lib.hid eZS
  obtain ⟨A0, eA0⟩ : ∃ A0, A0 = TA t := ⟨_, rfl⟩
  rw [← eA0]
  have zA0 : Hid (A0.size = 11) := Lib.hid (by rw [eA0]; rfl)
  have oA0 : Hid (A0.all (·.oneCell') = true) := Lib.hid (by rw [eA0]; exact TA_one _)
  replace eA0 := Lib.hid eA0
  obtain ⟨B0, hB0⟩ : ∃ B, w.heap.size = B := ⟨_, rfl⟩
  rw [hB0]
  obtain ⟨V0, hV0⟩ : ∃ V, w.alloc (.cells A0 28) = V := ⟨_, rfl⟩
  have Ht : Hid (V0.heap[B0]? = some (.cells A0 28 (0, 0))) := Lib.hid (by rw [← hV0]; exact (box_new hB0).1)
  have HE : Hid (Below B0 w V0) := Lib.hid (by rw [← hV0, ← hB0]; exact (Below.refl _ _).alloc (Nat.le_refl _) _)
  go_enter Try.func4, Try.ntmps4
  go_upto_region 1 with (fail)
  replace hB0 := Lib.hid hB0
  replace hV0 := Lib.hid hV0
  go_wp2_with fail
  refine (aw_c _).mono ?_; rintro e V_80 ⟨rfl, hb_81⟩
  have H_82 : Hid (V_80.heap[B0]? = some (.cells A0 28 (0, 0))) := Lib.hid ((hb_81.block B0 (blk_lt Ht.out)).trans Ht.out)
  have HE_83 : Hid (Below B0 w V_80) := Lib.hid (HE.out.trans (hb_81.mono (sz_le hB0.out HE.out.size)))
  clear HE Ht
  clear hb_81
  have c_84 : V_80.cell? ⟨B0, 0, none⟩ = some (.string t.f0) := by rw [blk_cell H_82.out, eA0.out]; rfl
  go_wp2_with (first | ((with_reducible refine wpl_gate (T := 28) rfl ?_); refine wpl_ld _ _ rfl (by rfl) B0 rfl H_82.out Try.underlying28 rfl (by kernel_rfl) zA0.out ?_))
  refine (right14_c hr _ _ eA0.out).mono ?_; rintro e V_85 ⟨rfl, hb_86⟩
  have H_87 : Hid (V_85.heap[B0]? = some (.cells A0 28 (0, 0))) := Lib.hid ((hb_86.block B0 (blk_lt H_82.out)).trans H_82.out)
  have HE_88 : Hid (Below B0 w V_85) := Lib.hid (HE_83.out.trans (hb_86.mono (sz_le hB0.out HE_83.out.size)))
  clear c_84
  clear HE_83 H_82
  clear hb_86
  have c_89 : V_85.cell? ⟨B0, 3, none⟩ = some (.int .i64 t.f3) := by rw [blk_cell H_87.out, eA0.out]; rfl
  have c_90 : V_85.cell? ⟨B0, 4, none⟩ = some (.int .i64 t.f4) := by rw [blk_cell H_87.out, eA0.out]; rfl
  have c_91 : V_85.cell? ⟨B0, 6, none⟩ = some (.int .i64 t.f6) := by rw [blk_cell H_87.out, eA0.out]; rfl
  go_upto_region 3 with (fail)
  clear c0 c1 c3 c4 c5
  replace ok := Lib.hid ok
  clear c_89 c_90 c_91
  obtain ⟨X1, hX1⟩ : ∃ X, V_85.heap.size = X := ⟨_, rfl⟩
  obtain ⟨V2, hV2⟩ : ∃ V', V_85.alloc (.cells A0 28) = V' := ⟨_, rfl⟩
  have lt1 : B0 < X1 := hX1 ▸ blk_lt H_87.out
  have ge1 : B0 ≤ X1 := Nat.le_of_lt lt1
  have Ht2 : Hid (V2.heap[B0]? = some (.cells A0 28 (0, 0))) := Lib.hid (by rw [← hV2]; exact blk_alloc H_87.out _)
  have Hk2 : Hid (V2.heap[X1]? = some (.cells A0 28 (0, 0))) := Lib.hid (by rw [← hV2]; exact (box_new hX1).1)
  have HE2 : Hid (Below B0 w V2) := Lib.hid (by rw [← hV2]; exact HE_88.out.alloc (sz_le hB0.out HE_88.out.size) _)
  have hfold : Array.foldl (fun (cs : Array Value) (x : Value × Nat) => cs.setIfInBounds x.snd x.fst) #[.string ⟨#[]⟩, .int .i64 0, .int .i64 0, .int .i64 0, .int .i64 0, .int .i64 0, .int .i64 0, .int .i64 0, .int .i64 0, .int .i64 0, .int .i64 0] A0.zipIdx 0 11 = A0 := by rw [eA0.out]; simp [TA]
  obtain ⟨SS, eSS⟩ : ∃ A : Array Value, A = #[.int .i64 1, .slice (some ⟨X1, 0, none⟩) 1 1] := ⟨_, rfl⟩
  have zSS : Hid (SS.size = 2) := Lib.hid (by rw [eSS]; rfl)
  have oSS : Hid (SS.all (·.oneCell') = true) := Lib.hid (by rw [eSS]; simp [Value.oneCell'])
  replace eSS := Lib.hid eSS
  have hA11 := zA0.out
  obtain ⟨J, eJ⟩ : ∃ A, A = JP 0 0 5 (5 + t.f2) must ov false ++ RA t n (ini t n) := ⟨_, rfl⟩
  have zJ : Hid (J.size = 23) := Lib.hid (by rw [eJ]; exact JJ_size _ _ _ _ _ _ _ _ _ _)
  have oJ : Hid (J.all (·.oneCell') = true) := Lib.hid (by rw [eJ]; exact JJ_one _ _ _ _ _ _ _ _ _ _)
  replace eJ := Lib.hid eJ
  obtain ⟨R0, eR0⟩ : ∃ A, A = RA t n (ini t n) := ⟨_, rfl⟩
  have zR0 : Hid (R0.size = 16) := Lib.hid (by rw [eR0]; exact RA_size _ _ _)
  have oR0 : Hid (R0.all (·.oneCell') = true) := Lib.hid (by rw [eR0]; exact RA_one _ _ _)
  replace eR0 := Lib.hid eR0
  go_wp2_with (first | ((with_reducible refine wpl_gate (T := 28) rfl ?_); refine wpl_ld _ _ rfl (by rfl) B0 rfl H_87.out Try.underlying28 rfl (by kernel_rfl) zA0.out ?_) | ((with_reducible refine wpl_gateb (T := 24) rfl ?_); refine wpl_bld 24 _ rfl (by rfl) (set_built X1 (by simp [go_sem]) eSS.out) ?_))
  refine (new1_c Hk2.out eA0.out ok.out (by decide) (by decide) (by decide) hn.out hov.out _ _ eSS.out eJ.out).mono ?_; rintro e V_92 ⟨rfl, hb_93⟩
  have H_94 : Hid (V_92.heap[B0]? = some (.cells A0 28 (0, 0))) := Lib.hid ((hb_93.block B0 (blk_lt Ht2.out)).trans Ht2.out)
  have H_95 : Hid (V_92.heap[X1]? = some (.cells A0 28 (0, 0))) := Lib.hid ((hb_93.block X1 (blk_lt Hk2.out)).trans Hk2.out)
  have HE_96 : Hid (Below B0 w V_92) := Lib.hid (HE2.out.trans (hb_93.mono (sz_le hB0.out HE2.out.size)))
  clear HE2 Ht2 Hk2
  clear hb_93
  clear H_87 HE_88 hX1 hV2 hfold hA11
  have hz := hzZ
  obtain ⟨X_97, hX_99⟩ : ∃ X, V_92.heap.size = X := ⟨_, rfl⟩
  obtain ⟨V_98, q_100_0, q_100_1, q_100_2, q_100_3⟩ := st_new (w := V_92) (T := 32) hX_99 zZ.out zJ.out oJ.out
  have ne_102 : B0 < X_97 := hX_99 ▸ blk_lt H_94.out
  have H_101 : Hid (V_98.heap[B0]? = some (.cells A0 28 (0, 0))) := Lib.hid ((q_100_2 _ ne_102).trans H_94.out)
  have ne_104 : X1 < X_97 := hX_99 ▸ blk_lt H_95.out
  have H_103 : Hid (V_98.heap[X1]? = some (.cells A0 28 (0, 0))) := Lib.hid ((q_100_2 _ ne_104).trans H_95.out)
  have ge_105 : B0 ≤ X_97 := hX_99 ▸ (sz_le hB0.out HE_96.out.size)
  have HE_106 : Hid (Below B0 w V_98) := Lib.hid (q_100_3 _ _ ge_105 HE_96.out)
  have H_107 := Lib.hid q_100_1
  clear q_100_1 q_100_2 q_100_3
  go_upto_region 6 with (fail)
  clear q_100_0 hX_99
  clear HE_96 H_94 H_95
  obtain ⟨PJ, ePJ⟩ : ∃ P, P = JP 0 0 5 (5 + t.f2) must ov false := ⟨_, rfl⟩
  have zPJ : Hid (PJ.size = 7) := Lib.hid (by rw [ePJ]; rfl)
  have hJP : Hid (PJ ++ R0 = J) := Lib.hid (by rw [ePJ, eR0.out, eJ.out])
  replace ePJ := Lib.hid ePJ
  obtain ⟨X_108, hX_110⟩ : ∃ X, V_98.heap.size = X := ⟨_, rfl⟩
  obtain ⟨V_109, q_111_0, q_111_1, q_111_2, q_111_3⟩ := st_new (w := V_98) (T := 30) hX_110 zZR.out zR0.out oR0.out
  have ne_113 : B0 < X_108 := hX_110 ▸ blk_lt H_101.out
  have H_112 : Hid (V_109.heap[B0]? = some (.cells A0 28 (0, 0))) := Lib.hid ((q_111_2 _ ne_113).trans H_101.out)
  have ne_115 : X1 < X_108 := hX_110 ▸ blk_lt H_103.out
  have H_114 : Hid (V_109.heap[X1]? = some (.cells A0 28 (0, 0))) := Lib.hid ((q_111_2 _ ne_115).trans H_103.out)
  have ne_117 : X_97 < X_108 := hX_110 ▸ blk_lt H_107.out
  have H_116 : Hid (V_109.heap[X_97]? = some (.cells J 32 (0, 0))) := Lib.hid ((q_111_2 _ ne_117).trans H_107.out)
  have ge_118 : B0 ≤ X_108 := hX_110 ▸ (sz_le hB0.out HE_106.out.size)
  have HE_119 : Hid (Below B0 w V_109) := Lib.hid (q_111_3 _ _ ge_118 HE_106.out)
  have H_120 := Lib.hid q_111_1
  clear q_111_1 q_111_2 q_111_3
  go_upto_region 7 with (first | ((with_reducible refine wpl_gate (T := 30) rfl ?_); refine wpl_ldm _ _ rfl (by rfl) X_97 7 rfl (P := PJ) (A := R0) (by rw [hJP.out]; exact H_107.out) zPJ.out Try.underlying30 rfl (by kernel_rfl) zR0.out ?_))
  clear q_111_0 hX_110
  clear HE_106 H_101 H_103 H_107
  have hI : Hid (SI t n must ov w B0 X_97 X_108 A0 0 V_109) := Lib.hid ⟨ini t n, false, J, R0, eJ.out, eR0.out, H_116.out, H_120.out, H_112.out, HE_119.out, ini_inv ok.out hn1, by simp [ini], by simp [ini]⟩
  go_wp2_with fail
  go_loopw [12] (fun i wr => ∃ k : Nat, i = .int .i64 (k : Int) ∧ k ≤ l.length ∧ SI t n must ov w B0 X_97 X_108 A0 (k : Int) wr) (fun i _ => l.length - (intOf i).toNat)
  case atStart => exact ⟨0, rfl, Nat.zero_le _, hI.out⟩
  case round =>
    obtain ⟨k, rfl, hk, s, bg, Ja, Ra, eJa, eRa, HJa, HRa, HT, HE, Iv, hf0, hf1⟩ := hrel
    have zJa : Hid (Ja.size = 23) := Lib.hid (by rw [eJa]; exact JJ_size _ _ _ _ _ _ _ _ _ _)
    have oJa : Hid (Ja.all (·.oneCell') = true) := Lib.hid (by rw [eJa]; exact JJ_one _ _ _ _ _ _ _ _ _ _)
    have zRa : Hid (Ra.size = 16) := Lib.hid (by rw [eRa]; exact RA_size _ _ _)
    have oRa : Hid (Ra.all (·.oneCell') = true) := Lib.hid (by rw [eRa]; exact RA_one _ _ _)
    clear hI
    by_cases hlt : k < l.length
    · skip
      obtain ⟨b, off, rfl, hbw, hcell⟩ := hfa.out (by omega)
      obtain ⟨hit, hh⟩ : ∃ x, l[k]? = some x := ⟨l[k], by simp [hlt]⟩
      have hil : (k : Int) < (l.length : Int) := by omega
      have hild : decide (k < l.length) = true := by simpa using hlt
      have hCX := Lib.hid (fun (W : World) (hW : Below B0 w W) => (hW.cell (p := ⟨b, off + k, none⟩) (by rw [← hB0.out]; exact hbw)).trans (hcell k hit hh))
      clear hcell hh hbw
      obtain ⟨q, hq⟩ : ∃ q, nx t n s hit = q := ⟨_, rfl⟩
      have TK := nx_tick ok.out hn1 hn2.out Iv hit
      rw [hq] at TK
      obtain ⟨u, e'⟩ := q
      obtain ⟨qa, hqa⟩ : ∃ q, jx must ov u e' = q := ⟨_, rfl⟩
      obtain ⟨v, fa⟩ := qa
      obtain ⟨Ja', eJa'⟩ : ∃ A, A = JP 0 0 5 (5 + t.f2) must ov true ++ RA t n v := ⟨_, rfl⟩
      have zJa' : Hid (Ja'.size = 23) := Lib.hid (by rw [eJa']; exact JJ_size _ _ _ _ _ _ _ _ _ _)
      have oJa' : Hid (Ja'.all (·.oneCell') = true) := Lib.hid (by rw [eJa']; exact JJ_one _ _ _ _ _ _ _ _ _ _)
      replace eJa' := Lib.hid eJa'
      obtain ⟨Ru, eRu⟩ : ∃ A, A = RA t n u := ⟨_, rfl⟩
      have zRu : Hid (Ru.size = 16) := Lib.hid (by rw [eRu]; exact RA_size _ _ _)
      have oRu : Hid (Ru.all (·.oneCell') = true) := Lib.hid (by rw [eRu]; exact RA_one _ _ _)
      replace eRu := Lib.hid eRu
      have SA := Lib.hid (jstep_c ok.out hn1 hn2.out Iv hit hf0 (by omega) hq 0 0 5 (5 + t.f2) must ov bg hqa)
      have SB := Lib.hid (rstep_c ok.out hn1 hn2.out Iv hit hf0 (by omega) hq)
      replace eJa := Lib.hid eJa
      replace eRa := Lib.hid eRa
      replace HJa := Lib.hid HJa
      replace HRa := Lib.hid HRa
      replace HT := Lib.hid HT
      replace HE := Lib.hid HE
      replace TK := Lib.hid TK
      replace Iv := Lib.hid Iv
      replace hqa := Lib.hid hqa
      clear hq
      go_wp2_with fail
      have cxp := hCX.out wr HE.out
      refine start_ (n := 12) (S := fun w' => w'.heap[X_97]? = some (.cells Ja 32 (0, 0)) ∧ w'.cell? ⟨b, off + k, none⟩ = some (.bool hit)) (ds := []) #[false, false, false, false, false, false, false, false, false, false, false, false] (by kernel_rfl) rfl rfl ⟨HJa.out, cxp⟩ (fun hHeld => ?_)
      refine take_ (i := 0) (N := (some 72)) (v := .agg Ja) (a' := ?_) #[true, false, false, false, false, false, false, false, false, false, false, false] rfl rfl (by kernel_rfl) (fun _ _ _ h => h) (Or.inl ⟨by rfl, ?_⟩) hHeld ?_ ?_
      · rintro w' ⟨s0, s1⟩
        exact ld_op 32 _ rfl X_97 rfl s0 Try.underlying32 rfl (by kernel_rfl) zJa.out
      rotate_left
      · simp only [Act.put, List.setIfInBounds_toArray, List.set_cons_zero, List.set_cons_succ, i64_w, i32_w]
        rfl
      refine pure_ (i := 1) (N := (some 73)) (v := ?_) (a' := ?_) #[true, true, false, false, false, false, false, false, false, false, false, false] rfl rfl (by kernel_rfl) (fun _ _ _ h => h) (Or.inl ⟨by rfl, ?_⟩) ?_ ?_
      rotate_left
      · intro w'
        go_simp
        with_reducible rfl
      rotate_left
      · simp only [Act.put, List.setIfInBounds_toArray, List.set_cons_zero, List.set_cons_succ, i64_w, i32_w]
        rfl
      refine pure_ (i := 2) (N := (some 74)) (v := ?_) (a' := ?_) #[true, true, true, false, false, false, false, false, false, false, false, false] rfl rfl (by kernel_rfl) (fun _ _ _ h => h) (Or.inl ⟨by rfl, ?_⟩) ?_ ?_
      rotate_left
      · intro w'
        go_simp
        with_reducible rfl
      rotate_left
      · simp only [Act.put, List.setIfInBounds_toArray, List.set_cons_zero, List.set_cons_succ, i64_w, i32_w]
        rfl
      refine pure_ (i := 3) (N := (some 75)) (v := ?_) (a' := ?_) #[true, true, true, true, false, false, false, false, false, false, false, false] rfl rfl (by kernel_rfl) (fun _ _ _ h => h) (Or.inl ⟨by rfl, ?_⟩) ?_ ?_
      rotate_left
      · intro w'
        go_simp
        with_reducible rfl
      rotate_left
      · simp only [Act.put, List.setIfInBounds_toArray, List.set_cons_zero, List.set_cons_succ, i64_w, i32_w]
        rfl
      refine take_ (i := 4) (N := (some 76)) (v := ?_) (a' := ?_) #[true, true, true, true, true, false, false, false, false, false, false, false] rfl rfl (by kernel_rfl) (fun _ _ _ h => h) (Or.inl ⟨by rfl, ?_⟩) hHeld ?_ ?_
      rotate_left
      · rintro w' ⟨s0, s1⟩
        go_simp
        with_reducible rfl
      rotate_left
      · simp only [Act.put, List.setIfInBounds_toArray, List.set_cons_zero, List.set_cons_succ, i64_w, i32_w]
        rfl
      refine join_ (σ := Nat) 2 #[true, true, true, true, true, true, true, true, true, true, false, false] (fun s_ => [(77, .tuple #[.agg Ja', .int .i64 fa]), (13, .pointer (some ⟨s_, 0, none⟩)), (71, .tuple #[.agg Ja', .int .i64 fa]), (78, .agg Ja'), (79, .int .i64 fa)]) (fun s_ w' => w'.heap[X_97]? = some (.cells Ja 32 (0, 0)) ∧ w'.heap[X_108]? = some (.cells Ra 30 (0, 0)) ∧ w'.heap[B0]? = some (.cells A0 28 (0, 0)) ∧ w'.heap[s_]? = some (.cells Z 32 (0, 0)) ∧ B0 ≤ s_ ∧ X_97 < s_ ∧ X_108 < s_ ∧ B0 < s_ ∧ Below B0 w w') ?_ ?_
      rotate_left
      · intro hCont
        refine two_ (i := 5) (j := 9) (Ni := some 77) (Nj := some 13) #[true, true, true, true, true, true, false, false, false, false, false, false] #[true, true, true, true, true, false, false, false, false, true, false, false] rfl rfl rfl rfl (by kernel_rfl) (by decide) (by decide) (fun K hK => ?_) (fun K hK => ?_)
        · skip
          refine goes_ Try.func16 (by kernel_rfl) rfl #[.agg Ja, .bool hit] (by rfl) rfl rfl (by (try simp only [List.map_toArray, List.map_cons, List.map_nil]); first | done | rfl) ?_
          refine (SA.out _ _ _ eJa.out eJa'.out).mono ?_
          rintro e V4 ⟨rfl, hb4⟩
          have Hp_j_4 : Hid (V4.heap[X_97]? = some (.cells Ja 32 (0, 0))) := Lib.hid ((hb4.block X_97 (blk_lt HJa.out)).trans HJa.out)
          have Hp_m_4 : Hid (V4.heap[X_108]? = some (.cells Ra 30 (0, 0))) := Lib.hid ((hb4.block X_108 (blk_lt HRa.out)).trans HRa.out)
          have Hp_t_4 : Hid (V4.heap[B0]? = some (.cells A0 28 (0, 0))) := Lib.hid ((hb4.block B0 (blk_lt HT.out)).trans HT.out)
          have HE4 : Hid (Below B0 w V4) := Lib.hid ((HE.out.drew).trans (hb4.mono (sz_le hB0.out HE.out.size)))
          refine ⟨_, rfl, ?_⟩
          refine hK.out _ _ ⟨Hp_j_4.out, hCX.out V4 HE4.out⟩ (fun hHeld => ?_)
          clear hK K
          refine norm_ (a' := ?_) ?_ ?_
          rotate_left
          · show Act.put _ (some 77) _ = _
            simp only [Act.put, List.setIfInBounds_toArray, List.set_cons_zero, List.set_cons_succ, i64_w, i32_w]
            rfl
          refine pure_ (i := 6) (N := (some 71)) (v := ?_) (a' := ?_) #[true, true, true, true, true, true, true, false, false, false, false, false] rfl rfl (by kernel_rfl) (fun _ _ _ h => h) (Or.inl ⟨by rfl, ?_⟩) ?_ ?_
          rotate_left
          · intro w'
            go_simp
            with_reducible rfl
          rotate_left
          · simp only [Act.put, List.setIfInBounds_toArray, List.set_cons_zero, List.set_cons_succ, i64_w, i32_w]
            rfl
          refine pure_ (i := 7) (N := (some 78)) (v := ?_) (a' := ?_) #[true, true, true, true, true, true, true, true, false, false, false, false] rfl rfl (by kernel_rfl) (fun _ _ _ h => h) (Or.inl ⟨by rfl, ?_⟩) ?_ ?_
          rotate_left
          · intro w'
            go_simp
            with_reducible rfl
          rotate_left
          · simp only [Act.put, List.setIfInBounds_toArray, List.set_cons_zero, List.set_cons_succ, i64_w, i32_w]
            rfl
          refine pure_ (i := 8) (N := (some 79)) (v := ?_) (a' := ?_) #[true, true, true, true, true, true, true, true, true, false, false, false] rfl rfl (by kernel_rfl) (fun _ _ _ h => h) (Or.inl ⟨by rfl, ?_⟩) ?_ ?_
          rotate_left
          · intro w'
            go_simp
            with_reducible rfl
          rotate_left
          · simp only [Act.put, List.setIfInBounds_toArray, List.set_cons_zero, List.set_cons_succ, i64_w, i32_w]
            rfl
          refine one_ (i := 9) (N := (some 13)) #[true, true, true, true, true, true, true, true, true, true, false, false] rfl rfl (by kernel_rfl) (by decide) (fun K hK => ?_)
          refine value_ (v := .pointer (some ⟨V4.heap.size, 0, none⟩)) (w1 := V4.alloc (.cells Z 32)) rfl rfl (by go_simp) ?_
          have HE6 : Hid (Below B0 w (V4.alloc (.cells Z 32))) := Lib.hid (HE4.out.alloc (sz_le hB0.out HE4.out.size) _)
          have Hp_j_6 : Hid ((V4.alloc (.cells Z 32)).heap[X_97]? = some (.cells Ja 32 (0, 0))) := Lib.hid (blk_alloc Hp_j_4.out _)
          have Hp_m_6 : Hid ((V4.alloc (.cells Z 32)).heap[X_108]? = some (.cells Ra 30 (0, 0))) := Lib.hid (blk_alloc Hp_m_4.out _)
          have Hp_t_6 : Hid ((V4.alloc (.cells Z 32)).heap[B0]? = some (.cells A0 28 (0, 0))) := Lib.hid (blk_alloc Hp_t_4.out _)
          refine hK.out _ _ ⟨Hp_j_6.out, hCX.out _ HE6.out⟩ (fun hHeld => ?_)
          clear hK K
          refine norm_ (a' := ?_) ?_ ?_
          rotate_left
          · show Act.put _ (some 13) _ = _
            simp only [Act.put, List.setIfInBounds_toArray, List.set_cons_zero, List.set_cons_succ, i64_w, i32_w]
            rfl
          exact norm_ (by simp only [putAll, Act.put, List.setIfInBounds_toArray, List.set_cons_zero, List.set_cons_succ]) (hCont V4.heap.size _ ⟨Hp_j_6.out, Hp_m_6.out, Hp_t_6.out, blk_new V4 _, (sz_le hB0.out HE4.out.size), blk_lt Hp_j_4.out, blk_lt Hp_m_4.out, blk_lt Hp_t_4.out, HE6.out⟩)
        · skip
          refine value_ (v := .pointer (some ⟨wr.heap.size, 0, none⟩)) (w1 := (wr.alloc (.cells Z 32)).drew) rfl rfl (by go_simp) ?_
          have HE4 : Hid (Below B0 w (wr.alloc (.cells Z 32)).drew) := Lib.hid ((HE.out.alloc (sz_le hB0.out HE.out.size) _).drew)
          have Hp_j_4 : Hid ((wr.alloc (.cells Z 32)).drew.heap[X_97]? = some (.cells Ja 32 (0, 0))) := Lib.hid (blk_alloc HJa.out _)
          have Hp_m_4 : Hid ((wr.alloc (.cells Z 32)).drew.heap[X_108]? = some (.cells Ra 30 (0, 0))) := Lib.hid (blk_alloc HRa.out _)
          have Hp_t_4 : Hid ((wr.alloc (.cells Z 32)).drew.heap[B0]? = some (.cells A0 28 (0, 0))) := Lib.hid (blk_alloc HT.out _)
          have HZ4 : Hid ((wr.alloc (.cells Z 32)).drew.heap[wr.heap.size]? = some (.cells Z 32 (0, 0))) := Lib.hid (blk_new wr _)
          refine hK.out _ _ ⟨Hp_j_4.out, hCX.out _ HE4.out⟩ (fun hHeld => ?_)
          clear hK K
          refine norm_ (a' := ?_) ?_ ?_
          rotate_left
          · show Act.put _ (some 13) _ = _
            simp only [Act.put, List.setIfInBounds_toArray, List.set_cons_zero, List.set_cons_succ, i64_w, i32_w]
            rfl
          refine one_ (i := 5) (N := (some 77)) #[true, true, true, true, true, true, false, false, false, true, false, false] rfl rfl (by kernel_rfl) (by decide) (fun K hK => ?_)
          refine goes_ Try.func16 (by kernel_rfl) rfl #[.agg Ja, .bool hit] (by rfl) rfl rfl (by (try simp only [List.map_toArray, List.map_cons, List.map_nil]); first | done | rfl) ?_
          refine (SA.out _ _ _ eJa.out eJa'.out).mono ?_
          rintro e V4 ⟨rfl, hb4⟩
          have Hp_j_6 : Hid (V4.heap[X_97]? = some (.cells Ja 32 (0, 0))) := Lib.hid ((hb4.block X_97 (blk_lt Hp_j_4.out)).trans Hp_j_4.out)
          have Hp_m_6 : Hid (V4.heap[X_108]? = some (.cells Ra 30 (0, 0))) := Lib.hid ((hb4.block X_108 (blk_lt Hp_m_4.out)).trans Hp_m_4.out)
          have Hp_t_6 : Hid (V4.heap[B0]? = some (.cells A0 28 (0, 0))) := Lib.hid ((hb4.block B0 (blk_lt Hp_t_4.out)).trans Hp_t_4.out)
          have HZ6 : Hid (V4.heap[wr.heap.size]? = some (.cells Z 32 (0, 0))) := Lib.hid ((hb4.block _ (blk_lt HZ4.out)).trans HZ4.out)
          have HE6 : Hid (Below B0 w V4) := Lib.hid (HE4.out.trans (hb4.mono (sz_le hB0.out HE4.out.size)))
          refine ⟨_, rfl, ?_⟩
          refine hK.out _ _ ⟨Hp_j_6.out, hCX.out V4 HE6.out⟩ (fun hHeld => ?_)
          clear hK K
          refine norm_ (a' := ?_) ?_ ?_
          rotate_left
          · show Act.put _ (some 77) _ = _
            simp only [Act.put, List.setIfInBounds_toArray, List.set_cons_zero, List.set_cons_succ, i64_w, i32_w]
            rfl
          refine pure_ (i := 6) (N := (some 71)) (v := ?_) (a' := ?_) #[true, true, true, true, true, true, true, false, false, true, false, false] rfl rfl (by kernel_rfl) (fun _ _ _ h => h) (Or.inl ⟨by rfl, ?_⟩) ?_ ?_
          rotate_left
          · intro w'
            go_simp
            with_reducible rfl
          rotate_left
          · simp only [Act.put, List.setIfInBounds_toArray, List.set_cons_zero, List.set_cons_succ, i64_w, i32_w]
            rfl
          refine pure_ (i := 7) (N := (some 78)) (v := ?_) (a' := ?_) #[true, true, true, true, true, true, true, true, false, true, false, false] rfl rfl (by kernel_rfl) (fun _ _ _ h => h) (Or.inl ⟨by rfl, ?_⟩) ?_ ?_
          rotate_left
          · intro w'
            go_simp
            with_reducible rfl
          rotate_left
          · simp only [Act.put, List.setIfInBounds_toArray, List.set_cons_zero, List.set_cons_succ, i64_w, i32_w]
            rfl
          refine pure_ (i := 8) (N := (some 79)) (v := ?_) (a' := ?_) #[true, true, true, true, true, true, true, true, true, true, false, false] rfl rfl (by kernel_rfl) (fun _ _ _ h => h) (Or.inl ⟨by rfl, ?_⟩) ?_ ?_
          rotate_left
          · intro w'
            go_simp
            with_reducible rfl
          rotate_left
          · simp only [Act.put, List.setIfInBounds_toArray, List.set_cons_zero, List.set_cons_succ, i64_w, i32_w]
            rfl
          exact norm_ (by simp only [putAll, Act.put, List.setIfInBounds_toArray, List.set_cons_zero, List.set_cons_succ]) (hCont wr.heap.size _ ⟨Hp_j_6.out, Hp_m_6.out, Hp_t_6.out, HZ6.out, (sz_le hB0.out HE.out.size), blk_lt HJa.out, blk_lt HRa.out, blk_lt HT.out, HE6.out⟩)
      rintro Xp V4p ⟨h0, h1, h2, hzz, gep, ltp_j, ltp_m, ltp_t, hbb⟩
      have Hp_j_4 := Lib.hid h0
      have Hp_m_4 := Lib.hid h1
      have Hp_t_4 := Lib.hid h2
      have HZ4 := Lib.hid hzz
      have HE4 := Lib.hid hbb
      clear hzz hbb h0 h1 h2
      have hHeld : V4p.heap[X_97]? = some (.cells Ja 32 (0, 0)) ∧ V4p.cell? ⟨b, off + k, none⟩ = some (.bool hit) := ⟨Hp_j_4.out, hCX.out V4p HE4.out⟩
      refine norm_ (a' := ?_) ?_ ?_
      rotate_left
      · simp only [putAll, Act.put, List.setIfInBounds_toArray, List.set_cons_zero, List.set_cons_succ]
        rfl
      refine one_ (i := 10) (N := none) #[true, true, true, true, true, true, true, true, true, true, true, false] rfl rfl (by kernel_rfl) (by decide) (fun K hK => ?_)
      obtain ⟨V5p, hst, hs1, hs2, hs3⟩ := st_any HZ4.out zZ.out zJa'.out oJa'.out
      refine skip_ (w1 := V5p) rfl rfl (by have hsz := zJa'.out; go_simp) ?_
      have HX5p : Hid (V5p.heap[Xp]? = some (.cells Ja' 32 (0, 0))) := Lib.hid hs1
      have Hp_j_5 : Hid (V5p.heap[X_97]? = some (.cells Ja 32 (0, 0))) := Lib.hid ((hs2 _ (Nat.ne_of_lt ltp_j)).trans Hp_j_4.out)
      have Hp_m_5 : Hid (V5p.heap[X_108]? = some (.cells Ra 30 (0, 0))) := Lib.hid ((hs2 _ (Nat.ne_of_lt ltp_m)).trans Hp_m_4.out)
      have Hp_t_5 : Hid (V5p.heap[B0]? = some (.cells A0 28 (0, 0))) := Lib.hid ((hs2 _ (Nat.ne_of_lt ltp_t)).trans Hp_t_4.out)
      have HE5p : Hid (Below B0 w V5p) := Lib.hid (hs3 _ _ gep HE4.out)
      refine hK.out _ _ ⟨Hp_j_5.out, hCX.out _ HE5p.out⟩ (fun hHeld => ?_)
      clear hst hs1 hs2 hs3 hK K
      refine pure_ (i := 11) (N := (some 14)) (v := ?_) (a' := ?_) #[true, true, true, true, true, true, true, true, true, true, true, true] rfl rfl (by kernel_rfl) (fun _ _ _ h => h) (Or.inl ⟨by rfl, ?_⟩) ?_ ?_
      rotate_left
      · intro w'
        go_simp
        with_reducible rfl
      rotate_left
      · simp only [Act.put, List.setIfInBounds_toArray, List.set_cons_zero, List.set_cons_succ, i64_w, i32_w]
        rfl
      refine done_ (by kernel_rfl) ?_
      clear hHeld HE4 HZ4 cxp HE HJa HRa HT Hp_j_4 Hp_m_4 Hp_t_4
      go_wp2_with fail
      have cxq := hCX.out V5p HE5p.out
      refine start_ (n := 12) (S := fun w' => w'.heap[X_108]? = some (.cells Ra 30 (0, 0)) ∧ w'.cell? ⟨b, off + k, none⟩ = some (.bool hit)) (ds := []) #[false, false, false, false, false, false, false, false, false, false, false, false] (by kernel_rfl) rfl rfl ⟨Hp_m_5.out, cxq⟩ (fun hHeld => ?_)
      refine take_ (i := 0) (N := (some 81)) (v := .agg Ra) (a' := ?_) #[true, false, false, false, false, false, false, false, false, false, false, false] rfl rfl (by kernel_rfl) (fun _ _ _ h => h) (Or.inl ⟨by rfl, ?_⟩) hHeld ?_ ?_
      · rintro w' ⟨s0, s1⟩
        exact ld_op 30 _ rfl X_108 rfl s0 Try.underlying30 rfl (by kernel_rfl) zRa.out
      rotate_left
      · simp only [Act.put, List.setIfInBounds_toArray, List.set_cons_zero, List.set_cons_succ, i64_w, i32_w]
        rfl
      refine pure_ (i := 1) (N := (some 82)) (v := ?_) (a' := ?_) #[true, true, false, false, false, false, false, false, false, false, false, false] rfl rfl (by kernel_rfl) (fun _ _ _ h => h) (Or.inl ⟨by rfl, ?_⟩) ?_ ?_
      rotate_left
      · intro w'
        go_simp
        with_reducible rfl
      rotate_left
      · simp only [Act.put, List.setIfInBounds_toArray, List.set_cons_zero, List.set_cons_succ, i64_w, i32_w]
        rfl
      refine pure_ (i := 2) (N := (some 83)) (v := ?_) (a' := ?_) #[true, true, true, false, false, false, false, false, false, false, false, false] rfl rfl (by kernel_rfl) (fun _ _ _ h => h) (Or.inl ⟨by rfl, ?_⟩) ?_ ?_
      rotate_left
      · intro w'
        go_simp
        with_reducible rfl
      rotate_left
      · simp only [Act.put, List.setIfInBounds_toArray, List.set_cons_zero, List.set_cons_succ, i64_w, i32_w]
        rfl
      refine pure_ (i := 3) (N := (some 84)) (v := ?_) (a' := ?_) #[true, true, true, true, false, false, false, false, false, false, false, false] rfl rfl (by kernel_rfl) (fun _ _ _ h => h) (Or.inl ⟨by rfl, ?_⟩) ?_ ?_
      rotate_left
      · intro w'
        go_simp
        with_reducible rfl
      rotate_left
      · simp only [Act.put, List.setIfInBounds_toArray, List.set_cons_zero, List.set_cons_succ, i64_w, i32_w]
        rfl
      refine take_ (i := 4) (N := (some 85)) (v := ?_) (a' := ?_) #[true, true, true, true, true, false, false, false, false, false, false, false] rfl rfl (by kernel_rfl) (fun _ _ _ h => h) (Or.inl ⟨by rfl, ?_⟩) hHeld ?_ ?_
      rotate_left
      · rintro w' ⟨s0, s1⟩
        go_simp
        with_reducible rfl
      rotate_left
      · simp only [Act.put, List.setIfInBounds_toArray, List.set_cons_zero, List.set_cons_succ, i64_w, i32_w]
        rfl
      refine join_ (σ := Nat) 2 #[true, true, true, true, true, true, true, true, true, true, false, false] (fun s_ => [(86, .tuple #[.agg Ru, .int .i64 e']), (15, .pointer (some ⟨s_, 0, none⟩)), (80, .tuple #[.agg Ru, .int .i64 e']), (87, .agg Ru), (88, .int .i64 e')]) (fun s_ w' => w'.heap[X_97]? = some (.cells Ja 32 (0, 0)) ∧ w'.heap[X_108]? = some (.cells Ra 30 (0, 0)) ∧ w'.heap[B0]? = some (.cells A0 28 (0, 0)) ∧ w'.heap[Xp]? = some (.cells Ja' 32 (0, 0)) ∧ w'.heap[s_]? = some (.cells ZR 30 (0, 0)) ∧ B0 ≤ s_ ∧ X_97 < s_ ∧ X_108 < s_ ∧ B0 < s_ ∧ Xp < s_ ∧ Below B0 w w') ?_ ?_
      rotate_left
      · intro hCont
        refine two_ (i := 5) (j := 9) (Ni := some 86) (Nj := some 15) #[true, true, true, true, true, true, false, false, false, false, false, false] #[true, true, true, true, true, false, false, false, false, true, false, false] rfl rfl rfl rfl (by kernel_rfl) (by decide) (by decide) (fun K hK => ?_) (fun K hK => ?_)
        · skip
          refine goes_ Try.func17 (by kernel_rfl) rfl #[.agg Ra, .bool hit] (by rfl) rfl rfl (by (try simp only [List.map_toArray, List.map_cons, List.map_nil]); first | done | rfl) ?_
          refine (SB.out _ _ _ eRa.out eRu.out).mono ?_
          rintro e V4 ⟨rfl, hb4⟩
          have Hq_j_4 : Hid (V4.heap[X_97]? = some (.cells Ja 32 (0, 0))) := Lib.hid ((hb4.block X_97 (blk_lt Hp_j_5.out)).trans Hp_j_5.out)
          have Hq_m_4 : Hid (V4.heap[X_108]? = some (.cells Ra 30 (0, 0))) := Lib.hid ((hb4.block X_108 (blk_lt Hp_m_5.out)).trans Hp_m_5.out)
          have Hq_t_4 : Hid (V4.heap[B0]? = some (.cells A0 28 (0, 0))) := Lib.hid ((hb4.block B0 (blk_lt Hp_t_5.out)).trans Hp_t_5.out)
          have Hq_xp_4 : Hid (V4.heap[Xp]? = some (.cells Ja' 32 (0, 0))) := Lib.hid ((hb4.block Xp (blk_lt HX5p.out)).trans HX5p.out)
          have HE4 : Hid (Below B0 w V4) := Lib.hid ((HE5p.out.drew).trans (hb4.mono (sz_le hB0.out HE5p.out.size)))
          refine ⟨_, rfl, ?_⟩
          refine hK.out _ _ ⟨Hq_m_4.out, hCX.out V4 HE4.out⟩ (fun hHeld => ?_)
          clear hK K
          refine norm_ (a' := ?_) ?_ ?_
          rotate_left
          · show Act.put _ (some 86) _ = _
            simp only [Act.put, List.setIfInBounds_toArray, List.set_cons_zero, List.set_cons_succ, i64_w, i32_w]
            rfl
          refine pure_ (i := 6) (N := (some 80)) (v := ?_) (a' := ?_) #[true, true, true, true, true, true, true, false, false, false, false, false] rfl rfl (by kernel_rfl) (fun _ _ _ h => h) (Or.inl ⟨by rfl, ?_⟩) ?_ ?_
          rotate_left
          · intro w'
            go_simp
            with_reducible rfl
          rotate_left
          · simp only [Act.put, List.setIfInBounds_toArray, List.set_cons_zero, List.set_cons_succ, i64_w, i32_w]
            rfl
          refine pure_ (i := 7) (N := (some 87)) (v := ?_) (a' := ?_) #[true, true, true, true, true, true, true, true, false, false, false, false] rfl rfl (by kernel_rfl) (fun _ _ _ h => h) (Or.inl ⟨by rfl, ?_⟩) ?_ ?_
          rotate_left
          · intro w'
            go_simp
            with_reducible rfl
          rotate_left
          · simp only [Act.put, List.setIfInBounds_toArray, List.set_cons_zero, List.set_cons_succ, i64_w, i32_w]
            rfl
          refine pure_ (i := 8) (N := (some 88)) (v := ?_) (a' := ?_) #[true, true, true, true, true, true, true, true, true, false, false, false] rfl rfl (by kernel_rfl) (fun _ _ _ h => h) (Or.inl ⟨by rfl, ?_⟩) ?_ ?_
          rotate_left
          · intro w'
            go_simp
            with_reducible rfl
          rotate_left
          · simp only [Act.put, List.setIfInBounds_toArray, List.set_cons_zero, List.set_cons_succ, i64_w, i32_w]
            rfl
          refine one_ (i := 9) (N := (some 15)) #[true, true, true, true, true, true, true, true, true, true, false, false] rfl rfl (by kernel_rfl) (by decide) (fun K hK => ?_)
          refine value_ (v := .pointer (some ⟨V4.heap.size, 0, none⟩)) (w1 := V4.alloc (.cells ZR 30)) rfl rfl (by go_simp) ?_
          have HE6 : Hid (Below B0 w (V4.alloc (.cells ZR 30))) := Lib.hid (HE4.out.alloc (sz_le hB0.out HE4.out.size) _)
          have Hq_j_6 : Hid ((V4.alloc (.cells ZR 30)).heap[X_97]? = some (.cells Ja 32 (0, 0))) := Lib.hid (blk_alloc Hq_j_4.out _)
          have Hq_m_6 : Hid ((V4.alloc (.cells ZR 30)).heap[X_108]? = some (.cells Ra 30 (0, 0))) := Lib.hid (blk_alloc Hq_m_4.out _)
          have Hq_t_6 : Hid ((V4.alloc (.cells ZR 30)).heap[B0]? = some (.cells A0 28 (0, 0))) := Lib.hid (blk_alloc Hq_t_4.out _)
          have Hq_xp_6 : Hid ((V4.alloc (.cells ZR 30)).heap[Xp]? = some (.cells Ja' 32 (0, 0))) := Lib.hid (blk_alloc Hq_xp_4.out _)
          refine hK.out _ _ ⟨Hq_m_6.out, hCX.out _ HE6.out⟩ (fun hHeld => ?_)
          clear hK K
          refine norm_ (a' := ?_) ?_ ?_
          rotate_left
          · show Act.put _ (some 15) _ = _
            simp only [Act.put, List.setIfInBounds_toArray, List.set_cons_zero, List.set_cons_succ, i64_w, i32_w]
            rfl
          exact norm_ (by simp only [putAll, Act.put, List.setIfInBounds_toArray, List.set_cons_zero, List.set_cons_succ]) (hCont V4.heap.size _ ⟨Hq_j_6.out, Hq_m_6.out, Hq_t_6.out, Hq_xp_6.out, blk_new V4 _, (sz_le hB0.out HE4.out.size), blk_lt Hq_j_4.out, blk_lt Hq_m_4.out, blk_lt Hq_t_4.out, blk_lt Hq_xp_4.out, HE6.out⟩)
        · skip
          refine value_ (v := .pointer (some ⟨V5p.heap.size, 0, none⟩)) (w1 := (V5p.alloc (.cells ZR 30)).drew) rfl rfl (by go_simp) ?_
          have HE4 : Hid (Below B0 w (V5p.alloc (.cells ZR 30)).drew) := Lib.hid ((HE5p.out.alloc (sz_le hB0.out HE5p.out.size) _).drew)
          have Hq_j_4 : Hid ((V5p.alloc (.cells ZR 30)).drew.heap[X_97]? = some (.cells Ja 32 (0, 0))) := Lib.hid (blk_alloc Hp_j_5.out _)
          have Hq_m_4 : Hid ((V5p.alloc (.cells ZR 30)).drew.heap[X_108]? = some (.cells Ra 30 (0, 0))) := Lib.hid (blk_alloc Hp_m_5.out _)
          have Hq_t_4 : Hid ((V5p.alloc (.cells ZR 30)).drew.heap[B0]? = some (.cells A0 28 (0, 0))) := Lib.hid (blk_alloc Hp_t_5.out _)
          have Hq_xp_4 : Hid ((V5p.alloc (.cells ZR 30)).drew.heap[Xp]? = some (.cells Ja' 32 (0, 0))) := Lib.hid (blk_alloc HX5p.out _)
          have HZ4 : Hid ((V5p.alloc (.cells ZR 30)).drew.heap[V5p.heap.size]? = some (.cells ZR 30 (0, 0))) := Lib.hid (blk_new V5p _)
          refine hK.out _ _ ⟨Hq_m_4.out, hCX.out _ HE4.out⟩ (fun hHeld => ?_)
          clear hK K
          refine norm_ (a' := ?_) ?_ ?_
          rotate_left
          · show Act.put _ (some 15) _ = _
            simp only [Act.put, List.setIfInBounds_toArray, List.set_cons_zero, List.set_cons_succ, i64_w, i32_w]
            rfl
          refine one_ (i := 5) (N := (some 86)) #[true, true, true, true, true, true, false, false, false, true, false, false] rfl rfl (by kernel_rfl) (by decide) (fun K hK => ?_)
          refine goes_ Try.func17 (by kernel_rfl) rfl #[.agg Ra, .bool hit] (by rfl) rfl rfl (by (try simp only [List.map_toArray, List.map_cons, List.map_nil]); first | done | rfl) ?_
          refine (SB.out _ _ _ eRa.out eRu.out).mono ?_
          rintro e V4 ⟨rfl, hb4⟩
          have Hq_j_6 : Hid (V4.heap[X_97]? = some (.cells Ja 32 (0, 0))) := Lib.hid ((hb4.block X_97 (blk_lt Hq_j_4.out)).trans Hq_j_4.out)
          have Hq_m_6 : Hid (V4.heap[X_108]? = some (.cells Ra 30 (0, 0))) := Lib.hid ((hb4.block X_108 (blk_lt Hq_m_4.out)).trans Hq_m_4.out)
          have Hq_t_6 : Hid (V4.heap[B0]? = some (.cells A0 28 (0, 0))) := Lib.hid ((hb4.block B0 (blk_lt Hq_t_4.out)).trans Hq_t_4.out)
          have Hq_xp_6 : Hid (V4.heap[Xp]? = some (.cells Ja' 32 (0, 0))) := Lib.hid ((hb4.block Xp (blk_lt Hq_xp_4.out)).trans Hq_xp_4.out)
          have HZ6 : Hid (V4.heap[V5p.heap.size]? = some (.cells ZR 30 (0, 0))) := Lib.hid ((hb4.block _ (blk_lt HZ4.out)).trans HZ4.out)
          have HE6 : Hid (Below B0 w V4) := Lib.hid (HE4.out.trans (hb4.mono (sz_le hB0.out HE4.out.size)))
          refine ⟨_, rfl, ?_⟩
          refine hK.out _ _ ⟨Hq_m_6.out, hCX.out V4 HE6.out⟩ (fun hHeld => ?_)
          clear hK K
          refine norm_ (a' := ?_) ?_ ?_
          rotate_left
          · show Act.put _ (some 86) _ = _
            simp only [Act.put, List.setIfInBounds_toArray, List.set_cons_zero, List.set_cons_succ, i64_w, i32_w]
            rfl
          refine pure_ (i := 6) (N := (some 80)) (v := ?_) (a' := ?_) #[true, true, true, true, true, true, true, false, false, true, false, false] rfl rfl (by kernel_rfl) (fun _ _ _ h => h) (Or.inl ⟨by rfl, ?_⟩) ?_ ?_
          rotate_left
          · intro w'
            go_simp
            with_reducible rfl
          rotate_left
          · simp only [Act.put, List.setIfInBounds_toArray, List.set_cons_zero, List.set_cons_succ, i64_w, i32_w]
            rfl
          refine pure_ (i := 7) (N := (some 87)) (v := ?_) (a' := ?_) #[true, true, true, true, true, true, true, true, false, true, false, false] rfl rfl (by kernel_rfl) (fun _ _ _ h => h) (Or.inl ⟨by rfl, ?_⟩) ?_ ?_
          rotate_left
          · intro w'
            go_simp
            with_reducible rfl
          rotate_left
          · simp only [Act.put, List.setIfInBounds_toArray, List.set_cons_zero, List.set_cons_succ, i64_w, i32_w]
            rfl
          refine pure_ (i := 8) (N := (some 88)) (v := ?_) (a' := ?_) #[true, true, true, true, true, true, true, true, true, true, false, false] rfl rfl (by kernel_rfl) (fun _ _ _ h => h) (Or.inl ⟨by rfl, ?_⟩) ?_ ?_
          rotate_left
          · intro w'
            go_simp
            with_reducible rfl
          rotate_left
          · simp only [Act.put, List.setIfInBounds_toArray, List.set_cons_zero, List.set_cons_succ, i64_w, i32_w]
            rfl
          exact norm_ (by simp only [putAll, Act.put, List.setIfInBounds_toArray, List.set_cons_zero, List.set_cons_succ]) (hCont V5p.heap.size _ ⟨Hq_j_6.out, Hq_m_6.out, Hq_t_6.out, Hq_xp_6.out, HZ6.out, (sz_le hB0.out HE5p.out.size), blk_lt Hp_j_5.out, blk_lt Hp_m_5.out, blk_lt Hp_t_5.out, blk_lt HX5p.out, HE6.out⟩)
      rintro Xq V4q ⟨h0, h1, h2, h3, hzz, geq, ltq_j, ltq_m, ltq_t, ltq_xp, hbb⟩
      have Hq_j_4 := Lib.hid h0
      have Hq_m_4 := Lib.hid h1
      have Hq_t_4 := Lib.hid h2
      have Hq_xp_4 := Lib.hid h3
      have HZ4 := Lib.hid hzz
      have HE4 := Lib.hid hbb
      clear hzz hbb h0 h1 h2 h3
      have hHeld : V4q.heap[X_108]? = some (.cells Ra 30 (0, 0)) ∧ V4q.cell? ⟨b, off + k, none⟩ = some (.bool hit) := ⟨Hq_m_4.out, hCX.out V4q HE4.out⟩
      refine norm_ (a' := ?_) ?_ ?_
      rotate_left
      · simp only [putAll, Act.put, List.setIfInBounds_toArray, List.set_cons_zero, List.set_cons_succ]
        rfl
      refine one_ (i := 10) (N := none) #[true, true, true, true, true, true, true, true, true, true, true, false] rfl rfl (by kernel_rfl) (by decide) (fun K hK => ?_)
      obtain ⟨V5q, hst, hs1, hs2, hs3⟩ := st_any HZ4.out zZR.out zRu.out oRu.out
      refine skip_ (w1 := V5q) rfl rfl (by have hsz := zRu.out; go_simp) ?_
      have HX5q : Hid (V5q.heap[Xq]? = some (.cells Ru 30 (0, 0))) := Lib.hid hs1
      have Hq_j_5 : Hid (V5q.heap[X_97]? = some (.cells Ja 32 (0, 0))) := Lib.hid ((hs2 _ (Nat.ne_of_lt ltq_j)).trans Hq_j_4.out)
      have Hq_m_5 : Hid (V5q.heap[X_108]? = some (.cells Ra 30 (0, 0))) := Lib.hid ((hs2 _ (Nat.ne_of_lt ltq_m)).trans Hq_m_4.out)
      have Hq_t_5 : Hid (V5q.heap[B0]? = some (.cells A0 28 (0, 0))) := Lib.hid ((hs2 _ (Nat.ne_of_lt ltq_t)).trans Hq_t_4.out)
      have Hq_xp_5 : Hid (V5q.heap[Xp]? = some (.cells Ja' 32 (0, 0))) := Lib.hid ((hs2 _ (Nat.ne_of_lt ltq_xp)).trans Hq_xp_4.out)
      have HE5q : Hid (Below B0 w V5q) := Lib.hid (hs3 _ _ geq HE4.out)
      refine hK.out _ _ ⟨Hq_m_5.out, hCX.out _ HE5q.out⟩ (fun hHeld => ?_)
      clear hst hs1 hs2 hs3 hK K
      refine pure_ (i := 11) (N := (some 16)) (v := ?_) (a' := ?_) #[true, true, true, true, true, true, true, true, true, true, true, true] rfl rfl (by kernel_rfl) (fun _ _ _ h => h) (Or.inl ⟨by rfl, ?_⟩) ?_ ?_
      rotate_left
      · intro w'
        go_simp
        with_reducible rfl
      rotate_left
      · simp only [Act.put, List.setIfInBounds_toArray, List.set_cons_zero, List.set_cons_succ, i64_w, i32_w]
        rfl
      refine done_ (by kernel_rfl) ?_
      clear hHeld HE4 HZ4 cxq HE5p Hp_j_5 Hp_m_5 Hp_t_5 HX5p Hq_j_4 Hq_m_4 Hq_t_4 Hq_xp_4
      go_upto_region 12 with (fail)
      by_cases he : e' = 4
      · have g4 : (e' == 4) = true := by rw [he]; rfl
        cases hov1 : ov with
        | true =>
          skip
          have c5 : V5q.cell? ⟨X_97, 5, none⟩ = some (.bool ov) := (blk_cell Hq_j_5.out 5).trans (by rw [eJa.out]; exact JJ_at _ _ _ _ _ _ _ _ _ _ 5 (by decide))
          obtain ⟨Rw, eRw⟩ : ∃ A, A = RA t n ⟨u.p, u.left, true, u.fl⟩ := ⟨_, rfl⟩
          have zRw : Hid (Rw.size = 16) := Lib.hid (by rw [eRw]; exact RA_size _ _ _)
          have oRw : Hid (Rw.all (·.oneCell') = true) := Lib.hid (by rw [eRw]; exact RA_one _ _ _)
          replace eRw := Lib.hid eRw
          have cp_122 : V5q.cell? ⟨Xq, 14, none⟩ = some (.bool u.str) := by rw [blk_cell HX5q.out]; exact (by rw [eRu.out]; simp [RA, TA])
          have zp_123 : V5q.frozen? ⟨Xq, 14, none⟩ = false := blk_frozen HX5q.out 14
          go_upto_region 14 with (fail)
          have H_124 : Hid ((V5q.setCell ⟨Xq, 14, none⟩ (.bool true)).heap[X_97]? = some (.cells Ja 32 (0, 0))) := Lib.hid (blk_far Hq_j_5.out (Nat.ne_of_lt ltq_j) _)
          have H_125 : Hid ((V5q.setCell ⟨Xq, 14, none⟩ (.bool true)).heap[X_108]? = some (.cells Ra 30 (0, 0))) := Lib.hid (blk_far Hq_m_5.out (Nat.ne_of_lt ltq_m) _)
          have H_126 : Hid ((V5q.setCell ⟨Xq, 14, none⟩ (.bool true)).heap[B0]? = some (.cells A0 28 (0, 0))) := Lib.hid (blk_far Hq_t_5.out (Nat.ne_of_lt ltq_t) _)
          have H_127 : Hid ((V5q.setCell ⟨Xq, 14, none⟩ (.bool true)).heap[Xp]? = some (.cells Ja' 32 (0, 0))) := Lib.hid (blk_far Hq_xp_5.out (Nat.ne_of_lt ltq_xp) _)
          have H_128 : Hid ((V5q.setCell ⟨Xq, 14, none⟩ (.bool true)).heap[Xq]? = some (.cells Rw 30 (0, 0))) := Lib.hid (blk_put HX5q.out 14 _ (by rw [eRu.out, eRw.out]; simp [RA, TA]))
          have HE_129 : Hid (Below B0 w (V5q.setCell ⟨Xq, 14, none⟩ (.bool true))) := Lib.hid (HE5q.out.setCell (p := ⟨Xq, 14, none⟩) geq _)
          clear cp_122 zp_123
          clear c5
          generalize (V5q.setCell ⟨Xq, 14, none⟩ (.bool true)) = V_121 at H_124 H_125 H_126 H_127 H_128 HE_129 ⊢
          clear HE5q Hq_j_5 Hq_m_5 Hq_t_5 Hq_xp_5 HX5q
          go_upto_region 18 with (fail)
          have hev : Hid (⟨u.p, u.left, true, u.fl⟩ = v) := Lib.hid (by have := hqa.out; rw [he, hov1, jx_over] at this; injection this)
          have hfa2 : fa = 2 := by have := hqa.out; rw [he, hov1, jx_over] at this; injection this with _ h; exact h.symm
          subst hfa2
          replace hev := hev.out
          rw [hev] at eRw
          have hvl : v.left = 0 := by rw [← hev]; exact (show u.left = 0 from tick_left (he ▸ TK.out))
          obtain ⟨lv, hlv⟩ : ∃ x, v.left = x := ⟨_, rfl⟩
          rw [hlv] at hvl
          subst hvl
          replace hlv := Lib.hid hlv
          clear hqa TK
          replace he := Lib.hid he
          obtain ⟨V_130, q_131_0, q_131_1, q_131_2, q_131_3⟩ := st_any H_124.out zJa.out zJa'.out oJa'.out
          have H_132 : Hid (V_130.heap[X_108]? = some (.cells Ra 30 (0, 0))) := Lib.hid ((q_131_2 _ (Nat.ne_of_gt ne_117)).trans H_125.out)
          have H_133 : Hid (V_130.heap[B0]? = some (.cells A0 28 (0, 0))) := Lib.hid ((q_131_2 _ (Nat.ne_of_lt ne_102)).trans H_126.out)
          have H_134 : Hid (V_130.heap[Xp]? = some (.cells Ja' 32 (0, 0))) := Lib.hid ((q_131_2 _ (Nat.ne_of_gt ltp_j)).trans H_127.out)
          have H_135 : Hid (V_130.heap[Xq]? = some (.cells Rw 30 (0, 0))) := Lib.hid ((q_131_2 _ (Nat.ne_of_gt ltq_j)).trans H_128.out)
          have HE_136 : Hid (Below B0 w V_130) := Lib.hid (q_131_3 _ _ ge_105 HE_129.out)
          have H_137 := Lib.hid q_131_1
          clear q_131_1 q_131_2 q_131_3
          go_upto_region 19 with (first | ((with_reducible refine wpl_gate (T := 32) rfl ?_); refine wpl_ld _ _ rfl (by rfl) Xp rfl H_127.out Try.underlying32 rfl (by kernel_rfl) zJa'.out ?_))
          clear q_131_0
          clear HE_129 H_125 H_126 H_127 H_128 H_124
          obtain ⟨V_138, q_139_0, q_139_1, q_139_2, q_139_3⟩ := st_any H_132.out zRa.out zRw.out oRw.out
          have H_140 : Hid (V_138.heap[X_97]? = some (.cells Ja' 32 (0, 0))) := Lib.hid ((q_139_2 _ (Nat.ne_of_lt ne_117)).trans H_137.out)
          have H_141 : Hid (V_138.heap[B0]? = some (.cells A0 28 (0, 0))) := Lib.hid ((q_139_2 _ (Nat.ne_of_lt ne_113)).trans H_133.out)
          have H_142 : Hid (V_138.heap[Xp]? = some (.cells Ja' 32 (0, 0))) := Lib.hid ((q_139_2 _ (Nat.ne_of_gt ltp_m)).trans H_134.out)
          have H_143 : Hid (V_138.heap[Xq]? = some (.cells Rw 30 (0, 0))) := Lib.hid ((q_139_2 _ (Nat.ne_of_gt ltq_m)).trans H_135.out)
          have HE_144 : Hid (Below B0 w V_138) := Lib.hid (q_139_3 _ _ ge_118 HE_136.out)
          have H_145 := Lib.hid q_139_1
          clear q_139_1 q_139_2 q_139_3
          go_upto_if 110 with (first | ((with_reducible refine wpl_gate (T := 30) rfl ?_); refine wpl_ld _ _ rfl (by rfl) Xq rfl H_135.out Try.underlying30 rfl (by kernel_rfl) zRw.out ?_))
          clear q_139_0
          clear HE_136 H_137 H_133 H_134 H_135 H_132
          obtain ⟨pv, hpv⟩ : ∃ p : Int, (v.p : Int) = p := ⟨_, rfl⟩
          obtain ⟨bd, hbd⟩ : ∃ b, bnd t must v = b := ⟨_, rfl⟩
          replace hpv := Lib.hid hpv
          replace hbd := Lib.hid hbd
          have ct9 : V_138.cell? ⟨B0, 9, none⟩ = some (.int .i64 t.f9) := by rw [blk_cell H_141.out, eA0.out]; rfl
          have cm12 : V_138.cell? ⟨X_108, 12, none⟩ = some (.int .i64 pv) := by rw [blk_cell H_145.out, eRw.out, ← hpv.out]; simp [RA, TA]
          go_cut [17] from 65 to 154 (fun b wx => b = .int .i64 bd ∧ wx = V_138)
          case first =>
            cases must with
            | false =>
              have hb2 : Hid (bd = 2) := Lib.hid (by rw [← hbd.out]; unfold bnd; rw [if_neg (by simp)])
              (go_wp2_with fail) <;> (go_meet; exact ⟨by rw [hb2.out], rfl⟩)
            | true =>
              by_cases h9 : t.f9 = 3
              · have h9b : (t.f9 == 3) = true := by simpa using h9
                by_cases hp : pv = 1
                · have hpb : (pv == 1) = true := by simpa using hp
                  have hb2 : Hid (bd = 0) := Lib.hid (by rw [← hbd.out]; unfold bnd; rw [if_pos rfl, if_pos ⟨h9, by rw [hpv.out]; exact hp⟩])
                  clear h9 hp
                  (go_wp2_with fail) <;> (go_meet; exact ⟨by rw [hb2.out], rfl⟩)
                · have hpb : (pv == 1) = false := by simpa using hp
                  have hb2 : Hid (bd = 1) := Lib.hid (by rw [← hbd.out]; unfold bnd; rw [if_pos rfl, if_neg (fun h => hp (by rw [← hpv.out]; exact h.2))])
                  clear h9 hp
                  (go_wp2_with fail) <;> (go_meet; exact ⟨by rw [hb2.out], rfl⟩)
              · have h9b : (t.f9 == 3) = false := by simpa using h9
                have hb2 : Hid (bd = 1) := Lib.hid (by rw [← hbd.out]; unfold bnd; rw [if_pos rfl, if_neg (fun h => h9 h.1)])
                clear h9
                (go_wp2_with fail) <;> (go_meet; exact ⟨by rw [hb2.out], rfl⟩)
          case rest =>
            obtain ⟨rfl, hwx⟩ := hcut
            replace hwx := hwx.symm
            subst hwx
            clear ct9 cm12
            obtain ⟨PP, ePP⟩ : ∃ P, P = JP 0 0 5 (5 + t.f2) must ov true := ⟨_, rfl⟩
            have zPP : Hid (PP.size = 7) := Lib.hid (by rw [ePP]; rfl)
            have hPP : Hid (PP ++ Rw = Ja') := Lib.hid (by rw [ePP, eRw.out, eJa'.out])
            replace ePP := Lib.hid ePP
            have hrs : ∀ W : World, (binOp .neq 30 (.agg Rw) (.agg Rw)).run Try.prog W = .ok (.bool false) W := fun W => run_same Rw t n v eRw.out W
            have hrg : ∀ (a b : Operand) (W : World), (eqGuard .neq 30 a b (.agg Rw) (.agg Rw)).run Try.prog W = .ok () W := run_guard Rw
            have c6 : V_138.cell? ⟨X_97, 6, none⟩ = some (.bool true) := (blk_cell H_140.out 6).trans (by rw [eJa'.out]; exact JJ_at _ _ _ _ _ _ _ _ _ _ 6 (by decide))
            have hbb : (bd != bd) = false := by simp
            have hfd : ∀ W : World, (Instr.field 38 (.agg #[.int .i64 bd, .int .i64 t.f10, .int .i64 5, .int .i64 0]) 0).run Try.prog W = .ok (.int .i64 bd) W := fun W => by kernel_rfl
            have tok1 : True := trivial
            have tok2 : True := trivial
            have tok3 : True := trivial
            go_wp2_with (first | (clear tok1; (with_reducible refine wpl_gate (T := 30) rfl ?_); refine wpl_ldm _ _ rfl (by rfl) X_97 7 rfl (P := PP) (A := Rw) (by rw [hPP.out]; exact H_140.out) zPP.out Try.underlying30 rfl (by kernel_rfl) zRw.out ?_) | (clear tok2; (with_reducible refine wpl_gate (T := 30) rfl ?_); refine wpl_ld _ _ rfl (by rfl) X_108 rfl H_145.out Try.underlying30 rfl (by kernel_rfl) zRw.out ?_) | (clear tok3; (with_reducible refine wpl_gate (T := 32) rfl ?_); refine wpl_ld _ _ rfl (by rfl) X_97 rfl H_140.out Try.underlying32 rfl (by kernel_rfl) zJa'.out ?_))
            refine (band_any _ _ _ _ _ _ _ _ _ _ _ _ eJa'.out _ hbd.out.symm).mono ?_; rintro e V_146 ⟨rfl, hb_147⟩
            have H_148 : Hid (V_146.heap[X_97]? = some (.cells Ja' 32 (0, 0))) := Lib.hid ((hb_147.block X_97 (blk_lt H_140.out)).trans H_140.out)
            have H_149 : Hid (V_146.heap[X_108]? = some (.cells Rw 30 (0, 0))) := Lib.hid ((hb_147.block X_108 (blk_lt H_145.out)).trans H_145.out)
            have H_150 : Hid (V_146.heap[B0]? = some (.cells A0 28 (0, 0))) := Lib.hid ((hb_147.block B0 (blk_lt H_141.out)).trans H_141.out)
            have H_151 : Hid (V_146.heap[Xp]? = some (.cells Ja' 32 (0, 0))) := Lib.hid ((hb_147.block Xp (blk_lt H_142.out)).trans H_142.out)
            have H_152 : Hid (V_146.heap[Xq]? = some (.cells Rw 30 (0, 0))) := Lib.hid ((hb_147.block Xq (blk_lt H_143.out)).trans H_143.out)
            have HE_153 : Hid (Below B0 w V_146) := Lib.hid (HE_144.out.trans (hb_147.mono (sz_le hB0.out HE_144.out.size)))
            clear c6
            clear HE_144 H_140 H_145 H_141 H_142 H_143
            clear hb_147
            have tok4 : True := trivial
            go_wp2_with (first | (clear tok4; (with_reducible refine wpl_gate (T := 32) rfl ?_); refine wpl_ld _ _ rfl (by rfl) X_97 rfl H_148.out Try.underlying32 rfl (by kernel_rfl) zJa'.out ?_))
            refine (keyj_c _ _ #[.int .i64 bd, .int .i64 t.f10, .int .i64 5, .int .i64 0] _ _ _ _ _ _ _ _ _ _ eJa'.out (by rw [hbd.out])).mono ?_; rintro e V_154 ⟨rfl, hb_155⟩
            have H_156 : Hid (V_154.heap[X_97]? = some (.cells Ja' 32 (0, 0))) := Lib.hid ((hb_155.block X_97 (blk_lt H_148.out)).trans H_148.out)
            have H_157 : Hid (V_154.heap[X_108]? = some (.cells Rw 30 (0, 0))) := Lib.hid ((hb_155.block X_108 (blk_lt H_149.out)).trans H_149.out)
            have H_158 : Hid (V_154.heap[B0]? = some (.cells A0 28 (0, 0))) := Lib.hid ((hb_155.block B0 (blk_lt H_150.out)).trans H_150.out)
            have H_159 : Hid (V_154.heap[Xp]? = some (.cells Ja' 32 (0, 0))) := Lib.hid ((hb_155.block Xp (blk_lt H_151.out)).trans H_151.out)
            have H_160 : Hid (V_154.heap[Xq]? = some (.cells Rw 30 (0, 0))) := Lib.hid ((hb_155.block Xq (blk_lt H_152.out)).trans H_152.out)
            have HE_161 : Hid (Below B0 w V_154) := Lib.hid (HE_153.out.trans (hb_155.mono (sz_le hB0.out HE_153.out.size)))
            clear HE_153 H_148 H_149 H_150 H_151 H_152
            clear hb_155
            clear hrs hrg
            have c13 : V_154.cell? ⟨X_108, 13, none⟩ = some (.int .i64 0) := by rw [blk_cell H_157.out, eRw.out]; simp [RA, TA, hlv.out]
            go_wp2_with fail
            go_ret
            exact ⟨rfl, HE_161.out⟩
        | false =>
          have hov1 : ¬ ov = true := by rw [hov1]; simp
          have g2 : (e' == 2) = false := by rw [he]; rfl
          have g3 : (e' == 3) = false := by rw [he]; rfl
          have c5 : V5q.cell? ⟨X_97, 5, none⟩ = some (.bool ov) := (blk_cell Hq_j_5.out 5).trans (by rw [eJa.out]; exact JJ_at _ _ _ _ _ _ _ _ _ _ 5 (by decide))
          go_upto_region 18 with (fail)
          clear c5
          have hev : v = u ∧ fa = e' := by
            have := hqa.out
            rw [jx_same (fun h => hov1 h.2) (fun h => by omega)] at this
            injection this with h1 h2
            exact ⟨h1.symm, h2.symm⟩
          obtain ⟨rfl, rfl⟩ := hev
          have hvl : v.left = 0 := tick_left (he ▸ TK.out)
          have h4 : (fa == 4) = true := by rw [he]; rfl
          obtain ⟨lv, hlv⟩ : ∃ x, v.left = x := ⟨_, rfl⟩
          rw [hlv] at hvl
          subst hvl
          replace hlv := Lib.hid hlv
          clear hqa TK
          replace he := Lib.hid he
          obtain ⟨V_162, q_163_0, q_163_1, q_163_2, q_163_3⟩ := st_any Hq_j_5.out zJa.out zJa'.out oJa'.out
          have H_164 : Hid (V_162.heap[X_108]? = some (.cells Ra 30 (0, 0))) := Lib.hid ((q_163_2 _ (Nat.ne_of_gt ne_117)).trans Hq_m_5.out)
          have H_165 : Hid (V_162.heap[B0]? = some (.cells A0 28 (0, 0))) := Lib.hid ((q_163_2 _ (Nat.ne_of_lt ne_102)).trans Hq_t_5.out)
          have H_166 : Hid (V_162.heap[Xp]? = some (.cells Ja' 32 (0, 0))) := Lib.hid ((q_163_2 _ (Nat.ne_of_gt ltp_j)).trans Hq_xp_5.out)
          have H_167 : Hid (V_162.heap[Xq]? = some (.cells Ru 30 (0, 0))) := Lib.hid ((q_163_2 _ (Nat.ne_of_gt ltq_j)).trans HX5q.out)
          have HE_168 : Hid (Below B0 w V_162) := Lib.hid (q_163_3 _ _ ge_105 HE5q.out)
          have H_169 := Lib.hid q_163_1
          clear q_163_1 q_163_2 q_163_3
          go_upto_region 19 with (first | ((with_reducible refine wpl_gate (T := 32) rfl ?_); refine wpl_ld _ _ rfl (by rfl) Xp rfl Hq_xp_5.out Try.underlying32 rfl (by kernel_rfl) zJa'.out ?_))
          clear q_163_0
          clear HE5q Hq_m_5 Hq_t_5 Hq_xp_5 HX5q Hq_j_5
          obtain ⟨V_170, q_171_0, q_171_1, q_171_2, q_171_3⟩ := st_any H_164.out zRa.out zRu.out oRu.out
          have H_172 : Hid (V_170.heap[X_97]? = some (.cells Ja' 32 (0, 0))) := Lib.hid ((q_171_2 _ (Nat.ne_of_lt ne_117)).trans H_169.out)
          have H_173 : Hid (V_170.heap[B0]? = some (.cells A0 28 (0, 0))) := Lib.hid ((q_171_2 _ (Nat.ne_of_lt ne_113)).trans H_165.out)
          have H_174 : Hid (V_170.heap[Xp]? = some (.cells Ja' 32 (0, 0))) := Lib.hid ((q_171_2 _ (Nat.ne_of_gt ltp_m)).trans H_166.out)
          have H_175 : Hid (V_170.heap[Xq]? = some (.cells Ru 30 (0, 0))) := Lib.hid ((q_171_2 _ (Nat.ne_of_gt ltq_m)).trans H_167.out)
          have HE_176 : Hid (Below B0 w V_170) := Lib.hid (q_171_3 _ _ ge_118 HE_168.out)
          have H_177 := Lib.hid q_171_1
          clear q_171_1 q_171_2 q_171_3
          go_upto_if 110 with (first | ((with_reducible refine wpl_gate (T := 30) rfl ?_); refine wpl_ld _ _ rfl (by rfl) Xq rfl H_167.out Try.underlying30 rfl (by kernel_rfl) zRu.out ?_))
          clear q_171_0
          clear HE_168 H_169 H_165 H_166 H_167 H_164
          obtain ⟨pv, hpv⟩ : ∃ p : Int, (v.p : Int) = p := ⟨_, rfl⟩
          obtain ⟨bd, hbd⟩ : ∃ b, bnd t must v = b := ⟨_, rfl⟩
          replace hpv := Lib.hid hpv
          replace hbd := Lib.hid hbd
          have ct9 : V_170.cell? ⟨B0, 9, none⟩ = some (.int .i64 t.f9) := by rw [blk_cell H_173.out, eA0.out]; rfl
          have cm12 : V_170.cell? ⟨X_108, 12, none⟩ = some (.int .i64 pv) := by rw [blk_cell H_177.out, eRu.out, ← hpv.out]; simp [RA, TA]
          go_cut [17] from 65 to 154 (fun b wx => b = .int .i64 bd ∧ wx = V_170)
          case first =>
            cases must with
            | false =>
              have hb2 : Hid (bd = 2) := Lib.hid (by rw [← hbd.out]; unfold bnd; rw [if_neg (by simp)])
              (go_wp2_with fail) <;> (go_meet; exact ⟨by rw [hb2.out], rfl⟩)
            | true =>
              by_cases h9 : t.f9 = 3
              · have h9b : (t.f9 == 3) = true := by simpa using h9
                by_cases hp : pv = 1
                · have hpb : (pv == 1) = true := by simpa using hp
                  have hb2 : Hid (bd = 0) := Lib.hid (by rw [← hbd.out]; unfold bnd; rw [if_pos rfl, if_pos ⟨h9, by rw [hpv.out]; exact hp⟩])
                  clear h9 hp
                  (go_wp2_with fail) <;> (go_meet; exact ⟨by rw [hb2.out], rfl⟩)
                · have hpb : (pv == 1) = false := by simpa using hp
                  have hb2 : Hid (bd = 1) := Lib.hid (by rw [← hbd.out]; unfold bnd; rw [if_pos rfl, if_neg (fun h => hp (by rw [← hpv.out]; exact h.2))])
                  clear h9 hp
                  (go_wp2_with fail) <;> (go_meet; exact ⟨by rw [hb2.out], rfl⟩)
              · have h9b : (t.f9 == 3) = false := by simpa using h9
                have hb2 : Hid (bd = 1) := Lib.hid (by rw [← hbd.out]; unfold bnd; rw [if_pos rfl, if_neg (fun h => h9 h.1)])
                clear h9
                (go_wp2_with fail) <;> (go_meet; exact ⟨by rw [hb2.out], rfl⟩)
          case rest =>
            obtain ⟨rfl, hwx⟩ := hcut
            replace hwx := hwx.symm
            subst hwx
            clear ct9 cm12
            obtain ⟨PP, ePP⟩ : ∃ P, P = JP 0 0 5 (5 + t.f2) must ov true := ⟨_, rfl⟩
            have zPP : Hid (PP.size = 7) := Lib.hid (by rw [ePP]; rfl)
            have hPP : Hid (PP ++ Ru = Ja') := Lib.hid (by rw [ePP, eRu.out, eJa'.out])
            replace ePP := Lib.hid ePP
            have hrs : ∀ W : World, (binOp .neq 30 (.agg Ru) (.agg Ru)).run Try.prog W = .ok (.bool false) W := fun W => run_same Ru t n v eRu.out W
            have hrg : ∀ (a b : Operand) (W : World), (eqGuard .neq 30 a b (.agg Ru) (.agg Ru)).run Try.prog W = .ok () W := run_guard Ru
            have c6 : V_170.cell? ⟨X_97, 6, none⟩ = some (.bool true) := (blk_cell H_172.out 6).trans (by rw [eJa'.out]; exact JJ_at _ _ _ _ _ _ _ _ _ _ 6 (by decide))
            have hbb : (bd != bd) = false := by simp
            have hfd : ∀ W : World, (Instr.field 38 (.agg #[.int .i64 bd, .int .i64 t.f10, .int .i64 5, .int .i64 0]) 0).run Try.prog W = .ok (.int .i64 bd) W := fun W => by kernel_rfl
            have tok5 : True := trivial
            have tok6 : True := trivial
            have tok7 : True := trivial
            go_wp2_with (first | (clear tok5; (with_reducible refine wpl_gate (T := 30) rfl ?_); refine wpl_ldm _ _ rfl (by rfl) X_97 7 rfl (P := PP) (A := Ru) (by rw [hPP.out]; exact H_172.out) zPP.out Try.underlying30 rfl (by kernel_rfl) zRu.out ?_) | (clear tok6; (with_reducible refine wpl_gate (T := 30) rfl ?_); refine wpl_ld _ _ rfl (by rfl) X_108 rfl H_177.out Try.underlying30 rfl (by kernel_rfl) zRu.out ?_) | (clear tok7; (with_reducible refine wpl_gate (T := 32) rfl ?_); refine wpl_ld _ _ rfl (by rfl) X_97 rfl H_172.out Try.underlying32 rfl (by kernel_rfl) zJa'.out ?_))
            refine (band_any _ _ _ _ _ _ _ _ _ _ _ _ eJa'.out _ hbd.out.symm).mono ?_; rintro e V_178 ⟨rfl, hb_179⟩
            have H_180 : Hid (V_178.heap[X_97]? = some (.cells Ja' 32 (0, 0))) := Lib.hid ((hb_179.block X_97 (blk_lt H_172.out)).trans H_172.out)
            have H_181 : Hid (V_178.heap[X_108]? = some (.cells Ru 30 (0, 0))) := Lib.hid ((hb_179.block X_108 (blk_lt H_177.out)).trans H_177.out)
            have H_182 : Hid (V_178.heap[B0]? = some (.cells A0 28 (0, 0))) := Lib.hid ((hb_179.block B0 (blk_lt H_173.out)).trans H_173.out)
            have H_183 : Hid (V_178.heap[Xp]? = some (.cells Ja' 32 (0, 0))) := Lib.hid ((hb_179.block Xp (blk_lt H_174.out)).trans H_174.out)
            have H_184 : Hid (V_178.heap[Xq]? = some (.cells Ru 30 (0, 0))) := Lib.hid ((hb_179.block Xq (blk_lt H_175.out)).trans H_175.out)
            have HE_185 : Hid (Below B0 w V_178) := Lib.hid (HE_176.out.trans (hb_179.mono (sz_le hB0.out HE_176.out.size)))
            clear c6
            clear HE_176 H_172 H_177 H_173 H_174 H_175
            clear hb_179
            have tok8 : True := trivial
            go_wp2_with (first | (clear tok8; (with_reducible refine wpl_gate (T := 32) rfl ?_); refine wpl_ld _ _ rfl (by rfl) X_97 rfl H_180.out Try.underlying32 rfl (by kernel_rfl) zJa'.out ?_))
            refine (keyj_c _ _ #[.int .i64 bd, .int .i64 t.f10, .int .i64 5, .int .i64 0] _ _ _ _ _ _ _ _ _ _ eJa'.out (by rw [hbd.out])).mono ?_; rintro e V_186 ⟨rfl, hb_187⟩
            have H_188 : Hid (V_186.heap[X_97]? = some (.cells Ja' 32 (0, 0))) := Lib.hid ((hb_187.block X_97 (blk_lt H_180.out)).trans H_180.out)
            have H_189 : Hid (V_186.heap[X_108]? = some (.cells Ru 30 (0, 0))) := Lib.hid ((hb_187.block X_108 (blk_lt H_181.out)).trans H_181.out)
            have H_190 : Hid (V_186.heap[B0]? = some (.cells A0 28 (0, 0))) := Lib.hid ((hb_187.block B0 (blk_lt H_182.out)).trans H_182.out)
            have H_191 : Hid (V_186.heap[Xp]? = some (.cells Ja' 32 (0, 0))) := Lib.hid ((hb_187.block Xp (blk_lt H_183.out)).trans H_183.out)
            have H_192 : Hid (V_186.heap[Xq]? = some (.cells Ru 30 (0, 0))) := Lib.hid ((hb_187.block Xq (blk_lt H_184.out)).trans H_184.out)
            have HE_193 : Hid (Below B0 w V_186) := Lib.hid (HE_185.out.trans (hb_187.mono (sz_le hB0.out HE_185.out.size)))
            clear HE_185 H_180 H_181 H_182 H_183 H_184
            clear hb_187
            clear hrs hrg
            have c13 : V_186.cell? ⟨X_108, 13, none⟩ = some (.int .i64 0) := by rw [blk_cell H_189.out, eRu.out]; simp [RA, TA, hlv.out]
            go_wp2_with fail
            go_ret
            exact ⟨rfl, HE_193.out⟩
      · have g4 : (e' == 4) = false := by rw [beq_eq_false_iff_ne]; exact he
        by_cases hnd : (e' = 2 ∨ e' = 3) ∧ must = false
        · obtain ⟨h23, hmu⟩ := hnd
          rcases h23 with h2 | h3
          · skip
            clear he
            have he := h2
            clear h2
            have g2 : (e' == 2) = true := by rw [he]; rfl
            have c5 : V5q.cell? ⟨X_97, 5, none⟩ = some (.bool ov) := (blk_cell Hq_j_5.out 5).trans (by rw [eJa.out]; exact JJ_at _ _ _ _ _ _ _ _ _ _ 5 (by decide))
            obtain ⟨Rw, eRw⟩ : ∃ A, A = RA t n ⟨u.p, 0, u.str, u.fl⟩ := ⟨_, rfl⟩
            have zRw : Hid (Rw.size = 16) := Lib.hid (by rw [eRw]; exact RA_size _ _ _)
            have oRw : Hid (Rw.all (·.oneCell') = true) := Lib.hid (by rw [eRw]; exact RA_one _ _ _)
            replace eRw := Lib.hid eRw
            have cp_195 : V5q.cell? ⟨Xq, 13, none⟩ = some (.int .i64 u.left) := by rw [blk_cell HX5q.out]; exact (by rw [eRu.out]; simp [RA, TA])
            have zp_196 : V5q.frozen? ⟨Xq, 13, none⟩ = false := blk_frozen HX5q.out 13
            go_upto_region 17 with (fail)
            have H_197 : Hid ((V5q.setCell ⟨Xq, 13, none⟩ (.int .i64 0)).heap[X_97]? = some (.cells Ja 32 (0, 0))) := Lib.hid (blk_far Hq_j_5.out (Nat.ne_of_lt ltq_j) _)
            have H_198 : Hid ((V5q.setCell ⟨Xq, 13, none⟩ (.int .i64 0)).heap[X_108]? = some (.cells Ra 30 (0, 0))) := Lib.hid (blk_far Hq_m_5.out (Nat.ne_of_lt ltq_m) _)
            have H_199 : Hid ((V5q.setCell ⟨Xq, 13, none⟩ (.int .i64 0)).heap[B0]? = some (.cells A0 28 (0, 0))) := Lib.hid (blk_far Hq_t_5.out (Nat.ne_of_lt ltq_t) _)
            have H_200 : Hid ((V5q.setCell ⟨Xq, 13, none⟩ (.int .i64 0)).heap[Xp]? = some (.cells Ja' 32 (0, 0))) := Lib.hid (blk_far Hq_xp_5.out (Nat.ne_of_lt ltq_xp) _)
            have H_201 : Hid ((V5q.setCell ⟨Xq, 13, none⟩ (.int .i64 0)).heap[Xq]? = some (.cells Rw 30 (0, 0))) := Lib.hid (blk_put HX5q.out 13 _ (by rw [eRu.out, eRw.out]; simp [RA, TA]))
            have HE_202 : Hid (Below B0 w (V5q.setCell ⟨Xq, 13, none⟩ (.int .i64 0))) := Lib.hid (HE5q.out.setCell (p := ⟨Xq, 13, none⟩) geq _)
            clear cp_195 zp_196
            clear c5
            generalize (V5q.setCell ⟨Xq, 13, none⟩ (.int .i64 0)) = V_194 at H_197 H_198 H_199 H_200 H_201 HE_202 ⊢
            clear HE5q Hq_j_5 Hq_m_5 Hq_t_5 Hq_xp_5 HX5q
            go_upto_region 18 with (fail)
            have hev : Hid (⟨u.p, 0, u.str, u.fl⟩ = v) := Lib.hid (by have := hqa.out; rw [he, hmu, jx_drop (by decide)] at this; injection this)
            have hfa2 : fa = 2 := by have := hqa.out; rw [he, hmu, jx_drop (by decide)] at this; injection this with _ h; exact h.symm
            subst hfa2
            replace hev := hev.out
            rw [hev] at eRw
            have hvl : v.left = 0 := by rw [← hev]
            replace hmu := Lib.hid hmu
            obtain ⟨lv, hlv⟩ : ∃ x, v.left = x := ⟨_, rfl⟩
            rw [hlv] at hvl
            subst hvl
            replace hlv := Lib.hid hlv
            clear hqa TK
            replace he := Lib.hid he
            obtain ⟨V_203, q_204_0, q_204_1, q_204_2, q_204_3⟩ := st_any H_197.out zJa.out zJa'.out oJa'.out
            have H_205 : Hid (V_203.heap[X_108]? = some (.cells Ra 30 (0, 0))) := Lib.hid ((q_204_2 _ (Nat.ne_of_gt ne_117)).trans H_198.out)
            have H_206 : Hid (V_203.heap[B0]? = some (.cells A0 28 (0, 0))) := Lib.hid ((q_204_2 _ (Nat.ne_of_lt ne_102)).trans H_199.out)
            have H_207 : Hid (V_203.heap[Xp]? = some (.cells Ja' 32 (0, 0))) := Lib.hid ((q_204_2 _ (Nat.ne_of_gt ltp_j)).trans H_200.out)
            have H_208 : Hid (V_203.heap[Xq]? = some (.cells Rw 30 (0, 0))) := Lib.hid ((q_204_2 _ (Nat.ne_of_gt ltq_j)).trans H_201.out)
            have HE_209 : Hid (Below B0 w V_203) := Lib.hid (q_204_3 _ _ ge_105 HE_202.out)
            have H_210 := Lib.hid q_204_1
            clear q_204_1 q_204_2 q_204_3
            go_upto_region 19 with (first | ((with_reducible refine wpl_gate (T := 32) rfl ?_); refine wpl_ld _ _ rfl (by rfl) Xp rfl H_200.out Try.underlying32 rfl (by kernel_rfl) zJa'.out ?_))
            clear q_204_0
            clear HE_202 H_198 H_199 H_200 H_201 H_197
            obtain ⟨V_211, q_212_0, q_212_1, q_212_2, q_212_3⟩ := st_any H_205.out zRa.out zRw.out oRw.out
            have H_213 : Hid (V_211.heap[X_97]? = some (.cells Ja' 32 (0, 0))) := Lib.hid ((q_212_2 _ (Nat.ne_of_lt ne_117)).trans H_210.out)
            have H_214 : Hid (V_211.heap[B0]? = some (.cells A0 28 (0, 0))) := Lib.hid ((q_212_2 _ (Nat.ne_of_lt ne_113)).trans H_206.out)
            have H_215 : Hid (V_211.heap[Xp]? = some (.cells Ja' 32 (0, 0))) := Lib.hid ((q_212_2 _ (Nat.ne_of_gt ltp_m)).trans H_207.out)
            have H_216 : Hid (V_211.heap[Xq]? = some (.cells Rw 30 (0, 0))) := Lib.hid ((q_212_2 _ (Nat.ne_of_gt ltq_m)).trans H_208.out)
            have HE_217 : Hid (Below B0 w V_211) := Lib.hid (q_212_3 _ _ ge_118 HE_209.out)
            have H_218 := Lib.hid q_212_1
            clear q_212_1 q_212_2 q_212_3
            go_upto_if 110 with (first | ((with_reducible refine wpl_gate (T := 30) rfl ?_); refine wpl_ld _ _ rfl (by rfl) Xq rfl H_208.out Try.underlying30 rfl (by kernel_rfl) zRw.out ?_))
            clear q_212_0
            clear HE_209 H_210 H_206 H_207 H_208 H_205
            obtain ⟨pv, hpv⟩ : ∃ p : Int, (v.p : Int) = p := ⟨_, rfl⟩
            obtain ⟨bd, hbd⟩ : ∃ b, bnd t must v = b := ⟨_, rfl⟩
            replace hpv := Lib.hid hpv
            replace hbd := Lib.hid hbd
            have ct9 : V_211.cell? ⟨B0, 9, none⟩ = some (.int .i64 t.f9) := by rw [blk_cell H_214.out, eA0.out]; rfl
            have cm12 : V_211.cell? ⟨X_108, 12, none⟩ = some (.int .i64 pv) := by rw [blk_cell H_218.out, eRw.out, ← hpv.out]; simp [RA, TA]
            go_cut [17] from 65 to 154 (fun b wx => b = .int .i64 bd ∧ wx = V_211)
            case first =>
              cases must with
              | false =>
                have hb2 : Hid (bd = 2) := Lib.hid (by rw [← hbd.out]; unfold bnd; rw [if_neg (by simp)])
                (go_wp2_with fail) <;> (go_meet; exact ⟨by rw [hb2.out], rfl⟩)
              | true =>
                by_cases h9 : t.f9 = 3
                · have h9b : (t.f9 == 3) = true := by simpa using h9
                  by_cases hp : pv = 1
                  · have hpb : (pv == 1) = true := by simpa using hp
                    have hb2 : Hid (bd = 0) := Lib.hid (by rw [← hbd.out]; unfold bnd; rw [if_pos rfl, if_pos ⟨h9, by rw [hpv.out]; exact hp⟩])
                    clear h9 hp
                    (go_wp2_with fail) <;> (go_meet; exact ⟨by rw [hb2.out], rfl⟩)
                  · have hpb : (pv == 1) = false := by simpa using hp
                    have hb2 : Hid (bd = 1) := Lib.hid (by rw [← hbd.out]; unfold bnd; rw [if_pos rfl, if_neg (fun h => hp (by rw [← hpv.out]; exact h.2))])
                    clear h9 hp
                    (go_wp2_with fail) <;> (go_meet; exact ⟨by rw [hb2.out], rfl⟩)
                · have h9b : (t.f9 == 3) = false := by simpa using h9
                  have hb2 : Hid (bd = 1) := Lib.hid (by rw [← hbd.out]; unfold bnd; rw [if_pos rfl, if_neg (fun h => h9 h.1)])
                  clear h9
                  (go_wp2_with fail) <;> (go_meet; exact ⟨by rw [hb2.out], rfl⟩)
            case rest =>
              obtain ⟨rfl, hwx⟩ := hcut
              replace hwx := hwx.symm
              subst hwx
              clear ct9 cm12
              obtain ⟨PP, ePP⟩ : ∃ P, P = JP 0 0 5 (5 + t.f2) must ov true := ⟨_, rfl⟩
              have zPP : Hid (PP.size = 7) := Lib.hid (by rw [ePP]; rfl)
              have hPP : Hid (PP ++ Rw = Ja') := Lib.hid (by rw [ePP, eRw.out, eJa'.out])
              replace ePP := Lib.hid ePP
              have hrs : ∀ W : World, (binOp .neq 30 (.agg Rw) (.agg Rw)).run Try.prog W = .ok (.bool false) W := fun W => run_same Rw t n v eRw.out W
              have hrg : ∀ (a b : Operand) (W : World), (eqGuard .neq 30 a b (.agg Rw) (.agg Rw)).run Try.prog W = .ok () W := run_guard Rw
              have c6 : V_211.cell? ⟨X_97, 6, none⟩ = some (.bool true) := (blk_cell H_213.out 6).trans (by rw [eJa'.out]; exact JJ_at _ _ _ _ _ _ _ _ _ _ 6 (by decide))
              have hbb : (bd != bd) = false := by simp
              have hfd : ∀ W : World, (Instr.field 38 (.agg #[.int .i64 bd, .int .i64 t.f10, .int .i64 5, .int .i64 0]) 0).run Try.prog W = .ok (.int .i64 bd) W := fun W => by kernel_rfl
              have tok9 : True := trivial
              have tok10 : True := trivial
              have tok11 : True := trivial
              go_wp2_with (first | (clear tok9; (with_reducible refine wpl_gate (T := 30) rfl ?_); refine wpl_ldm _ _ rfl (by rfl) X_97 7 rfl (P := PP) (A := Rw) (by rw [hPP.out]; exact H_213.out) zPP.out Try.underlying30 rfl (by kernel_rfl) zRw.out ?_) | (clear tok10; (with_reducible refine wpl_gate (T := 30) rfl ?_); refine wpl_ld _ _ rfl (by rfl) X_108 rfl H_218.out Try.underlying30 rfl (by kernel_rfl) zRw.out ?_) | (clear tok11; (with_reducible refine wpl_gate (T := 32) rfl ?_); refine wpl_ld _ _ rfl (by rfl) X_97 rfl H_213.out Try.underlying32 rfl (by kernel_rfl) zJa'.out ?_))
              refine (band_any _ _ _ _ _ _ _ _ _ _ _ _ eJa'.out _ hbd.out.symm).mono ?_; rintro e V_219 ⟨rfl, hb_220⟩
              have H_221 : Hid (V_219.heap[X_97]? = some (.cells Ja' 32 (0, 0))) := Lib.hid ((hb_220.block X_97 (blk_lt H_213.out)).trans H_213.out)
              have H_222 : Hid (V_219.heap[X_108]? = some (.cells Rw 30 (0, 0))) := Lib.hid ((hb_220.block X_108 (blk_lt H_218.out)).trans H_218.out)
              have H_223 : Hid (V_219.heap[B0]? = some (.cells A0 28 (0, 0))) := Lib.hid ((hb_220.block B0 (blk_lt H_214.out)).trans H_214.out)
              have H_224 : Hid (V_219.heap[Xp]? = some (.cells Ja' 32 (0, 0))) := Lib.hid ((hb_220.block Xp (blk_lt H_215.out)).trans H_215.out)
              have H_225 : Hid (V_219.heap[Xq]? = some (.cells Rw 30 (0, 0))) := Lib.hid ((hb_220.block Xq (blk_lt H_216.out)).trans H_216.out)
              have HE_226 : Hid (Below B0 w V_219) := Lib.hid (HE_217.out.trans (hb_220.mono (sz_le hB0.out HE_217.out.size)))
              clear c6
              clear HE_217 H_213 H_218 H_214 H_215 H_216
              clear hb_220
              have tok12 : True := trivial
              go_wp2_with (first | (clear tok12; (with_reducible refine wpl_gate (T := 32) rfl ?_); refine wpl_ld _ _ rfl (by rfl) X_97 rfl H_221.out Try.underlying32 rfl (by kernel_rfl) zJa'.out ?_))
              refine (keyj_c _ _ #[.int .i64 bd, .int .i64 t.f10, .int .i64 5, .int .i64 0] _ _ _ _ _ _ _ _ _ _ eJa'.out (by rw [hbd.out])).mono ?_; rintro e V_227 ⟨rfl, hb_228⟩
              have H_229 : Hid (V_227.heap[X_97]? = some (.cells Ja' 32 (0, 0))) := Lib.hid ((hb_228.block X_97 (blk_lt H_221.out)).trans H_221.out)
              have H_230 : Hid (V_227.heap[X_108]? = some (.cells Rw 30 (0, 0))) := Lib.hid ((hb_228.block X_108 (blk_lt H_222.out)).trans H_222.out)
              have H_231 : Hid (V_227.heap[B0]? = some (.cells A0 28 (0, 0))) := Lib.hid ((hb_228.block B0 (blk_lt H_223.out)).trans H_223.out)
              have H_232 : Hid (V_227.heap[Xp]? = some (.cells Ja' 32 (0, 0))) := Lib.hid ((hb_228.block Xp (blk_lt H_224.out)).trans H_224.out)
              have H_233 : Hid (V_227.heap[Xq]? = some (.cells Rw 30 (0, 0))) := Lib.hid ((hb_228.block Xq (blk_lt H_225.out)).trans H_225.out)
              have HE_234 : Hid (Below B0 w V_227) := Lib.hid (HE_226.out.trans (hb_228.mono (sz_le hB0.out HE_226.out.size)))
              clear HE_226 H_221 H_222 H_223 H_224 H_225
              clear hb_228
              clear hrs hrg
              have c13 : V_227.cell? ⟨X_108, 13, none⟩ = some (.int .i64 0) := by rw [blk_cell H_230.out, eRw.out]; simp [RA, TA, hlv.out]
              go_wp2_with fail
              go_ret
              exact ⟨rfl, HE_234.out⟩
          · skip
            clear he
            have he := h3
            clear h3
            have g2 : (e' == 2) = false := by rw [he]; rfl
            have g3 : (e' == 3) = true := by rw [he]; rfl
            have c5 : V5q.cell? ⟨X_97, 5, none⟩ = some (.bool ov) := (blk_cell Hq_j_5.out 5).trans (by rw [eJa.out]; exact JJ_at _ _ _ _ _ _ _ _ _ _ 5 (by decide))
            obtain ⟨Rw, eRw⟩ : ∃ A, A = RA t n ⟨u.p, 0, u.str, u.fl⟩ := ⟨_, rfl⟩
            have zRw : Hid (Rw.size = 16) := Lib.hid (by rw [eRw]; exact RA_size _ _ _)
            have oRw : Hid (Rw.all (·.oneCell') = true) := Lib.hid (by rw [eRw]; exact RA_one _ _ _)
            replace eRw := Lib.hid eRw
            have cp_236 : V5q.cell? ⟨Xq, 13, none⟩ = some (.int .i64 u.left) := by rw [blk_cell HX5q.out]; exact (by rw [eRu.out]; simp [RA, TA])
            have zp_237 : V5q.frozen? ⟨Xq, 13, none⟩ = false := blk_frozen HX5q.out 13
            go_upto_region 17 with (fail)
            have H_238 : Hid ((V5q.setCell ⟨Xq, 13, none⟩ (.int .i64 0)).heap[X_97]? = some (.cells Ja 32 (0, 0))) := Lib.hid (blk_far Hq_j_5.out (Nat.ne_of_lt ltq_j) _)
            have H_239 : Hid ((V5q.setCell ⟨Xq, 13, none⟩ (.int .i64 0)).heap[X_108]? = some (.cells Ra 30 (0, 0))) := Lib.hid (blk_far Hq_m_5.out (Nat.ne_of_lt ltq_m) _)
            have H_240 : Hid ((V5q.setCell ⟨Xq, 13, none⟩ (.int .i64 0)).heap[B0]? = some (.cells A0 28 (0, 0))) := Lib.hid (blk_far Hq_t_5.out (Nat.ne_of_lt ltq_t) _)
            have H_241 : Hid ((V5q.setCell ⟨Xq, 13, none⟩ (.int .i64 0)).heap[Xp]? = some (.cells Ja' 32 (0, 0))) := Lib.hid (blk_far Hq_xp_5.out (Nat.ne_of_lt ltq_xp) _)
            have H_242 : Hid ((V5q.setCell ⟨Xq, 13, none⟩ (.int .i64 0)).heap[Xq]? = some (.cells Rw 30 (0, 0))) := Lib.hid (blk_put HX5q.out 13 _ (by rw [eRu.out, eRw.out]; simp [RA, TA]))
            have HE_243 : Hid (Below B0 w (V5q.setCell ⟨Xq, 13, none⟩ (.int .i64 0))) := Lib.hid (HE5q.out.setCell (p := ⟨Xq, 13, none⟩) geq _)
            clear cp_236 zp_237
            clear c5
            generalize (V5q.setCell ⟨Xq, 13, none⟩ (.int .i64 0)) = V_235 at H_238 H_239 H_240 H_241 H_242 HE_243 ⊢
            clear HE5q Hq_j_5 Hq_m_5 Hq_t_5 Hq_xp_5 HX5q
            go_upto_region 18 with (fail)
            have hev : Hid (⟨u.p, 0, u.str, u.fl⟩ = v) := Lib.hid (by have := hqa.out; rw [he, hmu, jx_drop (by decide)] at this; injection this)
            have hfa2 : fa = 2 := by have := hqa.out; rw [he, hmu, jx_drop (by decide)] at this; injection this with _ h; exact h.symm
            subst hfa2
            replace hev := hev.out
            rw [hev] at eRw
            have hvl : v.left = 0 := by rw [← hev]
            replace hmu := Lib.hid hmu
            obtain ⟨lv, hlv⟩ : ∃ x, v.left = x := ⟨_, rfl⟩
            rw [hlv] at hvl
            subst hvl
            replace hlv := Lib.hid hlv
            clear hqa TK
            replace he := Lib.hid he
            obtain ⟨V_244, q_245_0, q_245_1, q_245_2, q_245_3⟩ := st_any H_238.out zJa.out zJa'.out oJa'.out
            have H_246 : Hid (V_244.heap[X_108]? = some (.cells Ra 30 (0, 0))) := Lib.hid ((q_245_2 _ (Nat.ne_of_gt ne_117)).trans H_239.out)
            have H_247 : Hid (V_244.heap[B0]? = some (.cells A0 28 (0, 0))) := Lib.hid ((q_245_2 _ (Nat.ne_of_lt ne_102)).trans H_240.out)
            have H_248 : Hid (V_244.heap[Xp]? = some (.cells Ja' 32 (0, 0))) := Lib.hid ((q_245_2 _ (Nat.ne_of_gt ltp_j)).trans H_241.out)
            have H_249 : Hid (V_244.heap[Xq]? = some (.cells Rw 30 (0, 0))) := Lib.hid ((q_245_2 _ (Nat.ne_of_gt ltq_j)).trans H_242.out)
            have HE_250 : Hid (Below B0 w V_244) := Lib.hid (q_245_3 _ _ ge_105 HE_243.out)
            have H_251 := Lib.hid q_245_1
            clear q_245_1 q_245_2 q_245_3
            go_upto_region 19 with (first | ((with_reducible refine wpl_gate (T := 32) rfl ?_); refine wpl_ld _ _ rfl (by rfl) Xp rfl H_241.out Try.underlying32 rfl (by kernel_rfl) zJa'.out ?_))
            clear q_245_0
            clear HE_243 H_239 H_240 H_241 H_242 H_238
            obtain ⟨V_252, q_253_0, q_253_1, q_253_2, q_253_3⟩ := st_any H_246.out zRa.out zRw.out oRw.out
            have H_254 : Hid (V_252.heap[X_97]? = some (.cells Ja' 32 (0, 0))) := Lib.hid ((q_253_2 _ (Nat.ne_of_lt ne_117)).trans H_251.out)
            have H_255 : Hid (V_252.heap[B0]? = some (.cells A0 28 (0, 0))) := Lib.hid ((q_253_2 _ (Nat.ne_of_lt ne_113)).trans H_247.out)
            have H_256 : Hid (V_252.heap[Xp]? = some (.cells Ja' 32 (0, 0))) := Lib.hid ((q_253_2 _ (Nat.ne_of_gt ltp_m)).trans H_248.out)
            have H_257 : Hid (V_252.heap[Xq]? = some (.cells Rw 30 (0, 0))) := Lib.hid ((q_253_2 _ (Nat.ne_of_gt ltq_m)).trans H_249.out)
            have HE_258 : Hid (Below B0 w V_252) := Lib.hid (q_253_3 _ _ ge_118 HE_250.out)
            have H_259 := Lib.hid q_253_1
            clear q_253_1 q_253_2 q_253_3
            go_upto_if 110 with (first | ((with_reducible refine wpl_gate (T := 30) rfl ?_); refine wpl_ld _ _ rfl (by rfl) Xq rfl H_249.out Try.underlying30 rfl (by kernel_rfl) zRw.out ?_))
            clear q_253_0
            clear HE_250 H_251 H_247 H_248 H_249 H_246
            obtain ⟨pv, hpv⟩ : ∃ p : Int, (v.p : Int) = p := ⟨_, rfl⟩
            obtain ⟨bd, hbd⟩ : ∃ b, bnd t must v = b := ⟨_, rfl⟩
            replace hpv := Lib.hid hpv
            replace hbd := Lib.hid hbd
            have ct9 : V_252.cell? ⟨B0, 9, none⟩ = some (.int .i64 t.f9) := by rw [blk_cell H_255.out, eA0.out]; rfl
            have cm12 : V_252.cell? ⟨X_108, 12, none⟩ = some (.int .i64 pv) := by rw [blk_cell H_259.out, eRw.out, ← hpv.out]; simp [RA, TA]
            go_cut [17] from 65 to 154 (fun b wx => b = .int .i64 bd ∧ wx = V_252)
            case first =>
              cases must with
              | false =>
                have hb2 : Hid (bd = 2) := Lib.hid (by rw [← hbd.out]; unfold bnd; rw [if_neg (by simp)])
                (go_wp2_with fail) <;> (go_meet; exact ⟨by rw [hb2.out], rfl⟩)
              | true =>
                by_cases h9 : t.f9 = 3
                · have h9b : (t.f9 == 3) = true := by simpa using h9
                  by_cases hp : pv = 1
                  · have hpb : (pv == 1) = true := by simpa using hp
                    have hb2 : Hid (bd = 0) := Lib.hid (by rw [← hbd.out]; unfold bnd; rw [if_pos rfl, if_pos ⟨h9, by rw [hpv.out]; exact hp⟩])
                    clear h9 hp
                    (go_wp2_with fail) <;> (go_meet; exact ⟨by rw [hb2.out], rfl⟩)
                  · have hpb : (pv == 1) = false := by simpa using hp
                    have hb2 : Hid (bd = 1) := Lib.hid (by rw [← hbd.out]; unfold bnd; rw [if_pos rfl, if_neg (fun h => hp (by rw [← hpv.out]; exact h.2))])
                    clear h9 hp
                    (go_wp2_with fail) <;> (go_meet; exact ⟨by rw [hb2.out], rfl⟩)
                · have h9b : (t.f9 == 3) = false := by simpa using h9
                  have hb2 : Hid (bd = 1) := Lib.hid (by rw [← hbd.out]; unfold bnd; rw [if_pos rfl, if_neg (fun h => h9 h.1)])
                  clear h9
                  (go_wp2_with fail) <;> (go_meet; exact ⟨by rw [hb2.out], rfl⟩)
            case rest =>
              obtain ⟨rfl, hwx⟩ := hcut
              replace hwx := hwx.symm
              subst hwx
              clear ct9 cm12
              obtain ⟨PP, ePP⟩ : ∃ P, P = JP 0 0 5 (5 + t.f2) must ov true := ⟨_, rfl⟩
              have zPP : Hid (PP.size = 7) := Lib.hid (by rw [ePP]; rfl)
              have hPP : Hid (PP ++ Rw = Ja') := Lib.hid (by rw [ePP, eRw.out, eJa'.out])
              replace ePP := Lib.hid ePP
              have hrs : ∀ W : World, (binOp .neq 30 (.agg Rw) (.agg Rw)).run Try.prog W = .ok (.bool false) W := fun W => run_same Rw t n v eRw.out W
              have hrg : ∀ (a b : Operand) (W : World), (eqGuard .neq 30 a b (.agg Rw) (.agg Rw)).run Try.prog W = .ok () W := run_guard Rw
              have c6 : V_252.cell? ⟨X_97, 6, none⟩ = some (.bool true) := (blk_cell H_254.out 6).trans (by rw [eJa'.out]; exact JJ_at _ _ _ _ _ _ _ _ _ _ 6 (by decide))
              have hbb : (bd != bd) = false := by simp
              have hfd : ∀ W : World, (Instr.field 38 (.agg #[.int .i64 bd, .int .i64 t.f10, .int .i64 5, .int .i64 0]) 0).run Try.prog W = .ok (.int .i64 bd) W := fun W => by kernel_rfl
              have tok13 : True := trivial
              have tok14 : True := trivial
              have tok15 : True := trivial
              go_wp2_with (first | (clear tok13; (with_reducible refine wpl_gate (T := 30) rfl ?_); refine wpl_ldm _ _ rfl (by rfl) X_97 7 rfl (P := PP) (A := Rw) (by rw [hPP.out]; exact H_254.out) zPP.out Try.underlying30 rfl (by kernel_rfl) zRw.out ?_) | (clear tok14; (with_reducible refine wpl_gate (T := 30) rfl ?_); refine wpl_ld _ _ rfl (by rfl) X_108 rfl H_259.out Try.underlying30 rfl (by kernel_rfl) zRw.out ?_) | (clear tok15; (with_reducible refine wpl_gate (T := 32) rfl ?_); refine wpl_ld _ _ rfl (by rfl) X_97 rfl H_254.out Try.underlying32 rfl (by kernel_rfl) zJa'.out ?_))
              refine (band_any _ _ _ _ _ _ _ _ _ _ _ _ eJa'.out _ hbd.out.symm).mono ?_; rintro e V_260 ⟨rfl, hb_261⟩
              have H_262 : Hid (V_260.heap[X_97]? = some (.cells Ja' 32 (0, 0))) := Lib.hid ((hb_261.block X_97 (blk_lt H_254.out)).trans H_254.out)
              have H_263 : Hid (V_260.heap[X_108]? = some (.cells Rw 30 (0, 0))) := Lib.hid ((hb_261.block X_108 (blk_lt H_259.out)).trans H_259.out)
              have H_264 : Hid (V_260.heap[B0]? = some (.cells A0 28 (0, 0))) := Lib.hid ((hb_261.block B0 (blk_lt H_255.out)).trans H_255.out)
              have H_265 : Hid (V_260.heap[Xp]? = some (.cells Ja' 32 (0, 0))) := Lib.hid ((hb_261.block Xp (blk_lt H_256.out)).trans H_256.out)
              have H_266 : Hid (V_260.heap[Xq]? = some (.cells Rw 30 (0, 0))) := Lib.hid ((hb_261.block Xq (blk_lt H_257.out)).trans H_257.out)
              have HE_267 : Hid (Below B0 w V_260) := Lib.hid (HE_258.out.trans (hb_261.mono (sz_le hB0.out HE_258.out.size)))
              clear c6
              clear HE_258 H_254 H_259 H_255 H_256 H_257
              clear hb_261
              have tok16 : True := trivial
              go_wp2_with (first | (clear tok16; (with_reducible refine wpl_gate (T := 32) rfl ?_); refine wpl_ld _ _ rfl (by rfl) X_97 rfl H_262.out Try.underlying32 rfl (by kernel_rfl) zJa'.out ?_))
              refine (keyj_c _ _ #[.int .i64 bd, .int .i64 t.f10, .int .i64 5, .int .i64 0] _ _ _ _ _ _ _ _ _ _ eJa'.out (by rw [hbd.out])).mono ?_; rintro e V_268 ⟨rfl, hb_269⟩
              have H_270 : Hid (V_268.heap[X_97]? = some (.cells Ja' 32 (0, 0))) := Lib.hid ((hb_269.block X_97 (blk_lt H_262.out)).trans H_262.out)
              have H_271 : Hid (V_268.heap[X_108]? = some (.cells Rw 30 (0, 0))) := Lib.hid ((hb_269.block X_108 (blk_lt H_263.out)).trans H_263.out)
              have H_272 : Hid (V_268.heap[B0]? = some (.cells A0 28 (0, 0))) := Lib.hid ((hb_269.block B0 (blk_lt H_264.out)).trans H_264.out)
              have H_273 : Hid (V_268.heap[Xp]? = some (.cells Ja' 32 (0, 0))) := Lib.hid ((hb_269.block Xp (blk_lt H_265.out)).trans H_265.out)
              have H_274 : Hid (V_268.heap[Xq]? = some (.cells Rw 30 (0, 0))) := Lib.hid ((hb_269.block Xq (blk_lt H_266.out)).trans H_266.out)
              have HE_275 : Hid (Below B0 w V_268) := Lib.hid (HE_267.out.trans (hb_269.mono (sz_le hB0.out HE_267.out.size)))
              clear HE_267 H_262 H_263 H_264 H_265 H_266
              clear hb_269
              clear hrs hrg
              have c13 : V_268.cell? ⟨X_108, 13, none⟩ = some (.int .i64 0) := by rw [blk_cell H_271.out, eRw.out]; simp [RA, TA, hlv.out]
              go_wp2_with fail
              go_ret
              exact ⟨rfl, HE_275.out⟩
        · skip
          by_cases h2 : e' = 2
          · skip
            have g2 : (e' == 2) = true := by rw [h2]; rfl
            have hnm : (!must) = false := by cases must with | true => rfl | false => exact absurd ⟨.inl h2, rfl⟩ hnd
            replace h2 := Lib.hid h2
            have c5 : V5q.cell? ⟨X_97, 5, none⟩ = some (.bool ov) := (blk_cell Hq_j_5.out 5).trans (by rw [eJa.out]; exact JJ_at _ _ _ _ _ _ _ _ _ _ 5 (by decide))
            go_upto_region 18 with (fail)
            clear c5
            have hev : v = u ∧ fa = e' := by
              have := hqa.out
              rw [jx_same (fun h => he h.1) (hnd)] at this
              injection this with h1 h2
              exact ⟨h1.symm, h2.symm⟩
            obtain ⟨rfl, rfl⟩ := hev
            have NX := tick_go TK.out he
            have hvl := NX.1.2.2
            obtain ⟨lv, hlv⟩ : ∃ x, v.left = x := ⟨_, rfl⟩
            rw [hlv] at hvl
            have hlz : (lv == 0) = false := by rw [beq_eq_false_iff_ne]; omega
            clear hvl
            replace NX := Lib.hid NX
            replace hlv := Lib.hid hlv
            clear hqa TK
            replace he := Lib.hid he
            obtain ⟨V_276, q_277_0, q_277_1, q_277_2, q_277_3⟩ := st_any Hq_j_5.out zJa.out zJa'.out oJa'.out
            have H_278 : Hid (V_276.heap[X_108]? = some (.cells Ra 30 (0, 0))) := Lib.hid ((q_277_2 _ (Nat.ne_of_gt ne_117)).trans Hq_m_5.out)
            have H_279 : Hid (V_276.heap[B0]? = some (.cells A0 28 (0, 0))) := Lib.hid ((q_277_2 _ (Nat.ne_of_lt ne_102)).trans Hq_t_5.out)
            have H_280 : Hid (V_276.heap[Xp]? = some (.cells Ja' 32 (0, 0))) := Lib.hid ((q_277_2 _ (Nat.ne_of_gt ltp_j)).trans Hq_xp_5.out)
            have H_281 : Hid (V_276.heap[Xq]? = some (.cells Ru 30 (0, 0))) := Lib.hid ((q_277_2 _ (Nat.ne_of_gt ltq_j)).trans HX5q.out)
            have HE_282 : Hid (Below B0 w V_276) := Lib.hid (q_277_3 _ _ ge_105 HE5q.out)
            have H_283 := Lib.hid q_277_1
            clear q_277_1 q_277_2 q_277_3
            go_upto_region 19 with (first | ((with_reducible refine wpl_gate (T := 32) rfl ?_); refine wpl_ld _ _ rfl (by rfl) Xp rfl Hq_xp_5.out Try.underlying32 rfl (by kernel_rfl) zJa'.out ?_))
            clear q_277_0
            clear HE5q Hq_m_5 Hq_t_5 Hq_xp_5 HX5q Hq_j_5
            obtain ⟨V_284, q_285_0, q_285_1, q_285_2, q_285_3⟩ := st_any H_278.out zRa.out zRu.out oRu.out
            have H_286 : Hid (V_284.heap[X_97]? = some (.cells Ja' 32 (0, 0))) := Lib.hid ((q_285_2 _ (Nat.ne_of_lt ne_117)).trans H_283.out)
            have H_287 : Hid (V_284.heap[B0]? = some (.cells A0 28 (0, 0))) := Lib.hid ((q_285_2 _ (Nat.ne_of_lt ne_113)).trans H_279.out)
            have H_288 : Hid (V_284.heap[Xp]? = some (.cells Ja' 32 (0, 0))) := Lib.hid ((q_285_2 _ (Nat.ne_of_gt ltp_m)).trans H_280.out)
            have H_289 : Hid (V_284.heap[Xq]? = some (.cells Ru 30 (0, 0))) := Lib.hid ((q_285_2 _ (Nat.ne_of_gt ltq_m)).trans H_281.out)
            have HE_290 : Hid (Below B0 w V_284) := Lib.hid (q_285_3 _ _ ge_118 HE_282.out)
            have H_291 := Lib.hid q_285_1
            clear q_285_1 q_285_2 q_285_3
            go_upto_if 110 with (first | ((with_reducible refine wpl_gate (T := 30) rfl ?_); refine wpl_ld _ _ rfl (by rfl) Xq rfl H_281.out Try.underlying30 rfl (by kernel_rfl) zRu.out ?_))
            clear q_285_0
            clear HE_282 H_283 H_279 H_280 H_281 H_278
            obtain ⟨pv, hpv⟩ : ∃ p : Int, (v.p : Int) = p := ⟨_, rfl⟩
            obtain ⟨bd, hbd⟩ : ∃ b, bnd t must v = b := ⟨_, rfl⟩
            replace hpv := Lib.hid hpv
            replace hbd := Lib.hid hbd
            have ct9 : V_284.cell? ⟨B0, 9, none⟩ = some (.int .i64 t.f9) := by rw [blk_cell H_287.out, eA0.out]; rfl
            have cm12 : V_284.cell? ⟨X_108, 12, none⟩ = some (.int .i64 pv) := by rw [blk_cell H_291.out, eRu.out, ← hpv.out]; simp [RA, TA]
            go_cut [17] from 65 to 154 (fun b wx => b = .int .i64 bd ∧ wx = V_284)
            case first =>
              cases must with
              | false =>
                have hb2 : Hid (bd = 2) := Lib.hid (by rw [← hbd.out]; unfold bnd; rw [if_neg (by simp)])
                (go_wp2_with fail) <;> (go_meet; exact ⟨by rw [hb2.out], rfl⟩)
              | true =>
                by_cases h9 : t.f9 = 3
                · have h9b : (t.f9 == 3) = true := by simpa using h9
                  by_cases hp : pv = 1
                  · have hpb : (pv == 1) = true := by simpa using hp
                    have hb2 : Hid (bd = 0) := Lib.hid (by rw [← hbd.out]; unfold bnd; rw [if_pos rfl, if_pos ⟨h9, by rw [hpv.out]; exact hp⟩])
                    clear h9 hp
                    (go_wp2_with fail) <;> (go_meet; exact ⟨by rw [hb2.out], rfl⟩)
                  · have hpb : (pv == 1) = false := by simpa using hp
                    have hb2 : Hid (bd = 1) := Lib.hid (by rw [← hbd.out]; unfold bnd; rw [if_pos rfl, if_neg (fun h => hp (by rw [← hpv.out]; exact h.2))])
                    clear h9 hp
                    (go_wp2_with fail) <;> (go_meet; exact ⟨by rw [hb2.out], rfl⟩)
                · have h9b : (t.f9 == 3) = false := by simpa using h9
                  have hb2 : Hid (bd = 1) := Lib.hid (by rw [← hbd.out]; unfold bnd; rw [if_pos rfl, if_neg (fun h => h9 h.1)])
                  clear h9
                  (go_wp2_with fail) <;> (go_meet; exact ⟨by rw [hb2.out], rfl⟩)
            case rest =>
              obtain ⟨rfl, hwx⟩ := hcut
              replace hwx := hwx.symm
              subst hwx
              clear ct9 cm12
              obtain ⟨PP, ePP⟩ : ∃ P, P = JP 0 0 5 (5 + t.f2) must ov true := ⟨_, rfl⟩
              have zPP : Hid (PP.size = 7) := Lib.hid (by rw [ePP]; rfl)
              have hPP : Hid (PP ++ Ru = Ja') := Lib.hid (by rw [ePP, eRu.out, eJa'.out])
              replace ePP := Lib.hid ePP
              have hrs : ∀ W : World, (binOp .neq 30 (.agg Ru) (.agg Ru)).run Try.prog W = .ok (.bool false) W := fun W => run_same Ru t n v eRu.out W
              have hrg : ∀ (a b : Operand) (W : World), (eqGuard .neq 30 a b (.agg Ru) (.agg Ru)).run Try.prog W = .ok () W := run_guard Ru
              have c6 : V_284.cell? ⟨X_97, 6, none⟩ = some (.bool true) := (blk_cell H_286.out 6).trans (by rw [eJa'.out]; exact JJ_at _ _ _ _ _ _ _ _ _ _ 6 (by decide))
              have hbb : (bd != bd) = false := by simp
              have hfd : ∀ W : World, (Instr.field 38 (.agg #[.int .i64 bd, .int .i64 t.f10, .int .i64 5, .int .i64 0]) 0).run Try.prog W = .ok (.int .i64 bd) W := fun W => by kernel_rfl
              have tok17 : True := trivial
              have tok18 : True := trivial
              have tok19 : True := trivial
              go_wp2_with (first | (clear tok17; (with_reducible refine wpl_gate (T := 30) rfl ?_); refine wpl_ldm _ _ rfl (by rfl) X_97 7 rfl (P := PP) (A := Ru) (by rw [hPP.out]; exact H_286.out) zPP.out Try.underlying30 rfl (by kernel_rfl) zRu.out ?_) | (clear tok18; (with_reducible refine wpl_gate (T := 30) rfl ?_); refine wpl_ld _ _ rfl (by rfl) X_108 rfl H_291.out Try.underlying30 rfl (by kernel_rfl) zRu.out ?_) | (clear tok19; (with_reducible refine wpl_gate (T := 32) rfl ?_); refine wpl_ld _ _ rfl (by rfl) X_97 rfl H_286.out Try.underlying32 rfl (by kernel_rfl) zJa'.out ?_))
              refine (band_any _ _ _ _ _ _ _ _ _ _ _ _ eJa'.out _ hbd.out.symm).mono ?_; rintro e V_292 ⟨rfl, hb_293⟩
              have H_294 : Hid (V_292.heap[X_97]? = some (.cells Ja' 32 (0, 0))) := Lib.hid ((hb_293.block X_97 (blk_lt H_286.out)).trans H_286.out)
              have H_295 : Hid (V_292.heap[X_108]? = some (.cells Ru 30 (0, 0))) := Lib.hid ((hb_293.block X_108 (blk_lt H_291.out)).trans H_291.out)
              have H_296 : Hid (V_292.heap[B0]? = some (.cells A0 28 (0, 0))) := Lib.hid ((hb_293.block B0 (blk_lt H_287.out)).trans H_287.out)
              have H_297 : Hid (V_292.heap[Xp]? = some (.cells Ja' 32 (0, 0))) := Lib.hid ((hb_293.block Xp (blk_lt H_288.out)).trans H_288.out)
              have H_298 : Hid (V_292.heap[Xq]? = some (.cells Ru 30 (0, 0))) := Lib.hid ((hb_293.block Xq (blk_lt H_289.out)).trans H_289.out)
              have HE_299 : Hid (Below B0 w V_292) := Lib.hid (HE_290.out.trans (hb_293.mono (sz_le hB0.out HE_290.out.size)))
              clear c6
              clear HE_290 H_286 H_291 H_287 H_288 H_289
              clear hb_293
              have tok20 : True := trivial
              go_wp2_with (first | (clear tok20; (with_reducible refine wpl_gate (T := 32) rfl ?_); refine wpl_ld _ _ rfl (by rfl) X_97 rfl H_294.out Try.underlying32 rfl (by kernel_rfl) zJa'.out ?_))
              refine (keyj_c _ _ #[.int .i64 bd, .int .i64 t.f10, .int .i64 5, .int .i64 0] _ _ _ _ _ _ _ _ _ _ eJa'.out (by rw [hbd.out])).mono ?_; rintro e V_300 ⟨rfl, hb_301⟩
              have H_302 : Hid (V_300.heap[X_97]? = some (.cells Ja' 32 (0, 0))) := Lib.hid ((hb_301.block X_97 (blk_lt H_294.out)).trans H_294.out)
              have H_303 : Hid (V_300.heap[X_108]? = some (.cells Ru 30 (0, 0))) := Lib.hid ((hb_301.block X_108 (blk_lt H_295.out)).trans H_295.out)
              have H_304 : Hid (V_300.heap[B0]? = some (.cells A0 28 (0, 0))) := Lib.hid ((hb_301.block B0 (blk_lt H_296.out)).trans H_296.out)
              have H_305 : Hid (V_300.heap[Xp]? = some (.cells Ja' 32 (0, 0))) := Lib.hid ((hb_301.block Xp (blk_lt H_297.out)).trans H_297.out)
              have H_306 : Hid (V_300.heap[Xq]? = some (.cells Ru 30 (0, 0))) := Lib.hid ((hb_301.block Xq (blk_lt H_298.out)).trans H_298.out)
              have HE_307 : Hid (Below B0 w V_300) := Lib.hid (HE_299.out.trans (hb_301.mono (sz_le hB0.out HE_299.out.size)))
              clear HE_299 H_294 H_295 H_296 H_297 H_298
              clear hb_301
              clear hrs hrg
              have c13 : V_300.cell? ⟨X_108, 13, none⟩ = some (.int .i64 lv) := by rw [blk_cell H_303.out, eRu.out]; simp [RA, TA, hlv.out]
              go_wp2_with fail
              go_roundw
              case rel => exact ⟨k + 1, by go_num, by omega, v, true, Ja', Ru, eJa'.out, eRu.out, H_302.out, H_303.out, H_304.out, HE_307.out, NX.out.1, by have := NX.out.2; omega, by have := NX.out.2; push_cast; omega⟩
              case measure => simp [intOf] <;> omega
          · by_cases h3 : e' = 3
            · skip
              have g2 : (e' == 2) = false := by rw [h3]; rfl
              have g3 : (e' == 3) = true := by rw [h3]; rfl
              have hnm : (!must) = false := by cases must with | true => rfl | false => exact absurd ⟨.inr h3, rfl⟩ hnd
              clear h2
              replace h3 := Lib.hid h3
              have c5 : V5q.cell? ⟨X_97, 5, none⟩ = some (.bool ov) := (blk_cell Hq_j_5.out 5).trans (by rw [eJa.out]; exact JJ_at _ _ _ _ _ _ _ _ _ _ 5 (by decide))
              go_upto_region 18 with (fail)
              clear c5
              have hev : v = u ∧ fa = e' := by
                have := hqa.out
                rw [jx_same (fun h => he h.1) (hnd)] at this
                injection this with h1 h2
                exact ⟨h1.symm, h2.symm⟩
              obtain ⟨rfl, rfl⟩ := hev
              have NX := tick_go TK.out he
              have hvl := NX.1.2.2
              obtain ⟨lv, hlv⟩ : ∃ x, v.left = x := ⟨_, rfl⟩
              rw [hlv] at hvl
              have hlz : (lv == 0) = false := by rw [beq_eq_false_iff_ne]; omega
              clear hvl
              replace NX := Lib.hid NX
              replace hlv := Lib.hid hlv
              clear hqa TK
              replace he := Lib.hid he
              obtain ⟨V_308, q_309_0, q_309_1, q_309_2, q_309_3⟩ := st_any Hq_j_5.out zJa.out zJa'.out oJa'.out
              have H_310 : Hid (V_308.heap[X_108]? = some (.cells Ra 30 (0, 0))) := Lib.hid ((q_309_2 _ (Nat.ne_of_gt ne_117)).trans Hq_m_5.out)
              have H_311 : Hid (V_308.heap[B0]? = some (.cells A0 28 (0, 0))) := Lib.hid ((q_309_2 _ (Nat.ne_of_lt ne_102)).trans Hq_t_5.out)
              have H_312 : Hid (V_308.heap[Xp]? = some (.cells Ja' 32 (0, 0))) := Lib.hid ((q_309_2 _ (Nat.ne_of_gt ltp_j)).trans Hq_xp_5.out)
              have H_313 : Hid (V_308.heap[Xq]? = some (.cells Ru 30 (0, 0))) := Lib.hid ((q_309_2 _ (Nat.ne_of_gt ltq_j)).trans HX5q.out)
              have HE_314 : Hid (Below B0 w V_308) := Lib.hid (q_309_3 _ _ ge_105 HE5q.out)
              have H_315 := Lib.hid q_309_1
              clear q_309_1 q_309_2 q_309_3
              go_upto_region 19 with (first | ((with_reducible refine wpl_gate (T := 32) rfl ?_); refine wpl_ld _ _ rfl (by rfl) Xp rfl Hq_xp_5.out Try.underlying32 rfl (by kernel_rfl) zJa'.out ?_))
              clear q_309_0
              clear HE5q Hq_m_5 Hq_t_5 Hq_xp_5 HX5q Hq_j_5
              obtain ⟨V_316, q_317_0, q_317_1, q_317_2, q_317_3⟩ := st_any H_310.out zRa.out zRu.out oRu.out
              have H_318 : Hid (V_316.heap[X_97]? = some (.cells Ja' 32 (0, 0))) := Lib.hid ((q_317_2 _ (Nat.ne_of_lt ne_117)).trans H_315.out)
              have H_319 : Hid (V_316.heap[B0]? = some (.cells A0 28 (0, 0))) := Lib.hid ((q_317_2 _ (Nat.ne_of_lt ne_113)).trans H_311.out)
              have H_320 : Hid (V_316.heap[Xp]? = some (.cells Ja' 32 (0, 0))) := Lib.hid ((q_317_2 _ (Nat.ne_of_gt ltp_m)).trans H_312.out)
              have H_321 : Hid (V_316.heap[Xq]? = some (.cells Ru 30 (0, 0))) := Lib.hid ((q_317_2 _ (Nat.ne_of_gt ltq_m)).trans H_313.out)
              have HE_322 : Hid (Below B0 w V_316) := Lib.hid (q_317_3 _ _ ge_118 HE_314.out)
              have H_323 := Lib.hid q_317_1
              clear q_317_1 q_317_2 q_317_3
              go_upto_if 110 with (first | ((with_reducible refine wpl_gate (T := 30) rfl ?_); refine wpl_ld _ _ rfl (by rfl) Xq rfl H_313.out Try.underlying30 rfl (by kernel_rfl) zRu.out ?_))
              clear q_317_0
              clear HE_314 H_315 H_311 H_312 H_313 H_310
              obtain ⟨pv, hpv⟩ : ∃ p : Int, (v.p : Int) = p := ⟨_, rfl⟩
              obtain ⟨bd, hbd⟩ : ∃ b, bnd t must v = b := ⟨_, rfl⟩
              replace hpv := Lib.hid hpv
              replace hbd := Lib.hid hbd
              have ct9 : V_316.cell? ⟨B0, 9, none⟩ = some (.int .i64 t.f9) := by rw [blk_cell H_319.out, eA0.out]; rfl
              have cm12 : V_316.cell? ⟨X_108, 12, none⟩ = some (.int .i64 pv) := by rw [blk_cell H_323.out, eRu.out, ← hpv.out]; simp [RA, TA]
              go_cut [17] from 65 to 154 (fun b wx => b = .int .i64 bd ∧ wx = V_316)
              case first =>
                cases must with
                | false =>
                  have hb2 : Hid (bd = 2) := Lib.hid (by rw [← hbd.out]; unfold bnd; rw [if_neg (by simp)])
                  (go_wp2_with fail) <;> (go_meet; exact ⟨by rw [hb2.out], rfl⟩)
                | true =>
                  by_cases h9 : t.f9 = 3
                  · have h9b : (t.f9 == 3) = true := by simpa using h9
                    by_cases hp : pv = 1
                    · have hpb : (pv == 1) = true := by simpa using hp
                      have hb2 : Hid (bd = 0) := Lib.hid (by rw [← hbd.out]; unfold bnd; rw [if_pos rfl, if_pos ⟨h9, by rw [hpv.out]; exact hp⟩])
                      clear h9 hp
                      (go_wp2_with fail) <;> (go_meet; exact ⟨by rw [hb2.out], rfl⟩)
                    · have hpb : (pv == 1) = false := by simpa using hp
                      have hb2 : Hid (bd = 1) := Lib.hid (by rw [← hbd.out]; unfold bnd; rw [if_pos rfl, if_neg (fun h => hp (by rw [← hpv.out]; exact h.2))])
                      clear h9 hp
                      (go_wp2_with fail) <;> (go_meet; exact ⟨by rw [hb2.out], rfl⟩)
                  · have h9b : (t.f9 == 3) = false := by simpa using h9
                    have hb2 : Hid (bd = 1) := Lib.hid (by rw [← hbd.out]; unfold bnd; rw [if_pos rfl, if_neg (fun h => h9 h.1)])
                    clear h9
                    (go_wp2_with fail) <;> (go_meet; exact ⟨by rw [hb2.out], rfl⟩)
              case rest =>
                obtain ⟨rfl, hwx⟩ := hcut
                replace hwx := hwx.symm
                subst hwx
                clear ct9 cm12
                obtain ⟨PP, ePP⟩ : ∃ P, P = JP 0 0 5 (5 + t.f2) must ov true := ⟨_, rfl⟩
                have zPP : Hid (PP.size = 7) := Lib.hid (by rw [ePP]; rfl)
                have hPP : Hid (PP ++ Ru = Ja') := Lib.hid (by rw [ePP, eRu.out, eJa'.out])
                replace ePP := Lib.hid ePP
                have hrs : ∀ W : World, (binOp .neq 30 (.agg Ru) (.agg Ru)).run Try.prog W = .ok (.bool false) W := fun W => run_same Ru t n v eRu.out W
                have hrg : ∀ (a b : Operand) (W : World), (eqGuard .neq 30 a b (.agg Ru) (.agg Ru)).run Try.prog W = .ok () W := run_guard Ru
                have c6 : V_316.cell? ⟨X_97, 6, none⟩ = some (.bool true) := (blk_cell H_318.out 6).trans (by rw [eJa'.out]; exact JJ_at _ _ _ _ _ _ _ _ _ _ 6 (by decide))
                have hbb : (bd != bd) = false := by simp
                have hfd : ∀ W : World, (Instr.field 38 (.agg #[.int .i64 bd, .int .i64 t.f10, .int .i64 5, .int .i64 0]) 0).run Try.prog W = .ok (.int .i64 bd) W := fun W => by kernel_rfl
                have tok21 : True := trivial
                have tok22 : True := trivial
                have tok23 : True := trivial
                go_wp2_with (first | (clear tok21; (with_reducible refine wpl_gate (T := 30) rfl ?_); refine wpl_ldm _ _ rfl (by rfl) X_97 7 rfl (P := PP) (A := Ru) (by rw [hPP.out]; exact H_318.out) zPP.out Try.underlying30 rfl (by kernel_rfl) zRu.out ?_) | (clear tok22; (with_reducible refine wpl_gate (T := 30) rfl ?_); refine wpl_ld _ _ rfl (by rfl) X_108 rfl H_323.out Try.underlying30 rfl (by kernel_rfl) zRu.out ?_) | (clear tok23; (with_reducible refine wpl_gate (T := 32) rfl ?_); refine wpl_ld _ _ rfl (by rfl) X_97 rfl H_318.out Try.underlying32 rfl (by kernel_rfl) zJa'.out ?_))
                refine (band_any _ _ _ _ _ _ _ _ _ _ _ _ eJa'.out _ hbd.out.symm).mono ?_; rintro e V_324 ⟨rfl, hb_325⟩
                have H_326 : Hid (V_324.heap[X_97]? = some (.cells Ja' 32 (0, 0))) := Lib.hid ((hb_325.block X_97 (blk_lt H_318.out)).trans H_318.out)
                have H_327 : Hid (V_324.heap[X_108]? = some (.cells Ru 30 (0, 0))) := Lib.hid ((hb_325.block X_108 (blk_lt H_323.out)).trans H_323.out)
                have H_328 : Hid (V_324.heap[B0]? = some (.cells A0 28 (0, 0))) := Lib.hid ((hb_325.block B0 (blk_lt H_319.out)).trans H_319.out)
                have H_329 : Hid (V_324.heap[Xp]? = some (.cells Ja' 32 (0, 0))) := Lib.hid ((hb_325.block Xp (blk_lt H_320.out)).trans H_320.out)
                have H_330 : Hid (V_324.heap[Xq]? = some (.cells Ru 30 (0, 0))) := Lib.hid ((hb_325.block Xq (blk_lt H_321.out)).trans H_321.out)
                have HE_331 : Hid (Below B0 w V_324) := Lib.hid (HE_322.out.trans (hb_325.mono (sz_le hB0.out HE_322.out.size)))
                clear c6
                clear HE_322 H_318 H_323 H_319 H_320 H_321
                clear hb_325
                have tok24 : True := trivial
                go_wp2_with (first | (clear tok24; (with_reducible refine wpl_gate (T := 32) rfl ?_); refine wpl_ld _ _ rfl (by rfl) X_97 rfl H_326.out Try.underlying32 rfl (by kernel_rfl) zJa'.out ?_))
                refine (keyj_c _ _ #[.int .i64 bd, .int .i64 t.f10, .int .i64 5, .int .i64 0] _ _ _ _ _ _ _ _ _ _ eJa'.out (by rw [hbd.out])).mono ?_; rintro e V_332 ⟨rfl, hb_333⟩
                have H_334 : Hid (V_332.heap[X_97]? = some (.cells Ja' 32 (0, 0))) := Lib.hid ((hb_333.block X_97 (blk_lt H_326.out)).trans H_326.out)
                have H_335 : Hid (V_332.heap[X_108]? = some (.cells Ru 30 (0, 0))) := Lib.hid ((hb_333.block X_108 (blk_lt H_327.out)).trans H_327.out)
                have H_336 : Hid (V_332.heap[B0]? = some (.cells A0 28 (0, 0))) := Lib.hid ((hb_333.block B0 (blk_lt H_328.out)).trans H_328.out)
                have H_337 : Hid (V_332.heap[Xp]? = some (.cells Ja' 32 (0, 0))) := Lib.hid ((hb_333.block Xp (blk_lt H_329.out)).trans H_329.out)
                have H_338 : Hid (V_332.heap[Xq]? = some (.cells Ru 30 (0, 0))) := Lib.hid ((hb_333.block Xq (blk_lt H_330.out)).trans H_330.out)
                have HE_339 : Hid (Below B0 w V_332) := Lib.hid (HE_331.out.trans (hb_333.mono (sz_le hB0.out HE_331.out.size)))
                clear HE_331 H_326 H_327 H_328 H_329 H_330
                clear hb_333
                clear hrs hrg
                have c13 : V_332.cell? ⟨X_108, 13, none⟩ = some (.int .i64 lv) := by rw [blk_cell H_335.out, eRu.out]; simp [RA, TA, hlv.out]
                go_wp2_with fail
                go_roundw
                case rel => exact ⟨k + 1, by go_num, by omega, v, true, Ja', Ru, eJa'.out, eRu.out, H_334.out, H_335.out, H_336.out, HE_339.out, NX.out.1, by have := NX.out.2; omega, by have := NX.out.2; push_cast; omega⟩
                case measure => simp [intOf] <;> omega
            · skip
              have g2 : (e' == 2) = false := by rw [beq_eq_false_iff_ne]; exact h2
              have g3 : (e' == 3) = false := by rw [beq_eq_false_iff_ne]; exact h3
              clear h2 h3
              have c5 : V5q.cell? ⟨X_97, 5, none⟩ = some (.bool ov) := (blk_cell Hq_j_5.out 5).trans (by rw [eJa.out]; exact JJ_at _ _ _ _ _ _ _ _ _ _ 5 (by decide))
              go_upto_region 18 with (fail)
              clear c5
              have hev : v = u ∧ fa = e' := by
                have := hqa.out
                rw [jx_same (fun h => he h.1) (hnd)] at this
                injection this with h1 h2
                exact ⟨h1.symm, h2.symm⟩
              obtain ⟨rfl, rfl⟩ := hev
              have NX := tick_go TK.out he
              have hvl := NX.1.2.2
              obtain ⟨lv, hlv⟩ : ∃ x, v.left = x := ⟨_, rfl⟩
              rw [hlv] at hvl
              have hlz : (lv == 0) = false := by rw [beq_eq_false_iff_ne]; omega
              clear hvl
              replace NX := Lib.hid NX
              replace hlv := Lib.hid hlv
              clear hqa TK
              replace he := Lib.hid he
              obtain ⟨V_340, q_341_0, q_341_1, q_341_2, q_341_3⟩ := st_any Hq_j_5.out zJa.out zJa'.out oJa'.out
              have H_342 : Hid (V_340.heap[X_108]? = some (.cells Ra 30 (0, 0))) := Lib.hid ((q_341_2 _ (Nat.ne_of_gt ne_117)).trans Hq_m_5.out)
              have H_343 : Hid (V_340.heap[B0]? = some (.cells A0 28 (0, 0))) := Lib.hid ((q_341_2 _ (Nat.ne_of_lt ne_102)).trans Hq_t_5.out)
              have H_344 : Hid (V_340.heap[Xp]? = some (.cells Ja' 32 (0, 0))) := Lib.hid ((q_341_2 _ (Nat.ne_of_gt ltp_j)).trans Hq_xp_5.out)
              have H_345 : Hid (V_340.heap[Xq]? = some (.cells Ru 30 (0, 0))) := Lib.hid ((q_341_2 _ (Nat.ne_of_gt ltq_j)).trans HX5q.out)
              have HE_346 : Hid (Below B0 w V_340) := Lib.hid (q_341_3 _ _ ge_105 HE5q.out)
              have H_347 := Lib.hid q_341_1
              clear q_341_1 q_341_2 q_341_3
              go_upto_region 19 with (first | ((with_reducible refine wpl_gate (T := 32) rfl ?_); refine wpl_ld _ _ rfl (by rfl) Xp rfl Hq_xp_5.out Try.underlying32 rfl (by kernel_rfl) zJa'.out ?_))
              clear q_341_0
              clear HE5q Hq_m_5 Hq_t_5 Hq_xp_5 HX5q Hq_j_5
              obtain ⟨V_348, q_349_0, q_349_1, q_349_2, q_349_3⟩ := st_any H_342.out zRa.out zRu.out oRu.out
              have H_350 : Hid (V_348.heap[X_97]? = some (.cells Ja' 32 (0, 0))) := Lib.hid ((q_349_2 _ (Nat.ne_of_lt ne_117)).trans H_347.out)
              have H_351 : Hid (V_348.heap[B0]? = some (.cells A0 28 (0, 0))) := Lib.hid ((q_349_2 _ (Nat.ne_of_lt ne_113)).trans H_343.out)
              have H_352 : Hid (V_348.heap[Xp]? = some (.cells Ja' 32 (0, 0))) := Lib.hid ((q_349_2 _ (Nat.ne_of_gt ltp_m)).trans H_344.out)
              have H_353 : Hid (V_348.heap[Xq]? = some (.cells Ru 30 (0, 0))) := Lib.hid ((q_349_2 _ (Nat.ne_of_gt ltq_m)).trans H_345.out)
              have HE_354 : Hid (Below B0 w V_348) := Lib.hid (q_349_3 _ _ ge_118 HE_346.out)
              have H_355 := Lib.hid q_349_1
              clear q_349_1 q_349_2 q_349_3
              go_upto_if 110 with (first | ((with_reducible refine wpl_gate (T := 30) rfl ?_); refine wpl_ld _ _ rfl (by rfl) Xq rfl H_345.out Try.underlying30 rfl (by kernel_rfl) zRu.out ?_))
              clear q_349_0
              clear HE_346 H_347 H_343 H_344 H_345 H_342
              obtain ⟨pv, hpv⟩ : ∃ p : Int, (v.p : Int) = p := ⟨_, rfl⟩
              obtain ⟨bd, hbd⟩ : ∃ b, bnd t must v = b := ⟨_, rfl⟩
              replace hpv := Lib.hid hpv
              replace hbd := Lib.hid hbd
              have ct9 : V_348.cell? ⟨B0, 9, none⟩ = some (.int .i64 t.f9) := by rw [blk_cell H_351.out, eA0.out]; rfl
              have cm12 : V_348.cell? ⟨X_108, 12, none⟩ = some (.int .i64 pv) := by rw [blk_cell H_355.out, eRu.out, ← hpv.out]; simp [RA, TA]
              go_cut [17] from 65 to 154 (fun b wx => b = .int .i64 bd ∧ wx = V_348)
              case first =>
                cases must with
                | false =>
                  have hb2 : Hid (bd = 2) := Lib.hid (by rw [← hbd.out]; unfold bnd; rw [if_neg (by simp)])
                  (go_wp2_with fail) <;> (go_meet; exact ⟨by rw [hb2.out], rfl⟩)
                | true =>
                  by_cases h9 : t.f9 = 3
                  · have h9b : (t.f9 == 3) = true := by simpa using h9
                    by_cases hp : pv = 1
                    · have hpb : (pv == 1) = true := by simpa using hp
                      have hb2 : Hid (bd = 0) := Lib.hid (by rw [← hbd.out]; unfold bnd; rw [if_pos rfl, if_pos ⟨h9, by rw [hpv.out]; exact hp⟩])
                      clear h9 hp
                      (go_wp2_with fail) <;> (go_meet; exact ⟨by rw [hb2.out], rfl⟩)
                    · have hpb : (pv == 1) = false := by simpa using hp
                      have hb2 : Hid (bd = 1) := Lib.hid (by rw [← hbd.out]; unfold bnd; rw [if_pos rfl, if_neg (fun h => hp (by rw [← hpv.out]; exact h.2))])
                      clear h9 hp
                      (go_wp2_with fail) <;> (go_meet; exact ⟨by rw [hb2.out], rfl⟩)
                  · have h9b : (t.f9 == 3) = false := by simpa using h9
                    have hb2 : Hid (bd = 1) := Lib.hid (by rw [← hbd.out]; unfold bnd; rw [if_pos rfl, if_neg (fun h => h9 h.1)])
                    clear h9
                    (go_wp2_with fail) <;> (go_meet; exact ⟨by rw [hb2.out], rfl⟩)
              case rest =>
                obtain ⟨rfl, hwx⟩ := hcut
                replace hwx := hwx.symm
                subst hwx
                clear ct9 cm12
                obtain ⟨PP, ePP⟩ : ∃ P, P = JP 0 0 5 (5 + t.f2) must ov true := ⟨_, rfl⟩
                have zPP : Hid (PP.size = 7) := Lib.hid (by rw [ePP]; rfl)
                have hPP : Hid (PP ++ Ru = Ja') := Lib.hid (by rw [ePP, eRu.out, eJa'.out])
                replace ePP := Lib.hid ePP
                have hrs : ∀ W : World, (binOp .neq 30 (.agg Ru) (.agg Ru)).run Try.prog W = .ok (.bool false) W := fun W => run_same Ru t n v eRu.out W
                have hrg : ∀ (a b : Operand) (W : World), (eqGuard .neq 30 a b (.agg Ru) (.agg Ru)).run Try.prog W = .ok () W := run_guard Ru
                have c6 : V_348.cell? ⟨X_97, 6, none⟩ = some (.bool true) := (blk_cell H_350.out 6).trans (by rw [eJa'.out]; exact JJ_at _ _ _ _ _ _ _ _ _ _ 6 (by decide))
                have hbb : (bd != bd) = false := by simp
                have hfd : ∀ W : World, (Instr.field 38 (.agg #[.int .i64 bd, .int .i64 t.f10, .int .i64 5, .int .i64 0]) 0).run Try.prog W = .ok (.int .i64 bd) W := fun W => by kernel_rfl
                have tok25 : True := trivial
                have tok26 : True := trivial
                have tok27 : True := trivial
                go_wp2_with (first | (clear tok25; (with_reducible refine wpl_gate (T := 30) rfl ?_); refine wpl_ldm _ _ rfl (by rfl) X_97 7 rfl (P := PP) (A := Ru) (by rw [hPP.out]; exact H_350.out) zPP.out Try.underlying30 rfl (by kernel_rfl) zRu.out ?_) | (clear tok26; (with_reducible refine wpl_gate (T := 30) rfl ?_); refine wpl_ld _ _ rfl (by rfl) X_108 rfl H_355.out Try.underlying30 rfl (by kernel_rfl) zRu.out ?_) | (clear tok27; (with_reducible refine wpl_gate (T := 32) rfl ?_); refine wpl_ld _ _ rfl (by rfl) X_97 rfl H_350.out Try.underlying32 rfl (by kernel_rfl) zJa'.out ?_))
                refine (band_any _ _ _ _ _ _ _ _ _ _ _ _ eJa'.out _ hbd.out.symm).mono ?_; rintro e V_356 ⟨rfl, hb_357⟩
                have H_358 : Hid (V_356.heap[X_97]? = some (.cells Ja' 32 (0, 0))) := Lib.hid ((hb_357.block X_97 (blk_lt H_350.out)).trans H_350.out)
                have H_359 : Hid (V_356.heap[X_108]? = some (.cells Ru 30 (0, 0))) := Lib.hid ((hb_357.block X_108 (blk_lt H_355.out)).trans H_355.out)
                have H_360 : Hid (V_356.heap[B0]? = some (.cells A0 28 (0, 0))) := Lib.hid ((hb_357.block B0 (blk_lt H_351.out)).trans H_351.out)
                have H_361 : Hid (V_356.heap[Xp]? = some (.cells Ja' 32 (0, 0))) := Lib.hid ((hb_357.block Xp (blk_lt H_352.out)).trans H_352.out)
                have H_362 : Hid (V_356.heap[Xq]? = some (.cells Ru 30 (0, 0))) := Lib.hid ((hb_357.block Xq (blk_lt H_353.out)).trans H_353.out)
                have HE_363 : Hid (Below B0 w V_356) := Lib.hid (HE_354.out.trans (hb_357.mono (sz_le hB0.out HE_354.out.size)))
                clear c6
                clear HE_354 H_350 H_355 H_351 H_352 H_353
                clear hb_357
                have tok28 : True := trivial
                go_wp2_with (first | (clear tok28; (with_reducible refine wpl_gate (T := 32) rfl ?_); refine wpl_ld _ _ rfl (by rfl) X_97 rfl H_358.out Try.underlying32 rfl (by kernel_rfl) zJa'.out ?_))
                refine (keyj_c _ _ #[.int .i64 bd, .int .i64 t.f10, .int .i64 5, .int .i64 0] _ _ _ _ _ _ _ _ _ _ eJa'.out (by rw [hbd.out])).mono ?_; rintro e V_364 ⟨rfl, hb_365⟩
                have H_366 : Hid (V_364.heap[X_97]? = some (.cells Ja' 32 (0, 0))) := Lib.hid ((hb_365.block X_97 (blk_lt H_358.out)).trans H_358.out)
                have H_367 : Hid (V_364.heap[X_108]? = some (.cells Ru 30 (0, 0))) := Lib.hid ((hb_365.block X_108 (blk_lt H_359.out)).trans H_359.out)
                have H_368 : Hid (V_364.heap[B0]? = some (.cells A0 28 (0, 0))) := Lib.hid ((hb_365.block B0 (blk_lt H_360.out)).trans H_360.out)
                have H_369 : Hid (V_364.heap[Xp]? = some (.cells Ja' 32 (0, 0))) := Lib.hid ((hb_365.block Xp (blk_lt H_361.out)).trans H_361.out)
                have H_370 : Hid (V_364.heap[Xq]? = some (.cells Ru 30 (0, 0))) := Lib.hid ((hb_365.block Xq (blk_lt H_362.out)).trans H_362.out)
                have HE_371 : Hid (Below B0 w V_364) := Lib.hid (HE_363.out.trans (hb_365.mono (sz_le hB0.out HE_363.out.size)))
                clear HE_363 H_358 H_359 H_360 H_361 H_362
                clear hb_365
                clear hrs hrg
                have c13 : V_364.cell? ⟨X_108, 13, none⟩ = some (.int .i64 lv) := by rw [blk_cell H_367.out, eRu.out]; simp [RA, TA, hlv.out]
                go_wp2_with fail
                go_roundw
                case rel => exact ⟨k + 1, by go_num, by omega, v, true, Ja', Ru, eJa'.out, eRu.out, H_366.out, H_367.out, H_368.out, HE_371.out, NX.out.1, by have := NX.out.2; omega, by have := NX.out.2; push_cast; omega⟩
                case measure => simp [intOf] <;> omega
    · have hkl : k = l.length := by omega
      have hge : decide (k < l.length) = false := by simp; omega
      clear hlt
      go_wp2_with fail
      go_ret
      exact ⟨rfl, HE⟩
theorem steps_row (w : World) (t : S28) (d : Int) (_ : (Lit.int .i64 d).wf = true) (must : Bool) (A : Option Addr) (l : List Bool) (cap : Nat) (hc : l.length ≤ cap) (hm : cap ≤ maxLen) (ha : Args.Arg Value.bool w A l) : Calls Try.prog 4 #[.agg (TA t), .int .i64 d, .bool must, .slice A l.length cap] w fun e w' => e = .returned (.bool true) ∧ Below w.heap.size w w' := by
  unfold maxLen at hm
  have hm : l.length ≤ 9223372036854775807 := by omega
  cases c0 : decide ((400 : Int) < (l.length : Int)) with
  | true => exact steps_out0 w t d must A l cap hm c0
  | false =>
    cases c1 : decide ((60 : Int) < (t.f0.size : Int)) with
    | true => exact steps_out1 w t d must A l cap hm c0 c1
    | false =>
      obtain ⟨b, hr, pr⟩ := right14_tot t
      cases b with
      | false => exact steps_out2 w t d must A l cap hm c0 c1 hr
      | true =>
        cases c3 : decide (300 < t.f3) with
        | true => exact steps_out3 w t d must A l cap hm c0 c1 hr c3
        | false =>
          cases c4 : decide (300 < t.f4) with
          | true => exact steps_out4 w t d must A l cap hm c0 c1 hr c3 c4
          | false =>
            cases c5 : decide (300 < t.f6) with
            | true => exact steps_out5 w t d must A l cap hm c0 c1 hr c3 c4 c5
            | false =>
              exact steps_main w t d must A l cap hm c0 c1 hr c3 c4 c5 (pr rfl) ha
end Go.Proofs.Ytpjehbcchanmhaa.PS
