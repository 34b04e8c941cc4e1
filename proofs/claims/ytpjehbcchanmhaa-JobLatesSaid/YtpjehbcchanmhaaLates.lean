/- The law JobLates, walked. -/
import Derived.Test.YtpjehbcchanmhaaLc
namespace Go.Proofs.Ytpjehbcchanmhaa.PS
open Go.RowKit Go.Proofs.Ytpjehbcchanmhaa.PC Go.Proofs.YtpjehbcchanmhaaW.PrintWords Go.Proofs.YtpjehbcchanmhaaW.PrintLast Go.Proofs.YtpjehbcchanmhaaW.PrintMore
set_option linter.unusedVariables false
set_option linter.unusedSimpArgs false
theorem ld_op {o : Oper} {a : Act} {w : World} (T : TypeId) (x : Operand) (ho : o.op = .load T x) (g : Nat) (hx : a.eval x = .pointer (some ⟨g, 0, none⟩)) {A : Array Value} {T' : TypeId} {n : Nat} {d : TypeDesc}
    (hg : w.heap[g]? = some (.cells A T' (0, 0))) (hu : Try.prog.underlying T = some d) (hd : d.isRow = true) (hi : (Try.prog.info? T).map (·.size) = some n) (hA : A.size = n) : (execOp a.eval o).run Try.prog w = .ok (.value (.agg A)) w := by
  have := run_loadVar_mid (P := Try.prog) w g 0 T A.toList d (fun j v hv => by rw [Nat.zero_add, blk_cell hg]; simpa using hv) hu hd (by rw [hi, ← hA]; simp)
  unfold execOp
  simp only [ho, hx, Instr.loadAt, Instr.sureAddr, Sem.run_bind, Sem.run_pure, Result.andThen_ok, this]
set_option maxRecDepth 100000 in
set_option maxHeartbeats 6000000 in
theorem lates_few (w : World) (B : Int) (A : Option Addr) (l : List S28) (cap : Nat) (hc : l.length ≤ cap) (hC : Kd.C k28 w A l.length l) (i rel now : Int) (must : Bool) (hf : Ev (fun k => pendulumref05_Few.f k B l) false) : Calls Try.prog 7 #[.agg #[.int .i64 B, .slice A l.length cap], .int .u8 i, .int .u32 rel, .int .u32 now, .bool must] w fun e w' => e = .returned (.bool true) ∧ Below w.heap.size w w' := by
  obtain ⟨A0, eA0⟩ : ∃ A0 : Array Value, A0 = #[.int .i64 B, .slice A l.length cap] := ⟨_, rfl⟩
  rw [← eA0]
  have zA0 : Hid (A0.size = 2) := Lib.hid (by rw [eA0]; rfl)
  replace eA0 := Lib.hid eA0
  obtain ⟨B0, hB0⟩ : ∃ B, w.heap.size = B := ⟨_, rfl⟩
  rw [hB0]
  obtain ⟨V0, hV0⟩ : ∃ V, w.alloc (.cells A0 24) = V := ⟨_, rfl⟩
  have Hs : Hid (V0.heap[B0]? = some (.cells A0 24 (0, 0))) := Lib.hid (by rw [← hV0]; exact (box_new hB0).1)
  have HE : Hid (Below B0 w V0) := Lib.hid (by rw [← hV0, ← hB0]; exact (Below.refl _ _).alloc (Nat.le_refl _) _)
  go_enter Try.func7, Try.ntmps7
  go_upto_region 1 with (fail)
  replace hB0 := Lib.hid hB0
  replace hV0 := Lib.hid hV0
  go_wp2_with fail
  refine (aw_c _).mono ?_; rintro e V_1 ⟨rfl, hb_2⟩
  have H_3 : Hid (V_1.heap[B0]? = some (.cells A0 24 (0, 0))) := Lib.hid ((hb_2.block B0 (blk_lt Hs.out)).trans Hs.out)
  have HE_4 : Hid (Below B0 w V_1) := Lib.hid (HE.out.trans (hb_2.mono (sz_le hB0.out HE.out.size)))
  clear HE Hs
  clear hb_2
  go_wp2_with (first | (refine wpl_ld _ _ rfl (by rfl) B0 rfl H_3.out Try.underlying24 rfl (by kernel_rfl) zA0.out ?_))
  refine (few_c hf hC hc hB0.out HE_4.out _ eA0.out).mono ?_; rintro e V_5 ⟨rfl, hb_6⟩
  have H_7 : Hid (V_5.heap[B0]? = some (.cells A0 24 (0, 0))) := Lib.hid ((hb_6.block B0 (blk_lt H_3.out)).trans H_3.out)
  have HE_8 : Hid (Below B0 w V_5) := Lib.hid (HE_4.out.trans (hb_6.mono (sz_le hB0.out HE_4.out.size)))
  clear HE_4 H_3
  clear hb_6
  go_wp2_with fail
  refine (aw_c _).mono ?_; rintro e V_9 ⟨rfl, hb_10⟩
  have H_11 : Hid (V_9.heap[B0]? = some (.cells A0 24 (0, 0))) := Lib.hid ((hb_10.block B0 (blk_lt H_7.out)).trans H_7.out)
  have HE_12 : Hid (Below B0 w V_9) := Lib.hid (HE_8.out.trans (hb_10.mono (sz_le hB0.out HE_8.out.size)))
  clear HE_8 H_7
  clear hb_10
  go_wp2
  go_ret
  exact ⟨rfl, HE_12.out⟩
set_option maxRecDepth 100000 in
set_option maxHeartbeats 6000000 in
theorem lates_right (w : World) (B : Int) (A : Option Addr) (l : List S28) (cap : Nat) (hc : l.length ≤ cap) (hC : Kd.C k28 w A l.length l) (i rel now : Int) (must : Bool) (hf : Ev (fun k => pendulumref05_Few.f k B l) true) (hr : Ev (fun k => pendulumref05_Right.f k B l) false) : Calls Try.prog 7 #[.agg #[.int .i64 B, .slice A l.length cap], .int .u8 i, .int .u32 rel, .int .u32 now, .bool must] w fun e w' => e = .returned (.bool true) ∧ Below w.heap.size w w' := by
  obtain ⟨A0, eA0⟩ : ∃ A0 : Array Value, A0 = #[.int .i64 B, .slice A l.length cap] := ⟨_, rfl⟩
  rw [← eA0]
  have zA0 : Hid (A0.size = 2) := Lib.hid (by rw [eA0]; rfl)
  replace eA0 := Lib.hid eA0
  obtain ⟨B0, hB0⟩ : ∃ B, w.heap.size = B := ⟨_, rfl⟩
  rw [hB0]
  obtain ⟨V0, hV0⟩ : ∃ V, w.alloc (.cells A0 24) = V := ⟨_, rfl⟩
  have Hs : Hid (V0.heap[B0]? = some (.cells A0 24 (0, 0))) := Lib.hid (by rw [← hV0]; exact (box_new hB0).1)
  have HE : Hid (Below B0 w V0) := Lib.hid (by rw [← hV0, ← hB0]; exact (Below.refl _ _).alloc (Nat.le_refl _) _)
  go_enter Try.func7, Try.ntmps7
  go_upto_region 1 with (fail)
  replace hB0 := Lib.hid hB0
  replace hV0 := Lib.hid hV0
  go_wp2_with fail
  refine (aw_c _).mono ?_; rintro e V_13 ⟨rfl, hb_14⟩
  have H_15 : Hid (V_13.heap[B0]? = some (.cells A0 24 (0, 0))) := Lib.hid ((hb_14.block B0 (blk_lt Hs.out)).trans Hs.out)
  have HE_16 : Hid (Below B0 w V_13) := Lib.hid (HE.out.trans (hb_14.mono (sz_le hB0.out HE.out.size)))
  clear HE Hs
  clear hb_14
  go_wp2_with (first | (refine wpl_ld _ _ rfl (by rfl) B0 rfl H_15.out Try.underlying24 rfl (by kernel_rfl) zA0.out ?_))
  refine (few_c hf hC hc hB0.out HE_16.out _ eA0.out).mono ?_; rintro e V_17 ⟨rfl, hb_18⟩
  have H_19 : Hid (V_17.heap[B0]? = some (.cells A0 24 (0, 0))) := Lib.hid ((hb_18.block B0 (blk_lt H_15.out)).trans H_15.out)
  have HE_20 : Hid (Below B0 w V_17) := Lib.hid (HE_16.out.trans (hb_18.mono (sz_le hB0.out HE_16.out.size)))
  clear HE_16 H_15
  clear hb_18
  go_wp2_with (first | (refine wpl_ld _ _ rfl (by rfl) B0 rfl H_19.out Try.underlying24 rfl (by kernel_rfl) zA0.out ?_))
  refine (right_c hr hC hc hB0.out HE_20.out _ eA0.out).mono ?_; rintro e V_21 ⟨rfl, hb_22⟩
  have H_23 : Hid (V_21.heap[B0]? = some (.cells A0 24 (0, 0))) := Lib.hid ((hb_22.block B0 (blk_lt H_19.out)).trans H_19.out)
  have HE_24 : Hid (Below B0 w V_21) := Lib.hid (HE_20.out.trans (hb_22.mono (sz_le hB0.out HE_20.out.size)))
  clear HE_20 H_19
  clear hb_22
  go_wp2_with fail
  refine (aw_c _).mono ?_; rintro e V_25 ⟨rfl, hb_26⟩
  have H_27 : Hid (V_25.heap[B0]? = some (.cells A0 24 (0, 0))) := Lib.hid ((hb_26.block B0 (blk_lt H_23.out)).trans H_23.out)
  have HE_28 : Hid (Below B0 w V_25) := Lib.hid (HE_24.out.trans (hb_26.mono (sz_le hB0.out HE_24.out.size)))
  clear HE_24 H_23
  clear hb_26
  go_wp2
  go_ret
  exact ⟨rfl, HE_28.out⟩
set_option maxRecDepth 100000 in
set_option maxHeartbeats 6000000 in
theorem lates_main (w : World) (B : Int) (A : Option Addr) (l : List S28) (cap : Nat) (hc : l.length ≤ cap) (hC : Kd.C k28 w A l.length l) (i rel now : Int) (must : Bool) (hi : 0 ≤ i ∧ i ≤ 255) (hrl : 0 ≤ rel ∧ rel ≤ 4294967295) (hnw : 0 ≤ now ∧ now ≤ 4294967295) (hf : Ev (fun k => pendulumref05_Few.f k B l) true) (hr : Ev (fun k => pendulumref05_Right.f k B l) true) (ok : OkS B l) : Calls Try.prog 7 #[.agg #[.int .i64 B, .slice A l.length cap], .int .u8 i, .int .u32 rel, .int .u32 now, .bool must] w fun e w' => e = .returned (.bool true) ∧ Below w.heap.size w w' := by
  have hlen := ok.2.2.1
  have hlen2 := ok.2.2.2.1
  obtain ⟨k, hk⟩ : ∃ k, i % (l.length : Int) = k := ⟨_, rfl⟩
  have hk0 : 0 ≤ k := by rw [← hk]; exact Int.emod_nonneg _ (by omega)
  have hk1 : k < (l.length : Int) := by rw [← hk]; exact Int.emod_lt_of_pos _ (by omega)
  have okt := (ok.2.2.2.2 k.toNat (by omega)).1
  rw [show ((k.toNat : Nat) : Int) = k by omega] at okt
  have hnum := okt.nums
  obtain ⟨D, hD⟩ : ∃ D, (rd_T28 l k).f2 = D := ⟨_, rfl⟩
  rw [hD] at hnum
  have hD1 : 1 ≤ D := by omega
  have hD2 : D ≤ 1048576 := by omega
  obtain ⟨dd, hdd⟩ : ∃ d, now % 2097152 = d := ⟨_, rfl⟩
  have hdd0 : 0 ≤ dd := by omega
  have hdd1 : dd < 2097152 := by omega
  obtain ⟨n, hn⟩ : ∃ n, mn (mx 1 1) (rd_T28 l k).f3 = n := ⟨_, rfl⟩
  obtain ⟨ad, rfl, hrow⟩ := row_at hC hk0 hk1
  clear hrow hnum
  replace hk := Lib.hid hk
  replace hdd := Lib.hid hdd
  obtain ⟨Z, eZ⟩ : ∃ A : Array Value, A = #[.int .i64 0, .int .i64 0, .int .i64 0, .int .i64 0, .bool false, .bool false, .bool false, .string ⟨#[]⟩, .int .i64 0, .int .i64 0, .int .i64 0, .int .i64 0, .int .i64 0, .int .i64 0, .int .i64 0, .int .i64 0, .int .i64 0, .int .i64 0, .int .i64 0, .int .i64 0, .int .i64 0, .bool false, .int .i64 0] := ⟨_, rfl⟩
  have zZ : Hid (Z.size = 23) := Lib.hid (by rw [eZ]; rfl)
  have hz : ∀ V : World, (zeroValue 32).run Try.prog V = .ok (.agg Z) V := fun V => by rw [eZ]; kernel_rfl
  replace eZ := Lib.hid eZ
  obtain ⟨J, eJ⟩ : ∃ A, A = JP k 1 rel (rel + (rd_T28 l k).f2) must (decide (1 > (rd_T28 l k).f3)) false ++ RA (rd_T28 l k) n (ini (rd_T28 l k) n) := ⟨_, rfl⟩
  have zJ : Hid (J.size = 23) := Lib.hid (by rw [eJ]; exact JJ_size _ _ _ _ _ _ _ _ _ _)
  have oJ : Hid (J.all (·.oneCell') = true) := Lib.hid (by rw [eJ]; exact JJ_one _ _ _ _ _ _ _ _ _ _)
  replace eJ := Lib.hid eJ
  have hJ3 : Hid (J[3]? = some (.int .i64 (rel + D))) := Lib.hid (by rw [eJ.out, JJ_at _ _ _ _ _ _ _ _ _ _ 3 (by decide), hD]; rfl)
  replace hD := Lib.hid hD
  replace hn := Lib.hid hn
  replace okt := Lib.hid okt
  replace ok := Lib.hid ok
  obtain ⟨A0, eA0⟩ : ∃ A0 : Array Value, A0 = #[.int .i64 B, .slice (some ad) l.length cap] := ⟨_, rfl⟩
  rw [← eA0]
  have zA0 : Hid (A0.size = 2) := Lib.hid (by rw [eA0]; rfl)
  replace eA0 := Lib.hid eA0
  obtain ⟨B0, hB0⟩ : ∃ B, w.heap.size = B := ⟨_, rfl⟩
  rw [hB0]
  obtain ⟨V0, hV0⟩ : ∃ V, w.alloc (.cells A0 24) = V := ⟨_, rfl⟩
  have Hs : Hid (V0.heap[B0]? = some (.cells A0 24 (0, 0))) := Lib.hid (by rw [← hV0]; exact (box_new hB0).1)
  have HE : Hid (Below B0 w V0) := Lib.hid (by rw [← hV0, ← hB0]; exact (Below.refl _ _).alloc (Nat.le_refl _) _)
  go_enter Try.func7, Try.ntmps7
  go_upto_region 1 with (fail)
  replace hB0 := Lib.hid hB0
  replace hV0 := Lib.hid hV0
  go_wp2_with fail
  refine (aw_c _).mono ?_; rintro e V_29 ⟨rfl, hb_30⟩
  have H_31 : Hid (V_29.heap[B0]? = some (.cells A0 24 (0, 0))) := Lib.hid ((hb_30.block B0 (blk_lt Hs.out)).trans Hs.out)
  have HE_32 : Hid (Below B0 w V_29) := Lib.hid (HE.out.trans (hb_30.mono (sz_le hB0.out HE.out.size)))
  clear HE Hs
  clear hb_30
  go_wp2_with (first | (refine wpl_ld _ _ rfl (by rfl) B0 rfl H_31.out Try.underlying24 rfl (by kernel_rfl) zA0.out ?_))
  refine (few_c hf hC hc hB0.out HE_32.out _ eA0.out).mono ?_; rintro e V_33 ⟨rfl, hb_34⟩
  have H_35 : Hid (V_33.heap[B0]? = some (.cells A0 24 (0, 0))) := Lib.hid ((hb_34.block B0 (blk_lt H_31.out)).trans H_31.out)
  have HE_36 : Hid (Below B0 w V_33) := Lib.hid (HE_32.out.trans (hb_34.mono (sz_le hB0.out HE_32.out.size)))
  clear HE_32 H_31
  clear hb_34
  go_wp2_with (first | (refine wpl_ld _ _ rfl (by rfl) B0 rfl H_35.out Try.underlying24 rfl (by kernel_rfl) zA0.out ?_))
  refine (right_c hr hC hc hB0.out HE_36.out _ eA0.out).mono ?_; rintro e V_37 ⟨rfl, hb_38⟩
  have H_39 : Hid (V_37.heap[B0]? = some (.cells A0 24 (0, 0))) := Lib.hid ((hb_38.block B0 (blk_lt H_35.out)).trans H_35.out)
  have HE_40 : Hid (Below B0 w V_37) := Lib.hid (HE_36.out.trans (hb_38.mono (sz_le hB0.out HE_36.out.size)))
  clear HE_36 H_35
  clear hb_38
  have c_41 : V_37.cell? ⟨B0, 1, none⟩ = some (.slice (some ad) l.length cap) := by rw [blk_cell H_39.out, eA0.out]; rfl
  go_upto_region 4 with (fail)
  rw [hk.out]
  clear c_41
  go_wp2_with (first | (refine wpl_ld _ _ rfl (by rfl) B0 rfl H_39.out Try.underlying24 rfl (by kernel_rfl) zA0.out ?_))
  refine (new_c (Kd.C_below hC (below_to hB0.out HE_40.out)) hk0 hk1 (by decide) hrl.1 (by omega) okt hn _ _ eA0.out eJ.out).mono ?_; rintro e V_42 ⟨rfl, hb_43⟩
  have H_44 : Hid (V_42.heap[B0]? = some (.cells A0 24 (0, 0))) := Lib.hid ((hb_43.block B0 (blk_lt H_39.out)).trans H_39.out)
  have HE_45 : Hid (Below B0 w V_42) := Lib.hid (HE_40.out.trans (hb_43.mono (sz_le hB0.out HE_40.out.size)))
  clear HE_40 H_39
  clear hb_43
  obtain ⟨X_46, hX_48⟩ : ∃ X, V_42.heap.size = X := ⟨_, rfl⟩
  obtain ⟨V_47, q_49_0, q_49_1, q_49_2, q_49_3⟩ := st_new (w := V_42) (T := 32) hX_48 zZ.out zJ.out oJ.out
  have ne_51 : B0 < X_46 := hX_48 ▸ blk_lt H_44.out
  have H_50 : Hid (V_47.heap[B0]? = some (.cells A0 24 (0, 0))) := Lib.hid ((q_49_2 _ ne_51).trans H_44.out)
  have ge_52 : B0 ≤ X_46 := hX_48 ▸ (sz_le hB0.out HE_45.out.size)
  have HE_53 : Hid (Below B0 w V_47) := Lib.hid (q_49_3 _ _ ge_52 HE_45.out)
  have H_54 := Lib.hid q_49_1
  clear q_49_1 q_49_2 q_49_3
  go_upto_region 5 with (fail)
  clear q_49_0 hX_48
  clear HE_45 H_44
  have hdd' := hdd.out
  go_upto_region 6 with (fail)
  clear hdd'
  have HcD : Hid (∀ W, Below B0 w W → W.cell? ⟨(ad.add (k.toNat * 11)).block, (ad.add (k.toNat * 11)).off + 2, none⟩ = some (.int .i64 D)) := Lib.hid (fun W hW => row_c (j := 2) hC hB0.out hW hk0 hk1 (by rw [← hD.out]; rfl))
  obtain ⟨b, hb⟩ : ∃ b, decide (D ≤ dd) = b := ⟨_, rfl⟩
  have HL : Hid (∀ W : World, Calls Try.prog 14 #[.agg J, .int .i64 (rel + dd)] W fun e w' => e = .returned (.bool b) ∧ Below W.heap.size W w') := Lib.hid (fun W => by have := late_c W J (rel + D) (rel + dd) hJ3.out; rwa [show decide (rel + D ≤ rel + dd) = b by rw [← hb]; congr 1; apply propext; omega] at this)
  have cs1 := (blk_cell H_50.out 1).trans (show A0[1]? = some (.slice (some ad) l.length cap) by rw [eA0.out]; rfl)
  have cD := HcD.out _ HE_53.out
  have ht : now.tmod 2097152 = dd := by rw [Int.tmod_eq_emod_of_nonneg (by omega)]; exact hdd.out
  have hwd : wrap64 dd = dd := w64 (by omega) (by omega)
  refine start_ (n := 18) (S := fun w' => w'.heap[X_46]? = some (.cells J 32 (0, 0)) ∧ w'.cell? ⟨B0, 1, none⟩ = some (.slice (some ad) l.length cap) ∧ w'.cell? ⟨(ad.add (k.toNat * 11)).block, (ad.add (k.toNat * 11)).off + 2, none⟩ = some (.int .i64 D)) (ds := []) #[false, false, false, false, false, false, false, false, false, false, false, false, false, false, false, false, false, false] (by kernel_rfl) rfl rfl ⟨H_54.out, cs1, cD⟩ (fun hHeld => ?_)
  refine pure_ (i := 0) (N := (some 49)) (v := ?_) (a' := ?_) #[true, false, false, false, false, false, false, false, false, false, false, false, false, false, false, false, false, false] rfl rfl (by kernel_rfl) (fun _ _ _ h => h) (Or.inl ⟨by rfl, ?_⟩) ?_ ?_
  rotate_left
  · intro w'
    go_simp
    with_reducible rfl
  rotate_left
  · simp only [Act.put, List.setIfInBounds_toArray, List.set_cons_zero, List.set_cons_succ, i64_w, i32_w]
    rfl
  refine pure_ (i := 1) (N := (some 50)) (v := ?_) (a' := ?_) #[true, true, false, false, false, false, false, false, false, false, false, false, false, false, false, false, false, false] rfl rfl (by kernel_rfl) (fun _ _ _ h => h) (Or.inl ⟨by rfl, ?_⟩) ?_ ?_
  rotate_left
  · intro w'
    go_simp
    with_reducible rfl
  rotate_left
  · simp only [Act.put, List.setIfInBounds_toArray, List.set_cons_zero, List.set_cons_succ, i64_w, i32_w]
    rfl
  refine pure_ (i := 2) (N := (some 51)) (v := ?_) (a' := ?_) #[true, true, true, false, false, false, false, false, false, false, false, false, false, false, false, false, false, false] rfl rfl (by kernel_rfl) (fun _ _ _ h => h) (Or.inl ⟨by rfl, ?_⟩) ?_ ?_
  rotate_left
  · intro w'
    go_simp
    with_reducible rfl
  rotate_left
  · simp only [Act.put, List.setIfInBounds_toArray, List.set_cons_zero, List.set_cons_succ, i64_w, i32_w]
    rfl
  refine take_ (i := 3) (N := (some 52)) (v := .agg J) (a' := ?_) #[true, true, true, true, false, false, false, false, false, false, false, false, false, false, false, false, false, false] rfl rfl (by kernel_rfl) (fun _ _ _ h => h) (Or.inl ⟨by rfl, ?_⟩) hHeld ?_ ?_
  · rintro w' ⟨s0, s1, s2⟩
    exact ld_op 32 _ rfl X_46 rfl s0 Try.underlying32 rfl (by kernel_rfl) zJ.out
  rotate_left
  · simp only [Act.put, List.setIfInBounds_toArray, List.set_cons_zero, List.set_cons_succ, i64_w, i32_w]
    rfl
  refine pure_ (i := 4) (N := (some 53)) (v := ?_) (a' := ?_) #[true, true, true, true, true, false, false, false, false, false, false, false, false, false, false, false, false, false] rfl rfl (by kernel_rfl) (fun _ _ _ h => h) (Or.inl ⟨by rfl, ?_⟩) ?_ ?_
  rotate_left
  · intro w'
    go_simp
    with_reducible rfl
  rotate_left
  · simp only [Act.put, List.setIfInBounds_toArray, List.set_cons_zero, List.set_cons_succ, i64_w, i32_w]
    rfl
  refine pure_ (i := 6) (N := (some 55)) (v := ?_) (a' := ?_) #[true, true, true, true, true, false, true, false, false, false, false, false, false, false, false, false, false, false] rfl rfl (by kernel_rfl) (fun _ _ _ h => h) (Or.inl ⟨by rfl, ?_⟩) ?_ ?_
  rotate_left
  · intro w'
    go_simp
    with_reducible rfl
  rotate_left
  · simp only [Act.put, List.setIfInBounds_toArray, List.set_cons_zero, List.set_cons_succ, i64_w, i32_w]
    rfl
  refine pure_ (i := 7) (N := (some 56)) (v := ?_) (a' := ?_) #[true, true, true, true, true, false, true, true, false, false, false, false, false, false, false, false, false, false] rfl rfl (by kernel_rfl) (fun _ _ _ h => h) (Or.inl ⟨by rfl, ?_⟩) ?_ ?_
  rotate_left
  · intro w'
    go_simp
    with_reducible rfl
  rotate_left
  · simp only [Act.put, List.setIfInBounds_toArray, List.set_cons_zero, List.set_cons_succ, i64_w, i32_w]
    rfl
  refine pure_ (i := 8) (N := (some 57)) (v := ?_) (a' := ?_) #[true, true, true, true, true, false, true, true, true, false, false, false, false, false, false, false, false, false] rfl rfl (by kernel_rfl) (fun _ _ _ h => h) (Or.inl ⟨by rfl, ?_⟩) ?_ ?_
  rotate_left
  · intro w'
    go_simp
    with_reducible rfl
  rotate_left
  · simp only [Act.put, List.setIfInBounds_toArray, List.set_cons_zero, List.set_cons_succ, i64_w, i32_w]
    rfl
  refine pure_ (i := 9) (N := (some 58)) (v := ?_) (a' := ?_) #[true, true, true, true, true, false, true, true, true, true, false, false, false, false, false, false, false, false] rfl rfl (by kernel_rfl) (fun _ _ _ h => h) (Or.inl ⟨by rfl, ?_⟩) ?_ ?_
  rotate_left
  · intro w'
    go_simp
    with_reducible rfl
  rotate_left
  · simp only [Act.put, List.setIfInBounds_toArray, List.set_cons_zero, List.set_cons_succ, i64_w, i32_w]
    rfl
  refine take_ (i := 10) (N := (some 59)) (v := ?_) (a' := ?_) #[true, true, true, true, true, false, true, true, true, true, true, false, false, false, false, false, false, false] rfl rfl (by kernel_rfl) (fun _ _ _ h => h) (Or.inl ⟨by rfl, ?_⟩) hHeld ?_ ?_
  rotate_left
  · rintro w' ⟨s0, s1, s2⟩
    go_simp
    with_reducible rfl
  rotate_left
  · simp only [Act.put, List.setIfInBounds_toArray, List.set_cons_zero, List.set_cons_succ, i64_w, i32_w]
    rfl
  refine pure_ (i := 11) (N := (some 60)) (v := ?_) (a' := ?_) #[true, true, true, true, true, false, true, true, true, true, true, true, false, false, false, false, false, false] rfl rfl (by kernel_rfl) (fun _ _ _ h => h) (Or.inl ⟨by rfl, ?_⟩) ?_ ?_
  rotate_left
  · intro w'
    go_simp
    with_reducible rfl
  rotate_left
  · simp only [Act.put, List.setIfInBounds_toArray, List.set_cons_zero, List.set_cons_succ, i64_w, i32_w]
    rfl
  refine pure_ (i := 12) (N := (some 61)) (v := ?_) (a' := ?_) #[true, true, true, true, true, false, true, true, true, true, true, true, true, false, false, false, false, false] rfl rfl (by kernel_rfl) (fun _ _ _ h => h) (Or.inl ⟨by rfl, ?_⟩) ?_ ?_
  rotate_left
  · intro w'
    go_simp
    with_reducible rfl
  rotate_left
  · simp only [Act.put, List.setIfInBounds_toArray, List.set_cons_zero, List.set_cons_succ, i64_w, i32_w]
    rfl
  refine pure_ (i := 13) (N := (some 62)) (v := ?_) (a' := ?_) #[true, true, true, true, true, false, true, true, true, true, true, true, true, true, false, false, false, false] rfl rfl (by kernel_rfl) (fun _ _ _ h => h) (Or.inl ⟨by rfl, ?_⟩) ?_ ?_
  rotate_left
  · intro w'
    go_simp
    with_reducible rfl
  rotate_left
  · simp only [Act.put, List.setIfInBounds_toArray, List.set_cons_zero, List.set_cons_succ, i64_w, i32_w]
    rfl
  refine take_ (i := 14) (N := (some 63)) (v := ?_) (a' := ?_) #[true, true, true, true, true, false, true, true, true, true, true, true, true, true, true, false, false, false] rfl rfl (by kernel_rfl) (fun _ _ _ h => h) (Or.inl ⟨by rfl, ?_⟩) hHeld ?_ ?_
  rotate_left
  · rintro w' ⟨s0, s1, s2⟩
    go_simp
    with_reducible rfl
  rotate_left
  · simp only [Act.put, List.setIfInBounds_toArray, List.set_cons_zero, List.set_cons_succ, i64_w, i32_w]
    rfl
  refine pure_ (i := 15) (N := (some 64)) (v := ?_) (a' := ?_) #[true, true, true, true, true, false, true, true, true, true, true, true, true, true, true, true, false, false] rfl rfl (by kernel_rfl) (fun _ _ _ h => h) (Or.inl ⟨by rfl, ?_⟩) ?_ ?_
  rotate_left
  · intro w'
    go_simp
    with_reducible rfl
  rotate_left
  · simp only [Act.put, List.setIfInBounds_toArray, List.set_cons_zero, List.set_cons_succ, i64_w, i32_w]
    rfl
  refine one_ (i := 5) (N := (some 54)) #[true, true, true, true, true, true, true, true, true, true, true, true, true, true, true, true, false, false] rfl rfl (by kernel_rfl) (by decide) (fun K hK => ?_)
  refine goes_ Try.func14 (by kernel_rfl) rfl #[.agg J, .int .i64 (rel + dd)] (by rfl) rfl rfl (by (try simp only [List.map_toArray, List.map_cons, List.map_nil]); first | done | rfl) ?_
  refine (HL.out _).mono ?_
  rintro e V4 ⟨rfl, hb4⟩
  have Hj4 := Lib.hid ((hb4.block X_46 (blk_lt H_54.out)).trans H_54.out)
  have Hs4 := Lib.hid ((hb4.block B0 (blk_lt H_50.out)).trans H_50.out)
  have HE4 := Lib.hid ((HE_53.out.drew).trans (hb4.mono (sz_le hB0.out HE_53.out.size)))
  refine ⟨_, rfl, ?_⟩
  refine hK.out _ _ ⟨Hj4.out, (blk_cell Hs4.out 1).trans (by rw [eA0.out]; rfl), HcD.out _ HE4.out⟩ (fun hHeld => ?_)
  clear hb4 H_54 H_50 HE_53
  clear hK K
  refine norm_ (a' := ?_) ?_ ?_
  rotate_left
  · show Act.put _ (some 54) _ = _
    simp only [Act.put, List.setIfInBounds_toArray, List.set_cons_zero, List.set_cons_succ, i64_w, i32_w]
    rfl
  refine pure_ (i := 16) (N := (some 65)) (v := ?_) (a' := ?_) #[true, true, true, true, true, true, true, true, true, true, true, true, true, true, true, true, true, false] rfl rfl (by kernel_rfl) (fun _ _ _ h => h) (Or.inl ⟨by rfl, ?_⟩) ?_ ?_
  rotate_left
  · intro w'
    go_simp
    with_reducible rfl
  rotate_left
  · simp only [Act.put, List.setIfInBounds_toArray, List.set_cons_zero, List.set_cons_succ, i64_w, i32_w]
    rfl
  refine pure_ (i := 17) (N := (some 66)) (v := ?_) (a' := ?_) #[true, true, true, true, true, true, true, true, true, true, true, true, true, true, true, true, true, true] rfl rfl (by kernel_rfl) (fun _ _ _ h => h) (Or.inl ⟨by rfl, ?_⟩) ?_ ?_
  rotate_left
  · intro w'
    go_simp
    with_reducible rfl
  rotate_left
  · simp only [Act.put, List.setIfInBounds_toArray, List.set_cons_zero, List.set_cons_succ, i64_w, i32_w]
    rfl
  refine done_ (by kernel_rfl) ?_
  clear ht hwd cs1 cD HcD HL
  cases b with
  | true =>
    replace hb : D ≤ dd := by simpa using hb
    go_wp2_with (first | (refine wpl_ld _ _ rfl (by rfl) X_46 rfl Hj4.out Try.underlying32 rfl (by kernel_rfl) zJ.out ?_))
    refine (late_b _ _ (rel + D) (rel + dd) true hJ3.out (by simp; omega)).mono ?_; rintro e V_55 ⟨rfl, hb_56⟩
    have H_57 : Hid (V_55.heap[B0]? = some (.cells A0 24 (0, 0))) := Lib.hid ((hb_56.block B0 (blk_lt Hs4.out)).trans Hs4.out)
    have H_58 : Hid (V_55.heap[X_46]? = some (.cells J 32 (0, 0))) := Lib.hid ((hb_56.block X_46 (blk_lt Hj4.out)).trans Hj4.out)
    have HE_59 : Hid (Below B0 w V_55) := Lib.hid (HE4.out.trans (hb_56.mono (sz_le hB0.out HE4.out.size)))
    clear HE4 Hs4 Hj4
    clear hb_56
    go_wp2_with (first | (refine wpl_ld _ _ rfl (by rfl) X_46 rfl H_58.out Try.underlying32 rfl (by kernel_rfl) zJ.out ?_))
    refine (late_b _ _ (rel + D) (rel + dd + 1) true hJ3.out (by simp; omega)).mono ?_; rintro e V_60 ⟨rfl, hb_61⟩
    have H_62 : Hid (V_60.heap[B0]? = some (.cells A0 24 (0, 0))) := Lib.hid ((hb_61.block B0 (blk_lt H_57.out)).trans H_57.out)
    have H_63 : Hid (V_60.heap[X_46]? = some (.cells J 32 (0, 0))) := Lib.hid ((hb_61.block X_46 (blk_lt H_58.out)).trans H_58.out)
    have HE_64 : Hid (Below B0 w V_60) := Lib.hid (HE_59.out.trans (hb_61.mono (sz_le hB0.out HE_59.out.size)))
    clear HE_59 H_57 H_58
    clear hb_61
    go_wp2_with (first | (refine wpl_ld _ _ rfl (by rfl) X_46 rfl H_63.out Try.underlying32 rfl (by kernel_rfl) zJ.out ?_))
    refine (late_b _ _ (rel + D) rel false hJ3.out (by simp; omega)).mono ?_; rintro e V_65 ⟨rfl, hb_66⟩
    have H_67 : Hid (V_65.heap[B0]? = some (.cells A0 24 (0, 0))) := Lib.hid ((hb_66.block B0 (blk_lt H_62.out)).trans H_62.out)
    have H_68 : Hid (V_65.heap[X_46]? = some (.cells J 32 (0, 0))) := Lib.hid ((hb_66.block X_46 (blk_lt H_63.out)).trans H_63.out)
    have HE_69 : Hid (Below B0 w V_65) := Lib.hid (HE_64.out.trans (hb_66.mono (sz_le hB0.out HE_64.out.size)))
    clear HE_64 H_62 H_63
    clear hb_66
    go_wp2_with (first | (refine wpl_ld _ _ rfl (by rfl) X_46 rfl H_68.out Try.underlying32 rfl (by kernel_rfl) zJ.out ?_))
    refine (late_b _ _ (rel + D) 0 false hJ3.out (by simp; omega)).mono ?_; rintro e V_70 ⟨rfl, hb_71⟩
    have H_72 : Hid (V_70.heap[B0]? = some (.cells A0 24 (0, 0))) := Lib.hid ((hb_71.block B0 (blk_lt H_67.out)).trans H_67.out)
    have H_73 : Hid (V_70.heap[X_46]? = some (.cells J 32 (0, 0))) := Lib.hid ((hb_71.block X_46 (blk_lt H_68.out)).trans H_68.out)
    have HE_74 : Hid (Below B0 w V_70) := Lib.hid (HE_69.out.trans (hb_71.mono (sz_le hB0.out HE_69.out.size)))
    clear HE_69 H_67 H_68
    clear hb_71
    go_wp2
    go_ret
    exact ⟨rfl, HE_74.out⟩
  | false =>
    replace hb : dd < D := by simpa using hb
    go_wp2_with (first | (refine wpl_ld _ _ rfl (by rfl) X_46 rfl Hj4.out Try.underlying32 rfl (by kernel_rfl) zJ.out ?_))
    refine (late_b _ _ (rel + D) (rel + dd) false hJ3.out (by simp; omega)).mono ?_; rintro e V_75 ⟨rfl, hb_76⟩
    have H_77 : Hid (V_75.heap[B0]? = some (.cells A0 24 (0, 0))) := Lib.hid ((hb_76.block B0 (blk_lt Hs4.out)).trans Hs4.out)
    have H_78 : Hid (V_75.heap[X_46]? = some (.cells J 32 (0, 0))) := Lib.hid ((hb_76.block X_46 (blk_lt Hj4.out)).trans Hj4.out)
    have HE_79 : Hid (Below B0 w V_75) := Lib.hid (HE4.out.trans (hb_76.mono (sz_le hB0.out HE4.out.size)))
    clear HE4 Hs4 Hj4
    clear hb_76
    go_wp2_with (first | (refine wpl_ld _ _ rfl (by rfl) X_46 rfl H_78.out Try.underlying32 rfl (by kernel_rfl) zJ.out ?_))
    refine (late_b _ _ (rel + D) rel false hJ3.out (by simp; omega)).mono ?_; rintro e V_80 ⟨rfl, hb_81⟩
    have H_82 : Hid (V_80.heap[B0]? = some (.cells A0 24 (0, 0))) := Lib.hid ((hb_81.block B0 (blk_lt H_77.out)).trans H_77.out)
    have H_83 : Hid (V_80.heap[X_46]? = some (.cells J 32 (0, 0))) := Lib.hid ((hb_81.block X_46 (blk_lt H_78.out)).trans H_78.out)
    have HE_84 : Hid (Below B0 w V_80) := Lib.hid (HE_79.out.trans (hb_81.mono (sz_le hB0.out HE_79.out.size)))
    clear HE_79 H_77 H_78
    clear hb_81
    go_wp2_with (first | (refine wpl_ld _ _ rfl (by rfl) X_46 rfl H_83.out Try.underlying32 rfl (by kernel_rfl) zJ.out ?_))
    refine (late_b _ _ (rel + D) 0 false hJ3.out (by simp; omega)).mono ?_; rintro e V_85 ⟨rfl, hb_86⟩
    have H_87 : Hid (V_85.heap[B0]? = some (.cells A0 24 (0, 0))) := Lib.hid ((hb_86.block B0 (blk_lt H_82.out)).trans H_82.out)
    have H_88 : Hid (V_85.heap[X_46]? = some (.cells J 32 (0, 0))) := Lib.hid ((hb_86.block X_46 (blk_lt H_83.out)).trans H_83.out)
    have HE_89 : Hid (Below B0 w V_85) := Lib.hid (HE_84.out.trans (hb_86.mono (sz_le hB0.out HE_84.out.size)))
    clear HE_84 H_82 H_83
    clear hb_86
    go_wp2
    go_ret
    exact ⟨rfl, HE_89.out⟩
theorem lates_walk (w : World) (B : Int) (A : Option Addr) (l : List S28) (cap : Nat) (hc : l.length ≤ cap) (hC : Kd.C k28 w A l.length l) (i rel now : Int) (must : Bool) (hi : 0 ≤ i ∧ i ≤ 255) (hrl : 0 ≤ rel ∧ rel ≤ 4294967295) (hnw : 0 ≤ now ∧ now ≤ 4294967295) : Calls Try.prog 7 #[.agg #[.int .i64 B, .slice A l.length cap], .int .u8 i, .int .u32 rel, .int .u32 now, .bool must] w fun e w' => e = .returned (.bool true) ∧ Below w.heap.size w w' := by
  obtain ⟨b, hf, pf⟩ := few_tot B l
  cases b with
  | false => exact lates_few w B A l cap hc hC i rel now must hf
  | true =>
    obtain ⟨b, hr, pr⟩ := right_tot B l
    cases b with
    | false => exact lates_right w B A l cap hc hC i rel now must hf hr
    | true => exact lates_main w B A l cap hc hC i rel now must hi hrl hnw hf hr (pr rfl)
theorem lates_row (w : World) (B : Int) (A : Option Addr) (l : List S28) (cap : Nat) (hc : l.length ≤ cap) (hC : Kd.C k28 w A l.length l) (i : Int) (hi : (Lit.int .u8 i).wf = true) (rel : Int) (hr : (Lit.int .u32 rel).wf = true) (now : Int) (hn : (Lit.int .u32 now).wf = true) (must : Bool) : Calls Try.prog 7 #[.agg #[.int .i64 B, .slice A l.length cap], .int .u8 i, .int .u32 rel, .int .u32 now, .bool must] w fun e w' => e = .returned (.bool true) ∧ Below w.heap.size w w' :=
  lates_walk w B A l cap hc hC i rel now must (Args.bd_u8 hi) (Args.bd_u32 hr) (Args.bd_u32 hn)
end Go.Proofs.Ytpjehbcchanmhaa.PS
