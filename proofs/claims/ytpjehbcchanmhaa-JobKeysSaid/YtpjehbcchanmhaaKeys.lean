/- The law JobKeys, walked. -/
import Derived.Test.YtpjehbcchanmhaaLc
namespace Go.Proofs.Ytpjehbcchanmhaa.PS
open Go.RowKit Go.Proofs.Ytpjehbcchanmhaa.PC Go.Proofs.YtpjehbcchanmhaaW.PrintWords Go.Proofs.YtpjehbcchanmhaaW.PrintLast Go.Proofs.YtpjehbcchanmhaaW.PrintMore
set_option linter.unusedVariables false
set_option linter.unusedSimpArgs false
set_option maxRecDepth 100000 in
set_option maxHeartbeats 6000000 in
theorem keys_few (w : World) (B : Int) (A : Option Addr) (l : List S28) (cap : Nat) (hc : l.length ≤ cap) (hC : Kd.C k28 w A l.length l) (a b one two : Int) (must : Bool) (hf : Ev (fun k => pendulumref05_Few.f k B l) false) : Calls Try.prog 5 #[.agg #[.int .i64 B, .slice A l.length cap], .int .u8 a, .int .u8 b, .int .u32 one, .int .u32 two, .bool must] w fun e w' => e = .returned (.bool true) ∧ Below w.heap.size w w' := by
  obtain ⟨A0, eA0⟩ : ∃ A0 : Array Value, A0 = #[.int .i64 B, .slice A l.length cap] := ⟨_, rfl⟩
  rw [← eA0]
  have zA0 : Hid (A0.size = 2) := Lib.hid (by rw [eA0]; rfl)
  replace eA0 := Lib.hid eA0
  obtain ⟨B0, hB0⟩ : ∃ B, w.heap.size = B := ⟨_, rfl⟩
  rw [hB0]
  obtain ⟨V0, hV0⟩ : ∃ V, w.alloc (.cells A0 24) = V := ⟨_, rfl⟩
  have Hs : Hid (V0.heap[B0]? = some (.cells A0 24 (0, 0))) := Lib.hid (by rw [← hV0]; exact (box_new hB0).1)
  have HE : Hid (Below B0 w V0) := Lib.hid (by rw [← hV0, ← hB0]; exact (Below.refl _ _).alloc (Nat.le_refl _) _)
  go_enter Try.func5, Try.ntmps5
  go_upto_region 1 with (fail)
  replace hB0 := Lib.hid hB0
  replace hV0 := Lib.hid hV0
  go_wp2_with fail
  refine (aw_c _).mono ?_; rintro e V_1 ⟨rfl, hb_2⟩
  have H_3 : Hid (V_1.heap[B0]? = some (.cells A0 24 (0, 0))) := Lib.hid ((hb_2.block B0 (blk_lt Hs.out)).trans Hs.out)
  have HE_4 : Hid (Below B0 w V_1) := Lib.hid (HE.out.trans (hb_2.mono (sz_le hB0.out HE.out.size)))
  clear HE Hs
  clear hb_2
  go_wp2_with (first | (refine wpl_ld _ _ rfl (by rfl) B0 rfl H_3.out Try.underlying24 rfl (by kernel_rfl) zA0.out ?_))
  refine (few_c hf hC hc hB0.out HE_4.out _ eA0.out).mono ?_; rintro e V_5 ⟨rfl, hb_6⟩
  have H_7 : Hid (V_5.heap[B0]? = some (.cells A0 24 (0, 0))) := Lib.hid ((hb_6.block B0 (blk_lt H_3.out)).trans H_3.out)
  have HE_8 : Hid (Below B0 w V_5) := Lib.hid (HE_4.out.trans (hb_6.mono (sz_le hB0.out HE_4.out.size)))
  clear HE_4 H_3
  clear hb_6
  go_wp2_with fail
  refine (aw_c _).mono ?_; rintro e V_9 ⟨rfl, hb_10⟩
  have H_11 : Hid (V_9.heap[B0]? = some (.cells A0 24 (0, 0))) := Lib.hid ((hb_10.block B0 (blk_lt H_7.out)).trans H_7.out)
  have HE_12 : Hid (Below B0 w V_9) := Lib.hid (HE_8.out.trans (hb_10.mono (sz_le hB0.out HE_8.out.size)))
  clear HE_8 H_7
  clear hb_10
  go_wp2
  go_ret
  exact ⟨rfl, HE_12.out⟩
set_option maxRecDepth 100000 in
set_option maxHeartbeats 6000000 in
theorem keys_right (w : World) (B : Int) (A : Option Addr) (l : List S28) (cap : Nat) (hc : l.length ≤ cap) (hC : Kd.C k28 w A l.length l) (a b one two : Int) (must : Bool) (hf : Ev (fun k => pendulumref05_Few.f k B l) true) (hr : Ev (fun k => pendulumref05_Right.f k B l) false) : Calls Try.prog 5 #[.agg #[.int .i64 B, .slice A l.length cap], .int .u8 a, .int .u8 b, .int .u32 one, .int .u32 two, .bool must] w fun e w' => e = .returned (.bool true) ∧ Below w.heap.size w w' := by
  obtain ⟨A0, eA0⟩ : ∃ A0 : Array Value, A0 = #[.int .i64 B, .slice A l.length cap] := ⟨_, rfl⟩
  rw [← eA0]
  have zA0 : Hid (A0.size = 2) := Lib.hid (by rw [eA0]; rfl)
  replace eA0 := Lib.hid eA0
  obtain ⟨B0, hB0⟩ : ∃ B, w.heap.size = B := ⟨_, rfl⟩
  rw [hB0]
  obtain ⟨V0, hV0⟩ : ∃ V, w.alloc (.cells A0 24) = V := ⟨_, rfl⟩
  have Hs : Hid (V0.heap[B0]? = some (.cells A0 24 (0, 0))) := Lib.hid (by rw [← hV0]; exact (box_new hB0).1)
  have HE : Hid (Below B0 w V0) := Lib.hid (by rw [← hV0, ← hB0]; exact (Below.refl _ _).alloc (Nat.le_refl _) _)
  go_enter Try.func5, Try.ntmps5
  go_upto_region 1 with (fail)
  replace hB0 := Lib.hid hB0
  replace hV0 := Lib.hid hV0
  go_wp2_with fail
  refine (aw_c _).mono ?_; rintro e V_13 ⟨rfl, hb_14⟩
  have H_15 : Hid (V_13.heap[B0]? = some (.cells A0 24 (0, 0))) := Lib.hid ((hb_14.block B0 (blk_lt Hs.out)).trans Hs.out)
  have HE_16 : Hid (Below B0 w V_13) := Lib.hid (HE.out.trans (hb_14.mono (sz_le hB0.out HE.out.size)))
  clear HE Hs
  clear hb_14
  go_wp2_with (first | (refine wpl_ld _ _ rfl (by rfl) B0 rfl H_15.out Try.underlying24 rfl (by kernel_rfl) zA0.out ?_))
  refine (few_c hf hC hc hB0.out HE_16.out _ eA0.out).mono ?_; rintro e V_17 ⟨rfl, hb_18⟩
  have H_19 : Hid (V_17.heap[B0]? = some (.cells A0 24 (0, 0))) := Lib.hid ((hb_18.block B0 (blk_lt H_15.out)).trans H_15.out)
  have HE_20 : Hid (Below B0 w V_17) := Lib.hid (HE_16.out.trans (hb_18.mono (sz_le hB0.out HE_16.out.size)))
  clear HE_16 H_15
  clear hb_18
  go_wp2_with (first | (refine wpl_ld _ _ rfl (by rfl) B0 rfl H_19.out Try.underlying24 rfl (by kernel_rfl) zA0.out ?_))
  refine (right_c hr hC hc hB0.out HE_20.out _ eA0.out).mono ?_; rintro e V_21 ⟨rfl, hb_22⟩
  have H_23 : Hid (V_21.heap[B0]? = some (.cells A0 24 (0, 0))) := Lib.hid ((hb_22.block B0 (blk_lt H_19.out)).trans H_19.out)
  have HE_24 : Hid (Below B0 w V_21) := Lib.hid (HE_20.out.trans (hb_22.mono (sz_le hB0.out HE_20.out.size)))
  clear HE_20 H_19
  clear hb_22
  go_wp2_with fail
  refine (aw_c _).mono ?_; rintro e V_25 ⟨rfl, hb_26⟩
  have H_27 : Hid (V_25.heap[B0]? = some (.cells A0 24 (0, 0))) := Lib.hid ((hb_26.block B0 (blk_lt H_23.out)).trans H_23.out)
  have HE_28 : Hid (Below B0 w V_25) := Lib.hid (HE_24.out.trans (hb_26.mono (sz_le hB0.out HE_24.out.size)))
  clear HE_24 H_23
  clear hb_26
  go_wp2
  go_ret
  exact ⟨rfl, HE_28.out⟩
set_option maxRecDepth 100000 in
set_option maxHeartbeats 6000000 in
theorem keys_main (w : World) (B : Int) (A : Option Addr) (l : List S28) (cap : Nat) (hc : l.length ≤ cap) (hC : Kd.C k28 w A l.length l) (a b one two : Int) (must : Bool) (ha : 0 ≤ a ∧ a ≤ 255) (hb : 0 ≤ b ∧ b ≤ 255) (ho : 0 ≤ one ∧ one ≤ 4294967295) (ht : 0 ≤ two ∧ two ≤ 4294967295) (hf : Ev (fun k => pendulumref05_Few.f k B l) true) (hr : Ev (fun k => pendulumref05_Right.f k B l) true) (ok : OkS B l) : Calls Try.prog 5 #[.agg #[.int .i64 B, .slice A l.length cap], .int .u8 a, .int .u8 b, .int .u32 one, .int .u32 two, .bool must] w fun e w' => e = .returned (.bool true) ∧ Below w.heap.size w w' := by
  have hlen := ok.2.2.1
  have hlen2 := ok.2.2.2.1
  obtain ⟨k, hk⟩ : ∃ k, a % (l.length : Int) = k := ⟨_, rfl⟩
  have hk0 : 0 ≤ k := by rw [← hk]; exact Int.emod_nonneg _ (by omega)
  have hk1 : k < (l.length : Int) := by rw [← hk]; exact Int.emod_lt_of_pos _ (by omega)
  have okk := (ok.2.2.2.2 k.toNat (by omega)).1
  rw [show ((k.toNat : Nat) : Int) = k by omega] at okk
  obtain ⟨nk, hnk⟩ : ∃ n, mn (mx 1 1) (rd_T28 l k).f3 = n := ⟨_, rfl⟩
  replace hk := Lib.hid hk
  replace okk := Lib.hid okk
  replace hnk := Lib.hid hnk
  obtain ⟨m, hm⟩ : ∃ k, b % (l.length : Int) = k := ⟨_, rfl⟩
  have hm0 : 0 ≤ m := by rw [← hm]; exact Int.emod_nonneg _ (by omega)
  have hm1 : m < (l.length : Int) := by rw [← hm]; exact Int.emod_lt_of_pos _ (by omega)
  have okm := (ok.2.2.2.2 m.toNat (by omega)).1
  rw [show ((m.toNat : Nat) : Int) = m by omega] at okm
  obtain ⟨nm, hnm⟩ : ∃ n, mn (mx 1 1) (rd_T28 l m).f3 = n := ⟨_, rfl⟩
  replace hm := Lib.hid hm
  replace okm := Lib.hid okm
  replace hnm := Lib.hid hnm
  have hpq : ¬ k = m → ¬ (rd_T28 l k).f10 = (rd_T28 l m).f10 := by
    intro hkm
    rcases Int.lt_or_gt_of_ne hkm with h | h
    · have := ((ok.2.2.2.2 m.toNat (by omega)).2 k.toNat (by omega)).1
      rwa [show ((k.toNat : Nat) : Int) = k by omega, show ((m.toNat : Nat) : Int) = m by omega] at this
    · have := ((ok.2.2.2.2 k.toNat (by omega)).2 m.toNat (by omega)).1
      rw [show ((k.toNat : Nat) : Int) = k by omega, show ((m.toNat : Nat) : Int) = m by omega] at this
      exact fun h => this h.symm
  replace ok := Lib.hid ok
  obtain ⟨pk, hpk⟩ : ∃ p, (rd_T28 l k).f10 = p := ⟨_, rfl⟩
  obtain ⟨pm, hpm⟩ : ∃ p, (rd_T28 l m).f10 = p := ⟨_, rfl⟩
  rw [hpk, hpm] at hpq
  have hpe : k = m → pk = pm := by rintro rfl; rw [← hpk, ← hpm]
  replace hpq := Lib.hid hpq
  replace hpe := Lib.hid hpe
  obtain ⟨bm, hbm⟩ : ∃ b : Int, (if must = true then 1 else 2) = b := ⟨_, rfl⟩
  obtain ⟨Z, eZ⟩ : ∃ A : Array Value, A = #[.int .i64 0, .int .i64 0, .int .i64 0, .int .i64 0, .bool false, .bool false, .bool false, .string ⟨#[]⟩, .int .i64 0, .int .i64 0, .int .i64 0, .int .i64 0, .int .i64 0, .int .i64 0, .int .i64 0, .int .i64 0, .int .i64 0, .int .i64 0, .int .i64 0, .int .i64 0, .int .i64 0, .bool false, .int .i64 0] := ⟨_, rfl⟩
  have zZ : Hid (Z.size = 23) := Lib.hid (by rw [eZ]; rfl)
  have hz : ∀ V : World, (zeroValue 32).run Try.prog V = .ok (.agg Z) V := fun V => by rw [eZ]; kernel_rfl
  replace eZ := Lib.hid eZ
  obtain ⟨J, eJ⟩ : ∃ A, A = JP k 0 one (one + (rd_T28 l k).f2) must (decide (1 > (rd_T28 l k).f3)) false ++ RA (rd_T28 l k) nk (ini (rd_T28 l k) nk) := ⟨_, rfl⟩
  have zJ : Hid (J.size = 23) := Lib.hid (by rw [eJ]; exact JJ_size _ _ _ _ _ _ _ _ _ _)
  have oJ : Hid (J.all (·.oneCell') = true) := Lib.hid (by rw [eJ]; exact JJ_one _ _ _ _ _ _ _ _ _ _)
  replace eJ := Lib.hid eJ
  obtain ⟨M, eM⟩ : ∃ A, A = JP m 1 two (two + (rd_T28 l m).f2) must (decide (1 > (rd_T28 l m).f3)) false ++ RA (rd_T28 l m) nm (ini (rd_T28 l m) nm) := ⟨_, rfl⟩
  have zM : Hid (M.size = 23) := Lib.hid (by rw [eM]; exact JJ_size _ _ _ _ _ _ _ _ _ _)
  have oM : Hid (M.all (·.oneCell') = true) := Lib.hid (by rw [eM]; exact JJ_one _ _ _ _ _ _ _ _ _ _)
  replace eM := Lib.hid eM
  replace hbm := Lib.hid hbm
  replace hpk := Lib.hid hpk
  replace hpm := Lib.hid hpm
  obtain ⟨P, eP⟩ : ∃ A : Array Value, A = #[.int .i64 bm, .int .i64 pk, .int .i64 one, .int .i64 k] := ⟨_, rfl⟩
  have zP : Hid (P.size = 4) := Lib.hid (by rw [eP]; rfl)
  have oP : Hid (P.all (·.oneCell') = true) := Lib.hid (by rw [eP]; simp [Value.oneCell'])
  replace eP := Lib.hid eP
  obtain ⟨Q, eQ⟩ : ∃ A : Array Value, A = #[.int .i64 bm, .int .i64 pm, .int .i64 two, .int .i64 m] := ⟨_, rfl⟩
  have zQ : Hid (Q.size = 4) := Lib.hid (by rw [eQ]; rfl)
  have oQ : Hid (Q.all (·.oneCell') = true) := Lib.hid (by rw [eQ]; simp [Value.oneCell'])
  replace eQ := Lib.hid eQ
  obtain ⟨ZK, eZK⟩ : ∃ A : Array Value, A = #[.int .i64 0, .int .i64 0, .int .i64 0, .int .i64 0] := ⟨_, rfl⟩
  have zZK : Hid (ZK.size = 4) := Lib.hid (by rw [eZK]; rfl)
  have oZK : Hid (ZK.all (·.oneCell') = true) := Lib.hid (by rw [eZK]; simp [Value.oneCell'])
  replace eZK := Lib.hid eZK
  have hz3 : ∀ V : World, (zeroValue 38).run Try.prog V = .ok (.agg ZK) V := fun V => by rw [eZK.out]; kernel_rfl
  have hke : ∀ W : World, (binOp .eql 38 (.agg P) (.agg Q)).run Try.prog W = .ok (.bool (pk == pm && (one == two && k == m))) W := fun W => by rw [eP.out, eQ.out]; exact key_cmp W _ _ _ _ _ _ _
  have hkg : ∀ (a b : Operand) (W : World), (eqGuard .eql 38 a b (.agg P) (.agg Q)).run Try.prog W = .ok () W := fun a b W => by rw [eP.out, eQ.out]; exact run_eqGuard_agg W .eql 38 a b _ _ (by kernel_rfl)
  obtain ⟨A0, eA0⟩ : ∃ A0 : Array Value, A0 = #[.int .i64 B, .slice A l.length cap] := ⟨_, rfl⟩
  rw [← eA0]
  have zA0 : Hid (A0.size = 2) := Lib.hid (by rw [eA0]; rfl)
  replace eA0 := Lib.hid eA0
  obtain ⟨B0, hB0⟩ : ∃ B, w.heap.size = B := ⟨_, rfl⟩
  rw [hB0]
  obtain ⟨V0, hV0⟩ : ∃ V, w.alloc (.cells A0 24) = V := ⟨_, rfl⟩
  have Hs : Hid (V0.heap[B0]? = some (.cells A0 24 (0, 0))) := Lib.hid (by rw [← hV0]; exact (box_new hB0).1)
  have HE : Hid (Below B0 w V0) := Lib.hid (by rw [← hV0, ← hB0]; exact (Below.refl _ _).alloc (Nat.le_refl _) _)
  go_enter Try.func5, Try.ntmps5
  go_upto_region 1 with (fail)
  replace hB0 := Lib.hid hB0
  replace hV0 := Lib.hid hV0
  go_wp2_with fail
  refine (aw_c _).mono ?_; rintro e V_29 ⟨rfl, hb_30⟩
  have H_31 : Hid (V_29.heap[B0]? = some (.cells A0 24 (0, 0))) := Lib.hid ((hb_30.block B0 (blk_lt Hs.out)).trans Hs.out)
  have HE_32 : Hid (Below B0 w V_29) := Lib.hid (HE.out.trans (hb_30.mono (sz_le hB0.out HE.out.size)))
  clear HE Hs
  clear hb_30
  go_wp2_with (first | (refine wpl_ld _ _ rfl (by rfl) B0 rfl H_31.out Try.underlying24 rfl (by kernel_rfl) zA0.out ?_))
  refine (few_c hf hC hc hB0.out HE_32.out _ eA0.out).mono ?_; rintro e V_33 ⟨rfl, hb_34⟩
  have H_35 : Hid (V_33.heap[B0]? = some (.cells A0 24 (0, 0))) := Lib.hid ((hb_34.block B0 (blk_lt H_31.out)).trans H_31.out)
  have HE_36 : Hid (Below B0 w V_33) := Lib.hid (HE_32.out.trans (hb_34.mono (sz_le hB0.out HE_32.out.size)))
  clear HE_32 H_31
  clear hb_34
  go_wp2_with (first | (refine wpl_ld _ _ rfl (by rfl) B0 rfl H_35.out Try.underlying24 rfl (by kernel_rfl) zA0.out ?_))
  refine (right_c hr hC hc hB0.out HE_36.out _ eA0.out).mono ?_; rintro e V_37 ⟨rfl, hb_38⟩
  have H_39 : Hid (V_37.heap[B0]? = some (.cells A0 24 (0, 0))) := Lib.hid ((hb_38.block B0 (blk_lt H_35.out)).trans H_35.out)
  have HE_40 : Hid (Below B0 w V_37) := Lib.hid (HE_36.out.trans (hb_38.mono (sz_le hB0.out HE_36.out.size)))
  clear HE_36 H_35
  clear hb_38
  have c_41 : V_37.cell? ⟨B0, 1, none⟩ = some (.slice A l.length cap) := by rw [blk_cell H_39.out, eA0.out]; rfl
  go_upto_region 5 with (fail)
  rw [hk.out, hm.out]
  clear c_41
  go_wp2_with (first | (refine wpl_ld _ _ rfl (by rfl) B0 rfl H_39.out Try.underlying24 rfl (by kernel_rfl) zA0.out ?_))
  refine (new_c (Kd.C_below hC (below_to hB0.out HE_40.out)) hk0 hk1 (by decide) ho.1 (by omega) okk.out hnk.out _ _ eA0.out eJ.out).mono ?_; rintro e V_42 ⟨rfl, hb_43⟩
  have H_44 : Hid (V_42.heap[B0]? = some (.cells A0 24 (0, 0))) := Lib.hid ((hb_43.block B0 (blk_lt H_39.out)).trans H_39.out)
  have HE_45 : Hid (Below B0 w V_42) := Lib.hid (HE_40.out.trans (hb_43.mono (sz_le hB0.out HE_40.out.size)))
  clear HE_40 H_39
  clear hb_43
  obtain ⟨X_46, hX_48⟩ : ∃ X, V_42.heap.size = X := ⟨_, rfl⟩
  obtain ⟨V_47, q_49_0, q_49_1, q_49_2, q_49_3⟩ := st_new (w := V_42) (T := 32) hX_48 zZ.out zJ.out oJ.out
  have ne_51 : B0 < X_46 := hX_48 ▸ blk_lt H_44.out
  have H_50 : Hid (V_47.heap[B0]? = some (.cells A0 24 (0, 0))) := Lib.hid ((q_49_2 _ ne_51).trans H_44.out)
  have ge_52 : B0 ≤ X_46 := hX_48 ▸ (sz_le hB0.out HE_45.out.size)
  have HE_53 : Hid (Below B0 w V_47) := Lib.hid (q_49_3 _ _ ge_52 HE_45.out)
  have H_54 := Lib.hid q_49_1
  clear q_49_1 q_49_2 q_49_3
  go_upto_region 6 with (fail)
  clear q_49_0 hX_48
  clear HE_45 H_44
  go_wp2_with (first | (refine wpl_ld _ _ rfl (by rfl) B0 rfl H_50.out Try.underlying24 rfl (by kernel_rfl) zA0.out ?_))
  refine (new_c (Kd.C_below hC (below_to hB0.out HE_53.out)) hm0 hm1 (by decide) ht.1 (by omega) okm.out hnm.out _ _ eA0.out eM.out).mono ?_; rintro e V_55 ⟨rfl, hb_56⟩
  have H_57 : Hid (V_55.heap[B0]? = some (.cells A0 24 (0, 0))) := Lib.hid ((hb_56.block B0 (blk_lt H_50.out)).trans H_50.out)
  have H_58 : Hid (V_55.heap[X_46]? = some (.cells J 32 (0, 0))) := Lib.hid ((hb_56.block X_46 (blk_lt H_54.out)).trans H_54.out)
  have HE_59 : Hid (Below B0 w V_55) := Lib.hid (HE_53.out.trans (hb_56.mono (sz_le hB0.out HE_53.out.size)))
  clear HE_53 H_50 H_54
  clear hb_56
  obtain ⟨X_60, hX_62⟩ : ∃ X, V_55.heap.size = X := ⟨_, rfl⟩
  obtain ⟨V_61, q_63_0, q_63_1, q_63_2, q_63_3⟩ := st_new (w := V_55) (T := 32) hX_62 zZ.out zM.out oM.out
  have ne_65 : B0 < X_60 := hX_62 ▸ blk_lt H_57.out
  have H_64 : Hid (V_61.heap[B0]? = some (.cells A0 24 (0, 0))) := Lib.hid ((q_63_2 _ ne_65).trans H_57.out)
  have ne_67 : X_46 < X_60 := hX_62 ▸ blk_lt H_58.out
  have H_66 : Hid (V_61.heap[X_46]? = some (.cells J 32 (0, 0))) := Lib.hid ((q_63_2 _ ne_67).trans H_58.out)
  have ge_68 : B0 ≤ X_60 := hX_62 ▸ (sz_le hB0.out HE_59.out.size)
  have HE_69 : Hid (Below B0 w V_61) := Lib.hid (q_63_3 _ _ ge_68 HE_59.out)
  have H_70 := Lib.hid q_63_1
  clear q_63_1 q_63_2 q_63_3
  go_upto_region 7 with (fail)
  clear q_63_0 hX_62
  clear HE_59 H_57 H_58
  go_wp2_with (first | (refine wpl_ld _ _ rfl (by rfl) X_46 rfl H_66.out Try.underlying32 rfl (by kernel_rfl) zJ.out ?_))
  refine (keyj_c _ _ P _ _ _ _ _ _ _ _ _ _ eJ.out (by rw [eP.out, bnd_ini, hpk.out, hbm.out])).mono ?_; rintro e V_71 ⟨rfl, hb_72⟩
  have H_73 : Hid (V_71.heap[B0]? = some (.cells A0 24 (0, 0))) := Lib.hid ((hb_72.block B0 (blk_lt H_64.out)).trans H_64.out)
  have H_74 : Hid (V_71.heap[X_46]? = some (.cells J 32 (0, 0))) := Lib.hid ((hb_72.block X_46 (blk_lt H_66.out)).trans H_66.out)
  have H_75 : Hid (V_71.heap[X_60]? = some (.cells M 32 (0, 0))) := Lib.hid ((hb_72.block X_60 (blk_lt H_70.out)).trans H_70.out)
  have HE_76 : Hid (Below B0 w V_71) := Lib.hid (HE_69.out.trans (hb_72.mono (sz_le hB0.out HE_69.out.size)))
  clear HE_69 H_64 H_66 H_70
  clear hb_72
  obtain ⟨X_77, hX_79⟩ : ∃ X, V_71.heap.size = X := ⟨_, rfl⟩
  obtain ⟨V_78, q_80_0, q_80_1, q_80_2, q_80_3⟩ := st_new (w := V_71) (T := 38) hX_79 zZK.out zP.out oP.out
  have ne_82 : B0 < X_77 := hX_79 ▸ blk_lt H_73.out
  have H_81 : Hid (V_78.heap[B0]? = some (.cells A0 24 (0, 0))) := Lib.hid ((q_80_2 _ ne_82).trans H_73.out)
  have ne_84 : X_46 < X_77 := hX_79 ▸ blk_lt H_74.out
  have H_83 : Hid (V_78.heap[X_46]? = some (.cells J 32 (0, 0))) := Lib.hid ((q_80_2 _ ne_84).trans H_74.out)
  have ne_86 : X_60 < X_77 := hX_79 ▸ blk_lt H_75.out
  have H_85 : Hid (V_78.heap[X_60]? = some (.cells M 32 (0, 0))) := Lib.hid ((q_80_2 _ ne_86).trans H_75.out)
  have ge_87 : B0 ≤ X_77 := hX_79 ▸ (sz_le hB0.out HE_76.out.size)
  have HE_88 : Hid (Below B0 w V_78) := Lib.hid (q_80_3 _ _ ge_87 HE_76.out)
  have H_89 := Lib.hid q_80_1
  clear q_80_1 q_80_2 q_80_3
  go_upto_region 10 with (fail)
  clear q_80_0 hX_79
  clear HE_76 H_73 H_74 H_75
  go_wp2_with (first | (refine wpl_ld _ _ rfl (by rfl) X_60 rfl H_85.out Try.underlying32 rfl (by kernel_rfl) zM.out ?_))
  refine (keyj_c _ _ Q _ _ _ _ _ _ _ _ _ _ eM.out (by rw [eQ.out, bnd_ini, hpm.out, hbm.out])).mono ?_; rintro e V_90 ⟨rfl, hb_91⟩
  have H_92 : Hid (V_90.heap[B0]? = some (.cells A0 24 (0, 0))) := Lib.hid ((hb_91.block B0 (blk_lt H_81.out)).trans H_81.out)
  have H_93 : Hid (V_90.heap[X_46]? = some (.cells J 32 (0, 0))) := Lib.hid ((hb_91.block X_46 (blk_lt H_83.out)).trans H_83.out)
  have H_94 : Hid (V_90.heap[X_60]? = some (.cells M 32 (0, 0))) := Lib.hid ((hb_91.block X_60 (blk_lt H_85.out)).trans H_85.out)
  have H_95 : Hid (V_90.heap[X_77]? = some (.cells P 38 (0, 0))) := Lib.hid ((hb_91.block X_77 (blk_lt H_89.out)).trans H_89.out)
  have HE_96 : Hid (Below B0 w V_90) := Lib.hid (HE_88.out.trans (hb_91.mono (sz_le hB0.out HE_88.out.size)))
  clear HE_88 H_81 H_83 H_85 H_89
  clear hb_91
  obtain ⟨X_97, hX_99⟩ : ∃ X, V_90.heap.size = X := ⟨_, rfl⟩
  obtain ⟨V_98, q_100_0, q_100_1, q_100_2, q_100_3⟩ := st_new (w := V_90) (T := 38) hX_99 zZK.out zQ.out oQ.out
  have ne_102 : B0 < X_97 := hX_99 ▸ blk_lt H_92.out
  have H_101 : Hid (V_98.heap[B0]? = some (.cells A0 24 (0, 0))) := Lib.hid ((q_100_2 _ ne_102).trans H_92.out)
  have ne_104 : X_46 < X_97 := hX_99 ▸ blk_lt H_93.out
  have H_103 : Hid (V_98.heap[X_46]? = some (.cells J 32 (0, 0))) := Lib.hid ((q_100_2 _ ne_104).trans H_93.out)
  have ne_106 : X_60 < X_97 := hX_99 ▸ blk_lt H_94.out
  have H_105 : Hid (V_98.heap[X_60]? = some (.cells M 32 (0, 0))) := Lib.hid ((q_100_2 _ ne_106).trans H_94.out)
  have ne_108 : X_77 < X_97 := hX_99 ▸ blk_lt H_95.out
  have H_107 : Hid (V_98.heap[X_77]? = some (.cells P 38 (0, 0))) := Lib.hid ((q_100_2 _ ne_108).trans H_95.out)
  have ge_109 : B0 ≤ X_97 := hX_99 ▸ (sz_le hB0.out HE_96.out.size)
  have HE_110 : Hid (Below B0 w V_98) := Lib.hid (q_100_3 _ _ ge_109 HE_96.out)
  have H_111 := Lib.hid q_100_1
  clear q_100_1 q_100_2 q_100_3
  go_upto_region 11 with (fail)
  clear q_100_0 hX_99
  clear HE_96 H_92 H_93 H_94 H_95
  have c_112 : V_98.cell? ⟨X_77, 0, none⟩ = some (.int .i64 bm) := by rw [blk_cell H_107.out, eP.out]; rfl
  have c_113 : V_98.cell? ⟨X_97, 0, none⟩ = some (.int .i64 bm) := by rw [blk_cell H_111.out, eQ.out]; rfl
  have c_114 : V_98.cell? ⟨X_77, 1, none⟩ = some (.int .i64 pk) := by rw [blk_cell H_107.out, eP.out]; rfl
  have c_115 : V_98.cell? ⟨X_97, 1, none⟩ = some (.int .i64 pm) := by rw [blk_cell H_111.out, eQ.out]; rfl
  have c_116 : V_98.cell? ⟨X_77, 3, none⟩ = some (.int .i64 k) := by rw [blk_cell H_107.out, eP.out]; rfl
  have c_117 : V_98.cell? ⟨X_97, 3, none⟩ = some (.int .i64 m) := by rw [blk_cell H_111.out, eQ.out]; rfl
  have tok0 : True := trivial
  have tok1 : True := trivial
  by_cases hkm : k = m
  · have hp := hpe.out hkm
    have h1 : (k == m) = true := by simpa using hkm
    have h2 : (pk == pm) = true := by simpa using hp
    clear hkm hp
    by_cases hot : one = two
    · have h3 : (one == two) = true := by simpa using hot
      clear hot
      go_wp2_with (first | (clear tok0; refine wpl_ld _ _ rfl (by rfl) X_77 rfl H_107.out Try.underlying38 rfl (by kernel_rfl) zP.out ?_) | (clear tok1; refine wpl_ld _ _ rfl (by rfl) X_97 rfl H_111.out Try.underlying38 rfl (by kernel_rfl) zQ.out ?_))
      go_ret
      exact ⟨rfl, HE_110.out⟩
    · have h3 : (one == two) = false := by simpa using hot
      clear hot
      go_wp2_with (first | (clear tok0; refine wpl_ld _ _ rfl (by rfl) X_77 rfl H_107.out Try.underlying38 rfl (by kernel_rfl) zP.out ?_) | (clear tok1; refine wpl_ld _ _ rfl (by rfl) X_97 rfl H_111.out Try.underlying38 rfl (by kernel_rfl) zQ.out ?_))
      go_ret
      exact ⟨rfl, HE_110.out⟩
  · have hp := hpq.out hkm
    have h1 : (k == m) = false := by simpa using hkm
    have h2 : (pk == pm) = false := by simpa using hp
    have h3 : (k != m) = true := by simpa using hkm
    have h4 : (pk != pm) = true := by simpa using hp
    clear hkm hp
    go_wp2_with (first | (clear tok0; refine wpl_ld _ _ rfl (by rfl) X_77 rfl H_107.out Try.underlying38 rfl (by kernel_rfl) zP.out ?_) | (clear tok1; refine wpl_ld _ _ rfl (by rfl) X_97 rfl H_111.out Try.underlying38 rfl (by kernel_rfl) zQ.out ?_))
    go_ret
    exact ⟨rfl, HE_110.out⟩
theorem keys_walk (w : World) (B : Int) (A : Option Addr) (l : List S28) (cap : Nat) (hc : l.length ≤ cap) (hC : Kd.C k28 w A l.length l) (a b one two : Int) (must : Bool) (ha : 0 ≤ a ∧ a ≤ 255) (hb : 0 ≤ b ∧ b ≤ 255) (ho : 0 ≤ one ∧ one ≤ 4294967295) (ht : 0 ≤ two ∧ two ≤ 4294967295) : Calls Try.prog 5 #[.agg #[.int .i64 B, .slice A l.length cap], .int .u8 a, .int .u8 b, .int .u32 one, .int .u32 two, .bool must] w fun e w' => e = .returned (.bool true) ∧ Below w.heap.size w w' := by
  obtain ⟨b, hf, pf⟩ := few_tot B l
  cases b with
  | false => exact keys_few w B A l cap hc hC a b one two must hf
  | true =>
    obtain ⟨b, hr, pr⟩ := right_tot B l
    cases b with
    | false => exact keys_right w B A l cap hc hC a b one two must hf hr
    | true => exact keys_main w B A l cap hc hC a b one two must ha hb ho ht hf hr (pr rfl)
theorem keys_row (w : World) (B : Int) (A : Option Addr) (l : List S28) (cap : Nat) (hc : l.length ≤ cap) (hC : Kd.C k28 w A l.length l) (a : Int) (ha : (Lit.int .u8 a).wf = true) (b : Int) (hb : (Lit.int .u8 b).wf = true) (one : Int) (ho : (Lit.int .u32 one).wf = true) (two : Int) (ht : (Lit.int .u32 two).wf = true) (must : Bool) : Calls Try.prog 5 #[.agg #[.int .i64 B, .slice A l.length cap], .int .u8 a, .int .u8 b, .int .u32 one, .int .u32 two, .bool must] w fun e w' => e = .returned (.bool true) ∧ Below w.heap.size w w' :=
  keys_walk w B A l cap hc hC a b one two must (Args.bd_u8 ha) (Args.bd_u8 hb) (Args.bd_u32 ho) (Args.bd_u32 ht)
end Go.Proofs.Ytpjehbcchanmhaa.PS
