/- The law RecoverClean, walked: of every right task of few ticks and every demand it answers true. -/
import Derived.Test.YtkedmmimcmignaaLB
namespace Go.Proofs.Ytkedmmimcmignaa.PS
open Go.RowKit Go.Proofs.Ytkedmmimcmignaa.PC Go.Proofs.YtkedmmimcmignaaW.PrintWords Go.Proofs.YtkedmmimcmignaaW.PrintLast
set_option linter.unusedVariables false
set_option linter.unusedSimpArgs false
section
variable {t : S23} {d : Int} (od : Okd t d)
theorem one_part (c : ¬ t.f9 = 1) : (pt t d).length = 1 := by unfold pt; rw [if_neg c]; rfl
include od in
theorem at_inv {i k m : Nat} (hi : i < (pt t d).length) (hm : rd (pt t d) i = (m : Int)) (h1 : 1 ≤ k) (h2 : k ≤ m) : Inv t d ⟨i, (m : Int) - ((k : Int) - 1), false, 0⟩ := by
  have hs := su_bd od.1 od.2.2.2.2.1 od.2.2.2.2.2
  have he := ex_bd od.1
  have hp := pt_nonneg od.1 od.2.2.2.2.1
  have e := su_drop hi
  have g0 := su_drop_le hp i
  have g1 := su_nonneg (l := (pt t d).drop (i + 1)) (fun x hx => hp x (List.mem_of_mem_drop hx))
  refine ⟨fun c => ⟨hi, by simp only; omega⟩, fun c => ⟨by have := one_part (d := d) c; simp only; omega, by simp only; omega⟩, by simp only; omega⟩
theorem nx_more {i k m : Nat} (h2 : k < m) : nx t d ⟨i, (m : Int) - ((k : Int) - 1), false, 0⟩ false = (⟨i, (m : Int) - (((k + 1 : Nat) : Int) - 1), false, 0⟩, 0) := by
  unfold nx
  simp only
  rw [if_pos (by omega), show (m : Int) - ((k : Int) - 1) - 1 = (m : Int) - (((k + 1 : Nat) : Int) - 1) by omega]
  rfl
theorem nx_pass {i m : Nat} (hi : i + 1 < (pt t d).length) : nx t d ⟨i, (m : Int) - ((m : Int) - 1), false, 0⟩ false = (⟨i + 1, rd (pt t d) (i + 1 : Nat), false, 0⟩, 1) := by
  have c : t.f9 = 1 := by
    rcases Classical.em (t.f9 = 1) with c | c
    · exact c
    · have := one_part (d := d) c; omega
  unfold nx
  simp only
  rw [if_neg (by omega), if_neg (by simp), if_pos ⟨c, hi⟩]
theorem nx_fin {i m : Nat} (hi : i + 1 = (pt t d).length) : nx t d ⟨i, (m : Int) - ((m : Int) - 1), false, 0⟩ false = (⟨i, (m : Int) - ((m : Int) - 1) - 1, false, 0⟩, 4) := by
  unfold nx
  simp only
  rw [if_neg (by omega), if_neg (by simp), if_neg (fun h => by omega)]
end
/-- What stands at the heads of the loops. -/
def CB (t : S23) (d : Int) (w : World) (B0 Xr Xq g : Nat) (cur : Array Value) (n : Int) (P : St → Prop) (wr : World) : Prop :=
  ∃ s u R Q, R = RA t d s ∧ Q = RA t d u ∧ wr.heap[Xr]? = some (.cells R 28 (0, 0)) ∧ wr.heap[Xq]? = some (.cells Q 28 (0, 0)) ∧ Nums wr g cur (pt t d) ∧ Below B0 w wr ∧ s.fl = 0 ∧ P s ∧ Inv t d u ∧ 0 ≤ u.fl ∧ u.fl ≤ n
def CO (t : S23) (d : Int) (i : Nat) (s : St) : Prop := i < (pt t d).length → s = ⟨i, rd (pt t d) (i : Int), false, 0⟩
def CI (t : S23) (d : Int) (i m k : Nat) (s : St) : Prop := (k ≤ m → s = ⟨i, (m : Int) - ((k : Int) - 1), false, 0⟩) ∧ (k = m + 1 → CO t d (i + 1) s)
set_option maxRecDepth 100000 in
set_option maxHeartbeats 1000000 in
theorem clean_out (w : World) (t : S23) (d : Int) (hb : Ev (fun k => pendulumref15_Small.f k t.f0 t.f1 t.f2 t.f3 t.f4 t.f5 t.f6 t.f7 t.f8 t.f9 t.f10 d) false) : Calls Try.prog 4 #[.agg (TA t), .int .i64 d] w fun e w' => e = .returned (.bool true) ∧ Below w.heap.size w w' := by
  obtain ⟨A0, eA0⟩ : ∃ A, A = TA t := ⟨_, rfl⟩
  rw [← eA0]
  have zA0 : Hid (A0.size = 11) := Lib.hid (by rw [eA0]; rfl)
  replace eA0 := Lib.hid eA0
  obtain ⟨Z, eZ⟩ : ∃ A : Array Value, A = #[.string ⟨#[]⟩, .int .i64 0, .int .i64 0, .int .i64 0, .int .i64 0, .int .i64 0, .int .i64 0, .int .i64 0, .int .i64 0, .int .i64 0, .int .i64 0, .int .i64 0, .int .i64 0, .int .i64 0, .bool false, .int .i64 0] := ⟨_, rfl⟩
  have zZ : Hid (Z.size = 16) := Lib.hid (by rw [eZ]; rfl)
  have hz : ∀ V : World, (zeroValue 28).run Try.prog V = .ok (.agg Z) V := fun V => by rw [eZ]; kernel_rfl
  replace eZ := Lib.hid eZ
  obtain ⟨B0, hB0⟩ : ∃ B, w.heap.size = B := ⟨_, rfl⟩
  rw [hB0]
  obtain ⟨V0, hV0⟩ : ∃ V, w.alloc (.cells A0 23) = V := ⟨_, rfl⟩
  have Ht : Hid (V0.heap[B0]? = some (.cells A0 23 (0, 0))) := Lib.hid (by rw [← hV0]; exact (box_new hB0).1)
  have HE : Hid (Below B0 w V0) := Lib.hid (by rw [← hV0, ← hB0]; exact (Below.refl _ _).alloc (Nat.le_refl _) _)
  go_enter Try.func4, Try.ntmps4
  go_upto_region 1 with (fail)
  replace hB0 := Lib.hid hB0
  replace hV0 := Lib.hid hV0
  go_wp2_with fail
  refine (aw_c _).mono ?_; rintro e V_1 ⟨rfl, hb_2⟩
  have H_3 : Hid (V_1.heap[B0]? = some (.cells A0 23 (0, 0))) := Lib.hid ((hb_2.block B0 (blk_lt Ht.out)).trans Ht.out)
  have HE_4 : Hid (Below B0 w V_1) := Lib.hid (HE.out.trans (hb_2.mono (sz_le hB0.out HE.out.size)))
  clear HE Ht
  clear hb_2
  go_wp2_with (first | (refine wpl_ld _ _ rfl (by rfl) B0 rfl H_3.out Try.underlying23 rfl (by kernel_rfl) zA0.out ?_))
  refine (small_c hb _ _ eA0.out).mono ?_; rintro e V_5 ⟨rfl, hb_6⟩
  have H_7 : Hid (V_5.heap[B0]? = some (.cells A0 23 (0, 0))) := Lib.hid ((hb_6.block B0 (blk_lt H_3.out)).trans H_3.out)
  have HE_8 : Hid (Below B0 w V_5) := Lib.hid (HE_4.out.trans (hb_6.mono (sz_le hB0.out HE_4.out.size)))
  clear HE_4 H_3
  clear hb_6
  go_wp2_with fail
  refine (aw_c _).mono ?_; rintro e V_9 ⟨rfl, hb_10⟩
  have H_11 : Hid (V_9.heap[B0]? = some (.cells A0 23 (0, 0))) := Lib.hid ((hb_10.block B0 (blk_lt H_7.out)).trans H_7.out)
  have HE_12 : Hid (Below B0 w V_9) := Lib.hid (HE_8.out.trans (hb_10.mono (sz_le hB0.out HE_8.out.size)))
  clear HE_8 H_7
  clear hb_10
  go_wp2
  go_ret
  exact ⟨rfl, HE_12.out⟩
set_option maxRecDepth 100000 in
set_option maxHeartbeats 4000000 in
theorem clean_main (w : World) (t : S23) (d : Int) (hb : Ev (fun k => pendulumref15_Small.f k t.f0 t.f1 t.f2 t.f3 t.f4 t.f5 t.f6 t.f7 t.f8 t.f9 t.f10 d) true) (od : Okd t d) : Calls Try.prog 4 #[.agg (TA t), .int .i64 d] w fun e w' => e = .returned (.bool true) ∧ Below w.heap.size w w' := by
  obtain ⟨A0, eA0⟩ : ∃ A, A = TA t := ⟨_, rfl⟩
  rw [← eA0]
  have zA0 : Hid (A0.size = 11) := Lib.hid (by rw [eA0]; rfl)
  replace eA0 := Lib.hid eA0
  obtain ⟨Z, eZ⟩ : ∃ A : Array Value, A = #[.string ⟨#[]⟩, .int .i64 0, .int .i64 0, .int .i64 0, .int .i64 0, .int .i64 0, .int .i64 0, .int .i64 0, .int .i64 0, .int .i64 0, .int .i64 0, .int .i64 0, .int .i64 0, .int .i64 0, .bool false, .int .i64 0] := ⟨_, rfl⟩
  have zZ : Hid (Z.size = 16) := Lib.hid (by rw [eZ]; rfl)
  have hz : ∀ V : World, (zeroValue 28).run Try.prog V = .ok (.agg Z) V := fun V => by rw [eZ]; kernel_rfl
  replace eZ := Lib.hid eZ
  obtain ⟨B0, hB0⟩ : ∃ B, w.heap.size = B := ⟨_, rfl⟩
  rw [hB0]
  obtain ⟨V0, hV0⟩ : ∃ V, w.alloc (.cells A0 23) = V := ⟨_, rfl⟩
  have Ht : Hid (V0.heap[B0]? = some (.cells A0 23 (0, 0))) := Lib.hid (by rw [← hV0]; exact (box_new hB0).1)
  have HE : Hid (Below B0 w V0) := Lib.hid (by rw [← hV0, ← hB0]; exact (Below.refl _ _).alloc (Nat.le_refl _) _)
  go_enter Try.func4, Try.ntmps4
  go_upto_region 1 with (fail)
  replace hB0 := Lib.hid hB0
  replace hV0 := Lib.hid hV0
  go_wp2_with fail
  refine (aw_c _).mono ?_; rintro e V_1 ⟨rfl, hb_2⟩
  have H_3 : Hid (V_1.heap[B0]? = some (.cells A0 23 (0, 0))) := Lib.hid ((hb_2.block B0 (blk_lt Ht.out)).trans Ht.out)
  have HE_4 : Hid (Below B0 w V_1) := Lib.hid (HE.out.trans (hb_2.mono (sz_le hB0.out HE.out.size)))
  clear HE Ht
  clear hb_2
  go_wp2_with (first | (refine wpl_ld _ _ rfl (by rfl) B0 rfl H_3.out Try.underlying23 rfl (by kernel_rfl) zA0.out ?_))
  refine (small_c hb _ _ eA0.out).mono ?_; rintro e V_13 ⟨rfl, hb_14⟩
  have H_15 : Hid (V_13.heap[B0]? = some (.cells A0 23 (0, 0))) := Lib.hid ((hb_14.block B0 (blk_lt H_3.out)).trans H_3.out)
  have HE_16 : Hid (Below B0 w V_13) := Lib.hid (HE_4.out.trans (hb_14.mono (sz_le hB0.out HE_4.out.size)))
  clear HE_4 H_3
  clear hb_14
  obtain ⟨R0, eR0⟩ : ∃ A, A = RA t d (ini t d) := ⟨_, rfl⟩
  have zR0 : Hid (R0.size = 16) := Lib.hid (by rw [eR0]; rfl)
  have oR0 : Hid (R0.all (·.oneCell') = true) := Lib.hid (by rw [eR0]; exact RA_one _ _ _)
  replace eR0 := Lib.hid eR0
  go_wp2_with (first | (refine wpl_ld _ _ rfl (by rfl) B0 rfl H_15.out Try.underlying23 rfl (by kernel_rfl) zA0.out ?_))
  refine (begin_c od _ _ _ eA0.out eR0.out).mono ?_; rintro e V_17 ⟨rfl, hb_18⟩
  have H_19 : Hid (V_17.heap[B0]? = some (.cells A0 23 (0, 0))) := Lib.hid ((hb_18.block B0 (blk_lt H_15.out)).trans H_15.out)
  have HE_20 : Hid (Below B0 w V_17) := Lib.hid (HE_16.out.trans (hb_18.mono (sz_le hB0.out HE_16.out.size)))
  clear HE_16 H_15
  clear hb_18
  obtain ⟨X_21, hX_23⟩ : ∃ X, V_17.heap.size = X := ⟨_, rfl⟩
  obtain ⟨V_22, q_24_0, q_24_1, q_24_2, q_24_3⟩ := st_new (w := V_17) (T := 28) hX_23 zZ.out zR0.out oR0.out
  have ne_26 : B0 < X_21 := hX_23 ▸ blk_lt H_19.out
  have H_25 : Hid (V_22.heap[B0]? = some (.cells A0 23 (0, 0))) := Lib.hid ((q_24_2 _ ne_26).trans H_19.out)
  have ge_27 : B0 ≤ X_21 := hX_23 ▸ (sz_le hB0.out HE_20.out.size)
  have HE_28 : Hid (Below B0 w V_22) := Lib.hid (q_24_3 _ _ ge_27 HE_20.out)
  have H_29 := Lib.hid q_24_1
  clear q_24_1 q_24_2 q_24_3
  go_upto_region 4 with (fail)
  clear q_24_0 hX_23
  clear HE_20 H_19
  obtain ⟨X_30, hX_32⟩ : ∃ X, V_22.heap.size = X := ⟨_, rfl⟩
  obtain ⟨V_31, q_33_0, q_33_1, q_33_2, q_33_3⟩ := st_new (w := V_22) (T := 28) hX_32 zZ.out zR0.out oR0.out
  have ne_35 : B0 < X_30 := hX_32 ▸ blk_lt H_25.out
  have H_34 : Hid (V_31.heap[B0]? = some (.cells A0 23 (0, 0))) := Lib.hid ((q_33_2 _ ne_35).trans H_25.out)
  have ne_37 : X_21 < X_30 := hX_32 ▸ blk_lt H_29.out
  have H_36 : Hid (V_31.heap[X_21]? = some (.cells R0 28 (0, 0))) := Lib.hid ((q_33_2 _ ne_37).trans H_29.out)
  have ge_38 : B0 ≤ X_30 := hX_32 ▸ (sz_le hB0.out HE_28.out.size)
  have HE_39 : Hid (Below B0 w V_31) := Lib.hid (q_33_3 _ _ ge_38 HE_28.out)
  have H_40 := Lib.hid q_33_1
  clear q_33_1 q_33_2 q_33_3
  go_upto_region 5 with (first | (refine wpl_ld _ _ rfl (by rfl) X_21 rfl H_29.out Try.underlying28 rfl (by kernel_rfl) zR0.out ?_))
  clear q_33_0 hX_32
  clear HE_28 H_25 H_29
  have lr : X_21 < V_31.heap.size := blk_lt H_36.out
  have lq : X_30 < V_31.heap.size := blk_lt H_40.out
  go_wp2_with (first | (refine wpl_ld _ _ rfl (by rfl) B0 rfl H_34.out Try.underlying23 rfl (by kernel_rfl) zA0.out ?_))
  refine (parts_c od _ _ eA0.out).mono ?_; rintro e V_41 ⟨g, cp, cur, rfl, hgr, hrow, hcp, hb_42⟩
  have H_43 : Hid (V_41.heap[B0]? = some (.cells A0 23 (0, 0))) := Lib.hid ((hb_42.block B0 (blk_lt H_34.out)).trans H_34.out)
  have H_44 : Hid (V_41.heap[X_21]? = some (.cells R0 28 (0, 0))) := Lib.hid ((hb_42.block X_21 (blk_lt H_36.out)).trans H_36.out)
  have H_45 : Hid (V_41.heap[X_30]? = some (.cells R0 28 (0, 0))) := Lib.hid ((hb_42.block X_30 (blk_lt H_40.out)).trans H_40.out)
  have HE_46 : Hid (Below B0 w V_41) := Lib.hid (HE_39.out.trans (hb_42.mono (sz_le hB0.out HE_39.out.size)))
  clear HE_39 H_34 H_36 H_40
  clear hb_42
  have gr : g ≠ X_21 := by omega
  have gq : g ≠ X_30 := by omega
  have rq : X_21 ≠ X_30 := (Nat.ne_of_lt ne_37)
  obtain ⟨len, hlen⟩ : ∃ n, n = (pt t d).length := ⟨_, rfl⟩
  rw [← hlen] at hcp ⊢
  have hl0 : 0 < len := by rw [hlen]; exact len_pos od
  have hll : len ≤ 1048576 := by rw [hlen]; exact pt_len od.1 d od.2.2.2.2.1 od.2.2.2.2.2
  have hCB : Hid (CB t d w B0 X_21 X_30 g cur (su (pt t d) - su ((pt t d).drop 0)) (CO t d 0) V_41) := Lib.hid ⟨ini t d, ini t d, R0, R0, eR0.out, eR0.out, H_44.out, H_45.out, hrow, HE_46.out, rfl, fun _ => rfl, (ini_inv od).1, Int.le_refl _, by simp [ini]⟩
  replace hlen := Lib.hid hlen
  clear hrow H_44 H_45 H_43 HE_46
  go_wp2_with fail
  go_loopw [9] (fun i wr => ∃ iN : Nat, i = .int .i64 (iN : Int) ∧ iN ≤ len ∧ CB t d w B0 X_21 X_30 g cur (su (pt t d) - su ((pt t d).drop iN)) (CO t d iN) wr) (fun i _ => len - (intOf i).toNat)
  case atStart => exact ⟨0, rfl, Nat.zero_le _, hCB.out⟩
  case round =>
    obtain ⟨i, rfl, hi, hcb⟩ := hrel
    by_cases hlt : i < len
    · have hil : i < (pt t d).length := by rw [← hlen.out]; exact hlt
      have hile : (i : Int) < (len : Int) := by omega
      have hmi := pt_mem od.1 d od.2.2.2.2.1 _ (rd_mem hil)
      obtain ⟨m, hm⟩ : ∃ m : Nat, rd (pt t d) (i : Int) = (m : Int) := ⟨(rd (pt t d) (i : Int)).toNat, by omega⟩
      have hm1 : 1 ≤ m := by rw [hm] at hmi; omega
      have hsd := su_drop hil
      have hsx := sx_bd od
      have hex := (ex_bd od.1).1
      have hg0 := su_drop_le (pt_nonneg od.1 od.2.2.2.2.1) i
      have hg1 := su_nonneg (l := (pt t d).drop (i + 1)) (fun x hx => pt_nonneg od.1 od.2.2.2.2.1 x (List.mem_of_mem_drop hx))
      rw [hm] at hsd
      have hg3 : 0 ≤ su ((pt t d).drop i) := by omega
      have hmm : (m : Int) ≤ 252000 := by omega
      have hcb2 : Hid (CB t d w B0 X_21 X_30 g cur (su (pt t d) - su ((pt t d).drop i) + ((1 : Nat) : Int) - 1) (CI t d i m 1) wr) := Lib.hid (by
          obtain ⟨s, u, R, Q, a1, a2, a3, a4, a5, a6, a7, a8, a9, a10, a11⟩ := hcb
          exact ⟨s, u, R, Q, a1, a2, a3, a4, a5, a6, a7, ⟨fun _ => by rw [a8 hil, hm]; simp, fun h => by omega⟩, a9, a10, by omega⟩)
      replace hm := Lib.hid hm
      replace hsd := Lib.hid hsd
      clear hcb hCB hmi
      go_wp2_with fail
      go_loopw [10] (fun k wr => ∃ kN : Nat, k = .int .i64 (kN : Int) ∧ 1 ≤ kN ∧ kN ≤ m + 1 ∧ CB t d w B0 X_21 X_30 g cur (su (pt t d) - su ((pt t d).drop i) + (kN : Int) - 1) (CI t d i m kN) wr) (fun k _ => m + 1 - (intOf k).toNat)
      case atStart => exact ⟨1, rfl, Nat.le_refl _, by omega, hcb2.out⟩
      case round =>
        obtain ⟨k, rfl, hk1, hk2, s, u, R, Q, eR, eQ, HR, HQ, HN, HE, hfl, hP, IU, hu0, hu1⟩ := hrel
        have cm : wr.cell? ⟨g, i, none⟩ = some (.int .i64 (m : Int)) := by rw [blk_cell HN.1, HN.2 i hil, hm.out]
        by_cases hk : k ≤ m
        · obtain ⟨u', e', hq', IU', g4, g1, hv0, hv1⟩ := nx_hit od IU
          obtain ⟨Q', eQ'⟩ : ∃ A, A = RA t d u' := ⟨_, rfl⟩
          have zQ' : Hid (Q'.size = 16) := Lib.hid (by rw [eQ']; rfl)
          have oQ' : Hid (Q'.all (·.oneCell') = true) := Lib.hid (by rw [eQ']; exact RA_one _ _ _)
          replace eQ' := Lib.hid eQ'
          have zR : Hid (R.size = 16) := Lib.hid (by rw [eR]; rfl)
          have oR : Hid (R.all (·.oneCell') = true) := Lib.hid (by rw [eR]; exact RA_one _ _ _)
          have zQ : Hid (Q.size = 16) := Lib.hid (by rw [eQ]; rfl)
          have oQ : Hid (Q.all (·.oneCell') = true) := Lib.hid (by rw [eQ]; exact RA_one _ _ _)
          have hs : Hid (s = ⟨i, (m : Int) - ((k : Int) - 1), false, 0⟩) := Lib.hid (hP.1 hk)
          have IS : Hid (Inv t d s) := Lib.hid (by rw [hs.out]; exact at_inv od hil hm.out hk1 hk)
          have hkd : decide (k ≤ m) = true := by simpa using hk
          have hki : (k : Int) ≤ (m : Int) := by omega
          have hcur := Lib.hid HN.2
          replace HN := Lib.hid HN.1
          replace eR := Lib.hid eR
          replace eQ := Lib.hid eQ
          replace HR := Lib.hid HR
          replace HQ := Lib.hid HQ
          replace HE := Lib.hid HE
          replace hq' := Lib.hid hq'
          replace IU := Lib.hid IU
          replace IU' := Lib.hid IU'
          replace hfl := Lib.hid hfl
          have SQ := Lib.hid (step_c od IU.out true hu0 (by omega) hq'.out)
          clear hP hcb2
          by_cases hk3 : k < m
          · have n1 : ((k : Int) == (m : Int)) = false := by rw [beq_eq_false_iff_ne]; omega
            have n2 : (k == m) = false := by rw [beq_eq_false_iff_ne]; omega
            have n3 : decide (k = m) = false := by simp; omega
            have n4 : ¬ k = m := by omega
            have hnx : Hid (nx t d s false = (⟨i, (m : Int) - (((k + 1 : Nat) : Int) - 1), false, 0⟩, 0)) := Lib.hid (by rw [hs.out]; exact nx_more hk3)
            obtain ⟨R', eR'⟩ : ∃ A, A = RA t d ⟨i, (m : Int) - (((k + 1 : Nat) : Int) - 1), false, 0⟩ := ⟨_, rfl⟩
            have zR' : Hid (R'.size = 16) := Lib.hid (by rw [eR']; rfl)
            have oR' : Hid (R'.all (·.oneCell') = true) := Lib.hid (by rw [eR']; exact RA_one _ _ _)
            replace eR' := Lib.hid eR'
            go_wp2_with (first | (refine wpl_ld _ _ rfl (by rfl) X_21 rfl HR.out Try.underlying28 rfl (by kernel_rfl) zR.out ?_))
            refine (step_c od IS.out false (by rw [hfl.out]; omega) (by rw [hfl.out]; omega) hnx.out _ _ _ eR.out eR'.out).mono ?_; rintro e V_47 ⟨rfl, hb_48⟩
            have H_49 : Hid (V_47.heap[X_21]? = some (.cells R 28 (0, 0))) := Lib.hid ((hb_48.block X_21 (blk_lt HR.out)).trans HR.out)
            have H_50 : Hid (V_47.heap[X_30]? = some (.cells Q 28 (0, 0))) := Lib.hid ((hb_48.block X_30 (blk_lt HQ.out)).trans HQ.out)
            have H_51 : Hid (V_47.heap[g]? = some (.cells cur 3 (0, 0))) := Lib.hid ((hb_48.block g (blk_lt HN.out)).trans HN.out)
            have HE_52 : Hid (Below B0 w V_47) := Lib.hid (HE.out.trans (hb_48.mono (sz_le hB0.out HE.out.size)))
            clear cm
            clear HE HR HQ HN
            clear hb_48
            obtain ⟨X_53, hX_55⟩ : ∃ X, V_47.heap.size = X := ⟨_, rfl⟩
            obtain ⟨V_54, q_56_0, q_56_1, q_56_2, q_56_3⟩ := st_new (w := V_47) (T := 28) hX_55 zZ.out zR'.out oR'.out
            have ne_58 : X_21 < X_53 := hX_55 ▸ blk_lt H_49.out
            have H_57 : Hid (V_54.heap[X_21]? = some (.cells R 28 (0, 0))) := Lib.hid ((q_56_2 _ ne_58).trans H_49.out)
            have ne_60 : X_30 < X_53 := hX_55 ▸ blk_lt H_50.out
            have H_59 : Hid (V_54.heap[X_30]? = some (.cells Q 28 (0, 0))) := Lib.hid ((q_56_2 _ ne_60).trans H_50.out)
            have ne_62 : g < X_53 := hX_55 ▸ blk_lt H_51.out
            have H_61 : Hid (V_54.heap[g]? = some (.cells cur 3 (0, 0))) := Lib.hid ((q_56_2 _ ne_62).trans H_51.out)
            have ge_63 : B0 ≤ X_53 := hX_55 ▸ (sz_le hB0.out HE_52.out.size)
            have HE_64 : Hid (Below B0 w V_54) := Lib.hid (q_56_3 _ _ ge_63 HE_52.out)
            have H_65 := Lib.hid q_56_1
            clear q_56_1 q_56_2 q_56_3
            go_upto_region 15 with (fail)
            clear q_56_0 hX_55
            clear HE_52 H_49 H_50 H_51
            obtain ⟨V_66, q_67_0, q_67_1, q_67_2, q_67_3⟩ := st_any H_57.out zR.out zR'.out oR'.out
            have H_68 : Hid (V_66.heap[X_30]? = some (.cells Q 28 (0, 0))) := Lib.hid ((q_67_2 _ rq.symm).trans H_59.out)
            have H_69 : Hid (V_66.heap[g]? = some (.cells cur 3 (0, 0))) := Lib.hid ((q_67_2 _ gr).trans H_61.out)
            have H_70 : Hid (V_66.heap[X_53]? = some (.cells R' 28 (0, 0))) := Lib.hid ((q_67_2 _ (Nat.ne_of_gt ne_58)).trans H_65.out)
            have HE_71 : Hid (Below B0 w V_66) := Lib.hid (q_67_3 _ _ ge_27 HE_64.out)
            have H_72 := Lib.hid q_67_1
            clear q_67_1 q_67_2 q_67_3
            go_upto_region 17 with (first | (refine wpl_ld _ _ rfl (by rfl) X_53 rfl H_65.out Try.underlying28 rfl (by kernel_rfl) zR'.out ?_))
            clear q_67_0
            clear HE_64 H_59 H_61 H_65 H_57
            have cm2 : V_66.cell? ⟨g, i, none⟩ = some (.int .i64 (m : Int)) := by rw [blk_cell H_69.out, hcur.out i hil, hm.out]
            go_wp2_with (first | (refine wpl_ld _ _ rfl (by rfl) X_30 rfl H_68.out Try.underlying28 rfl (by kernel_rfl) zQ.out ?_))
            refine (SQ.out _ _ _ eQ.out eQ'.out).mono ?_; rintro e V_73 ⟨rfl, hb_74⟩
            have H_75 : Hid (V_73.heap[X_21]? = some (.cells R' 28 (0, 0))) := Lib.hid ((hb_74.block X_21 (blk_lt H_72.out)).trans H_72.out)
            have H_76 : Hid (V_73.heap[X_30]? = some (.cells Q 28 (0, 0))) := Lib.hid ((hb_74.block X_30 (blk_lt H_68.out)).trans H_68.out)
            have H_77 : Hid (V_73.heap[g]? = some (.cells cur 3 (0, 0))) := Lib.hid ((hb_74.block g (blk_lt H_69.out)).trans H_69.out)
            have H_78 : Hid (V_73.heap[X_53]? = some (.cells R' 28 (0, 0))) := Lib.hid ((hb_74.block X_53 (blk_lt H_70.out)).trans H_70.out)
            have HE_79 : Hid (Below B0 w V_73) := Lib.hid (HE_71.out.trans (hb_74.mono (sz_le hB0.out HE_71.out.size)))
            clear cm2
            clear HE_71 H_72 H_68 H_69 H_70
            clear hb_74
            obtain ⟨X_80, hX_82⟩ : ∃ X, V_73.heap.size = X := ⟨_, rfl⟩
            obtain ⟨V_81, q_83_0, q_83_1, q_83_2, q_83_3⟩ := st_new (w := V_73) (T := 28) hX_82 zZ.out zQ'.out oQ'.out
            have ne_85 : X_21 < X_80 := hX_82 ▸ blk_lt H_75.out
            have H_84 : Hid (V_81.heap[X_21]? = some (.cells R' 28 (0, 0))) := Lib.hid ((q_83_2 _ ne_85).trans H_75.out)
            have ne_87 : X_30 < X_80 := hX_82 ▸ blk_lt H_76.out
            have H_86 : Hid (V_81.heap[X_30]? = some (.cells Q 28 (0, 0))) := Lib.hid ((q_83_2 _ ne_87).trans H_76.out)
            have ne_89 : g < X_80 := hX_82 ▸ blk_lt H_77.out
            have H_88 : Hid (V_81.heap[g]? = some (.cells cur 3 (0, 0))) := Lib.hid ((q_83_2 _ ne_89).trans H_77.out)
            have ne_91 : X_53 < X_80 := hX_82 ▸ blk_lt H_78.out
            have H_90 : Hid (V_81.heap[X_53]? = some (.cells R' 28 (0, 0))) := Lib.hid ((q_83_2 _ ne_91).trans H_78.out)
            have ge_92 : B0 ≤ X_80 := hX_82 ▸ (sz_le hB0.out HE_79.out.size)
            have HE_93 : Hid (Below B0 w V_81) := Lib.hid (q_83_3 _ _ ge_92 HE_79.out)
            have H_94 := Lib.hid q_83_1
            clear q_83_1 q_83_2 q_83_3
            go_upto_region 24 with (fail)
            clear q_83_0 hX_82
            clear HE_79 H_75 H_76 H_77 H_78
            obtain ⟨V_95, q_96_0, q_96_1, q_96_2, q_96_3⟩ := st_any H_86.out zQ.out zQ'.out oQ'.out
            have H_97 : Hid (V_95.heap[X_21]? = some (.cells R' 28 (0, 0))) := Lib.hid ((q_96_2 _ rq).trans H_84.out)
            have H_98 : Hid (V_95.heap[g]? = some (.cells cur 3 (0, 0))) := Lib.hid ((q_96_2 _ gq).trans H_88.out)
            have H_99 : Hid (V_95.heap[X_53]? = some (.cells R' 28 (0, 0))) := Lib.hid ((q_96_2 _ (Nat.ne_of_gt ne_60)).trans H_90.out)
            have H_100 : Hid (V_95.heap[X_80]? = some (.cells Q' 28 (0, 0))) := Lib.hid ((q_96_2 _ (Nat.ne_of_gt ne_87)).trans H_94.out)
            have HE_101 : Hid (Below B0 w V_95) := Lib.hid (q_96_3 _ _ ge_38 HE_93.out)
            have H_102 := Lib.hid q_96_1
            clear q_96_1 q_96_2 q_96_3
            go_upto_region 25 with (first | (refine wpl_ld _ _ rfl (by rfl) X_80 rfl H_94.out Try.underlying28 rfl (by kernel_rfl) zQ'.out ?_))
            clear q_96_0
            clear HE_93 H_84 H_88 H_90 H_94 H_86
            go_wp2
            go_roundw
            case rel => exact ⟨k + 1, by go_num, by omega, by omega, ⟨i, (m : Int) - (((k + 1 : Nat) : Int) - 1), false, 0⟩, u', R', Q', eR'.out, eQ'.out, H_97.out, H_102.out, ⟨H_98.out, hcur.out⟩, HE_101.out, rfl, ⟨fun _ => rfl, fun h => by omega⟩, IU'.out, by omega, by push_cast; omega⟩
            case measure => simp [intOf] <;> omega
          · obtain rfl : k = m := by omega
            have n1 : ((k : Int) == (k : Int)) = true := by simp
            by_cases hlast : i + 1 < len
            · have p1 : ((i : Int) == (len : Int) - 1) = false := by rw [beq_eq_false_iff_ne]; omega
              have hi2 : i + 1 < (pt t d).length := by rw [← hlen.out]; exact hlast
              have hnx : Hid (nx t d s false = (⟨i + 1, rd (pt t d) (i + 1 : Nat), false, 0⟩, 1)) := Lib.hid (by rw [hs.out]; exact nx_pass hi2)
              obtain ⟨R', eR'⟩ : ∃ A, A = RA t d ⟨i + 1, rd (pt t d) (i + 1 : Nat), false, 0⟩ := ⟨_, rfl⟩
              have zR' : Hid (R'.size = 16) := Lib.hid (by rw [eR']; rfl)
              have oR' : Hid (R'.all (·.oneCell') = true) := Lib.hid (by rw [eR']; exact RA_one _ _ _)
              replace eR' := Lib.hid eR'
              go_wp2_with (first | (refine wpl_ld _ _ rfl (by rfl) X_21 rfl HR.out Try.underlying28 rfl (by kernel_rfl) zR.out ?_))
              refine (step_c od IS.out false (by rw [hfl.out]; omega) (by rw [hfl.out]; omega) hnx.out _ _ _ eR.out eR'.out).mono ?_; rintro e V_103 ⟨rfl, hb_104⟩
              have H_105 : Hid (V_103.heap[X_21]? = some (.cells R 28 (0, 0))) := Lib.hid ((hb_104.block X_21 (blk_lt HR.out)).trans HR.out)
              have H_106 : Hid (V_103.heap[X_30]? = some (.cells Q 28 (0, 0))) := Lib.hid ((hb_104.block X_30 (blk_lt HQ.out)).trans HQ.out)
              have H_107 : Hid (V_103.heap[g]? = some (.cells cur 3 (0, 0))) := Lib.hid ((hb_104.block g (blk_lt HN.out)).trans HN.out)
              have HE_108 : Hid (Below B0 w V_103) := Lib.hid (HE.out.trans (hb_104.mono (sz_le hB0.out HE.out.size)))
              clear cm
              clear HE HR HQ HN
              clear hb_104
              obtain ⟨X_109, hX_111⟩ : ∃ X, V_103.heap.size = X := ⟨_, rfl⟩
              obtain ⟨V_110, q_112_0, q_112_1, q_112_2, q_112_3⟩ := st_new (w := V_103) (T := 28) hX_111 zZ.out zR'.out oR'.out
              have ne_114 : X_21 < X_109 := hX_111 ▸ blk_lt H_105.out
              have H_113 : Hid (V_110.heap[X_21]? = some (.cells R 28 (0, 0))) := Lib.hid ((q_112_2 _ ne_114).trans H_105.out)
              have ne_116 : X_30 < X_109 := hX_111 ▸ blk_lt H_106.out
              have H_115 : Hid (V_110.heap[X_30]? = some (.cells Q 28 (0, 0))) := Lib.hid ((q_112_2 _ ne_116).trans H_106.out)
              have ne_118 : g < X_109 := hX_111 ▸ blk_lt H_107.out
              have H_117 : Hid (V_110.heap[g]? = some (.cells cur 3 (0, 0))) := Lib.hid ((q_112_2 _ ne_118).trans H_107.out)
              have ge_119 : B0 ≤ X_109 := hX_111 ▸ (sz_le hB0.out HE_108.out.size)
              have HE_120 : Hid (Below B0 w V_110) := Lib.hid (q_112_3 _ _ ge_119 HE_108.out)
              have H_121 := Lib.hid q_112_1
              clear q_112_1 q_112_2 q_112_3
              go_upto_region 15 with (fail)
              clear q_112_0 hX_111
              clear HE_108 H_105 H_106 H_107
              obtain ⟨V_122, q_123_0, q_123_1, q_123_2, q_123_3⟩ := st_any H_113.out zR.out zR'.out oR'.out
              have H_124 : Hid (V_122.heap[X_30]? = some (.cells Q 28 (0, 0))) := Lib.hid ((q_123_2 _ rq.symm).trans H_115.out)
              have H_125 : Hid (V_122.heap[g]? = some (.cells cur 3 (0, 0))) := Lib.hid ((q_123_2 _ gr).trans H_117.out)
              have H_126 : Hid (V_122.heap[X_109]? = some (.cells R' 28 (0, 0))) := Lib.hid ((q_123_2 _ (Nat.ne_of_gt ne_114)).trans H_121.out)
              have HE_127 : Hid (Below B0 w V_122) := Lib.hid (q_123_3 _ _ ge_27 HE_120.out)
              have H_128 := Lib.hid q_123_1
              clear q_123_1 q_123_2 q_123_3
              go_upto_region 17 with (first | (refine wpl_ld _ _ rfl (by rfl) X_109 rfl H_121.out Try.underlying28 rfl (by kernel_rfl) zR'.out ?_))
              clear q_123_0
              clear HE_120 H_115 H_117 H_121 H_113
              have cm2 : V_122.cell? ⟨g, i, none⟩ = some (.int .i64 (k : Int)) := by rw [blk_cell H_125.out, hcur.out i hil, hm.out]
              go_wp2_with (first | (refine wpl_ld _ _ rfl (by rfl) X_30 rfl H_124.out Try.underlying28 rfl (by kernel_rfl) zQ.out ?_))
              refine (SQ.out _ _ _ eQ.out eQ'.out).mono ?_; rintro e V_129 ⟨rfl, hb_130⟩
              have H_131 : Hid (V_129.heap[X_21]? = some (.cells R' 28 (0, 0))) := Lib.hid ((hb_130.block X_21 (blk_lt H_128.out)).trans H_128.out)
              have H_132 : Hid (V_129.heap[X_30]? = some (.cells Q 28 (0, 0))) := Lib.hid ((hb_130.block X_30 (blk_lt H_124.out)).trans H_124.out)
              have H_133 : Hid (V_129.heap[g]? = some (.cells cur 3 (0, 0))) := Lib.hid ((hb_130.block g (blk_lt H_125.out)).trans H_125.out)
              have H_134 : Hid (V_129.heap[X_109]? = some (.cells R' 28 (0, 0))) := Lib.hid ((hb_130.block X_109 (blk_lt H_126.out)).trans H_126.out)
              have HE_135 : Hid (Below B0 w V_129) := Lib.hid (HE_127.out.trans (hb_130.mono (sz_le hB0.out HE_127.out.size)))
              clear cm2
              clear HE_127 H_128 H_124 H_125 H_126
              clear hb_130
              obtain ⟨X_136, hX_138⟩ : ∃ X, V_129.heap.size = X := ⟨_, rfl⟩
              obtain ⟨V_137, q_139_0, q_139_1, q_139_2, q_139_3⟩ := st_new (w := V_129) (T := 28) hX_138 zZ.out zQ'.out oQ'.out
              have ne_141 : X_21 < X_136 := hX_138 ▸ blk_lt H_131.out
              have H_140 : Hid (V_137.heap[X_21]? = some (.cells R' 28 (0, 0))) := Lib.hid ((q_139_2 _ ne_141).trans H_131.out)
              have ne_143 : X_30 < X_136 := hX_138 ▸ blk_lt H_132.out
              have H_142 : Hid (V_137.heap[X_30]? = some (.cells Q 28 (0, 0))) := Lib.hid ((q_139_2 _ ne_143).trans H_132.out)
              have ne_145 : g < X_136 := hX_138 ▸ blk_lt H_133.out
              have H_144 : Hid (V_137.heap[g]? = some (.cells cur 3 (0, 0))) := Lib.hid ((q_139_2 _ ne_145).trans H_133.out)
              have ne_147 : X_109 < X_136 := hX_138 ▸ blk_lt H_134.out
              have H_146 : Hid (V_137.heap[X_109]? = some (.cells R' 28 (0, 0))) := Lib.hid ((q_139_2 _ ne_147).trans H_134.out)
              have ge_148 : B0 ≤ X_136 := hX_138 ▸ (sz_le hB0.out HE_135.out.size)
              have HE_149 : Hid (Below B0 w V_137) := Lib.hid (q_139_3 _ _ ge_148 HE_135.out)
              have H_150 := Lib.hid q_139_1
              clear q_139_1 q_139_2 q_139_3
              go_upto_region 24 with (fail)
              clear q_139_0 hX_138
              clear HE_135 H_131 H_132 H_133 H_134
              obtain ⟨V_151, q_152_0, q_152_1, q_152_2, q_152_3⟩ := st_any H_142.out zQ.out zQ'.out oQ'.out
              have H_153 : Hid (V_151.heap[X_21]? = some (.cells R' 28 (0, 0))) := Lib.hid ((q_152_2 _ rq).trans H_140.out)
              have H_154 : Hid (V_151.heap[g]? = some (.cells cur 3 (0, 0))) := Lib.hid ((q_152_2 _ gq).trans H_144.out)
              have H_155 : Hid (V_151.heap[X_109]? = some (.cells R' 28 (0, 0))) := Lib.hid ((q_152_2 _ (Nat.ne_of_gt ne_116)).trans H_146.out)
              have H_156 : Hid (V_151.heap[X_136]? = some (.cells Q' 28 (0, 0))) := Lib.hid ((q_152_2 _ (Nat.ne_of_gt ne_143)).trans H_150.out)
              have HE_157 : Hid (Below B0 w V_151) := Lib.hid (q_152_3 _ _ ge_38 HE_149.out)
              have H_158 := Lib.hid q_152_1
              clear q_152_1 q_152_2 q_152_3
              go_upto_region 25 with (first | (refine wpl_ld _ _ rfl (by rfl) X_136 rfl H_150.out Try.underlying28 rfl (by kernel_rfl) zQ'.out ?_))
              clear q_152_0
              clear HE_149 H_140 H_144 H_146 H_150 H_142
              go_wp2
              go_roundw
              case rel => exact ⟨k + 1, by go_num, by omega, by omega, ⟨i + 1, rd (pt t d) (i + 1 : Nat), false, 0⟩, u', R', Q', eR'.out, eQ'.out, H_153.out, H_158.out, ⟨H_154.out, hcur.out⟩, HE_157.out, rfl, ⟨fun h => by omega, fun _ _ => rfl⟩, IU'.out, by omega, by push_cast; omega⟩
              case measure => simp [intOf] <;> omega
            · have p1 : ((i : Int) == (len : Int) - 1) = true := by rw [beq_iff_eq]; omega
              have hi2 : i + 1 = (pt t d).length := by rw [← hlen.out]; omega
              have hnx : Hid (nx t d s false = (⟨i, (k : Int) - ((k : Int) - 1) - 1, false, 0⟩, 4)) := Lib.hid (by rw [hs.out]; exact nx_fin hi2)
              obtain ⟨R', eR'⟩ : ∃ A, A = RA t d ⟨i, (k : Int) - ((k : Int) - 1) - 1, false, 0⟩ := ⟨_, rfl⟩
              have zR' : Hid (R'.size = 16) := Lib.hid (by rw [eR']; rfl)
              have oR' : Hid (R'.all (·.oneCell') = true) := Lib.hid (by rw [eR']; exact RA_one _ _ _)
              replace eR' := Lib.hid eR'
              go_wp2_with (first | (refine wpl_ld _ _ rfl (by rfl) X_21 rfl HR.out Try.underlying28 rfl (by kernel_rfl) zR.out ?_))
              refine (step_c od IS.out false (by rw [hfl.out]; omega) (by rw [hfl.out]; omega) hnx.out _ _ _ eR.out eR'.out).mono ?_; rintro e V_159 ⟨rfl, hb_160⟩
              have H_161 : Hid (V_159.heap[X_21]? = some (.cells R 28 (0, 0))) := Lib.hid ((hb_160.block X_21 (blk_lt HR.out)).trans HR.out)
              have H_162 : Hid (V_159.heap[X_30]? = some (.cells Q 28 (0, 0))) := Lib.hid ((hb_160.block X_30 (blk_lt HQ.out)).trans HQ.out)
              have H_163 : Hid (V_159.heap[g]? = some (.cells cur 3 (0, 0))) := Lib.hid ((hb_160.block g (blk_lt HN.out)).trans HN.out)
              have HE_164 : Hid (Below B0 w V_159) := Lib.hid (HE.out.trans (hb_160.mono (sz_le hB0.out HE.out.size)))
              clear cm
              clear HE HR HQ HN
              clear hb_160
              obtain ⟨X_165, hX_167⟩ : ∃ X, V_159.heap.size = X := ⟨_, rfl⟩
              obtain ⟨V_166, q_168_0, q_168_1, q_168_2, q_168_3⟩ := st_new (w := V_159) (T := 28) hX_167 zZ.out zR'.out oR'.out
              have ne_170 : X_21 < X_165 := hX_167 ▸ blk_lt H_161.out
              have H_169 : Hid (V_166.heap[X_21]? = some (.cells R 28 (0, 0))) := Lib.hid ((q_168_2 _ ne_170).trans H_161.out)
              have ne_172 : X_30 < X_165 := hX_167 ▸ blk_lt H_162.out
              have H_171 : Hid (V_166.heap[X_30]? = some (.cells Q 28 (0, 0))) := Lib.hid ((q_168_2 _ ne_172).trans H_162.out)
              have ne_174 : g < X_165 := hX_167 ▸ blk_lt H_163.out
              have H_173 : Hid (V_166.heap[g]? = some (.cells cur 3 (0, 0))) := Lib.hid ((q_168_2 _ ne_174).trans H_163.out)
              have ge_175 : B0 ≤ X_165 := hX_167 ▸ (sz_le hB0.out HE_164.out.size)
              have HE_176 : Hid (Below B0 w V_166) := Lib.hid (q_168_3 _ _ ge_175 HE_164.out)
              have H_177 := Lib.hid q_168_1
              clear q_168_1 q_168_2 q_168_3
              go_upto_region 15 with (fail)
              clear q_168_0 hX_167
              clear HE_164 H_161 H_162 H_163
              obtain ⟨V_178, q_179_0, q_179_1, q_179_2, q_179_3⟩ := st_any H_169.out zR.out zR'.out oR'.out
              have H_180 : Hid (V_178.heap[X_30]? = some (.cells Q 28 (0, 0))) := Lib.hid ((q_179_2 _ rq.symm).trans H_171.out)
              have H_181 : Hid (V_178.heap[g]? = some (.cells cur 3 (0, 0))) := Lib.hid ((q_179_2 _ gr).trans H_173.out)
              have H_182 : Hid (V_178.heap[X_165]? = some (.cells R' 28 (0, 0))) := Lib.hid ((q_179_2 _ (Nat.ne_of_gt ne_170)).trans H_177.out)
              have HE_183 : Hid (Below B0 w V_178) := Lib.hid (q_179_3 _ _ ge_27 HE_176.out)
              have H_184 := Lib.hid q_179_1
              clear q_179_1 q_179_2 q_179_3
              go_upto_region 17 with (first | (refine wpl_ld _ _ rfl (by rfl) X_165 rfl H_177.out Try.underlying28 rfl (by kernel_rfl) zR'.out ?_))
              clear q_179_0
              clear HE_176 H_171 H_173 H_177 H_169
              have cm2 : V_178.cell? ⟨g, i, none⟩ = some (.int .i64 (k : Int)) := by rw [blk_cell H_181.out, hcur.out i hil, hm.out]
              go_wp2_with (first | (refine wpl_ld _ _ rfl (by rfl) X_30 rfl H_180.out Try.underlying28 rfl (by kernel_rfl) zQ.out ?_))
              refine (SQ.out _ _ _ eQ.out eQ'.out).mono ?_; rintro e V_185 ⟨rfl, hb_186⟩
              have H_187 : Hid (V_185.heap[X_21]? = some (.cells R' 28 (0, 0))) := Lib.hid ((hb_186.block X_21 (blk_lt H_184.out)).trans H_184.out)
              have H_188 : Hid (V_185.heap[X_30]? = some (.cells Q 28 (0, 0))) := Lib.hid ((hb_186.block X_30 (blk_lt H_180.out)).trans H_180.out)
              have H_189 : Hid (V_185.heap[g]? = some (.cells cur 3 (0, 0))) := Lib.hid ((hb_186.block g (blk_lt H_181.out)).trans H_181.out)
              have H_190 : Hid (V_185.heap[X_165]? = some (.cells R' 28 (0, 0))) := Lib.hid ((hb_186.block X_165 (blk_lt H_182.out)).trans H_182.out)
              have HE_191 : Hid (Below B0 w V_185) := Lib.hid (HE_183.out.trans (hb_186.mono (sz_le hB0.out HE_183.out.size)))
              clear cm2
              clear HE_183 H_184 H_180 H_181 H_182
              clear hb_186
              obtain ⟨X_192, hX_194⟩ : ∃ X, V_185.heap.size = X := ⟨_, rfl⟩
              obtain ⟨V_193, q_195_0, q_195_1, q_195_2, q_195_3⟩ := st_new (w := V_185) (T := 28) hX_194 zZ.out zQ'.out oQ'.out
              have ne_197 : X_21 < X_192 := hX_194 ▸ blk_lt H_187.out
              have H_196 : Hid (V_193.heap[X_21]? = some (.cells R' 28 (0, 0))) := Lib.hid ((q_195_2 _ ne_197).trans H_187.out)
              have ne_199 : X_30 < X_192 := hX_194 ▸ blk_lt H_188.out
              have H_198 : Hid (V_193.heap[X_30]? = some (.cells Q 28 (0, 0))) := Lib.hid ((q_195_2 _ ne_199).trans H_188.out)
              have ne_201 : g < X_192 := hX_194 ▸ blk_lt H_189.out
              have H_200 : Hid (V_193.heap[g]? = some (.cells cur 3 (0, 0))) := Lib.hid ((q_195_2 _ ne_201).trans H_189.out)
              have ne_203 : X_165 < X_192 := hX_194 ▸ blk_lt H_190.out
              have H_202 : Hid (V_193.heap[X_165]? = some (.cells R' 28 (0, 0))) := Lib.hid ((q_195_2 _ ne_203).trans H_190.out)
              have ge_204 : B0 ≤ X_192 := hX_194 ▸ (sz_le hB0.out HE_191.out.size)
              have HE_205 : Hid (Below B0 w V_193) := Lib.hid (q_195_3 _ _ ge_204 HE_191.out)
              have H_206 := Lib.hid q_195_1
              clear q_195_1 q_195_2 q_195_3
              go_upto_region 24 with (fail)
              clear q_195_0 hX_194
              clear HE_191 H_187 H_188 H_189 H_190
              obtain ⟨V_207, q_208_0, q_208_1, q_208_2, q_208_3⟩ := st_any H_198.out zQ.out zQ'.out oQ'.out
              have H_209 : Hid (V_207.heap[X_21]? = some (.cells R' 28 (0, 0))) := Lib.hid ((q_208_2 _ rq).trans H_196.out)
              have H_210 : Hid (V_207.heap[g]? = some (.cells cur 3 (0, 0))) := Lib.hid ((q_208_2 _ gq).trans H_200.out)
              have H_211 : Hid (V_207.heap[X_165]? = some (.cells R' 28 (0, 0))) := Lib.hid ((q_208_2 _ (Nat.ne_of_gt ne_172)).trans H_202.out)
              have H_212 : Hid (V_207.heap[X_192]? = some (.cells Q' 28 (0, 0))) := Lib.hid ((q_208_2 _ (Nat.ne_of_gt ne_199)).trans H_206.out)
              have HE_213 : Hid (Below B0 w V_207) := Lib.hid (q_208_3 _ _ ge_38 HE_205.out)
              have H_214 := Lib.hid q_208_1
              clear q_208_1 q_208_2 q_208_3
              go_upto_region 25 with (first | (refine wpl_ld _ _ rfl (by rfl) X_192 rfl H_206.out Try.underlying28 rfl (by kernel_rfl) zQ'.out ?_))
              clear q_208_0
              clear HE_205 H_196 H_200 H_202 H_206 H_198
              go_wp2
              go_roundw
              case rel => exact ⟨k + 1, by go_num, by omega, by omega, ⟨i, (k : Int) - ((k : Int) - 1) - 1, false, 0⟩, u', R', Q', eR'.out, eQ'.out, H_209.out, H_214.out, ⟨H_210.out, hcur.out⟩, HE_213.out, rfl, ⟨fun h => by omega, fun _ h => by rw [← hlen.out] at h; omega⟩, IU'.out, by omega, by push_cast; omega⟩
              case measure => simp [intOf] <;> omega
        · obtain rfl : k = m + 1 := by omega
          have hkd : decide (m + 1 ≤ m) = false := by simp
          have hki : ¬ ((m + 1 : Nat) : Int) ≤ (m : Int) := by omega
          have hki2 : (m : Int) < ((m + 1 : Nat) : Int) := by omega
          have hF : Hid (CB t d w B0 X_21 X_30 g cur (su (pt t d) - su ((pt t d).drop (i + 1))) (CO t d (i + 1)) wr) := Lib.hid ⟨s, u, R, Q, eR, eQ, HR, HQ, HN, HE, hfl, hP.2 rfl, IU, hu0, by have := hsd.out; push_cast at hu1; omega⟩
          clear HR HQ HN HE hfl hP IU hu0 hu1 eR eQ hcb2
          go_wp2
          go_roundw
          case rel => exact ⟨i + 1, by go_num, by omega, hF.out⟩
          case measure => simp [intOf]; omega
    · obtain rfl : i = len := by omega
      obtain ⟨s, u, R, Q, eR, eQ, HR, HQ, HN, HE, hfl, hP, IU, hu0, hu1⟩ := hcb
      have cf : wr.cell? ⟨X_21, 15, none⟩ = some (.int .i64 0) := by rw [blk_cell HR, eR, ← hfl]; rfl
      replace HE := Lib.hid HE
      clear HR HQ HN hfl hP IU hu0 hu1 eR eQ hCB
      go_wp2
      go_ret
      exact ⟨rfl, HE.out⟩
theorem clean_walk (w : World) (x : S23) (d : Int) (_ : (Lit.int .i64 d).wf = true) : Calls Try.prog 4 #[.agg #[.string x.f0, .int .i64 x.f1, .int .i64 x.f2, .int .i64 x.f3, .int .i64 x.f4, .int .i64 x.f5, .int .i64 x.f6, .int .i64 x.f7, .int .i64 x.f8, .int .i64 x.f9, .int .i64 x.f10], .int .i64 d] w fun e w' => e = .returned (.bool true) ∧ Below w.heap.size w w' := by
  obtain ⟨b, hb, hp⟩ := small_tot x d
  cases b with
  | true => exact clean_main w x d hb (hp rfl)
  | false => exact clean_out w x d hb
end Go.Proofs.Ytkedmmimcmignaa.PS
