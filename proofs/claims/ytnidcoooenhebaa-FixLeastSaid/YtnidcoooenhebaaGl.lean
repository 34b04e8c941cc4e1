/- The law FixLeast, walked. -/
import Derived.Test.YtnidcoooenhebaaGp
namespace Go.Proofs.Ytnidcoooenhebaa.PS
open Go.RowKit Go.Proofs.Ytnidcoooenhebaa.PC Go.Proofs.YtnidcoooenhebaaW.PrintWords Go.Proofs.YtnidcoooenhebaaW.PrintLast Go.Proofs.YtnidcoooenhebaaW.PrintMore
attribute [local go_sem] max2_int min2_int max_two min_two max_three min_three max_four min_four   -- for this text's walks alone
set_option linter.unusedVariables false
set_option linter.unusedSimpArgs false
set_option maxRecDepth 100000 in
set_option maxHeartbeats 6000000 in
theorem least_first (w : World) (B : Int) (A : Option Addr) (l : List S39) (cap : Nat) (hc : l.length ≤ cap) (hC : Kd.C k39 w A l.length l) (a b c : Int) (hf : Ev (fun k => pendulumref19_Small.f k B l) false) : Calls Try.prog 5 #[.agg #[.int .i64 B, .slice A l.length cap], .int .u8 a, .int .u32 b, .int .u16 c] w fun e w' => e = .returned (.bool true) ∧ Below w.heap.size w w' := by
  obtain ⟨S0, eS0⟩ : ∃ S0 : Array Value, S0 = #[.int .i64 B, .slice A l.length cap] := ⟨_, rfl⟩
  rw [← eS0]
  have zS0 : Hid (S0.size = 2) := Lib.hid (by rw [eS0]; rfl)
  replace eS0 := Lib.hid eS0
  obtain ⟨B0, hB0⟩ : ∃ B, w.heap.size = B := ⟨_, rfl⟩
  rw [hB0]
  obtain ⟨V0, hV0⟩ : ∃ V, w.alloc (.cells S0 24) = V := ⟨_, rfl⟩
  have Hs : Hid (V0.heap[B0]? = some (.cells S0 24 (0, 0))) := Lib.hid (by rw [← hV0]; exact (box_new hB0).1)
  have HE : Hid (Below B0 w V0) := Lib.hid (by rw [← hV0, ← hB0]; exact (Below.refl _ _).alloc (Nat.le_refl _) _)
  go_enter Try.func5, Try.ntmps5
  go_upto_region 1 with (fail)
  replace hB0 := Lib.hid hB0
  replace hV0 := Lib.hid hV0
  go_wp2_with fail
  refine (awake_walk _).mono ?_; rintro e V_1 ⟨rfl, hb_2⟩
  have H_3 : Hid (V_1.heap[B0]? = some (.cells S0 24 (0, 0))) := Lib.hid ((hb_2.block B0 (blk_lt Hs.out)).trans Hs.out)
  have HE_4 : Hid (Below B0 w V_1) := Lib.hid (HE.out.trans (hb_2.mono (sz_le hB0.out HE.out.size)))
  clear HE Hs
  clear hb_2
  go_wp2_with (first | ((with_reducible refine wpl_gate (T := 24) rfl ?_); refine wpl_ld _ _ rfl (by rfl) B0 rfl H_3.out Try.underlying24 rfl (by kernel_rfl) zS0.out ?_))
  refine (smallq_c hf hC hc hB0.out HE_4.out _ eS0.out).mono ?_; rintro e V_5 ⟨rfl, hb_6⟩
  have H_7 : Hid (V_5.heap[B0]? = some (.cells S0 24 (0, 0))) := Lib.hid ((hb_6.block B0 (blk_lt H_3.out)).trans H_3.out)
  have HE_8 : Hid (Below B0 w V_5) := Lib.hid (HE_4.out.trans (hb_6.mono (sz_le hB0.out HE_4.out.size)))
  clear HE_4 H_3
  clear hb_6
  go_wp2_with fail
  refine (awake_walk _).mono ?_; rintro e V_9 ⟨rfl, hb_10⟩
  have H_11 : Hid (V_9.heap[B0]? = some (.cells S0 24 (0, 0))) := Lib.hid ((hb_10.block B0 (blk_lt H_7.out)).trans H_7.out)
  have HE_12 : Hid (Below B0 w V_9) := Lib.hid (HE_8.out.trans (hb_10.mono (sz_le hB0.out HE_8.out.size)))
  clear HE_8 H_7
  clear hb_10
  go_wp2
  go_ret
  exact ⟨rfl, HE_12.out⟩
set_option maxRecDepth 100000 in
set_option maxHeartbeats 6000000 in
theorem least_right (w : World) (B : Int) (A : Option Addr) (l : List S39) (cap : Nat) (hc : l.length ≤ cap) (hC : Kd.C k39 w A l.length l) (a b c : Int) (hf : Ev (fun k => pendulumref19_Small.f k B l) true) (hr : Ev (fun k => pendulumref05_Right.f k B l) false) : Calls Try.prog 5 #[.agg #[.int .i64 B, .slice A l.length cap], .int .u8 a, .int .u32 b, .int .u16 c] w fun e w' => e = .returned (.bool true) ∧ Below w.heap.size w w' := by
  obtain ⟨S0, eS0⟩ : ∃ S0 : Array Value, S0 = #[.int .i64 B, .slice A l.length cap] := ⟨_, rfl⟩
  rw [← eS0]
  have zS0 : Hid (S0.size = 2) := Lib.hid (by rw [eS0]; rfl)
  replace eS0 := Lib.hid eS0
  obtain ⟨B0, hB0⟩ : ∃ B, w.heap.size = B := ⟨_, rfl⟩
  rw [hB0]
  obtain ⟨V0, hV0⟩ : ∃ V, w.alloc (.cells S0 24) = V := ⟨_, rfl⟩
  have Hs : Hid (V0.heap[B0]? = some (.cells S0 24 (0, 0))) := Lib.hid (by rw [← hV0]; exact (box_new hB0).1)
  have HE : Hid (Below B0 w V0) := Lib.hid (by rw [← hV0, ← hB0]; exact (Below.refl _ _).alloc (Nat.le_refl _) _)
  go_enter Try.func5, Try.ntmps5
  go_upto_region 1 with (fail)
  replace hB0 := Lib.hid hB0
  replace hV0 := Lib.hid hV0
  go_wp2_with fail
  refine (awake_walk _).mono ?_; rintro e V_13 ⟨rfl, hb_14⟩
  have H_15 : Hid (V_13.heap[B0]? = some (.cells S0 24 (0, 0))) := Lib.hid ((hb_14.block B0 (blk_lt Hs.out)).trans Hs.out)
  have HE_16 : Hid (Below B0 w V_13) := Lib.hid (HE.out.trans (hb_14.mono (sz_le hB0.out HE.out.size)))
  clear HE Hs
  clear hb_14
  go_wp2_with (first | ((with_reducible refine wpl_gate (T := 24) rfl ?_); refine wpl_ld _ _ rfl (by rfl) B0 rfl H_15.out Try.underlying24 rfl (by kernel_rfl) zS0.out ?_))
  refine (smallq_c hf hC hc hB0.out HE_16.out _ eS0.out).mono ?_; rintro e V_17 ⟨rfl, hb_18⟩
  have H_19 : Hid (V_17.heap[B0]? = some (.cells S0 24 (0, 0))) := Lib.hid ((hb_18.block B0 (blk_lt H_15.out)).trans H_15.out)
  have HE_20 : Hid (Below B0 w V_17) := Lib.hid (HE_16.out.trans (hb_18.mono (sz_le hB0.out HE_16.out.size)))
  clear HE_16 H_15
  clear hb_18
  go_wp2_with (first | ((with_reducible refine wpl_gate (T := 24) rfl ?_); refine wpl_ld _ _ rfl (by rfl) B0 rfl H_19.out Try.underlying24 rfl (by kernel_rfl) zS0.out ?_))
  refine (rightq_c hr hC hc hB0.out HE_20.out _ eS0.out).mono ?_; rintro e V_21 ⟨rfl, hb_22⟩
  have H_23 : Hid (V_21.heap[B0]? = some (.cells S0 24 (0, 0))) := Lib.hid ((hb_22.block B0 (blk_lt H_19.out)).trans H_19.out)
  have HE_24 : Hid (Below B0 w V_21) := Lib.hid (HE_20.out.trans (hb_22.mono (sz_le hB0.out HE_20.out.size)))
  clear HE_20 H_19
  clear hb_22
  go_wp2_with fail
  refine (awake_walk _).mono ?_; rintro e V_25 ⟨rfl, hb_26⟩
  have H_27 : Hid (V_25.heap[B0]? = some (.cells S0 24 (0, 0))) := Lib.hid ((hb_26.block B0 (blk_lt H_23.out)).trans H_23.out)
  have HE_28 : Hid (Below B0 w V_25) := Lib.hid (HE_24.out.trans (hb_26.mono (sz_le hB0.out HE_24.out.size)))
  clear HE_24 H_23
  clear hb_26
  go_wp2
  go_ret
  exact ⟨rfl, HE_28.out⟩
set_option maxRecDepth 100000 in
set_option maxHeartbeats 6000000 in
theorem least_main (w : World) (B : Int) (A : Option Addr) (l : List S39) (cap : Nat) (hc : l.length ≤ cap) (hC : Kd.C k39 w A l.length l) (a b c : Int) (ha : 0 ≤ a ∧ a ≤ 255) (hb : 0 ≤ b ∧ b ≤ 4294967295) (hcc : 0 ≤ c ∧ c ≤ 65535) (hf : Ev (fun k => pendulumref19_Small.f k B l) true) (hr : Ev (fun k => pendulumref05_Right.f k B l) true) (sm : l.length ≤ 16 ∧ ∀ j : Nat, j < l.length → (rd_T39 l j).f2 ≤ 3000) (ok : OkS B l) : Calls Try.prog 5 #[.agg #[.int .i64 B, .slice A l.length cap], .int .u8 a, .int .u32 b, .int .u16 c] w fun e w' => e = .returned (.bool true) ∧ Below w.heap.size w w' := by
  have hlen := ok.2.2.1
  have hlen2 := ok.2.2.2.1
  obtain ⟨k, hk⟩ : ∃ k, k = a % (l.length : Int) := ⟨_, rfl⟩
  have hk0 : 0 ≤ k := by rw [hk]; exact Int.emod_nonneg _ (by omega)
  have hk1 : k < (l.length : Int) := by rw [hk]; exact Int.emod_lt_of_pos _ (by omega)
  obtain ⟨g, hg⟩ : ∃ g, g = 1 + b % 1049576 := ⟨_, rfl⟩
  have hg1 : 1 ≤ g := by omega
  have hg2 : g ≤ 1049576 := by omega
  obtain ⟨ad, rfl, _⟩ := row_at hC hk0 hk1
  replace hk := Lib.hid hk
  replace hg := Lib.hid hg
  obtain ⟨oki, hD1, hD2⟩ := dl_bd ok hk0 hk1
  have RS := rsp_sum ok hg1 hk0 hk1
  have hmo : ∀ w w', 0 ≤ w → w ≤ w' → nxt B g l k w ≤ nxt B g l k w' := fun w w' h0 h => nxt_mono ok hg1 k h0 h
  obtain ⟨D, hD⟩ : ∃ d, (rd_T39 l k).f2 = d := ⟨_, rfl⟩
  rw [hD] at RS hD1 hD2
  replace hD := Lib.hid hD
  replace RS := Lib.hid RS
  replace hmo := Lib.hid hmo
  obtain ⟨S0, eS0⟩ : ∃ S0 : Array Value, S0 = #[.int .i64 B, .slice (some ad) l.length cap] := ⟨_, rfl⟩
  rw [← eS0]
  have zS0 : Hid (S0.size = 2) := Lib.hid (by rw [eS0]; rfl)
  replace eS0 := Lib.hid eS0
  obtain ⟨B0, hB0⟩ : ∃ B, w.heap.size = B := ⟨_, rfl⟩
  rw [hB0]
  obtain ⟨V0, hV0⟩ : ∃ V, w.alloc (.cells S0 24) = V := ⟨_, rfl⟩
  have Hs : Hid (V0.heap[B0]? = some (.cells S0 24 (0, 0))) := Lib.hid (by rw [← hV0]; exact (box_new hB0).1)
  have HE : Hid (Below B0 w V0) := Lib.hid (by rw [← hV0, ← hB0]; exact (Below.refl _ _).alloc (Nat.le_refl _) _)
  go_enter Try.func5, Try.ntmps5
  go_upto_region 1 with (fail)
  replace hB0 := Lib.hid hB0
  replace hV0 := Lib.hid hV0
  go_wp2_with fail
  refine (awake_walk _).mono ?_; rintro e V_29 ⟨rfl, hb_30⟩
  have H_31 : Hid (V_29.heap[B0]? = some (.cells S0 24 (0, 0))) := Lib.hid ((hb_30.block B0 (blk_lt Hs.out)).trans Hs.out)
  have HE_32 : Hid (Below B0 w V_29) := Lib.hid (HE.out.trans (hb_30.mono (sz_le hB0.out HE.out.size)))
  clear HE Hs
  clear hb_30
  go_wp2_with (first | ((with_reducible refine wpl_gate (T := 24) rfl ?_); refine wpl_ld _ _ rfl (by rfl) B0 rfl H_31.out Try.underlying24 rfl (by kernel_rfl) zS0.out ?_))
  refine (smallq_c hf hC hc hB0.out HE_32.out _ eS0.out).mono ?_; rintro e V_33 ⟨rfl, hb_34⟩
  have H_35 : Hid (V_33.heap[B0]? = some (.cells S0 24 (0, 0))) := Lib.hid ((hb_34.block B0 (blk_lt H_31.out)).trans H_31.out)
  have HE_36 : Hid (Below B0 w V_33) := Lib.hid (HE_32.out.trans (hb_34.mono (sz_le hB0.out HE_32.out.size)))
  clear HE_32 H_31
  clear hb_34
  go_wp2_with (first | ((with_reducible refine wpl_gate (T := 24) rfl ?_); refine wpl_ld _ _ rfl (by rfl) B0 rfl H_35.out Try.underlying24 rfl (by kernel_rfl) zS0.out ?_))
  refine (rightq_c hr hC hc hB0.out HE_36.out _ eS0.out).mono ?_; rintro e V_37 ⟨rfl, hb_38⟩
  have H_39 : Hid (V_37.heap[B0]? = some (.cells S0 24 (0, 0))) := Lib.hid ((hb_38.block B0 (blk_lt H_35.out)).trans H_35.out)
  have HE_40 : Hid (Below B0 w V_37) := Lib.hid (HE_36.out.trans (hb_38.mono (sz_le hB0.out HE_36.out.size)))
  clear HE_36 H_35
  clear hb_38
  go_wp2_with (first | ((with_reducible refine wpl_gate (T := 24) rfl ?_); refine wpl_ld _ _ rfl (by rfl) B0 rfl H_39.out Try.underlying24 rfl (by kernel_rfl) zS0.out ?_))
  refine (task_c _ B (some ad) l cap (Kd.C_below hC (below_to hB0.out HE_40.out)) hc hlen a b ha hb _ eS0.out k g hk.out hg.out).mono ?_; rintro e V_41 ⟨rfl, hb_42⟩
  have H_43 : Hid (V_41.heap[B0]? = some (.cells S0 24 (0, 0))) := Lib.hid ((hb_42.block B0 (blk_lt H_39.out)).trans H_39.out)
  have HE_44 : Hid (Below B0 w V_41) := Lib.hid (HE_40.out.trans (hb_42.mono (sz_le hB0.out HE_40.out.size)))
  clear HE_40 H_39
  clear hb_42
  have R1 := Lib.hid (fun (W : World) (hW : Below B0 w W) => response_c W B ad l cap hc (Kd.C_below hC (below_to hB0.out hW)) ok k hk0 hk1 g hg1 hg2 S0 eS0.out)
  have NX := Lib.hid (fun (W : World) (hW : Below B0 w W) (x : Int) (h0 : 0 ≤ x) (h1 : x ≤ 1048576) => next_c W B ad l cap hc (Kd.C_below hC (below_to hB0.out hW)) ok k hk0 hk1 g hg1 hg2 x h0 h1 S0 eS0.out)
  have hcD := Lib.hid (fun (W : World) (hW : Below B0 w W) => row_c (j := 2) hC hB0.out hW hk0 hk1 (by rw [← hD.out]; rfl) : ∀ W : World, Below B0 w W → W.cell? ⟨(ad.add (k.toNat * 11)).block, (ad.add (k.toNat * 11)).off + 2, none⟩ = some (.int .i64 D))
  rcases RS.out with ⟨r, er, b1, b2, b3, b4⟩ | ⟨er, h4⟩
  · skip
    rw [er] at R1
    obtain ⟨x, hx⟩ : ∃ x, c % r = x := ⟨_, rfl⟩
    have hx0 : 0 ≤ x := by rw [← hx]; exact Int.emod_nonneg _ (by omega)
    have hx1 : x < r := by rw [← hx]; exact Int.emod_lt_of_pos _ (by omega)
    have N1 := Lib.hid (fun (W : World) (hW : Below B0 w W) => NX.out W hW r (by omega) (by omega))
    rw [b3] at N1
    obtain ⟨m, hm⟩ : ∃ m, nxt B g l k x = m := ⟨_, rfl⟩
    have N2 := Lib.hid (fun (W : World) (hW : Below B0 w W) => NX.out W hW x hx0 (by omega))
    have hm1 : x < m := by rw [← hm]; exact b4 x hx0 hx1
    have hm2 : m ≤ r := by rw [← hm, ← b3]; exact hmo.out x r hx0 (by omega)
    rw [hm] at N2
    clear b3 b4 hm er RS NX
    have hxt : c.tmod r = x := by rw [Int.tmod_eq_emod_of_nonneg (by omega)]; exact hx
    replace hx := Lib.hid hx
    go_wp2_with (first | ((with_reducible refine wpl_gate (T := 24) rfl ?_); refine wpl_ld _ _ rfl (by rfl) B0 rfl H_43.out Try.underlying24 rfl (by kernel_rfl) zS0.out ?_))
    refine (R1.out _ HE_44.out).mono ?_; rintro e V_45 ⟨rfl, hb_46⟩
    have H_47 : Hid (V_45.heap[B0]? = some (.cells S0 24 (0, 0))) := Lib.hid ((hb_46.block B0 (blk_lt H_43.out)).trans H_43.out)
    have HE_48 : Hid (Below B0 w V_45) := Lib.hid (HE_44.out.trans (hb_46.mono (sz_le hB0.out HE_44.out.size)))
    clear HE_44 H_43
    clear hb_46
    go_wp2_with (first | ((with_reducible refine wpl_gate (T := 24) rfl ?_); refine wpl_ld _ _ rfl (by rfl) B0 rfl H_47.out Try.underlying24 rfl (by kernel_rfl) zS0.out ?_))
    refine (N1.out _ HE_48.out).mono ?_; rintro e V_49 ⟨rfl, hb_50⟩
    have H_51 : Hid (V_49.heap[B0]? = some (.cells S0 24 (0, 0))) := Lib.hid ((hb_50.block B0 (blk_lt H_47.out)).trans H_47.out)
    have HE_52 : Hid (Below B0 w V_49) := Lib.hid (HE_48.out.trans (hb_50.mono (sz_le hB0.out HE_48.out.size)))
    clear HE_48 H_47
    clear hb_50
    have hq1 : decide (D < r) = false := by simp; omega
    have hq2 : decide (r < 1) = false := by simp; omega
    have cD : V_49.cell? ⟨(ad.add (k.toNat * 11)).block, (ad.add (k.toNat * 11)).off + 2, none⟩ = some (.int .i64 D) := hcD.out _ HE_52.out
    have c_53 : V_49.cell? ⟨B0, 1, none⟩ = some (.slice (some ad) l.length cap) := by rw [blk_cell H_51.out, eS0.out]; rfl
    go_upto_region 12 with (fail)
    clear c_53
    clear cD
    go_wp2_with (first | ((with_reducible refine wpl_gate (T := 24) rfl ?_); refine wpl_ld _ _ rfl (by rfl) B0 rfl H_51.out Try.underlying24 rfl (by kernel_rfl) zS0.out ?_))
    refine (N2.out _ HE_52.out).mono ?_; rintro e V_54 ⟨rfl, hb_55⟩
    have H_56 : Hid (V_54.heap[B0]? = some (.cells S0 24 (0, 0))) := Lib.hid ((hb_55.block B0 (blk_lt H_51.out)).trans H_51.out)
    have HE_57 : Hid (Below B0 w V_54) := Lib.hid (HE_52.out.trans (hb_55.mono (sz_le hB0.out HE_52.out.size)))
    clear HE_52 H_51
    clear hb_55
    have hq3 : decide (x < m) = true := by simp; omega
    have hq4 : decide (m ≤ r) = true := by simp; omega
    go_wp2
    go_ret
    exact ⟨rfl, HE_57.out⟩
  · skip
    rw [er] at R1
    obtain ⟨E, hE⟩ : ∃ E, D + 1 = E := ⟨_, rfl⟩
    obtain ⟨x, hx⟩ : ∃ x, c % E = x := ⟨_, rfl⟩
    have hx0 : 0 ≤ x := by rw [← hx]; exact Int.emod_nonneg _ (by omega)
    have hx1 : x < E := by rw [← hx]; exact Int.emod_lt_of_pos _ (by omega)
    have N1 := Lib.hid (fun (W : World) (hW : Below B0 w W) => NX.out W hW x hx0 (by omega))
    obtain ⟨m, hm⟩ : ∃ m, nxt B g l k x = m := ⟨_, rfl⟩
    have hm1 : x < m := by rw [← hm]; exact h4 x hx0 (by omega)
    rw [hm] at N1
    clear h4 hm er RS NX
    have hxt : c.tmod E = x := by rw [Int.tmod_eq_emod_of_nonneg (by omega)]; exact hx
    have hE0 : ¬ E = 0 := by omega
    have hwE : wrap64 E = E := w64 (by omega) (by omega)
    have hwc : wrap64 c = c := w64 (by omega) (by omega)
    replace hx := Lib.hid hx
    go_wp2_with (first | ((with_reducible refine wpl_gate (T := 24) rfl ?_); refine wpl_ld _ _ rfl (by rfl) B0 rfl H_43.out Try.underlying24 rfl (by kernel_rfl) zS0.out ?_))
    refine (R1.out _ HE_44.out).mono ?_; rintro e V_58 ⟨rfl, hb_59⟩
    have H_60 : Hid (V_58.heap[B0]? = some (.cells S0 24 (0, 0))) := Lib.hid ((hb_59.block B0 (blk_lt H_43.out)).trans H_43.out)
    have HE_61 : Hid (Below B0 w V_58) := Lib.hid (HE_44.out.trans (hb_59.mono (sz_le hB0.out HE_44.out.size)))
    clear HE_44 H_43
    clear hb_59
    go_upto_region 6 with (fail)
    refine start_ (n := 19) (S := fun w' => w'.heap[B0]? = some (.cells S0 24 (0, 0)) ∧ w'.cell? ⟨B0, 1, none⟩ = some (.slice (some ad) l.length cap) ∧ w'.cell? ⟨(ad.add (k.toNat * 11)).block, (ad.add (k.toNat * 11)).off + 2, none⟩ = some (.int .i64 D)) (ds := []) #[false, false, false, false, false, false, false, false, false, false, false, false, false, false, false, false, false, false, false] (by kernel_rfl) rfl rfl ⟨H_60.out, (blk_cell H_60.out 1).trans (by rw [eS0.out]; rfl), hcD.out _ HE_61.out.drew⟩ (fun hHeld => ?_)
    refine take_ (i := 0) (N := (some 50)) (v := .agg S0) (a' := ?_) #[true, false, false, false, false, false, false, false, false, false, false, false, false, false, false, false, false, false, false] rfl rfl (by kernel_rfl) (fun _ _ _ h => h) (Or.inl ⟨by rfl, ?_⟩) hHeld ?_ ?_
    · rintro w' ⟨s0, s1, s2⟩
      exact ld_op 24 _ rfl B0 rfl s0 Try.underlying24 rfl (by kernel_rfl) zS0.out
    rotate_left
    · simp only [Act.put, List.setIfInBounds_toArray, List.set_cons_zero, List.set_cons_succ, i64_w, i32_w]
      rfl
    refine pure_ (i := 1) (N := (some 51)) (v := ?_) (a' := ?_) #[true, true, false, false, false, false, false, false, false, false, false, false, false, false, false, false, false, false, false] rfl rfl (by kernel_rfl) (fun _ _ _ h => h) (Or.inl ⟨by rfl, ?_⟩) ?_ ?_
    rotate_left
    · intro w'
      go_simp
      with_reducible rfl
    rotate_left
    · simp only [Act.put, List.setIfInBounds_toArray, List.set_cons_zero, List.set_cons_succ, i64_w, i32_w]
      rfl
    refine pure_ (i := 2) (N := (some 52)) (v := ?_) (a' := ?_) #[true, true, true, false, false, false, false, false, false, false, false, false, false, false, false, false, false, false, false] rfl rfl (by kernel_rfl) (fun _ _ _ h => h) (Or.inl ⟨by rfl, ?_⟩) ?_ ?_
    rotate_left
    · intro w'
      go_simp
      with_reducible rfl
    rotate_left
    · simp only [Act.put, List.setIfInBounds_toArray, List.set_cons_zero, List.set_cons_succ, i64_w, i32_w]
      rfl
    refine pure_ (i := 3) (N := (some 53)) (v := ?_) (a' := ?_) #[true, true, true, true, false, false, false, false, false, false, false, false, false, false, false, false, false, false, false] rfl rfl (by kernel_rfl) (fun _ _ _ h => h) (Or.inl ⟨by rfl, ?_⟩) ?_ ?_
    rotate_left
    · intro w'
      go_simp
      with_reducible rfl
    rotate_left
    · simp only [Act.put, List.setIfInBounds_toArray, List.set_cons_zero, List.set_cons_succ, i64_w, i32_w]
      rfl
    refine pure_ (i := 4) (N := (some 54)) (v := ?_) (a' := ?_) #[true, true, true, true, true, false, false, false, false, false, false, false, false, false, false, false, false, false, false] rfl rfl (by kernel_rfl) (fun _ _ _ h => h) (Or.inl ⟨by rfl, ?_⟩) ?_ ?_
    rotate_left
    · intro w'
      go_simp
      with_reducible rfl
    rotate_left
    · simp only [Act.put, List.setIfInBounds_toArray, List.set_cons_zero, List.set_cons_succ, i64_w, i32_w]
      rfl
    refine pure_ (i := 5) (N := (some 55)) (v := ?_) (a' := ?_) #[true, true, true, true, true, true, false, false, false, false, false, false, false, false, false, false, false, false, false] rfl rfl (by kernel_rfl) (fun _ _ _ h => h) (Or.inl ⟨by rfl, ?_⟩) ?_ ?_
    rotate_left
    · intro w'
      go_simp
      with_reducible rfl
    rotate_left
    · simp only [Act.put, List.setIfInBounds_toArray, List.set_cons_zero, List.set_cons_succ, i64_w, i32_w]
      rfl
    refine take_ (i := 6) (N := (some 56)) (v := ?_) (a' := ?_) #[true, true, true, true, true, true, true, false, false, false, false, false, false, false, false, false, false, false, false] rfl rfl (by kernel_rfl) (fun _ _ _ h => h) (Or.inl ⟨by rfl, ?_⟩) hHeld ?_ ?_
    rotate_left
    · rintro w' ⟨s0, s1, s2⟩
      go_simp
      with_reducible rfl
    rotate_left
    · simp only [Act.put, List.setIfInBounds_toArray, List.set_cons_zero, List.set_cons_succ, i64_w, i32_w]
      rfl
    refine pure_ (i := 7) (N := (some 57)) (v := ?_) (a' := ?_) #[true, true, true, true, true, true, true, true, false, false, false, false, false, false, false, false, false, false, false] rfl rfl (by kernel_rfl) (fun _ _ _ h => h) (Or.inl ⟨by rfl, ?_⟩) ?_ ?_
    rotate_left
    · intro w'
      go_simp
      with_reducible rfl
    rotate_left
    · simp only [Act.put, List.setIfInBounds_toArray, List.set_cons_zero, List.set_cons_succ, i64_w, i32_w]
      rfl
    refine pure_ (i := 8) (N := (some 58)) (v := ?_) (a' := ?_) #[true, true, true, true, true, true, true, true, true, false, false, false, false, false, false, false, false, false, false] rfl rfl (by kernel_rfl) (fun _ _ _ h => h) (Or.inl ⟨by rfl, ?_⟩) ?_ ?_
    rotate_left
    · intro w'
      go_simp
      with_reducible rfl
    rotate_left
    · simp only [Act.put, List.setIfInBounds_toArray, List.set_cons_zero, List.set_cons_succ, i64_w, i32_w]
      rfl
    refine pure_ (i := 9) (N := (some 59)) (v := ?_) (a' := ?_) #[true, true, true, true, true, true, true, true, true, true, false, false, false, false, false, false, false, false, false] rfl rfl (by kernel_rfl) (fun _ _ _ h => h) (Or.inl ⟨by rfl, ?_⟩) ?_ ?_
    rotate_left
    · intro w'
      go_simp
      with_reducible rfl
    rotate_left
    · simp only [Act.put, List.setIfInBounds_toArray, List.set_cons_zero, List.set_cons_succ, i64_w, i32_w]
      rfl
    refine take_ (i := 10) (N := (some 60)) (v := ?_) (a' := ?_) #[true, true, true, true, true, true, true, true, true, true, true, false, false, false, false, false, false, false, false] rfl rfl (by kernel_rfl) (fun _ _ _ h => h) (Or.inl ⟨by rfl, ?_⟩) hHeld ?_ ?_
    rotate_left
    · rintro w' ⟨s0, s1, s2⟩
      go_simp
      with_reducible rfl
    rotate_left
    · simp only [Act.put, List.setIfInBounds_toArray, List.set_cons_zero, List.set_cons_succ, i64_w, i32_w]
      rfl
    refine pure_ (i := 11) (N := (some 61)) (v := ?_) (a' := ?_) #[true, true, true, true, true, true, true, true, true, true, true, true, false, false, false, false, false, false, false] rfl rfl (by kernel_rfl) (fun _ _ _ h => h) (Or.inl ⟨by rfl, ?_⟩) ?_ ?_
    rotate_left
    · intro w'
      go_simp
      with_reducible rfl
    rotate_left
    · simp only [Act.put, List.setIfInBounds_toArray, List.set_cons_zero, List.set_cons_succ, i64_w, i32_w]
      rfl
    refine pure_ (i := 12) (N := (some 62)) (v := ?_) (a' := ?_) #[true, true, true, true, true, true, true, true, true, true, true, true, true, false, false, false, false, false, false] rfl rfl (by kernel_rfl) (fun _ _ _ h => h) (Or.inl ⟨by rfl, ?_⟩) ?_ ?_
    rotate_left
    · intro w'
      go_simp
      with_reducible rfl
    rotate_left
    · simp only [Act.put, List.setIfInBounds_toArray, List.set_cons_zero, List.set_cons_succ, i64_w, i32_w]
      rfl
    refine one_ (i := 13) (N := (some 63)) #[true, true, true, true, true, true, true, true, true, true, true, true, true, true, false, false, false, false, false] rfl rfl (by kernel_rfl) (by decide) (fun K hK => ?_)
    refine goes_ Try.func13 (by kernel_rfl) rfl #[.agg S0, .int .i64 k, .int .i64 g, .int .i64 x] (by rfl) rfl rfl (by (try simp only [List.map_toArray, List.map_cons, List.map_nil]); first | done | rfl) ?_
    refine (N1.out _ HE_61.out.drew).mono ?_
    rintro e Va ⟨rfl, hb4⟩
    have HSa : Hid (Va.heap[B0]? = some (.cells S0 24 (0, 0))) := Lib.hid ((hb4.block B0 (blk_lt H_60.out)).trans H_60.out)
    have HEa : Hid (Below B0 w Va) := Lib.hid ((HE_61.out.drew).trans (hb4.mono (sz_le hB0.out HE_61.out.size)))
    refine ⟨_, rfl, ?_⟩
    refine hK.out _ _ ⟨HSa.out, (blk_cell HSa.out 1).trans (by rw [eS0.out]; rfl), hcD.out _ HEa.out⟩ (fun hHeld => ?_)
    clear hb4 H_60 HE_61
    clear hK K
    refine norm_ (a' := ?_) ?_ ?_
    rotate_left
    · show Act.put _ (some 63) _ = _
      simp only [Act.put, List.setIfInBounds_toArray, List.set_cons_zero, List.set_cons_succ, i64_w, i32_w]
      rfl
    refine pure_ (i := 14) (N := (some 49)) (v := ?_) (a' := ?_) #[true, true, true, true, true, true, true, true, true, true, true, true, true, true, true, false, false, false, false] rfl rfl (by kernel_rfl) (fun _ _ _ h => h) (Or.inl ⟨by rfl, ?_⟩) ?_ ?_
    rotate_left
    · intro w'
      go_simp
      with_reducible rfl
    rotate_left
    · simp only [Act.put, List.setIfInBounds_toArray, List.set_cons_zero, List.set_cons_succ, i64_w, i32_w]
      rfl
    refine pure_ (i := 15) (N := (some 64)) (v := ?_) (a' := ?_) #[true, true, true, true, true, true, true, true, true, true, true, true, true, true, true, true, false, false, false] rfl rfl (by kernel_rfl) (fun _ _ _ h => h) (Or.inl ⟨by rfl, ?_⟩) ?_ ?_
    rotate_left
    · intro w'
      go_simp
      with_reducible rfl
    rotate_left
    · simp only [Act.put, List.setIfInBounds_toArray, List.set_cons_zero, List.set_cons_succ, i64_w, i32_w]
      rfl
    refine pure_ (i := 16) (N := (some 65)) (v := ?_) (a' := ?_) #[true, true, true, true, true, true, true, true, true, true, true, true, true, true, true, true, true, false, false] rfl rfl (by kernel_rfl) (fun _ _ _ h => h) (Or.inl ⟨by rfl, ?_⟩) ?_ ?_
    rotate_left
    · intro w'
      go_simp
      with_reducible rfl
    rotate_left
    · simp only [Act.put, List.setIfInBounds_toArray, List.set_cons_zero, List.set_cons_succ, i64_w, i32_w]
      rfl
    refine pure_ (i := 17) (N := (some 13)) (v := ?_) (a' := ?_) #[true, true, true, true, true, true, true, true, true, true, true, true, true, true, true, true, true, true, false] rfl rfl (by kernel_rfl) (fun _ _ _ h => h) (Or.inl ⟨by rfl, ?_⟩) ?_ ?_
    rotate_left
    · intro w'
      go_simp
      with_reducible rfl
    rotate_left
    · simp only [Act.put, List.setIfInBounds_toArray, List.set_cons_zero, List.set_cons_succ, i64_w, i32_w]
      rfl
    refine pure_ (i := 18) (N := (some 14)) (v := ?_) (a' := ?_) #[true, true, true, true, true, true, true, true, true, true, true, true, true, true, true, true, true, true, true] rfl rfl (by kernel_rfl) (fun _ _ _ h => h) (Or.inl ⟨by rfl, ?_⟩) ?_ ?_
    rotate_left
    · intro w'
      go_simp
      with_reducible rfl
    rotate_left
    · simp only [Act.put, List.setIfInBounds_toArray, List.set_cons_zero, List.set_cons_succ, i64_w, i32_w]
      rfl
    refine done_ (by kernel_rfl) ?_
    have cD : Va.cell? ⟨(ad.add (k.toNat * 11)).block, (ad.add (k.toNat * 11)).off + 2, none⟩ = some (.int .i64 D) := hcD.out _ HEa.out
    have c_62 : Va.cell? ⟨B0, 1, none⟩ = some (.slice (some ad) l.length cap) := by rw [blk_cell HSa.out, eS0.out]; rfl
    have hq3 : decide (x < m) = true := by simp; omega
    go_wp2
    go_ret
    exact ⟨rfl, HEa.out⟩
theorem least_walk (w : World) (B : Int) (A : Option Addr) (l : List S39) (cap : Nat) (hc : l.length ≤ cap) (hC : Kd.C k39 w A l.length l) (a b c : Int) (ha : 0 ≤ a ∧ a ≤ 255) (hb : 0 ≤ b ∧ b ≤ 4294967295) (hcc : 0 ≤ c ∧ c ≤ 65535) : Calls Try.prog 5 #[.agg #[.int .i64 B, .slice A l.length cap], .int .u8 a, .int .u32 b, .int .u16 c] w fun e w' => e = .returned (.bool true) ∧ Below w.heap.size w w' := by
  obtain ⟨b, hf, pf⟩ := small_tot B l
  cases b with
  | false => exact least_first w B A l cap hc hC a b c hf
  | true =>
    obtain ⟨b, hr, pr⟩ := right_tot B l
    cases b with
    | false => exact least_right w B A l cap hc hC a b c hf hr
    | true => exact least_main w B A l cap hc hC a b c ha hb hcc hf hr (pf rfl) (pr rfl)
theorem least_row (w : World) (B : Int) (A : Option Addr) (l : List S39) (cap : Nat) (hc : l.length ≤ cap) (hC : Kd.C k39 w A l.length l) (a : Int) (ha : (Lit.int .u8 a).wf = true) (b : Int) (hb : (Lit.int .u32 b).wf = true) (c : Int) (hcc : (Lit.int .u16 c).wf = true) : Calls Try.prog 5 #[.agg #[.int .i64 B, .slice A l.length cap], .int .u8 a, .int .u32 b, .int .u16 c] w fun e w' => e = .returned (.bool true) ∧ Below w.heap.size w w' :=
  least_walk w B A l cap hc hC a b c (Args.bd_u8 ha) (Args.bd_u32 hb) (Args.bd_u16 hcc)
end Go.Proofs.Ytnidcoooenhebaa.PS
