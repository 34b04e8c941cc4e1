/- The law FixMonotone, walked. -/
import Derived.Test.YtnidcoooenhebaaGp
namespace Go.Proofs.Ytnidcoooenhebaa.PS
open Go.RowKit Go.Proofs.Ytnidcoooenhebaa.PC Go.Proofs.YtnidcoooenhebaaW.PrintWords Go.Proofs.YtnidcoooenhebaaW.PrintLast Go.Proofs.YtnidcoooenhebaaW.PrintMore
attribute [local go_sem] max2_int min2_int max_two min_two max_three min_three max_four min_four   -- for this text's walks alone
set_option linter.unusedVariables false
set_option linter.unusedSimpArgs false
set_option maxRecDepth 100000 in
set_option maxHeartbeats 6000000 in
theorem mono_first (w : World) (B : Int) (A : Option Addr) (l : List S39) (cap : Nat) (hc : l.length ≤ cap) (hC : Kd.C k39 w A l.length l) (a b c d : Int) (hf : Ev (fun k => pendulumref19_Small.f k B l) false) : Calls Try.prog 6 #[.agg #[.int .i64 B, .slice A l.length cap], .int .u8 a, .int .u32 b, .int .u32 c, .int .u8 d] w fun e w' => e = .returned (.bool true) ∧ Below w.heap.size w w' := by
  obtain ⟨S0, eS0⟩ : ∃ S0 : Array Value, S0 = #[.int .i64 B, .slice A l.length cap] := ⟨_, rfl⟩
  rw [← eS0]
  have zS0 : Hid (S0.size = 2) := Lib.hid (by rw [eS0]; rfl)
  replace eS0 := Lib.hid eS0
  obtain ⟨B0, hB0⟩ : ∃ B, w.heap.size = B := ⟨_, rfl⟩
  rw [hB0]
  obtain ⟨V0, hV0⟩ : ∃ V, w.alloc (.cells S0 24) = V := ⟨_, rfl⟩
  have Hs : Hid (V0.heap[B0]? = some (.cells S0 24 (0, 0))) := Lib.hid (by rw [← hV0]; exact (box_new hB0).1)
  have HE : Hid (Below B0 w V0) := Lib.hid (by rw [← hV0, ← hB0]; exact (Below.refl _ _).alloc (Nat.le_refl _) _)
  go_enter Try.func6, Try.ntmps6
  go_upto_region 1 with (fail)
  replace hB0 := Lib.hid hB0
  replace hV0 := Lib.hid hV0
  go_wp2_with fail
  refine (awake_walk _).mono ?_; rintro e V_1 ⟨rfl, hb_2⟩
  have H_3 : Hid (V_1.heap[B0]? = some (.cells S0 24 (0, 0))) := Lib.hid ((hb_2.block B0 (blk_lt Hs.out)).trans Hs.out)
  have HE_4 : Hid (Below B0 w V_1) := Lib.hid (HE.out.trans (hb_2.mono (sz_le hB0.out HE.out.size)))
  clear HE Hs
  clear hb_2
  go_wp2_with (first | ((with_reducible refine wpl_gate (T := 24) rfl ?_); refine wpl_ld _ _ rfl (by rfl) B0 rfl H_3.out Try.underlying24 rfl (by kernel_rfl) zS0.out ?_))
  refine (smallq_c hf hC hc hB0.out HE_4.out _ eS0.out).mono ?_; rintro e V_5 ⟨rfl, hb_6⟩
  have H_7 : Hid (V_5.heap[B0]? = some (.cells S0 24 (0, 0))) := Lib.hid ((hb_6.block B0 (blk_lt H_3.out)).trans H_3.out)
  have HE_8 : Hid (Below B0 w V_5) := Lib.hid (HE_4.out.trans (hb_6.mono (sz_le hB0.out HE_4.out.size)))
  clear HE_4 H_3
  clear hb_6
  go_wp2_with fail
  refine (awake_walk _).mono ?_; rintro e V_9 ⟨rfl, hb_10⟩
  have H_11 : Hid (V_9.heap[B0]? = some (.cells S0 24 (0, 0))) := Lib.hid ((hb_10.block B0 (blk_lt H_7.out)).trans H_7.out)
  have HE_12 : Hid (Below B0 w V_9) := Lib.hid (HE_8.out.trans (hb_10.mono (sz_le hB0.out HE_8.out.size)))
  clear HE_8 H_7
  clear hb_10
  go_wp2
  go_ret
  exact ⟨rfl, HE_12.out⟩
set_option maxRecDepth 100000 in
set_option maxHeartbeats 6000000 in
theorem mono_right (w : World) (B : Int) (A : Option Addr) (l : List S39) (cap : Nat) (hc : l.length ≤ cap) (hC : Kd.C k39 w A l.length l) (a b c d : Int) (hf : Ev (fun k => pendulumref19_Small.f k B l) true) (hr : Ev (fun k => pendulumref05_Right.f k B l) false) : Calls Try.prog 6 #[.agg #[.int .i64 B, .slice A l.length cap], .int .u8 a, .int .u32 b, .int .u32 c, .int .u8 d] w fun e w' => e = .returned (.bool true) ∧ Below w.heap.size w w' := by
  obtain ⟨S0, eS0⟩ : ∃ S0 : Array Value, S0 = #[.int .i64 B, .slice A l.length cap] := ⟨_, rfl⟩
  rw [← eS0]
  have zS0 : Hid (S0.size = 2) := Lib.hid (by rw [eS0]; rfl)
  replace eS0 := Lib.hid eS0
  obtain ⟨B0, hB0⟩ : ∃ B, w.heap.size = B := ⟨_, rfl⟩
  rw [hB0]
  obtain ⟨V0, hV0⟩ : ∃ V, w.alloc (.cells S0 24) = V := ⟨_, rfl⟩
  have Hs : Hid (V0.heap[B0]? = some (.cells S0 24 (0, 0))) := Lib.hid (by rw [← hV0]; exact (box_new hB0).1)
  have HE : Hid (Below B0 w V0) := Lib.hid (by rw [← hV0, ← hB0]; exact (Below.refl _ _).alloc (Nat.le_refl _) _)
  go_enter Try.func6, Try.ntmps6
  go_upto_region 1 with (fail)
  replace hB0 := Lib.hid hB0
  replace hV0 := Lib.hid hV0
  go_wp2_with fail
  refine (awake_walk _).mono ?_; rintro e V_13 ⟨rfl, hb_14⟩
  have H_15 : Hid (V_13.heap[B0]? = some (.cells S0 24 (0, 0))) := Lib.hid ((hb_14.block B0 (blk_lt Hs.out)).trans Hs.out)
  have HE_16 : Hid (Below B0 w V_13) := Lib.hid (HE.out.trans (hb_14.mono (sz_le hB0.out HE.out.size)))
  clear HE Hs
  clear hb_14
  go_wp2_with (first | ((with_reducible refine wpl_gate (T := 24) rfl ?_); refine wpl_ld _ _ rfl (by rfl) B0 rfl H_15.out Try.underlying24 rfl (by kernel_rfl) zS0.out ?_))
  refine (smallq_c hf hC hc hB0.out HE_16.out _ eS0.out).mono ?_; rintro e V_17 ⟨rfl, hb_18⟩
  have H_19 : Hid (V_17.heap[B0]? = some (.cells S0 24 (0, 0))) := Lib.hid ((hb_18.block B0 (blk_lt H_15.out)).trans H_15.out)
  have HE_20 : Hid (Below B0 w V_17) := Lib.hid (HE_16.out.trans (hb_18.mono (sz_le hB0.out HE_16.out.size)))
  clear HE_16 H_15
  clear hb_18
  go_wp2_with (first | ((with_reducible refine wpl_gate (T := 24) rfl ?_); refine wpl_ld _ _ rfl (by rfl) B0 rfl H_19.out Try.underlying24 rfl (by kernel_rfl) zS0.out ?_))
  refine (rightq_c hr hC hc hB0.out HE_20.out _ eS0.out).mono ?_; rintro e V_21 ⟨rfl, hb_22⟩
  have H_23 : Hid (V_21.heap[B0]? = some (.cells S0 24 (0, 0))) := Lib.hid ((hb_22.block B0 (blk_lt H_19.out)).trans H_19.out)
  have HE_24 : Hid (Below B0 w V_21) := Lib.hid (HE_20.out.trans (hb_22.mono (sz_le hB0.out HE_20.out.size)))
  clear HE_20 H_19
  clear hb_22
  go_wp2_with fail
  refine (awake_walk _).mono ?_; rintro e V_25 ⟨rfl, hb_26⟩
  have H_27 : Hid (V_25.heap[B0]? = some (.cells S0 24 (0, 0))) := Lib.hid ((hb_26.block B0 (blk_lt H_23.out)).trans H_23.out)
  have HE_28 : Hid (Below B0 w V_25) := Lib.hid (HE_24.out.trans (hb_26.mono (sz_le hB0.out HE_24.out.size)))
  clear HE_24 H_23
  clear hb_26
  go_wp2
  go_ret
  exact ⟨rfl, HE_28.out⟩
theorem set_bld (x : Int) (A : Option Addr) (n c : Nat) {L : List (Nat × Value)} (h : L = [(0, .int .i64 x), (1, .slice A n c)]) {M : Array Value} (eM : M = #[.int .i64 x, .slice A n c]) : Try.prog.built 24 L = some M := by
  subst h eM
  kernel_rfl
set_option maxRecDepth 100000 in
set_option maxHeartbeats 6000000 in
theorem mono_main (w : World) (B : Int) (A : Option Addr) (l : List S39) (cap : Nat) (hc : l.length ≤ cap) (hC : Kd.C k39 w A l.length l) (a b c d : Int) (ha : 0 ≤ a ∧ a ≤ 255) (hb : 0 ≤ b ∧ b ≤ 4294967295) (hcc : 0 ≤ c ∧ c ≤ 4294967295) (hdd : 0 ≤ d ∧ d ≤ 255) (hf : Ev (fun k => pendulumref19_Small.f k B l) true) (hr : Ev (fun k => pendulumref05_Right.f k B l) true) (sm : l.length ≤ 16 ∧ ∀ j : Nat, j < l.length → (rd_T39 l j).f2 ≤ 3000) (ok : OkS B l) : Calls Try.prog 6 #[.agg #[.int .i64 B, .slice A l.length cap], .int .u8 a, .int .u32 b, .int .u32 c, .int .u8 d] w fun e w' => e = .returned (.bool true) ∧ Below w.heap.size w w' := by
  have hlen := ok.2.2.1
  have hlen2 := ok.2.2.2.1
  obtain ⟨k, hk⟩ : ∃ k, k = a % (l.length : Int) := ⟨_, rfl⟩
  have hk0 : 0 ≤ k := by rw [hk]; exact Int.emod_nonneg _ (by omega)
  have hk1 : k < (l.length : Int) := by rw [hk]; exact Int.emod_lt_of_pos _ (by omega)
  obtain ⟨g, hg⟩ : ∃ g, g = 1 + b % 1049576 := ⟨_, rfl⟩
  have hg1 : 1 ≤ g := by omega
  have hg2 : g ≤ 1049576 := by omega
  obtain ⟨ad, rfl, _⟩ := row_at hC hk0 hk1
  replace hk := Lib.hid hk
  replace hg := Lib.hid hg
  obtain ⟨oki, hD1, hD2⟩ := dl_bd ok hk0 hk1
  obtain ⟨c1, hc1⟩ : ∃ x, c % 100000 = x := ⟨_, rfl⟩
  have hc10 : 0 ≤ c1 ∧ c1 < 100000 := by omega
  obtain ⟨gs, hgs⟩ : ∃ x, g + c1 = x := ⟨_, rfl⟩
  obtain ⟨gw, hgw⟩ : ∃ x, (if 1049576 < gs then 1049576 else gs) = x := ⟨_, rfl⟩
  have hgw1 : g ≤ gw := by split at hgw <;> omega
  have hgw2 : gw ≤ 1049576 := by split at hgw <;> omega
  obtain ⟨Bs, hBs⟩ : ∃ x, B + d = x := ⟨_, rfl⟩
  obtain ⟨B2, hB2⟩ : ∃ x, (if 1000 < Bs then 1000 else Bs) = x := ⟨_, rfl⟩
  have ob1 := ok.1
  have ob2 := ok.2.1
  have hB21 : B ≤ B2 := by split at hB2 <;> omega
  have hB22 : B2 ≤ 1000 := by split at hB2 <;> omega
  have ok2 : OkS B2 l := ⟨by omega, hB22, ok.2.2⟩
  have P1 := fun (h : (rsp B g l k).2 = true) => rsp_le (B := B) (B' := B) (g := gw) (g' := g) ok ok (by omega) hg1 hk0 hk1 (fun y h0 => nxt_wide ok hg1 hgw1 k y h0) h
  have P2 := fun (h : (rsp B g l k).2 = true) => rsp_wh ok hg1 hk0 hk1 h
  have P3 := fun (h : (rsp B2 g l k).2 = true) => rsp_le (B := B) (B' := B2) (g := g) (g' := g) ok ok2 hg1 hg1 hk0 hk1 (fun y h0 => nxt_more ok hg1 hB21 k y h0) h
  have a1 : IntKind.i64.wrap (g + c1) = gs := by rw [i64_w, ← hgs]; exact w64 (by omega) (by omega)
  have a2 : IntKind.i64.wrap (B + d) = Bs := by rw [i64_w, ← hBs]; exact w64 (by omega) (by omega)
  have hgw0 : 1 ≤ gw := by omega
  obtain ⟨S0, eS0⟩ : ∃ S0 : Array Value, S0 = #[.int .i64 B, .slice (some ad) l.length cap] := ⟨_, rfl⟩
  rw [← eS0]
  have zS0 : Hid (S0.size = 2) := Lib.hid (by rw [eS0]; rfl)
  replace eS0 := Lib.hid eS0
  obtain ⟨B0, hB0⟩ : ∃ B, w.heap.size = B := ⟨_, rfl⟩
  rw [hB0]
  obtain ⟨V0, hV0⟩ : ∃ V, w.alloc (.cells S0 24) = V := ⟨_, rfl⟩
  have Hs : Hid (V0.heap[B0]? = some (.cells S0 24 (0, 0))) := Lib.hid (by rw [← hV0]; exact (box_new hB0).1)
  have HE : Hid (Below B0 w V0) := Lib.hid (by rw [← hV0, ← hB0]; exact (Below.refl _ _).alloc (Nat.le_refl _) _)
  go_enter Try.func6, Try.ntmps6
  go_upto_region 1 with (fail)
  replace hB0 := Lib.hid hB0
  replace hV0 := Lib.hid hV0
  have R1 := Lib.hid (fun (W : World) (hW : Below B0 w W) => response_c W B ad l cap hc (Kd.C_below hC (below_to hB0.out hW)) ok k hk0 hk1 g hg1 hg2 S0 eS0.out)
  have R2 := Lib.hid (fun (W : World) (hW : Below B0 w W) => response_c W B ad l cap hc (Kd.C_below hC (below_to hB0.out hW)) ok k hk0 hk1 gw hgw0 hgw2 S0 eS0.out)
  have R3 := Lib.hid (fun (W : World) (hW : Below B0 w W) (S : Array Value) (hS : S = #[.int .i64 B2, .slice (some ad) l.length cap]) => response_c W B2 ad l cap hc (Kd.C_below hC (below_to hB0.out hW)) ok2 k hk0 hk1 g hg1 hg2 S hS)
  obtain ⟨r, r'⟩ : ∃ r, (rsp B g l k).1 = r := ⟨_, rfl⟩
  obtain ⟨b1, b1'⟩ : ∃ r, (rsp B g l k).2 = r := ⟨_, rfl⟩
  obtain ⟨q, q'⟩ : ∃ r, (rsp B gw l k).1 = r := ⟨_, rfl⟩
  obtain ⟨b2, b2'⟩ : ∃ r, (rsp B gw l k).2 = r := ⟨_, rfl⟩
  obtain ⟨p, p'⟩ : ∃ r, (rsp B2 g l k).1 = r := ⟨_, rfl⟩
  obtain ⟨b3, b3'⟩ : ∃ r, (rsp B2 g l k).2 = r := ⟨_, rfl⟩
  obtain ⟨wi, wi'⟩ : ∃ r, wh (rd_T39 l k) = r := ⟨_, rfl⟩
  rw [r', b1'] at R1
  rw [q', b2'] at R2
  rw [p', b3'] at R3
  rw [r', b1', q', b2'] at P1
  rw [b1', wi', r'] at P2
  rw [b1', r', p', b3'] at P3
  replace wi' := Lib.hid wi'.symm
  clear r' b1' q' b2' p' b3' hgw1 hB21
  replace P1 := Lib.hid P1
  replace P2 := Lib.hid P2
  replace P3 := Lib.hid P3
  replace a1 := Lib.hid a1
  replace a2 := Lib.hid a2
  replace hgs := Lib.hid hgs
  replace hBs := Lib.hid hBs
  replace hgw := Lib.hid hgw
  replace hB2 := Lib.hid hB2
  replace hc1 := Lib.hid hc1
  replace ob1 := Lib.hid ob1
  replace ob2 := Lib.hid ob2
  replace ok2 := Lib.hid ok2
  replace hD1 := Lib.hid hD1
  replace hD2 := Lib.hid hD2
  replace hlen := Lib.hid hlen
  replace hlen2 := Lib.hid hlen2
  replace hgw0 := Lib.hid hgw0
  replace hgw2 := Lib.hid hgw2
  replace hB22 := Lib.hid hB22
  obtain ⟨Ti, eTi⟩ : ∃ A, A = TA (rd_T39 l k) := ⟨_, rfl⟩
  have zTi : Hid (Ti.size = 11) := Lib.hid (by rw [eTi]; rfl)
  replace eTi := Lib.hid eTi
  have hri := Lib.hid (fun (W : World) (hW : Below B0 w W) => row_a hC hB0.out hW hk0 hk1 Ti eTi.out)
  obtain ⟨ZS, eZS⟩ : ∃ A : Array Value, A = #[.int .i64 0, .slice none 0 0] := ⟨_, rfl⟩
  have zZS : Hid (ZS.size = 2) := Lib.hid (by rw [eZS]; rfl)
  have oZS : Hid (ZS.all (·.oneCell') = true) := Lib.hid (by rw [eZS]; simp [Value.oneCell'])
  replace eZS := Lib.hid eZS
  have hzS : ∀ V : World, (zeroValue 24).run Try.prog V = .ok (.agg ZS) V := fun V => by rw [eZS.out]; kernel_rfl
  obtain ⟨T1, eT1⟩ : ∃ A : Array Value, A = #[.int .i64 Bs, .slice (some ad) l.length cap] := ⟨_, rfl⟩
  have zT1 : Hid (T1.size = 2) := Lib.hid (by rw [eT1]; rfl)
  have oT1 : Hid (T1.all (·.oneCell') = true) := Lib.hid (by rw [eT1]; simp [Value.oneCell'])
  replace eT1 := Lib.hid eT1
  obtain ⟨T2, eT2⟩ : ∃ A : Array Value, A = #[.int .i64 B2, .slice (some ad) l.length cap] := ⟨_, rfl⟩
  have zT2 : Hid (T2.size = 2) := Lib.hid (by rw [eT2]; rfl)
  have oT2 : Hid (T2.all (·.oneCell') = true) := Lib.hid (by rw [eT2]; simp [Value.oneCell'])
  replace eT2 := Lib.hid eT2
  go_wp2_with fail
  refine (awake_walk _).mono ?_; rintro e V_29 ⟨rfl, hb_30⟩
  have H_31 : Hid (V_29.heap[B0]? = some (.cells S0 24 (0, 0))) := Lib.hid ((hb_30.block B0 (blk_lt Hs.out)).trans Hs.out)
  have HE_32 : Hid (Below B0 w V_29) := Lib.hid (HE.out.trans (hb_30.mono (sz_le hB0.out HE.out.size)))
  clear HE Hs
  clear hb_30
  go_wp2_with (first | ((with_reducible refine wpl_gate (T := 24) rfl ?_); refine wpl_ld _ _ rfl (by rfl) B0 rfl H_31.out Try.underlying24 rfl (by kernel_rfl) zS0.out ?_))
  refine (smallq_c hf hC hc hB0.out HE_32.out _ eS0.out).mono ?_; rintro e V_33 ⟨rfl, hb_34⟩
  have H_35 : Hid (V_33.heap[B0]? = some (.cells S0 24 (0, 0))) := Lib.hid ((hb_34.block B0 (blk_lt H_31.out)).trans H_31.out)
  have HE_36 : Hid (Below B0 w V_33) := Lib.hid (HE_32.out.trans (hb_34.mono (sz_le hB0.out HE_32.out.size)))
  clear HE_32 H_31
  clear hb_34
  go_wp2_with (first | ((with_reducible refine wpl_gate (T := 24) rfl ?_); refine wpl_ld _ _ rfl (by rfl) B0 rfl H_35.out Try.underlying24 rfl (by kernel_rfl) zS0.out ?_))
  refine (rightq_c hr hC hc hB0.out HE_36.out _ eS0.out).mono ?_; rintro e V_37 ⟨rfl, hb_38⟩
  have H_39 : Hid (V_37.heap[B0]? = some (.cells S0 24 (0, 0))) := Lib.hid ((hb_38.block B0 (blk_lt H_35.out)).trans H_35.out)
  have HE_40 : Hid (Below B0 w V_37) := Lib.hid (HE_36.out.trans (hb_38.mono (sz_le hB0.out HE_36.out.size)))
  clear HE_36 H_35
  clear hb_38
  go_wp2_with (first | ((with_reducible refine wpl_gate (T := 24) rfl ?_); refine wpl_ld _ _ rfl (by rfl) B0 rfl H_39.out Try.underlying24 rfl (by kernel_rfl) zS0.out ?_))
  refine (task_c _ B (some ad) l cap (Kd.C_below hC (below_to hB0.out HE_40.out)) hc hlen.out a b ha hb _ eS0.out k g hk.out hg.out).mono ?_; rintro e V_41 ⟨rfl, hb_42⟩
  have H_43 : Hid (V_41.heap[B0]? = some (.cells S0 24 (0, 0))) := Lib.hid ((hb_42.block B0 (blk_lt H_39.out)).trans H_39.out)
  have HE_44 : Hid (Below B0 w V_41) := Lib.hid (HE_40.out.trans (hb_42.mono (sz_le hB0.out HE_40.out.size)))
  clear HE_40 H_39
  clear hb_42
  have hc1' := hc1.out
  have a1' := a1.out
  go_upto_if 47 with (fail)
  clear hc1' a1'
  go_cut [13] (fun s wx => s = .int .i64 gw ∧ wx = V_41)
  case first =>
    have hgw' := hgw.out
    by_cases hq : 1049576 < gs
    · have hqd : decide (1049576 < gs) = true := by simpa using hq
      rw [if_pos hq] at hgw'
      replace hgw' := Lib.hid hgw'
      go_wp2_with fail
      go_meet
      exact ⟨by rw [hgw'.out], rfl⟩
    · have hqd : decide (1049576 < gs) = false := by simpa using hq
      rw [if_neg hq] at hgw'
      replace hgw' := Lib.hid hgw'
      go_wp2_with fail
      go_meet
      exact ⟨by rw [hgw'.out], rfl⟩
  case rest =>
  obtain ⟨rfl, hwx⟩ := hcut
  subst hwx
  have c_45 : wc.cell? ⟨B0, 0, none⟩ = some (.int .i64 B) := by rw [blk_cell H_43.out, eS0.out]; rfl
  have c_46 : wc.cell? ⟨B0, 1, none⟩ = some (.slice (some ad) l.length cap) := by rw [blk_cell H_43.out, eS0.out]; rfl
  have a2' := a2.out
  obtain ⟨X_47, hX_49⟩ : ∃ X, wc.heap.size = X := ⟨_, rfl⟩
  obtain ⟨V_48, q_50_0, q_50_1, q_50_2, q_50_3⟩ := st_new (w := wc) (T := 24) hX_49 zZS.out zT1.out oT1.out
  have ne_52 : B0 < X_47 := hX_49 ▸ blk_lt H_43.out
  have H_51 : Hid (V_48.heap[B0]? = some (.cells S0 24 (0, 0))) := Lib.hid ((q_50_2 _ ne_52).trans H_43.out)
  have ge_53 : B0 ≤ X_47 := hX_49 ▸ (sz_le hB0.out HE_44.out.size)
  have HE_54 : Hid (Below B0 w V_48) := Lib.hid (q_50_3 _ _ ge_53 HE_44.out)
  have H_55 := Lib.hid q_50_1
  clear q_50_1 q_50_2 q_50_3
  go_upto_region 8 with (first | ((with_reducible refine wpl_gateb (T := 24) rfl ?_); refine wpl_bld 24 _ rfl (by rfl) (set_bld Bs (some ad) l.length cap (by simp [go_sem]) eT1.out) ?_))
  clear q_50_0 hX_49
  clear c_45 c_46
  clear HE_44 H_43
  clear a2'
  have ct0 : V_48.cell? ⟨X_47, 0, none⟩ = some (.int .i64 Bs) := by rw [blk_cell H_55.out, eT1.out]; rfl
  go_upto_if 58 with (fail)
  go_cut [] (fun wx => wx.heap[X_47]? = some (.cells T2 24 (0, 0)) ∧ wx.heap[B0]? = some (.cells S0 24 (0, 0)) ∧ Below B0 w wx)
  case first =>
    have hB2' := hB2.out
    by_cases hq : 1000 < Bs
    · have hqd : decide (1000 < Bs) = true := by simpa using hq
      rw [if_pos hq] at hB2'
      replace hB2' := Lib.hid hB2'
      have cz : V_48.frozen? ⟨X_47, 0, none⟩ = false := blk_frozen H_55.out 0
      go_wp2_with fail
      go_meet
      exact ⟨blk_put H_55.out 0 _ (by rw [eT1.out, eT2.out, ← hB2'.out]; rfl), blk_far H_51.out (Nat.ne_of_lt ne_52) _, HE_54.out.setCell (p := ⟨X_47, 0, none⟩) ge_53 _⟩
    · have hqd : decide (1000 < Bs) = false := by simpa using hq
      rw [if_neg hq] at hB2'
      replace hB2' := Lib.hid hB2'
      go_wp2_with fail
      go_meet
      exact ⟨by rw [show T2 = T1 by rw [eT1.out, eT2.out, hB2'.out]]; exact H_55.out, H_51.out, HE_54.out⟩
  case rest =>
  obtain ⟨h1c, h2c, h3c⟩ := hcut
  clear ct0 H_55 H_51 HE_54
  skip
  replace h1c := Lib.hid h1c
  replace h2c := Lib.hid h2c
  replace h3c := Lib.hid h3c
  go_wp2_with (first | ((with_reducible refine wpl_gate (T := 24) rfl ?_); refine wpl_ld _ _ rfl (by rfl) B0 rfl h2c.out Try.underlying24 rfl (by kernel_rfl) zS0.out ?_))
  refine (R1.out _ h3c.out).mono ?_; rintro e V_56 ⟨rfl, hb_57⟩
  have H_58 : Hid (V_56.heap[B0]? = some (.cells S0 24 (0, 0))) := Lib.hid ((hb_57.block B0 (blk_lt h2c.out)).trans h2c.out)
  have H_59 : Hid (V_56.heap[X_47]? = some (.cells T2 24 (0, 0))) := Lib.hid ((hb_57.block X_47 (blk_lt h1c.out)).trans h1c.out)
  have HE_60 : Hid (Below B0 w V_56) := Lib.hid (h3c.out.trans (hb_57.mono (sz_le hB0.out h3c.out.size)))
  clear h3c h2c h1c
  clear hb_57
  go_wp2_with (first | ((with_reducible refine wpl_gate (T := 24) rfl ?_); refine wpl_ld _ _ rfl (by rfl) B0 rfl H_58.out Try.underlying24 rfl (by kernel_rfl) zS0.out ?_))
  refine (R2.out _ HE_60.out).mono ?_; rintro e V_61 ⟨rfl, hb_62⟩
  have H_63 : Hid (V_61.heap[B0]? = some (.cells S0 24 (0, 0))) := Lib.hid ((hb_62.block B0 (blk_lt H_58.out)).trans H_58.out)
  have H_64 : Hid (V_61.heap[X_47]? = some (.cells T2 24 (0, 0))) := Lib.hid ((hb_62.block X_47 (blk_lt H_59.out)).trans H_59.out)
  have HE_65 : Hid (Below B0 w V_61) := Lib.hid (HE_60.out.trans (hb_62.mono (sz_le hB0.out HE_60.out.size)))
  clear HE_60 H_58 H_59
  clear hb_62
  go_wp2_with (first | ((with_reducible refine wpl_gate (T := 24) rfl ?_); refine wpl_ld _ _ rfl (by rfl) X_47 rfl H_64.out Try.underlying24 rfl (by kernel_rfl) zT2.out ?_))
  refine (R3.out _ HE_65.out T2 eT2.out).mono ?_; rintro e V_66 ⟨rfl, hb_67⟩
  have H_68 : Hid (V_66.heap[B0]? = some (.cells S0 24 (0, 0))) := Lib.hid ((hb_67.block B0 (blk_lt H_63.out)).trans H_63.out)
  have H_69 : Hid (V_66.heap[X_47]? = some (.cells T2 24 (0, 0))) := Lib.hid ((hb_67.block X_47 (blk_lt H_64.out)).trans H_64.out)
  have HE_70 : Hid (Below B0 w V_66) := Lib.hid (HE_65.out.trans (hb_67.mono (sz_le hB0.out HE_65.out.size)))
  clear HE_65 H_63 H_64
  clear hb_67
  cases b1 with
  | false =>
    obtain rfl : b3 = false := by cases b3 with | false => rfl | true => exact absurd (P3.out rfl).1 (by simp)
    go_wp2
    go_ret
    exact ⟨rfl, HE_70.out⟩
  | true =>
    obtain ⟨rfl, hq1⟩ := P1.out rfl
    have hw1 := P2.out rfl
    have hd1 : decide (r < q) = false := by simp; omega
    have hd2 : decide (r < wi) = false := by simp; omega
    clear hq1 hw1
    have c_71 : V_66.cell? ⟨B0, 1, none⟩ = some (.slice (some ad) l.length cap) := by rw [blk_cell H_68.out, eS0.out]; rfl
    go_wp2_with (first | ((with_reducible refine wpl_gate (T := 39) rfl ?_); refine wpl_ldr _ _ rfl (by rfl) (ad.add (k.toNat * 11)) rfl (hri.out _ HE_70.out) Try.underlying39 rfl (by kernel_rfl) zTi.out ?_))
    refine (rwhole_c oki _ _ eTi.out _ wi'.out).mono ?_; rintro e V_72 ⟨rfl, hb_73⟩
    have H_74 : Hid (V_72.heap[B0]? = some (.cells S0 24 (0, 0))) := Lib.hid ((hb_73.block B0 (blk_lt H_68.out)).trans H_68.out)
    have H_75 : Hid (V_72.heap[X_47]? = some (.cells T2 24 (0, 0))) := Lib.hid ((hb_73.block X_47 (blk_lt H_69.out)).trans H_69.out)
    have HE_76 : Hid (Below B0 w V_72) := Lib.hid (HE_70.out.trans (hb_73.mono (sz_le hB0.out HE_70.out.size)))
    clear c_71
    clear HE_70 H_68 H_69
    clear hb_73
    cases b3 with
    | false =>
      go_wp2
      go_ret
      exact ⟨rfl, HE_76.out⟩
    | true =>
      have hp1 := (P3.out rfl).2
      have hd3 : decide (r ≤ p) = true := by simp; omega
      clear hp1
      go_wp2
      go_ret
      exact ⟨rfl, HE_76.out⟩
theorem mono_walk (w : World) (B : Int) (A : Option Addr) (l : List S39) (cap : Nat) (hc : l.length ≤ cap) (hC : Kd.C k39 w A l.length l) (a b c d : Int) (ha : 0 ≤ a ∧ a ≤ 255) (hb : 0 ≤ b ∧ b ≤ 4294967295) (hcc : 0 ≤ c ∧ c ≤ 4294967295) (hdd : 0 ≤ d ∧ d ≤ 255) : Calls Try.prog 6 #[.agg #[.int .i64 B, .slice A l.length cap], .int .u8 a, .int .u32 b, .int .u32 c, .int .u8 d] w fun e w' => e = .returned (.bool true) ∧ Below w.heap.size w w' := by
  obtain ⟨b, hf, pf⟩ := small_tot B l
  cases b with
  | false => exact mono_first w B A l cap hc hC a b c d hf
  | true =>
    obtain ⟨b, hr, pr⟩ := right_tot B l
    cases b with
    | false => exact mono_right w B A l cap hc hC a b c d hf hr
    | true => exact mono_main w B A l cap hc hC a b c d ha hb hcc hdd hf hr (pf rfl) (pr rfl)
theorem mono_row (w : World) (B : Int) (A : Option Addr) (l : List S39) (cap : Nat) (hc : l.length ≤ cap) (hC : Kd.C k39 w A l.length l) (a : Int) (ha : (Lit.int .u8 a).wf = true) (b : Int) (hb : (Lit.int .u32 b).wf = true) (c : Int) (hcc : (Lit.int .u32 c).wf = true) (d : Int) (hdd : (Lit.int .u8 d).wf = true) : Calls Try.prog 6 #[.agg #[.int .i64 B, .slice A l.length cap], .int .u8 a, .int .u32 b, .int .u32 c, .int .u8 d] w fun e w' => e = .returned (.bool true) ∧ Below w.heap.size w w' :=
  mono_walk w B A l cap hc hC a b c d (Args.bd_u8 ha) (Args.bd_u32 hb) (Args.bd_u32 hcc) (Args.bd_u8 hdd)
end Go.Proofs.Ytnidcoooenhebaa.PS
