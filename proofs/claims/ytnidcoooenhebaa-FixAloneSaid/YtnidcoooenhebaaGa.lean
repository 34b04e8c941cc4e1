/- The law FixAlone, walked. -/
import Derived.Test.YtnidcoooenhebaaGq
namespace Go.Proofs.Ytnidcoooenhebaa.PS
open Go.RowKit Go.Proofs.Ytnidcoooenhebaa.PC Go.Proofs.YtnidcoooenhebaaW.PrintWords Go.Proofs.YtnidcoooenhebaaW.PrintLast Go.Proofs.YtnidcoooenhebaaW.PrintMore
attribute [local go_sem] max2_int min2_int max_two min_two max_three min_three max_four min_four   -- for this text's walks alone
set_option linter.unusedVariables false
set_option linter.unusedSimpArgs false
set_option maxRecDepth 100000 in
set_option maxHeartbeats 6000000 in
theorem alone_first (w : World) (B : Int) (A : Option Addr) (l : List S39) (cap : Nat) (hc : l.length ≤ cap) (hC : Kd.C k39 w A l.length l) (a : Int) (hf : Ev (fun k => pendulumref19_Small.f k B l) false) : Calls Try.prog 7 #[.agg #[.int .i64 B, .slice A l.length cap], .int .u8 a] w fun e w' => e = .returned (.bool true) ∧ Below w.heap.size w w' := by
  obtain ⟨S0, eS0⟩ : ∃ S0 : Array Value, S0 = #[.int .i64 B, .slice A l.length cap] := ⟨_, rfl⟩
  rw [← eS0]
  have zS0 : Hid (S0.size = 2) := Lib.hid (by rw [eS0]; rfl)
  replace eS0 := Lib.hid eS0
  obtain ⟨B0, hB0⟩ : ∃ B, w.heap.size = B := ⟨_, rfl⟩
  rw [hB0]
  obtain ⟨V0, hV0⟩ : ∃ V, w.alloc (.cells S0 24) = V := ⟨_, rfl⟩
  have Hs : Hid (V0.heap[B0]? = some (.cells S0 24 (0, 0))) := Lib.hid (by rw [← hV0]; exact (box_new hB0).1)
  have HE : Hid (Below B0 w V0) := Lib.hid (by rw [← hV0, ← hB0]; exact (Below.refl _ _).alloc (Nat.le_refl _) _)
  go_enter Try.func7, Try.ntmps7
  go_upto_region 1 with (fail)
  replace hB0 := Lib.hid hB0
  replace hV0 := Lib.hid hV0
  go_wp2_with fail
  refine (awake_walk _).mono ?_; rintro e V_1 ⟨rfl, hb_2⟩
  have H_3 : Hid (V_1.heap[B0]? = some (.cells S0 24 (0, 0))) := Lib.hid ((hb_2.block B0 (blk_lt Hs.out)).trans Hs.out)
  have HE_4 : Hid (Below B0 w V_1) := Lib.hid (HE.out.trans (hb_2.mono (sz_le hB0.out HE.out.size)))
  clear HE Hs
  clear hb_2
  go_wp2_with (first | ((with_reducible refine wpl_gate (T := 24) rfl ?_); refine wpl_ld _ _ rfl (by rfl) B0 rfl H_3.out Try.underlying24 rfl (by kernel_rfl) zS0.out ?_))
  refine (smallq_c hf hC hc hB0.out HE_4.out _ eS0.out).mono ?_; rintro e V_5 ⟨rfl, hb_6⟩
  have H_7 : Hid (V_5.heap[B0]? = some (.cells S0 24 (0, 0))) := Lib.hid ((hb_6.block B0 (blk_lt H_3.out)).trans H_3.out)
  have HE_8 : Hid (Below B0 w V_5) := Lib.hid (HE_4.out.trans (hb_6.mono (sz_le hB0.out HE_4.out.size)))
  clear HE_4 H_3
  clear hb_6
  go_wp2_with fail
  refine (awake_walk _).mono ?_; rintro e V_9 ⟨rfl, hb_10⟩
  have H_11 : Hid (V_9.heap[B0]? = some (.cells S0 24 (0, 0))) := Lib.hid ((hb_10.block B0 (blk_lt H_7.out)).trans H_7.out)
  have HE_12 : Hid (Below B0 w V_9) := Lib.hid (HE_8.out.trans (hb_10.mono (sz_le hB0.out HE_8.out.size)))
  clear HE_8 H_7
  clear hb_10
  go_wp2
  go_ret
  exact ⟨rfl, HE_12.out⟩
set_option maxRecDepth 100000 in
set_option maxHeartbeats 6000000 in
theorem alone_right (w : World) (B : Int) (A : Option Addr) (l : List S39) (cap : Nat) (hc : l.length ≤ cap) (hC : Kd.C k39 w A l.length l) (a : Int) (hf : Ev (fun k => pendulumref19_Small.f k B l) true) (hr : Ev (fun k => pendulumref05_Right.f k B l) false) : Calls Try.prog 7 #[.agg #[.int .i64 B, .slice A l.length cap], .int .u8 a] w fun e w' => e = .returned (.bool true) ∧ Below w.heap.size w w' := by
  obtain ⟨S0, eS0⟩ : ∃ S0 : Array Value, S0 = #[.int .i64 B, .slice A l.length cap] := ⟨_, rfl⟩
  rw [← eS0]
  have zS0 : Hid (S0.size = 2) := Lib.hid (by rw [eS0]; rfl)
  replace eS0 := Lib.hid eS0
  obtain ⟨B0, hB0⟩ : ∃ B, w.heap.size = B := ⟨_, rfl⟩
  rw [hB0]
  obtain ⟨V0, hV0⟩ : ∃ V, w.alloc (.cells S0 24) = V := ⟨_, rfl⟩
  have Hs : Hid (V0.heap[B0]? = some (.cells S0 24 (0, 0))) := Lib.hid (by rw [← hV0]; exact (box_new hB0).1)
  have HE : Hid (Below B0 w V0) := Lib.hid (by rw [← hV0, ← hB0]; exact (Below.refl _ _).alloc (Nat.le_refl _) _)
  go_enter Try.func7, Try.ntmps7
  go_upto_region 1 with (fail)
  replace hB0 := Lib.hid hB0
  replace hV0 := Lib.hid hV0
  go_wp2_with fail
  refine (awake_walk _).mono ?_; rintro e V_13 ⟨rfl, hb_14⟩
  have H_15 : Hid (V_13.heap[B0]? = some (.cells S0 24 (0, 0))) := Lib.hid ((hb_14.block B0 (blk_lt Hs.out)).trans Hs.out)
  have HE_16 : Hid (Below B0 w V_13) := Lib.hid (HE.out.trans (hb_14.mono (sz_le hB0.out HE.out.size)))
  clear HE Hs
  clear hb_14
  go_wp2_with (first | ((with_reducible refine wpl_gate (T := 24) rfl ?_); refine wpl_ld _ _ rfl (by rfl) B0 rfl H_15.out Try.underlying24 rfl (by kernel_rfl) zS0.out ?_))
  refine (smallq_c hf hC hc hB0.out HE_16.out _ eS0.out).mono ?_; rintro e V_17 ⟨rfl, hb_18⟩
  have H_19 : Hid (V_17.heap[B0]? = some (.cells S0 24 (0, 0))) := Lib.hid ((hb_18.block B0 (blk_lt H_15.out)).trans H_15.out)
  have HE_20 : Hid (Below B0 w V_17) := Lib.hid (HE_16.out.trans (hb_18.mono (sz_le hB0.out HE_16.out.size)))
  clear HE_16 H_15
  clear hb_18
  go_wp2_with (first | ((with_reducible refine wpl_gate (T := 24) rfl ?_); refine wpl_ld _ _ rfl (by rfl) B0 rfl H_19.out Try.underlying24 rfl (by kernel_rfl) zS0.out ?_))
  refine (rightq_c hr hC hc hB0.out HE_20.out _ eS0.out).mono ?_; rintro e V_21 ⟨rfl, hb_22⟩
  have H_23 : Hid (V_21.heap[B0]? = some (.cells S0 24 (0, 0))) := Lib.hid ((hb_22.block B0 (blk_lt H_19.out)).trans H_19.out)
  have HE_24 : Hid (Below B0 w V_21) := Lib.hid (HE_20.out.trans (hb_22.mono (sz_le hB0.out HE_20.out.size)))
  clear HE_20 H_19
  clear hb_22
  go_wp2_with fail
  refine (awake_walk _).mono ?_; rintro e V_25 ⟨rfl, hb_26⟩
  have H_27 : Hid (V_25.heap[B0]? = some (.cells S0 24 (0, 0))) := Lib.hid ((hb_26.block B0 (blk_lt H_23.out)).trans H_23.out)
  have HE_28 : Hid (Below B0 w V_25) := Lib.hid (HE_24.out.trans (hb_26.mono (sz_le hB0.out HE_24.out.size)))
  clear HE_24 H_23
  clear hb_26
  go_wp2
  go_ret
  exact ⟨rfl, HE_28.out⟩
theorem set_bld (x : Int) (A : Option Addr) (n c : Nat) {L : List (Nat × Value)} (h : L = [(0, .int .i64 x), (1, .slice A n c)]) {M : Array Value} (eM : M = #[.int .i64 x, .slice A n c]) : Try.prog.built 24 L = some M := by
  subst h eM
  kernel_rfl
set_option maxRecDepth 100000 in
set_option maxHeartbeats 6000000 in
theorem alone_main (w : World) (B : Int) (A : Option Addr) (l : List S39) (cap : Nat) (hc : l.length ≤ cap) (hC : Kd.C k39 w A l.length l) (a : Int) (ha : 0 ≤ a ∧ a ≤ 255) (hf : Ev (fun k => pendulumref19_Small.f k B l) true) (hr : Ev (fun k => pendulumref05_Right.f k B l) true) (sm : l.length ≤ 16 ∧ ∀ j : Nat, j < l.length → (rd_T39 l j).f2 ≤ 3000) (ok : OkS B l) : Calls Try.prog 7 #[.agg #[.int .i64 B, .slice A l.length cap], .int .u8 a] w fun e w' => e = .returned (.bool true) ∧ Below w.heap.size w w' := by
  have hlen := ok.2.2.1
  have hlen2 := ok.2.2.2.1
  obtain ⟨k, hk⟩ : ∃ k, k = a % (l.length : Int) := ⟨_, rfl⟩
  have hk0 : 0 ≤ k := by rw [hk]; exact Int.emod_nonneg _ (by omega)
  have hk1 : k < (l.length : Int) := by rw [hk]; exact Int.emod_lt_of_pos _ (by omega)
  have hkt : a.tmod (l.length : Int) = k := by rw [Int.tmod_eq_emod_of_nonneg (by omega)]; exact hk.symm
  obtain ⟨ad, rfl, _⟩ := row_at hC hk0 hk1
  have okt := (dl_bd ok hk0 hk1).1
  obtain ⟨t, ht⟩ : ∃ t, rd_T39 l k = t := ⟨_, rfl⟩
  rw [ht] at okt
  have ob1 := ok.1
  have ob2 := ok.2.1
  have hw := alone ob1 ob2 okt
  have hwb := want_bd ob1 ob2 okt
  have hxb := ex_nn okt
  have hcb := cd_nn okt
  have hwh := wh_bd okt
  have hnum := okt.nums
  obtain ⟨X, hX⟩ : ∃ x, ex t = x := ⟨_, rfl⟩
  obtain ⟨C, hCd⟩ : ∃ x, cd t = x := ⟨_, rfl⟩
  obtain ⟨wi, hwi⟩ : ∃ x, wh t = x := ⟨_, rfl⟩
  obtain ⟨M, hM⟩ : ∃ x, B * X = x := ⟨_, rfl⟩
  obtain ⟨WC, hWC⟩ : ∃ x, wi + C = x := ⟨_, rfl⟩
  obtain ⟨u, hu⟩ : ∃ x, WC + M = x := ⟨_, rfl⟩
  have hue : want B t = u := by unfold want; rw [hwi, hCd, hX, hM, hWC, hu]
  rw [hue] at hw hwb
  rw [hX, hM] at hwb
  rw [hX] at hxb
  rw [hCd] at hcb
  rw [hwi] at hwh
  obtain ⟨D, hD⟩ : ∃ x, t.f2 = x := ⟨_, rfl⟩
  rw [hD] at hw
  have hX1e : t.f9 = 1 → t.f5 + t.f6 = X := fun h => by rw [← hX]; unfold ex; rw [if_pos h]
  have hX2e : ¬ t.f9 = 1 → t.f4 + t.f6 = X := fun h => by rw [← hX]; unfold ex; rw [if_neg h]
  have hC1e : t.f9 = 3 → C = X := fun h => by rw [← hCd, ← hX]; unfold cd; rw [if_pos h]
  have hC2e : ¬ t.f9 = 3 → C = 0 := fun h => by rw [← hCd]; unfold cd; rw [if_neg h]
  obtain ⟨E, hE⟩ : ∃ x, IntKind.i64.wrap (t.f5 + t.f6) = x := ⟨_, rfl⟩
  have hE1 : t.f9 = 1 → E = X := fun h => by have := okt.seg h; have := hX1e h; rw [← hE, i64_w, w64 (by omega) (by omega)]; exact hX1e h
  have hE2 : ¬ t.f9 = 1 → IntKind.i64.wrap (t.f4 + t.f6) = X := fun h => by have := okt.alt h; have := hX2e h; rw [i64_w, w64 (by omega) (by omega)]; exact hX2e h
  have a1 : IntKind.i64.wrap (wi + C) = WC := by rw [i64_w, ← hWC]; exact w64 (by omega) (by omega)
  have a2 : IntKind.i64.wrap (B * X) = M := by rw [i64_w, hM]; exact w64 (by omega) (by omega)
  have a3 : IntKind.i64.wrap (WC + M) = u := by rw [i64_w, hu]; exact w64 (by omega) (by omega)
  have hm3 : t.f9 = 1 ∨ t.f9 = 2 ∨ t.f9 = 3 := by have := okt; unfold OkT at this; omega
  clear hxb hcb hwh hwb hX1e hX2e hnum hX hCd hM hWC hu hue
  obtain ⟨A0, eA0⟩ : ∃ A, A = TA t := ⟨_, rfl⟩
  have zA0 : Hid (A0.size = 11) := Lib.hid (by rw [eA0]; rfl)
  have oA0 : Hid (A0.all (·.oneCell') = true) := Lib.hid (by rw [eA0]; exact TA_one _)
  replace hk := Lib.hid hk
  replace eA0 := Lib.hid eA0
  replace hw := Lib.hid hw
  replace hwi := Lib.hid hwi
  replace hD := Lib.hid hD
  replace hC1e := Lib.hid hC1e
  replace hC2e := Lib.hid hC2e
  replace hE := Lib.hid hE
  replace hE1 := Lib.hid hE1
  replace hE2 := Lib.hid hE2
  replace a1 := Lib.hid a1
  replace a2 := Lib.hid a2
  replace a3 := Lib.hid a3
  replace ht := Lib.hid ht
  replace ob1 := Lib.hid ob1
  replace ob2 := Lib.hid ob2
  replace okt := Lib.hid okt
  obtain ⟨U, eU⟩ : ∃ A : Array Value, A = #[.string ⟨#[]⟩, .int .i64 0, .int .i64 0, .int .i64 0, .int .i64 0, .int .i64 0, .int .i64 0, .int .i64 0, .int .i64 0, .int .i64 0, .int .i64 0] := ⟨_, rfl⟩
  have zU : Hid (U.size = 11) := Lib.hid (by rw [eU]; rfl)
  have hzU : ∀ V : World, (zeroValue 39).run Try.prog V = .ok (.agg U) V := fun V => by rw [eU]; kernel_rfl
  replace eU := Lib.hid eU
  obtain ⟨S0, eS0⟩ : ∃ S0 : Array Value, S0 = #[.int .i64 B, .slice (some ad) l.length cap] := ⟨_, rfl⟩
  rw [← eS0]
  have zS0 : Hid (S0.size = 2) := Lib.hid (by rw [eS0]; rfl)
  replace eS0 := Lib.hid eS0
  obtain ⟨B0, hB0⟩ : ∃ B, w.heap.size = B := ⟨_, rfl⟩
  rw [hB0]
  obtain ⟨V0, hV0⟩ : ∃ V, w.alloc (.cells S0 24) = V := ⟨_, rfl⟩
  have Hs : Hid (V0.heap[B0]? = some (.cells S0 24 (0, 0))) := Lib.hid (by rw [← hV0]; exact (box_new hB0).1)
  have HE : Hid (Below B0 w V0) := Lib.hid (by rw [← hV0, ← hB0]; exact (Below.refl _ _).alloc (Nat.le_refl _) _)
  go_enter Try.func7, Try.ntmps7
  go_upto_region 1 with (fail)
  replace hB0 := Lib.hid hB0
  replace hV0 := Lib.hid hV0
  have hri := Lib.hid (fun (W : World) (hW : Below B0 w W) => row_a hC hB0.out hW hk0 hk1 A0 (by rw [ht.out]; exact eA0.out))
  obtain ⟨ZS, eZS⟩ : ∃ A : Array Value, A = #[.int .i64 0, .slice none 0 0] := ⟨_, rfl⟩
  have zZS : Hid (ZS.size = 2) := Lib.hid (by rw [eZS]; rfl)
  have oZS : Hid (ZS.all (·.oneCell') = true) := Lib.hid (by rw [eZS]; simp [Value.oneCell'])
  replace eZS := Lib.hid eZS
  have hzS : ∀ V : World, (zeroValue 24).run Try.prog V = .ok (.agg ZS) V := fun V => by rw [eZS.out]; kernel_rfl
  go_wp2_with fail
  refine (awake_walk _).mono ?_; rintro e V_29 ⟨rfl, hb_30⟩
  have H_31 : Hid (V_29.heap[B0]? = some (.cells S0 24 (0, 0))) := Lib.hid ((hb_30.block B0 (blk_lt Hs.out)).trans Hs.out)
  have HE_32 : Hid (Below B0 w V_29) := Lib.hid (HE.out.trans (hb_30.mono (sz_le hB0.out HE.out.size)))
  clear HE Hs
  clear hb_30
  go_wp2_with (first | ((with_reducible refine wpl_gate (T := 24) rfl ?_); refine wpl_ld _ _ rfl (by rfl) B0 rfl H_31.out Try.underlying24 rfl (by kernel_rfl) zS0.out ?_))
  refine (smallq_c hf hC hc hB0.out HE_32.out _ eS0.out).mono ?_; rintro e V_33 ⟨rfl, hb_34⟩
  have H_35 : Hid (V_33.heap[B0]? = some (.cells S0 24 (0, 0))) := Lib.hid ((hb_34.block B0 (blk_lt H_31.out)).trans H_31.out)
  have HE_36 : Hid (Below B0 w V_33) := Lib.hid (HE_32.out.trans (hb_34.mono (sz_le hB0.out HE_32.out.size)))
  clear HE_32 H_31
  clear hb_34
  go_wp2_with (first | ((with_reducible refine wpl_gate (T := 24) rfl ?_); refine wpl_ld _ _ rfl (by rfl) B0 rfl H_35.out Try.underlying24 rfl (by kernel_rfl) zS0.out ?_))
  refine (rightq_c hr hC hc hB0.out HE_36.out _ eS0.out).mono ?_; rintro e V_37 ⟨rfl, hb_38⟩
  have H_39 : Hid (V_37.heap[B0]? = some (.cells S0 24 (0, 0))) := Lib.hid ((hb_38.block B0 (blk_lt H_35.out)).trans H_35.out)
  have HE_40 : Hid (Below B0 w V_37) := Lib.hid (HE_36.out.trans (hb_38.mono (sz_le hB0.out HE_36.out.size)))
  clear HE_36 H_35
  clear hb_38
  have hl0 : ¬ l = [] := by rintro rfl; simp at hlen
  have hwa : wrap64 a = a := w64 (by omega) (by omega)
  go_upto_region 3 with (fail)
  obtain ⟨X0, hX0⟩ : ∃ X, V_37.heap.size = X := ⟨_, rfl⟩
  have lt0 : B0 < X0 := hX0 ▸ blk_lt H_39.out
  have ge0 : B0 ≤ X0 := Nat.le_of_lt lt0
  refine start_ (n := 12) (S := fun w' => w'.heap[B0]? = some (.cells S0 24 (0, 0)) ∧ w'.cell? ⟨B0, 1, none⟩ = some (.slice (some ad) l.length cap) ∧ ∀ (j : Nat) (v : Value), A0.toList[j]? = some v → w'.cell? ((ad.add (k.toNat * 11)).add j) = some v) (ds := [11]) #[false, false, false, false, false, false, false, false, false, false, false, false] (by kernel_rfl) rfl rfl ⟨H_39.out, (blk_cell H_39.out 1).trans (by rw [eS0.out]; rfl), hri.out _ HE_40.out.drew⟩ (fun hHeld => ?_)
  refine pure_ (i := 0) (N := (some 25)) (v := ?_) (a' := ?_) #[true, false, false, false, false, false, false, false, false, false, false, false] rfl rfl (by kernel_rfl) (fun _ _ _ h => h) (Or.inl ⟨by rfl, ?_⟩) ?_ ?_
  rotate_left
  · intro w'
    go_simp
    with_reducible rfl
  rotate_left
  · simp only [Act.put, List.setIfInBounds_toArray, List.set_cons_zero, List.set_cons_succ, i64_w, i32_w]
    rfl
  refine take_ (i := 1) (N := (some 26)) (v := ?_) (a' := ?_) #[true, true, false, false, false, false, false, false, false, false, false, false] rfl rfl (by kernel_rfl) (fun _ _ _ h => h) (Or.inl ⟨by rfl, ?_⟩) hHeld ?_ ?_
  rotate_left
  · rintro w' ⟨s0, s1, s2⟩
    go_simp
    with_reducible rfl
  rotate_left
  · simp only [Act.put, List.setIfInBounds_toArray, List.set_cons_zero, List.set_cons_succ, i64_w, i32_w]
    rfl
  refine pure_ (i := 2) (N := (some 27)) (v := ?_) (a' := ?_) #[true, true, true, false, false, false, false, false, false, false, false, false] rfl rfl (by kernel_rfl) (fun _ _ _ h => h) (Or.inl ⟨by rfl, ?_⟩) ?_ ?_
  rotate_left
  · intro w'
    go_simp
    with_reducible rfl
  rotate_left
  · simp only [Act.put, List.setIfInBounds_toArray, List.set_cons_zero, List.set_cons_succ, i64_w, i32_w]
    rfl
  refine pure_ (i := 3) (N := (some 28)) (v := ?_) (a' := ?_) #[true, true, true, true, false, false, false, false, false, false, false, false] rfl rfl (by kernel_rfl) (fun _ _ _ h => h) (Or.inl ⟨by rfl, ?_⟩) ?_ ?_
  rotate_left
  · intro w'
    go_simp
    with_reducible rfl
  rotate_left
  · simp only [Act.put, List.setIfInBounds_toArray, List.set_cons_zero, List.set_cons_succ, i64_w, i32_w]
    rfl
  refine pure_ (i := 4) (N := (some 29)) (v := ?_) (a' := ?_) #[true, true, true, true, true, false, false, false, false, false, false, false] rfl rfl (by kernel_rfl) (fun _ _ _ h => h) (Or.inl ⟨by rfl, ?_⟩) ?_ ?_
  rotate_left
  · intro w'
    go_simp
    with_reducible rfl
  rotate_left
  · simp only [Act.put, List.setIfInBounds_toArray, List.set_cons_zero, List.set_cons_succ, i64_w, i32_w]
    rfl
  refine take_ (i := 5) (N := (some 30)) (v := ?_) (a' := ?_) #[true, true, true, true, true, true, false, false, false, false, false, false] rfl rfl (by kernel_rfl) (fun _ _ _ h => h) (Or.inl ⟨by rfl, ?_⟩) hHeld ?_ ?_
  rotate_left
  · rintro w' ⟨s0, s1, s2⟩
    go_simp
    with_reducible rfl
  rotate_left
  · simp only [Act.put, List.setIfInBounds_toArray, List.set_cons_zero, List.set_cons_succ, i64_w, i32_w]
    rfl
  refine pure_ (i := 6) (N := (some 31)) (v := ?_) (a' := ?_) #[true, true, true, true, true, true, true, false, false, false, false, false] rfl rfl (by kernel_rfl) (fun _ _ _ h => h) (Or.inl ⟨by rfl, ?_⟩) ?_ ?_
  rotate_left
  · intro w'
    go_simp
    with_reducible rfl
  rotate_left
  · simp only [Act.put, List.setIfInBounds_toArray, List.set_cons_zero, List.set_cons_succ, i64_w, i32_w]
    rfl
  refine pure_ (i := 7) (N := (some 32)) (v := ?_) (a' := ?_) #[true, true, true, true, true, true, true, true, false, false, false, false] rfl rfl (by kernel_rfl) (fun _ _ _ h => h) (Or.inl ⟨by rfl, ?_⟩) ?_ ?_
  rotate_left
  · intro w'
    go_simp
    with_reducible rfl
  rotate_left
  · simp only [Act.put, List.setIfInBounds_toArray, List.set_cons_zero, List.set_cons_succ, i64_w, i32_w]
    rfl
  refine pure_ (i := 8) (N := (some 33)) (v := ?_) (a' := ?_) #[true, true, true, true, true, true, true, true, true, false, false, false] rfl rfl (by kernel_rfl) (fun _ _ _ h => h) (Or.inl ⟨by rfl, ?_⟩) ?_ ?_
  rotate_left
  · intro w'
    go_simp
    with_reducible rfl
  rotate_left
  · simp only [Act.put, List.setIfInBounds_toArray, List.set_cons_zero, List.set_cons_succ, i64_w, i32_w]
    rfl
  refine take_ (i := 9) (N := (some 34)) (v := .agg A0) (a' := ?_) #[true, true, true, true, true, true, true, true, true, true, false, false] rfl rfl (by kernel_rfl) (fun _ _ _ h => h) (Or.inl ⟨by rfl, ?_⟩) hHeld ?_ ?_
  · rintro w' ⟨s0, s1, s2⟩
    exact ld_opr 39 _ rfl (ad.add (k.toNat * 11)) rfl s2 Try.underlying39 rfl (by kernel_rfl) zA0.out
  rotate_left
  · simp only [Act.put, List.setIfInBounds_toArray, List.set_cons_zero, List.set_cons_succ, i64_w, i32_w]
    rfl
  refine one_ (i := 10) (N := (some 5)) #[true, true, true, true, true, true, true, true, true, true, true, false] rfl rfl (by kernel_rfl) (by decide) (fun K hK => ?_)
  refine value_ (v := .pointer (some ⟨X0, 0, none⟩)) (w1 := (V_37.alloc (.cells U 39)).drew) rfl rfl (by have hz := hzU; go_simp) ?_
  have HE3 : Hid (Below B0 w ((V_37.alloc (.cells U 39)).drew)) := Lib.hid ((HE_40.out.alloc (sz_le hB0.out HE_40.out.size) _).drew)
  have HS3 : Hid (((V_37.alloc (.cells U 39)).drew).heap[B0]? = some (.cells S0 24 (0, 0))) := Lib.hid (blk_alloc H_39.out _)
  have HZ3 : Hid (((V_37.alloc (.cells U 39)).drew).heap[X0]? = some (.cells U 39 (0, 0))) := Lib.hid (by rw [← hX0]; exact blk_new V_37 _)
  generalize (V_37.alloc (.cells U 39)).drew = V3 at HE3 HS3 HZ3 ⊢
  refine hK.out _ _ ⟨HS3.out, (blk_cell HS3.out 1).trans (by rw [eS0.out]; rfl), hri.out _ HE3.out⟩ (fun hHeld => ?_)
  clear hK K
  refine norm_ (a' := ?_) ?_ ?_
  rotate_left
  · show Act.put _ (some 5) _ = _
    simp only [Act.put, List.setIfInBounds_toArray, List.set_cons_zero, List.set_cons_succ, i64_w, i32_w]
    rfl
  refine last_ (i := 11) (N := none) #[true, true, true, true, true, true, true, true, true, true, true, true] rfl rfl (by kernel_rfl) (by decide) (fun K hK => ?_)
  obtain ⟨V5, hst, hs1, hs2, hs3⟩ := st_any HZ3.out zU.out zA0.out oA0.out
  refine skip_ (w1 := V5) rfl rfl (by have hsz := zA0.out; go_simp) ?_
  have Ht5 : Hid (V5.heap[X0]? = some (.cells A0 39 (0, 0))) := Lib.hid hs1
  have HS5 : Hid (V5.heap[B0]? = some (.cells S0 24 (0, 0))) := Lib.hid ((hs2 _ (Nat.ne_of_lt lt0)).trans HS3.out)
  have HE5 : Hid (Below B0 w V5) := Lib.hid (hs3 _ _ ge0 HE3.out)
  clear hst hs1 hs2 hs3
  refine hK.out _ _ ?_
  clear hK K
  refine done_ (by kernel_rfl) ?_
  clear hzU H_39 HE_40 HE3 HS3 HZ3
  have c_41 : V5.cell? ⟨B0, 0, none⟩ = some (.int .i64 B) := by rw [blk_cell HS5.out, eS0.out]; rfl
  obtain ⟨X1, hX1⟩ : ∃ X, V5.heap.size = X := ⟨_, rfl⟩
  obtain ⟨V2, hV2⟩ : ∃ V', V5.alloc (.cells A0 39) = V' := ⟨_, rfl⟩
  have ge1 : B0 ≤ X1 := hX1 ▸ (sz_le hB0.out HE5.out.size)
  have lt1s : B0 < X1 := hX1 ▸ blk_lt HS5.out
  have H_42 : Hid (V2.heap[B0]? = some (.cells S0 24 (0, 0))) := Lib.hid (by rw [← hV2]; exact blk_alloc HS5.out _)
  have lt1t : X0 < X1 := hX1 ▸ blk_lt Ht5.out
  have H_43 : Hid (V2.heap[X0]? = some (.cells A0 39 (0, 0))) := Lib.hid (by rw [← hV2]; exact blk_alloc Ht5.out _)
  have Hk2 : Hid (V2.heap[X1]? = some (.cells A0 39 (0, 0))) := Lib.hid (by rw [← hV2]; exact (box_new hX1).1)
  have HE2 : Hid (Below B0 w V2) := Lib.hid (by rw [← hV2]; exact HE5.out.alloc (sz_le hB0.out HE5.out.size) _)
  have hfold : Array.foldl (fun (cs : Array Value) (x : Value × Nat) => cs.setIfInBounds x.snd x.fst) #[.string ⟨#[]⟩, .int .i64 0, .int .i64 0, .int .i64 0, .int .i64 0, .int .i64 0, .int .i64 0, .int .i64 0, .int .i64 0, .int .i64 0, .int .i64 0] A0.zipIdx 0 11 = A0 := by rw [eA0.out]; simp [TA]
  have hA11 := zA0.out
  obtain ⟨SS, eSS⟩ : ∃ A : Array Value, A = #[.int .i64 B, .slice (some ⟨X1, 0, none⟩) 1 1] := ⟨_, rfl⟩
  have zSS : Hid (SS.size = 2) := Lib.hid (by rw [eSS]; rfl)
  have oSS : Hid (SS.all (·.oneCell') = true) := Lib.hid (by rw [eSS]; simp [Value.oneCell'])
  replace eSS := Lib.hid eSS
  obtain ⟨X_44, hX_46⟩ : ∃ X, V2.heap.size = X := ⟨_, rfl⟩
  obtain ⟨V_45, q_47_0, q_47_1, q_47_2, q_47_3⟩ := st_new (w := V2) (T := 24) hX_46 zZS.out zSS.out oSS.out
  have ne_49 : B0 < X_44 := hX_46 ▸ blk_lt H_42.out
  have H_48 : Hid (V_45.heap[B0]? = some (.cells S0 24 (0, 0))) := Lib.hid ((q_47_2 _ ne_49).trans H_42.out)
  have ne_51 : X0 < X_44 := hX_46 ▸ blk_lt H_43.out
  have H_50 : Hid (V_45.heap[X0]? = some (.cells A0 39 (0, 0))) := Lib.hid ((q_47_2 _ ne_51).trans H_43.out)
  have ne_53 : X1 < X_44 := hX_46 ▸ blk_lt Hk2.out
  have H_52 : Hid (V_45.heap[X1]? = some (.cells A0 39 (0, 0))) := Lib.hid ((q_47_2 _ ne_53).trans Hk2.out)
  have ge_54 : B0 ≤ X_44 := hX_46 ▸ (sz_le hB0.out HE2.out.size)
  have HE_55 : Hid (Below B0 w V_45) := Lib.hid (q_47_3 _ _ ge_54 HE2.out)
  have H_56 := Lib.hid q_47_1
  clear q_47_1 q_47_2 q_47_3
  go_upto_region 5 with (first | ((with_reducible refine wpl_gate (T := 39) rfl ?_); refine wpl_ld _ _ rfl (by rfl) X0 rfl Ht5.out Try.underlying39 rfl (by kernel_rfl) zA0.out ?_) | ((with_reducible refine wpl_gateb (T := 24) rfl ?_); refine wpl_bld 24 _ rfl (by rfl) (set_bld B (some ⟨X1, 0, none⟩) 1 1 (by simp [go_sem]) eSS.out) ?_))
  clear q_47_0 hX_46
  clear c_41
  clear HE2 H_42 H_43 Hk2
  clear HS5 Ht5 HE5 hX1 hV2 hfold hA11
  have c_57 : V_45.cell? ⟨X0, 5, none⟩ = some (.int .i64 t.f5) := by rw [blk_cell H_50.out, eA0.out]; rfl
  have c_58 : V_45.cell? ⟨X0, 6, none⟩ = some (.int .i64 t.f6) := by rw [blk_cell H_50.out, eA0.out]; rfl
  have c_59 : V_45.cell? ⟨X0, 9, none⟩ = some (.int .i64 t.f9) := by rw [blk_cell H_50.out, eA0.out]; rfl
  have hE' := hE.out
  go_upto_if 47 with (fail)
  clear hE'
  go_cut [7] (fun s wx => s = .int .i64 X ∧ wx = V_45)
  case first =>
    by_cases hq : t.f9 = 1
    · have hqb : (t.f9 != 1) = false := by simp [hq]
      have hqc : (t.f9 == 1) = true := by simp [hq]
      have hE3 := Lib.hid (hE1.out hq)
      clear hm3
      replace hq := Lib.hid hq
      go_wp2_with fail
      go_meet
      exact ⟨by rw [hE3.out], rfl⟩
    · have hqb : (t.f9 != 1) = true := by simp [hq]
      have hqc : (t.f9 == 1) = false := by simp [hq]
      have hE3 := hE2.out hq
      have ct4 : V_45.cell? ⟨X0, 4, none⟩ = some (.int .i64 t.f4) := by rw [blk_cell H_50.out, eA0.out]; rfl
      clear hm3
      replace hq := Lib.hid hq
      go_wp2_with fail
      go_meet
      exact ⟨rfl, rfl⟩
  case rest =>
  obtain ⟨rfl, hwx⟩ := hcut
  subst hwx
  go_upto_if 55 with (fail)
  go_cut [8] (fun s wx => s = .int .i64 C ∧ wx = wc)
  case first =>
    by_cases hq : t.f9 = 3
    · have hqb : (t.f9 == 3) = true := by simp [hq]
      have hE3 := Lib.hid (hC1e.out hq)
      clear hm3
      replace hq := Lib.hid hq
      go_wp2_with fail
      go_meet
      exact ⟨by rw [hE3.out], rfl⟩
    · have hqb : (t.f9 == 3) = false := by simp [hq]
      have hE3 := Lib.hid (hC2e.out hq)
      clear hm3
      replace hq := Lib.hid hq
      go_wp2_with fail
      go_meet
      exact ⟨by rw [hE3.out], rfl⟩
  case rest =>
  obtain ⟨rfl, hwx⟩ := hcut
  subst hwx
  go_upto_region 11 with (fail)
  clear c_57 c_58 c_59
  have b1 := a1.out
  have b2 := a2.out
  have b3 := a3.out
  refine start_ (n := 10) (S := fun w' => w'.heap[X0]? = some (.cells A0 39 (0, 0)) ∧ w'.cell? ⟨B0, 0, none⟩ = some (.int .i64 B)) (ds := []) #[false, false, false, false, false, false, false, false, false, false] (by kernel_rfl) rfl rfl ⟨H_50.out, (blk_cell H_48.out 0).trans (by rw [eS0.out]; rfl)⟩ (fun hHeld => ?_)
  refine take_ (i := 0) (N := (some 57)) (v := .agg A0) (a' := ?_) #[true, false, false, false, false, false, false, false, false, false] rfl rfl (by kernel_rfl) (fun _ _ _ h => h) (Or.inl ⟨by rfl, ?_⟩) hHeld ?_ ?_
  · rintro w' ⟨s0, s1⟩
    exact ld_op 39 _ rfl X0 rfl s0 Try.underlying39 rfl (by kernel_rfl) zA0.out
  rotate_left
  · simp only [Act.put, List.setIfInBounds_toArray, List.set_cons_zero, List.set_cons_succ, i64_w, i32_w]
    rfl
  refine pure_ (i := 2) (N := (some 59)) (v := ?_) (a' := ?_) #[true, false, true, false, false, false, false, false, false, false] rfl rfl (by kernel_rfl) (fun _ _ _ h => h) (Or.inl ⟨by rfl, ?_⟩) ?_ ?_
  rotate_left
  · intro w'
    go_simp
    with_reducible rfl
  rotate_left
  · simp only [Act.put, List.setIfInBounds_toArray, List.set_cons_zero, List.set_cons_succ, i64_w, i32_w]
    rfl
  refine pure_ (i := 4) (N := (some 61)) (v := ?_) (a' := ?_) #[true, false, true, false, true, false, false, false, false, false] rfl rfl (by kernel_rfl) (fun _ _ _ h => h) (Or.inl ⟨by rfl, ?_⟩) ?_ ?_
  rotate_left
  · intro w'
    go_simp
    with_reducible rfl
  rotate_left
  · simp only [Act.put, List.setIfInBounds_toArray, List.set_cons_zero, List.set_cons_succ, i64_w, i32_w]
    rfl
  refine take_ (i := 5) (N := (some 62)) (v := ?_) (a' := ?_) #[true, false, true, false, true, true, false, false, false, false] rfl rfl (by kernel_rfl) (fun _ _ _ h => h) (Or.inl ⟨by rfl, ?_⟩) hHeld ?_ ?_
  rotate_left
  · rintro w' ⟨s0, s1⟩
    go_simp
    with_reducible rfl
  rotate_left
  · simp only [Act.put, List.setIfInBounds_toArray, List.set_cons_zero, List.set_cons_succ, i64_w, i32_w]
    rfl
  refine pure_ (i := 6) (N := (some 63)) (v := ?_) (a' := ?_) #[true, false, true, false, true, true, true, false, false, false] rfl rfl (by kernel_rfl) (fun _ _ _ h => h) (Or.inl ⟨by rfl, ?_⟩) ?_ ?_
  rotate_left
  · intro w'
    go_simp
    with_reducible rfl
  rotate_left
  · simp only [Act.put, List.setIfInBounds_toArray, List.set_cons_zero, List.set_cons_succ, i64_w, i32_w]
    rfl
  refine pure_ (i := 7) (N := (some 64)) (v := ?_) (a' := ?_) #[true, false, true, false, true, true, true, true, false, false] rfl rfl (by kernel_rfl) (fun _ _ _ h => h) (Or.inl ⟨by rfl, ?_⟩) ?_ ?_
  rotate_left
  · intro w'
    go_simp
    with_reducible rfl
  rotate_left
  · simp only [Act.put, List.setIfInBounds_toArray, List.set_cons_zero, List.set_cons_succ, i64_w, i32_w]
    rfl
  refine one_ (i := 1) (N := (some 58)) #[true, true, true, false, true, true, true, true, false, false] rfl rfl (by kernel_rfl) (by decide) (fun K hK => ?_)
  refine goes_ Try.func22 (by kernel_rfl) rfl #[.agg A0] (by rfl) rfl rfl (by (try simp only [List.map_toArray, List.map_cons, List.map_nil]); first | done | rfl) ?_
  refine (rwhole_c okt.out _ _ eA0.out _ hwi.out.symm).mono ?_
  rintro e V6 ⟨rfl, hb4⟩
  have HS6 : Hid (V6.heap[B0]? = some (.cells S0 24 (0, 0))) := Lib.hid ((hb4.block B0 (blk_lt H_48.out)).trans H_48.out)
  have Ht6 : Hid (V6.heap[X0]? = some (.cells A0 39 (0, 0))) := Lib.hid ((hb4.block X0 (blk_lt H_50.out)).trans H_50.out)
  have Ho6 : Hid (V6.heap[X_44]? = some (.cells SS 24 (0, 0))) := Lib.hid ((hb4.block X_44 (blk_lt H_56.out)).trans H_56.out)
  have Hk6 : Hid (V6.heap[X1]? = some (.cells A0 39 (0, 0))) := Lib.hid ((hb4.block X1 (blk_lt H_52.out)).trans H_52.out)
  have HE6 : Hid (Below B0 w V6) := Lib.hid ((HE_55.out.drew).trans (hb4.mono (sz_le hB0.out HE_55.out.size)))
  refine ⟨_, rfl, ?_⟩
  refine hK.out _ _ ⟨Ht6.out, (blk_cell HS6.out 0).trans (by rw [eS0.out]; rfl)⟩ (fun hHeld => ?_)
  clear hb4 H_48 H_50 H_56 H_52 HE_55
  clear hK K
  refine norm_ (a' := ?_) ?_ ?_
  rotate_left
  · show Act.put _ (some 58) _ = _
    simp only [Act.put, List.setIfInBounds_toArray, List.set_cons_zero, List.set_cons_succ, i64_w, i32_w]
    rfl
  refine pure_ (i := 3) (N := (some 60)) (v := ?_) (a' := ?_) #[true, true, true, true, true, true, true, true, false, false] rfl rfl (by kernel_rfl) (fun _ _ _ h => h) (Or.inl ⟨by rfl, ?_⟩) ?_ ?_
  rotate_left
  · intro w'
    go_simp
    with_reducible rfl
  rotate_left
  · simp only [Act.put, List.setIfInBounds_toArray, List.set_cons_zero, List.set_cons_succ, i64_w, i32_w]
    rfl
  refine pure_ (i := 8) (N := (some 65)) (v := ?_) (a' := ?_) #[true, true, true, true, true, true, true, true, true, false] rfl rfl (by kernel_rfl) (fun _ _ _ h => h) (Or.inl ⟨by rfl, ?_⟩) ?_ ?_
  rotate_left
  · intro w'
    go_simp
    with_reducible rfl
  rotate_left
  · simp only [Act.put, List.setIfInBounds_toArray, List.set_cons_zero, List.set_cons_succ, i64_w, i32_w]
    rfl
  refine pure_ (i := 9) (N := (some 9)) (v := ?_) (a' := ?_) #[true, true, true, true, true, true, true, true, true, true] rfl rfl (by kernel_rfl) (fun _ _ _ h => h) (Or.inl ⟨by rfl, ?_⟩) ?_ ?_
  rotate_left
  · intro w'
    go_simp
    with_reducible rfl
  rotate_left
  · simp only [Act.put, List.setIfInBounds_toArray, List.set_cons_zero, List.set_cons_succ, i64_w, i32_w]
    rfl
  refine done_ (by kernel_rfl) ?_
  clear b1 b2 b3
  have RC := response_c V6 B ⟨X1, 0, none⟩ [t] 1 (by simp) (one_C Hk6.out t eA0.out) (OkS.one ob1.out ob2.out okt.out) 0 (by omega) (by simp) 1049576 (by omega) (by omega) SS eSS.out
  rw [hw.out] at RC
  replace RC := Lib.hid RC
  by_cases hq : u ≤ D
  · skip
    have RD := RC.out
    rw [if_pos hq] at RD
    replace RD := Lib.hid RD
    clear RC
    have hqb : decide (u ≤ D) = true := by simpa using hq
    replace hq := Lib.hid hq
    go_wp2_with (first | ((with_reducible refine wpl_gate (T := 24) rfl ?_); refine wpl_ld _ _ rfl (by rfl) X_44 rfl Ho6.out Try.underlying24 rfl (by kernel_rfl) zSS.out ?_))
    refine (RD.out).mono ?_; rintro e V_60 ⟨rfl, hb_61⟩
    have H_62 : Hid (V_60.heap[B0]? = some (.cells S0 24 (0, 0))) := Lib.hid ((hb_61.block B0 (blk_lt HS6.out)).trans HS6.out)
    have H_63 : Hid (V_60.heap[X0]? = some (.cells A0 39 (0, 0))) := Lib.hid ((hb_61.block X0 (blk_lt Ht6.out)).trans Ht6.out)
    have H_64 : Hid (V_60.heap[X1]? = some (.cells A0 39 (0, 0))) := Lib.hid ((hb_61.block X1 (blk_lt Hk6.out)).trans Hk6.out)
    have H_65 : Hid (V_60.heap[X_44]? = some (.cells SS 24 (0, 0))) := Lib.hid ((hb_61.block X_44 (blk_lt Ho6.out)).trans Ho6.out)
    have HE_66 : Hid (Below B0 w V_60) := Lib.hid (HE6.out.trans (hb_61.mono (sz_le hB0.out HE6.out.size)))
    clear HE6 HS6 Ht6 Hk6 Ho6
    clear hb_61
    go_upto_region 13 with (fail)
    have hrr : (u == u) = true := by simp
    have hBB : (B == B) = true := by simp
    refine start_ (n := 38) (S := fun w' => w'.heap[X0]? = some (.cells A0 39 (0, 0)) ∧ w'.heap[X1]? = some (.cells A0 39 (0, 0)) ∧ w'.cell? ⟨X0, 2, none⟩ = some (.int .i64 D) ∧ w'.cell? ⟨X_44, 1, none⟩ = some (.slice (some ⟨X1, 0, none⟩) 1 1) ∧ w'.cell? ⟨X_44, 0, none⟩ = some (.int .i64 B) ∧ w'.cell? ⟨B0, 0, none⟩ = some (.int .i64 B)) (ds := []) #[false, false, false, false, false, false, false, false, false, false, false, false, false, false, false, false, false, false, false, false, false, false, false, false, false, false, false, false, false, false, false, false, false, false, false, false, false, false] (by kernel_rfl) rfl rfl ⟨H_63.out, H_64.out, (blk_cell H_63.out 2).trans (by rw [eA0.out, ← hD.out]; rfl), (blk_cell H_65.out 1).trans (by rw [eSS.out]; rfl), (blk_cell H_65.out 0).trans (by rw [eSS.out]; rfl), (blk_cell H_62.out 0).trans (by rw [eS0.out]; rfl)⟩ (fun hHeld => ?_)
    refine pure_ (i := 0) (N := (some 71)) (v := ?_) (a' := ?_) #[true, false, false, false, false, false, false, false, false, false, false, false, false, false, false, false, false, false, false, false, false, false, false, false, false, false, false, false, false, false, false, false, false, false, false, false, false, false] rfl rfl (by kernel_rfl) (fun _ _ _ h => h) (Or.inl ⟨by rfl, ?_⟩) ?_ ?_
    rotate_left
    · intro w'
      go_simp
      with_reducible rfl
    rotate_left
    · simp only [Act.put, List.setIfInBounds_toArray, List.set_cons_zero, List.set_cons_succ, i64_w, i32_w]
      rfl
    refine pure_ (i := 1) (N := (some 72)) (v := ?_) (a' := ?_) #[true, true, false, false, false, false, false, false, false, false, false, false, false, false, false, false, false, false, false, false, false, false, false, false, false, false, false, false, false, false, false, false, false, false, false, false, false, false] rfl rfl (by kernel_rfl) (fun _ _ _ h => h) (Or.inl ⟨by rfl, ?_⟩) ?_ ?_
    rotate_left
    · intro w'
      go_simp
      with_reducible rfl
    rotate_left
    · simp only [Act.put, List.setIfInBounds_toArray, List.set_cons_zero, List.set_cons_succ, i64_w, i32_w]
      rfl
    refine pure_ (i := 2) (N := (some 73)) (v := ?_) (a' := ?_) #[true, true, true, false, false, false, false, false, false, false, false, false, false, false, false, false, false, false, false, false, false, false, false, false, false, false, false, false, false, false, false, false, false, false, false, false, false, false] rfl rfl (by kernel_rfl) (fun _ _ _ h => h) (Or.inl ⟨by rfl, ?_⟩) ?_ ?_
    rotate_left
    · intro w'
      go_simp
      with_reducible rfl
    rotate_left
    · simp only [Act.put, List.setIfInBounds_toArray, List.set_cons_zero, List.set_cons_succ, i64_w, i32_w]
      rfl
    refine take_ (i := 3) (N := (some 74)) (v := ?_) (a' := ?_) #[true, true, true, true, false, false, false, false, false, false, false, false, false, false, false, false, false, false, false, false, false, false, false, false, false, false, false, false, false, false, false, false, false, false, false, false, false, false] rfl rfl (by kernel_rfl) (fun _ _ _ h => h) (Or.inl ⟨by rfl, ?_⟩) hHeld ?_ ?_
    rotate_left
    · rintro w' ⟨s0, s1, s2, s3, s4, s5⟩
      go_simp
      with_reducible rfl
    rotate_left
    · simp only [Act.put, List.setIfInBounds_toArray, List.set_cons_zero, List.set_cons_succ, i64_w, i32_w]
      rfl
    refine pure_ (i := 4) (N := (some 75)) (v := ?_) (a' := ?_) #[true, true, true, true, true, false, false, false, false, false, false, false, false, false, false, false, false, false, false, false, false, false, false, false, false, false, false, false, false, false, false, false, false, false, false, false, false, false] rfl rfl (by kernel_rfl) (fun _ _ _ h => h) (Or.inl ⟨by rfl, ?_⟩) ?_ ?_
    rotate_left
    · intro w'
      go_simp
      with_reducible rfl
    rotate_left
    · simp only [Act.put, List.setIfInBounds_toArray, List.set_cons_zero, List.set_cons_succ, i64_w, i32_w]
      rfl
    refine pure_ (i := 5) (N := (some 76)) (v := ?_) (a' := ?_) #[true, true, true, true, true, true, false, false, false, false, false, false, false, false, false, false, false, false, false, false, false, false, false, false, false, false, false, false, false, false, false, false, false, false, false, false, false, false] rfl rfl (by kernel_rfl) (fun _ _ _ h => h) (Or.inl ⟨by rfl, ?_⟩) ?_ ?_
    rotate_left
    · intro w'
      go_simp
      with_reducible rfl
    rotate_left
    · simp only [Act.put, List.setIfInBounds_toArray, List.set_cons_zero, List.set_cons_succ, i64_w, i32_w]
      rfl
    refine pure_ (i := 6) (N := (some 77)) (v := ?_) (a' := ?_) #[true, true, true, true, true, true, true, false, false, false, false, false, false, false, false, false, false, false, false, false, false, false, false, false, false, false, false, false, false, false, false, false, false, false, false, false, false, false] rfl rfl (by kernel_rfl) (fun _ _ _ h => h) (Or.inl ⟨by rfl, ?_⟩) ?_ ?_
    rotate_left
    · intro w'
      go_simp
      with_reducible rfl
    rotate_left
    · simp only [Act.put, List.setIfInBounds_toArray, List.set_cons_zero, List.set_cons_succ, i64_w, i32_w]
      rfl
    refine pure_ (i := 7) (N := (some 78)) (v := ?_) (a' := ?_) #[true, true, true, true, true, true, true, true, false, false, false, false, false, false, false, false, false, false, false, false, false, false, false, false, false, false, false, false, false, false, false, false, false, false, false, false, false, false] rfl rfl (by kernel_rfl) (fun _ _ _ h => h) (Or.inl ⟨by rfl, ?_⟩) ?_ ?_
    rotate_left
    · intro w'
      go_simp
      with_reducible rfl
    rotate_left
    · simp only [Act.put, List.setIfInBounds_toArray, List.set_cons_zero, List.set_cons_succ, i64_w, i32_w]
      rfl
    refine pure_ (i := 8) (N := (some 79)) (v := ?_) (a' := ?_) #[true, true, true, true, true, true, true, true, true, false, false, false, false, false, false, false, false, false, false, false, false, false, false, false, false, false, false, false, false, false, false, false, false, false, false, false, false, false] rfl rfl (by kernel_rfl) (fun _ _ _ h => h) (Or.inl ⟨by rfl, ?_⟩) ?_ ?_
    rotate_left
    · intro w'
      go_simp
      with_reducible rfl
    rotate_left
    · simp only [Act.put, List.setIfInBounds_toArray, List.set_cons_zero, List.set_cons_succ, i64_w, i32_w]
      rfl
    refine pure_ (i := 9) (N := (some 80)) (v := ?_) (a' := ?_) #[true, true, true, true, true, true, true, true, true, true, false, false, false, false, false, false, false, false, false, false, false, false, false, false, false, false, false, false, false, false, false, false, false, false, false, false, false, false] rfl rfl (by kernel_rfl) (fun _ _ _ h => h) (Or.inl ⟨by rfl, ?_⟩) ?_ ?_
    rotate_left
    · intro w'
      go_simp
      with_reducible rfl
    rotate_left
    · simp only [Act.put, List.setIfInBounds_toArray, List.set_cons_zero, List.set_cons_succ, i64_w, i32_w]
      rfl
    refine pure_ (i := 10) (N := (some 81)) (v := undef) (a' := ?_) #[true, true, true, true, true, true, true, true, true, true, true, false, false, false, false, false, false, false, false, false, false, false, false, false, false, false, false, false, false, false, false, false, false, false, false, false, false, false] rfl rfl (by kernel_rfl) (fun _ _ _ h => h) (Or.inr ⟨by rfl, rfl⟩) ?_ ?_
    rotate_left
    · simp only [Act.put, List.setIfInBounds_toArray, List.set_cons_zero, List.set_cons_succ, i64_w, i32_w]
      rfl
    refine pure_ (i := 11) (N := (some 82)) (v := undef) (a' := ?_) #[true, true, true, true, true, true, true, true, true, true, true, true, false, false, false, false, false, false, false, false, false, false, false, false, false, false, false, false, false, false, false, false, false, false, false, false, false, false] rfl rfl (by kernel_rfl) (fun _ _ _ h => h) (Or.inr ⟨by rfl, rfl⟩) ?_ ?_
    rotate_left
    · simp only [Act.put, List.setIfInBounds_toArray, List.set_cons_zero, List.set_cons_succ, i64_w, i32_w]
      rfl
    refine pure_ (i := 12) (N := (some 83)) (v := ?_) (a' := ?_) #[true, true, true, true, true, true, true, true, true, true, true, true, true, false, false, false, false, false, false, false, false, false, false, false, false, false, false, false, false, false, false, false, false, false, false, false, false, false] rfl rfl (by kernel_rfl) (fun _ _ _ h => h) (Or.inl ⟨by rfl, ?_⟩) ?_ ?_
    rotate_left
    · intro w'
      go_simp
      with_reducible rfl
    rotate_left
    · simp only [Act.put, List.setIfInBounds_toArray, List.set_cons_zero, List.set_cons_succ, i64_w, i32_w]
      rfl
    refine pure_ (i := 13) (N := (some 84)) (v := ?_) (a' := ?_) #[true, true, true, true, true, true, true, true, true, true, true, true, true, true, false, false, false, false, false, false, false, false, false, false, false, false, false, false, false, false, false, false, false, false, false, false, false, false] rfl rfl (by kernel_rfl) (fun _ _ _ h => h) (Or.inl ⟨by rfl, ?_⟩) ?_ ?_
    rotate_left
    · intro w'
      go_simp
      with_reducible rfl
    rotate_left
    · simp only [Act.put, List.setIfInBounds_toArray, List.set_cons_zero, List.set_cons_succ, i64_w, i32_w]
      rfl
    refine pure_ (i := 14) (N := (some 85)) (v := ?_) (a' := ?_) #[true, true, true, true, true, true, true, true, true, true, true, true, true, true, true, false, false, false, false, false, false, false, false, false, false, false, false, false, false, false, false, false, false, false, false, false, false, false] rfl rfl (by kernel_rfl) (fun _ _ _ h => h) (Or.inl ⟨by rfl, ?_⟩) ?_ ?_
    rotate_left
    · intro w'
      go_simp
      with_reducible rfl
    rotate_left
    · simp only [Act.put, List.setIfInBounds_toArray, List.set_cons_zero, List.set_cons_succ, i64_w, i32_w]
      rfl
    refine pure_ (i := 15) (N := (some 86)) (v := ?_) (a' := ?_) #[true, true, true, true, true, true, true, true, true, true, true, true, true, true, true, true, false, false, false, false, false, false, false, false, false, false, false, false, false, false, false, false, false, false, false, false, false, false] rfl rfl (by kernel_rfl) (fun _ _ _ h => h) (Or.inl ⟨by rfl, ?_⟩) ?_ ?_
    rotate_left
    · intro w'
      go_simp
      with_reducible rfl
    rotate_left
    · simp only [Act.put, List.setIfInBounds_toArray, List.set_cons_zero, List.set_cons_succ, i64_w, i32_w]
      rfl
    refine pure_ (i := 16) (N := (some 87)) (v := ?_) (a' := ?_) #[true, true, true, true, true, true, true, true, true, true, true, true, true, true, true, true, true, false, false, false, false, false, false, false, false, false, false, false, false, false, false, false, false, false, false, false, false, false] rfl rfl (by kernel_rfl) (fun _ _ _ h => h) (Or.inl ⟨by rfl, ?_⟩) ?_ ?_
    rotate_left
    · intro w'
      go_simp
      with_reducible rfl
    rotate_left
    · simp only [Act.put, List.setIfInBounds_toArray, List.set_cons_zero, List.set_cons_succ, i64_w, i32_w]
      rfl
    refine pure_ (i := 17) (N := (some 88)) (v := ?_) (a' := ?_) #[true, true, true, true, true, true, true, true, true, true, true, true, true, true, true, true, true, true, false, false, false, false, false, false, false, false, false, false, false, false, false, false, false, false, false, false, false, false] rfl rfl (by kernel_rfl) (fun _ _ _ h => h) (Or.inl ⟨by rfl, ?_⟩) ?_ ?_
    rotate_left
    · intro w'
      go_simp
      with_reducible rfl
    rotate_left
    · simp only [Act.put, List.setIfInBounds_toArray, List.set_cons_zero, List.set_cons_succ, i64_w, i32_w]
      rfl
    refine pure_ (i := 18) (N := (some 89)) (v := ?_) (a' := ?_) #[true, true, true, true, true, true, true, true, true, true, true, true, true, true, true, true, true, true, true, false, false, false, false, false, false, false, false, false, false, false, false, false, false, false, false, false, false, false] rfl rfl (by kernel_rfl) (fun _ _ _ h => h) (Or.inl ⟨by rfl, ?_⟩) ?_ ?_
    rotate_left
    · intro w'
      go_simp
      with_reducible rfl
    rotate_left
    · simp only [Act.put, List.setIfInBounds_toArray, List.set_cons_zero, List.set_cons_succ, i64_w, i32_w]
      rfl
    refine pure_ (i := 19) (N := (some 90)) (v := ?_) (a' := ?_) #[true, true, true, true, true, true, true, true, true, true, true, true, true, true, true, true, true, true, true, true, false, false, false, false, false, false, false, false, false, false, false, false, false, false, false, false, false, false] rfl rfl (by kernel_rfl) (fun _ _ _ h => h) (Or.inl ⟨by rfl, ?_⟩) ?_ ?_
    rotate_left
    · intro w'
      go_simp
      with_reducible rfl
    rotate_left
    · simp only [Act.put, List.setIfInBounds_toArray, List.set_cons_zero, List.set_cons_succ, i64_w, i32_w]
      rfl
    refine pure_ (i := 20) (N := (some 91)) (v := ?_) (a' := ?_) #[true, true, true, true, true, true, true, true, true, true, true, true, true, true, true, true, true, true, true, true, true, false, false, false, false, false, false, false, false, false, false, false, false, false, false, false, false, false] rfl rfl (by kernel_rfl) (fun _ _ _ h => h) (Or.inl ⟨by rfl, ?_⟩) ?_ ?_
    rotate_left
    · intro w'
      go_simp
      with_reducible rfl
    rotate_left
    · simp only [Act.put, List.setIfInBounds_toArray, List.set_cons_zero, List.set_cons_succ, i64_w, i32_w]
      rfl
    refine pure_ (i := 21) (N := (some 92)) (v := ?_) (a' := ?_) #[true, true, true, true, true, true, true, true, true, true, true, true, true, true, true, true, true, true, true, true, true, true, false, false, false, false, false, false, false, false, false, false, false, false, false, false, false, false] rfl rfl (by kernel_rfl) (fun _ _ _ h => h) (Or.inl ⟨by rfl, ?_⟩) ?_ ?_
    rotate_left
    · intro w'
      go_simp
      with_reducible rfl
    rotate_left
    · simp only [Act.put, List.setIfInBounds_toArray, List.set_cons_zero, List.set_cons_succ, i64_w, i32_w]
      rfl
    refine pure_ (i := 22) (N := (some 93)) (v := ?_) (a' := ?_) #[true, true, true, true, true, true, true, true, true, true, true, true, true, true, true, true, true, true, true, true, true, true, true, false, false, false, false, false, false, false, false, false, false, false, false, false, false, false] rfl rfl (by kernel_rfl) (fun _ _ _ h => h) (Or.inl ⟨by rfl, ?_⟩) ?_ ?_
    rotate_left
    · intro w'
      go_simp
      with_reducible rfl
    rotate_left
    · simp only [Act.put, List.setIfInBounds_toArray, List.set_cons_zero, List.set_cons_succ, i64_w, i32_w]
      rfl
    refine pure_ (i := 23) (N := (some 94)) (v := ?_) (a' := ?_) #[true, true, true, true, true, true, true, true, true, true, true, true, true, true, true, true, true, true, true, true, true, true, true, true, false, false, false, false, false, false, false, false, false, false, false, false, false, false] rfl rfl (by kernel_rfl) (fun _ _ _ h => h) (Or.inl ⟨by rfl, ?_⟩) ?_ ?_
    rotate_left
    · intro w'
      go_simp
      with_reducible rfl
    rotate_left
    · simp only [Act.put, List.setIfInBounds_toArray, List.set_cons_zero, List.set_cons_succ, i64_w, i32_w]
      rfl
    refine take_ (i := 24) (N := (some 95)) (v := ?_) (a' := ?_) #[true, true, true, true, true, true, true, true, true, true, true, true, true, true, true, true, true, true, true, true, true, true, true, true, true, false, false, false, false, false, false, false, false, false, false, false, false, false] rfl rfl (by kernel_rfl) (fun _ _ _ h => h) (Or.inl ⟨by rfl, ?_⟩) hHeld ?_ ?_
    rotate_left
    · rintro w' ⟨s0, s1, s2, s3, s4, s5⟩
      go_simp
      with_reducible rfl
    rotate_left
    · simp only [Act.put, List.setIfInBounds_toArray, List.set_cons_zero, List.set_cons_succ, i64_w, i32_w]
      rfl
    refine pure_ (i := 25) (N := (some 96)) (v := ?_) (a' := ?_) #[true, true, true, true, true, true, true, true, true, true, true, true, true, true, true, true, true, true, true, true, true, true, true, true, true, true, false, false, false, false, false, false, false, false, false, false, false, false] rfl rfl (by kernel_rfl) (fun _ _ _ h => h) (Or.inl ⟨by rfl, ?_⟩) ?_ ?_
    rotate_left
    · intro w'
      go_simp
      with_reducible rfl
    rotate_left
    · simp only [Act.put, List.setIfInBounds_toArray, List.set_cons_zero, List.set_cons_succ, i64_w, i32_w]
      rfl
    refine take_ (i := 26) (N := (some 97)) (v := .agg A0) (a' := ?_) #[true, true, true, true, true, true, true, true, true, true, true, true, true, true, true, true, true, true, true, true, true, true, true, true, true, true, true, false, false, false, false, false, false, false, false, false, false, false] rfl rfl (by kernel_rfl) (fun _ _ _ h => h) (Or.inl ⟨by rfl, ?_⟩) hHeld ?_ ?_
    · rintro w' ⟨s0, s1, s2, s3, s4, s5⟩
      exact ld_op 39 _ rfl X1 rfl s1 Try.underlying39 rfl (by kernel_rfl) zA0.out
    rotate_left
    · simp only [Act.put, List.setIfInBounds_toArray, List.set_cons_zero, List.set_cons_succ, i64_w, i32_w]
      rfl
    refine take_ (i := 27) (N := (some 98)) (v := .agg A0) (a' := ?_) #[true, true, true, true, true, true, true, true, true, true, true, true, true, true, true, true, true, true, true, true, true, true, true, true, true, true, true, true, false, false, false, false, false, false, false, false, false, false] rfl rfl (by kernel_rfl) (fun _ _ _ h => h) (Or.inl ⟨by rfl, ?_⟩) hHeld ?_ ?_
    · rintro w' ⟨s0, s1, s2, s3, s4, s5⟩
      exact ld_op 39 _ rfl X0 rfl s0 Try.underlying39 rfl (by kernel_rfl) zA0.out
    rotate_left
    · simp only [Act.put, List.setIfInBounds_toArray, List.set_cons_zero, List.set_cons_succ, i64_w, i32_w]
      rfl
    refine pure_ (i := 28) (N := (some 99)) (v := .bool true) (a' := ?_) #[true, true, true, true, true, true, true, true, true, true, true, true, true, true, true, true, true, true, true, true, true, true, true, true, true, true, true, true, true, false, false, false, false, false, false, false, false, false] rfl rfl (by kernel_rfl) (fun _ _ _ h => h) (Or.inl ⟨by rfl, ?_⟩) ?_ ?_
    · intro w'
      exact eq_op _ _ rfl rfl rfl eA0.out
    rotate_left
    · simp only [Act.put, List.setIfInBounds_toArray, List.set_cons_zero, List.set_cons_succ, i64_w, i32_w]
      rfl
    refine pure_ (i := 29) (N := (some 100)) (v := ?_) (a' := ?_) #[true, true, true, true, true, true, true, true, true, true, true, true, true, true, true, true, true, true, true, true, true, true, true, true, true, true, true, true, true, true, false, false, false, false, false, false, false, false] rfl rfl (by kernel_rfl) (fun _ _ _ h => h) (Or.inl ⟨by rfl, ?_⟩) ?_ ?_
    rotate_left
    · intro w'
      go_simp
      with_reducible rfl
    rotate_left
    · simp only [Act.put, List.setIfInBounds_toArray, List.set_cons_zero, List.set_cons_succ, i64_w, i32_w]
      rfl
    refine pure_ (i := 30) (N := (some 101)) (v := ?_) (a' := ?_) #[true, true, true, true, true, true, true, true, true, true, true, true, true, true, true, true, true, true, true, true, true, true, true, true, true, true, true, true, true, true, true, false, false, false, false, false, false, false] rfl rfl (by kernel_rfl) (fun _ _ _ h => h) (Or.inl ⟨by rfl, ?_⟩) ?_ ?_
    rotate_left
    · intro w'
      go_simp
      with_reducible rfl
    rotate_left
    · simp only [Act.put, List.setIfInBounds_toArray, List.set_cons_zero, List.set_cons_succ, i64_w, i32_w]
      rfl
    refine pure_ (i := 31) (N := (some 102)) (v := ?_) (a' := ?_) #[true, true, true, true, true, true, true, true, true, true, true, true, true, true, true, true, true, true, true, true, true, true, true, true, true, true, true, true, true, true, true, true, false, false, false, false, false, false] rfl rfl (by kernel_rfl) (fun _ _ _ h => h) (Or.inl ⟨by rfl, ?_⟩) ?_ ?_
    rotate_left
    · intro w'
      go_simp
      with_reducible rfl
    rotate_left
    · simp only [Act.put, List.setIfInBounds_toArray, List.set_cons_zero, List.set_cons_succ, i64_w, i32_w]
      rfl
    refine take_ (i := 32) (N := (some 103)) (v := ?_) (a' := ?_) #[true, true, true, true, true, true, true, true, true, true, true, true, true, true, true, true, true, true, true, true, true, true, true, true, true, true, true, true, true, true, true, true, true, false, false, false, false, false] rfl rfl (by kernel_rfl) (fun _ _ _ h => h) (Or.inl ⟨by rfl, ?_⟩) hHeld ?_ ?_
    rotate_left
    · rintro w' ⟨s0, s1, s2, s3, s4, s5⟩
      go_simp
      with_reducible rfl
    rotate_left
    · simp only [Act.put, List.setIfInBounds_toArray, List.set_cons_zero, List.set_cons_succ, i64_w, i32_w]
      rfl
    refine pure_ (i := 33) (N := (some 104)) (v := ?_) (a' := ?_) #[true, true, true, true, true, true, true, true, true, true, true, true, true, true, true, true, true, true, true, true, true, true, true, true, true, true, true, true, true, true, true, true, true, true, false, false, false, false] rfl rfl (by kernel_rfl) (fun _ _ _ h => h) (Or.inl ⟨by rfl, ?_⟩) ?_ ?_
    rotate_left
    · intro w'
      go_simp
      with_reducible rfl
    rotate_left
    · simp only [Act.put, List.setIfInBounds_toArray, List.set_cons_zero, List.set_cons_succ, i64_w, i32_w]
      rfl
    refine take_ (i := 34) (N := (some 105)) (v := ?_) (a' := ?_) #[true, true, true, true, true, true, true, true, true, true, true, true, true, true, true, true, true, true, true, true, true, true, true, true, true, true, true, true, true, true, true, true, true, true, true, false, false, false] rfl rfl (by kernel_rfl) (fun _ _ _ h => h) (Or.inl ⟨by rfl, ?_⟩) hHeld ?_ ?_
    rotate_left
    · rintro w' ⟨s0, s1, s2, s3, s4, s5⟩
      go_simp
      with_reducible rfl
    rotate_left
    · simp only [Act.put, List.setIfInBounds_toArray, List.set_cons_zero, List.set_cons_succ, i64_w, i32_w]
      rfl
    refine pure_ (i := 35) (N := (some 106)) (v := ?_) (a' := ?_) #[true, true, true, true, true, true, true, true, true, true, true, true, true, true, true, true, true, true, true, true, true, true, true, true, true, true, true, true, true, true, true, true, true, true, true, true, false, false] rfl rfl (by kernel_rfl) (fun _ _ _ h => h) (Or.inl ⟨by rfl, ?_⟩) ?_ ?_
    rotate_left
    · intro w'
      go_simp
      with_reducible rfl
    rotate_left
    · simp only [Act.put, List.setIfInBounds_toArray, List.set_cons_zero, List.set_cons_succ, i64_w, i32_w]
      rfl
    refine pure_ (i := 36) (N := (some 107)) (v := ?_) (a' := ?_) #[true, true, true, true, true, true, true, true, true, true, true, true, true, true, true, true, true, true, true, true, true, true, true, true, true, true, true, true, true, true, true, true, true, true, true, true, true, false] rfl rfl (by kernel_rfl) (fun _ _ _ h => h) (Or.inl ⟨by rfl, ?_⟩) ?_ ?_
    rotate_left
    · intro w'
      go_simp
      with_reducible rfl
    rotate_left
    · simp only [Act.put, List.setIfInBounds_toArray, List.set_cons_zero, List.set_cons_succ, i64_w, i32_w]
      rfl
    refine pure_ (i := 37) (N := (some 4)) (v := ?_) (a' := ?_) #[true, true, true, true, true, true, true, true, true, true, true, true, true, true, true, true, true, true, true, true, true, true, true, true, true, true, true, true, true, true, true, true, true, true, true, true, true, true] rfl rfl (by kernel_rfl) (fun _ _ _ h => h) (Or.inl ⟨by rfl, ?_⟩) ?_ ?_
    rotate_left
    · intro w'
      go_simp
      with_reducible rfl
    rotate_left
    · simp only [Act.put, List.setIfInBounds_toArray, List.set_cons_zero, List.set_cons_succ, i64_w, i32_w]
      rfl
    refine done_ (by kernel_rfl) ?_
    go_wp2
    go_ret
    exact ⟨rfl, by first | exact HE_66.out | exact HE_66.out.drew | exact pw_below_drewN HE_66.out _⟩
  · skip
    have RD := RC.out
    rw [if_neg hq] at RD
    replace RD := Lib.hid RD
    clear RC
    have hqb : decide (u ≤ D) = false := by simpa using hq
    replace hq := Lib.hid hq
    go_wp2_with (first | ((with_reducible refine wpl_gate (T := 24) rfl ?_); refine wpl_ld _ _ rfl (by rfl) X_44 rfl Ho6.out Try.underlying24 rfl (by kernel_rfl) zSS.out ?_))
    refine (RD.out).mono ?_; rintro e V_67 ⟨rfl, hb_68⟩
    have H_69 : Hid (V_67.heap[B0]? = some (.cells S0 24 (0, 0))) := Lib.hid ((hb_68.block B0 (blk_lt HS6.out)).trans HS6.out)
    have H_70 : Hid (V_67.heap[X0]? = some (.cells A0 39 (0, 0))) := Lib.hid ((hb_68.block X0 (blk_lt Ht6.out)).trans Ht6.out)
    have H_71 : Hid (V_67.heap[X1]? = some (.cells A0 39 (0, 0))) := Lib.hid ((hb_68.block X1 (blk_lt Hk6.out)).trans Hk6.out)
    have H_72 : Hid (V_67.heap[X_44]? = some (.cells SS 24 (0, 0))) := Lib.hid ((hb_68.block X_44 (blk_lt Ho6.out)).trans Ho6.out)
    have HE_73 : Hid (Below B0 w V_67) := Lib.hid (HE6.out.trans (hb_68.mono (sz_le hB0.out HE6.out.size)))
    clear HE6 HS6 Ht6 Hk6 Ho6
    clear hb_68
    go_upto_region 13 with (fail)
    have hrr : (u == u) = true := by simp
    have hBB : (B == B) = true := by simp
    refine start_ (n := 38) (S := fun w' => w'.heap[X0]? = some (.cells A0 39 (0, 0)) ∧ w'.heap[X1]? = some (.cells A0 39 (0, 0)) ∧ w'.cell? ⟨X0, 2, none⟩ = some (.int .i64 D) ∧ w'.cell? ⟨X_44, 1, none⟩ = some (.slice (some ⟨X1, 0, none⟩) 1 1) ∧ w'.cell? ⟨X_44, 0, none⟩ = some (.int .i64 B) ∧ w'.cell? ⟨B0, 0, none⟩ = some (.int .i64 B)) (ds := []) #[false, false, false, false, false, false, false, false, false, false, false, false, false, false, false, false, false, false, false, false, false, false, false, false, false, false, false, false, false, false, false, false, false, false, false, false, false, false] (by kernel_rfl) rfl rfl ⟨H_70.out, H_71.out, (blk_cell H_70.out 2).trans (by rw [eA0.out, ← hD.out]; rfl), (blk_cell H_72.out 1).trans (by rw [eSS.out]; rfl), (blk_cell H_72.out 0).trans (by rw [eSS.out]; rfl), (blk_cell H_69.out 0).trans (by rw [eS0.out]; rfl)⟩ (fun hHeld => ?_)
    refine pure_ (i := 0) (N := (some 71)) (v := ?_) (a' := ?_) #[true, false, false, false, false, false, false, false, false, false, false, false, false, false, false, false, false, false, false, false, false, false, false, false, false, false, false, false, false, false, false, false, false, false, false, false, false, false] rfl rfl (by kernel_rfl) (fun _ _ _ h => h) (Or.inl ⟨by rfl, ?_⟩) ?_ ?_
    rotate_left
    · intro w'
      go_simp
      with_reducible rfl
    rotate_left
    · simp only [Act.put, List.setIfInBounds_toArray, List.set_cons_zero, List.set_cons_succ, i64_w, i32_w]
      rfl
    refine pure_ (i := 1) (N := (some 72)) (v := ?_) (a' := ?_) #[true, true, false, false, false, false, false, false, false, false, false, false, false, false, false, false, false, false, false, false, false, false, false, false, false, false, false, false, false, false, false, false, false, false, false, false, false, false] rfl rfl (by kernel_rfl) (fun _ _ _ h => h) (Or.inl ⟨by rfl, ?_⟩) ?_ ?_
    rotate_left
    · intro w'
      go_simp
      with_reducible rfl
    rotate_left
    · simp only [Act.put, List.setIfInBounds_toArray, List.set_cons_zero, List.set_cons_succ, i64_w, i32_w]
      rfl
    refine pure_ (i := 2) (N := (some 73)) (v := ?_) (a' := ?_) #[true, true, true, false, false, false, false, false, false, false, false, false, false, false, false, false, false, false, false, false, false, false, false, false, false, false, false, false, false, false, false, false, false, false, false, false, false, false] rfl rfl (by kernel_rfl) (fun _ _ _ h => h) (Or.inl ⟨by rfl, ?_⟩) ?_ ?_
    rotate_left
    · intro w'
      go_simp
      with_reducible rfl
    rotate_left
    · simp only [Act.put, List.setIfInBounds_toArray, List.set_cons_zero, List.set_cons_succ, i64_w, i32_w]
      rfl
    refine take_ (i := 3) (N := (some 74)) (v := ?_) (a' := ?_) #[true, true, true, true, false, false, false, false, false, false, false, false, false, false, false, false, false, false, false, false, false, false, false, false, false, false, false, false, false, false, false, false, false, false, false, false, false, false] rfl rfl (by kernel_rfl) (fun _ _ _ h => h) (Or.inl ⟨by rfl, ?_⟩) hHeld ?_ ?_
    rotate_left
    · rintro w' ⟨s0, s1, s2, s3, s4, s5⟩
      go_simp
      with_reducible rfl
    rotate_left
    · simp only [Act.put, List.setIfInBounds_toArray, List.set_cons_zero, List.set_cons_succ, i64_w, i32_w]
      rfl
    refine pure_ (i := 4) (N := (some 75)) (v := ?_) (a' := ?_) #[true, true, true, true, true, false, false, false, false, false, false, false, false, false, false, false, false, false, false, false, false, false, false, false, false, false, false, false, false, false, false, false, false, false, false, false, false, false] rfl rfl (by kernel_rfl) (fun _ _ _ h => h) (Or.inl ⟨by rfl, ?_⟩) ?_ ?_
    rotate_left
    · intro w'
      go_simp
      with_reducible rfl
    rotate_left
    · simp only [Act.put, List.setIfInBounds_toArray, List.set_cons_zero, List.set_cons_succ, i64_w, i32_w]
      rfl
    refine pure_ (i := 5) (N := (some 76)) (v := ?_) (a' := ?_) #[true, true, true, true, true, true, false, false, false, false, false, false, false, false, false, false, false, false, false, false, false, false, false, false, false, false, false, false, false, false, false, false, false, false, false, false, false, false] rfl rfl (by kernel_rfl) (fun _ _ _ h => h) (Or.inl ⟨by rfl, ?_⟩) ?_ ?_
    rotate_left
    · intro w'
      go_simp
      with_reducible rfl
    rotate_left
    · simp only [Act.put, List.setIfInBounds_toArray, List.set_cons_zero, List.set_cons_succ, i64_w, i32_w]
      rfl
    refine pure_ (i := 6) (N := (some 77)) (v := ?_) (a' := ?_) #[true, true, true, true, true, true, true, false, false, false, false, false, false, false, false, false, false, false, false, false, false, false, false, false, false, false, false, false, false, false, false, false, false, false, false, false, false, false] rfl rfl (by kernel_rfl) (fun _ _ _ h => h) (Or.inl ⟨by rfl, ?_⟩) ?_ ?_
    rotate_left
    · intro w'
      go_simp
      with_reducible rfl
    rotate_left
    · simp only [Act.put, List.setIfInBounds_toArray, List.set_cons_zero, List.set_cons_succ, i64_w, i32_w]
      rfl
    refine pure_ (i := 7) (N := (some 78)) (v := ?_) (a' := ?_) #[true, true, true, true, true, true, true, true, false, false, false, false, false, false, false, false, false, false, false, false, false, false, false, false, false, false, false, false, false, false, false, false, false, false, false, false, false, false] rfl rfl (by kernel_rfl) (fun _ _ _ h => h) (Or.inl ⟨by rfl, ?_⟩) ?_ ?_
    rotate_left
    · intro w'
      go_simp
      with_reducible rfl
    rotate_left
    · simp only [Act.put, List.setIfInBounds_toArray, List.set_cons_zero, List.set_cons_succ, i64_w, i32_w]
      rfl
    refine pure_ (i := 8) (N := (some 79)) (v := ?_) (a' := ?_) #[true, true, true, true, true, true, true, true, true, false, false, false, false, false, false, false, false, false, false, false, false, false, false, false, false, false, false, false, false, false, false, false, false, false, false, false, false, false] rfl rfl (by kernel_rfl) (fun _ _ _ h => h) (Or.inl ⟨by rfl, ?_⟩) ?_ ?_
    rotate_left
    · intro w'
      go_simp
      with_reducible rfl
    rotate_left
    · simp only [Act.put, List.setIfInBounds_toArray, List.set_cons_zero, List.set_cons_succ, i64_w, i32_w]
      rfl
    refine pure_ (i := 9) (N := (some 80)) (v := ?_) (a' := ?_) #[true, true, true, true, true, true, true, true, true, true, false, false, false, false, false, false, false, false, false, false, false, false, false, false, false, false, false, false, false, false, false, false, false, false, false, false, false, false] rfl rfl (by kernel_rfl) (fun _ _ _ h => h) (Or.inl ⟨by rfl, ?_⟩) ?_ ?_
    rotate_left
    · intro w'
      go_simp
      with_reducible rfl
    rotate_left
    · simp only [Act.put, List.setIfInBounds_toArray, List.set_cons_zero, List.set_cons_succ, i64_w, i32_w]
      rfl
    refine pure_ (i := 10) (N := (some 81)) (v := ?_) (a' := ?_) #[true, true, true, true, true, true, true, true, true, true, true, false, false, false, false, false, false, false, false, false, false, false, false, false, false, false, false, false, false, false, false, false, false, false, false, false, false, false] rfl rfl (by kernel_rfl) (fun _ _ _ h => h) (Or.inl ⟨by rfl, ?_⟩) ?_ ?_
    rotate_left
    · intro w'
      go_simp
      with_reducible rfl
    rotate_left
    · simp only [Act.put, List.setIfInBounds_toArray, List.set_cons_zero, List.set_cons_succ, i64_w, i32_w]
      rfl
    refine pure_ (i := 11) (N := (some 82)) (v := ?_) (a' := ?_) #[true, true, true, true, true, true, true, true, true, true, true, true, false, false, false, false, false, false, false, false, false, false, false, false, false, false, false, false, false, false, false, false, false, false, false, false, false, false] rfl rfl (by kernel_rfl) (fun _ _ _ h => h) (Or.inl ⟨by rfl, ?_⟩) ?_ ?_
    rotate_left
    · intro w'
      go_simp
      with_reducible rfl
    rotate_left
    · simp only [Act.put, List.setIfInBounds_toArray, List.set_cons_zero, List.set_cons_succ, i64_w, i32_w]
      rfl
    refine pure_ (i := 12) (N := (some 83)) (v := ?_) (a' := ?_) #[true, true, true, true, true, true, true, true, true, true, true, true, true, false, false, false, false, false, false, false, false, false, false, false, false, false, false, false, false, false, false, false, false, false, false, false, false, false] rfl rfl (by kernel_rfl) (fun _ _ _ h => h) (Or.inl ⟨by rfl, ?_⟩) ?_ ?_
    rotate_left
    · intro w'
      go_simp
      with_reducible rfl
    rotate_left
    · simp only [Act.put, List.setIfInBounds_toArray, List.set_cons_zero, List.set_cons_succ, i64_w, i32_w]
      rfl
    refine pure_ (i := 13) (N := (some 84)) (v := ?_) (a' := ?_) #[true, true, true, true, true, true, true, true, true, true, true, true, true, true, false, false, false, false, false, false, false, false, false, false, false, false, false, false, false, false, false, false, false, false, false, false, false, false] rfl rfl (by kernel_rfl) (fun _ _ _ h => h) (Or.inl ⟨by rfl, ?_⟩) ?_ ?_
    rotate_left
    · intro w'
      go_simp
      with_reducible rfl
    rotate_left
    · simp only [Act.put, List.setIfInBounds_toArray, List.set_cons_zero, List.set_cons_succ, i64_w, i32_w]
      rfl
    refine pure_ (i := 14) (N := (some 85)) (v := undef) (a' := ?_) #[true, true, true, true, true, true, true, true, true, true, true, true, true, true, true, false, false, false, false, false, false, false, false, false, false, false, false, false, false, false, false, false, false, false, false, false, false, false] rfl rfl (by kernel_rfl) (fun _ _ _ h => h) (Or.inr ⟨by rfl, rfl⟩) ?_ ?_
    rotate_left
    · simp only [Act.put, List.setIfInBounds_toArray, List.set_cons_zero, List.set_cons_succ, i64_w, i32_w]
      rfl
    refine pure_ (i := 15) (N := (some 86)) (v := undef) (a' := ?_) #[true, true, true, true, true, true, true, true, true, true, true, true, true, true, true, true, false, false, false, false, false, false, false, false, false, false, false, false, false, false, false, false, false, false, false, false, false, false] rfl rfl (by kernel_rfl) (fun _ _ _ h => h) (Or.inr ⟨by rfl, rfl⟩) ?_ ?_
    rotate_left
    · simp only [Act.put, List.setIfInBounds_toArray, List.set_cons_zero, List.set_cons_succ, i64_w, i32_w]
      rfl
    refine pure_ (i := 16) (N := (some 87)) (v := undef) (a' := ?_) #[true, true, true, true, true, true, true, true, true, true, true, true, true, true, true, true, true, false, false, false, false, false, false, false, false, false, false, false, false, false, false, false, false, false, false, false, false, false] rfl rfl (by kernel_rfl) (fun _ _ _ h => h) (Or.inr ⟨by rfl, rfl⟩) ?_ ?_
    rotate_left
    · simp only [Act.put, List.setIfInBounds_toArray, List.set_cons_zero, List.set_cons_succ, i64_w, i32_w]
      rfl
    refine pure_ (i := 17) (N := (some 88)) (v := undef) (a' := ?_) #[true, true, true, true, true, true, true, true, true, true, true, true, true, true, true, true, true, true, false, false, false, false, false, false, false, false, false, false, false, false, false, false, false, false, false, false, false, false] rfl rfl (by kernel_rfl) (fun _ _ _ h => h) (Or.inr ⟨by rfl, rfl⟩) ?_ ?_
    rotate_left
    · simp only [Act.put, List.setIfInBounds_toArray, List.set_cons_zero, List.set_cons_succ, i64_w, i32_w]
      rfl
    refine pure_ (i := 18) (N := (some 89)) (v := undef) (a' := ?_) #[true, true, true, true, true, true, true, true, true, true, true, true, true, true, true, true, true, true, true, false, false, false, false, false, false, false, false, false, false, false, false, false, false, false, false, false, false, false] rfl rfl (by kernel_rfl) (fun _ _ _ h => h) (Or.inr ⟨by rfl, rfl⟩) ?_ ?_
    rotate_left
    · simp only [Act.put, List.setIfInBounds_toArray, List.set_cons_zero, List.set_cons_succ, i64_w, i32_w]
      rfl
    refine pure_ (i := 19) (N := (some 90)) (v := undef) (a' := ?_) #[true, true, true, true, true, true, true, true, true, true, true, true, true, true, true, true, true, true, true, true, false, false, false, false, false, false, false, false, false, false, false, false, false, false, false, false, false, false] rfl rfl (by kernel_rfl) (fun _ _ _ h => h) (Or.inr ⟨by rfl, rfl⟩) ?_ ?_
    rotate_left
    · simp only [Act.put, List.setIfInBounds_toArray, List.set_cons_zero, List.set_cons_succ, i64_w, i32_w]
      rfl
    refine pure_ (i := 20) (N := (some 91)) (v := ?_) (a' := ?_) #[true, true, true, true, true, true, true, true, true, true, true, true, true, true, true, true, true, true, true, true, true, false, false, false, false, false, false, false, false, false, false, false, false, false, false, false, false, false] rfl rfl (by kernel_rfl) (fun _ _ _ h => h) (Or.inl ⟨by rfl, ?_⟩) ?_ ?_
    rotate_left
    · intro w'
      go_simp
      with_reducible rfl
    rotate_left
    · simp only [Act.put, List.setIfInBounds_toArray, List.set_cons_zero, List.set_cons_succ, i64_w, i32_w]
      rfl
    refine pure_ (i := 21) (N := (some 92)) (v := ?_) (a' := ?_) #[true, true, true, true, true, true, true, true, true, true, true, true, true, true, true, true, true, true, true, true, true, true, false, false, false, false, false, false, false, false, false, false, false, false, false, false, false, false] rfl rfl (by kernel_rfl) (fun _ _ _ h => h) (Or.inl ⟨by rfl, ?_⟩) ?_ ?_
    rotate_left
    · intro w'
      go_simp
      with_reducible rfl
    rotate_left
    · simp only [Act.put, List.setIfInBounds_toArray, List.set_cons_zero, List.set_cons_succ, i64_w, i32_w]
      rfl
    refine pure_ (i := 22) (N := (some 93)) (v := ?_) (a' := ?_) #[true, true, true, true, true, true, true, true, true, true, true, true, true, true, true, true, true, true, true, true, true, true, true, false, false, false, false, false, false, false, false, false, false, false, false, false, false, false] rfl rfl (by kernel_rfl) (fun _ _ _ h => h) (Or.inl ⟨by rfl, ?_⟩) ?_ ?_
    rotate_left
    · intro w'
      go_simp
      with_reducible rfl
    rotate_left
    · simp only [Act.put, List.setIfInBounds_toArray, List.set_cons_zero, List.set_cons_succ, i64_w, i32_w]
      rfl
    refine pure_ (i := 23) (N := (some 94)) (v := ?_) (a' := ?_) #[true, true, true, true, true, true, true, true, true, true, true, true, true, true, true, true, true, true, true, true, true, true, true, true, false, false, false, false, false, false, false, false, false, false, false, false, false, false] rfl rfl (by kernel_rfl) (fun _ _ _ h => h) (Or.inl ⟨by rfl, ?_⟩) ?_ ?_
    rotate_left
    · intro w'
      go_simp
      with_reducible rfl
    rotate_left
    · simp only [Act.put, List.setIfInBounds_toArray, List.set_cons_zero, List.set_cons_succ, i64_w, i32_w]
      rfl
    refine take_ (i := 24) (N := (some 95)) (v := ?_) (a' := ?_) #[true, true, true, true, true, true, true, true, true, true, true, true, true, true, true, true, true, true, true, true, true, true, true, true, true, false, false, false, false, false, false, false, false, false, false, false, false, false] rfl rfl (by kernel_rfl) (fun _ _ _ h => h) (Or.inl ⟨by rfl, ?_⟩) hHeld ?_ ?_
    rotate_left
    · rintro w' ⟨s0, s1, s2, s3, s4, s5⟩
      go_simp
      with_reducible rfl
    rotate_left
    · simp only [Act.put, List.setIfInBounds_toArray, List.set_cons_zero, List.set_cons_succ, i64_w, i32_w]
      rfl
    refine pure_ (i := 25) (N := (some 96)) (v := ?_) (a' := ?_) #[true, true, true, true, true, true, true, true, true, true, true, true, true, true, true, true, true, true, true, true, true, true, true, true, true, true, false, false, false, false, false, false, false, false, false, false, false, false] rfl rfl (by kernel_rfl) (fun _ _ _ h => h) (Or.inl ⟨by rfl, ?_⟩) ?_ ?_
    rotate_left
    · intro w'
      go_simp
      with_reducible rfl
    rotate_left
    · simp only [Act.put, List.setIfInBounds_toArray, List.set_cons_zero, List.set_cons_succ, i64_w, i32_w]
      rfl
    refine take_ (i := 26) (N := (some 97)) (v := .agg A0) (a' := ?_) #[true, true, true, true, true, true, true, true, true, true, true, true, true, true, true, true, true, true, true, true, true, true, true, true, true, true, true, false, false, false, false, false, false, false, false, false, false, false] rfl rfl (by kernel_rfl) (fun _ _ _ h => h) (Or.inl ⟨by rfl, ?_⟩) hHeld ?_ ?_
    · rintro w' ⟨s0, s1, s2, s3, s4, s5⟩
      exact ld_op 39 _ rfl X1 rfl s1 Try.underlying39 rfl (by kernel_rfl) zA0.out
    rotate_left
    · simp only [Act.put, List.setIfInBounds_toArray, List.set_cons_zero, List.set_cons_succ, i64_w, i32_w]
      rfl
    refine take_ (i := 27) (N := (some 98)) (v := .agg A0) (a' := ?_) #[true, true, true, true, true, true, true, true, true, true, true, true, true, true, true, true, true, true, true, true, true, true, true, true, true, true, true, true, false, false, false, false, false, false, false, false, false, false] rfl rfl (by kernel_rfl) (fun _ _ _ h => h) (Or.inl ⟨by rfl, ?_⟩) hHeld ?_ ?_
    · rintro w' ⟨s0, s1, s2, s3, s4, s5⟩
      exact ld_op 39 _ rfl X0 rfl s0 Try.underlying39 rfl (by kernel_rfl) zA0.out
    rotate_left
    · simp only [Act.put, List.setIfInBounds_toArray, List.set_cons_zero, List.set_cons_succ, i64_w, i32_w]
      rfl
    refine pure_ (i := 28) (N := (some 99)) (v := .bool true) (a' := ?_) #[true, true, true, true, true, true, true, true, true, true, true, true, true, true, true, true, true, true, true, true, true, true, true, true, true, true, true, true, true, false, false, false, false, false, false, false, false, false] rfl rfl (by kernel_rfl) (fun _ _ _ h => h) (Or.inl ⟨by rfl, ?_⟩) ?_ ?_
    · intro w'
      exact eq_op _ _ rfl rfl rfl eA0.out
    rotate_left
    · simp only [Act.put, List.setIfInBounds_toArray, List.set_cons_zero, List.set_cons_succ, i64_w, i32_w]
      rfl
    refine pure_ (i := 29) (N := (some 100)) (v := ?_) (a' := ?_) #[true, true, true, true, true, true, true, true, true, true, true, true, true, true, true, true, true, true, true, true, true, true, true, true, true, true, true, true, true, true, false, false, false, false, false, false, false, false] rfl rfl (by kernel_rfl) (fun _ _ _ h => h) (Or.inl ⟨by rfl, ?_⟩) ?_ ?_
    rotate_left
    · intro w'
      go_simp
      with_reducible rfl
    rotate_left
    · simp only [Act.put, List.setIfInBounds_toArray, List.set_cons_zero, List.set_cons_succ, i64_w, i32_w]
      rfl
    refine pure_ (i := 30) (N := (some 101)) (v := ?_) (a' := ?_) #[true, true, true, true, true, true, true, true, true, true, true, true, true, true, true, true, true, true, true, true, true, true, true, true, true, true, true, true, true, true, true, false, false, false, false, false, false, false] rfl rfl (by kernel_rfl) (fun _ _ _ h => h) (Or.inl ⟨by rfl, ?_⟩) ?_ ?_
    rotate_left
    · intro w'
      go_simp
      with_reducible rfl
    rotate_left
    · simp only [Act.put, List.setIfInBounds_toArray, List.set_cons_zero, List.set_cons_succ, i64_w, i32_w]
      rfl
    refine pure_ (i := 31) (N := (some 102)) (v := ?_) (a' := ?_) #[true, true, true, true, true, true, true, true, true, true, true, true, true, true, true, true, true, true, true, true, true, true, true, true, true, true, true, true, true, true, true, true, false, false, false, false, false, false] rfl rfl (by kernel_rfl) (fun _ _ _ h => h) (Or.inl ⟨by rfl, ?_⟩) ?_ ?_
    rotate_left
    · intro w'
      go_simp
      with_reducible rfl
    rotate_left
    · simp only [Act.put, List.setIfInBounds_toArray, List.set_cons_zero, List.set_cons_succ, i64_w, i32_w]
      rfl
    refine take_ (i := 32) (N := (some 103)) (v := ?_) (a' := ?_) #[true, true, true, true, true, true, true, true, true, true, true, true, true, true, true, true, true, true, true, true, true, true, true, true, true, true, true, true, true, true, true, true, true, false, false, false, false, false] rfl rfl (by kernel_rfl) (fun _ _ _ h => h) (Or.inl ⟨by rfl, ?_⟩) hHeld ?_ ?_
    rotate_left
    · rintro w' ⟨s0, s1, s2, s3, s4, s5⟩
      go_simp
      with_reducible rfl
    rotate_left
    · simp only [Act.put, List.setIfInBounds_toArray, List.set_cons_zero, List.set_cons_succ, i64_w, i32_w]
      rfl
    refine pure_ (i := 33) (N := (some 104)) (v := ?_) (a' := ?_) #[true, true, true, true, true, true, true, true, true, true, true, true, true, true, true, true, true, true, true, true, true, true, true, true, true, true, true, true, true, true, true, true, true, true, false, false, false, false] rfl rfl (by kernel_rfl) (fun _ _ _ h => h) (Or.inl ⟨by rfl, ?_⟩) ?_ ?_
    rotate_left
    · intro w'
      go_simp
      with_reducible rfl
    rotate_left
    · simp only [Act.put, List.setIfInBounds_toArray, List.set_cons_zero, List.set_cons_succ, i64_w, i32_w]
      rfl
    refine take_ (i := 34) (N := (some 105)) (v := ?_) (a' := ?_) #[true, true, true, true, true, true, true, true, true, true, true, true, true, true, true, true, true, true, true, true, true, true, true, true, true, true, true, true, true, true, true, true, true, true, true, false, false, false] rfl rfl (by kernel_rfl) (fun _ _ _ h => h) (Or.inl ⟨by rfl, ?_⟩) hHeld ?_ ?_
    rotate_left
    · rintro w' ⟨s0, s1, s2, s3, s4, s5⟩
      go_simp
      with_reducible rfl
    rotate_left
    · simp only [Act.put, List.setIfInBounds_toArray, List.set_cons_zero, List.set_cons_succ, i64_w, i32_w]
      rfl
    refine pure_ (i := 35) (N := (some 106)) (v := ?_) (a' := ?_) #[true, true, true, true, true, true, true, true, true, true, true, true, true, true, true, true, true, true, true, true, true, true, true, true, true, true, true, true, true, true, true, true, true, true, true, true, false, false] rfl rfl (by kernel_rfl) (fun _ _ _ h => h) (Or.inl ⟨by rfl, ?_⟩) ?_ ?_
    rotate_left
    · intro w'
      go_simp
      with_reducible rfl
    rotate_left
    · simp only [Act.put, List.setIfInBounds_toArray, List.set_cons_zero, List.set_cons_succ, i64_w, i32_w]
      rfl
    refine pure_ (i := 36) (N := (some 107)) (v := ?_) (a' := ?_) #[true, true, true, true, true, true, true, true, true, true, true, true, true, true, true, true, true, true, true, true, true, true, true, true, true, true, true, true, true, true, true, true, true, true, true, true, true, false] rfl rfl (by kernel_rfl) (fun _ _ _ h => h) (Or.inl ⟨by rfl, ?_⟩) ?_ ?_
    rotate_left
    · intro w'
      go_simp
      with_reducible rfl
    rotate_left
    · simp only [Act.put, List.setIfInBounds_toArray, List.set_cons_zero, List.set_cons_succ, i64_w, i32_w]
      rfl
    refine pure_ (i := 37) (N := (some 4)) (v := ?_) (a' := ?_) #[true, true, true, true, true, true, true, true, true, true, true, true, true, true, true, true, true, true, true, true, true, true, true, true, true, true, true, true, true, true, true, true, true, true, true, true, true, true] rfl rfl (by kernel_rfl) (fun _ _ _ h => h) (Or.inl ⟨by rfl, ?_⟩) ?_ ?_
    rotate_left
    · intro w'
      go_simp
      with_reducible rfl
    rotate_left
    · simp only [Act.put, List.setIfInBounds_toArray, List.set_cons_zero, List.set_cons_succ, i64_w, i32_w]
      rfl
    refine done_ (by kernel_rfl) ?_
    go_wp2
    go_ret
    exact ⟨rfl, by first | exact HE_73.out | exact HE_73.out.drew | exact pw_below_drewN HE_73.out _⟩
theorem alone_walk (w : World) (B : Int) (A : Option Addr) (l : List S39) (cap : Nat) (hc : l.length ≤ cap) (hC : Kd.C k39 w A l.length l) (a : Int) (ha : 0 ≤ a ∧ a ≤ 255) : Calls Try.prog 7 #[.agg #[.int .i64 B, .slice A l.length cap], .int .u8 a] w fun e w' => e = .returned (.bool true) ∧ Below w.heap.size w w' := by
  obtain ⟨b, hf, pf⟩ := small_tot B l
  cases b with
  | false => exact alone_first w B A l cap hc hC a hf
  | true =>
    obtain ⟨b, hr, pr⟩ := right_tot B l
    cases b with
    | false => exact alone_right w B A l cap hc hC a hf hr
    | true => exact alone_main w B A l cap hc hC a ha hf hr (pf rfl) (pr rfl)
theorem alone_row (w : World) (B : Int) (A : Option Addr) (l : List S39) (cap : Nat) (hc : l.length ≤ cap) (hC : Kd.C k39 w A l.length l) (a : Int) (ha : (Lit.int .u8 a).wf = true) : Calls Try.prog 7 #[.agg #[.int .i64 B, .slice A l.length cap], .int .u8 a] w fun e w' => e = .returned (.bool true) ∧ Below w.heap.size w w' :=
  alone_walk w B A l cap hc hC a (Args.bd_u8 ha)
end Go.Proofs.Ytnidcoooenhebaa.PS
