/- The law FixNext, walked. -/
import Derived.Test.YtnidcoooenhebaaFx
namespace Go.Proofs.Ytnidcoooenhebaa.PS
open Go.RowKit Go.Proofs.Ytnidcoooenhebaa.PC Go.Proofs.YtnidcoooenhebaaW.PrintWords Go.Proofs.YtnidcoooenhebaaW.PrintLast Go.Proofs.YtnidcoooenhebaaW.PrintMore
attribute [local go_sem] max2_int min2_int max_two min_two max_three min_three max_four min_four   -- for this text's walks alone
set_option linter.unusedVariables false
set_option linter.unusedSimpArgs false
set_option maxRecDepth 100000 in
set_option maxHeartbeats 6000000 in
theorem next_first (w : World) (B : Int) (A : Option Addr) (l : List S39) (cap : Nat) (hc : l.length ≤ cap) (hC : Kd.C k39 w A l.length l) (a b c : Int) (hf : Ev (fun k => pendulumref05_Few.f k B l) false) : Calls Try.prog 3 #[.agg #[.int .i64 B, .slice A l.length cap], .int .u8 a, .int .u32 b, .int .u32 c] w fun e w' => e = .returned (.bool true) ∧ Below w.heap.size w w' := by
  obtain ⟨S0, eS0⟩ : ∃ S0 : Array Value, S0 = #[.int .i64 B, .slice A l.length cap] := ⟨_, rfl⟩
  rw [← eS0]
  have zS0 : Hid (S0.size = 2) := Lib.hid (by rw [eS0]; rfl)
  replace eS0 := Lib.hid eS0
  obtain ⟨B0, hB0⟩ : ∃ B, w.heap.size = B := ⟨_, rfl⟩
  rw [hB0]
  obtain ⟨V0, hV0⟩ : ∃ V, w.alloc (.cells S0 24) = V := ⟨_, rfl⟩
  have Hs : Hid (V0.heap[B0]? = some (.cells S0 24 (0, 0))) := Lib.hid (by rw [← hV0]; exact (box_new hB0).1)
  have HE : Hid (Below B0 w V0) := Lib.hid (by rw [← hV0, ← hB0]; exact (Below.refl _ _).alloc (Nat.le_refl _) _)
  go_enter Try.func3, Try.ntmps3
  go_upto_region 1 with (fail)
  replace hB0 := Lib.hid hB0
  replace hV0 := Lib.hid hV0
  go_wp2_with fail
  refine (awake_walk _).mono ?_; rintro e V_1 ⟨rfl, hb_2⟩
  have H_3 : Hid (V_1.heap[B0]? = some (.cells S0 24 (0, 0))) := Lib.hid ((hb_2.block B0 (blk_lt Hs.out)).trans Hs.out)
  have HE_4 : Hid (Below B0 w V_1) := Lib.hid (HE.out.trans (hb_2.mono (sz_le hB0.out HE.out.size)))
  clear HE Hs
  clear hb_2
  go_wp2_with (first | ((with_reducible refine wpl_gate (T := 24) rfl ?_); refine wpl_ld _ _ rfl (by rfl) B0 rfl H_3.out Try.underlying24 rfl (by kernel_rfl) zS0.out ?_))
  refine (fewq_c hf hC hc hB0.out HE_4.out _ eS0.out).mono ?_; rintro e V_5 ⟨rfl, hb_6⟩
  have H_7 : Hid (V_5.heap[B0]? = some (.cells S0 24 (0, 0))) := Lib.hid ((hb_6.block B0 (blk_lt H_3.out)).trans H_3.out)
  have HE_8 : Hid (Below B0 w V_5) := Lib.hid (HE_4.out.trans (hb_6.mono (sz_le hB0.out HE_4.out.size)))
  clear HE_4 H_3
  clear hb_6
  go_wp2_with fail
  refine (awake_walk _).mono ?_; rintro e V_9 ⟨rfl, hb_10⟩
  have H_11 : Hid (V_9.heap[B0]? = some (.cells S0 24 (0, 0))) := Lib.hid ((hb_10.block B0 (blk_lt H_7.out)).trans H_7.out)
  have HE_12 : Hid (Below B0 w V_9) := Lib.hid (HE_8.out.trans (hb_10.mono (sz_le hB0.out HE_8.out.size)))
  clear HE_8 H_7
  clear hb_10
  go_wp2
  go_ret
  exact ⟨rfl, HE_12.out⟩
set_option maxRecDepth 100000 in
set_option maxHeartbeats 6000000 in
theorem next_right (w : World) (B : Int) (A : Option Addr) (l : List S39) (cap : Nat) (hc : l.length ≤ cap) (hC : Kd.C k39 w A l.length l) (a b c : Int) (hf : Ev (fun k => pendulumref05_Few.f k B l) true) (hr : Ev (fun k => pendulumref05_Right.f k B l) false) : Calls Try.prog 3 #[.agg #[.int .i64 B, .slice A l.length cap], .int .u8 a, .int .u32 b, .int .u32 c] w fun e w' => e = .returned (.bool true) ∧ Below w.heap.size w w' := by
  obtain ⟨S0, eS0⟩ : ∃ S0 : Array Value, S0 = #[.int .i64 B, .slice A l.length cap] := ⟨_, rfl⟩
  rw [← eS0]
  have zS0 : Hid (S0.size = 2) := Lib.hid (by rw [eS0]; rfl)
  replace eS0 := Lib.hid eS0
  obtain ⟨B0, hB0⟩ : ∃ B, w.heap.size = B := ⟨_, rfl⟩
  rw [hB0]
  obtain ⟨V0, hV0⟩ : ∃ V, w.alloc (.cells S0 24) = V := ⟨_, rfl⟩
  have Hs : Hid (V0.heap[B0]? = some (.cells S0 24 (0, 0))) := Lib.hid (by rw [← hV0]; exact (box_new hB0).1)
  have HE : Hid (Below B0 w V0) := Lib.hid (by rw [← hV0, ← hB0]; exact (Below.refl _ _).alloc (Nat.le_refl _) _)
  go_enter Try.func3, Try.ntmps3
  go_upto_region 1 with (fail)
  replace hB0 := Lib.hid hB0
  replace hV0 := Lib.hid hV0
  go_wp2_with fail
  refine (awake_walk _).mono ?_; rintro e V_13 ⟨rfl, hb_14⟩
  have H_15 : Hid (V_13.heap[B0]? = some (.cells S0 24 (0, 0))) := Lib.hid ((hb_14.block B0 (blk_lt Hs.out)).trans Hs.out)
  have HE_16 : Hid (Below B0 w V_13) := Lib.hid (HE.out.trans (hb_14.mono (sz_le hB0.out HE.out.size)))
  clear HE Hs
  clear hb_14
  go_wp2_with (first | ((with_reducible refine wpl_gate (T := 24) rfl ?_); refine wpl_ld _ _ rfl (by rfl) B0 rfl H_15.out Try.underlying24 rfl (by kernel_rfl) zS0.out ?_))
  refine (fewq_c hf hC hc hB0.out HE_16.out _ eS0.out).mono ?_; rintro e V_17 ⟨rfl, hb_18⟩
  have H_19 : Hid (V_17.heap[B0]? = some (.cells S0 24 (0, 0))) := Lib.hid ((hb_18.block B0 (blk_lt H_15.out)).trans H_15.out)
  have HE_20 : Hid (Below B0 w V_17) := Lib.hid (HE_16.out.trans (hb_18.mono (sz_le hB0.out HE_16.out.size)))
  clear HE_16 H_15
  clear hb_18
  go_wp2_with (first | ((with_reducible refine wpl_gate (T := 24) rfl ?_); refine wpl_ld _ _ rfl (by rfl) B0 rfl H_19.out Try.underlying24 rfl (by kernel_rfl) zS0.out ?_))
  refine (rightq_c hr hC hc hB0.out HE_20.out _ eS0.out).mono ?_; rintro e V_21 ⟨rfl, hb_22⟩
  have H_23 : Hid (V_21.heap[B0]? = some (.cells S0 24 (0, 0))) := Lib.hid ((hb_22.block B0 (blk_lt H_19.out)).trans H_19.out)
  have HE_24 : Hid (Below B0 w V_21) := Lib.hid (HE_20.out.trans (hb_22.mono (sz_le hB0.out HE_20.out.size)))
  clear HE_20 H_19
  clear hb_22
  go_wp2_with fail
  refine (awake_walk _).mono ?_; rintro e V_25 ⟨rfl, hb_26⟩
  have H_27 : Hid (V_25.heap[B0]? = some (.cells S0 24 (0, 0))) := Lib.hid ((hb_26.block B0 (blk_lt H_23.out)).trans H_23.out)
  have HE_28 : Hid (Below B0 w V_25) := Lib.hid (HE_24.out.trans (hb_26.mono (sz_le hB0.out HE_24.out.size)))
  clear HE_24 H_23
  clear hb_26
  go_wp2
  go_ret
  exact ⟨rfl, HE_28.out⟩
set_option maxRecDepth 100000 in
set_option maxHeartbeats 6000000 in
theorem next_main (w : World) (B : Int) (A : Option Addr) (l : List S39) (cap : Nat) (hc : l.length ≤ cap) (hC : Kd.C k39 w A l.length l) (a b c : Int) (ha : 0 ≤ a ∧ a ≤ 255) (hb : 0 ≤ b ∧ b ≤ 4294967295) (hcc : 0 ≤ c ∧ c ≤ 4294967295) (hf : Ev (fun k => pendulumref05_Few.f k B l) true) (hr : Ev (fun k => pendulumref05_Right.f k B l) true) (_ : l.length ≤ 30) (ok : OkS B l) : Calls Try.prog 3 #[.agg #[.int .i64 B, .slice A l.length cap], .int .u8 a, .int .u32 b, .int .u32 c] w fun e w' => e = .returned (.bool true) ∧ Below w.heap.size w w' := by
  have hlen := ok.2.2.1
  have hlen2 := ok.2.2.2.1
  obtain ⟨k, hk⟩ : ∃ k, k = a % (l.length : Int) := ⟨_, rfl⟩
  have hk0 : 0 ≤ k := by rw [hk]; exact Int.emod_nonneg _ (by omega)
  have hk1 : k < (l.length : Int) := by rw [hk]; exact Int.emod_lt_of_pos _ (by omega)
  obtain ⟨g, hg⟩ : ∃ g, g = 1 + b % 1049576 := ⟨_, rfl⟩
  have hg1 : 1 ≤ g := by omega
  have hg2 : g ≤ 1049576 := by omega
  obtain ⟨ad, rfl, _⟩ := row_at hC hk0 hk1
  replace hk := Lib.hid hk
  replace hg := Lib.hid hg
  obtain ⟨x, hx⟩ : ∃ x, c % 1048577 = x := ⟨_, rfl⟩
  have hx0 : 0 ≤ x := by omega
  have hx1 : x ≤ 1048576 := by omega
  replace hx := Lib.hid hx
  obtain ⟨S0, eS0⟩ : ∃ S0 : Array Value, S0 = #[.int .i64 B, .slice (some ad) l.length cap] := ⟨_, rfl⟩
  rw [← eS0]
  have zS0 : Hid (S0.size = 2) := Lib.hid (by rw [eS0]; rfl)
  replace eS0 := Lib.hid eS0
  obtain ⟨B0, hB0⟩ : ∃ B, w.heap.size = B := ⟨_, rfl⟩
  rw [hB0]
  obtain ⟨V0, hV0⟩ : ∃ V, w.alloc (.cells S0 24) = V := ⟨_, rfl⟩
  have Hs : Hid (V0.heap[B0]? = some (.cells S0 24 (0, 0))) := Lib.hid (by rw [← hV0]; exact (box_new hB0).1)
  have HE : Hid (Below B0 w V0) := Lib.hid (by rw [← hV0, ← hB0]; exact (Below.refl _ _).alloc (Nat.le_refl _) _)
  go_enter Try.func3, Try.ntmps3
  go_upto_region 1 with (fail)
  replace hB0 := Lib.hid hB0
  replace hV0 := Lib.hid hV0
  go_wp2_with fail
  refine (awake_walk _).mono ?_; rintro e V_29 ⟨rfl, hb_30⟩
  have H_31 : Hid (V_29.heap[B0]? = some (.cells S0 24 (0, 0))) := Lib.hid ((hb_30.block B0 (blk_lt Hs.out)).trans Hs.out)
  have HE_32 : Hid (Below B0 w V_29) := Lib.hid (HE.out.trans (hb_30.mono (sz_le hB0.out HE.out.size)))
  clear HE Hs
  clear hb_30
  go_wp2_with (first | ((with_reducible refine wpl_gate (T := 24) rfl ?_); refine wpl_ld _ _ rfl (by rfl) B0 rfl H_31.out Try.underlying24 rfl (by kernel_rfl) zS0.out ?_))
  refine (fewq_c hf hC hc hB0.out HE_32.out _ eS0.out).mono ?_; rintro e V_33 ⟨rfl, hb_34⟩
  have H_35 : Hid (V_33.heap[B0]? = some (.cells S0 24 (0, 0))) := Lib.hid ((hb_34.block B0 (blk_lt H_31.out)).trans H_31.out)
  have HE_36 : Hid (Below B0 w V_33) := Lib.hid (HE_32.out.trans (hb_34.mono (sz_le hB0.out HE_32.out.size)))
  clear HE_32 H_31
  clear hb_34
  go_wp2_with (first | ((with_reducible refine wpl_gate (T := 24) rfl ?_); refine wpl_ld _ _ rfl (by rfl) B0 rfl H_35.out Try.underlying24 rfl (by kernel_rfl) zS0.out ?_))
  refine (rightq_c hr hC hc hB0.out HE_36.out _ eS0.out).mono ?_; rintro e V_37 ⟨rfl, hb_38⟩
  have H_39 : Hid (V_37.heap[B0]? = some (.cells S0 24 (0, 0))) := Lib.hid ((hb_38.block B0 (blk_lt H_35.out)).trans H_35.out)
  have HE_40 : Hid (Below B0 w V_37) := Lib.hid (HE_36.out.trans (hb_38.mono (sz_le hB0.out HE_36.out.size)))
  clear HE_36 H_35
  clear hb_38
  go_wp2_with (first | ((with_reducible refine wpl_gate (T := 24) rfl ?_); refine wpl_ld _ _ rfl (by rfl) B0 rfl H_39.out Try.underlying24 rfl (by kernel_rfl) zS0.out ?_))
  refine (task_c _ B (some ad) l cap (Kd.C_below hC (below_to hB0.out HE_40.out)) hc hlen a b ha hb _ eS0.out k g hk.out hg.out).mono ?_; rintro e V_41 ⟨rfl, hb_42⟩
  have H_43 : Hid (V_41.heap[B0]? = some (.cells S0 24 (0, 0))) := Lib.hid ((hb_42.block B0 (blk_lt H_39.out)).trans H_39.out)
  have HE_44 : Hid (Below B0 w V_41) := Lib.hid (HE_40.out.trans (hb_42.mono (sz_le hB0.out HE_40.out.size)))
  clear HE_40 H_39
  clear hb_42
  have hx' := hx.out
  go_upto_region 5 with (fail)
  clear hx'
  obtain ⟨m, hm⟩ : ∃ m, nxt B g l k x = m := ⟨_, rfl⟩
  have NX := Lib.hid (fun (W : World) (hW : Below B0 w W) => next_c W B ad l cap hc (Kd.C_below hC (below_to hB0.out hW)) ok k hk0 hk1 g hg1 hg2 x hx0 hx1 S0 eS0.out)
  rw [hm] at NX
  go_wp2_with (first | ((with_reducible refine wpl_gate (T := 24) rfl ?_); refine wpl_ld _ _ rfl (by rfl) B0 rfl H_43.out Try.underlying24 rfl (by kernel_rfl) zS0.out ?_))
  refine (NX.out _ HE_44.out).mono ?_; rintro e V_45 ⟨rfl, hb_46⟩
  have H_47 : Hid (V_45.heap[B0]? = some (.cells S0 24 (0, 0))) := Lib.hid ((hb_46.block B0 (blk_lt H_43.out)).trans H_43.out)
  have HE_48 : Hid (Below B0 w V_45) := Lib.hid (HE_44.out.trans (hb_46.mono (sz_le hB0.out HE_44.out.size)))
  clear HE_44 H_43
  clear hb_46
  go_upto_region 6 with (fail)
  obtain ⟨D, hD⟩ : ∃ d, mxs (fD (rd_T39 l k).f10) l 0 = d := ⟨_, rfl⟩
  obtain ⟨H, hH⟩ : ∃ d, mxs (fA (rd_T39 l k).f10) l 0 = d := ⟨_, rfl⟩
  have C14 := Lib.hid (fun (W : World) (hW : Below B0 w W) => dear_c W B ad l cap hc (Kd.C_below hC (below_to hB0.out hW)) ok k hk0 hk1 S0 eS0.out)
  rw [hD] at C14
  have C15 := Lib.hid (fun (W : World) (hW : Below B0 w W) => rdear_c W B ad l cap hc (Kd.C_below hC (below_to hB0.out hW)) ok k hk0 hk1 S0 eS0.out)
  rw [hD] at C15
  have C16 := Lib.hid (fun (W : World) (hW : Below B0 w W) => ahead_c W B ad l cap hc (Kd.C_below hC (below_to hB0.out hW)) ok k hk0 hk1 S0 eS0.out)
  rw [hH] at C16
  have C17 := Lib.hid (fun (W : World) (hW : Below B0 w W) => rahead_c W B ad l cap hc (Kd.C_below hC (below_to hB0.out hW)) ok k hk0 hk1 S0 eS0.out)
  rw [hH] at C17
  have C18 := Lib.hid (fun (W : World) (hW : Below B0 w W) => rnext_c W B ad l cap hc (Kd.C_below hC (below_to hB0.out hW)) ok k hk0 hk1 g hg1 hg2 x hx0 hx1 S0 eS0.out)
  rw [hm] at C18
  replace hD := Lib.hid hD
  replace hH := Lib.hid hH
  replace hm := Lib.hid hm
  refine start_ (n := 29) (S := fun w' => w'.heap[B0]? = some (.cells S0 24 (0, 0))) (ds := []) #[false, false, false, false, false, false, false, false, false, false, false, false, false, false, false, false, false, false, false, false, false, false, false, false, false, false, false, false, false] (by kernel_rfl) rfl rfl H_47.out (fun hHeld => ?_)
  refine take_ (i := 0) (N := (some 45)) (v := .agg S0) (a' := ?_) #[true, false, false, false, false, false, false, false, false, false, false, false, false, false, false, false, false, false, false, false, false, false, false, false, false, false, false, false, false] rfl rfl (by kernel_rfl) (fun _ _ _ h => h) (Or.inl ⟨by rfl, ?_⟩) hHeld ?_ ?_
  · intro w' s0
    exact ld_op 24 _ rfl B0 rfl s0 Try.underlying24 rfl (by kernel_rfl) zS0.out
  rotate_left
  · simp only [Act.put, List.setIfInBounds_toArray, List.set_cons_zero, List.set_cons_succ, i64_w, i32_w]
    rfl
  refine pure_ (i := 1) (N := (some 46)) (v := ?_) (a' := ?_) #[true, true, false, false, false, false, false, false, false, false, false, false, false, false, false, false, false, false, false, false, false, false, false, false, false, false, false, false, false] rfl rfl (by kernel_rfl) (fun _ _ _ h => h) (Or.inl ⟨by rfl, ?_⟩) ?_ ?_
  rotate_left
  · intro w'
    go_simp
    with_reducible rfl
  rotate_left
  · simp only [Act.put, List.setIfInBounds_toArray, List.set_cons_zero, List.set_cons_succ, i64_w, i32_w]
    rfl
  refine take_ (i := 3) (N := (some 48)) (v := .agg S0) (a' := ?_) #[true, true, false, true, false, false, false, false, false, false, false, false, false, false, false, false, false, false, false, false, false, false, false, false, false, false, false, false, false] rfl rfl (by kernel_rfl) (fun _ _ _ h => h) (Or.inl ⟨by rfl, ?_⟩) hHeld ?_ ?_
  · intro w' s0
    exact ld_op 24 _ rfl B0 rfl s0 Try.underlying24 rfl (by kernel_rfl) zS0.out
  rotate_left
  · simp only [Act.put, List.setIfInBounds_toArray, List.set_cons_zero, List.set_cons_succ, i64_w, i32_w]
    rfl
  refine pure_ (i := 4) (N := (some 49)) (v := ?_) (a' := ?_) #[true, true, false, true, true, false, false, false, false, false, false, false, false, false, false, false, false, false, false, false, false, false, false, false, false, false, false, false, false] rfl rfl (by kernel_rfl) (fun _ _ _ h => h) (Or.inl ⟨by rfl, ?_⟩) ?_ ?_
  rotate_left
  · intro w'
    go_simp
    with_reducible rfl
  rotate_left
  · simp only [Act.put, List.setIfInBounds_toArray, List.set_cons_zero, List.set_cons_succ, i64_w, i32_w]
    rfl
  refine one_ (i := 2) (N := (some 47)) #[true, true, true, true, true, false, false, false, false, false, false, false, false, false, false, false, false, false, false, false, false, false, false, false, false, false, false, false, false] rfl rfl (by kernel_rfl) (by decide) (fun K hK => ?_)
  refine goes_ Try.func14 (by kernel_rfl) rfl #[.agg S0, .int .i64 k] (by rfl) rfl rfl (by (try simp only [List.map_toArray, List.map_cons, List.map_nil]); first | done | rfl) ?_
  refine (C14.out _ HE_48.out.drew).mono ?_
  rintro e Va ⟨rfl, hb4⟩
  have HSa : Hid (Va.heap[B0]? = some (.cells S0 24 (0, 0))) := Lib.hid ((hb4.block B0 (blk_lt H_47.out)).trans H_47.out)
  have HEa : Hid (Below B0 w Va) := Lib.hid ((HE_48.out.drew).trans (hb4.mono (sz_le hB0.out HE_48.out.size)))
  refine ⟨_, rfl, ?_⟩
  refine hK.out _ _ HSa.out (fun hHeld => ?_)
  clear hb4 H_47 HE_48
  clear hK K
  refine norm_ (a' := ?_) ?_ ?_
  rotate_left
  · show Act.put _ (some 47) _ = _
    simp only [Act.put, List.setIfInBounds_toArray, List.set_cons_zero, List.set_cons_succ, i64_w, i32_w]
    rfl
  refine one_ (i := 5) (N := (some 50)) #[true, true, true, true, true, true, false, false, false, false, false, false, false, false, false, false, false, false, false, false, false, false, false, false, false, false, false, false, false] rfl rfl (by kernel_rfl) (by decide) (fun K hK => ?_)
  refine goes_ Try.func15 (by kernel_rfl) rfl #[.agg S0, .int .i64 k] (by rfl) rfl rfl (by (try simp only [List.map_toArray, List.map_cons, List.map_nil]); first | done | rfl) ?_
  refine (C15.out _ HEa.out).mono ?_
  rintro e Vb ⟨rfl, hb4⟩
  have HSb : Hid (Vb.heap[B0]? = some (.cells S0 24 (0, 0))) := Lib.hid ((hb4.block B0 (blk_lt HSa.out)).trans HSa.out)
  have HEb : Hid (Below B0 w Vb) := Lib.hid ((HEa.out).trans (hb4.mono (sz_le hB0.out HEa.out.size)))
  refine ⟨_, rfl, ?_⟩
  refine hK.out _ _ HSb.out (fun hHeld => ?_)
  clear hb4 HSa HEa
  clear hK K
  refine norm_ (a' := ?_) ?_ ?_
  rotate_left
  · show Act.put _ (some 50) _ = _
    simp only [Act.put, List.setIfInBounds_toArray, List.set_cons_zero, List.set_cons_succ, i64_w, i32_w]
    rfl
  refine pure_ (i := 6) (N := (some 51)) (v := ?_) (a' := ?_) #[true, true, true, true, true, true, true, false, false, false, false, false, false, false, false, false, false, false, false, false, false, false, false, false, false, false, false, false, false] rfl rfl (by kernel_rfl) (fun _ _ _ h => h) (Or.inl ⟨by rfl, ?_⟩) ?_ ?_
  rotate_left
  · intro w'
    go_simp
    with_reducible rfl
  rotate_left
  · simp only [Act.put, List.setIfInBounds_toArray, List.set_cons_zero, List.set_cons_succ, i64_w, i32_w]
    rfl
  refine pure_ (i := 7) (N := (some 52)) (v := ?_) (a' := ?_) #[true, true, true, true, true, true, true, true, false, false, false, false, false, false, false, false, false, false, false, false, false, false, false, false, false, false, false, false, false] rfl rfl (by kernel_rfl) (fun _ _ _ h => h) (Or.inl ⟨by rfl, ?_⟩) ?_ ?_
  rotate_left
  · intro w'
    go_simp
    with_reducible rfl
  rotate_left
  · simp only [Act.put, List.setIfInBounds_toArray, List.set_cons_zero, List.set_cons_succ, i64_w, i32_w]
    rfl
  refine take_ (i := 8) (N := (some 53)) (v := .agg S0) (a' := ?_) #[true, true, true, true, true, true, true, true, true, false, false, false, false, false, false, false, false, false, false, false, false, false, false, false, false, false, false, false, false] rfl rfl (by kernel_rfl) (fun _ _ _ h => h) (Or.inl ⟨by rfl, ?_⟩) hHeld ?_ ?_
  · intro w' s0
    exact ld_op 24 _ rfl B0 rfl s0 Try.underlying24 rfl (by kernel_rfl) zS0.out
  rotate_left
  · simp only [Act.put, List.setIfInBounds_toArray, List.set_cons_zero, List.set_cons_succ, i64_w, i32_w]
    rfl
  refine pure_ (i := 9) (N := (some 54)) (v := ?_) (a' := ?_) #[true, true, true, true, true, true, true, true, true, true, false, false, false, false, false, false, false, false, false, false, false, false, false, false, false, false, false, false, false] rfl rfl (by kernel_rfl) (fun _ _ _ h => h) (Or.inl ⟨by rfl, ?_⟩) ?_ ?_
  rotate_left
  · intro w'
    go_simp
    with_reducible rfl
  rotate_left
  · simp only [Act.put, List.setIfInBounds_toArray, List.set_cons_zero, List.set_cons_succ, i64_w, i32_w]
    rfl
  refine take_ (i := 11) (N := (some 56)) (v := .agg S0) (a' := ?_) #[true, true, true, true, true, true, true, true, true, true, false, true, false, false, false, false, false, false, false, false, false, false, false, false, false, false, false, false, false] rfl rfl (by kernel_rfl) (fun _ _ _ h => h) (Or.inl ⟨by rfl, ?_⟩) hHeld ?_ ?_
  · intro w' s0
    exact ld_op 24 _ rfl B0 rfl s0 Try.underlying24 rfl (by kernel_rfl) zS0.out
  rotate_left
  · simp only [Act.put, List.setIfInBounds_toArray, List.set_cons_zero, List.set_cons_succ, i64_w, i32_w]
    rfl
  refine pure_ (i := 12) (N := (some 57)) (v := ?_) (a' := ?_) #[true, true, true, true, true, true, true, true, true, true, false, true, true, false, false, false, false, false, false, false, false, false, false, false, false, false, false, false, false] rfl rfl (by kernel_rfl) (fun _ _ _ h => h) (Or.inl ⟨by rfl, ?_⟩) ?_ ?_
  rotate_left
  · intro w'
    go_simp
    with_reducible rfl
  rotate_left
  · simp only [Act.put, List.setIfInBounds_toArray, List.set_cons_zero, List.set_cons_succ, i64_w, i32_w]
    rfl
  refine one_ (i := 10) (N := (some 55)) #[true, true, true, true, true, true, true, true, true, true, true, true, true, false, false, false, false, false, false, false, false, false, false, false, false, false, false, false, false] rfl rfl (by kernel_rfl) (by decide) (fun K hK => ?_)
  refine goes_ Try.func16 (by kernel_rfl) rfl #[.agg S0, .int .i64 k] (by rfl) rfl rfl (by (try simp only [List.map_toArray, List.map_cons, List.map_nil]); first | done | rfl) ?_
  refine (C16.out _ HEb.out).mono ?_
  rintro e Vc ⟨rfl, hb4⟩
  have HSc : Hid (Vc.heap[B0]? = some (.cells S0 24 (0, 0))) := Lib.hid ((hb4.block B0 (blk_lt HSb.out)).trans HSb.out)
  have HEc : Hid (Below B0 w Vc) := Lib.hid ((HEb.out).trans (hb4.mono (sz_le hB0.out HEb.out.size)))
  refine ⟨_, rfl, ?_⟩
  refine hK.out _ _ HSc.out (fun hHeld => ?_)
  clear hb4 HSb HEb
  clear hK K
  refine norm_ (a' := ?_) ?_ ?_
  rotate_left
  · show Act.put _ (some 55) _ = _
    simp only [Act.put, List.setIfInBounds_toArray, List.set_cons_zero, List.set_cons_succ, i64_w, i32_w]
    rfl
  refine one_ (i := 13) (N := (some 58)) #[true, true, true, true, true, true, true, true, true, true, true, true, true, true, false, false, false, false, false, false, false, false, false, false, false, false, false, false, false] rfl rfl (by kernel_rfl) (by decide) (fun K hK => ?_)
  refine goes_ Try.func17 (by kernel_rfl) rfl #[.agg S0, .int .i64 k] (by rfl) rfl rfl (by (try simp only [List.map_toArray, List.map_cons, List.map_nil]); first | done | rfl) ?_
  refine (C17.out _ HEc.out).mono ?_
  rintro e Vd ⟨rfl, hb4⟩
  have HSd : Hid (Vd.heap[B0]? = some (.cells S0 24 (0, 0))) := Lib.hid ((hb4.block B0 (blk_lt HSc.out)).trans HSc.out)
  have HEd : Hid (Below B0 w Vd) := Lib.hid ((HEc.out).trans (hb4.mono (sz_le hB0.out HEc.out.size)))
  refine ⟨_, rfl, ?_⟩
  refine hK.out _ _ HSd.out (fun hHeld => ?_)
  clear hb4 HSc HEc
  clear hK K
  refine norm_ (a' := ?_) ?_ ?_
  rotate_left
  · show Act.put _ (some 58) _ = _
    simp only [Act.put, List.setIfInBounds_toArray, List.set_cons_zero, List.set_cons_succ, i64_w, i32_w]
    rfl
  refine pure_ (i := 14) (N := (some 59)) (v := ?_) (a' := ?_) #[true, true, true, true, true, true, true, true, true, true, true, true, true, true, true, false, false, false, false, false, false, false, false, false, false, false, false, false, false] rfl rfl (by kernel_rfl) (fun _ _ _ h => h) (Or.inl ⟨by rfl, ?_⟩) ?_ ?_
  rotate_left
  · intro w'
    go_simp
    with_reducible rfl
  rotate_left
  · simp only [Act.put, List.setIfInBounds_toArray, List.set_cons_zero, List.set_cons_succ, i64_w, i32_w]
    rfl
  refine pure_ (i := 15) (N := (some 60)) (v := ?_) (a' := ?_) #[true, true, true, true, true, true, true, true, true, true, true, true, true, true, true, true, false, false, false, false, false, false, false, false, false, false, false, false, false] rfl rfl (by kernel_rfl) (fun _ _ _ h => h) (Or.inl ⟨by rfl, ?_⟩) ?_ ?_
  rotate_left
  · intro w'
    go_simp
    with_reducible rfl
  rotate_left
  · simp only [Act.put, List.setIfInBounds_toArray, List.set_cons_zero, List.set_cons_succ, i64_w, i32_w]
    rfl
  refine pure_ (i := 16) (N := (some 61)) (v := ?_) (a' := ?_) #[true, true, true, true, true, true, true, true, true, true, true, true, true, true, true, true, true, false, false, false, false, false, false, false, false, false, false, false, false] rfl rfl (by kernel_rfl) (fun _ _ _ h => h) (Or.inl ⟨by rfl, ?_⟩) ?_ ?_
  rotate_left
  · intro w'
    go_simp
    with_reducible rfl
  rotate_left
  · simp only [Act.put, List.setIfInBounds_toArray, List.set_cons_zero, List.set_cons_succ, i64_w, i32_w]
    rfl
  refine pure_ (i := 17) (N := (some 62)) (v := ?_) (a' := ?_) #[true, true, true, true, true, true, true, true, true, true, true, true, true, true, true, true, true, true, false, false, false, false, false, false, false, false, false, false, false] rfl rfl (by kernel_rfl) (fun _ _ _ h => h) (Or.inl ⟨by rfl, ?_⟩) ?_ ?_
  rotate_left
  · intro w'
    go_simp
    with_reducible rfl
  rotate_left
  · simp only [Act.put, List.setIfInBounds_toArray, List.set_cons_zero, List.set_cons_succ, i64_w, i32_w]
    rfl
  refine pure_ (i := 18) (N := (some 63)) (v := ?_) (a' := ?_) #[true, true, true, true, true, true, true, true, true, true, true, true, true, true, true, true, true, true, true, false, false, false, false, false, false, false, false, false, false] rfl rfl (by kernel_rfl) (fun _ _ _ h => h) (Or.inl ⟨by rfl, ?_⟩) ?_ ?_
  rotate_left
  · intro w'
    go_simp
    with_reducible rfl
  rotate_left
  · simp only [Act.put, List.setIfInBounds_toArray, List.set_cons_zero, List.set_cons_succ, i64_w, i32_w]
    rfl
  refine pure_ (i := 19) (N := (some 64)) (v := ?_) (a' := ?_) #[true, true, true, true, true, true, true, true, true, true, true, true, true, true, true, true, true, true, true, true, false, false, false, false, false, false, false, false, false] rfl rfl (by kernel_rfl) (fun _ _ _ h => h) (Or.inl ⟨by rfl, ?_⟩) ?_ ?_
  rotate_left
  · intro w'
    go_simp
    with_reducible rfl
  rotate_left
  · simp only [Act.put, List.setIfInBounds_toArray, List.set_cons_zero, List.set_cons_succ, i64_w, i32_w]
    rfl
  refine pure_ (i := 20) (N := (some 65)) (v := ?_) (a' := ?_) #[true, true, true, true, true, true, true, true, true, true, true, true, true, true, true, true, true, true, true, true, true, false, false, false, false, false, false, false, false] rfl rfl (by kernel_rfl) (fun _ _ _ h => h) (Or.inl ⟨by rfl, ?_⟩) ?_ ?_
  rotate_left
  · intro w'
    go_simp
    with_reducible rfl
  rotate_left
  · simp only [Act.put, List.setIfInBounds_toArray, List.set_cons_zero, List.set_cons_succ, i64_w, i32_w]
    rfl
  refine take_ (i := 21) (N := (some 66)) (v := .agg S0) (a' := ?_) #[true, true, true, true, true, true, true, true, true, true, true, true, true, true, true, true, true, true, true, true, true, true, false, false, false, false, false, false, false] rfl rfl (by kernel_rfl) (fun _ _ _ h => h) (Or.inl ⟨by rfl, ?_⟩) hHeld ?_ ?_
  · intro w' s0
    exact ld_op 24 _ rfl B0 rfl s0 Try.underlying24 rfl (by kernel_rfl) zS0.out
  rotate_left
  · simp only [Act.put, List.setIfInBounds_toArray, List.set_cons_zero, List.set_cons_succ, i64_w, i32_w]
    rfl
  refine pure_ (i := 22) (N := (some 67)) (v := ?_) (a' := ?_) #[true, true, true, true, true, true, true, true, true, true, true, true, true, true, true, true, true, true, true, true, true, true, true, false, false, false, false, false, false] rfl rfl (by kernel_rfl) (fun _ _ _ h => h) (Or.inl ⟨by rfl, ?_⟩) ?_ ?_
  rotate_left
  · intro w'
    go_simp
    with_reducible rfl
  rotate_left
  · simp only [Act.put, List.setIfInBounds_toArray, List.set_cons_zero, List.set_cons_succ, i64_w, i32_w]
    rfl
  refine pure_ (i := 23) (N := (some 68)) (v := ?_) (a' := ?_) #[true, true, true, true, true, true, true, true, true, true, true, true, true, true, true, true, true, true, true, true, true, true, true, true, false, false, false, false, false] rfl rfl (by kernel_rfl) (fun _ _ _ h => h) (Or.inl ⟨by rfl, ?_⟩) ?_ ?_
  rotate_left
  · intro w'
    go_simp
    with_reducible rfl
  rotate_left
  · simp only [Act.put, List.setIfInBounds_toArray, List.set_cons_zero, List.set_cons_succ, i64_w, i32_w]
    rfl
  refine pure_ (i := 24) (N := (some 69)) (v := ?_) (a' := ?_) #[true, true, true, true, true, true, true, true, true, true, true, true, true, true, true, true, true, true, true, true, true, true, true, true, true, false, false, false, false] rfl rfl (by kernel_rfl) (fun _ _ _ h => h) (Or.inl ⟨by rfl, ?_⟩) ?_ ?_
  rotate_left
  · intro w'
    go_simp
    with_reducible rfl
  rotate_left
  · simp only [Act.put, List.setIfInBounds_toArray, List.set_cons_zero, List.set_cons_succ, i64_w, i32_w]
    rfl
  refine one_ (i := 25) (N := (some 70)) #[true, true, true, true, true, true, true, true, true, true, true, true, true, true, true, true, true, true, true, true, true, true, true, true, true, true, false, false, false] rfl rfl (by kernel_rfl) (by decide) (fun K hK => ?_)
  refine goes_ Try.func18 (by kernel_rfl) rfl #[.agg S0, .int .i64 k, .int .i64 g, .int .i64 x] (by rfl) rfl rfl (by (try simp only [List.map_toArray, List.map_cons, List.map_nil]); first | done | rfl) ?_
  refine (C18.out _ HEd.out).mono ?_
  rintro e Ve ⟨rfl, hb4⟩
  have HSe : Hid (Ve.heap[B0]? = some (.cells S0 24 (0, 0))) := Lib.hid ((hb4.block B0 (blk_lt HSd.out)).trans HSd.out)
  have HEe : Hid (Below B0 w Ve) := Lib.hid ((HEd.out).trans (hb4.mono (sz_le hB0.out HEd.out.size)))
  refine ⟨_, rfl, ?_⟩
  refine hK.out _ _ HSe.out (fun hHeld => ?_)
  clear hb4 HSd HEd
  clear hK K
  refine norm_ (a' := ?_) ?_ ?_
  rotate_left
  · show Act.put _ (some 70) _ = _
    simp only [Act.put, List.setIfInBounds_toArray, List.set_cons_zero, List.set_cons_succ, i64_w, i32_w]
    rfl
  refine pure_ (i := 26) (N := (some 71)) (v := ?_) (a' := ?_) #[true, true, true, true, true, true, true, true, true, true, true, true, true, true, true, true, true, true, true, true, true, true, true, true, true, true, true, false, false] rfl rfl (by kernel_rfl) (fun _ _ _ h => h) (Or.inl ⟨by rfl, ?_⟩) ?_ ?_
  rotate_left
  · intro w'
    go_simp
    with_reducible rfl
  rotate_left
  · simp only [Act.put, List.setIfInBounds_toArray, List.set_cons_zero, List.set_cons_succ, i64_w, i32_w]
    rfl
  refine pure_ (i := 27) (N := (some 72)) (v := ?_) (a' := ?_) #[true, true, true, true, true, true, true, true, true, true, true, true, true, true, true, true, true, true, true, true, true, true, true, true, true, true, true, true, false] rfl rfl (by kernel_rfl) (fun _ _ _ h => h) (Or.inl ⟨by rfl, ?_⟩) ?_ ?_
  rotate_left
  · intro w'
    go_simp
    with_reducible rfl
  rotate_left
  · simp only [Act.put, List.setIfInBounds_toArray, List.set_cons_zero, List.set_cons_succ, i64_w, i32_w]
    rfl
  refine pure_ (i := 28) (N := (some 8)) (v := ?_) (a' := ?_) #[true, true, true, true, true, true, true, true, true, true, true, true, true, true, true, true, true, true, true, true, true, true, true, true, true, true, true, true, true] rfl rfl (by kernel_rfl) (fun _ _ _ h => h) (Or.inl ⟨by rfl, ?_⟩) ?_ ?_
  rotate_left
  · intro w'
    go_simp
    with_reducible rfl
  rotate_left
  · simp only [Act.put, List.setIfInBounds_toArray, List.set_cons_zero, List.set_cons_succ, i64_w, i32_w]
    rfl
  refine done_ (by kernel_rfl) ?_
  go_wp2
  go_ret
  exact ⟨rfl, by first | exact HEe.out | exact HEe.out.drew | exact pw_below_drewN HEe.out _⟩
theorem next_walk (w : World) (B : Int) (A : Option Addr) (l : List S39) (cap : Nat) (hc : l.length ≤ cap) (hC : Kd.C k39 w A l.length l) (a b c : Int) (ha : 0 ≤ a ∧ a ≤ 255) (hb : 0 ≤ b ∧ b ≤ 4294967295) (hcc : 0 ≤ c ∧ c ≤ 4294967295) : Calls Try.prog 3 #[.agg #[.int .i64 B, .slice A l.length cap], .int .u8 a, .int .u32 b, .int .u32 c] w fun e w' => e = .returned (.bool true) ∧ Below w.heap.size w w' := by
  obtain ⟨b, hf, pf⟩ := few_tot B l
  cases b with
  | false => exact next_first w B A l cap hc hC a b c hf
  | true =>
    obtain ⟨b, hr, pr⟩ := right_tot B l
    cases b with
    | false => exact next_right w B A l cap hc hC a b c hf hr
    | true => exact next_main w B A l cap hc hC a b c ha hb hcc hf hr (pf rfl) (pr rfl)
theorem next_row (w : World) (B : Int) (A : Option Addr) (l : List S39) (cap : Nat) (hc : l.length ≤ cap) (hC : Kd.C k39 w A l.length l) (a : Int) (ha : (Lit.int .u8 a).wf = true) (b : Int) (hb : (Lit.int .u32 b).wf = true) (c : Int) (hcc : (Lit.int .u32 c).wf = true) : Calls Try.prog 3 #[.agg #[.int .i64 B, .slice A l.length cap], .int .u8 a, .int .u32 b, .int .u32 c] w fun e w' => e = .returned (.bool true) ∧ Below w.heap.size w w' :=
  next_walk w B A l cap hc hC a b c (Args.bd_u8 ha) (Args.bd_u32 hb) (Args.bd_u32 hcc)
end Go.Proofs.Ytnidcoooenhebaa.PS
