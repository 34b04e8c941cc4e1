/- The law FixBelow, walked. -/
import Derived.Test.YtnidcoooenhebaaGr
namespace Go.Proofs.Ytnidcoooenhebaa.PS
open Go.RowKit Go.Proofs.Ytnidcoooenhebaa.PC Go.Proofs.YtnidcoooenhebaaW.PrintWords Go.Proofs.YtnidcoooenhebaaW.PrintLast Go.Proofs.YtnidcoooenhebaaW.PrintMore
attribute [local go_sem] max2_int min2_int max_two min_two max_three min_three max_four min_four   -- for this text's walks alone
set_option linter.unusedVariables false
set_option linter.unusedSimpArgs false
set_option maxRecDepth 100000 in
set_option maxHeartbeats 6000000 in
theorem below_first (w : World) (B : Int) (A : Option Addr) (l : List S39) (cap : Nat) (hc : l.length ≤ cap) (hC : Kd.C k39 w A l.length l) (a b : Int) (hf : Ev (fun k => pendulumref19_Small.f k B l) false) : Calls Try.prog 8 #[.agg #[.int .i64 B, .slice A l.length cap], .int .u8 a, .int .u32 b] w fun e w' => e = .returned (.bool true) ∧ Below w.heap.size w w' := by
  obtain ⟨S0, eS0⟩ : ∃ S0 : Array Value, S0 = #[.int .i64 B, .slice A l.length cap] := ⟨_, rfl⟩
  rw [← eS0]
  have zS0 : Hid (S0.size = 2) := Lib.hid (by rw [eS0]; rfl)
  replace eS0 := Lib.hid eS0
  obtain ⟨B0, hB0⟩ : ∃ B, w.heap.size = B := ⟨_, rfl⟩
  rw [hB0]
  obtain ⟨V0, hV0⟩ : ∃ V, w.alloc (.cells S0 24) = V := ⟨_, rfl⟩
  have Hs : Hid (V0.heap[B0]? = some (.cells S0 24 (0, 0))) := Lib.hid (by rw [← hV0]; exact (box_new hB0).1)
  have HE : Hid (Below B0 w V0) := Lib.hid (by rw [← hV0, ← hB0]; exact (Below.refl _ _).alloc (Nat.le_refl _) _)
  go_enter Try.func8, Try.ntmps8
  go_upto_region 1 with (fail)
  replace hB0 := Lib.hid hB0
  replace hV0 := Lib.hid hV0
  go_wp2_with fail
  refine (awake_walk _).mono ?_; rintro e V_1 ⟨rfl, hb_2⟩
  have H_3 : Hid (V_1.heap[B0]? = some (.cells S0 24 (0, 0))) := Lib.hid ((hb_2.block B0 (blk_lt Hs.out)).trans Hs.out)
  have HE_4 : Hid (Below B0 w V_1) := Lib.hid (HE.out.trans (hb_2.mono (sz_le hB0.out HE.out.size)))
  clear HE Hs
  clear hb_2
  go_wp2_with (first | ((with_reducible refine wpl_gate (T := 24) rfl ?_); refine wpl_ld _ _ rfl (by rfl) B0 rfl H_3.out Try.underlying24 rfl (by kernel_rfl) zS0.out ?_))
  refine (smallq_c hf hC hc hB0.out HE_4.out _ eS0.out).mono ?_; rintro e V_5 ⟨rfl, hb_6⟩
  have H_7 : Hid (V_5.heap[B0]? = some (.cells S0 24 (0, 0))) := Lib.hid ((hb_6.block B0 (blk_lt H_3.out)).trans H_3.out)
  have HE_8 : Hid (Below B0 w V_5) := Lib.hid (HE_4.out.trans (hb_6.mono (sz_le hB0.out HE_4.out.size)))
  clear HE_4 H_3
  clear hb_6
  go_wp2_with fail
  refine (awake_walk _).mono ?_; rintro e V_9 ⟨rfl, hb_10⟩
  have H_11 : Hid (V_9.heap[B0]? = some (.cells S0 24 (0, 0))) := Lib.hid ((hb_10.block B0 (blk_lt H_7.out)).trans H_7.out)
  have HE_12 : Hid (Below B0 w V_9) := Lib.hid (HE_8.out.trans (hb_10.mono (sz_le hB0.out HE_8.out.size)))
  clear HE_8 H_7
  clear hb_10
  go_wp2
  go_ret
  exact ⟨rfl, HE_12.out⟩
set_option maxRecDepth 100000 in
set_option maxHeartbeats 6000000 in
theorem below_right (w : World) (B : Int) (A : Option Addr) (l : List S39) (cap : Nat) (hc : l.length ≤ cap) (hC : Kd.C k39 w A l.length l) (a b : Int) (hf : Ev (fun k => pendulumref19_Small.f k B l) true) (hr : Ev (fun k => pendulumref05_Right.f k B l) false) : Calls Try.prog 8 #[.agg #[.int .i64 B, .slice A l.length cap], .int .u8 a, .int .u32 b] w fun e w' => e = .returned (.bool true) ∧ Below w.heap.size w w' := by
  obtain ⟨S0, eS0⟩ : ∃ S0 : Array Value, S0 = #[.int .i64 B, .slice A l.length cap] := ⟨_, rfl⟩
  rw [← eS0]
  have zS0 : Hid (S0.size = 2) := Lib.hid (by rw [eS0]; rfl)
  replace eS0 := Lib.hid eS0
  obtain ⟨B0, hB0⟩ : ∃ B, w.heap.size = B := ⟨_, rfl⟩
  rw [hB0]
  obtain ⟨V0, hV0⟩ : ∃ V, w.alloc (.cells S0 24) = V := ⟨_, rfl⟩
  have Hs : Hid (V0.heap[B0]? = some (.cells S0 24 (0, 0))) := Lib.hid (by rw [← hV0]; exact (box_new hB0).1)
  have HE : Hid (Below B0 w V0) := Lib.hid (by rw [← hV0, ← hB0]; exact (Below.refl _ _).alloc (Nat.le_refl _) _)
  go_enter Try.func8, Try.ntmps8
  go_upto_region 1 with (fail)
  replace hB0 := Lib.hid hB0
  replace hV0 := Lib.hid hV0
  go_wp2_with fail
  refine (awake_walk _).mono ?_; rintro e V_13 ⟨rfl, hb_14⟩
  have H_15 : Hid (V_13.heap[B0]? = some (.cells S0 24 (0, 0))) := Lib.hid ((hb_14.block B0 (blk_lt Hs.out)).trans Hs.out)
  have HE_16 : Hid (Below B0 w V_13) := Lib.hid (HE.out.trans (hb_14.mono (sz_le hB0.out HE.out.size)))
  clear HE Hs
  clear hb_14
  go_wp2_with (first | ((with_reducible refine wpl_gate (T := 24) rfl ?_); refine wpl_ld _ _ rfl (by rfl) B0 rfl H_15.out Try.underlying24 rfl (by kernel_rfl) zS0.out ?_))
  refine (smallq_c hf hC hc hB0.out HE_16.out _ eS0.out).mono ?_; rintro e V_17 ⟨rfl, hb_18⟩
  have H_19 : Hid (V_17.heap[B0]? = some (.cells S0 24 (0, 0))) := Lib.hid ((hb_18.block B0 (blk_lt H_15.out)).trans H_15.out)
  have HE_20 : Hid (Below B0 w V_17) := Lib.hid (HE_16.out.trans (hb_18.mono (sz_le hB0.out HE_16.out.size)))
  clear HE_16 H_15
  clear hb_18
  go_wp2_with (first | ((with_reducible refine wpl_gate (T := 24) rfl ?_); refine wpl_ld _ _ rfl (by rfl) B0 rfl H_19.out Try.underlying24 rfl (by kernel_rfl) zS0.out ?_))
  refine (rightq_c hr hC hc hB0.out HE_20.out _ eS0.out).mono ?_; rintro e V_21 ⟨rfl, hb_22⟩
  have H_23 : Hid (V_21.heap[B0]? = some (.cells S0 24 (0, 0))) := Lib.hid ((hb_22.block B0 (blk_lt H_19.out)).trans H_19.out)
  have HE_24 : Hid (Below B0 w V_21) := Lib.hid (HE_20.out.trans (hb_22.mono (sz_le hB0.out HE_20.out.size)))
  clear HE_20 H_19
  clear hb_22
  go_wp2_with fail
  refine (awake_walk _).mono ?_; rintro e V_25 ⟨rfl, hb_26⟩
  have H_27 : Hid (V_25.heap[B0]? = some (.cells S0 24 (0, 0))) := Lib.hid ((hb_26.block B0 (blk_lt H_23.out)).trans H_23.out)
  have HE_28 : Hid (Below B0 w V_25) := Lib.hid (HE_24.out.trans (hb_26.mono (sz_le hB0.out HE_24.out.size)))
  clear HE_24 H_23
  clear hb_26
  go_wp2
  go_ret
  exact ⟨rfl, HE_28.out⟩
theorem set_bld (x : Int) (A : Option Addr) (n c : Nat) {L : List (Nat × Value)} (h : L = [(0, .int .i64 x), (1, .slice A n c)]) {M : Array Value} (eM : M = #[.int .i64 x, .slice A n c]) : Try.prog.built 24 L = some M := by
  subst h eM
  kernel_rfl
theorem lo_bld {L : List (Nat × Value)} (h : L = [(0, .string ⟨#[122, 122, 122]⟩), (1, .int .i64 9), (2, .int .i64 9), (3, .int .i64 9), (4, .int .i64 9), (6, .int .i64 7), (7, .int .i64 1), (8, .int .i64 1), (9, .int .i64 2), (10, .int .i64 255)]) {M : Array Value} (eM : M = #[.string ⟨#[122, 122, 122]⟩, .int .i64 9, .int .i64 9, .int .i64 9, .int .i64 9, .int .i64 0, .int .i64 7, .int .i64 1, .int .i64 1, .int .i64 2, .int .i64 255]) : Try.prog.built 39 L = some M := by
  subst h eM
  kernel_rfl
set_option maxRecDepth 100000 in
set_option maxHeartbeats 6000000 in
theorem below_long (w : World) (B : Int) (A : Option Addr) (l : List S39) (cap : Nat) (hc : l.length ≤ cap) (hC : Kd.C k39 w A l.length l) (a b : Int) (ha : 0 ≤ a ∧ a ≤ 255) (hb : 0 ≤ b ∧ b ≤ 4294967295) (hf : Ev (fun k => pendulumref19_Small.f k B l) true) (hr : Ev (fun k => pendulumref05_Right.f k B l) true) (sm : l.length ≤ 16 ∧ ∀ j : Nat, j < l.length → (rd_T39 l j).f2 ≤ 3000) (ok : OkS B l) (h15 : 15 < l.length) : Calls Try.prog 8 #[.agg #[.int .i64 B, .slice A l.length cap], .int .u8 a, .int .u32 b] w fun e w' => e = .returned (.bool true) ∧ Below w.heap.size w w' := by
  obtain ⟨S0, eS0⟩ : ∃ S0 : Array Value, S0 = #[.int .i64 B, .slice A l.length cap] := ⟨_, rfl⟩
  rw [← eS0]
  have zS0 : Hid (S0.size = 2) := Lib.hid (by rw [eS0]; rfl)
  replace eS0 := Lib.hid eS0
  obtain ⟨B0, hB0⟩ : ∃ B, w.heap.size = B := ⟨_, rfl⟩
  rw [hB0]
  obtain ⟨V0, hV0⟩ : ∃ V, w.alloc (.cells S0 24) = V := ⟨_, rfl⟩
  have Hs : Hid (V0.heap[B0]? = some (.cells S0 24 (0, 0))) := Lib.hid (by rw [← hV0]; exact (box_new hB0).1)
  have HE : Hid (Below B0 w V0) := Lib.hid (by rw [← hV0, ← hB0]; exact (Below.refl _ _).alloc (Nat.le_refl _) _)
  go_enter Try.func8, Try.ntmps8
  go_upto_region 1 with (fail)
  replace hB0 := Lib.hid hB0
  replace hV0 := Lib.hid hV0
  go_wp2_with fail
  refine (awake_walk _).mono ?_; rintro e V_29 ⟨rfl, hb_30⟩
  have H_31 : Hid (V_29.heap[B0]? = some (.cells S0 24 (0, 0))) := Lib.hid ((hb_30.block B0 (blk_lt Hs.out)).trans Hs.out)
  have HE_32 : Hid (Below B0 w V_29) := Lib.hid (HE.out.trans (hb_30.mono (sz_le hB0.out HE.out.size)))
  clear HE Hs
  clear hb_30
  go_wp2_with (first | ((with_reducible refine wpl_gate (T := 24) rfl ?_); refine wpl_ld _ _ rfl (by rfl) B0 rfl H_31.out Try.underlying24 rfl (by kernel_rfl) zS0.out ?_))
  refine (smallq_c hf hC hc hB0.out HE_32.out _ eS0.out).mono ?_; rintro e V_33 ⟨rfl, hb_34⟩
  have H_35 : Hid (V_33.heap[B0]? = some (.cells S0 24 (0, 0))) := Lib.hid ((hb_34.block B0 (blk_lt H_31.out)).trans H_31.out)
  have HE_36 : Hid (Below B0 w V_33) := Lib.hid (HE_32.out.trans (hb_34.mono (sz_le hB0.out HE_32.out.size)))
  clear HE_32 H_31
  clear hb_34
  go_wp2_with (first | ((with_reducible refine wpl_gate (T := 24) rfl ?_); refine wpl_ld _ _ rfl (by rfl) B0 rfl H_35.out Try.underlying24 rfl (by kernel_rfl) zS0.out ?_))
  refine (rightq_c hr hC hc hB0.out HE_36.out _ eS0.out).mono ?_; rintro e V_37 ⟨rfl, hb_38⟩
  have H_39 : Hid (V_37.heap[B0]? = some (.cells S0 24 (0, 0))) := Lib.hid ((hb_38.block B0 (blk_lt H_35.out)).trans H_35.out)
  have HE_40 : Hid (Below B0 w V_37) := Lib.hid (HE_36.out.trans (hb_38.mono (sz_le hB0.out HE_36.out.size)))
  clear HE_36 H_35
  clear hb_38
  have c_41 : V_37.cell? ⟨B0, 1, none⟩ = some (.slice A l.length cap) := by rw [blk_cell H_39.out, eS0.out]; rfl
  have hd15 : decide (15 < l.length) = true := by simp; omega
  go_wp2_with fail
  refine (awake_walk _).mono ?_; rintro e V_42 ⟨rfl, hb_43⟩
  have H_44 : Hid (V_42.heap[B0]? = some (.cells S0 24 (0, 0))) := Lib.hid ((hb_43.block B0 (blk_lt H_39.out)).trans H_39.out)
  have HE_45 : Hid (Below B0 w V_42) := Lib.hid (HE_40.out.trans (hb_43.mono (sz_le hB0.out HE_40.out.size)))
  clear c_41
  clear HE_40 H_39
  clear hb_43
  go_wp2
  go_ret
  exact ⟨rfl, HE_45.out⟩
set_option maxRecDepth 100000 in
set_option maxHeartbeats 6000000 in
theorem below_real (w : World) (B : Int) (A : Option Addr) (l : List S39) (cap : Nat) (hc : l.length ≤ cap) (hC : Kd.C k39 w A l.length l) (a b : Int) (ha : 0 ≤ a ∧ a ≤ 255) (hb : 0 ≤ b ∧ b ≤ 4294967295) (hf : Ev (fun k => pendulumref19_Small.f k B l) true) (hr : Ev (fun k => pendulumref05_Right.f k B l) true) (sm : l.length ≤ 16 ∧ ∀ j : Nat, j < l.length → (rd_T39 l j).f2 ≤ 3000) (ok : OkS B l) (h15 : l.length ≤ 15) : Calls Try.prog 8 #[.agg #[.int .i64 B, .slice A l.length cap], .int .u8 a, .int .u32 b] w fun e w' => e = .returned (.bool true) ∧ Below w.heap.size w w' := by
  have hlen := ok.2.2.1
  have hlen2 := ok.2.2.2.1
  obtain ⟨k, hk⟩ : ∃ k, k = a % (l.length : Int) := ⟨_, rfl⟩
  have hk0 : 0 ≤ k := by rw [hk]; exact Int.emod_nonneg _ (by omega)
  have hk1 : k < (l.length : Int) := by rw [hk]; exact Int.emod_lt_of_pos _ (by omega)
  obtain ⟨g, hg⟩ : ∃ g, g = 1 + b % 1049576 := ⟨_, rfl⟩
  have hg1 : 1 ≤ g := by omega
  have hg2 : g ≤ 1049576 := by omega
  obtain ⟨ad, rfl, _⟩ := row_at hC hk0 hk1
  replace hk := Lib.hid hk
  replace hg := Lib.hid hg
  obtain ⟨S0, eS0⟩ : ∃ S0 : Array Value, S0 = #[.int .i64 B, .slice (some ad) l.length cap] := ⟨_, rfl⟩
  rw [← eS0]
  have zS0 : Hid (S0.size = 2) := Lib.hid (by rw [eS0]; rfl)
  replace eS0 := Lib.hid eS0
  obtain ⟨B0, hB0⟩ : ∃ B, w.heap.size = B := ⟨_, rfl⟩
  rw [hB0]
  obtain ⟨V0, hV0⟩ : ∃ V, w.alloc (.cells S0 24) = V := ⟨_, rfl⟩
  have Hs : Hid (V0.heap[B0]? = some (.cells S0 24 (0, 0))) := Lib.hid (by rw [← hV0]; exact (box_new hB0).1)
  have HE : Hid (Below B0 w V0) := Lib.hid (by rw [← hV0, ← hB0]; exact (Below.refl _ _).alloc (Nat.le_refl _) _)
  go_enter Try.func8, Try.ntmps8
  go_upto_region 1 with (fail)
  replace hB0 := Lib.hid hB0
  replace hV0 := Lib.hid hV0
  have hfl := Lib.hid (fun (W : World) (hW : Below B0 w W) => fl_cells (Kd.C_below hC (below_to hB0.out hW)))
  obtain ⟨U, eU⟩ : ∃ A : Array Value, A = #[.string ⟨#[]⟩, .int .i64 0, .int .i64 0, .int .i64 0, .int .i64 0, .int .i64 0, .int .i64 0, .int .i64 0, .int .i64 0, .int .i64 0, .int .i64 0] := ⟨_, rfl⟩
  have zU : Hid (U.size = 11) := Lib.hid (by rw [eU]; rfl)
  have hzU : ∀ V : World, (zeroValue 39).run Try.prog V = .ok (.agg U) V := fun V => by rw [eU]; kernel_rfl
  replace eU := Lib.hid eU
  obtain ⟨ZS, eZS⟩ : ∃ A : Array Value, A = #[.int .i64 0, .slice none 0 0] := ⟨_, rfl⟩
  have zZS : Hid (ZS.size = 2) := Lib.hid (by rw [eZS]; rfl)
  have oZS : Hid (ZS.all (·.oneCell') = true) := Lib.hid (by rw [eZS]; simp [Value.oneCell'])
  replace eZS := Lib.hid eZS
  have hzS : ∀ V : World, (zeroValue 24).run Try.prog V = .ok (.agg ZS) V := fun V => by rw [eZS.out]; kernel_rfl
  obtain ⟨LW, eLW⟩ : ∃ A : Array Value, A = #[.string ⟨#[122, 122, 122]⟩, .int .i64 9, .int .i64 9, .int .i64 9, .int .i64 9, .int .i64 0, .int .i64 7, .int .i64 1, .int .i64 1, .int .i64 2, .int .i64 255] := ⟨_, rfl⟩
  have zLW : Hid (LW.size = 11) := Lib.hid (by rw [eLW]; rfl)
  have oLW : Hid (LW.all (·.oneCell') = true) := Lib.hid (by rw [eLW]; simp [Value.oneCell'])
  replace eLW := Lib.hid eLW
  have hfold : Hid (Array.foldl (fun (cs : Array Value) (x : Value × Nat) => cs.setIfInBounds x.snd x.fst) #[.string ⟨#[]⟩, .int .i64 0, .int .i64 0, .int .i64 0, .int .i64 0, .int .i64 0, .int .i64 0, .int .i64 0, .int .i64 0, .int .i64 0, .int .i64 0] LW.zipIdx 0 11 = LW) := Lib.hid (by rw [eLW.out]; simp)
  go_wp2_with fail
  refine (awake_walk _).mono ?_; rintro e V_46 ⟨rfl, hb_47⟩
  have H_48 : Hid (V_46.heap[B0]? = some (.cells S0 24 (0, 0))) := Lib.hid ((hb_47.block B0 (blk_lt Hs.out)).trans Hs.out)
  have HE_49 : Hid (Below B0 w V_46) := Lib.hid (HE.out.trans (hb_47.mono (sz_le hB0.out HE.out.size)))
  clear HE Hs
  clear hb_47
  go_wp2_with (first | ((with_reducible refine wpl_gate (T := 24) rfl ?_); refine wpl_ld _ _ rfl (by rfl) B0 rfl H_48.out Try.underlying24 rfl (by kernel_rfl) zS0.out ?_))
  refine (smallq_c hf hC hc hB0.out HE_49.out _ eS0.out).mono ?_; rintro e V_50 ⟨rfl, hb_51⟩
  have H_52 : Hid (V_50.heap[B0]? = some (.cells S0 24 (0, 0))) := Lib.hid ((hb_51.block B0 (blk_lt H_48.out)).trans H_48.out)
  have HE_53 : Hid (Below B0 w V_50) := Lib.hid (HE_49.out.trans (hb_51.mono (sz_le hB0.out HE_49.out.size)))
  clear HE_49 H_48
  clear hb_51
  go_wp2_with (first | ((with_reducible refine wpl_gate (T := 24) rfl ?_); refine wpl_ld _ _ rfl (by rfl) B0 rfl H_52.out Try.underlying24 rfl (by kernel_rfl) zS0.out ?_))
  refine (rightq_c hr hC hc hB0.out HE_53.out _ eS0.out).mono ?_; rintro e V_54 ⟨rfl, hb_55⟩
  have H_56 : Hid (V_54.heap[B0]? = some (.cells S0 24 (0, 0))) := Lib.hid ((hb_55.block B0 (blk_lt H_52.out)).trans H_52.out)
  have HE_57 : Hid (Below B0 w V_54) := Lib.hid (HE_53.out.trans (hb_55.mono (sz_le hB0.out HE_53.out.size)))
  clear HE_53 H_52
  clear hb_55
  have c_58 : V_54.cell? ⟨B0, 1, none⟩ = some (.slice (some ad) l.length cap) := by rw [blk_cell H_56.out, eS0.out]; rfl
  have hd15 : decide (15 < l.length) = false := by simp; omega
  go_wp2_with (first | ((with_reducible refine wpl_gate (T := 24) rfl ?_); refine wpl_ld _ _ rfl (by rfl) B0 rfl H_56.out Try.underlying24 rfl (by kernel_rfl) zS0.out ?_))
  refine (task_c _ B (some ad) l cap (Kd.C_below hC (below_to hB0.out HE_57.out)) hc hlen a b ha hb _ eS0.out k g hk.out hg.out).mono ?_; rintro e V_59 ⟨rfl, hb_60⟩
  have H_61 : Hid (V_59.heap[B0]? = some (.cells S0 24 (0, 0))) := Lib.hid ((hb_60.block B0 (blk_lt H_56.out)).trans H_56.out)
  have HE_62 : Hid (Below B0 w V_59) := Lib.hid (HE_57.out.trans (hb_60.mono (sz_le hB0.out HE_57.out.size)))
  clear c_58
  clear HE_57 H_56
  clear hb_60
  clear hd15
  have hI := Lib.hid (And.intro H_61.out HE_62.out)
  go_wp2_with fail
  go_loopw [9] (fun j wr => ∃ n : Nat, j = .int .i64 (n : Int) ∧ n ≤ l.length ∧ NoLow l n ∧ wr.heap[B0]? = some (.cells S0 24 (0, 0)) ∧ Below B0 w wr) (fun j _ => l.length - (intOf j).toNat)
  case atStart => exact ⟨0, rfl, Nat.zero_le _, fun m hm => absurd hm (Nat.not_lt_zero m), hI.out.1, hI.out.2⟩
  case round =>
    clear hI H_61 HE_62
    obtain ⟨n, rfl, hn, hNl, HS, HE⟩ := hrel
    have c1r := (blk_cell HS 1).trans (show S0[1]? = some (.slice (some ad) l.length cap) by rw [eS0.out]; rfl)
    by_cases hlt : n < l.length
    · skip
      have hild : decide (n < l.length) = true := by simpa using hlt
      have hnl : (n : Int) < (l.length : Int) := by omega
      have hn0 : (0 : Int) ≤ (n : Int) := by omega
      obtain ⟨ad', ead, cf0, _, _, _, _, _, _, _, _, _, cf10⟩ := at_T39 (w := wr) (Kd.C_below hC (below_to hB0.out HE)) (n : Int) hn0 hnl
      injection ead with ead
      subst ead
      obtain ⟨t, ht⟩ : ∃ t, rd_T39 l n = t := ⟨_, rfl⟩
      rw [ht] at cf0 cf10
      simp only [Int.toNat_natCast] at cf0 cf10
      replace ht := Lib.hid ht
      replace HS := Lib.hid HS
      replace HE := Lib.hid HE
      have hwk : wrap64 ((n : Int) + 1) = ((n + 1 : Nat) : Int) := w1 (by omega)
      replace hNl := Lib.hid hNl
      cases q1 : (t.f10 == 255) with
      | true => clear hwk; go_wp2; go_ret; exact ⟨rfl, HE.out⟩
      | false =>
        cases q2 : (t.f0.toList == [122, 122, 122]) with
        | true => clear hwk; go_wp2; go_ret; exact ⟨rfl, HE.out⟩
        | false =>
          have hNn : Hid (NoLow l (n + 1)) := Lib.hid (fun m hm => by
            by_cases c : m = n
            · subst c; rw [ht.out]; exact ⟨by simpa using q1, fun h => by rw [h, ByteArray.toList_eq] at q2; exact absurd q2 (by decide)⟩
            · exact hNl.out m (by omega))
          go_wp2
          go_roundw
          case rel => exact ⟨n + 1, by first | rfl | go_num, by omega, hNn.out, HS.out, HE.out⟩
          case measure => simp [intOf] <;> omega
    · obtain rfl : n = l.length := by omega
      have hge : decide (l.length < l.length) = false := by simp
      replace HS := Lib.hid HS
      replace HE := Lib.hid HE
      clear hlt hn
      have hz := hzU
      obtain ⟨X_63, hX_65⟩ : ∃ X, wr.heap.size = X := ⟨_, rfl⟩
      obtain ⟨V_64, q_66_0, q_66_1, q_66_2, q_66_3⟩ := st_new (w := wr) (T := 39) hX_65 zU.out zLW.out oLW.out
      have ne_68 : B0 < X_63 := hX_65 ▸ blk_lt HS.out
      have H_67 : Hid (V_64.heap[B0]? = some (.cells S0 24 (0, 0))) := Lib.hid ((q_66_2 _ ne_68).trans HS.out)
      have ge_69 : B0 ≤ X_63 := hX_65 ▸ (sz_le hB0.out HE.out.size)
      have HE_70 : Hid (Below B0 w V_64) := Lib.hid (q_66_3 _ _ ge_69 HE.out)
      have H_71 := Lib.hid q_66_1
      clear q_66_1 q_66_2 q_66_3
      go_upto_region 10 with (first | ((with_reducible refine wpl_gateb (T := 39) rfl ?_); refine wpl_bld 39 _ rfl (by rfl) (lo_bld (by simp [go_sem]) eLW.out) ?_))
      clear q_66_0 hX_65
      clear c1r
      clear HE HS
      clear hz hzU hge
      obtain ⟨N0, hN0⟩ : ∃ N, V_64.heap.size = N := ⟨_, rfl⟩
      have ltB : B0 < N0 := hN0 ▸ blk_lt H_67.out
      have ltL : X_63 < N0 := hN0 ▸ blk_lt H_71.out
      have hBN : B0 ≤ N0 := Nat.le_of_lt ltB
      refine start_ (n := 12) (S := fun w' => w'.heap[B0]? = some (.cells S0 24 (0, 0)) ∧ w'.heap[X_63]? = some (.cells LW 39 (0, 0)) ∧ w'.cell? ⟨B0, 1, none⟩ = some (.slice (some ad) l.length cap) ∧ w'.cell? ⟨B0, 0, none⟩ = some (.int .i64 B)) (ds := [11]) #[false, false, false, false, false, false, false, false, false, false, false, false] (by kernel_rfl) rfl rfl ⟨H_67.out, H_71.out, (blk_cell H_67.out 1).trans (by rw [eS0.out]; rfl), (blk_cell H_67.out 0).trans (by rw [eS0.out]; rfl)⟩ (fun hHeld => ?_)
      refine pure_ (i := 0) (N := (some 66)) (v := ?_) (a' := ?_) #[true, false, false, false, false, false, false, false, false, false, false, false] rfl rfl (by kernel_rfl) (fun _ _ _ h => h) (Or.inl ⟨by rfl, ?_⟩) ?_ ?_
      rotate_left
      · intro w'
        go_simp
        with_reducible rfl
      rotate_left
      · simp only [Act.put, List.setIfInBounds_toArray, List.set_cons_zero, List.set_cons_succ, i64_w, i32_w]
        rfl
      refine take_ (i := 1) (N := (some 67)) (v := ?_) (a' := ?_) #[true, true, false, false, false, false, false, false, false, false, false, false] rfl rfl (by kernel_rfl) (fun _ _ _ h => h) (Or.inl ⟨by rfl, ?_⟩) hHeld ?_ ?_
      rotate_left
      · rintro w' ⟨s0, s1, s2, s3⟩
        go_simp
        with_reducible rfl
      rotate_left
      · simp only [Act.put, List.setIfInBounds_toArray, List.set_cons_zero, List.set_cons_succ, i64_w, i32_w]
        rfl
      refine pure_ (i := 3) (N := (some 69)) (v := ?_) (a' := ?_) #[true, true, false, true, false, false, false, false, false, false, false, false] rfl rfl (by kernel_rfl) (fun _ _ _ h => h) (Or.inl ⟨by rfl, ?_⟩) ?_ ?_
      rotate_left
      · intro w'
        go_simp
        with_reducible rfl
      rotate_left
      · simp only [Act.put, List.setIfInBounds_toArray, List.set_cons_zero, List.set_cons_succ, i64_w, i32_w]
        rfl
      refine take_ (i := 4) (N := (some 70)) (v := ?_) (a' := ?_) #[true, true, false, true, true, false, false, false, false, false, false, false] rfl rfl (by kernel_rfl) (fun _ _ _ h => h) (Or.inl ⟨by rfl, ?_⟩) hHeld ?_ ?_
      rotate_left
      · rintro w' ⟨s0, s1, s2, s3⟩
        go_simp
        with_reducible rfl
      rotate_left
      · simp only [Act.put, List.setIfInBounds_toArray, List.set_cons_zero, List.set_cons_succ, i64_w, i32_w]
        rfl
      refine take_ (i := 6) (N := (some 72)) (v := .agg LW) (a' := ?_) #[true, true, false, true, true, false, true, false, false, false, false, false] rfl rfl (by kernel_rfl) (fun _ _ _ h => h) (Or.inl ⟨by rfl, ?_⟩) hHeld ?_ ?_
      · rintro w' ⟨s0, s1, s2, s3⟩
        exact ld_op 39 _ rfl X_63 rfl s1 Try.underlying39 rfl (by kernel_rfl) zLW.out
      rotate_left
      · simp only [Act.put, List.setIfInBounds_toArray, List.set_cons_zero, List.set_cons_succ, i64_w, i32_w]
        rfl
      have HSd : Hid (V_64.drew.heap[B0]? = some (.cells S0 24 (0, 0))) := Lib.hid H_67.out
      have HLd : Hid (V_64.drew.heap[X_63]? = some (.cells LW 39 (0, 0))) := Lib.hid H_71.out
      have HEd : Hid (Below B0 w V_64.drew) := Lib.hid HE_70.out.drew
      have hNd : N0 ≤ V_64.drew.heap.size := Nat.le_of_eq hN0.symm
      clear hN0 hHeld H_67 H_71 HE_70
      generalize V_64.drew = Wd at HSd HLd HEd hNd ⊢
      refine join_ (σ := Value × Value × Value × Nat × Nat × Array Value × Nat) 1 #[true, true, true, true, true, true, true, true, true, true, true, false] (fun s_ => [(68, s_.1), (71, s_.2.1), (73, s_.2.2.1), (74, .slice (some ⟨s_.2.2.2.1, 0, none⟩) (l.length + 1) s_.2.2.2.2.1), (75, .agg s_.2.2.2.2.2.1), (11, .pointer (some ⟨s_.2.2.2.2.2.2, 0, none⟩))]) (fun s_ w' => w'.heap[B0]? = some (.cells S0 24 (0, 0)) ∧ Below B0 w w' ∧ w'.heap[s_.2.2.2.2.2.2]? = some (.cells ZS 24 (0, 0)) ∧ N0 ≤ s_.2.2.2.2.2.2 ∧ w'.ownsRow N0 39 11 (.slice (some ⟨s_.2.2.2.1, 0, none⟩) (l.length + 1) s_.2.2.2.2.1) (l.length + 1) (fl l ++ LW.toList) ∧ s_.2.2.2.1 ≠ s_.2.2.2.2.2.2 ∧ s_.2.2.2.2.2.1 = #[.int .i64 B, .slice (some ⟨s_.2.2.2.1, 0, none⟩) (l.length + 1) s_.2.2.2.2.1] ∧ w'.heap[X_63]? = some (.cells LW 39 (0, 0))) ?_ ?_
      rotate_left
      · intro hCont
        refine three_ (i := 2) (j := 7) (k := 10) (Ni := some 68) (Nj := some 73) (Nk := some 11) #[true, true, true, true, true, false, true, false, false, false, false, false] #[true, true, false, true, true, false, true, true, false, false, false, false] #[true, true, false, true, true, false, true, false, false, false, true, false] rfl rfl rfl rfl rfl rfl (by kernel_rfl) (by decide) (by decide) (by decide) (fun K hK => ?_) (fun K hK => ?_) (fun K hK => ?_)
        · skip
          obtain ⟨Xn1, hX1⟩ : ∃ X, Wd.heap.size = X := ⟨_, rfl⟩
          obtain ⟨Wn1, hV1⟩ : ∃ V, Wd.alloc (.cells #[] 39) = V := ⟨_, rfl⟩
          refine value_ (v := .slice (some ⟨Xn1, 0, none⟩) 0 0) (w1 := Wn1) rfl rfl (by subst hV1; subst hX1; go_simp) ?_
          have HSn1 : Hid (Wn1.heap[B0]? = some (.cells S0 24 (0, 0))) := Lib.hid (hV1 ▸ blk_alloc HSd.out _)
          have HLn1 : Hid (Wn1.heap[X_63]? = some (.cells LW 39 (0, 0))) := Lib.hid (hV1 ▸ blk_alloc HLd.out _)
          have HEn1 : Hid (Below B0 w Wn1) := Lib.hid (hV1 ▸ HEd.out.alloc (Nat.le_trans hBN hNd) _)
          have hNn1 : N0 ≤ Wn1.heap.size := by rw [← hV1, World.size_alloc]; exact Nat.le_succ_of_le hNd
          have hNX1 : N0 ≤ Xn1 := hX1 ▸ hNd
          have own1 : Hid (Wn1.ownsRow N0 39 11 (.slice (some ⟨Xn1, 0, none⟩) 0 0) 0 []) := Lib.hid ⟨rfl, .inr ⟨Xn1, 0, #[], rfl, hNX1, by rw [← hV1, ← hX1]; exact blk_new _ _, Nat.le_refl _, Nat.zero_le _, rfl, rfl⟩⟩
          refine hK.out _ _ ⟨HSn1.out, HLn1.out, (blk_cell HSn1.out 1).trans (by rw [eS0.out]; rfl), (blk_cell HSn1.out 0).trans (by rw [eS0.out]; rfl)⟩ (fun hHeld => ?_)
          clear hK K
          refine norm_ (a' := ?_) ?_ ?_
          rotate_left
          · show Act.put _ (some 68) _ = _
            simp only [Act.put, List.setIfInBounds_toArray, List.set_cons_zero, List.set_cons_succ, i64_w, i32_w]
            rfl
          clear hHeld
          refine three_ (i := 5) (j := 7) (k := 10) (Ni := some 71) (Nj := some 73) (Nk := some 11) #[true, true, true, true, true, true, true, false, false, false, false, false] #[true, true, true, true, true, false, true, true, false, false, false, false] #[true, true, true, true, true, false, true, false, false, false, true, false] rfl rfl rfl rfl rfl rfl (by kernel_rfl) (by decide) (by decide) (by decide) (fun K hK => ?_) (fun K hK => ?_) (fun K hK => ?_)
          · skip
            obtain ⟨v2, Wn2, hr2, ho2, hg2, hat2⟩ := app_t Wn1 N0 (.slice (some ⟨Xn1, 0, none⟩) 0 0) 0 [] own1.out ad l.length cap (fl l) (fl_len l) (hfl.out Wn1 HEn1.out) (fl_one l) (by omega) hNn1
            rw [Nat.zero_add, List.nil_append] at ho2
            refine value_ (v := v2) (w1 := Wn2) rfl rfl (app_op _ _ rfl rfl (by rfl) (by rfl) hr2) ?_
            have HSn2 : Hid (Wn2.heap[B0]? = some (.cells S0 24 (0, 0))) := Lib.hid (blk_grown HSn1.out hg2 (fun h => by have := own_base own1.out _ h.symm; omega))
            have HLn2 : Hid (Wn2.heap[X_63]? = some (.cells LW 39 (0, 0))) := Lib.hid (blk_grown HLn1.out hg2 (fun h => by have := own_base own1.out _ h.symm; omega))
            have HEn2 : Hid (Below B0 w Wn2) := Lib.hid (HEn1.out.grown hg2 (Nat.le_trans hBN hNn1) (fun k hk => Nat.le_trans hBN (own_base own1.out k hk)))
            have hNn2 : N0 ≤ Wn2.heap.size := Nat.le_trans hNn1 hg2.size
            have own2 := Lib.hid ho2
            refine hK.out _ _ ⟨HSn2.out, HLn2.out, (blk_cell HSn2.out 1).trans (by rw [eS0.out]; rfl), (blk_cell HSn2.out 0).trans (by rw [eS0.out]; rfl)⟩ (fun hHeld => ?_)
            clear hK K
            refine norm_ (a' := ?_) ?_ ?_
            rotate_left
            · show Act.put _ (some 71) _ = _
              simp only [Act.put, List.setIfInBounds_toArray, List.set_cons_zero, List.set_cons_succ, i64_w, i32_w]
              rfl
            clear hHeld
            refine two_ (i := 7) (j := 10) (Ni := some 73) (Nj := some 11) #[true, true, true, true, true, true, true, true, false, false, false, false] #[true, true, true, true, true, true, true, false, false, false, true, false] rfl rfl rfl rfl (by kernel_rfl) (by decide) (by decide) (fun K hK => ?_) (fun K hK => ?_)
            · skip
              obtain ⟨Xn3, hX3⟩ : ∃ X, Wn2.heap.size = X := ⟨_, rfl⟩
              obtain ⟨Wn3, hV3⟩ : ∃ V, Wn2.alloc (.cells LW 39) = V := ⟨_, rfl⟩
              refine value_ (v := .slice (some ⟨Xn3, 0, none⟩) 1 1) (w1 := Wn3) rfl rfl (by have hfold' := hfold.out; have hA11 := zLW.out; subst hV3; subst hX3; go_simp) ?_
              have HSn3 : Hid (Wn3.heap[B0]? = some (.cells S0 24 (0, 0))) := Lib.hid (hV3 ▸ blk_alloc HSn2.out _)
              have HLn3 : Hid (Wn3.heap[X_63]? = some (.cells LW 39 (0, 0))) := Lib.hid (hV3 ▸ blk_alloc HLn2.out _)
              have HEn3 : Hid (Below B0 w Wn3) := Lib.hid (hV3 ▸ HEn2.out.alloc (Nat.le_trans hBN hNn2) _)
              have hNn3 : N0 ≤ Wn3.heap.size := by rw [← hV3, World.size_alloc]; exact Nat.le_succ_of_le hNn2
              have hNX3 : N0 ≤ Xn3 := hX3 ▸ hNn2
              have own3 := Lib.hid (hV3 ▸ own2.out.alloc (.cells LW 39) : Wn3.ownsRow N0 39 11 v2 l.length (fl l))
              have b7n3 : Hid (Wn3.heap[Xn3]? = some (.cells LW 39 (0, 0))) := Lib.hid (by rw [← hV3, ← hX3]; exact blk_new _ _)
              have ne73 : (v2 : Value).ownBlock ≠ some Xn3 := fun h => by have := own_lt own2.out _ h; omega
              refine hK.out _ _ ⟨HSn3.out, HLn3.out, (blk_cell HSn3.out 1).trans (by rw [eS0.out]; rfl), (blk_cell HSn3.out 0).trans (by rw [eS0.out]; rfl)⟩ (fun hHeld => ?_)
              clear hK K
              refine norm_ (a' := ?_) ?_ ?_
              rotate_left
              · show Act.put _ (some 73) _ = _
                simp only [Act.put, List.setIfInBounds_toArray, List.set_cons_zero, List.set_cons_succ, i64_w, i32_w]
                rfl
              clear hHeld
              refine two_ (i := 8) (j := 10) (Ni := some 74) (Nj := some 11) #[true, true, true, true, true, true, true, true, true, false, false, false] #[true, true, true, true, true, true, true, true, false, false, true, false] rfl rfl rfl rfl (by kernel_rfl) (by decide) (by decide) (fun K hK => ?_) (fun K hK => ?_)
              · skip
                obtain ⟨v4, Wn4, hr4, ho4, hg4, hat4⟩ := app_t Wn3 N0 v2 l.length (fl l) own3.out ⟨Xn3, 0, none⟩ 1 1 LW.toList (by rw [Array.length_toList, zLW.out]) (fun j u hu => by rw [Addr.add_mid, Nat.zero_add, blk_cell b7n3.out]; simpa using hu) (fun v hv => (Array.all_eq_true_iff_forall_mem.1 oLW.out) v (by simpa using hv)) (by omega) hNn3
                obtain ⟨g4, c4, rfl, hgN4, _⟩ := ho4.form (by omega)
                refine value_ (v := .slice (some ⟨g4, 0, none⟩) (l.length + 1) c4) (w1 := Wn4) rfl rfl (app_op _ _ rfl rfl (by rfl) (by rfl) hr4) ?_
                have HSn4 : Hid (Wn4.heap[B0]? = some (.cells S0 24 (0, 0))) := Lib.hid (blk_grown HSn3.out hg4 (fun h => by have := own_base own3.out _ h.symm; omega))
                have HLn4 : Hid (Wn4.heap[X_63]? = some (.cells LW 39 (0, 0))) := Lib.hid (blk_grown HLn3.out hg4 (fun h => by have := own_base own3.out _ h.symm; omega))
                have HEn4 : Hid (Below B0 w Wn4) := Lib.hid (HEn3.out.grown hg4 (Nat.le_trans hBN hNn3) (fun k hk => Nat.le_trans hBN (own_base own3.out k hk)))
                have hNn4 : N0 ≤ Wn4.heap.size := Nat.le_trans hNn3 hg4.size
                have own4 := Lib.hid ho4
                refine hK.out _ _ ⟨HSn4.out, HLn4.out, (blk_cell HSn4.out 1).trans (by rw [eS0.out]; rfl), (blk_cell HSn4.out 0).trans (by rw [eS0.out]; rfl)⟩ (fun hHeld => ?_)
                clear hK K
                refine norm_ (a' := ?_) ?_ ?_
                rotate_left
                · show Act.put _ (some 74) _ = _
                  simp only [Act.put, List.setIfInBounds_toArray, List.set_cons_zero, List.set_cons_succ, i64_w, i32_w]
                  rfl
                clear hHeld
                obtain ⟨SO4, eSO4⟩ : ∃ A : Array Value, A = #[.int .i64 B, .slice (some ⟨g4, 0, none⟩) (l.length + 1) c4] := ⟨_, rfl⟩
                replace eSO4 := Lib.hid eSO4
                refine pure_ (i := 9) (N := (some 75)) (v := .agg SO4) (a' := ?_) #[true, true, true, true, true, true, true, true, true, true, false, false] rfl rfl (by kernel_rfl) (fun _ _ _ h => h) (Or.inl ⟨by rfl, ?_⟩) ?_ ?_
                · intro w'
                  exact bld_op 24 _ rfl (set_bld B (some ⟨g4, 0, none⟩) (l.length + 1) c4 (by simp [go_sem]) eSO4.out)
                rotate_left
                · simp only [Act.put, List.setIfInBounds_toArray, List.set_cons_zero, List.set_cons_succ, i64_w, i32_w]
                  rfl
                refine one_ (i := 10) (N := (some 11)) #[true, true, true, true, true, true, true, true, true, true, true, false] rfl rfl (by kernel_rfl) (by decide) (fun K hK => ?_)
                obtain ⟨Xn5, hX5⟩ : ∃ X, Wn4.heap.size = X := ⟨_, rfl⟩
                obtain ⟨Wn5, hV5⟩ : ∃ V, Wn4.alloc (.cells ZS 24) = V := ⟨_, rfl⟩
                refine value_ (v := .pointer (some ⟨Xn5, 0, none⟩)) (w1 := Wn5) rfl rfl (by have hz' := hzS; subst hV5; subst hX5; go_simp) ?_
                have HSn5 : Hid (Wn5.heap[B0]? = some (.cells S0 24 (0, 0))) := Lib.hid (hV5 ▸ blk_alloc HSn4.out _)
                have HLn5 : Hid (Wn5.heap[X_63]? = some (.cells LW 39 (0, 0))) := Lib.hid (hV5 ▸ blk_alloc HLn4.out _)
                have HEn5 : Hid (Below B0 w Wn5) := Lib.hid (hV5 ▸ HEn4.out.alloc (Nat.le_trans hBN hNn4) _)
                have hNn5 : N0 ≤ Wn5.heap.size := by rw [← hV5, World.size_alloc]; exact Nat.le_succ_of_le hNn4
                have hNX5 : N0 ≤ Xn5 := hX5 ▸ hNn4
                have own5 := Lib.hid (hV5 ▸ own4.out.alloc (.cells ZS 24) : Wn5.ownsRow N0 39 11 (.slice (some ⟨g4, 0, none⟩) (l.length + 1) c4) (l.length + 1) (fl l ++ LW.toList))
                have b10n5 : Hid (Wn5.heap[Xn5]? = some (.cells ZS 24 (0, 0))) := Lib.hid (by rw [← hV5, ← hX5]; exact blk_new _ _)
                have ne85 : g4 ≠ Xn5 := fun h => by have := own_lt own4.out g4 rfl; omega
                refine hK.out _ _ ⟨HSn5.out, HLn5.out, (blk_cell HSn5.out 1).trans (by rw [eS0.out]; rfl), (blk_cell HSn5.out 0).trans (by rw [eS0.out]; rfl)⟩ (fun hHeld => ?_)
                clear hK K
                refine norm_ (a' := ?_) ?_ ?_
                rotate_left
                · show Act.put _ (some 11) _ = _
                  simp only [Act.put, List.setIfInBounds_toArray, List.set_cons_zero, List.set_cons_succ, i64_w, i32_w]
                  rfl
                clear hHeld
                exact norm_ (by simp only [putAll, Act.put, List.setIfInBounds_toArray, List.set_cons_zero, List.set_cons_succ]) (hCont ((.slice (some ⟨Xn1, 0, none⟩) 0 0), v2, (.slice (some ⟨Xn3, 0, none⟩) 1 1), g4, c4, SO4, Xn5) _ ⟨HSn5.out, HEn5.out, b10n5.out, hNX5, own5.out, ne85, eSO4.out, HLn5.out⟩)
              · skip
                obtain ⟨Xn6, hX6⟩ : ∃ X, Wn3.heap.size = X := ⟨_, rfl⟩
                obtain ⟨Wn6, hV6⟩ : ∃ V, Wn3.alloc (.cells ZS 24) = V := ⟨_, rfl⟩
                refine value_ (v := .pointer (some ⟨Xn6, 0, none⟩)) (w1 := Wn6) rfl rfl (by have hz' := hzS; subst hV6; subst hX6; go_simp) ?_
                have HSn6 : Hid (Wn6.heap[B0]? = some (.cells S0 24 (0, 0))) := Lib.hid (hV6 ▸ blk_alloc HSn3.out _)
                have HLn6 : Hid (Wn6.heap[X_63]? = some (.cells LW 39 (0, 0))) := Lib.hid (hV6 ▸ blk_alloc HLn3.out _)
                have HEn6 : Hid (Below B0 w Wn6) := Lib.hid (hV6 ▸ HEn3.out.alloc (Nat.le_trans hBN hNn3) _)
                have hNn6 : N0 ≤ Wn6.heap.size := by rw [← hV6, World.size_alloc]; exact Nat.le_succ_of_le hNn3
                have hNX6 : N0 ≤ Xn6 := hX6 ▸ hNn3
                have b7n6 : Hid (Wn6.heap[Xn3]? = some (.cells LW 39 (0, 0))) := Lib.hid (hV6 ▸ blk_alloc b7n3.out _)
                have own6 := Lib.hid (hV6 ▸ own3.out.alloc (.cells ZS 24) : Wn6.ownsRow N0 39 11 v2 l.length (fl l))
                have b10n6 : Hid (Wn6.heap[Xn6]? = some (.cells ZS 24 (0, 0))) := Lib.hid (by rw [← hV6, ← hX6]; exact blk_new _ _)
                have ne106 : (v2 : Value).ownBlock ≠ some Xn6 := fun h => by have := own_lt own3.out _ h; omega
                refine hK.out _ _ ⟨HSn6.out, HLn6.out, (blk_cell HSn6.out 1).trans (by rw [eS0.out]; rfl), (blk_cell HSn6.out 0).trans (by rw [eS0.out]; rfl)⟩ (fun hHeld => ?_)
                clear hK K
                refine norm_ (a' := ?_) ?_ ?_
                rotate_left
                · show Act.put _ (some 11) _ = _
                  simp only [Act.put, List.setIfInBounds_toArray, List.set_cons_zero, List.set_cons_succ, i64_w, i32_w]
                  rfl
                clear hHeld
                refine one_ (i := 8) (N := (some 74)) #[true, true, true, true, true, true, true, true, true, false, true, false] rfl rfl (by kernel_rfl) (by decide) (fun K hK => ?_)
                obtain ⟨v7, Wn7, hr7, ho7, hg7, hat7⟩ := app_t Wn6 N0 v2 l.length (fl l) own6.out ⟨Xn3, 0, none⟩ 1 1 LW.toList (by rw [Array.length_toList, zLW.out]) (fun j u hu => by rw [Addr.add_mid, Nat.zero_add, blk_cell b7n6.out]; simpa using hu) (fun v hv => (Array.all_eq_true_iff_forall_mem.1 oLW.out) v (by simpa using hv)) (by omega) hNn6
                obtain ⟨g7, c7, rfl, hgN7, _⟩ := ho7.form (by omega)
                refine value_ (v := .slice (some ⟨g7, 0, none⟩) (l.length + 1) c7) (w1 := Wn7) rfl rfl (app_op _ _ rfl rfl (by rfl) (by rfl) hr7) ?_
                have HSn7 : Hid (Wn7.heap[B0]? = some (.cells S0 24 (0, 0))) := Lib.hid (blk_grown HSn6.out hg7 (fun h => by have := own_base own6.out _ h.symm; omega))
                have HLn7 : Hid (Wn7.heap[X_63]? = some (.cells LW 39 (0, 0))) := Lib.hid (blk_grown HLn6.out hg7 (fun h => by have := own_base own6.out _ h.symm; omega))
                have HEn7 : Hid (Below B0 w Wn7) := Lib.hid (HEn6.out.grown hg7 (Nat.le_trans hBN hNn6) (fun k hk => Nat.le_trans hBN (own_base own6.out k hk)))
                have hNn7 : N0 ≤ Wn7.heap.size := Nat.le_trans hNn6 hg7.size
                have own7 := Lib.hid ho7
                have b10n7 : Hid (Wn7.heap[Xn6]? = some (.cells ZS 24 (0, 0))) := Lib.hid (blk_grown b10n6.out hg7 (fun h => ne106 h.symm))
                have ne107 : (.slice (some ⟨g7, 0, none⟩) (l.length + 1) c7 : Value).ownBlock ≠ some Xn6 := fun h => by rcases hat7 with q | q <;> rw [q] at h; exact ne106 h; have h1 := blk_lt b10n6.out; injection h with h; omega
                have ne87 : g7 ≠ Xn6 := fun h => ne107 (by rw [h]; rfl)
                refine hK.out _ _ ⟨HSn7.out, HLn7.out, (blk_cell HSn7.out 1).trans (by rw [eS0.out]; rfl), (blk_cell HSn7.out 0).trans (by rw [eS0.out]; rfl)⟩ (fun hHeld => ?_)
                clear hK K
                refine norm_ (a' := ?_) ?_ ?_
                rotate_left
                · show Act.put _ (some 74) _ = _
                  simp only [Act.put, List.setIfInBounds_toArray, List.set_cons_zero, List.set_cons_succ, i64_w, i32_w]
                  rfl
                clear hHeld
                obtain ⟨SO7, eSO7⟩ : ∃ A : Array Value, A = #[.int .i64 B, .slice (some ⟨g7, 0, none⟩) (l.length + 1) c7] := ⟨_, rfl⟩
                replace eSO7 := Lib.hid eSO7
                refine pure_ (i := 9) (N := (some 75)) (v := .agg SO7) (a' := ?_) #[true, true, true, true, true, true, true, true, true, true, true, false] rfl rfl (by kernel_rfl) (fun _ _ _ h => h) (Or.inl ⟨by rfl, ?_⟩) ?_ ?_
                · intro w'
                  exact bld_op 24 _ rfl (set_bld B (some ⟨g7, 0, none⟩) (l.length + 1) c7 (by simp [go_sem]) eSO7.out)
                rotate_left
                · simp only [Act.put, List.setIfInBounds_toArray, List.set_cons_zero, List.set_cons_succ, i64_w, i32_w]
                  rfl
                exact norm_ (by simp only [putAll, Act.put, List.setIfInBounds_toArray, List.set_cons_zero, List.set_cons_succ]) (hCont ((.slice (some ⟨Xn1, 0, none⟩) 0 0), v2, (.slice (some ⟨Xn3, 0, none⟩) 1 1), g7, c7, SO7, Xn6) _ ⟨HSn7.out, HEn7.out, b10n7.out, hNX6, own7.out, ne87, eSO7.out, HLn7.out⟩)
            · skip
              obtain ⟨Xn8, hX8⟩ : ∃ X, Wn2.heap.size = X := ⟨_, rfl⟩
              obtain ⟨Wn8, hV8⟩ : ∃ V, Wn2.alloc (.cells ZS 24) = V := ⟨_, rfl⟩
              refine value_ (v := .pointer (some ⟨Xn8, 0, none⟩)) (w1 := Wn8) rfl rfl (by have hz' := hzS; subst hV8; subst hX8; go_simp) ?_
              have HSn8 : Hid (Wn8.heap[B0]? = some (.cells S0 24 (0, 0))) := Lib.hid (hV8 ▸ blk_alloc HSn2.out _)
              have HLn8 : Hid (Wn8.heap[X_63]? = some (.cells LW 39 (0, 0))) := Lib.hid (hV8 ▸ blk_alloc HLn2.out _)
              have HEn8 : Hid (Below B0 w Wn8) := Lib.hid (hV8 ▸ HEn2.out.alloc (Nat.le_trans hBN hNn2) _)
              have hNn8 : N0 ≤ Wn8.heap.size := by rw [← hV8, World.size_alloc]; exact Nat.le_succ_of_le hNn2
              have hNX8 : N0 ≤ Xn8 := hX8 ▸ hNn2
              have own8 := Lib.hid (hV8 ▸ own2.out.alloc (.cells ZS 24) : Wn8.ownsRow N0 39 11 v2 l.length (fl l))
              have b10n8 : Hid (Wn8.heap[Xn8]? = some (.cells ZS 24 (0, 0))) := Lib.hid (by rw [← hV8, ← hX8]; exact blk_new _ _)
              have ne108 : (v2 : Value).ownBlock ≠ some Xn8 := fun h => by have := own_lt own2.out _ h; omega
              refine hK.out _ _ ⟨HSn8.out, HLn8.out, (blk_cell HSn8.out 1).trans (by rw [eS0.out]; rfl), (blk_cell HSn8.out 0).trans (by rw [eS0.out]; rfl)⟩ (fun hHeld => ?_)
              clear hK K
              refine norm_ (a' := ?_) ?_ ?_
              rotate_left
              · show Act.put _ (some 11) _ = _
                simp only [Act.put, List.setIfInBounds_toArray, List.set_cons_zero, List.set_cons_succ, i64_w, i32_w]
                rfl
              clear hHeld
              refine one_ (i := 7) (N := (some 73)) #[true, true, true, true, true, true, true, true, false, false, true, false] rfl rfl (by kernel_rfl) (by decide) (fun K hK => ?_)
              obtain ⟨Xn9, hX9⟩ : ∃ X, Wn8.heap.size = X := ⟨_, rfl⟩
              obtain ⟨Wn9, hV9⟩ : ∃ V, Wn8.alloc (.cells LW 39) = V := ⟨_, rfl⟩
              refine value_ (v := .slice (some ⟨Xn9, 0, none⟩) 1 1) (w1 := Wn9) rfl rfl (by have hfold' := hfold.out; have hA11 := zLW.out; subst hV9; subst hX9; go_simp) ?_
              have HSn9 : Hid (Wn9.heap[B0]? = some (.cells S0 24 (0, 0))) := Lib.hid (hV9 ▸ blk_alloc HSn8.out _)
              have HLn9 : Hid (Wn9.heap[X_63]? = some (.cells LW 39 (0, 0))) := Lib.hid (hV9 ▸ blk_alloc HLn8.out _)
              have HEn9 : Hid (Below B0 w Wn9) := Lib.hid (hV9 ▸ HEn8.out.alloc (Nat.le_trans hBN hNn8) _)
              have hNn9 : N0 ≤ Wn9.heap.size := by rw [← hV9, World.size_alloc]; exact Nat.le_succ_of_le hNn8
              have hNX9 : N0 ≤ Xn9 := hX9 ▸ hNn8
              have b10n9 : Hid (Wn9.heap[Xn8]? = some (.cells ZS 24 (0, 0))) := Lib.hid (hV9 ▸ blk_alloc b10n8.out _)
              have own9 := Lib.hid (hV9 ▸ own8.out.alloc (.cells LW 39) : Wn9.ownsRow N0 39 11 v2 l.length (fl l))
              have b7n9 : Hid (Wn9.heap[Xn9]? = some (.cells LW 39 (0, 0))) := Lib.hid (by rw [← hV9, ← hX9]; exact blk_new _ _)
              have ne79 : (v2 : Value).ownBlock ≠ some Xn9 := fun h => by have := own_lt own8.out _ h; omega
              refine hK.out _ _ ⟨HSn9.out, HLn9.out, (blk_cell HSn9.out 1).trans (by rw [eS0.out]; rfl), (blk_cell HSn9.out 0).trans (by rw [eS0.out]; rfl)⟩ (fun hHeld => ?_)
              clear hK K
              refine norm_ (a' := ?_) ?_ ?_
              rotate_left
              · show Act.put _ (some 73) _ = _
                simp only [Act.put, List.setIfInBounds_toArray, List.set_cons_zero, List.set_cons_succ, i64_w, i32_w]
                rfl
              clear hHeld
              refine one_ (i := 8) (N := (some 74)) #[true, true, true, true, true, true, true, true, true, false, true, false] rfl rfl (by kernel_rfl) (by decide) (fun K hK => ?_)
              obtain ⟨v10, Wn10, hr10, ho10, hg10, hat10⟩ := app_t Wn9 N0 v2 l.length (fl l) own9.out ⟨Xn9, 0, none⟩ 1 1 LW.toList (by rw [Array.length_toList, zLW.out]) (fun j u hu => by rw [Addr.add_mid, Nat.zero_add, blk_cell b7n9.out]; simpa using hu) (fun v hv => (Array.all_eq_true_iff_forall_mem.1 oLW.out) v (by simpa using hv)) (by omega) hNn9
              obtain ⟨g10, c10, rfl, hgN10, _⟩ := ho10.form (by omega)
              refine value_ (v := .slice (some ⟨g10, 0, none⟩) (l.length + 1) c10) (w1 := Wn10) rfl rfl (app_op _ _ rfl rfl (by rfl) (by rfl) hr10) ?_
              have HSn10 : Hid (Wn10.heap[B0]? = some (.cells S0 24 (0, 0))) := Lib.hid (blk_grown HSn9.out hg10 (fun h => by have := own_base own9.out _ h.symm; omega))
              have HLn10 : Hid (Wn10.heap[X_63]? = some (.cells LW 39 (0, 0))) := Lib.hid (blk_grown HLn9.out hg10 (fun h => by have := own_base own9.out _ h.symm; omega))
              have HEn10 : Hid (Below B0 w Wn10) := Lib.hid (HEn9.out.grown hg10 (Nat.le_trans hBN hNn9) (fun k hk => Nat.le_trans hBN (own_base own9.out k hk)))
              have hNn10 : N0 ≤ Wn10.heap.size := Nat.le_trans hNn9 hg10.size
              have own10 := Lib.hid ho10
              have b10n10 : Hid (Wn10.heap[Xn8]? = some (.cells ZS 24 (0, 0))) := Lib.hid (blk_grown b10n9.out hg10 (fun h => ne108 h.symm))
              have ne1010 : (.slice (some ⟨g10, 0, none⟩) (l.length + 1) c10 : Value).ownBlock ≠ some Xn8 := fun h => by rcases hat10 with q | q <;> rw [q] at h; exact ne108 h; have h1 := blk_lt b10n9.out; injection h with h; omega
              have ne810 : g10 ≠ Xn8 := fun h => ne1010 (by rw [h]; rfl)
              refine hK.out _ _ ⟨HSn10.out, HLn10.out, (blk_cell HSn10.out 1).trans (by rw [eS0.out]; rfl), (blk_cell HSn10.out 0).trans (by rw [eS0.out]; rfl)⟩ (fun hHeld => ?_)
              clear hK K
              refine norm_ (a' := ?_) ?_ ?_
              rotate_left
              · show Act.put _ (some 74) _ = _
                simp only [Act.put, List.setIfInBounds_toArray, List.set_cons_zero, List.set_cons_succ, i64_w, i32_w]
                rfl
              clear hHeld
              obtain ⟨SO10, eSO10⟩ : ∃ A : Array Value, A = #[.int .i64 B, .slice (some ⟨g10, 0, none⟩) (l.length + 1) c10] := ⟨_, rfl⟩
              replace eSO10 := Lib.hid eSO10
              refine pure_ (i := 9) (N := (some 75)) (v := .agg SO10) (a' := ?_) #[true, true, true, true, true, true, true, true, true, true, true, false] rfl rfl (by kernel_rfl) (fun _ _ _ h => h) (Or.inl ⟨by rfl, ?_⟩) ?_ ?_
              · intro w'
                exact bld_op 24 _ rfl (set_bld B (some ⟨g10, 0, none⟩) (l.length + 1) c10 (by simp [go_sem]) eSO10.out)
              rotate_left
              · simp only [Act.put, List.setIfInBounds_toArray, List.set_cons_zero, List.set_cons_succ, i64_w, i32_w]
                rfl
              exact norm_ (by simp only [putAll, Act.put, List.setIfInBounds_toArray, List.set_cons_zero, List.set_cons_succ]) (hCont ((.slice (some ⟨Xn1, 0, none⟩) 0 0), v2, (.slice (some ⟨Xn9, 0, none⟩) 1 1), g10, c10, SO10, Xn8) _ ⟨HSn10.out, HEn10.out, b10n10.out, hNX8, own10.out, ne810, eSO10.out, HLn10.out⟩)
          · skip
            obtain ⟨Xn11, hX11⟩ : ∃ X, Wn1.heap.size = X := ⟨_, rfl⟩
            obtain ⟨Wn11, hV11⟩ : ∃ V, Wn1.alloc (.cells LW 39) = V := ⟨_, rfl⟩
            refine value_ (v := .slice (some ⟨Xn11, 0, none⟩) 1 1) (w1 := Wn11) rfl rfl (by have hfold' := hfold.out; have hA11 := zLW.out; subst hV11; subst hX11; go_simp) ?_
            have HSn11 : Hid (Wn11.heap[B0]? = some (.cells S0 24 (0, 0))) := Lib.hid (hV11 ▸ blk_alloc HSn1.out _)
            have HLn11 : Hid (Wn11.heap[X_63]? = some (.cells LW 39 (0, 0))) := Lib.hid (hV11 ▸ blk_alloc HLn1.out _)
            have HEn11 : Hid (Below B0 w Wn11) := Lib.hid (hV11 ▸ HEn1.out.alloc (Nat.le_trans hBN hNn1) _)
            have hNn11 : N0 ≤ Wn11.heap.size := by rw [← hV11, World.size_alloc]; exact Nat.le_succ_of_le hNn1
            have hNX11 : N0 ≤ Xn11 := hX11 ▸ hNn1
            have own11 := Lib.hid (hV11 ▸ own1.out.alloc (.cells LW 39) : Wn11.ownsRow N0 39 11 (.slice (some ⟨Xn1, 0, none⟩) 0 0) 0 [])
            have b7n11 : Hid (Wn11.heap[Xn11]? = some (.cells LW 39 (0, 0))) := Lib.hid (by rw [← hV11, ← hX11]; exact blk_new _ _)
            have ne711 : ((.slice (some ⟨Xn1, 0, none⟩) 0 0) : Value).ownBlock ≠ some Xn11 := fun h => by have := own_lt own1.out _ h; omega
            refine hK.out _ _ ⟨HSn11.out, HLn11.out, (blk_cell HSn11.out 1).trans (by rw [eS0.out]; rfl), (blk_cell HSn11.out 0).trans (by rw [eS0.out]; rfl)⟩ (fun hHeld => ?_)
            clear hK K
            refine norm_ (a' := ?_) ?_ ?_
            rotate_left
            · show Act.put _ (some 73) _ = _
              simp only [Act.put, List.setIfInBounds_toArray, List.set_cons_zero, List.set_cons_succ, i64_w, i32_w]
              rfl
            clear hHeld
            refine two_ (i := 5) (j := 10) (Ni := some 71) (Nj := some 11) #[true, true, true, true, true, true, true, true, false, false, false, false] #[true, true, true, true, true, false, true, true, false, false, true, false] rfl rfl rfl rfl (by kernel_rfl) (by decide) (by decide) (fun K hK => ?_) (fun K hK => ?_)
            · skip
              obtain ⟨v12, Wn12, hr12, ho12, hg12, hat12⟩ := app_t Wn11 N0 (.slice (some ⟨Xn1, 0, none⟩) 0 0) 0 [] own11.out ad l.length cap (fl l) (fl_len l) (hfl.out Wn11 HEn11.out) (fl_one l) (by omega) hNn11
              rw [Nat.zero_add, List.nil_append] at ho12
              refine value_ (v := v12) (w1 := Wn12) rfl rfl (app_op _ _ rfl rfl (by rfl) (by rfl) hr12) ?_
              have HSn12 : Hid (Wn12.heap[B0]? = some (.cells S0 24 (0, 0))) := Lib.hid (blk_grown HSn11.out hg12 (fun h => by have := own_base own11.out _ h.symm; omega))
              have HLn12 : Hid (Wn12.heap[X_63]? = some (.cells LW 39 (0, 0))) := Lib.hid (blk_grown HLn11.out hg12 (fun h => by have := own_base own11.out _ h.symm; omega))
              have HEn12 : Hid (Below B0 w Wn12) := Lib.hid (HEn11.out.grown hg12 (Nat.le_trans hBN hNn11) (fun k hk => Nat.le_trans hBN (own_base own11.out k hk)))
              have hNn12 : N0 ≤ Wn12.heap.size := Nat.le_trans hNn11 hg12.size
              have own12 := Lib.hid ho12
              have b7n12 : Hid (Wn12.heap[Xn11]? = some (.cells LW 39 (0, 0))) := Lib.hid (blk_grown b7n11.out hg12 (fun h => ne711 h.symm))
              have ne712 : v12.ownBlock ≠ some Xn11 := fun h => by rcases hat12 with q | q <;> rw [q] at h; exact ne711 h; have h1 := blk_lt b7n11.out; injection h with h; omega
              refine hK.out _ _ ⟨HSn12.out, HLn12.out, (blk_cell HSn12.out 1).trans (by rw [eS0.out]; rfl), (blk_cell HSn12.out 0).trans (by rw [eS0.out]; rfl)⟩ (fun hHeld => ?_)
              clear hK K
              refine norm_ (a' := ?_) ?_ ?_
              rotate_left
              · show Act.put _ (some 71) _ = _
                simp only [Act.put, List.setIfInBounds_toArray, List.set_cons_zero, List.set_cons_succ, i64_w, i32_w]
                rfl
              clear hHeld
              refine two_ (i := 8) (j := 10) (Ni := some 74) (Nj := some 11) #[true, true, true, true, true, true, true, true, true, false, false, false] #[true, true, true, true, true, true, true, true, false, false, true, false] rfl rfl rfl rfl (by kernel_rfl) (by decide) (by decide) (fun K hK => ?_) (fun K hK => ?_)
              · skip
                obtain ⟨v13, Wn13, hr13, ho13, hg13, hat13⟩ := app_t Wn12 N0 v12 l.length (fl l) own12.out ⟨Xn11, 0, none⟩ 1 1 LW.toList (by rw [Array.length_toList, zLW.out]) (fun j u hu => by rw [Addr.add_mid, Nat.zero_add, blk_cell b7n12.out]; simpa using hu) (fun v hv => (Array.all_eq_true_iff_forall_mem.1 oLW.out) v (by simpa using hv)) (by omega) hNn12
                obtain ⟨g13, c13, rfl, hgN13, _⟩ := ho13.form (by omega)
                refine value_ (v := .slice (some ⟨g13, 0, none⟩) (l.length + 1) c13) (w1 := Wn13) rfl rfl (app_op _ _ rfl rfl (by rfl) (by rfl) hr13) ?_
                have HSn13 : Hid (Wn13.heap[B0]? = some (.cells S0 24 (0, 0))) := Lib.hid (blk_grown HSn12.out hg13 (fun h => by have := own_base own12.out _ h.symm; omega))
                have HLn13 : Hid (Wn13.heap[X_63]? = some (.cells LW 39 (0, 0))) := Lib.hid (blk_grown HLn12.out hg13 (fun h => by have := own_base own12.out _ h.symm; omega))
                have HEn13 : Hid (Below B0 w Wn13) := Lib.hid (HEn12.out.grown hg13 (Nat.le_trans hBN hNn12) (fun k hk => Nat.le_trans hBN (own_base own12.out k hk)))
                have hNn13 : N0 ≤ Wn13.heap.size := Nat.le_trans hNn12 hg13.size
                have own13 := Lib.hid ho13
                refine hK.out _ _ ⟨HSn13.out, HLn13.out, (blk_cell HSn13.out 1).trans (by rw [eS0.out]; rfl), (blk_cell HSn13.out 0).trans (by rw [eS0.out]; rfl)⟩ (fun hHeld => ?_)
                clear hK K
                refine norm_ (a' := ?_) ?_ ?_
                rotate_left
                · show Act.put _ (some 74) _ = _
                  simp only [Act.put, List.setIfInBounds_toArray, List.set_cons_zero, List.set_cons_succ, i64_w, i32_w]
                  rfl
                clear hHeld
                obtain ⟨SO13, eSO13⟩ : ∃ A : Array Value, A = #[.int .i64 B, .slice (some ⟨g13, 0, none⟩) (l.length + 1) c13] := ⟨_, rfl⟩
                replace eSO13 := Lib.hid eSO13
                refine pure_ (i := 9) (N := (some 75)) (v := .agg SO13) (a' := ?_) #[true, true, true, true, true, true, true, true, true, true, false, false] rfl rfl (by kernel_rfl) (fun _ _ _ h => h) (Or.inl ⟨by rfl, ?_⟩) ?_ ?_
                · intro w'
                  exact bld_op 24 _ rfl (set_bld B (some ⟨g13, 0, none⟩) (l.length + 1) c13 (by simp [go_sem]) eSO13.out)
                rotate_left
                · simp only [Act.put, List.setIfInBounds_toArray, List.set_cons_zero, List.set_cons_succ, i64_w, i32_w]
                  rfl
                refine one_ (i := 10) (N := (some 11)) #[true, true, true, true, true, true, true, true, true, true, true, false] rfl rfl (by kernel_rfl) (by decide) (fun K hK => ?_)
                obtain ⟨Xn14, hX14⟩ : ∃ X, Wn13.heap.size = X := ⟨_, rfl⟩
                obtain ⟨Wn14, hV14⟩ : ∃ V, Wn13.alloc (.cells ZS 24) = V := ⟨_, rfl⟩
                refine value_ (v := .pointer (some ⟨Xn14, 0, none⟩)) (w1 := Wn14) rfl rfl (by have hz' := hzS; subst hV14; subst hX14; go_simp) ?_
                have HSn14 : Hid (Wn14.heap[B0]? = some (.cells S0 24 (0, 0))) := Lib.hid (hV14 ▸ blk_alloc HSn13.out _)
                have HLn14 : Hid (Wn14.heap[X_63]? = some (.cells LW 39 (0, 0))) := Lib.hid (hV14 ▸ blk_alloc HLn13.out _)
                have HEn14 : Hid (Below B0 w Wn14) := Lib.hid (hV14 ▸ HEn13.out.alloc (Nat.le_trans hBN hNn13) _)
                have hNn14 : N0 ≤ Wn14.heap.size := by rw [← hV14, World.size_alloc]; exact Nat.le_succ_of_le hNn13
                have hNX14 : N0 ≤ Xn14 := hX14 ▸ hNn13
                have own14 := Lib.hid (hV14 ▸ own13.out.alloc (.cells ZS 24) : Wn14.ownsRow N0 39 11 (.slice (some ⟨g13, 0, none⟩) (l.length + 1) c13) (l.length + 1) (fl l ++ LW.toList))
                have b10n14 : Hid (Wn14.heap[Xn14]? = some (.cells ZS 24 (0, 0))) := Lib.hid (by rw [← hV14, ← hX14]; exact blk_new _ _)
                have ne814 : g13 ≠ Xn14 := fun h => by have := own_lt own13.out g13 rfl; omega
                refine hK.out _ _ ⟨HSn14.out, HLn14.out, (blk_cell HSn14.out 1).trans (by rw [eS0.out]; rfl), (blk_cell HSn14.out 0).trans (by rw [eS0.out]; rfl)⟩ (fun hHeld => ?_)
                clear hK K
                refine norm_ (a' := ?_) ?_ ?_
                rotate_left
                · show Act.put _ (some 11) _ = _
                  simp only [Act.put, List.setIfInBounds_toArray, List.set_cons_zero, List.set_cons_succ, i64_w, i32_w]
                  rfl
                clear hHeld
                exact norm_ (by simp only [putAll, Act.put, List.setIfInBounds_toArray, List.set_cons_zero, List.set_cons_succ]) (hCont ((.slice (some ⟨Xn1, 0, none⟩) 0 0), v12, (.slice (some ⟨Xn11, 0, none⟩) 1 1), g13, c13, SO13, Xn14) _ ⟨HSn14.out, HEn14.out, b10n14.out, hNX14, own14.out, ne814, eSO13.out, HLn14.out⟩)
              · skip
                obtain ⟨Xn15, hX15⟩ : ∃ X, Wn12.heap.size = X := ⟨_, rfl⟩
                obtain ⟨Wn15, hV15⟩ : ∃ V, Wn12.alloc (.cells ZS 24) = V := ⟨_, rfl⟩
                refine value_ (v := .pointer (some ⟨Xn15, 0, none⟩)) (w1 := Wn15) rfl rfl (by have hz' := hzS; subst hV15; subst hX15; go_simp) ?_
                have HSn15 : Hid (Wn15.heap[B0]? = some (.cells S0 24 (0, 0))) := Lib.hid (hV15 ▸ blk_alloc HSn12.out _)
                have HLn15 : Hid (Wn15.heap[X_63]? = some (.cells LW 39 (0, 0))) := Lib.hid (hV15 ▸ blk_alloc HLn12.out _)
                have HEn15 : Hid (Below B0 w Wn15) := Lib.hid (hV15 ▸ HEn12.out.alloc (Nat.le_trans hBN hNn12) _)
                have hNn15 : N0 ≤ Wn15.heap.size := by rw [← hV15, World.size_alloc]; exact Nat.le_succ_of_le hNn12
                have hNX15 : N0 ≤ Xn15 := hX15 ▸ hNn12
                have b7n15 : Hid (Wn15.heap[Xn11]? = some (.cells LW 39 (0, 0))) := Lib.hid (hV15 ▸ blk_alloc b7n12.out _)
                have own15 := Lib.hid (hV15 ▸ own12.out.alloc (.cells ZS 24) : Wn15.ownsRow N0 39 11 v12 l.length (fl l))
                have b10n15 : Hid (Wn15.heap[Xn15]? = some (.cells ZS 24 (0, 0))) := Lib.hid (by rw [← hV15, ← hX15]; exact blk_new _ _)
                have ne1015 : (v12 : Value).ownBlock ≠ some Xn15 := fun h => by have := own_lt own12.out _ h; omega
                refine hK.out _ _ ⟨HSn15.out, HLn15.out, (blk_cell HSn15.out 1).trans (by rw [eS0.out]; rfl), (blk_cell HSn15.out 0).trans (by rw [eS0.out]; rfl)⟩ (fun hHeld => ?_)
                clear hK K
                refine norm_ (a' := ?_) ?_ ?_
                rotate_left
                · show Act.put _ (some 11) _ = _
                  simp only [Act.put, List.setIfInBounds_toArray, List.set_cons_zero, List.set_cons_succ, i64_w, i32_w]
                  rfl
                clear hHeld
                refine one_ (i := 8) (N := (some 74)) #[true, true, true, true, true, true, true, true, true, false, true, false] rfl rfl (by kernel_rfl) (by decide) (fun K hK => ?_)
                obtain ⟨v16, Wn16, hr16, ho16, hg16, hat16⟩ := app_t Wn15 N0 v12 l.length (fl l) own15.out ⟨Xn11, 0, none⟩ 1 1 LW.toList (by rw [Array.length_toList, zLW.out]) (fun j u hu => by rw [Addr.add_mid, Nat.zero_add, blk_cell b7n15.out]; simpa using hu) (fun v hv => (Array.all_eq_true_iff_forall_mem.1 oLW.out) v (by simpa using hv)) (by omega) hNn15
                obtain ⟨g16, c16, rfl, hgN16, _⟩ := ho16.form (by omega)
                refine value_ (v := .slice (some ⟨g16, 0, none⟩) (l.length + 1) c16) (w1 := Wn16) rfl rfl (app_op _ _ rfl rfl (by rfl) (by rfl) hr16) ?_
                have HSn16 : Hid (Wn16.heap[B0]? = some (.cells S0 24 (0, 0))) := Lib.hid (blk_grown HSn15.out hg16 (fun h => by have := own_base own15.out _ h.symm; omega))
                have HLn16 : Hid (Wn16.heap[X_63]? = some (.cells LW 39 (0, 0))) := Lib.hid (blk_grown HLn15.out hg16 (fun h => by have := own_base own15.out _ h.symm; omega))
                have HEn16 : Hid (Below B0 w Wn16) := Lib.hid (HEn15.out.grown hg16 (Nat.le_trans hBN hNn15) (fun k hk => Nat.le_trans hBN (own_base own15.out k hk)))
                have hNn16 : N0 ≤ Wn16.heap.size := Nat.le_trans hNn15 hg16.size
                have own16 := Lib.hid ho16
                have b10n16 : Hid (Wn16.heap[Xn15]? = some (.cells ZS 24 (0, 0))) := Lib.hid (blk_grown b10n15.out hg16 (fun h => ne1015 h.symm))
                have ne1016 : (.slice (some ⟨g16, 0, none⟩) (l.length + 1) c16 : Value).ownBlock ≠ some Xn15 := fun h => by rcases hat16 with q | q <;> rw [q] at h; exact ne1015 h; have h1 := blk_lt b10n15.out; injection h with h; omega
                have ne816 : g16 ≠ Xn15 := fun h => ne1016 (by rw [h]; rfl)
                refine hK.out _ _ ⟨HSn16.out, HLn16.out, (blk_cell HSn16.out 1).trans (by rw [eS0.out]; rfl), (blk_cell HSn16.out 0).trans (by rw [eS0.out]; rfl)⟩ (fun hHeld => ?_)
                clear hK K
                refine norm_ (a' := ?_) ?_ ?_
                rotate_left
                · show Act.put _ (some 74) _ = _
                  simp only [Act.put, List.setIfInBounds_toArray, List.set_cons_zero, List.set_cons_succ, i64_w, i32_w]
                  rfl
                clear hHeld
                obtain ⟨SO16, eSO16⟩ : ∃ A : Array Value, A = #[.int .i64 B, .slice (some ⟨g16, 0, none⟩) (l.length + 1) c16] := ⟨_, rfl⟩
                replace eSO16 := Lib.hid eSO16
                refine pure_ (i := 9) (N := (some 75)) (v := .agg SO16) (a' := ?_) #[true, true, true, true, true, true, true, true, true, true, true, false] rfl rfl (by kernel_rfl) (fun _ _ _ h => h) (Or.inl ⟨by rfl, ?_⟩) ?_ ?_
                · intro w'
                  exact bld_op 24 _ rfl (set_bld B (some ⟨g16, 0, none⟩) (l.length + 1) c16 (by simp [go_sem]) eSO16.out)
                rotate_left
                · simp only [Act.put, List.setIfInBounds_toArray, List.set_cons_zero, List.set_cons_succ, i64_w, i32_w]
                  rfl
                exact norm_ (by simp only [putAll, Act.put, List.setIfInBounds_toArray, List.set_cons_zero, List.set_cons_succ]) (hCont ((.slice (some ⟨Xn1, 0, none⟩) 0 0), v12, (.slice (some ⟨Xn11, 0, none⟩) 1 1), g16, c16, SO16, Xn15) _ ⟨HSn16.out, HEn16.out, b10n16.out, hNX15, own16.out, ne816, eSO16.out, HLn16.out⟩)
            · skip
              obtain ⟨Xn17, hX17⟩ : ∃ X, Wn11.heap.size = X := ⟨_, rfl⟩
              obtain ⟨Wn17, hV17⟩ : ∃ V, Wn11.alloc (.cells ZS 24) = V := ⟨_, rfl⟩
              refine value_ (v := .pointer (some ⟨Xn17, 0, none⟩)) (w1 := Wn17) rfl rfl (by have hz' := hzS; subst hV17; subst hX17; go_simp) ?_
              have HSn17 : Hid (Wn17.heap[B0]? = some (.cells S0 24 (0, 0))) := Lib.hid (hV17 ▸ blk_alloc HSn11.out _)
              have HLn17 : Hid (Wn17.heap[X_63]? = some (.cells LW 39 (0, 0))) := Lib.hid (hV17 ▸ blk_alloc HLn11.out _)
              have HEn17 : Hid (Below B0 w Wn17) := Lib.hid (hV17 ▸ HEn11.out.alloc (Nat.le_trans hBN hNn11) _)
              have hNn17 : N0 ≤ Wn17.heap.size := by rw [← hV17, World.size_alloc]; exact Nat.le_succ_of_le hNn11
              have hNX17 : N0 ≤ Xn17 := hX17 ▸ hNn11
              have b7n17 : Hid (Wn17.heap[Xn11]? = some (.cells LW 39 (0, 0))) := Lib.hid (hV17 ▸ blk_alloc b7n11.out _)
              have own17 := Lib.hid (hV17 ▸ own11.out.alloc (.cells ZS 24) : Wn17.ownsRow N0 39 11 (.slice (some ⟨Xn1, 0, none⟩) 0 0) 0 [])
              have b10n17 : Hid (Wn17.heap[Xn17]? = some (.cells ZS 24 (0, 0))) := Lib.hid (by rw [← hV17, ← hX17]; exact blk_new _ _)
              have ne1017 : ((.slice (some ⟨Xn1, 0, none⟩) 0 0) : Value).ownBlock ≠ some Xn17 := fun h => by have := own_lt own11.out _ h; omega
              refine hK.out _ _ ⟨HSn17.out, HLn17.out, (blk_cell HSn17.out 1).trans (by rw [eS0.out]; rfl), (blk_cell HSn17.out 0).trans (by rw [eS0.out]; rfl)⟩ (fun hHeld => ?_)
              clear hK K
              refine norm_ (a' := ?_) ?_ ?_
              rotate_left
              · show Act.put _ (some 11) _ = _
                simp only [Act.put, List.setIfInBounds_toArray, List.set_cons_zero, List.set_cons_succ, i64_w, i32_w]
                rfl
              clear hHeld
              refine one_ (i := 5) (N := (some 71)) #[true, true, true, true, true, true, true, true, false, false, true, false] rfl rfl (by kernel_rfl) (by decide) (fun K hK => ?_)
              obtain ⟨v18, Wn18, hr18, ho18, hg18, hat18⟩ := app_t Wn17 N0 (.slice (some ⟨Xn1, 0, none⟩) 0 0) 0 [] own17.out ad l.length cap (fl l) (fl_len l) (hfl.out Wn17 HEn17.out) (fl_one l) (by omega) hNn17
              rw [Nat.zero_add, List.nil_append] at ho18
              refine value_ (v := v18) (w1 := Wn18) rfl rfl (app_op _ _ rfl rfl (by rfl) (by rfl) hr18) ?_
              have HSn18 : Hid (Wn18.heap[B0]? = some (.cells S0 24 (0, 0))) := Lib.hid (blk_grown HSn17.out hg18 (fun h => by have := own_base own17.out _ h.symm; omega))
              have HLn18 : Hid (Wn18.heap[X_63]? = some (.cells LW 39 (0, 0))) := Lib.hid (blk_grown HLn17.out hg18 (fun h => by have := own_base own17.out _ h.symm; omega))
              have HEn18 : Hid (Below B0 w Wn18) := Lib.hid (HEn17.out.grown hg18 (Nat.le_trans hBN hNn17) (fun k hk => Nat.le_trans hBN (own_base own17.out k hk)))
              have hNn18 : N0 ≤ Wn18.heap.size := Nat.le_trans hNn17 hg18.size
              have own18 := Lib.hid ho18
              have b7n18 : Hid (Wn18.heap[Xn11]? = some (.cells LW 39 (0, 0))) := Lib.hid (blk_grown b7n17.out hg18 (fun h => ne711 h.symm))
              have ne718 : v18.ownBlock ≠ some Xn11 := fun h => by rcases hat18 with q | q <;> rw [q] at h; exact ne711 h; have h1 := blk_lt b7n17.out; injection h with h; omega
              have b10n18 : Hid (Wn18.heap[Xn17]? = some (.cells ZS 24 (0, 0))) := Lib.hid (blk_grown b10n17.out hg18 (fun h => ne1017 h.symm))
              have ne1018 : (v18 : Value).ownBlock ≠ some Xn17 := fun h => by rcases hat18 with q | q <;> rw [q] at h; exact ne1017 h; have h1 := blk_lt b10n17.out; injection h with h; omega
              refine hK.out _ _ ⟨HSn18.out, HLn18.out, (blk_cell HSn18.out 1).trans (by rw [eS0.out]; rfl), (blk_cell HSn18.out 0).trans (by rw [eS0.out]; rfl)⟩ (fun hHeld => ?_)
              clear hK K
              refine norm_ (a' := ?_) ?_ ?_
              rotate_left
              · show Act.put _ (some 71) _ = _
                simp only [Act.put, List.setIfInBounds_toArray, List.set_cons_zero, List.set_cons_succ, i64_w, i32_w]
                rfl
              clear hHeld
              refine one_ (i := 8) (N := (some 74)) #[true, true, true, true, true, true, true, true, true, false, true, false] rfl rfl (by kernel_rfl) (by decide) (fun K hK => ?_)
              obtain ⟨v19, Wn19, hr19, ho19, hg19, hat19⟩ := app_t Wn18 N0 v18 l.length (fl l) own18.out ⟨Xn11, 0, none⟩ 1 1 LW.toList (by rw [Array.length_toList, zLW.out]) (fun j u hu => by rw [Addr.add_mid, Nat.zero_add, blk_cell b7n18.out]; simpa using hu) (fun v hv => (Array.all_eq_true_iff_forall_mem.1 oLW.out) v (by simpa using hv)) (by omega) hNn18
              obtain ⟨g19, c19, rfl, hgN19, _⟩ := ho19.form (by omega)
              refine value_ (v := .slice (some ⟨g19, 0, none⟩) (l.length + 1) c19) (w1 := Wn19) rfl rfl (app_op _ _ rfl rfl (by rfl) (by rfl) hr19) ?_
              have HSn19 : Hid (Wn19.heap[B0]? = some (.cells S0 24 (0, 0))) := Lib.hid (blk_grown HSn18.out hg19 (fun h => by have := own_base own18.out _ h.symm; omega))
              have HLn19 : Hid (Wn19.heap[X_63]? = some (.cells LW 39 (0, 0))) := Lib.hid (blk_grown HLn18.out hg19 (fun h => by have := own_base own18.out _ h.symm; omega))
              have HEn19 : Hid (Below B0 w Wn19) := Lib.hid (HEn18.out.grown hg19 (Nat.le_trans hBN hNn18) (fun k hk => Nat.le_trans hBN (own_base own18.out k hk)))
              have hNn19 : N0 ≤ Wn19.heap.size := Nat.le_trans hNn18 hg19.size
              have own19 := Lib.hid ho19
              have b10n19 : Hid (Wn19.heap[Xn17]? = some (.cells ZS 24 (0, 0))) := Lib.hid (blk_grown b10n18.out hg19 (fun h => ne1018 h.symm))
              have ne1019 : (.slice (some ⟨g19, 0, none⟩) (l.length + 1) c19 : Value).ownBlock ≠ some Xn17 := fun h => by rcases hat19 with q | q <;> rw [q] at h; exact ne1018 h; have h1 := blk_lt b10n18.out; injection h with h; omega
              have ne819 : g19 ≠ Xn17 := fun h => ne1019 (by rw [h]; rfl)
              refine hK.out _ _ ⟨HSn19.out, HLn19.out, (blk_cell HSn19.out 1).trans (by rw [eS0.out]; rfl), (blk_cell HSn19.out 0).trans (by rw [eS0.out]; rfl)⟩ (fun hHeld => ?_)
              clear hK K
              refine norm_ (a' := ?_) ?_ ?_
              rotate_left
              · show Act.put _ (some 74) _ = _
                simp only [Act.put, List.setIfInBounds_toArray, List.set_cons_zero, List.set_cons_succ, i64_w, i32_w]
                rfl
              clear hHeld
              obtain ⟨SO19, eSO19⟩ : ∃ A : Array Value, A = #[.int .i64 B, .slice (some ⟨g19, 0, none⟩) (l.length + 1) c19] := ⟨_, rfl⟩
              replace eSO19 := Lib.hid eSO19
              refine pure_ (i := 9) (N := (some 75)) (v := .agg SO19) (a' := ?_) #[true, true, true, true, true, true, true, true, true, true, true, false] rfl rfl (by kernel_rfl) (fun _ _ _ h => h) (Or.inl ⟨by rfl, ?_⟩) ?_ ?_
              · intro w'
                exact bld_op 24 _ rfl (set_bld B (some ⟨g19, 0, none⟩) (l.length + 1) c19 (by simp [go_sem]) eSO19.out)
              rotate_left
              · simp only [Act.put, List.setIfInBounds_toArray, List.set_cons_zero, List.set_cons_succ, i64_w, i32_w]
                rfl
              exact norm_ (by simp only [putAll, Act.put, List.setIfInBounds_toArray, List.set_cons_zero, List.set_cons_succ]) (hCont ((.slice (some ⟨Xn1, 0, none⟩) 0 0), v18, (.slice (some ⟨Xn11, 0, none⟩) 1 1), g19, c19, SO19, Xn17) _ ⟨HSn19.out, HEn19.out, b10n19.out, hNX17, own19.out, ne819, eSO19.out, HLn19.out⟩)
          · skip
            obtain ⟨Xn20, hX20⟩ : ∃ X, Wn1.heap.size = X := ⟨_, rfl⟩
            obtain ⟨Wn20, hV20⟩ : ∃ V, Wn1.alloc (.cells ZS 24) = V := ⟨_, rfl⟩
            refine value_ (v := .pointer (some ⟨Xn20, 0, none⟩)) (w1 := Wn20) rfl rfl (by have hz' := hzS; subst hV20; subst hX20; go_simp) ?_
            have HSn20 : Hid (Wn20.heap[B0]? = some (.cells S0 24 (0, 0))) := Lib.hid (hV20 ▸ blk_alloc HSn1.out _)
            have HLn20 : Hid (Wn20.heap[X_63]? = some (.cells LW 39 (0, 0))) := Lib.hid (hV20 ▸ blk_alloc HLn1.out _)
            have HEn20 : Hid (Below B0 w Wn20) := Lib.hid (hV20 ▸ HEn1.out.alloc (Nat.le_trans hBN hNn1) _)
            have hNn20 : N0 ≤ Wn20.heap.size := by rw [← hV20, World.size_alloc]; exact Nat.le_succ_of_le hNn1
            have hNX20 : N0 ≤ Xn20 := hX20 ▸ hNn1
            have own20 := Lib.hid (hV20 ▸ own1.out.alloc (.cells ZS 24) : Wn20.ownsRow N0 39 11 (.slice (some ⟨Xn1, 0, none⟩) 0 0) 0 [])
            have b10n20 : Hid (Wn20.heap[Xn20]? = some (.cells ZS 24 (0, 0))) := Lib.hid (by rw [← hV20, ← hX20]; exact blk_new _ _)
            have ne1020 : ((.slice (some ⟨Xn1, 0, none⟩) 0 0) : Value).ownBlock ≠ some Xn20 := fun h => by have := own_lt own1.out _ h; omega
            refine hK.out _ _ ⟨HSn20.out, HLn20.out, (blk_cell HSn20.out 1).trans (by rw [eS0.out]; rfl), (blk_cell HSn20.out 0).trans (by rw [eS0.out]; rfl)⟩ (fun hHeld => ?_)
            clear hK K
            refine norm_ (a' := ?_) ?_ ?_
            rotate_left
            · show Act.put _ (some 11) _ = _
              simp only [Act.put, List.setIfInBounds_toArray, List.set_cons_zero, List.set_cons_succ, i64_w, i32_w]
              rfl
            clear hHeld
            refine two_ (i := 5) (j := 7) (Ni := some 71) (Nj := some 73) #[true, true, true, true, true, true, true, false, false, false, true, false] #[true, true, true, true, true, false, true, true, false, false, true, false] rfl rfl rfl rfl (by kernel_rfl) (by decide) (by decide) (fun K hK => ?_) (fun K hK => ?_)
            · skip
              obtain ⟨v21, Wn21, hr21, ho21, hg21, hat21⟩ := app_t Wn20 N0 (.slice (some ⟨Xn1, 0, none⟩) 0 0) 0 [] own20.out ad l.length cap (fl l) (fl_len l) (hfl.out Wn20 HEn20.out) (fl_one l) (by omega) hNn20
              rw [Nat.zero_add, List.nil_append] at ho21
              refine value_ (v := v21) (w1 := Wn21) rfl rfl (app_op _ _ rfl rfl (by rfl) (by rfl) hr21) ?_
              have HSn21 : Hid (Wn21.heap[B0]? = some (.cells S0 24 (0, 0))) := Lib.hid (blk_grown HSn20.out hg21 (fun h => by have := own_base own20.out _ h.symm; omega))
              have HLn21 : Hid (Wn21.heap[X_63]? = some (.cells LW 39 (0, 0))) := Lib.hid (blk_grown HLn20.out hg21 (fun h => by have := own_base own20.out _ h.symm; omega))
              have HEn21 : Hid (Below B0 w Wn21) := Lib.hid (HEn20.out.grown hg21 (Nat.le_trans hBN hNn20) (fun k hk => Nat.le_trans hBN (own_base own20.out k hk)))
              have hNn21 : N0 ≤ Wn21.heap.size := Nat.le_trans hNn20 hg21.size
              have own21 := Lib.hid ho21
              have b10n21 : Hid (Wn21.heap[Xn20]? = some (.cells ZS 24 (0, 0))) := Lib.hid (blk_grown b10n20.out hg21 (fun h => ne1020 h.symm))
              have ne1021 : (v21 : Value).ownBlock ≠ some Xn20 := fun h => by rcases hat21 with q | q <;> rw [q] at h; exact ne1020 h; have h1 := blk_lt b10n20.out; injection h with h; omega
              refine hK.out _ _ ⟨HSn21.out, HLn21.out, (blk_cell HSn21.out 1).trans (by rw [eS0.out]; rfl), (blk_cell HSn21.out 0).trans (by rw [eS0.out]; rfl)⟩ (fun hHeld => ?_)
              clear hK K
              refine norm_ (a' := ?_) ?_ ?_
              rotate_left
              · show Act.put _ (some 71) _ = _
                simp only [Act.put, List.setIfInBounds_toArray, List.set_cons_zero, List.set_cons_succ, i64_w, i32_w]
                rfl
              clear hHeld
              refine one_ (i := 7) (N := (some 73)) #[true, true, true, true, true, true, true, true, false, false, true, false] rfl rfl (by kernel_rfl) (by decide) (fun K hK => ?_)
              obtain ⟨Xn22, hX22⟩ : ∃ X, Wn21.heap.size = X := ⟨_, rfl⟩
              obtain ⟨Wn22, hV22⟩ : ∃ V, Wn21.alloc (.cells LW 39) = V := ⟨_, rfl⟩
              refine value_ (v := .slice (some ⟨Xn22, 0, none⟩) 1 1) (w1 := Wn22) rfl rfl (by have hfold' := hfold.out; have hA11 := zLW.out; subst hV22; subst hX22; go_simp) ?_
              have HSn22 : Hid (Wn22.heap[B0]? = some (.cells S0 24 (0, 0))) := Lib.hid (hV22 ▸ blk_alloc HSn21.out _)
              have HLn22 : Hid (Wn22.heap[X_63]? = some (.cells LW 39 (0, 0))) := Lib.hid (hV22 ▸ blk_alloc HLn21.out _)
              have HEn22 : Hid (Below B0 w Wn22) := Lib.hid (hV22 ▸ HEn21.out.alloc (Nat.le_trans hBN hNn21) _)
              have hNn22 : N0 ≤ Wn22.heap.size := by rw [← hV22, World.size_alloc]; exact Nat.le_succ_of_le hNn21
              have hNX22 : N0 ≤ Xn22 := hX22 ▸ hNn21
              have b10n22 : Hid (Wn22.heap[Xn20]? = some (.cells ZS 24 (0, 0))) := Lib.hid (hV22 ▸ blk_alloc b10n21.out _)
              have own22 := Lib.hid (hV22 ▸ own21.out.alloc (.cells LW 39) : Wn22.ownsRow N0 39 11 v21 l.length (fl l))
              have b7n22 : Hid (Wn22.heap[Xn22]? = some (.cells LW 39 (0, 0))) := Lib.hid (by rw [← hV22, ← hX22]; exact blk_new _ _)
              have ne722 : (v21 : Value).ownBlock ≠ some Xn22 := fun h => by have := own_lt own21.out _ h; omega
              refine hK.out _ _ ⟨HSn22.out, HLn22.out, (blk_cell HSn22.out 1).trans (by rw [eS0.out]; rfl), (blk_cell HSn22.out 0).trans (by rw [eS0.out]; rfl)⟩ (fun hHeld => ?_)
              clear hK K
              refine norm_ (a' := ?_) ?_ ?_
              rotate_left
              · show Act.put _ (some 73) _ = _
                simp only [Act.put, List.setIfInBounds_toArray, List.set_cons_zero, List.set_cons_succ, i64_w, i32_w]
                rfl
              clear hHeld
              refine one_ (i := 8) (N := (some 74)) #[true, true, true, true, true, true, true, true, true, false, true, false] rfl rfl (by kernel_rfl) (by decide) (fun K hK => ?_)
              obtain ⟨v23, Wn23, hr23, ho23, hg23, hat23⟩ := app_t Wn22 N0 v21 l.length (fl l) own22.out ⟨Xn22, 0, none⟩ 1 1 LW.toList (by rw [Array.length_toList, zLW.out]) (fun j u hu => by rw [Addr.add_mid, Nat.zero_add, blk_cell b7n22.out]; simpa using hu) (fun v hv => (Array.all_eq_true_iff_forall_mem.1 oLW.out) v (by simpa using hv)) (by omega) hNn22
              obtain ⟨g23, c23, rfl, hgN23, _⟩ := ho23.form (by omega)
              refine value_ (v := .slice (some ⟨g23, 0, none⟩) (l.length + 1) c23) (w1 := Wn23) rfl rfl (app_op _ _ rfl rfl (by rfl) (by rfl) hr23) ?_
              have HSn23 : Hid (Wn23.heap[B0]? = some (.cells S0 24 (0, 0))) := Lib.hid (blk_grown HSn22.out hg23 (fun h => by have := own_base own22.out _ h.symm; omega))
              have HLn23 : Hid (Wn23.heap[X_63]? = some (.cells LW 39 (0, 0))) := Lib.hid (blk_grown HLn22.out hg23 (fun h => by have := own_base own22.out _ h.symm; omega))
              have HEn23 : Hid (Below B0 w Wn23) := Lib.hid (HEn22.out.grown hg23 (Nat.le_trans hBN hNn22) (fun k hk => Nat.le_trans hBN (own_base own22.out k hk)))
              have hNn23 : N0 ≤ Wn23.heap.size := Nat.le_trans hNn22 hg23.size
              have own23 := Lib.hid ho23
              have b10n23 : Hid (Wn23.heap[Xn20]? = some (.cells ZS 24 (0, 0))) := Lib.hid (blk_grown b10n22.out hg23 (fun h => ne1021 h.symm))
              have ne1023 : (.slice (some ⟨g23, 0, none⟩) (l.length + 1) c23 : Value).ownBlock ≠ some Xn20 := fun h => by rcases hat23 with q | q <;> rw [q] at h; exact ne1021 h; have h1 := blk_lt b10n22.out; injection h with h; omega
              have ne823 : g23 ≠ Xn20 := fun h => ne1023 (by rw [h]; rfl)
              refine hK.out _ _ ⟨HSn23.out, HLn23.out, (blk_cell HSn23.out 1).trans (by rw [eS0.out]; rfl), (blk_cell HSn23.out 0).trans (by rw [eS0.out]; rfl)⟩ (fun hHeld => ?_)
              clear hK K
              refine norm_ (a' := ?_) ?_ ?_
              rotate_left
              · show Act.put _ (some 74) _ = _
                simp only [Act.put, List.setIfInBounds_toArray, List.set_cons_zero, List.set_cons_succ, i64_w, i32_w]
                rfl
              clear hHeld
              obtain ⟨SO23, eSO23⟩ : ∃ A : Array Value, A = #[.int .i64 B, .slice (some ⟨g23, 0, none⟩) (l.length + 1) c23] := ⟨_, rfl⟩
              replace eSO23 := Lib.hid eSO23
              refine pure_ (i := 9) (N := (some 75)) (v := .agg SO23) (a' := ?_) #[true, true, true, true, true, true, true, true, true, true, true, false] rfl rfl (by kernel_rfl) (fun _ _ _ h => h) (Or.inl ⟨by rfl, ?_⟩) ?_ ?_
              · intro w'
                exact bld_op 24 _ rfl (set_bld B (some ⟨g23, 0, none⟩) (l.length + 1) c23 (by simp [go_sem]) eSO23.out)
              rotate_left
              · simp only [Act.put, List.setIfInBounds_toArray, List.set_cons_zero, List.set_cons_succ, i64_w, i32_w]
                rfl
              exact norm_ (by simp only [putAll, Act.put, List.setIfInBounds_toArray, List.set_cons_zero, List.set_cons_succ]) (hCont ((.slice (some ⟨Xn1, 0, none⟩) 0 0), v21, (.slice (some ⟨Xn22, 0, none⟩) 1 1), g23, c23, SO23, Xn20) _ ⟨HSn23.out, HEn23.out, b10n23.out, hNX20, own23.out, ne823, eSO23.out, HLn23.out⟩)
            · skip
              obtain ⟨Xn24, hX24⟩ : ∃ X, Wn20.heap.size = X := ⟨_, rfl⟩
              obtain ⟨Wn24, hV24⟩ : ∃ V, Wn20.alloc (.cells LW 39) = V := ⟨_, rfl⟩
              refine value_ (v := .slice (some ⟨Xn24, 0, none⟩) 1 1) (w1 := Wn24) rfl rfl (by have hfold' := hfold.out; have hA11 := zLW.out; subst hV24; subst hX24; go_simp) ?_
              have HSn24 : Hid (Wn24.heap[B0]? = some (.cells S0 24 (0, 0))) := Lib.hid (hV24 ▸ blk_alloc HSn20.out _)
              have HLn24 : Hid (Wn24.heap[X_63]? = some (.cells LW 39 (0, 0))) := Lib.hid (hV24 ▸ blk_alloc HLn20.out _)
              have HEn24 : Hid (Below B0 w Wn24) := Lib.hid (hV24 ▸ HEn20.out.alloc (Nat.le_trans hBN hNn20) _)
              have hNn24 : N0 ≤ Wn24.heap.size := by rw [← hV24, World.size_alloc]; exact Nat.le_succ_of_le hNn20
              have hNX24 : N0 ≤ Xn24 := hX24 ▸ hNn20
              have b10n24 : Hid (Wn24.heap[Xn20]? = some (.cells ZS 24 (0, 0))) := Lib.hid (hV24 ▸ blk_alloc b10n20.out _)
              have own24 := Lib.hid (hV24 ▸ own20.out.alloc (.cells LW 39) : Wn24.ownsRow N0 39 11 (.slice (some ⟨Xn1, 0, none⟩) 0 0) 0 [])
              have b7n24 : Hid (Wn24.heap[Xn24]? = some (.cells LW 39 (0, 0))) := Lib.hid (by rw [← hV24, ← hX24]; exact blk_new _ _)
              have ne724 : ((.slice (some ⟨Xn1, 0, none⟩) 0 0) : Value).ownBlock ≠ some Xn24 := fun h => by have := own_lt own20.out _ h; omega
              refine hK.out _ _ ⟨HSn24.out, HLn24.out, (blk_cell HSn24.out 1).trans (by rw [eS0.out]; rfl), (blk_cell HSn24.out 0).trans (by rw [eS0.out]; rfl)⟩ (fun hHeld => ?_)
              clear hK K
              refine norm_ (a' := ?_) ?_ ?_
              rotate_left
              · show Act.put _ (some 73) _ = _
                simp only [Act.put, List.setIfInBounds_toArray, List.set_cons_zero, List.set_cons_succ, i64_w, i32_w]
                rfl
              clear hHeld
              refine one_ (i := 5) (N := (some 71)) #[true, true, true, true, true, true, true, true, false, false, true, false] rfl rfl (by kernel_rfl) (by decide) (fun K hK => ?_)
              obtain ⟨v25, Wn25, hr25, ho25, hg25, hat25⟩ := app_t Wn24 N0 (.slice (some ⟨Xn1, 0, none⟩) 0 0) 0 [] own24.out ad l.length cap (fl l) (fl_len l) (hfl.out Wn24 HEn24.out) (fl_one l) (by omega) hNn24
              rw [Nat.zero_add, List.nil_append] at ho25
              refine value_ (v := v25) (w1 := Wn25) rfl rfl (app_op _ _ rfl rfl (by rfl) (by rfl) hr25) ?_
              have HSn25 : Hid (Wn25.heap[B0]? = some (.cells S0 24 (0, 0))) := Lib.hid (blk_grown HSn24.out hg25 (fun h => by have := own_base own24.out _ h.symm; omega))
              have HLn25 : Hid (Wn25.heap[X_63]? = some (.cells LW 39 (0, 0))) := Lib.hid (blk_grown HLn24.out hg25 (fun h => by have := own_base own24.out _ h.symm; omega))
              have HEn25 : Hid (Below B0 w Wn25) := Lib.hid (HEn24.out.grown hg25 (Nat.le_trans hBN hNn24) (fun k hk => Nat.le_trans hBN (own_base own24.out k hk)))
              have hNn25 : N0 ≤ Wn25.heap.size := Nat.le_trans hNn24 hg25.size
              have own25 := Lib.hid ho25
              have b7n25 : Hid (Wn25.heap[Xn24]? = some (.cells LW 39 (0, 0))) := Lib.hid (blk_grown b7n24.out hg25 (fun h => ne724 h.symm))
              have ne725 : v25.ownBlock ≠ some Xn24 := fun h => by rcases hat25 with q | q <;> rw [q] at h; exact ne724 h; have h1 := blk_lt b7n24.out; injection h with h; omega
              have b10n25 : Hid (Wn25.heap[Xn20]? = some (.cells ZS 24 (0, 0))) := Lib.hid (blk_grown b10n24.out hg25 (fun h => ne1020 h.symm))
              have ne1025 : (v25 : Value).ownBlock ≠ some Xn20 := fun h => by rcases hat25 with q | q <;> rw [q] at h; exact ne1020 h; have h1 := blk_lt b10n24.out; injection h with h; omega
              refine hK.out _ _ ⟨HSn25.out, HLn25.out, (blk_cell HSn25.out 1).trans (by rw [eS0.out]; rfl), (blk_cell HSn25.out 0).trans (by rw [eS0.out]; rfl)⟩ (fun hHeld => ?_)
              clear hK K
              refine norm_ (a' := ?_) ?_ ?_
              rotate_left
              · show Act.put _ (some 71) _ = _
                simp only [Act.put, List.setIfInBounds_toArray, List.set_cons_zero, List.set_cons_succ, i64_w, i32_w]
                rfl
              clear hHeld
              refine one_ (i := 8) (N := (some 74)) #[true, true, true, true, true, true, true, true, true, false, true, false] rfl rfl (by kernel_rfl) (by decide) (fun K hK => ?_)
              obtain ⟨v26, Wn26, hr26, ho26, hg26, hat26⟩ := app_t Wn25 N0 v25 l.length (fl l) own25.out ⟨Xn24, 0, none⟩ 1 1 LW.toList (by rw [Array.length_toList, zLW.out]) (fun j u hu => by rw [Addr.add_mid, Nat.zero_add, blk_cell b7n25.out]; simpa using hu) (fun v hv => (Array.all_eq_true_iff_forall_mem.1 oLW.out) v (by simpa using hv)) (by omega) hNn25
              obtain ⟨g26, c26, rfl, hgN26, _⟩ := ho26.form (by omega)
              refine value_ (v := .slice (some ⟨g26, 0, none⟩) (l.length + 1) c26) (w1 := Wn26) rfl rfl (app_op _ _ rfl rfl (by rfl) (by rfl) hr26) ?_
              have HSn26 : Hid (Wn26.heap[B0]? = some (.cells S0 24 (0, 0))) := Lib.hid (blk_grown HSn25.out hg26 (fun h => by have := own_base own25.out _ h.symm; omega))
              have HLn26 : Hid (Wn26.heap[X_63]? = some (.cells LW 39 (0, 0))) := Lib.hid (blk_grown HLn25.out hg26 (fun h => by have := own_base own25.out _ h.symm; omega))
              have HEn26 : Hid (Below B0 w Wn26) := Lib.hid (HEn25.out.grown hg26 (Nat.le_trans hBN hNn25) (fun k hk => Nat.le_trans hBN (own_base own25.out k hk)))
              have hNn26 : N0 ≤ Wn26.heap.size := Nat.le_trans hNn25 hg26.size
              have own26 := Lib.hid ho26
              have b10n26 : Hid (Wn26.heap[Xn20]? = some (.cells ZS 24 (0, 0))) := Lib.hid (blk_grown b10n25.out hg26 (fun h => ne1025 h.symm))
              have ne1026 : (.slice (some ⟨g26, 0, none⟩) (l.length + 1) c26 : Value).ownBlock ≠ some Xn20 := fun h => by rcases hat26 with q | q <;> rw [q] at h; exact ne1025 h; have h1 := blk_lt b10n25.out; injection h with h; omega
              have ne826 : g26 ≠ Xn20 := fun h => ne1026 (by rw [h]; rfl)
              refine hK.out _ _ ⟨HSn26.out, HLn26.out, (blk_cell HSn26.out 1).trans (by rw [eS0.out]; rfl), (blk_cell HSn26.out 0).trans (by rw [eS0.out]; rfl)⟩ (fun hHeld => ?_)
              clear hK K
              refine norm_ (a' := ?_) ?_ ?_
              rotate_left
              · show Act.put _ (some 74) _ = _
                simp only [Act.put, List.setIfInBounds_toArray, List.set_cons_zero, List.set_cons_succ, i64_w, i32_w]
                rfl
              clear hHeld
              obtain ⟨SO26, eSO26⟩ : ∃ A : Array Value, A = #[.int .i64 B, .slice (some ⟨g26, 0, none⟩) (l.length + 1) c26] := ⟨_, rfl⟩
              replace eSO26 := Lib.hid eSO26
              refine pure_ (i := 9) (N := (some 75)) (v := .agg SO26) (a' := ?_) #[true, true, true, true, true, true, true, true, true, true, true, false] rfl rfl (by kernel_rfl) (fun _ _ _ h => h) (Or.inl ⟨by rfl, ?_⟩) ?_ ?_
              · intro w'
                exact bld_op 24 _ rfl (set_bld B (some ⟨g26, 0, none⟩) (l.length + 1) c26 (by simp [go_sem]) eSO26.out)
              rotate_left
              · simp only [Act.put, List.setIfInBounds_toArray, List.set_cons_zero, List.set_cons_succ, i64_w, i32_w]
                rfl
              exact norm_ (by simp only [putAll, Act.put, List.setIfInBounds_toArray, List.set_cons_zero, List.set_cons_succ]) (hCont ((.slice (some ⟨Xn1, 0, none⟩) 0 0), v25, (.slice (some ⟨Xn24, 0, none⟩) 1 1), g26, c26, SO26, Xn20) _ ⟨HSn26.out, HEn26.out, b10n26.out, hNX20, own26.out, ne826, eSO26.out, HLn26.out⟩)
        · skip
          obtain ⟨Xn27, hX27⟩ : ∃ X, Wd.heap.size = X := ⟨_, rfl⟩
          obtain ⟨Wn27, hV27⟩ : ∃ V, Wd.alloc (.cells LW 39) = V := ⟨_, rfl⟩
          refine value_ (v := .slice (some ⟨Xn27, 0, none⟩) 1 1) (w1 := Wn27) rfl rfl (by have hfold' := hfold.out; have hA11 := zLW.out; subst hV27; subst hX27; go_simp) ?_
          have HSn27 : Hid (Wn27.heap[B0]? = some (.cells S0 24 (0, 0))) := Lib.hid (hV27 ▸ blk_alloc HSd.out _)
          have HLn27 : Hid (Wn27.heap[X_63]? = some (.cells LW 39 (0, 0))) := Lib.hid (hV27 ▸ blk_alloc HLd.out _)
          have HEn27 : Hid (Below B0 w Wn27) := Lib.hid (hV27 ▸ HEd.out.alloc (Nat.le_trans hBN hNd) _)
          have hNn27 : N0 ≤ Wn27.heap.size := by rw [← hV27, World.size_alloc]; exact Nat.le_succ_of_le hNd
          have hNX27 : N0 ≤ Xn27 := hX27 ▸ hNd
          have b7n27 : Hid (Wn27.heap[Xn27]? = some (.cells LW 39 (0, 0))) := Lib.hid (by rw [← hV27, ← hX27]; exact blk_new _ _)
          refine hK.out _ _ ⟨HSn27.out, HLn27.out, (blk_cell HSn27.out 1).trans (by rw [eS0.out]; rfl), (blk_cell HSn27.out 0).trans (by rw [eS0.out]; rfl)⟩ (fun hHeld => ?_)
          clear hK K
          refine norm_ (a' := ?_) ?_ ?_
          rotate_left
          · show Act.put _ (some 73) _ = _
            simp only [Act.put, List.setIfInBounds_toArray, List.set_cons_zero, List.set_cons_succ, i64_w, i32_w]
            rfl
          clear hHeld
          refine two_ (i := 2) (j := 10) (Ni := some 68) (Nj := some 11) #[true, true, true, true, true, false, true, true, false, false, false, false] #[true, true, false, true, true, false, true, true, false, false, true, false] rfl rfl rfl rfl (by kernel_rfl) (by decide) (by decide) (fun K hK => ?_) (fun K hK => ?_)
          · skip
            obtain ⟨Xn28, hX28⟩ : ∃ X, Wn27.heap.size = X := ⟨_, rfl⟩
            obtain ⟨Wn28, hV28⟩ : ∃ V, Wn27.alloc (.cells #[] 39) = V := ⟨_, rfl⟩
            refine value_ (v := .slice (some ⟨Xn28, 0, none⟩) 0 0) (w1 := Wn28) rfl rfl (by subst hV28; subst hX28; go_simp) ?_
            have HSn28 : Hid (Wn28.heap[B0]? = some (.cells S0 24 (0, 0))) := Lib.hid (hV28 ▸ blk_alloc HSn27.out _)
            have HLn28 : Hid (Wn28.heap[X_63]? = some (.cells LW 39 (0, 0))) := Lib.hid (hV28 ▸ blk_alloc HLn27.out _)
            have HEn28 : Hid (Below B0 w Wn28) := Lib.hid (hV28 ▸ HEn27.out.alloc (Nat.le_trans hBN hNn27) _)
            have hNn28 : N0 ≤ Wn28.heap.size := by rw [← hV28, World.size_alloc]; exact Nat.le_succ_of_le hNn27
            have hNX28 : N0 ≤ Xn28 := hX28 ▸ hNn27
            have b7n28 : Hid (Wn28.heap[Xn27]? = some (.cells LW 39 (0, 0))) := Lib.hid (hV28 ▸ blk_alloc b7n27.out _)
            have own28 : Hid (Wn28.ownsRow N0 39 11 (.slice (some ⟨Xn28, 0, none⟩) 0 0) 0 []) := Lib.hid ⟨rfl, .inr ⟨Xn28, 0, #[], rfl, hNX28, by rw [← hV28, ← hX28]; exact blk_new _ _, Nat.le_refl _, Nat.zero_le _, rfl, rfl⟩⟩
            have ne728 : (.slice (some ⟨Xn28, 0, none⟩) 0 0 : Value).ownBlock ≠ some Xn27 := fun h => by have h1 := blk_lt b7n27.out; have h2 : Xn28 = Xn27 := (by simpa [Value.ownBlock] using h); omega
            refine hK.out _ _ ⟨HSn28.out, HLn28.out, (blk_cell HSn28.out 1).trans (by rw [eS0.out]; rfl), (blk_cell HSn28.out 0).trans (by rw [eS0.out]; rfl)⟩ (fun hHeld => ?_)
            clear hK K
            refine norm_ (a' := ?_) ?_ ?_
            rotate_left
            · show Act.put _ (some 68) _ = _
              simp only [Act.put, List.setIfInBounds_toArray, List.set_cons_zero, List.set_cons_succ, i64_w, i32_w]
              rfl
            clear hHeld
            refine two_ (i := 5) (j := 10) (Ni := some 71) (Nj := some 11) #[true, true, true, true, true, true, true, true, false, false, false, false] #[true, true, true, true, true, false, true, true, false, false, true, false] rfl rfl rfl rfl (by kernel_rfl) (by decide) (by decide) (fun K hK => ?_) (fun K hK => ?_)
            · skip
              obtain ⟨v29, Wn29, hr29, ho29, hg29, hat29⟩ := app_t Wn28 N0 (.slice (some ⟨Xn28, 0, none⟩) 0 0) 0 [] own28.out ad l.length cap (fl l) (fl_len l) (hfl.out Wn28 HEn28.out) (fl_one l) (by omega) hNn28
              rw [Nat.zero_add, List.nil_append] at ho29
              refine value_ (v := v29) (w1 := Wn29) rfl rfl (app_op _ _ rfl rfl (by rfl) (by rfl) hr29) ?_
              have HSn29 : Hid (Wn29.heap[B0]? = some (.cells S0 24 (0, 0))) := Lib.hid (blk_grown HSn28.out hg29 (fun h => by have := own_base own28.out _ h.symm; omega))
              have HLn29 : Hid (Wn29.heap[X_63]? = some (.cells LW 39 (0, 0))) := Lib.hid (blk_grown HLn28.out hg29 (fun h => by have := own_base own28.out _ h.symm; omega))
              have HEn29 : Hid (Below B0 w Wn29) := Lib.hid (HEn28.out.grown hg29 (Nat.le_trans hBN hNn28) (fun k hk => Nat.le_trans hBN (own_base own28.out k hk)))
              have hNn29 : N0 ≤ Wn29.heap.size := Nat.le_trans hNn28 hg29.size
              have own29 := Lib.hid ho29
              have b7n29 : Hid (Wn29.heap[Xn27]? = some (.cells LW 39 (0, 0))) := Lib.hid (blk_grown b7n28.out hg29 (fun h => ne728 h.symm))
              have ne729 : v29.ownBlock ≠ some Xn27 := fun h => by rcases hat29 with q | q <;> rw [q] at h; exact ne728 h; have h1 := blk_lt b7n28.out; injection h with h; omega
              refine hK.out _ _ ⟨HSn29.out, HLn29.out, (blk_cell HSn29.out 1).trans (by rw [eS0.out]; rfl), (blk_cell HSn29.out 0).trans (by rw [eS0.out]; rfl)⟩ (fun hHeld => ?_)
              clear hK K
              refine norm_ (a' := ?_) ?_ ?_
              rotate_left
              · show Act.put _ (some 71) _ = _
                simp only [Act.put, List.setIfInBounds_toArray, List.set_cons_zero, List.set_cons_succ, i64_w, i32_w]
                rfl
              clear hHeld
              refine two_ (i := 8) (j := 10) (Ni := some 74) (Nj := some 11) #[true, true, true, true, true, true, true, true, true, false, false, false] #[true, true, true, true, true, true, true, true, false, false, true, false] rfl rfl rfl rfl (by kernel_rfl) (by decide) (by decide) (fun K hK => ?_) (fun K hK => ?_)
              · skip
                obtain ⟨v30, Wn30, hr30, ho30, hg30, hat30⟩ := app_t Wn29 N0 v29 l.length (fl l) own29.out ⟨Xn27, 0, none⟩ 1 1 LW.toList (by rw [Array.length_toList, zLW.out]) (fun j u hu => by rw [Addr.add_mid, Nat.zero_add, blk_cell b7n29.out]; simpa using hu) (fun v hv => (Array.all_eq_true_iff_forall_mem.1 oLW.out) v (by simpa using hv)) (by omega) hNn29
                obtain ⟨g30, c30, rfl, hgN30, _⟩ := ho30.form (by omega)
                refine value_ (v := .slice (some ⟨g30, 0, none⟩) (l.length + 1) c30) (w1 := Wn30) rfl rfl (app_op _ _ rfl rfl (by rfl) (by rfl) hr30) ?_
                have HSn30 : Hid (Wn30.heap[B0]? = some (.cells S0 24 (0, 0))) := Lib.hid (blk_grown HSn29.out hg30 (fun h => by have := own_base own29.out _ h.symm; omega))
                have HLn30 : Hid (Wn30.heap[X_63]? = some (.cells LW 39 (0, 0))) := Lib.hid (blk_grown HLn29.out hg30 (fun h => by have := own_base own29.out _ h.symm; omega))
                have HEn30 : Hid (Below B0 w Wn30) := Lib.hid (HEn29.out.grown hg30 (Nat.le_trans hBN hNn29) (fun k hk => Nat.le_trans hBN (own_base own29.out k hk)))
                have hNn30 : N0 ≤ Wn30.heap.size := Nat.le_trans hNn29 hg30.size
                have own30 := Lib.hid ho30
                refine hK.out _ _ ⟨HSn30.out, HLn30.out, (blk_cell HSn30.out 1).trans (by rw [eS0.out]; rfl), (blk_cell HSn30.out 0).trans (by rw [eS0.out]; rfl)⟩ (fun hHeld => ?_)
                clear hK K
                refine norm_ (a' := ?_) ?_ ?_
                rotate_left
                · show Act.put _ (some 74) _ = _
                  simp only [Act.put, List.setIfInBounds_toArray, List.set_cons_zero, List.set_cons_succ, i64_w, i32_w]
                  rfl
                clear hHeld
                obtain ⟨SO30, eSO30⟩ : ∃ A : Array Value, A = #[.int .i64 B, .slice (some ⟨g30, 0, none⟩) (l.length + 1) c30] := ⟨_, rfl⟩
                replace eSO30 := Lib.hid eSO30
                refine pure_ (i := 9) (N := (some 75)) (v := .agg SO30) (a' := ?_) #[true, true, true, true, true, true, true, true, true, true, false, false] rfl rfl (by kernel_rfl) (fun _ _ _ h => h) (Or.inl ⟨by rfl, ?_⟩) ?_ ?_
                · intro w'
                  exact bld_op 24 _ rfl (set_bld B (some ⟨g30, 0, none⟩) (l.length + 1) c30 (by simp [go_sem]) eSO30.out)
                rotate_left
                · simp only [Act.put, List.setIfInBounds_toArray, List.set_cons_zero, List.set_cons_succ, i64_w, i32_w]
                  rfl
                refine one_ (i := 10) (N := (some 11)) #[true, true, true, true, true, true, true, true, true, true, true, false] rfl rfl (by kernel_rfl) (by decide) (fun K hK => ?_)
                obtain ⟨Xn31, hX31⟩ : ∃ X, Wn30.heap.size = X := ⟨_, rfl⟩
                obtain ⟨Wn31, hV31⟩ : ∃ V, Wn30.alloc (.cells ZS 24) = V := ⟨_, rfl⟩
                refine value_ (v := .pointer (some ⟨Xn31, 0, none⟩)) (w1 := Wn31) rfl rfl (by have hz' := hzS; subst hV31; subst hX31; go_simp) ?_
                have HSn31 : Hid (Wn31.heap[B0]? = some (.cells S0 24 (0, 0))) := Lib.hid (hV31 ▸ blk_alloc HSn30.out _)
                have HLn31 : Hid (Wn31.heap[X_63]? = some (.cells LW 39 (0, 0))) := Lib.hid (hV31 ▸ blk_alloc HLn30.out _)
                have HEn31 : Hid (Below B0 w Wn31) := Lib.hid (hV31 ▸ HEn30.out.alloc (Nat.le_trans hBN hNn30) _)
                have hNn31 : N0 ≤ Wn31.heap.size := by rw [← hV31, World.size_alloc]; exact Nat.le_succ_of_le hNn30
                have hNX31 : N0 ≤ Xn31 := hX31 ▸ hNn30
                have own31 := Lib.hid (hV31 ▸ own30.out.alloc (.cells ZS 24) : Wn31.ownsRow N0 39 11 (.slice (some ⟨g30, 0, none⟩) (l.length + 1) c30) (l.length + 1) (fl l ++ LW.toList))
                have b10n31 : Hid (Wn31.heap[Xn31]? = some (.cells ZS 24 (0, 0))) := Lib.hid (by rw [← hV31, ← hX31]; exact blk_new _ _)
                have ne831 : g30 ≠ Xn31 := fun h => by have := own_lt own30.out g30 rfl; omega
                refine hK.out _ _ ⟨HSn31.out, HLn31.out, (blk_cell HSn31.out 1).trans (by rw [eS0.out]; rfl), (blk_cell HSn31.out 0).trans (by rw [eS0.out]; rfl)⟩ (fun hHeld => ?_)
                clear hK K
                refine norm_ (a' := ?_) ?_ ?_
                rotate_left
                · show Act.put _ (some 11) _ = _
                  simp only [Act.put, List.setIfInBounds_toArray, List.set_cons_zero, List.set_cons_succ, i64_w, i32_w]
                  rfl
                clear hHeld
                exact norm_ (by simp only [putAll, Act.put, List.setIfInBounds_toArray, List.set_cons_zero, List.set_cons_succ]) (hCont ((.slice (some ⟨Xn28, 0, none⟩) 0 0), v29, (.slice (some ⟨Xn27, 0, none⟩) 1 1), g30, c30, SO30, Xn31) _ ⟨HSn31.out, HEn31.out, b10n31.out, hNX31, own31.out, ne831, eSO30.out, HLn31.out⟩)
              · skip
                obtain ⟨Xn32, hX32⟩ : ∃ X, Wn29.heap.size = X := ⟨_, rfl⟩
                obtain ⟨Wn32, hV32⟩ : ∃ V, Wn29.alloc (.cells ZS 24) = V := ⟨_, rfl⟩
                refine value_ (v := .pointer (some ⟨Xn32, 0, none⟩)) (w1 := Wn32) rfl rfl (by have hz' := hzS; subst hV32; subst hX32; go_simp) ?_
                have HSn32 : Hid (Wn32.heap[B0]? = some (.cells S0 24 (0, 0))) := Lib.hid (hV32 ▸ blk_alloc HSn29.out _)
                have HLn32 : Hid (Wn32.heap[X_63]? = some (.cells LW 39 (0, 0))) := Lib.hid (hV32 ▸ blk_alloc HLn29.out _)
                have HEn32 : Hid (Below B0 w Wn32) := Lib.hid (hV32 ▸ HEn29.out.alloc (Nat.le_trans hBN hNn29) _)
                have hNn32 : N0 ≤ Wn32.heap.size := by rw [← hV32, World.size_alloc]; exact Nat.le_succ_of_le hNn29
                have hNX32 : N0 ≤ Xn32 := hX32 ▸ hNn29
                have b7n32 : Hid (Wn32.heap[Xn27]? = some (.cells LW 39 (0, 0))) := Lib.hid (hV32 ▸ blk_alloc b7n29.out _)
                have own32 := Lib.hid (hV32 ▸ own29.out.alloc (.cells ZS 24) : Wn32.ownsRow N0 39 11 v29 l.length (fl l))
                have b10n32 : Hid (Wn32.heap[Xn32]? = some (.cells ZS 24 (0, 0))) := Lib.hid (by rw [← hV32, ← hX32]; exact blk_new _ _)
                have ne1032 : (v29 : Value).ownBlock ≠ some Xn32 := fun h => by have := own_lt own29.out _ h; omega
                refine hK.out _ _ ⟨HSn32.out, HLn32.out, (blk_cell HSn32.out 1).trans (by rw [eS0.out]; rfl), (blk_cell HSn32.out 0).trans (by rw [eS0.out]; rfl)⟩ (fun hHeld => ?_)
                clear hK K
                refine norm_ (a' := ?_) ?_ ?_
                rotate_left
                · show Act.put _ (some 11) _ = _
                  simp only [Act.put, List.setIfInBounds_toArray, List.set_cons_zero, List.set_cons_succ, i64_w, i32_w]
                  rfl
                clear hHeld
                refine one_ (i := 8) (N := (some 74)) #[true, true, true, true, true, true, true, true, true, false, true, false] rfl rfl (by kernel_rfl) (by decide) (fun K hK => ?_)
                obtain ⟨v33, Wn33, hr33, ho33, hg33, hat33⟩ := app_t Wn32 N0 v29 l.length (fl l) own32.out ⟨Xn27, 0, none⟩ 1 1 LW.toList (by rw [Array.length_toList, zLW.out]) (fun j u hu => by rw [Addr.add_mid, Nat.zero_add, blk_cell b7n32.out]; simpa using hu) (fun v hv => (Array.all_eq_true_iff_forall_mem.1 oLW.out) v (by simpa using hv)) (by omega) hNn32
                obtain ⟨g33, c33, rfl, hgN33, _⟩ := ho33.form (by omega)
                refine value_ (v := .slice (some ⟨g33, 0, none⟩) (l.length + 1) c33) (w1 := Wn33) rfl rfl (app_op _ _ rfl rfl (by rfl) (by rfl) hr33) ?_
                have HSn33 : Hid (Wn33.heap[B0]? = some (.cells S0 24 (0, 0))) := Lib.hid (blk_grown HSn32.out hg33 (fun h => by have := own_base own32.out _ h.symm; omega))
                have HLn33 : Hid (Wn33.heap[X_63]? = some (.cells LW 39 (0, 0))) := Lib.hid (blk_grown HLn32.out hg33 (fun h => by have := own_base own32.out _ h.symm; omega))
                have HEn33 : Hid (Below B0 w Wn33) := Lib.hid (HEn32.out.grown hg33 (Nat.le_trans hBN hNn32) (fun k hk => Nat.le_trans hBN (own_base own32.out k hk)))
                have hNn33 : N0 ≤ Wn33.heap.size := Nat.le_trans hNn32 hg33.size
                have own33 := Lib.hid ho33
                have b10n33 : Hid (Wn33.heap[Xn32]? = some (.cells ZS 24 (0, 0))) := Lib.hid (blk_grown b10n32.out hg33 (fun h => ne1032 h.symm))
                have ne1033 : (.slice (some ⟨g33, 0, none⟩) (l.length + 1) c33 : Value).ownBlock ≠ some Xn32 := fun h => by rcases hat33 with q | q <;> rw [q] at h; exact ne1032 h; have h1 := blk_lt b10n32.out; injection h with h; omega
                have ne833 : g33 ≠ Xn32 := fun h => ne1033 (by rw [h]; rfl)
                refine hK.out _ _ ⟨HSn33.out, HLn33.out, (blk_cell HSn33.out 1).trans (by rw [eS0.out]; rfl), (blk_cell HSn33.out 0).trans (by rw [eS0.out]; rfl)⟩ (fun hHeld => ?_)
                clear hK K
                refine norm_ (a' := ?_) ?_ ?_
                rotate_left
                · show Act.put _ (some 74) _ = _
                  simp only [Act.put, List.setIfInBounds_toArray, List.set_cons_zero, List.set_cons_succ, i64_w, i32_w]
                  rfl
                clear hHeld
                obtain ⟨SO33, eSO33⟩ : ∃ A : Array Value, A = #[.int .i64 B, .slice (some ⟨g33, 0, none⟩) (l.length + 1) c33] := ⟨_, rfl⟩
                replace eSO33 := Lib.hid eSO33
                refine pure_ (i := 9) (N := (some 75)) (v := .agg SO33) (a' := ?_) #[true, true, true, true, true, true, true, true, true, true, true, false] rfl rfl (by kernel_rfl) (fun _ _ _ h => h) (Or.inl ⟨by rfl, ?_⟩) ?_ ?_
                · intro w'
                  exact bld_op 24 _ rfl (set_bld B (some ⟨g33, 0, none⟩) (l.length + 1) c33 (by simp [go_sem]) eSO33.out)
                rotate_left
                · simp only [Act.put, List.setIfInBounds_toArray, List.set_cons_zero, List.set_cons_succ, i64_w, i32_w]
                  rfl
                exact norm_ (by simp only [putAll, Act.put, List.setIfInBounds_toArray, List.set_cons_zero, List.set_cons_succ]) (hCont ((.slice (some ⟨Xn28, 0, none⟩) 0 0), v29, (.slice (some ⟨Xn27, 0, none⟩) 1 1), g33, c33, SO33, Xn32) _ ⟨HSn33.out, HEn33.out, b10n33.out, hNX32, own33.out, ne833, eSO33.out, HLn33.out⟩)
            · skip
              obtain ⟨Xn34, hX34⟩ : ∃ X, Wn28.heap.size = X := ⟨_, rfl⟩
              obtain ⟨Wn34, hV34⟩ : ∃ V, Wn28.alloc (.cells ZS 24) = V := ⟨_, rfl⟩
              refine value_ (v := .pointer (some ⟨Xn34, 0, none⟩)) (w1 := Wn34) rfl rfl (by have hz' := hzS; subst hV34; subst hX34; go_simp) ?_
              have HSn34 : Hid (Wn34.heap[B0]? = some (.cells S0 24 (0, 0))) := Lib.hid (hV34 ▸ blk_alloc HSn28.out _)
              have HLn34 : Hid (Wn34.heap[X_63]? = some (.cells LW 39 (0, 0))) := Lib.hid (hV34 ▸ blk_alloc HLn28.out _)
              have HEn34 : Hid (Below B0 w Wn34) := Lib.hid (hV34 ▸ HEn28.out.alloc (Nat.le_trans hBN hNn28) _)
              have hNn34 : N0 ≤ Wn34.heap.size := by rw [← hV34, World.size_alloc]; exact Nat.le_succ_of_le hNn28
              have hNX34 : N0 ≤ Xn34 := hX34 ▸ hNn28
              have b7n34 : Hid (Wn34.heap[Xn27]? = some (.cells LW 39 (0, 0))) := Lib.hid (hV34 ▸ blk_alloc b7n28.out _)
              have own34 := Lib.hid (hV34 ▸ own28.out.alloc (.cells ZS 24) : Wn34.ownsRow N0 39 11 (.slice (some ⟨Xn28, 0, none⟩) 0 0) 0 [])
              have b10n34 : Hid (Wn34.heap[Xn34]? = some (.cells ZS 24 (0, 0))) := Lib.hid (by rw [← hV34, ← hX34]; exact blk_new _ _)
              have ne1034 : ((.slice (some ⟨Xn28, 0, none⟩) 0 0) : Value).ownBlock ≠ some Xn34 := fun h => by have := own_lt own28.out _ h; omega
              refine hK.out _ _ ⟨HSn34.out, HLn34.out, (blk_cell HSn34.out 1).trans (by rw [eS0.out]; rfl), (blk_cell HSn34.out 0).trans (by rw [eS0.out]; rfl)⟩ (fun hHeld => ?_)
              clear hK K
              refine norm_ (a' := ?_) ?_ ?_
              rotate_left
              · show Act.put _ (some 11) _ = _
                simp only [Act.put, List.setIfInBounds_toArray, List.set_cons_zero, List.set_cons_succ, i64_w, i32_w]
                rfl
              clear hHeld
              refine one_ (i := 5) (N := (some 71)) #[true, true, true, true, true, true, true, true, false, false, true, false] rfl rfl (by kernel_rfl) (by decide) (fun K hK => ?_)
              obtain ⟨v35, Wn35, hr35, ho35, hg35, hat35⟩ := app_t Wn34 N0 (.slice (some ⟨Xn28, 0, none⟩) 0 0) 0 [] own34.out ad l.length cap (fl l) (fl_len l) (hfl.out Wn34 HEn34.out) (fl_one l) (by omega) hNn34
              rw [Nat.zero_add, List.nil_append] at ho35
              refine value_ (v := v35) (w1 := Wn35) rfl rfl (app_op _ _ rfl rfl (by rfl) (by rfl) hr35) ?_
              have HSn35 : Hid (Wn35.heap[B0]? = some (.cells S0 24 (0, 0))) := Lib.hid (blk_grown HSn34.out hg35 (fun h => by have := own_base own34.out _ h.symm; omega))
              have HLn35 : Hid (Wn35.heap[X_63]? = some (.cells LW 39 (0, 0))) := Lib.hid (blk_grown HLn34.out hg35 (fun h => by have := own_base own34.out _ h.symm; omega))
              have HEn35 : Hid (Below B0 w Wn35) := Lib.hid (HEn34.out.grown hg35 (Nat.le_trans hBN hNn34) (fun k hk => Nat.le_trans hBN (own_base own34.out k hk)))
              have hNn35 : N0 ≤ Wn35.heap.size := Nat.le_trans hNn34 hg35.size
              have own35 := Lib.hid ho35
              have b7n35 : Hid (Wn35.heap[Xn27]? = some (.cells LW 39 (0, 0))) := Lib.hid (blk_grown b7n34.out hg35 (fun h => ne728 h.symm))
              have ne735 : v35.ownBlock ≠ some Xn27 := fun h => by rcases hat35 with q | q <;> rw [q] at h; exact ne728 h; have h1 := blk_lt b7n34.out; injection h with h; omega
              have b10n35 : Hid (Wn35.heap[Xn34]? = some (.cells ZS 24 (0, 0))) := Lib.hid (blk_grown b10n34.out hg35 (fun h => ne1034 h.symm))
              have ne1035 : (v35 : Value).ownBlock ≠ some Xn34 := fun h => by rcases hat35 with q | q <;> rw [q] at h; exact ne1034 h; have h1 := blk_lt b10n34.out; injection h with h; omega
              refine hK.out _ _ ⟨HSn35.out, HLn35.out, (blk_cell HSn35.out 1).trans (by rw [eS0.out]; rfl), (blk_cell HSn35.out 0).trans (by rw [eS0.out]; rfl)⟩ (fun hHeld => ?_)
              clear hK K
              refine norm_ (a' := ?_) ?_ ?_
              rotate_left
              · show Act.put _ (some 71) _ = _
                simp only [Act.put, List.setIfInBounds_toArray, List.set_cons_zero, List.set_cons_succ, i64_w, i32_w]
                rfl
              clear hHeld
              refine one_ (i := 8) (N := (some 74)) #[true, true, true, true, true, true, true, true, true, false, true, false] rfl rfl (by kernel_rfl) (by decide) (fun K hK => ?_)
              obtain ⟨v36, Wn36, hr36, ho36, hg36, hat36⟩ := app_t Wn35 N0 v35 l.length (fl l) own35.out ⟨Xn27, 0, none⟩ 1 1 LW.toList (by rw [Array.length_toList, zLW.out]) (fun j u hu => by rw [Addr.add_mid, Nat.zero_add, blk_cell b7n35.out]; simpa using hu) (fun v hv => (Array.all_eq_true_iff_forall_mem.1 oLW.out) v (by simpa using hv)) (by omega) hNn35
              obtain ⟨g36, c36, rfl, hgN36, _⟩ := ho36.form (by omega)
              refine value_ (v := .slice (some ⟨g36, 0, none⟩) (l.length + 1) c36) (w1 := Wn36) rfl rfl (app_op _ _ rfl rfl (by rfl) (by rfl) hr36) ?_
              have HSn36 : Hid (Wn36.heap[B0]? = some (.cells S0 24 (0, 0))) := Lib.hid (blk_grown HSn35.out hg36 (fun h => by have := own_base own35.out _ h.symm; omega))
              have HLn36 : Hid (Wn36.heap[X_63]? = some (.cells LW 39 (0, 0))) := Lib.hid (blk_grown HLn35.out hg36 (fun h => by have := own_base own35.out _ h.symm; omega))
              have HEn36 : Hid (Below B0 w Wn36) := Lib.hid (HEn35.out.grown hg36 (Nat.le_trans hBN hNn35) (fun k hk => Nat.le_trans hBN (own_base own35.out k hk)))
              have hNn36 : N0 ≤ Wn36.heap.size := Nat.le_trans hNn35 hg36.size
              have own36 := Lib.hid ho36
              have b10n36 : Hid (Wn36.heap[Xn34]? = some (.cells ZS 24 (0, 0))) := Lib.hid (blk_grown b10n35.out hg36 (fun h => ne1035 h.symm))
              have ne1036 : (.slice (some ⟨g36, 0, none⟩) (l.length + 1) c36 : Value).ownBlock ≠ some Xn34 := fun h => by rcases hat36 with q | q <;> rw [q] at h; exact ne1035 h; have h1 := blk_lt b10n35.out; injection h with h; omega
              have ne836 : g36 ≠ Xn34 := fun h => ne1036 (by rw [h]; rfl)
              refine hK.out _ _ ⟨HSn36.out, HLn36.out, (blk_cell HSn36.out 1).trans (by rw [eS0.out]; rfl), (blk_cell HSn36.out 0).trans (by rw [eS0.out]; rfl)⟩ (fun hHeld => ?_)
              clear hK K
              refine norm_ (a' := ?_) ?_ ?_
              rotate_left
              · show Act.put _ (some 74) _ = _
                simp only [Act.put, List.setIfInBounds_toArray, List.set_cons_zero, List.set_cons_succ, i64_w, i32_w]
                rfl
              clear hHeld
              obtain ⟨SO36, eSO36⟩ : ∃ A : Array Value, A = #[.int .i64 B, .slice (some ⟨g36, 0, none⟩) (l.length + 1) c36] := ⟨_, rfl⟩
              replace eSO36 := Lib.hid eSO36
              refine pure_ (i := 9) (N := (some 75)) (v := .agg SO36) (a' := ?_) #[true, true, true, true, true, true, true, true, true, true, true, false] rfl rfl (by kernel_rfl) (fun _ _ _ h => h) (Or.inl ⟨by rfl, ?_⟩) ?_ ?_
              · intro w'
                exact bld_op 24 _ rfl (set_bld B (some ⟨g36, 0, none⟩) (l.length + 1) c36 (by simp [go_sem]) eSO36.out)
              rotate_left
              · simp only [Act.put, List.setIfInBounds_toArray, List.set_cons_zero, List.set_cons_succ, i64_w, i32_w]
                rfl
              exact norm_ (by simp only [putAll, Act.put, List.setIfInBounds_toArray, List.set_cons_zero, List.set_cons_succ]) (hCont ((.slice (some ⟨Xn28, 0, none⟩) 0 0), v35, (.slice (some ⟨Xn27, 0, none⟩) 1 1), g36, c36, SO36, Xn34) _ ⟨HSn36.out, HEn36.out, b10n36.out, hNX34, own36.out, ne836, eSO36.out, HLn36.out⟩)
          · skip
            obtain ⟨Xn37, hX37⟩ : ∃ X, Wn27.heap.size = X := ⟨_, rfl⟩
            obtain ⟨Wn37, hV37⟩ : ∃ V, Wn27.alloc (.cells ZS 24) = V := ⟨_, rfl⟩
            refine value_ (v := .pointer (some ⟨Xn37, 0, none⟩)) (w1 := Wn37) rfl rfl (by have hz' := hzS; subst hV37; subst hX37; go_simp) ?_
            have HSn37 : Hid (Wn37.heap[B0]? = some (.cells S0 24 (0, 0))) := Lib.hid (hV37 ▸ blk_alloc HSn27.out _)
            have HLn37 : Hid (Wn37.heap[X_63]? = some (.cells LW 39 (0, 0))) := Lib.hid (hV37 ▸ blk_alloc HLn27.out _)
            have HEn37 : Hid (Below B0 w Wn37) := Lib.hid (hV37 ▸ HEn27.out.alloc (Nat.le_trans hBN hNn27) _)
            have hNn37 : N0 ≤ Wn37.heap.size := by rw [← hV37, World.size_alloc]; exact Nat.le_succ_of_le hNn27
            have hNX37 : N0 ≤ Xn37 := hX37 ▸ hNn27
            have b7n37 : Hid (Wn37.heap[Xn27]? = some (.cells LW 39 (0, 0))) := Lib.hid (hV37 ▸ blk_alloc b7n27.out _)
            have b10n37 : Hid (Wn37.heap[Xn37]? = some (.cells ZS 24 (0, 0))) := Lib.hid (by rw [← hV37, ← hX37]; exact blk_new _ _)
            refine hK.out _ _ ⟨HSn37.out, HLn37.out, (blk_cell HSn37.out 1).trans (by rw [eS0.out]; rfl), (blk_cell HSn37.out 0).trans (by rw [eS0.out]; rfl)⟩ (fun hHeld => ?_)
            clear hK K
            refine norm_ (a' := ?_) ?_ ?_
            rotate_left
            · show Act.put _ (some 11) _ = _
              simp only [Act.put, List.setIfInBounds_toArray, List.set_cons_zero, List.set_cons_succ, i64_w, i32_w]
              rfl
            clear hHeld
            refine one_ (i := 2) (N := (some 68)) #[true, true, true, true, true, false, true, true, false, false, true, false] rfl rfl (by kernel_rfl) (by decide) (fun K hK => ?_)
            obtain ⟨Xn38, hX38⟩ : ∃ X, Wn37.heap.size = X := ⟨_, rfl⟩
            obtain ⟨Wn38, hV38⟩ : ∃ V, Wn37.alloc (.cells #[] 39) = V := ⟨_, rfl⟩
            refine value_ (v := .slice (some ⟨Xn38, 0, none⟩) 0 0) (w1 := Wn38) rfl rfl (by subst hV38; subst hX38; go_simp) ?_
            have HSn38 : Hid (Wn38.heap[B0]? = some (.cells S0 24 (0, 0))) := Lib.hid (hV38 ▸ blk_alloc HSn37.out _)
            have HLn38 : Hid (Wn38.heap[X_63]? = some (.cells LW 39 (0, 0))) := Lib.hid (hV38 ▸ blk_alloc HLn37.out _)
            have HEn38 : Hid (Below B0 w Wn38) := Lib.hid (hV38 ▸ HEn37.out.alloc (Nat.le_trans hBN hNn37) _)
            have hNn38 : N0 ≤ Wn38.heap.size := by rw [← hV38, World.size_alloc]; exact Nat.le_succ_of_le hNn37
            have hNX38 : N0 ≤ Xn38 := hX38 ▸ hNn37
            have b7n38 : Hid (Wn38.heap[Xn27]? = some (.cells LW 39 (0, 0))) := Lib.hid (hV38 ▸ blk_alloc b7n37.out _)
            have b10n38 : Hid (Wn38.heap[Xn37]? = some (.cells ZS 24 (0, 0))) := Lib.hid (hV38 ▸ blk_alloc b10n37.out _)
            have own38 : Hid (Wn38.ownsRow N0 39 11 (.slice (some ⟨Xn38, 0, none⟩) 0 0) 0 []) := Lib.hid ⟨rfl, .inr ⟨Xn38, 0, #[], rfl, hNX38, by rw [← hV38, ← hX38]; exact blk_new _ _, Nat.le_refl _, Nat.zero_le _, rfl, rfl⟩⟩
            have ne738 : (.slice (some ⟨Xn38, 0, none⟩) 0 0 : Value).ownBlock ≠ some Xn27 := fun h => by have h1 := blk_lt b7n37.out; have h2 : Xn38 = Xn27 := (by simpa [Value.ownBlock] using h); omega
            have ne1038 : (.slice (some ⟨Xn38, 0, none⟩) 0 0 : Value).ownBlock ≠ some Xn37 := fun h => by have h1 := blk_lt b10n37.out; have h2 : Xn38 = Xn37 := (by simpa [Value.ownBlock] using h); omega
            refine hK.out _ _ ⟨HSn38.out, HLn38.out, (blk_cell HSn38.out 1).trans (by rw [eS0.out]; rfl), (blk_cell HSn38.out 0).trans (by rw [eS0.out]; rfl)⟩ (fun hHeld => ?_)
            clear hK K
            refine norm_ (a' := ?_) ?_ ?_
            rotate_left
            · show Act.put _ (some 68) _ = _
              simp only [Act.put, List.setIfInBounds_toArray, List.set_cons_zero, List.set_cons_succ, i64_w, i32_w]
              rfl
            clear hHeld
            refine one_ (i := 5) (N := (some 71)) #[true, true, true, true, true, true, true, true, false, false, true, false] rfl rfl (by kernel_rfl) (by decide) (fun K hK => ?_)
            obtain ⟨v39, Wn39, hr39, ho39, hg39, hat39⟩ := app_t Wn38 N0 (.slice (some ⟨Xn38, 0, none⟩) 0 0) 0 [] own38.out ad l.length cap (fl l) (fl_len l) (hfl.out Wn38 HEn38.out) (fl_one l) (by omega) hNn38
            rw [Nat.zero_add, List.nil_append] at ho39
            refine value_ (v := v39) (w1 := Wn39) rfl rfl (app_op _ _ rfl rfl (by rfl) (by rfl) hr39) ?_
            have HSn39 : Hid (Wn39.heap[B0]? = some (.cells S0 24 (0, 0))) := Lib.hid (blk_grown HSn38.out hg39 (fun h => by have := own_base own38.out _ h.symm; omega))
            have HLn39 : Hid (Wn39.heap[X_63]? = some (.cells LW 39 (0, 0))) := Lib.hid (blk_grown HLn38.out hg39 (fun h => by have := own_base own38.out _ h.symm; omega))
            have HEn39 : Hid (Below B0 w Wn39) := Lib.hid (HEn38.out.grown hg39 (Nat.le_trans hBN hNn38) (fun k hk => Nat.le_trans hBN (own_base own38.out k hk)))
            have hNn39 : N0 ≤ Wn39.heap.size := Nat.le_trans hNn38 hg39.size
            have own39 := Lib.hid ho39
            have b7n39 : Hid (Wn39.heap[Xn27]? = some (.cells LW 39 (0, 0))) := Lib.hid (blk_grown b7n38.out hg39 (fun h => ne738 h.symm))
            have ne739 : v39.ownBlock ≠ some Xn27 := fun h => by rcases hat39 with q | q <;> rw [q] at h; exact ne738 h; have h1 := blk_lt b7n38.out; injection h with h; omega
            have b10n39 : Hid (Wn39.heap[Xn37]? = some (.cells ZS 24 (0, 0))) := Lib.hid (blk_grown b10n38.out hg39 (fun h => ne1038 h.symm))
            have ne1039 : (v39 : Value).ownBlock ≠ some Xn37 := fun h => by rcases hat39 with q | q <;> rw [q] at h; exact ne1038 h; have h1 := blk_lt b10n38.out; injection h with h; omega
            refine hK.out _ _ ⟨HSn39.out, HLn39.out, (blk_cell HSn39.out 1).trans (by rw [eS0.out]; rfl), (blk_cell HSn39.out 0).trans (by rw [eS0.out]; rfl)⟩ (fun hHeld => ?_)
            clear hK K
            refine norm_ (a' := ?_) ?_ ?_
            rotate_left
            · show Act.put _ (some 71) _ = _
              simp only [Act.put, List.setIfInBounds_toArray, List.set_cons_zero, List.set_cons_succ, i64_w, i32_w]
              rfl
            clear hHeld
            refine one_ (i := 8) (N := (some 74)) #[true, true, true, true, true, true, true, true, true, false, true, false] rfl rfl (by kernel_rfl) (by decide) (fun K hK => ?_)
            obtain ⟨v40, Wn40, hr40, ho40, hg40, hat40⟩ := app_t Wn39 N0 v39 l.length (fl l) own39.out ⟨Xn27, 0, none⟩ 1 1 LW.toList (by rw [Array.length_toList, zLW.out]) (fun j u hu => by rw [Addr.add_mid, Nat.zero_add, blk_cell b7n39.out]; simpa using hu) (fun v hv => (Array.all_eq_true_iff_forall_mem.1 oLW.out) v (by simpa using hv)) (by omega) hNn39
            obtain ⟨g40, c40, rfl, hgN40, _⟩ := ho40.form (by omega)
            refine value_ (v := .slice (some ⟨g40, 0, none⟩) (l.length + 1) c40) (w1 := Wn40) rfl rfl (app_op _ _ rfl rfl (by rfl) (by rfl) hr40) ?_
            have HSn40 : Hid (Wn40.heap[B0]? = some (.cells S0 24 (0, 0))) := Lib.hid (blk_grown HSn39.out hg40 (fun h => by have := own_base own39.out _ h.symm; omega))
            have HLn40 : Hid (Wn40.heap[X_63]? = some (.cells LW 39 (0, 0))) := Lib.hid (blk_grown HLn39.out hg40 (fun h => by have := own_base own39.out _ h.symm; omega))
            have HEn40 : Hid (Below B0 w Wn40) := Lib.hid (HEn39.out.grown hg40 (Nat.le_trans hBN hNn39) (fun k hk => Nat.le_trans hBN (own_base own39.out k hk)))
            have hNn40 : N0 ≤ Wn40.heap.size := Nat.le_trans hNn39 hg40.size
            have own40 := Lib.hid ho40
            have b10n40 : Hid (Wn40.heap[Xn37]? = some (.cells ZS 24 (0, 0))) := Lib.hid (blk_grown b10n39.out hg40 (fun h => ne1039 h.symm))
            have ne1040 : (.slice (some ⟨g40, 0, none⟩) (l.length + 1) c40 : Value).ownBlock ≠ some Xn37 := fun h => by rcases hat40 with q | q <;> rw [q] at h; exact ne1039 h; have h1 := blk_lt b10n39.out; injection h with h; omega
            have ne840 : g40 ≠ Xn37 := fun h => ne1040 (by rw [h]; rfl)
            refine hK.out _ _ ⟨HSn40.out, HLn40.out, (blk_cell HSn40.out 1).trans (by rw [eS0.out]; rfl), (blk_cell HSn40.out 0).trans (by rw [eS0.out]; rfl)⟩ (fun hHeld => ?_)
            clear hK K
            refine norm_ (a' := ?_) ?_ ?_
            rotate_left
            · show Act.put _ (some 74) _ = _
              simp only [Act.put, List.setIfInBounds_toArray, List.set_cons_zero, List.set_cons_succ, i64_w, i32_w]
              rfl
            clear hHeld
            obtain ⟨SO40, eSO40⟩ : ∃ A : Array Value, A = #[.int .i64 B, .slice (some ⟨g40, 0, none⟩) (l.length + 1) c40] := ⟨_, rfl⟩
            replace eSO40 := Lib.hid eSO40
            refine pure_ (i := 9) (N := (some 75)) (v := .agg SO40) (a' := ?_) #[true, true, true, true, true, true, true, true, true, true, true, false] rfl rfl (by kernel_rfl) (fun _ _ _ h => h) (Or.inl ⟨by rfl, ?_⟩) ?_ ?_
            · intro w'
              exact bld_op 24 _ rfl (set_bld B (some ⟨g40, 0, none⟩) (l.length + 1) c40 (by simp [go_sem]) eSO40.out)
            rotate_left
            · simp only [Act.put, List.setIfInBounds_toArray, List.set_cons_zero, List.set_cons_succ, i64_w, i32_w]
              rfl
            exact norm_ (by simp only [putAll, Act.put, List.setIfInBounds_toArray, List.set_cons_zero, List.set_cons_succ]) (hCont ((.slice (some ⟨Xn38, 0, none⟩) 0 0), v39, (.slice (some ⟨Xn27, 0, none⟩) 1 1), g40, c40, SO40, Xn37) _ ⟨HSn40.out, HEn40.out, b10n40.out, hNX37, own40.out, ne840, eSO40.out, HLn40.out⟩)
        · skip
          obtain ⟨Xn41, hX41⟩ : ∃ X, Wd.heap.size = X := ⟨_, rfl⟩
          obtain ⟨Wn41, hV41⟩ : ∃ V, Wd.alloc (.cells ZS 24) = V := ⟨_, rfl⟩
          refine value_ (v := .pointer (some ⟨Xn41, 0, none⟩)) (w1 := Wn41) rfl rfl (by have hz' := hzS; subst hV41; subst hX41; go_simp) ?_
          have HSn41 : Hid (Wn41.heap[B0]? = some (.cells S0 24 (0, 0))) := Lib.hid (hV41 ▸ blk_alloc HSd.out _)
          have HLn41 : Hid (Wn41.heap[X_63]? = some (.cells LW 39 (0, 0))) := Lib.hid (hV41 ▸ blk_alloc HLd.out _)
          have HEn41 : Hid (Below B0 w Wn41) := Lib.hid (hV41 ▸ HEd.out.alloc (Nat.le_trans hBN hNd) _)
          have hNn41 : N0 ≤ Wn41.heap.size := by rw [← hV41, World.size_alloc]; exact Nat.le_succ_of_le hNd
          have hNX41 : N0 ≤ Xn41 := hX41 ▸ hNd
          have b10n41 : Hid (Wn41.heap[Xn41]? = some (.cells ZS 24 (0, 0))) := Lib.hid (by rw [← hV41, ← hX41]; exact blk_new _ _)
          refine hK.out _ _ ⟨HSn41.out, HLn41.out, (blk_cell HSn41.out 1).trans (by rw [eS0.out]; rfl), (blk_cell HSn41.out 0).trans (by rw [eS0.out]; rfl)⟩ (fun hHeld => ?_)
          clear hK K
          refine norm_ (a' := ?_) ?_ ?_
          rotate_left
          · show Act.put _ (some 11) _ = _
            simp only [Act.put, List.setIfInBounds_toArray, List.set_cons_zero, List.set_cons_succ, i64_w, i32_w]
            rfl
          clear hHeld
          refine two_ (i := 2) (j := 7) (Ni := some 68) (Nj := some 73) #[true, true, true, true, true, false, true, false, false, false, true, false] #[true, true, false, true, true, false, true, true, false, false, true, false] rfl rfl rfl rfl (by kernel_rfl) (by decide) (by decide) (fun K hK => ?_) (fun K hK => ?_)
          · skip
            obtain ⟨Xn42, hX42⟩ : ∃ X, Wn41.heap.size = X := ⟨_, rfl⟩
            obtain ⟨Wn42, hV42⟩ : ∃ V, Wn41.alloc (.cells #[] 39) = V := ⟨_, rfl⟩
            refine value_ (v := .slice (some ⟨Xn42, 0, none⟩) 0 0) (w1 := Wn42) rfl rfl (by subst hV42; subst hX42; go_simp) ?_
            have HSn42 : Hid (Wn42.heap[B0]? = some (.cells S0 24 (0, 0))) := Lib.hid (hV42 ▸ blk_alloc HSn41.out _)
            have HLn42 : Hid (Wn42.heap[X_63]? = some (.cells LW 39 (0, 0))) := Lib.hid (hV42 ▸ blk_alloc HLn41.out _)
            have HEn42 : Hid (Below B0 w Wn42) := Lib.hid (hV42 ▸ HEn41.out.alloc (Nat.le_trans hBN hNn41) _)
            have hNn42 : N0 ≤ Wn42.heap.size := by rw [← hV42, World.size_alloc]; exact Nat.le_succ_of_le hNn41
            have hNX42 : N0 ≤ Xn42 := hX42 ▸ hNn41
            have b10n42 : Hid (Wn42.heap[Xn41]? = some (.cells ZS 24 (0, 0))) := Lib.hid (hV42 ▸ blk_alloc b10n41.out _)
            have own42 : Hid (Wn42.ownsRow N0 39 11 (.slice (some ⟨Xn42, 0, none⟩) 0 0) 0 []) := Lib.hid ⟨rfl, .inr ⟨Xn42, 0, #[], rfl, hNX42, by rw [← hV42, ← hX42]; exact blk_new _ _, Nat.le_refl _, Nat.zero_le _, rfl, rfl⟩⟩
            have ne1042 : (.slice (some ⟨Xn42, 0, none⟩) 0 0 : Value).ownBlock ≠ some Xn41 := fun h => by have h1 := blk_lt b10n41.out; have h2 : Xn42 = Xn41 := (by simpa [Value.ownBlock] using h); omega
            refine hK.out _ _ ⟨HSn42.out, HLn42.out, (blk_cell HSn42.out 1).trans (by rw [eS0.out]; rfl), (blk_cell HSn42.out 0).trans (by rw [eS0.out]; rfl)⟩ (fun hHeld => ?_)
            clear hK K
            refine norm_ (a' := ?_) ?_ ?_
            rotate_left
            · show Act.put _ (some 68) _ = _
              simp only [Act.put, List.setIfInBounds_toArray, List.set_cons_zero, List.set_cons_succ, i64_w, i32_w]
              rfl
            clear hHeld
            refine two_ (i := 5) (j := 7) (Ni := some 71) (Nj := some 73) #[true, true, true, true, true, true, true, false, false, false, true, false] #[true, true, true, true, true, false, true, true, false, false, true, false] rfl rfl rfl rfl (by kernel_rfl) (by decide) (by decide) (fun K hK => ?_) (fun K hK => ?_)
            · skip
              obtain ⟨v43, Wn43, hr43, ho43, hg43, hat43⟩ := app_t Wn42 N0 (.slice (some ⟨Xn42, 0, none⟩) 0 0) 0 [] own42.out ad l.length cap (fl l) (fl_len l) (hfl.out Wn42 HEn42.out) (fl_one l) (by omega) hNn42
              rw [Nat.zero_add, List.nil_append] at ho43
              refine value_ (v := v43) (w1 := Wn43) rfl rfl (app_op _ _ rfl rfl (by rfl) (by rfl) hr43) ?_
              have HSn43 : Hid (Wn43.heap[B0]? = some (.cells S0 24 (0, 0))) := Lib.hid (blk_grown HSn42.out hg43 (fun h => by have := own_base own42.out _ h.symm; omega))
              have HLn43 : Hid (Wn43.heap[X_63]? = some (.cells LW 39 (0, 0))) := Lib.hid (blk_grown HLn42.out hg43 (fun h => by have := own_base own42.out _ h.symm; omega))
              have HEn43 : Hid (Below B0 w Wn43) := Lib.hid (HEn42.out.grown hg43 (Nat.le_trans hBN hNn42) (fun k hk => Nat.le_trans hBN (own_base own42.out k hk)))
              have hNn43 : N0 ≤ Wn43.heap.size := Nat.le_trans hNn42 hg43.size
              have own43 := Lib.hid ho43
              have b10n43 : Hid (Wn43.heap[Xn41]? = some (.cells ZS 24 (0, 0))) := Lib.hid (blk_grown b10n42.out hg43 (fun h => ne1042 h.symm))
              have ne1043 : (v43 : Value).ownBlock ≠ some Xn41 := fun h => by rcases hat43 with q | q <;> rw [q] at h; exact ne1042 h; have h1 := blk_lt b10n42.out; injection h with h; omega
              refine hK.out _ _ ⟨HSn43.out, HLn43.out, (blk_cell HSn43.out 1).trans (by rw [eS0.out]; rfl), (blk_cell HSn43.out 0).trans (by rw [eS0.out]; rfl)⟩ (fun hHeld => ?_)
              clear hK K
              refine norm_ (a' := ?_) ?_ ?_
              rotate_left
              · show Act.put _ (some 71) _ = _
                simp only [Act.put, List.setIfInBounds_toArray, List.set_cons_zero, List.set_cons_succ, i64_w, i32_w]
                rfl
              clear hHeld
              refine one_ (i := 7) (N := (some 73)) #[true, true, true, true, true, true, true, true, false, false, true, false] rfl rfl (by kernel_rfl) (by decide) (fun K hK => ?_)
              obtain ⟨Xn44, hX44⟩ : ∃ X, Wn43.heap.size = X := ⟨_, rfl⟩
              obtain ⟨Wn44, hV44⟩ : ∃ V, Wn43.alloc (.cells LW 39) = V := ⟨_, rfl⟩
              refine value_ (v := .slice (some ⟨Xn44, 0, none⟩) 1 1) (w1 := Wn44) rfl rfl (by have hfold' := hfold.out; have hA11 := zLW.out; subst hV44; subst hX44; go_simp) ?_
              have HSn44 : Hid (Wn44.heap[B0]? = some (.cells S0 24 (0, 0))) := Lib.hid (hV44 ▸ blk_alloc HSn43.out _)
              have HLn44 : Hid (Wn44.heap[X_63]? = some (.cells LW 39 (0, 0))) := Lib.hid (hV44 ▸ blk_alloc HLn43.out _)
              have HEn44 : Hid (Below B0 w Wn44) := Lib.hid (hV44 ▸ HEn43.out.alloc (Nat.le_trans hBN hNn43) _)
              have hNn44 : N0 ≤ Wn44.heap.size := by rw [← hV44, World.size_alloc]; exact Nat.le_succ_of_le hNn43
              have hNX44 : N0 ≤ Xn44 := hX44 ▸ hNn43
              have b10n44 : Hid (Wn44.heap[Xn41]? = some (.cells ZS 24 (0, 0))) := Lib.hid (hV44 ▸ blk_alloc b10n43.out _)
              have own44 := Lib.hid (hV44 ▸ own43.out.alloc (.cells LW 39) : Wn44.ownsRow N0 39 11 v43 l.length (fl l))
              have b7n44 : Hid (Wn44.heap[Xn44]? = some (.cells LW 39 (0, 0))) := Lib.hid (by rw [← hV44, ← hX44]; exact blk_new _ _)
              have ne744 : (v43 : Value).ownBlock ≠ some Xn44 := fun h => by have := own_lt own43.out _ h; omega
              refine hK.out _ _ ⟨HSn44.out, HLn44.out, (blk_cell HSn44.out 1).trans (by rw [eS0.out]; rfl), (blk_cell HSn44.out 0).trans (by rw [eS0.out]; rfl)⟩ (fun hHeld => ?_)
              clear hK K
              refine norm_ (a' := ?_) ?_ ?_
              rotate_left
              · show Act.put _ (some 73) _ = _
                simp only [Act.put, List.setIfInBounds_toArray, List.set_cons_zero, List.set_cons_succ, i64_w, i32_w]
                rfl
              clear hHeld
              refine one_ (i := 8) (N := (some 74)) #[true, true, true, true, true, true, true, true, true, false, true, false] rfl rfl (by kernel_rfl) (by decide) (fun K hK => ?_)
              obtain ⟨v45, Wn45, hr45, ho45, hg45, hat45⟩ := app_t Wn44 N0 v43 l.length (fl l) own44.out ⟨Xn44, 0, none⟩ 1 1 LW.toList (by rw [Array.length_toList, zLW.out]) (fun j u hu => by rw [Addr.add_mid, Nat.zero_add, blk_cell b7n44.out]; simpa using hu) (fun v hv => (Array.all_eq_true_iff_forall_mem.1 oLW.out) v (by simpa using hv)) (by omega) hNn44
              obtain ⟨g45, c45, rfl, hgN45, _⟩ := ho45.form (by omega)
              refine value_ (v := .slice (some ⟨g45, 0, none⟩) (l.length + 1) c45) (w1 := Wn45) rfl rfl (app_op _ _ rfl rfl (by rfl) (by rfl) hr45) ?_
              have HSn45 : Hid (Wn45.heap[B0]? = some (.cells S0 24 (0, 0))) := Lib.hid (blk_grown HSn44.out hg45 (fun h => by have := own_base own44.out _ h.symm; omega))
              have HLn45 : Hid (Wn45.heap[X_63]? = some (.cells LW 39 (0, 0))) := Lib.hid (blk_grown HLn44.out hg45 (fun h => by have := own_base own44.out _ h.symm; omega))
              have HEn45 : Hid (Below B0 w Wn45) := Lib.hid (HEn44.out.grown hg45 (Nat.le_trans hBN hNn44) (fun k hk => Nat.le_trans hBN (own_base own44.out k hk)))
              have hNn45 : N0 ≤ Wn45.heap.size := Nat.le_trans hNn44 hg45.size
              have own45 := Lib.hid ho45
              have b10n45 : Hid (Wn45.heap[Xn41]? = some (.cells ZS 24 (0, 0))) := Lib.hid (blk_grown b10n44.out hg45 (fun h => ne1043 h.symm))
              have ne1045 : (.slice (some ⟨g45, 0, none⟩) (l.length + 1) c45 : Value).ownBlock ≠ some Xn41 := fun h => by rcases hat45 with q | q <;> rw [q] at h; exact ne1043 h; have h1 := blk_lt b10n44.out; injection h with h; omega
              have ne845 : g45 ≠ Xn41 := fun h => ne1045 (by rw [h]; rfl)
              refine hK.out _ _ ⟨HSn45.out, HLn45.out, (blk_cell HSn45.out 1).trans (by rw [eS0.out]; rfl), (blk_cell HSn45.out 0).trans (by rw [eS0.out]; rfl)⟩ (fun hHeld => ?_)
              clear hK K
              refine norm_ (a' := ?_) ?_ ?_
              rotate_left
              · show Act.put _ (some 74) _ = _
                simp only [Act.put, List.setIfInBounds_toArray, List.set_cons_zero, List.set_cons_succ, i64_w, i32_w]
                rfl
              clear hHeld
              obtain ⟨SO45, eSO45⟩ : ∃ A : Array Value, A = #[.int .i64 B, .slice (some ⟨g45, 0, none⟩) (l.length + 1) c45] := ⟨_, rfl⟩
              replace eSO45 := Lib.hid eSO45
              refine pure_ (i := 9) (N := (some 75)) (v := .agg SO45) (a' := ?_) #[true, true, true, true, true, true, true, true, true, true, true, false] rfl rfl (by kernel_rfl) (fun _ _ _ h => h) (Or.inl ⟨by rfl, ?_⟩) ?_ ?_
              · intro w'
                exact bld_op 24 _ rfl (set_bld B (some ⟨g45, 0, none⟩) (l.length + 1) c45 (by simp [go_sem]) eSO45.out)
              rotate_left
              · simp only [Act.put, List.setIfInBounds_toArray, List.set_cons_zero, List.set_cons_succ, i64_w, i32_w]
                rfl
              exact norm_ (by simp only [putAll, Act.put, List.setIfInBounds_toArray, List.set_cons_zero, List.set_cons_succ]) (hCont ((.slice (some ⟨Xn42, 0, none⟩) 0 0), v43, (.slice (some ⟨Xn44, 0, none⟩) 1 1), g45, c45, SO45, Xn41) _ ⟨HSn45.out, HEn45.out, b10n45.out, hNX41, own45.out, ne845, eSO45.out, HLn45.out⟩)
            · skip
              obtain ⟨Xn46, hX46⟩ : ∃ X, Wn42.heap.size = X := ⟨_, rfl⟩
              obtain ⟨Wn46, hV46⟩ : ∃ V, Wn42.alloc (.cells LW 39) = V := ⟨_, rfl⟩
              refine value_ (v := .slice (some ⟨Xn46, 0, none⟩) 1 1) (w1 := Wn46) rfl rfl (by have hfold' := hfold.out; have hA11 := zLW.out; subst hV46; subst hX46; go_simp) ?_
              have HSn46 : Hid (Wn46.heap[B0]? = some (.cells S0 24 (0, 0))) := Lib.hid (hV46 ▸ blk_alloc HSn42.out _)
              have HLn46 : Hid (Wn46.heap[X_63]? = some (.cells LW 39 (0, 0))) := Lib.hid (hV46 ▸ blk_alloc HLn42.out _)
              have HEn46 : Hid (Below B0 w Wn46) := Lib.hid (hV46 ▸ HEn42.out.alloc (Nat.le_trans hBN hNn42) _)
              have hNn46 : N0 ≤ Wn46.heap.size := by rw [← hV46, World.size_alloc]; exact Nat.le_succ_of_le hNn42
              have hNX46 : N0 ≤ Xn46 := hX46 ▸ hNn42
              have b10n46 : Hid (Wn46.heap[Xn41]? = some (.cells ZS 24 (0, 0))) := Lib.hid (hV46 ▸ blk_alloc b10n42.out _)
              have own46 := Lib.hid (hV46 ▸ own42.out.alloc (.cells LW 39) : Wn46.ownsRow N0 39 11 (.slice (some ⟨Xn42, 0, none⟩) 0 0) 0 [])
              have b7n46 : Hid (Wn46.heap[Xn46]? = some (.cells LW 39 (0, 0))) := Lib.hid (by rw [← hV46, ← hX46]; exact blk_new _ _)
              have ne746 : ((.slice (some ⟨Xn42, 0, none⟩) 0 0) : Value).ownBlock ≠ some Xn46 := fun h => by have := own_lt own42.out _ h; omega
              refine hK.out _ _ ⟨HSn46.out, HLn46.out, (blk_cell HSn46.out 1).trans (by rw [eS0.out]; rfl), (blk_cell HSn46.out 0).trans (by rw [eS0.out]; rfl)⟩ (fun hHeld => ?_)
              clear hK K
              refine norm_ (a' := ?_) ?_ ?_
              rotate_left
              · show Act.put _ (some 73) _ = _
                simp only [Act.put, List.setIfInBounds_toArray, List.set_cons_zero, List.set_cons_succ, i64_w, i32_w]
                rfl
              clear hHeld
              refine one_ (i := 5) (N := (some 71)) #[true, true, true, true, true, true, true, true, false, false, true, false] rfl rfl (by kernel_rfl) (by decide) (fun K hK => ?_)
              obtain ⟨v47, Wn47, hr47, ho47, hg47, hat47⟩ := app_t Wn46 N0 (.slice (some ⟨Xn42, 0, none⟩) 0 0) 0 [] own46.out ad l.length cap (fl l) (fl_len l) (hfl.out Wn46 HEn46.out) (fl_one l) (by omega) hNn46
              rw [Nat.zero_add, List.nil_append] at ho47
              refine value_ (v := v47) (w1 := Wn47) rfl rfl (app_op _ _ rfl rfl (by rfl) (by rfl) hr47) ?_
              have HSn47 : Hid (Wn47.heap[B0]? = some (.cells S0 24 (0, 0))) := Lib.hid (blk_grown HSn46.out hg47 (fun h => by have := own_base own46.out _ h.symm; omega))
              have HLn47 : Hid (Wn47.heap[X_63]? = some (.cells LW 39 (0, 0))) := Lib.hid (blk_grown HLn46.out hg47 (fun h => by have := own_base own46.out _ h.symm; omega))
              have HEn47 : Hid (Below B0 w Wn47) := Lib.hid (HEn46.out.grown hg47 (Nat.le_trans hBN hNn46) (fun k hk => Nat.le_trans hBN (own_base own46.out k hk)))
              have hNn47 : N0 ≤ Wn47.heap.size := Nat.le_trans hNn46 hg47.size
              have own47 := Lib.hid ho47
              have b7n47 : Hid (Wn47.heap[Xn46]? = some (.cells LW 39 (0, 0))) := Lib.hid (blk_grown b7n46.out hg47 (fun h => ne746 h.symm))
              have ne747 : v47.ownBlock ≠ some Xn46 := fun h => by rcases hat47 with q | q <;> rw [q] at h; exact ne746 h; have h1 := blk_lt b7n46.out; injection h with h; omega
              have b10n47 : Hid (Wn47.heap[Xn41]? = some (.cells ZS 24 (0, 0))) := Lib.hid (blk_grown b10n46.out hg47 (fun h => ne1042 h.symm))
              have ne1047 : (v47 : Value).ownBlock ≠ some Xn41 := fun h => by rcases hat47 with q | q <;> rw [q] at h; exact ne1042 h; have h1 := blk_lt b10n46.out; injection h with h; omega
              refine hK.out _ _ ⟨HSn47.out, HLn47.out, (blk_cell HSn47.out 1).trans (by rw [eS0.out]; rfl), (blk_cell HSn47.out 0).trans (by rw [eS0.out]; rfl)⟩ (fun hHeld => ?_)
              clear hK K
              refine norm_ (a' := ?_) ?_ ?_
              rotate_left
              · show Act.put _ (some 71) _ = _
                simp only [Act.put, List.setIfInBounds_toArray, List.set_cons_zero, List.set_cons_succ, i64_w, i32_w]
                rfl
              clear hHeld
              refine one_ (i := 8) (N := (some 74)) #[true, true, true, true, true, true, true, true, true, false, true, false] rfl rfl (by kernel_rfl) (by decide) (fun K hK => ?_)
              obtain ⟨v48, Wn48, hr48, ho48, hg48, hat48⟩ := app_t Wn47 N0 v47 l.length (fl l) own47.out ⟨Xn46, 0, none⟩ 1 1 LW.toList (by rw [Array.length_toList, zLW.out]) (fun j u hu => by rw [Addr.add_mid, Nat.zero_add, blk_cell b7n47.out]; simpa using hu) (fun v hv => (Array.all_eq_true_iff_forall_mem.1 oLW.out) v (by simpa using hv)) (by omega) hNn47
              obtain ⟨g48, c48, rfl, hgN48, _⟩ := ho48.form (by omega)
              refine value_ (v := .slice (some ⟨g48, 0, none⟩) (l.length + 1) c48) (w1 := Wn48) rfl rfl (app_op _ _ rfl rfl (by rfl) (by rfl) hr48) ?_
              have HSn48 : Hid (Wn48.heap[B0]? = some (.cells S0 24 (0, 0))) := Lib.hid (blk_grown HSn47.out hg48 (fun h => by have := own_base own47.out _ h.symm; omega))
              have HLn48 : Hid (Wn48.heap[X_63]? = some (.cells LW 39 (0, 0))) := Lib.hid (blk_grown HLn47.out hg48 (fun h => by have := own_base own47.out _ h.symm; omega))
              have HEn48 : Hid (Below B0 w Wn48) := Lib.hid (HEn47.out.grown hg48 (Nat.le_trans hBN hNn47) (fun k hk => Nat.le_trans hBN (own_base own47.out k hk)))
              have hNn48 : N0 ≤ Wn48.heap.size := Nat.le_trans hNn47 hg48.size
              have own48 := Lib.hid ho48
              have b10n48 : Hid (Wn48.heap[Xn41]? = some (.cells ZS 24 (0, 0))) := Lib.hid (blk_grown b10n47.out hg48 (fun h => ne1047 h.symm))
              have ne1048 : (.slice (some ⟨g48, 0, none⟩) (l.length + 1) c48 : Value).ownBlock ≠ some Xn41 := fun h => by rcases hat48 with q | q <;> rw [q] at h; exact ne1047 h; have h1 := blk_lt b10n47.out; injection h with h; omega
              have ne848 : g48 ≠ Xn41 := fun h => ne1048 (by rw [h]; rfl)
              refine hK.out _ _ ⟨HSn48.out, HLn48.out, (blk_cell HSn48.out 1).trans (by rw [eS0.out]; rfl), (blk_cell HSn48.out 0).trans (by rw [eS0.out]; rfl)⟩ (fun hHeld => ?_)
              clear hK K
              refine norm_ (a' := ?_) ?_ ?_
              rotate_left
              · show Act.put _ (some 74) _ = _
                simp only [Act.put, List.setIfInBounds_toArray, List.set_cons_zero, List.set_cons_succ, i64_w, i32_w]
                rfl
              clear hHeld
              obtain ⟨SO48, eSO48⟩ : ∃ A : Array Value, A = #[.int .i64 B, .slice (some ⟨g48, 0, none⟩) (l.length + 1) c48] := ⟨_, rfl⟩
              replace eSO48 := Lib.hid eSO48
              refine pure_ (i := 9) (N := (some 75)) (v := .agg SO48) (a' := ?_) #[true, true, true, true, true, true, true, true, true, true, true, false] rfl rfl (by kernel_rfl) (fun _ _ _ h => h) (Or.inl ⟨by rfl, ?_⟩) ?_ ?_
              · intro w'
                exact bld_op 24 _ rfl (set_bld B (some ⟨g48, 0, none⟩) (l.length + 1) c48 (by simp [go_sem]) eSO48.out)
              rotate_left
              · simp only [Act.put, List.setIfInBounds_toArray, List.set_cons_zero, List.set_cons_succ, i64_w, i32_w]
                rfl
              exact norm_ (by simp only [putAll, Act.put, List.setIfInBounds_toArray, List.set_cons_zero, List.set_cons_succ]) (hCont ((.slice (some ⟨Xn42, 0, none⟩) 0 0), v47, (.slice (some ⟨Xn46, 0, none⟩) 1 1), g48, c48, SO48, Xn41) _ ⟨HSn48.out, HEn48.out, b10n48.out, hNX41, own48.out, ne848, eSO48.out, HLn48.out⟩)
          · skip
            obtain ⟨Xn49, hX49⟩ : ∃ X, Wn41.heap.size = X := ⟨_, rfl⟩
            obtain ⟨Wn49, hV49⟩ : ∃ V, Wn41.alloc (.cells LW 39) = V := ⟨_, rfl⟩
            refine value_ (v := .slice (some ⟨Xn49, 0, none⟩) 1 1) (w1 := Wn49) rfl rfl (by have hfold' := hfold.out; have hA11 := zLW.out; subst hV49; subst hX49; go_simp) ?_
            have HSn49 : Hid (Wn49.heap[B0]? = some (.cells S0 24 (0, 0))) := Lib.hid (hV49 ▸ blk_alloc HSn41.out _)
            have HLn49 : Hid (Wn49.heap[X_63]? = some (.cells LW 39 (0, 0))) := Lib.hid (hV49 ▸ blk_alloc HLn41.out _)
            have HEn49 : Hid (Below B0 w Wn49) := Lib.hid (hV49 ▸ HEn41.out.alloc (Nat.le_trans hBN hNn41) _)
            have hNn49 : N0 ≤ Wn49.heap.size := by rw [← hV49, World.size_alloc]; exact Nat.le_succ_of_le hNn41
            have hNX49 : N0 ≤ Xn49 := hX49 ▸ hNn41
            have b10n49 : Hid (Wn49.heap[Xn41]? = some (.cells ZS 24 (0, 0))) := Lib.hid (hV49 ▸ blk_alloc b10n41.out _)
            have b7n49 : Hid (Wn49.heap[Xn49]? = some (.cells LW 39 (0, 0))) := Lib.hid (by rw [← hV49, ← hX49]; exact blk_new _ _)
            refine hK.out _ _ ⟨HSn49.out, HLn49.out, (blk_cell HSn49.out 1).trans (by rw [eS0.out]; rfl), (blk_cell HSn49.out 0).trans (by rw [eS0.out]; rfl)⟩ (fun hHeld => ?_)
            clear hK K
            refine norm_ (a' := ?_) ?_ ?_
            rotate_left
            · show Act.put _ (some 73) _ = _
              simp only [Act.put, List.setIfInBounds_toArray, List.set_cons_zero, List.set_cons_succ, i64_w, i32_w]
              rfl
            clear hHeld
            refine one_ (i := 2) (N := (some 68)) #[true, true, true, true, true, false, true, true, false, false, true, false] rfl rfl (by kernel_rfl) (by decide) (fun K hK => ?_)
            obtain ⟨Xn50, hX50⟩ : ∃ X, Wn49.heap.size = X := ⟨_, rfl⟩
            obtain ⟨Wn50, hV50⟩ : ∃ V, Wn49.alloc (.cells #[] 39) = V := ⟨_, rfl⟩
            refine value_ (v := .slice (some ⟨Xn50, 0, none⟩) 0 0) (w1 := Wn50) rfl rfl (by subst hV50; subst hX50; go_simp) ?_
            have HSn50 : Hid (Wn50.heap[B0]? = some (.cells S0 24 (0, 0))) := Lib.hid (hV50 ▸ blk_alloc HSn49.out _)
            have HLn50 : Hid (Wn50.heap[X_63]? = some (.cells LW 39 (0, 0))) := Lib.hid (hV50 ▸ blk_alloc HLn49.out _)
            have HEn50 : Hid (Below B0 w Wn50) := Lib.hid (hV50 ▸ HEn49.out.alloc (Nat.le_trans hBN hNn49) _)
            have hNn50 : N0 ≤ Wn50.heap.size := by rw [← hV50, World.size_alloc]; exact Nat.le_succ_of_le hNn49
            have hNX50 : N0 ≤ Xn50 := hX50 ▸ hNn49
            have b7n50 : Hid (Wn50.heap[Xn49]? = some (.cells LW 39 (0, 0))) := Lib.hid (hV50 ▸ blk_alloc b7n49.out _)
            have b10n50 : Hid (Wn50.heap[Xn41]? = some (.cells ZS 24 (0, 0))) := Lib.hid (hV50 ▸ blk_alloc b10n49.out _)
            have own50 : Hid (Wn50.ownsRow N0 39 11 (.slice (some ⟨Xn50, 0, none⟩) 0 0) 0 []) := Lib.hid ⟨rfl, .inr ⟨Xn50, 0, #[], rfl, hNX50, by rw [← hV50, ← hX50]; exact blk_new _ _, Nat.le_refl _, Nat.zero_le _, rfl, rfl⟩⟩
            have ne750 : (.slice (some ⟨Xn50, 0, none⟩) 0 0 : Value).ownBlock ≠ some Xn49 := fun h => by have h1 := blk_lt b7n49.out; have h2 : Xn50 = Xn49 := (by simpa [Value.ownBlock] using h); omega
            have ne1050 : (.slice (some ⟨Xn50, 0, none⟩) 0 0 : Value).ownBlock ≠ some Xn41 := fun h => by have h1 := blk_lt b10n49.out; have h2 : Xn50 = Xn41 := (by simpa [Value.ownBlock] using h); omega
            refine hK.out _ _ ⟨HSn50.out, HLn50.out, (blk_cell HSn50.out 1).trans (by rw [eS0.out]; rfl), (blk_cell HSn50.out 0).trans (by rw [eS0.out]; rfl)⟩ (fun hHeld => ?_)
            clear hK K
            refine norm_ (a' := ?_) ?_ ?_
            rotate_left
            · show Act.put _ (some 68) _ = _
              simp only [Act.put, List.setIfInBounds_toArray, List.set_cons_zero, List.set_cons_succ, i64_w, i32_w]
              rfl
            clear hHeld
            refine one_ (i := 5) (N := (some 71)) #[true, true, true, true, true, true, true, true, false, false, true, false] rfl rfl (by kernel_rfl) (by decide) (fun K hK => ?_)
            obtain ⟨v51, Wn51, hr51, ho51, hg51, hat51⟩ := app_t Wn50 N0 (.slice (some ⟨Xn50, 0, none⟩) 0 0) 0 [] own50.out ad l.length cap (fl l) (fl_len l) (hfl.out Wn50 HEn50.out) (fl_one l) (by omega) hNn50
            rw [Nat.zero_add, List.nil_append] at ho51
            refine value_ (v := v51) (w1 := Wn51) rfl rfl (app_op _ _ rfl rfl (by rfl) (by rfl) hr51) ?_
            have HSn51 : Hid (Wn51.heap[B0]? = some (.cells S0 24 (0, 0))) := Lib.hid (blk_grown HSn50.out hg51 (fun h => by have := own_base own50.out _ h.symm; omega))
            have HLn51 : Hid (Wn51.heap[X_63]? = some (.cells LW 39 (0, 0))) := Lib.hid (blk_grown HLn50.out hg51 (fun h => by have := own_base own50.out _ h.symm; omega))
            have HEn51 : Hid (Below B0 w Wn51) := Lib.hid (HEn50.out.grown hg51 (Nat.le_trans hBN hNn50) (fun k hk => Nat.le_trans hBN (own_base own50.out k hk)))
            have hNn51 : N0 ≤ Wn51.heap.size := Nat.le_trans hNn50 hg51.size
            have own51 := Lib.hid ho51
            have b7n51 : Hid (Wn51.heap[Xn49]? = some (.cells LW 39 (0, 0))) := Lib.hid (blk_grown b7n50.out hg51 (fun h => ne750 h.symm))
            have ne751 : v51.ownBlock ≠ some Xn49 := fun h => by rcases hat51 with q | q <;> rw [q] at h; exact ne750 h; have h1 := blk_lt b7n50.out; injection h with h; omega
            have b10n51 : Hid (Wn51.heap[Xn41]? = some (.cells ZS 24 (0, 0))) := Lib.hid (blk_grown b10n50.out hg51 (fun h => ne1050 h.symm))
            have ne1051 : (v51 : Value).ownBlock ≠ some Xn41 := fun h => by rcases hat51 with q | q <;> rw [q] at h; exact ne1050 h; have h1 := blk_lt b10n50.out; injection h with h; omega
            refine hK.out _ _ ⟨HSn51.out, HLn51.out, (blk_cell HSn51.out 1).trans (by rw [eS0.out]; rfl), (blk_cell HSn51.out 0).trans (by rw [eS0.out]; rfl)⟩ (fun hHeld => ?_)
            clear hK K
            refine norm_ (a' := ?_) ?_ ?_
            rotate_left
            · show Act.put _ (some 71) _ = _
              simp only [Act.put, List.setIfInBounds_toArray, List.set_cons_zero, List.set_cons_succ, i64_w, i32_w]
              rfl
            clear hHeld
            refine one_ (i := 8) (N := (some 74)) #[true, true, true, true, true, true, true, true, true, false, true, false] rfl rfl (by kernel_rfl) (by decide) (fun K hK => ?_)
            obtain ⟨v52, Wn52, hr52, ho52, hg52, hat52⟩ := app_t Wn51 N0 v51 l.length (fl l) own51.out ⟨Xn49, 0, none⟩ 1 1 LW.toList (by rw [Array.length_toList, zLW.out]) (fun j u hu => by rw [Addr.add_mid, Nat.zero_add, blk_cell b7n51.out]; simpa using hu) (fun v hv => (Array.all_eq_true_iff_forall_mem.1 oLW.out) v (by simpa using hv)) (by omega) hNn51
            obtain ⟨g52, c52, rfl, hgN52, _⟩ := ho52.form (by omega)
            refine value_ (v := .slice (some ⟨g52, 0, none⟩) (l.length + 1) c52) (w1 := Wn52) rfl rfl (app_op _ _ rfl rfl (by rfl) (by rfl) hr52) ?_
            have HSn52 : Hid (Wn52.heap[B0]? = some (.cells S0 24 (0, 0))) := Lib.hid (blk_grown HSn51.out hg52 (fun h => by have := own_base own51.out _ h.symm; omega))
            have HLn52 : Hid (Wn52.heap[X_63]? = some (.cells LW 39 (0, 0))) := Lib.hid (blk_grown HLn51.out hg52 (fun h => by have := own_base own51.out _ h.symm; omega))
            have HEn52 : Hid (Below B0 w Wn52) := Lib.hid (HEn51.out.grown hg52 (Nat.le_trans hBN hNn51) (fun k hk => Nat.le_trans hBN (own_base own51.out k hk)))
            have hNn52 : N0 ≤ Wn52.heap.size := Nat.le_trans hNn51 hg52.size
            have own52 := Lib.hid ho52
            have b10n52 : Hid (Wn52.heap[Xn41]? = some (.cells ZS 24 (0, 0))) := Lib.hid (blk_grown b10n51.out hg52 (fun h => ne1051 h.symm))
            have ne1052 : (.slice (some ⟨g52, 0, none⟩) (l.length + 1) c52 : Value).ownBlock ≠ some Xn41 := fun h => by rcases hat52 with q | q <;> rw [q] at h; exact ne1051 h; have h1 := blk_lt b10n51.out; injection h with h; omega
            have ne852 : g52 ≠ Xn41 := fun h => ne1052 (by rw [h]; rfl)
            refine hK.out _ _ ⟨HSn52.out, HLn52.out, (blk_cell HSn52.out 1).trans (by rw [eS0.out]; rfl), (blk_cell HSn52.out 0).trans (by rw [eS0.out]; rfl)⟩ (fun hHeld => ?_)
            clear hK K
            refine norm_ (a' := ?_) ?_ ?_
            rotate_left
            · show Act.put _ (some 74) _ = _
              simp only [Act.put, List.setIfInBounds_toArray, List.set_cons_zero, List.set_cons_succ, i64_w, i32_w]
              rfl
            clear hHeld
            obtain ⟨SO52, eSO52⟩ : ∃ A : Array Value, A = #[.int .i64 B, .slice (some ⟨g52, 0, none⟩) (l.length + 1) c52] := ⟨_, rfl⟩
            replace eSO52 := Lib.hid eSO52
            refine pure_ (i := 9) (N := (some 75)) (v := .agg SO52) (a' := ?_) #[true, true, true, true, true, true, true, true, true, true, true, false] rfl rfl (by kernel_rfl) (fun _ _ _ h => h) (Or.inl ⟨by rfl, ?_⟩) ?_ ?_
            · intro w'
              exact bld_op 24 _ rfl (set_bld B (some ⟨g52, 0, none⟩) (l.length + 1) c52 (by simp [go_sem]) eSO52.out)
            rotate_left
            · simp only [Act.put, List.setIfInBounds_toArray, List.set_cons_zero, List.set_cons_succ, i64_w, i32_w]
              rfl
            exact norm_ (by simp only [putAll, Act.put, List.setIfInBounds_toArray, List.set_cons_zero, List.set_cons_succ]) (hCont ((.slice (some ⟨Xn50, 0, none⟩) 0 0), v51, (.slice (some ⟨Xn49, 0, none⟩) 1 1), g52, c52, SO52, Xn41) _ ⟨HSn52.out, HEn52.out, b10n52.out, hNX41, own52.out, ne852, eSO52.out, HLn52.out⟩)
      rintro ⟨v2, v5, v7, g8, c8, SO, X10⟩ V4 ⟨h1, h2, h3, h4, h5, h6, h7, h8⟩
      dsimp only at h1 h2 h3 h4 h5 h6 h7 h8
      have HS4 := Lib.hid h1
      have HE4 := Lib.hid h2
      have HZ4 := Lib.hid h3
      have HO4 := Lib.hid h5
      have eSO := Lib.hid h7
      have HL4 := Lib.hid h8
      have zSO : Hid (SO.size = 2) := Lib.hid (by rw [eSO.out]; rfl)
      have oSO : Hid (SO.all (·.oneCell') = true) := Lib.hid (by rw [eSO.out]; simp [Value.oneCell'])
      clear h1 h2 h3 h5 h7 h8
      refine norm_ (a' := ?_) ?_ ?_
      rotate_left
      · simp only [putAll, Act.put, List.setIfInBounds_toArray, List.set_cons_zero, List.set_cons_succ]
        rfl
      have hHeld : V4.heap[B0]? = some (.cells S0 24 (0, 0)) ∧ V4.heap[X_63]? = some (.cells LW 39 (0, 0)) ∧ V4.cell? ⟨B0, 1, none⟩ = some (.slice (some ad) l.length cap) ∧ V4.cell? ⟨B0, 0, none⟩ = some (.int .i64 B) := ⟨HS4.out, HL4.out, (blk_cell HS4.out 1).trans (by rw [eS0.out]; rfl), (blk_cell HS4.out 0).trans (by rw [eS0.out]; rfl)⟩
      refine last_ (i := 11) (N := none) #[true, true, true, true, true, true, true, true, true, true, true, true] rfl rfl (by kernel_rfl) (by decide) (fun K hK => ?_)
      obtain ⟨V5, hst, hs1, hs2, hs3⟩ := st_any HZ4.out zZS.out zSO.out oSO.out
      refine skip_ (w1 := V5) rfl rfl (by have hsz := zSO.out; go_simp) ?_
      have HO5 : Hid (V5.heap[X10]? = some (.cells SO 24 (0, 0))) := Lib.hid hs1
      have hB10 : B0 ≠ X10 := by omega
      have HS5 : Hid (V5.heap[B0]? = some (.cells S0 24 (0, 0))) := Lib.hid ((hs2 _ hB10).trans HS4.out)
      have HE5 : Hid (Below B0 w V5) := Lib.hid (hs3 _ _ (Nat.le_trans hBN h4) HE4.out)
      have hOR : V5.ownsRow N0 39 11 (.slice (some ⟨g8, 0, none⟩) (l.length + 1) c8) (l.length + 1) (fl (l ++ [lo])) := by
        obtain ⟨o1, o2⟩ := HO4.out
        rw [fl_snoc, show (TA lo).toList = LW.toList by rw [eLW.out]; rfl]
        refine ⟨o1, ?_⟩
        rcases o2 with ⟨q, _⟩ | ⟨gg, cc, cu, e1, e2, e3, e4⟩
        · cases q
        · injection e1 with e1 e1' e1''
          injection e1 with e1
          injection e1 with e1
          exact .inr ⟨gg, cc, cu, by rw [e1, e1''], e2, by rw [hs2 _ (by rw [← e1]; exact h6)]; exact e3, e4⟩
      have hc8 : l.length + 1 ≤ c8 := by
        rcases hOR.2 with ⟨q, _⟩ | ⟨gg, cc, cu, e1, e2, e3, e4, _⟩
        · cases q
        · injection e1 with e1 e1' e1''
          rw [e1'']; exact e4
      have hll : (l ++ [lo]).length = l.length + 1 := by simp
      have KC := Lib.hid (fl_C (n := l.length + 1) hll.symm (by omega) hOR)
      clear hst hs1 hs2 hs3 hOR
      refine hK.out _ _ ?_
      clear hK K hHeld HE4 HZ4 HO4 HL4 HS4
      refine done_ (by kernel_rfl) ?_
      obtain ⟨D, hD⟩ : ∃ d, mxs (fD (rd_T39 l k).f10) l 0 = d := ⟨_, rfl⟩
      obtain ⟨H, hH⟩ : ∃ d, mxs (fA (rd_T39 l k).f10) l 0 = d := ⟨_, rfl⟩
      obtain ⟨r, hr1⟩ : ∃ r, (rsp B g l k).1 = r := ⟨_, rfl⟩
      obtain ⟨d, hd1⟩ : ∃ d, (rsp B g l k).2 = d := ⟨_, rfl⟩
      have ok2 := low_ok ok (by omega) hNl
      have hk2 : k < ((l ++ [lo]).length : Int) := by rw [hll]; omega
      have hc2 : (l ++ [lo]).length ≤ c8 := by rw [hll]; exact hc8
      have eSO2 : SO = #[.int .i64 B, .slice (some ⟨g8, 0, none⟩) (l ++ [lo]).length c8] := by rw [hll]; exact eSO.out
      have LD := low_dr ok hNl hk0 hk1
      have LH := low_ah hk0 hk1
      have LR := low_rsp (g := g) ok hNl hk0 hk1
      have R1 := Lib.hid (fun (W : World) (hW : Below B0 w W) => response_c W B ad l cap hc (Kd.C_below hC (below_to hB0.out hW)) ok k hk0 hk1 g hg1 hg2 S0 eS0.out)
      have D1 := Lib.hid (fun (W : World) (hW : Below B0 w W) => dear_c W B ad l cap hc (Kd.C_below hC (below_to hB0.out hW)) ok k hk0 hk1 S0 eS0.out)
      have H1 := Lib.hid (fun (W : World) (hW : Below B0 w W) => ahead_c W B ad l cap hc (Kd.C_below hC (below_to hB0.out hW)) ok k hk0 hk1 S0 eS0.out)
      have R2 := Lib.hid (fun (W : World) (hK : Kd.C k39 W (some ⟨g8, 0, none⟩) (l ++ [lo]).length (l ++ [lo])) => response_c W B ⟨g8, 0, none⟩ (l ++ [lo]) c8 hc2 hK ok2 k hk0 hk2 g hg1 hg2 SO eSO2)
      have D2 := Lib.hid (fun (W : World) (hK : Kd.C k39 W (some ⟨g8, 0, none⟩) (l ++ [lo]).length (l ++ [lo])) => dear_c W B ⟨g8, 0, none⟩ (l ++ [lo]) c8 hc2 hK ok2 k hk0 hk2 SO eSO2)
      have H2 := Lib.hid (fun (W : World) (hK : Kd.C k39 W (some ⟨g8, 0, none⟩) (l ++ [lo]).length (l ++ [lo])) => ahead_c W B ⟨g8, 0, none⟩ (l ++ [lo]) c8 hc2 hK ok2 k hk0 hk2 SO eSO2)
      rw [LR] at R2
      rw [LD, hD] at D2
      rw [LH, hH] at H2
      rw [hD] at D1
      rw [hH] at H1
      rw [hr1, hd1] at R1 R2
      clear LD LH LR ok2 hk2 hc2 eSO2 hll hc8
      replace hD := Lib.hid hD
      replace hH := Lib.hid hH
      replace hr1 := Lib.hid hr1
      replace hd1 := Lib.hid hd1
      go_wp2_with (first | ((with_reducible refine wpl_gate (T := 24) rfl ?_); refine wpl_ld _ _ rfl (by rfl) B0 rfl HS5.out Try.underlying24 rfl (by kernel_rfl) zS0.out ?_))
      refine (R1.out _ HE5.out).mono ?_; rintro e V_72 ⟨rfl, hb_73⟩
      have KC1 := Lib.hid (Kd.C_below KC.out hb_73)
      have H_74 : Hid (V_72.heap[B0]? = some (.cells S0 24 (0, 0))) := Lib.hid ((hb_73.block B0 (blk_lt HS5.out)).trans HS5.out)
      have H_75 : Hid (V_72.heap[X10]? = some (.cells SO 24 (0, 0))) := Lib.hid ((hb_73.block X10 (blk_lt HO5.out)).trans HO5.out)
      have HE_76 : Hid (Below B0 w V_72) := Lib.hid (HE5.out.trans (hb_73.mono (sz_le hB0.out HE5.out.size)))
      clear HE5 HS5 HO5
      clear hb_73
      go_wp2_with (first | ((with_reducible refine wpl_gate (T := 24) rfl ?_); refine wpl_ld _ _ rfl (by rfl) X10 rfl H_75.out Try.underlying24 rfl (by kernel_rfl) zSO.out ?_))
      refine (R2.out _ KC1.out).mono ?_; rintro e V_77 ⟨rfl, hb_78⟩
      have KC2 := Lib.hid (Kd.C_below KC1.out hb_78)
      have H_79 : Hid (V_77.heap[B0]? = some (.cells S0 24 (0, 0))) := Lib.hid ((hb_78.block B0 (blk_lt H_74.out)).trans H_74.out)
      have H_80 : Hid (V_77.heap[X10]? = some (.cells SO 24 (0, 0))) := Lib.hid ((hb_78.block X10 (blk_lt H_75.out)).trans H_75.out)
      have HE_81 : Hid (Below B0 w V_77) := Lib.hid (HE_76.out.trans (hb_78.mono (sz_le hB0.out HE_76.out.size)))
      clear HE_76 H_74 H_75
      clear hb_78
      go_upto_region 13 with (fail)
      have hrr : (r == r) = true := by simp
      have hdd : (d == d) = true := by simp
      have hDD : (D == D) = true := by simp
      have hHH : (H == H) = true := by simp
      refine start_ (n := 27) (S := fun w' => w'.heap[B0]? = some (.cells S0 24 (0, 0)) ∧ w'.heap[X10]? = some (.cells SO 24 (0, 0))) (ds := []) #[false, false, false, false, false, false, false, false, false, false, false, false, false, false, false, false, false, false, false, false, false, false, false, false, false, false, false] (by kernel_rfl) rfl rfl ⟨H_79.out, H_80.out⟩ (fun hHeld => ?_)
      refine pure_ (i := 0) (N := (some 90)) (v := ?_) (a' := ?_) #[true, false, false, false, false, false, false, false, false, false, false, false, false, false, false, false, false, false, false, false, false, false, false, false, false, false, false] rfl rfl (by kernel_rfl) (fun _ _ _ h => h) (Or.inl ⟨by rfl, ?_⟩) ?_ ?_
      rotate_left
      · intro w'
        go_simp
        with_reducible rfl
      rotate_left
      · simp only [Act.put, List.setIfInBounds_toArray, List.set_cons_zero, List.set_cons_succ, i64_w, i32_w]
        rfl
      refine pure_ (i := 1) (N := (some 91)) (v := ?_) (a' := ?_) #[true, true, false, false, false, false, false, false, false, false, false, false, false, false, false, false, false, false, false, false, false, false, false, false, false, false, false] rfl rfl (by kernel_rfl) (fun _ _ _ h => h) (Or.inl ⟨by rfl, ?_⟩) ?_ ?_
      rotate_left
      · intro w'
        go_simp
        with_reducible rfl
      rotate_left
      · simp only [Act.put, List.setIfInBounds_toArray, List.set_cons_zero, List.set_cons_succ, i64_w, i32_w]
        rfl
      refine pure_ (i := 2) (N := (some 92)) (v := ?_) (a' := ?_) #[true, true, true, false, false, false, false, false, false, false, false, false, false, false, false, false, false, false, false, false, false, false, false, false, false, false, false] rfl rfl (by kernel_rfl) (fun _ _ _ h => h) (Or.inl ⟨by rfl, ?_⟩) ?_ ?_
      rotate_left
      · intro w'
        go_simp
        with_reducible rfl
      rotate_left
      · simp only [Act.put, List.setIfInBounds_toArray, List.set_cons_zero, List.set_cons_succ, i64_w, i32_w]
        rfl
      refine pure_ (i := 3) (N := (some 93)) (v := ?_) (a' := ?_) #[true, true, true, true, false, false, false, false, false, false, false, false, false, false, false, false, false, false, false, false, false, false, false, false, false, false, false] rfl rfl (by kernel_rfl) (fun _ _ _ h => h) (Or.inl ⟨by rfl, ?_⟩) ?_ ?_
      rotate_left
      · intro w'
        go_simp
        with_reducible rfl
      rotate_left
      · simp only [Act.put, List.setIfInBounds_toArray, List.set_cons_zero, List.set_cons_succ, i64_w, i32_w]
        rfl
      refine pure_ (i := 4) (N := (some 94)) (v := ?_) (a' := ?_) #[true, true, true, true, true, false, false, false, false, false, false, false, false, false, false, false, false, false, false, false, false, false, false, false, false, false, false] rfl rfl (by kernel_rfl) (fun _ _ _ h => h) (Or.inl ⟨by rfl, ?_⟩) ?_ ?_
      rotate_left
      · intro w'
        go_simp
        with_reducible rfl
      rotate_left
      · simp only [Act.put, List.setIfInBounds_toArray, List.set_cons_zero, List.set_cons_succ, i64_w, i32_w]
        rfl
      refine pure_ (i := 5) (N := (some 95)) (v := ?_) (a' := ?_) #[true, true, true, true, true, true, false, false, false, false, false, false, false, false, false, false, false, false, false, false, false, false, false, false, false, false, false] rfl rfl (by kernel_rfl) (fun _ _ _ h => h) (Or.inl ⟨by rfl, ?_⟩) ?_ ?_
      rotate_left
      · intro w'
        go_simp
        with_reducible rfl
      rotate_left
      · simp only [Act.put, List.setIfInBounds_toArray, List.set_cons_zero, List.set_cons_succ, i64_w, i32_w]
        rfl
      refine pure_ (i := 6) (N := (some 96)) (v := ?_) (a' := ?_) #[true, true, true, true, true, true, true, false, false, false, false, false, false, false, false, false, false, false, false, false, false, false, false, false, false, false, false] rfl rfl (by kernel_rfl) (fun _ _ _ h => h) (Or.inl ⟨by rfl, ?_⟩) ?_ ?_
      rotate_left
      · intro w'
        go_simp
        with_reducible rfl
      rotate_left
      · simp only [Act.put, List.setIfInBounds_toArray, List.set_cons_zero, List.set_cons_succ, i64_w, i32_w]
        rfl
      refine pure_ (i := 7) (N := (some 97)) (v := ?_) (a' := ?_) #[true, true, true, true, true, true, true, true, false, false, false, false, false, false, false, false, false, false, false, false, false, false, false, false, false, false, false] rfl rfl (by kernel_rfl) (fun _ _ _ h => h) (Or.inl ⟨by rfl, ?_⟩) ?_ ?_
      rotate_left
      · intro w'
        go_simp
        with_reducible rfl
      rotate_left
      · simp only [Act.put, List.setIfInBounds_toArray, List.set_cons_zero, List.set_cons_succ, i64_w, i32_w]
        rfl
      refine pure_ (i := 8) (N := (some 98)) (v := ?_) (a' := ?_) #[true, true, true, true, true, true, true, true, true, false, false, false, false, false, false, false, false, false, false, false, false, false, false, false, false, false, false] rfl rfl (by kernel_rfl) (fun _ _ _ h => h) (Or.inl ⟨by rfl, ?_⟩) ?_ ?_
      rotate_left
      · intro w'
        go_simp
        with_reducible rfl
      rotate_left
      · simp only [Act.put, List.setIfInBounds_toArray, List.set_cons_zero, List.set_cons_succ, i64_w, i32_w]
        rfl
      refine take_ (i := 9) (N := (some 99)) (v := .agg S0) (a' := ?_) #[true, true, true, true, true, true, true, true, true, true, false, false, false, false, false, false, false, false, false, false, false, false, false, false, false, false, false] rfl rfl (by kernel_rfl) (fun _ _ _ h => h) (Or.inl ⟨by rfl, ?_⟩) hHeld ?_ ?_
      · rintro w' ⟨s0, s1⟩
        exact ld_op 24 _ rfl B0 rfl s0 Try.underlying24 rfl (by kernel_rfl) zS0.out
      rotate_left
      · simp only [Act.put, List.setIfInBounds_toArray, List.set_cons_zero, List.set_cons_succ, i64_w, i32_w]
        rfl
      refine pure_ (i := 10) (N := (some 100)) (v := ?_) (a' := ?_) #[true, true, true, true, true, true, true, true, true, true, true, false, false, false, false, false, false, false, false, false, false, false, false, false, false, false, false] rfl rfl (by kernel_rfl) (fun _ _ _ h => h) (Or.inl ⟨by rfl, ?_⟩) ?_ ?_
      rotate_left
      · intro w'
        go_simp
        with_reducible rfl
      rotate_left
      · simp only [Act.put, List.setIfInBounds_toArray, List.set_cons_zero, List.set_cons_succ, i64_w, i32_w]
        rfl
      refine take_ (i := 12) (N := (some 102)) (v := .agg SO) (a' := ?_) #[true, true, true, true, true, true, true, true, true, true, true, false, true, false, false, false, false, false, false, false, false, false, false, false, false, false, false] rfl rfl (by kernel_rfl) (fun _ _ _ h => h) (Or.inl ⟨by rfl, ?_⟩) hHeld ?_ ?_
      · rintro w' ⟨s0, s1⟩
        exact ld_op 24 _ rfl X10 rfl s1 Try.underlying24 rfl (by kernel_rfl) zSO.out
      rotate_left
      · simp only [Act.put, List.setIfInBounds_toArray, List.set_cons_zero, List.set_cons_succ, i64_w, i32_w]
        rfl
      refine pure_ (i := 13) (N := (some 103)) (v := ?_) (a' := ?_) #[true, true, true, true, true, true, true, true, true, true, true, false, true, true, false, false, false, false, false, false, false, false, false, false, false, false, false] rfl rfl (by kernel_rfl) (fun _ _ _ h => h) (Or.inl ⟨by rfl, ?_⟩) ?_ ?_
      rotate_left
      · intro w'
        go_simp
        with_reducible rfl
      rotate_left
      · simp only [Act.put, List.setIfInBounds_toArray, List.set_cons_zero, List.set_cons_succ, i64_w, i32_w]
        rfl
      refine one_ (i := 11) (N := (some 101)) #[true, true, true, true, true, true, true, true, true, true, true, true, true, true, false, false, false, false, false, false, false, false, false, false, false, false, false] rfl rfl (by kernel_rfl) (by decide) (fun K hK => ?_)
      refine goes_ Try.func14 (by kernel_rfl) rfl #[.agg S0, .int .i64 k] (by rfl) rfl rfl (by (try simp only [List.map_toArray, List.map_cons, List.map_nil]); first | done | rfl) ?_
      refine (D1.out _ HE_81.out.drew).mono ?_
      rintro e Va ⟨rfl, hb4⟩
      have HSa : Hid (Va.heap[B0]? = some (.cells S0 24 (0, 0))) := Lib.hid ((hb4.block B0 (blk_lt H_79.out)).trans H_79.out)
      have HOa : Hid (Va.heap[X10]? = some (.cells SO 24 (0, 0))) := Lib.hid ((hb4.block X10 (blk_lt H_80.out)).trans H_80.out)
      have HEa : Hid (Below B0 w Va) := Lib.hid ((HE_81.out.drew).trans (hb4.mono (sz_le hB0.out HE_81.out.size)))
      have KCa := Lib.hid (Kd.C_below (Kd.C_below KC2.out ((Below.refl _ _).drew)) hb4)
      refine ⟨_, rfl, ?_⟩
      refine hK.out _ _ ⟨HSa.out, HOa.out⟩ (fun hHeld => ?_)
      clear hb4 H_79 H_80 HE_81 KC2
      clear hK K
      refine norm_ (a' := ?_) ?_ ?_
      rotate_left
      · show Act.put _ (some 101) _ = _
        simp only [Act.put, List.setIfInBounds_toArray, List.set_cons_zero, List.set_cons_succ, i64_w, i32_w]
        rfl
      refine one_ (i := 14) (N := (some 104)) #[true, true, true, true, true, true, true, true, true, true, true, true, true, true, true, false, false, false, false, false, false, false, false, false, false, false, false] rfl rfl (by kernel_rfl) (by decide) (fun K hK => ?_)
      refine goes_ Try.func14 (by kernel_rfl) rfl #[.agg SO, .int .i64 k] (by rfl) rfl rfl (by (try simp only [List.map_toArray, List.map_cons, List.map_nil]); first | done | rfl) ?_
      refine (D2.out _ KCa.out).mono ?_
      rintro e Vb ⟨rfl, hb4⟩
      have HSb : Hid (Vb.heap[B0]? = some (.cells S0 24 (0, 0))) := Lib.hid ((hb4.block B0 (blk_lt HSa.out)).trans HSa.out)
      have HOb : Hid (Vb.heap[X10]? = some (.cells SO 24 (0, 0))) := Lib.hid ((hb4.block X10 (blk_lt HOa.out)).trans HOa.out)
      have HEb : Hid (Below B0 w Vb) := Lib.hid ((HEa.out).trans (hb4.mono (sz_le hB0.out HEa.out.size)))
      have KCb := Lib.hid (Kd.C_below KCa.out hb4)
      refine ⟨_, rfl, ?_⟩
      refine hK.out _ _ ⟨HSb.out, HOb.out⟩ (fun hHeld => ?_)
      clear hb4 HSa HOa HEa KCa
      clear hK K
      refine norm_ (a' := ?_) ?_ ?_
      rotate_left
      · show Act.put _ (some 104) _ = _
        simp only [Act.put, List.setIfInBounds_toArray, List.set_cons_zero, List.set_cons_succ, i64_w, i32_w]
        rfl
      refine pure_ (i := 15) (N := (some 105)) (v := ?_) (a' := ?_) #[true, true, true, true, true, true, true, true, true, true, true, true, true, true, true, true, false, false, false, false, false, false, false, false, false, false, false] rfl rfl (by kernel_rfl) (fun _ _ _ h => h) (Or.inl ⟨by rfl, ?_⟩) ?_ ?_
      rotate_left
      · intro w'
        go_simp
        with_reducible rfl
      rotate_left
      · simp only [Act.put, List.setIfInBounds_toArray, List.set_cons_zero, List.set_cons_succ, i64_w, i32_w]
        rfl
      refine pure_ (i := 16) (N := (some 106)) (v := ?_) (a' := ?_) #[true, true, true, true, true, true, true, true, true, true, true, true, true, true, true, true, true, false, false, false, false, false, false, false, false, false, false] rfl rfl (by kernel_rfl) (fun _ _ _ h => h) (Or.inl ⟨by rfl, ?_⟩) ?_ ?_
      rotate_left
      · intro w'
        go_simp
        with_reducible rfl
      rotate_left
      · simp only [Act.put, List.setIfInBounds_toArray, List.set_cons_zero, List.set_cons_succ, i64_w, i32_w]
        rfl
      refine pure_ (i := 17) (N := (some 107)) (v := ?_) (a' := ?_) #[true, true, true, true, true, true, true, true, true, true, true, true, true, true, true, true, true, true, false, false, false, false, false, false, false, false, false] rfl rfl (by kernel_rfl) (fun _ _ _ h => h) (Or.inl ⟨by rfl, ?_⟩) ?_ ?_
      rotate_left
      · intro w'
        go_simp
        with_reducible rfl
      rotate_left
      · simp only [Act.put, List.setIfInBounds_toArray, List.set_cons_zero, List.set_cons_succ, i64_w, i32_w]
        rfl
      refine take_ (i := 18) (N := (some 108)) (v := .agg S0) (a' := ?_) #[true, true, true, true, true, true, true, true, true, true, true, true, true, true, true, true, true, true, true, false, false, false, false, false, false, false, false] rfl rfl (by kernel_rfl) (fun _ _ _ h => h) (Or.inl ⟨by rfl, ?_⟩) hHeld ?_ ?_
      · rintro w' ⟨s0, s1⟩
        exact ld_op 24 _ rfl B0 rfl s0 Try.underlying24 rfl (by kernel_rfl) zS0.out
      rotate_left
      · simp only [Act.put, List.setIfInBounds_toArray, List.set_cons_zero, List.set_cons_succ, i64_w, i32_w]
        rfl
      refine pure_ (i := 19) (N := (some 109)) (v := ?_) (a' := ?_) #[true, true, true, true, true, true, true, true, true, true, true, true, true, true, true, true, true, true, true, true, false, false, false, false, false, false, false] rfl rfl (by kernel_rfl) (fun _ _ _ h => h) (Or.inl ⟨by rfl, ?_⟩) ?_ ?_
      rotate_left
      · intro w'
        go_simp
        with_reducible rfl
      rotate_left
      · simp only [Act.put, List.setIfInBounds_toArray, List.set_cons_zero, List.set_cons_succ, i64_w, i32_w]
        rfl
      refine take_ (i := 21) (N := (some 111)) (v := .agg SO) (a' := ?_) #[true, true, true, true, true, true, true, true, true, true, true, true, true, true, true, true, true, true, true, true, false, true, false, false, false, false, false] rfl rfl (by kernel_rfl) (fun _ _ _ h => h) (Or.inl ⟨by rfl, ?_⟩) hHeld ?_ ?_
      · rintro w' ⟨s0, s1⟩
        exact ld_op 24 _ rfl X10 rfl s1 Try.underlying24 rfl (by kernel_rfl) zSO.out
      rotate_left
      · simp only [Act.put, List.setIfInBounds_toArray, List.set_cons_zero, List.set_cons_succ, i64_w, i32_w]
        rfl
      refine pure_ (i := 22) (N := (some 112)) (v := ?_) (a' := ?_) #[true, true, true, true, true, true, true, true, true, true, true, true, true, true, true, true, true, true, true, true, false, true, true, false, false, false, false] rfl rfl (by kernel_rfl) (fun _ _ _ h => h) (Or.inl ⟨by rfl, ?_⟩) ?_ ?_
      rotate_left
      · intro w'
        go_simp
        with_reducible rfl
      rotate_left
      · simp only [Act.put, List.setIfInBounds_toArray, List.set_cons_zero, List.set_cons_succ, i64_w, i32_w]
        rfl
      refine one_ (i := 20) (N := (some 110)) #[true, true, true, true, true, true, true, true, true, true, true, true, true, true, true, true, true, true, true, true, true, true, true, false, false, false, false] rfl rfl (by kernel_rfl) (by decide) (fun K hK => ?_)
      refine goes_ Try.func16 (by kernel_rfl) rfl #[.agg S0, .int .i64 k] (by rfl) rfl rfl (by (try simp only [List.map_toArray, List.map_cons, List.map_nil]); first | done | rfl) ?_
      refine (H1.out _ HEb.out).mono ?_
      rintro e Vc ⟨rfl, hb4⟩
      have HSc : Hid (Vc.heap[B0]? = some (.cells S0 24 (0, 0))) := Lib.hid ((hb4.block B0 (blk_lt HSb.out)).trans HSb.out)
      have HOc : Hid (Vc.heap[X10]? = some (.cells SO 24 (0, 0))) := Lib.hid ((hb4.block X10 (blk_lt HOb.out)).trans HOb.out)
      have HEc : Hid (Below B0 w Vc) := Lib.hid ((HEb.out).trans (hb4.mono (sz_le hB0.out HEb.out.size)))
      have KCc := Lib.hid (Kd.C_below KCb.out hb4)
      refine ⟨_, rfl, ?_⟩
      refine hK.out _ _ ⟨HSc.out, HOc.out⟩ (fun hHeld => ?_)
      clear hb4 HSb HOb HEb KCb
      clear hK K
      refine norm_ (a' := ?_) ?_ ?_
      rotate_left
      · show Act.put _ (some 110) _ = _
        simp only [Act.put, List.setIfInBounds_toArray, List.set_cons_zero, List.set_cons_succ, i64_w, i32_w]
        rfl
      refine one_ (i := 23) (N := (some 113)) #[true, true, true, true, true, true, true, true, true, true, true, true, true, true, true, true, true, true, true, true, true, true, true, true, false, false, false] rfl rfl (by kernel_rfl) (by decide) (fun K hK => ?_)
      refine goes_ Try.func16 (by kernel_rfl) rfl #[.agg SO, .int .i64 k] (by rfl) rfl rfl (by (try simp only [List.map_toArray, List.map_cons, List.map_nil]); first | done | rfl) ?_
      refine (H2.out _ KCc.out).mono ?_
      rintro e Vd ⟨rfl, hb4⟩
      have HSd : Hid (Vd.heap[B0]? = some (.cells S0 24 (0, 0))) := Lib.hid ((hb4.block B0 (blk_lt HSc.out)).trans HSc.out)
      have HOd : Hid (Vd.heap[X10]? = some (.cells SO 24 (0, 0))) := Lib.hid ((hb4.block X10 (blk_lt HOc.out)).trans HOc.out)
      have HEd : Hid (Below B0 w Vd) := Lib.hid ((HEc.out).trans (hb4.mono (sz_le hB0.out HEc.out.size)))
      have KCd := Lib.hid (Kd.C_below KCc.out hb4)
      refine ⟨_, rfl, ?_⟩
      refine hK.out _ _ ⟨HSd.out, HOd.out⟩ (fun hHeld => ?_)
      clear hb4 HSc HOc HEc KCc
      clear hK K
      refine norm_ (a' := ?_) ?_ ?_
      rotate_left
      · show Act.put _ (some 113) _ = _
        simp only [Act.put, List.setIfInBounds_toArray, List.set_cons_zero, List.set_cons_succ, i64_w, i32_w]
        rfl
      refine pure_ (i := 24) (N := (some 114)) (v := ?_) (a' := ?_) #[true, true, true, true, true, true, true, true, true, true, true, true, true, true, true, true, true, true, true, true, true, true, true, true, true, false, false] rfl rfl (by kernel_rfl) (fun _ _ _ h => h) (Or.inl ⟨by rfl, ?_⟩) ?_ ?_
      rotate_left
      · intro w'
        go_simp
        with_reducible rfl
      rotate_left
      · simp only [Act.put, List.setIfInBounds_toArray, List.set_cons_zero, List.set_cons_succ, i64_w, i32_w]
        rfl
      refine pure_ (i := 25) (N := (some 115)) (v := ?_) (a' := ?_) #[true, true, true, true, true, true, true, true, true, true, true, true, true, true, true, true, true, true, true, true, true, true, true, true, true, true, false] rfl rfl (by kernel_rfl) (fun _ _ _ h => h) (Or.inl ⟨by rfl, ?_⟩) ?_ ?_
      rotate_left
      · intro w'
        go_simp
        with_reducible rfl
      rotate_left
      · simp only [Act.put, List.setIfInBounds_toArray, List.set_cons_zero, List.set_cons_succ, i64_w, i32_w]
        rfl
      refine pure_ (i := 26) (N := (some 6)) (v := ?_) (a' := ?_) #[true, true, true, true, true, true, true, true, true, true, true, true, true, true, true, true, true, true, true, true, true, true, true, true, true, true, true] rfl rfl (by kernel_rfl) (fun _ _ _ h => h) (Or.inl ⟨by rfl, ?_⟩) ?_ ?_
      rotate_left
      · intro w'
        go_simp
        with_reducible rfl
      rotate_left
      · simp only [Act.put, List.setIfInBounds_toArray, List.set_cons_zero, List.set_cons_succ, i64_w, i32_w]
        rfl
      refine done_ (by kernel_rfl) ?_
      go_wp2
      go_ret
      exact ⟨rfl, by first | exact HEd.out | exact HEd.out.drew | exact pw_below_drewN HEd.out _⟩
theorem below_main (w : World) (B : Int) (A : Option Addr) (l : List S39) (cap : Nat) (hc : l.length ≤ cap) (hC : Kd.C k39 w A l.length l) (a b : Int) (ha : 0 ≤ a ∧ a ≤ 255) (hb : 0 ≤ b ∧ b ≤ 4294967295) (hf : Ev (fun k => pendulumref19_Small.f k B l) true) (hr : Ev (fun k => pendulumref05_Right.f k B l) true) (sm : l.length ≤ 16 ∧ ∀ j : Nat, j < l.length → (rd_T39 l j).f2 ≤ 3000) (ok : OkS B l) : Calls Try.prog 8 #[.agg #[.int .i64 B, .slice A l.length cap], .int .u8 a, .int .u32 b] w fun e w' => e = .returned (.bool true) ∧ Below w.heap.size w w' := by
  by_cases h15 : l.length ≤ 15
  · exact below_real w B A l cap hc hC a b ha hb hf hr sm ok h15
  · exact below_long w B A l cap hc hC a b ha hb hf hr sm ok (by omega)
theorem below_walk (w : World) (B : Int) (A : Option Addr) (l : List S39) (cap : Nat) (hc : l.length ≤ cap) (hC : Kd.C k39 w A l.length l) (a b : Int) (ha : 0 ≤ a ∧ a ≤ 255) (hb : 0 ≤ b ∧ b ≤ 4294967295) : Calls Try.prog 8 #[.agg #[.int .i64 B, .slice A l.length cap], .int .u8 a, .int .u32 b] w fun e w' => e = .returned (.bool true) ∧ Below w.heap.size w w' := by
  obtain ⟨b, hf, pf⟩ := small_tot B l
  cases b with
  | false => exact below_first w B A l cap hc hC a b hf
  | true =>
    obtain ⟨b, hr, pr⟩ := right_tot B l
    cases b with
    | false => exact below_right w B A l cap hc hC a b hf hr
    | true => exact below_main w B A l cap hc hC a b ha hb hf hr (pf rfl) (pr rfl)
theorem below_row (w : World) (B : Int) (A : Option Addr) (l : List S39) (cap : Nat) (hc : l.length ≤ cap) (hC : Kd.C k39 w A l.length l) (a : Int) (ha : (Lit.int .u8 a).wf = true) (b : Int) (hb : (Lit.int .u32 b).wf = true) : Calls Try.prog 8 #[.agg #[.int .i64 B, .slice A l.length cap], .int .u8 a, .int .u32 b] w fun e w' => e = .returned (.bool true) ∧ Below w.heap.size w w' :=
  below_walk w B A l cap hc hC a b (Args.bd_u8 ha) (Args.bd_u32 hb)
end Go.Proofs.Ytnidcoooenhebaa.PS
