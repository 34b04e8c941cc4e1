/- The law FixResponses, walked. -/
import Derived.Test.YtnidcoooenhebaaGp
namespace Go.Proofs.Ytnidcoooenhebaa.PS
open Go.RowKit Go.Proofs.Ytnidcoooenhebaa.PC Go.Proofs.YtnidcoooenhebaaW.PrintWords Go.Proofs.YtnidcoooenhebaaW.PrintLast Go.Proofs.YtnidcoooenhebaaW.PrintMore
attribute [local go_sem] max2_int min2_int max_two min_two max_three min_three max_four min_four   -- for this text's walks alone
set_option linter.unusedVariables false
set_option linter.unusedSimpArgs false
set_option maxRecDepth 100000 in
set_option maxHeartbeats 6000000 in
theorem resp_first (w : World) (B : Int) (A : Option Addr) (l : List S39) (cap : Nat) (hc : l.length ≤ cap) (hC : Kd.C k39 w A l.length l) (a b : Int) (hf : Ev (fun k => pendulumref19_Small.f k B l) false) : Calls Try.prog 4 #[.agg #[.int .i64 B, .slice A l.length cap], .int .u8 a, .int .u32 b] w fun e w' => e = .returned (.bool true) ∧ Below w.heap.size w w' := by
  obtain ⟨S0, eS0⟩ : ∃ S0 : Array Value, S0 = #[.int .i64 B, .slice A l.length cap] := ⟨_, rfl⟩
  rw [← eS0]
  have zS0 : Hid (S0.size = 2) := Lib.hid (by rw [eS0]; rfl)
  replace eS0 := Lib.hid eS0
  obtain ⟨B0, hB0⟩ : ∃ B, w.heap.size = B := ⟨_, rfl⟩
  rw [hB0]
  obtain ⟨V0, hV0⟩ : ∃ V, w.alloc (.cells S0 24) = V := ⟨_, rfl⟩
  have Hs : Hid (V0.heap[B0]? = some (.cells S0 24 (0, 0))) := Lib.hid (by rw [← hV0]; exact (box_new hB0).1)
  have HE : Hid (Below B0 w V0) := Lib.hid (by rw [← hV0, ← hB0]; exact (Below.refl _ _).alloc (Nat.le_refl _) _)
  go_enter Try.func4, Try.ntmps4
  go_upto_region 1 with (fail)
  replace hB0 := Lib.hid hB0
  replace hV0 := Lib.hid hV0
  go_wp2_with fail
  refine (awake_walk _).mono ?_; rintro e V_49 ⟨rfl, hb_50⟩
  have H_51 : Hid (V_49.heap[B0]? = some (.cells S0 24 (0, 0))) := Lib.hid ((hb_50.block B0 (blk_lt Hs.out)).trans Hs.out)
  have HE_52 : Hid (Below B0 w V_49) := Lib.hid (HE.out.trans (hb_50.mono (sz_le hB0.out HE.out.size)))
  clear HE Hs
  clear hb_50
  go_wp2_with (first | ((with_reducible refine wpl_gate (T := 24) rfl ?_); refine wpl_ld _ _ rfl (by rfl) B0 rfl H_51.out Try.underlying24 rfl (by kernel_rfl) zS0.out ?_))
  refine (smallq_c hf hC hc hB0.out HE_52.out _ eS0.out).mono ?_; rintro e V_53 ⟨rfl, hb_54⟩
  have H_55 : Hid (V_53.heap[B0]? = some (.cells S0 24 (0, 0))) := Lib.hid ((hb_54.block B0 (blk_lt H_51.out)).trans H_51.out)
  have HE_56 : Hid (Below B0 w V_53) := Lib.hid (HE_52.out.trans (hb_54.mono (sz_le hB0.out HE_52.out.size)))
  clear HE_52 H_51
  clear hb_54
  go_wp2_with fail
  refine (awake_walk _).mono ?_; rintro e V_57 ⟨rfl, hb_58⟩
  have H_59 : Hid (V_57.heap[B0]? = some (.cells S0 24 (0, 0))) := Lib.hid ((hb_58.block B0 (blk_lt H_55.out)).trans H_55.out)
  have HE_60 : Hid (Below B0 w V_57) := Lib.hid (HE_56.out.trans (hb_58.mono (sz_le hB0.out HE_56.out.size)))
  clear HE_56 H_55
  clear hb_58
  go_wp2
  go_ret
  exact ⟨rfl, HE_60.out⟩
set_option maxRecDepth 100000 in
set_option maxHeartbeats 6000000 in
theorem resp_right (w : World) (B : Int) (A : Option Addr) (l : List S39) (cap : Nat) (hc : l.length ≤ cap) (hC : Kd.C k39 w A l.length l) (a b : Int) (hf : Ev (fun k => pendulumref19_Small.f k B l) true) (hr : Ev (fun k => pendulumref05_Right.f k B l) false) : Calls Try.prog 4 #[.agg #[.int .i64 B, .slice A l.length cap], .int .u8 a, .int .u32 b] w fun e w' => e = .returned (.bool true) ∧ Below w.heap.size w w' := by
  obtain ⟨S0, eS0⟩ : ∃ S0 : Array Value, S0 = #[.int .i64 B, .slice A l.length cap] := ⟨_, rfl⟩
  rw [← eS0]
  have zS0 : Hid (S0.size = 2) := Lib.hid (by rw [eS0]; rfl)
  replace eS0 := Lib.hid eS0
  obtain ⟨B0, hB0⟩ : ∃ B, w.heap.size = B := ⟨_, rfl⟩
  rw [hB0]
  obtain ⟨V0, hV0⟩ : ∃ V, w.alloc (.cells S0 24) = V := ⟨_, rfl⟩
  have Hs : Hid (V0.heap[B0]? = some (.cells S0 24 (0, 0))) := Lib.hid (by rw [← hV0]; exact (box_new hB0).1)
  have HE : Hid (Below B0 w V0) := Lib.hid (by rw [← hV0, ← hB0]; exact (Below.refl _ _).alloc (Nat.le_refl _) _)
  go_enter Try.func4, Try.ntmps4
  go_upto_region 1 with (fail)
  replace hB0 := Lib.hid hB0
  replace hV0 := Lib.hid hV0
  go_wp2_with fail
  refine (awake_walk _).mono ?_; rintro e V_61 ⟨rfl, hb_62⟩
  have H_63 : Hid (V_61.heap[B0]? = some (.cells S0 24 (0, 0))) := Lib.hid ((hb_62.block B0 (blk_lt Hs.out)).trans Hs.out)
  have HE_64 : Hid (Below B0 w V_61) := Lib.hid (HE.out.trans (hb_62.mono (sz_le hB0.out HE.out.size)))
  clear HE Hs
  clear hb_62
  go_wp2_with (first | ((with_reducible refine wpl_gate (T := 24) rfl ?_); refine wpl_ld _ _ rfl (by rfl) B0 rfl H_63.out Try.underlying24 rfl (by kernel_rfl) zS0.out ?_))
  refine (smallq_c hf hC hc hB0.out HE_64.out _ eS0.out).mono ?_; rintro e V_65 ⟨rfl, hb_66⟩
  have H_67 : Hid (V_65.heap[B0]? = some (.cells S0 24 (0, 0))) := Lib.hid ((hb_66.block B0 (blk_lt H_63.out)).trans H_63.out)
  have HE_68 : Hid (Below B0 w V_65) := Lib.hid (HE_64.out.trans (hb_66.mono (sz_le hB0.out HE_64.out.size)))
  clear HE_64 H_63
  clear hb_66
  go_wp2_with (first | ((with_reducible refine wpl_gate (T := 24) rfl ?_); refine wpl_ld _ _ rfl (by rfl) B0 rfl H_67.out Try.underlying24 rfl (by kernel_rfl) zS0.out ?_))
  refine (rightq_c hr hC hc hB0.out HE_68.out _ eS0.out).mono ?_; rintro e V_69 ⟨rfl, hb_70⟩
  have H_71 : Hid (V_69.heap[B0]? = some (.cells S0 24 (0, 0))) := Lib.hid ((hb_70.block B0 (blk_lt H_67.out)).trans H_67.out)
  have HE_72 : Hid (Below B0 w V_69) := Lib.hid (HE_68.out.trans (hb_70.mono (sz_le hB0.out HE_68.out.size)))
  clear HE_68 H_67
  clear hb_70
  go_wp2_with fail
  refine (awake_walk _).mono ?_; rintro e V_73 ⟨rfl, hb_74⟩
  have H_75 : Hid (V_73.heap[B0]? = some (.cells S0 24 (0, 0))) := Lib.hid ((hb_74.block B0 (blk_lt H_71.out)).trans H_71.out)
  have HE_76 : Hid (Below B0 w V_73) := Lib.hid (HE_72.out.trans (hb_74.mono (sz_le hB0.out HE_72.out.size)))
  clear HE_72 H_71
  clear hb_74
  go_wp2
  go_ret
  exact ⟨rfl, HE_76.out⟩
set_option maxRecDepth 100000 in
set_option maxHeartbeats 6000000 in
theorem resp_main (w : World) (B : Int) (A : Option Addr) (l : List S39) (cap : Nat) (hc : l.length ≤ cap) (hC : Kd.C k39 w A l.length l) (a b : Int) (ha : 0 ≤ a ∧ a ≤ 255) (hb : 0 ≤ b ∧ b ≤ 4294967295) (hf : Ev (fun k => pendulumref19_Small.f k B l) true) (hr : Ev (fun k => pendulumref05_Right.f k B l) true) (sm : l.length ≤ 16 ∧ ∀ j : Nat, j < l.length → (rd_T39 l j).f2 ≤ 3000) (ok : OkS B l) : Calls Try.prog 4 #[.agg #[.int .i64 B, .slice A l.length cap], .int .u8 a, .int .u32 b] w fun e w' => e = .returned (.bool true) ∧ Below w.heap.size w w' := by
  have hlen := ok.2.2.1
  have hlen2 := ok.2.2.2.1
  obtain ⟨k, hk⟩ : ∃ k, k = a % (l.length : Int) := ⟨_, rfl⟩
  have hk0 : 0 ≤ k := by rw [hk]; exact Int.emod_nonneg _ (by omega)
  have hk1 : k < (l.length : Int) := by rw [hk]; exact Int.emod_lt_of_pos _ (by omega)
  obtain ⟨g, hg⟩ : ∃ g, g = 1 + b % 1049576 := ⟨_, rfl⟩
  have hg1 : 1 ≤ g := by omega
  have hg2 : g ≤ 1049576 := by omega
  obtain ⟨ad, rfl, _⟩ := row_at hC hk0 hk1
  replace hk := Lib.hid hk
  replace hg := Lib.hid hg
  obtain ⟨S0, eS0⟩ : ∃ S0 : Array Value, S0 = #[.int .i64 B, .slice (some ad) l.length cap] := ⟨_, rfl⟩
  rw [← eS0]
  have zS0 : Hid (S0.size = 2) := Lib.hid (by rw [eS0]; rfl)
  replace eS0 := Lib.hid eS0
  obtain ⟨B0, hB0⟩ : ∃ B, w.heap.size = B := ⟨_, rfl⟩
  rw [hB0]
  obtain ⟨V0, hV0⟩ : ∃ V, w.alloc (.cells S0 24) = V := ⟨_, rfl⟩
  have Hs : Hid (V0.heap[B0]? = some (.cells S0 24 (0, 0))) := Lib.hid (by rw [← hV0]; exact (box_new hB0).1)
  have HE : Hid (Below B0 w V0) := Lib.hid (by rw [← hV0, ← hB0]; exact (Below.refl _ _).alloc (Nat.le_refl _) _)
  go_enter Try.func4, Try.ntmps4
  go_upto_region 1 with (fail)
  replace hB0 := Lib.hid hB0
  replace hV0 := Lib.hid hV0
  go_wp2_with fail
  refine (awake_walk _).mono ?_; rintro e V_77 ⟨rfl, hb_78⟩
  have H_79 : Hid (V_77.heap[B0]? = some (.cells S0 24 (0, 0))) := Lib.hid ((hb_78.block B0 (blk_lt Hs.out)).trans Hs.out)
  have HE_80 : Hid (Below B0 w V_77) := Lib.hid (HE.out.trans (hb_78.mono (sz_le hB0.out HE.out.size)))
  clear HE Hs
  clear hb_78
  go_wp2_with (first | ((with_reducible refine wpl_gate (T := 24) rfl ?_); refine wpl_ld _ _ rfl (by rfl) B0 rfl H_79.out Try.underlying24 rfl (by kernel_rfl) zS0.out ?_))
  refine (smallq_c hf hC hc hB0.out HE_80.out _ eS0.out).mono ?_; rintro e V_81 ⟨rfl, hb_82⟩
  have H_83 : Hid (V_81.heap[B0]? = some (.cells S0 24 (0, 0))) := Lib.hid ((hb_82.block B0 (blk_lt H_79.out)).trans H_79.out)
  have HE_84 : Hid (Below B0 w V_81) := Lib.hid (HE_80.out.trans (hb_82.mono (sz_le hB0.out HE_80.out.size)))
  clear HE_80 H_79
  clear hb_82
  go_wp2_with (first | ((with_reducible refine wpl_gate (T := 24) rfl ?_); refine wpl_ld _ _ rfl (by rfl) B0 rfl H_83.out Try.underlying24 rfl (by kernel_rfl) zS0.out ?_))
  refine (rightq_c hr hC hc hB0.out HE_84.out _ eS0.out).mono ?_; rintro e V_85 ⟨rfl, hb_86⟩
  have H_87 : Hid (V_85.heap[B0]? = some (.cells S0 24 (0, 0))) := Lib.hid ((hb_86.block B0 (blk_lt H_83.out)).trans H_83.out)
  have HE_88 : Hid (Below B0 w V_85) := Lib.hid (HE_84.out.trans (hb_86.mono (sz_le hB0.out HE_84.out.size)))
  clear HE_84 H_83
  clear hb_86
  go_wp2_with (first | ((with_reducible refine wpl_gate (T := 24) rfl ?_); refine wpl_ld _ _ rfl (by rfl) B0 rfl H_87.out Try.underlying24 rfl (by kernel_rfl) zS0.out ?_))
  refine (task_c _ B (some ad) l cap (Kd.C_below hC (below_to hB0.out HE_88.out)) hc hlen a b ha hb _ eS0.out k g hk.out hg.out).mono ?_; rintro e V_89 ⟨rfl, hb_90⟩
  have H_91 : Hid (V_89.heap[B0]? = some (.cells S0 24 (0, 0))) := Lib.hid ((hb_90.block B0 (blk_lt H_87.out)).trans H_87.out)
  have HE_92 : Hid (Below B0 w V_89) := Lib.hid (HE_88.out.trans (hb_90.mono (sz_le hB0.out HE_88.out.size)))
  clear HE_88 H_87
  clear hb_90
  have RR := rrsp_rsp ok hg1 hk0 hk1
  have R1 := Lib.hid (fun (W : World) (hW : Below B0 w W) => response_c W B ad l cap hc (Kd.C_below hC (below_to hB0.out hW)) ok k hk0 hk1 g hg1 hg2 S0 eS0.out)
  have R2 := Lib.hid (fun (W : World) (hW : Below B0 w W) => rresponse_c W B ad l cap hc (Kd.C_below hC (below_to hB0.out hW)) ok k hk0 hk1 g hg1 hg2 S0 eS0.out)
  rw [RR] at R2
  obtain ⟨r, hr1⟩ : ∃ r, (rsp B g l k).1 = r := ⟨_, rfl⟩
  obtain ⟨d, hd1⟩ : ∃ d, (rsp B g l k).2 = d := ⟨_, rfl⟩
  rw [hr1, hd1] at R1 R2
  replace R1 := Lib.hid R1.out
  replace R2 := Lib.hid R2.out
  clear RR hr1 hd1
  go_wp2_with (first | ((with_reducible refine wpl_gate (T := 24) rfl ?_); refine wpl_ld _ _ rfl (by rfl) B0 rfl H_91.out Try.underlying24 rfl (by kernel_rfl) zS0.out ?_))
  refine (R1.out _ HE_92.out).mono ?_; rintro e V_93 ⟨rfl, hb_94⟩
  have H_95 : Hid (V_93.heap[B0]? = some (.cells S0 24 (0, 0))) := Lib.hid ((hb_94.block B0 (blk_lt H_91.out)).trans H_91.out)
  have HE_96 : Hid (Below B0 w V_93) := Lib.hid (HE_92.out.trans (hb_94.mono (sz_le hB0.out HE_92.out.size)))
  clear HE_92 H_91
  clear hb_94
  go_wp2_with (first | ((with_reducible refine wpl_gate (T := 24) rfl ?_); refine wpl_ld _ _ rfl (by rfl) B0 rfl H_95.out Try.underlying24 rfl (by kernel_rfl) zS0.out ?_))
  refine (R2.out _ HE_96.out).mono ?_; rintro e V_97 ⟨rfl, hb_98⟩
  have H_99 : Hid (V_97.heap[B0]? = some (.cells S0 24 (0, 0))) := Lib.hid ((hb_98.block B0 (blk_lt H_95.out)).trans H_95.out)
  have HE_100 : Hid (Below B0 w V_97) := Lib.hid (HE_96.out.trans (hb_98.mono (sz_le hB0.out HE_96.out.size)))
  clear HE_96 H_95
  clear hb_98
  have hq1 : (r == r) = true := by simp
  have hq2 : (d == d) = true := by simp
  go_wp2
  go_ret
  exact ⟨rfl, HE_100.out⟩
theorem resp_walk (w : World) (B : Int) (A : Option Addr) (l : List S39) (cap : Nat) (hc : l.length ≤ cap) (hC : Kd.C k39 w A l.length l) (a b : Int) (ha : 0 ≤ a ∧ a ≤ 255) (hb : 0 ≤ b ∧ b ≤ 4294967295) : Calls Try.prog 4 #[.agg #[.int .i64 B, .slice A l.length cap], .int .u8 a, .int .u32 b] w fun e w' => e = .returned (.bool true) ∧ Below w.heap.size w w' := by
  obtain ⟨b, hf, pf⟩ := small_tot B l
  cases b with
  | false => exact resp_first w B A l cap hc hC a b hf
  | true =>
    obtain ⟨b, hr, pr⟩ := right_tot B l
    cases b with
    | false => exact resp_right w B A l cap hc hC a b hf hr
    | true => exact resp_main w B A l cap hc hC a b ha hb hf hr (pf rfl) (pr rfl)
theorem resp_row (w : World) (B : Int) (A : Option Addr) (l : List S39) (cap : Nat) (hc : l.length ≤ cap) (hC : Kd.C k39 w A l.length l) (a : Int) (ha : (Lit.int .u8 a).wf = true) (b : Int) (hb : (Lit.int .u32 b).wf = true) : Calls Try.prog 4 #[.agg #[.int .i64 B, .slice A l.length cap], .int .u8 a, .int .u32 b] w fun e w' => e = .returned (.bool true) ∧ Below w.heap.size w w' :=
  resp_walk w B A l cap hc hC a b (Args.bd_u8 ha) (Args.bd_u32 hb)
end Go.Proofs.Ytnidcoooenhebaa.PS
