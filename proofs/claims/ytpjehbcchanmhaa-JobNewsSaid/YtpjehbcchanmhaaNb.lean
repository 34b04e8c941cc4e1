/- The law JobNews, walked. -/
import Derived.Test.YtpjehbcchanmhaaNa
namespace Go.Proofs.Ytpjehbcchanmhaa.PS
open Go.RowKit Go.Proofs.Ytpjehbcchanmhaa.PC Go.Proofs.YtpjehbcchanmhaaW.PrintWords Go.Proofs.YtpjehbcchanmhaaW.PrintLast Go.Proofs.YtpjehbcchanmhaaW.PrintMore
set_option linter.unusedVariables false
set_option linter.unusedSimpArgs false
set_option maxRecDepth 100000 in
set_option maxHeartbeats 6000000 in
theorem news_one_true (w : World) (B : Int) (ad : Addr) (l : List S28) (cap : Nat) (hc : l.length ≤ cap) (hC : Kd.C k28 w (some ad) l.length l) (i no rel d C : Int) (hi : 0 ≤ i) (hi2 : i < (l.length : Int)) (hno : 0 ≤ no) (hrel : 0 ≤ rel) (hrel2 : rel ≤ 1099511627776) (hCe : (rd_T28 l i).f3 = C) (hd : d < 1) (hf : Ev (fun k => pendulumref05_Few.f k B l) true) (hr : Ev (fun k => pendulumref05_Right.f k B l) true) (ok : OkS B l) : Calls Try.prog 3 #[.agg #[.int .i64 B, .slice (some ad) l.length cap], .int .i64 i, .int .i64 no, .int .i64 rel, .int .i64 d, .bool true] w fun e w' => e = .returned (.bool true) ∧ Below w.heap.size w w' := by
  have q0 : decide (i < 0) = false := decide_eq_false (by omega)
  have q1 : decide ((l.length : Int) ≤ i) = false := decide_eq_false (by omega)
  have q2 : decide (no < 0) = false := decide_eq_false (by omega)
  have q3 : decide (rel < 0) = false := decide_eq_false (by omega)
  have q4 : decide (1099511627776 < rel) = false := decide_eq_false (by omega)
  have okt := (ok.2.2.2.2 i.toNat (by omega)).1
  rw [show ((i.toNat : Nat) : Int) = i by omega] at okt
  have hnum := okt.nums
  have hC1 : 1 ≤ C := by omega
  have hCx : C ≤ (rd_T28 l i).f3 := by omega
  obtain ⟨t, ht⟩ : ∃ t, rd_T28 l i = t := ⟨_, rfl⟩
  rw [ht] at hnum hCx okt hCe
  obtain ⟨D, hD⟩ : ∃ D, t.f2 = D := ⟨_, rfl⟩
  rw [hD] at hnum
  have hD1 : 1 ≤ D := by omega
  have hw : wrap64 (rel + D) = rel + D := w64 (by omega) (by omega)
  have hw' : wrap64 (rel + D - 1) = rel + D - 1 := w64 (by omega) (by omega)
  have qd : decide (d < 1) = true := decide_eq_true hd
  have qc : decide (C < 1) = false := decide_eq_false (by omega)
  have hn : Hid (mn (mx d 1) t.f3 = 1) := Lib.hid (by rw [hCe]; exact mn_one hd hC1)
  have hv1 : Hid (1 ≤ (1 : Int)) := Lib.hid (by omega)
  have hv2 : Hid ((1 : Int) ≤ t.f3) := Lib.hid (by omega)
  have qov : decide (C < d) = false := decide_eq_false (by omega)
  have hov' : Hid (decide (d > (rd_T28 l i).f3) = false) := Lib.hid (by rw [ht, hCe]; exact qov)
  have hr1 : Hid (0 ≤ rel ∧ rel ≤ 1099511627776) := Lib.hid ⟨by omega, by omega⟩
  have hi1 : Hid (0 ≤ i ∧ i < (l.length : Int)) := Lib.hid ⟨by omega, by omega⟩
  have hno1 : Hid (0 ≤ no) := Lib.hid (by omega)
  have hii : i < (l.length : Int) := by omega
  have hi0 : 0 ≤ i := by omega
  clear hnum hCx hrel hrel2 hd
  obtain ⟨Z, eZ⟩ : ∃ A : Array Value, A = #[.int .i64 0, .int .i64 0, .int .i64 0, .int .i64 0, .bool false, .bool false, .bool false, .string ⟨#[]⟩, .int .i64 0, .int .i64 0, .int .i64 0, .int .i64 0, .int .i64 0, .int .i64 0, .int .i64 0, .int .i64 0, .int .i64 0, .int .i64 0, .int .i64 0, .int .i64 0, .int .i64 0, .bool false, .int .i64 0] := ⟨_, rfl⟩
  have zZ : Hid (Z.size = 23) := Lib.hid (by rw [eZ]; rfl)
  have hz : ∀ V : World, (zeroValue 32).run Try.prog V = .ok (.agg Z) V := fun V => by rw [eZ]; kernel_rfl
  replace eZ := Lib.hid eZ
  obtain ⟨J, eJ⟩ : ∃ A, A = JP i no rel (rel + D) true false false ++ RA t (1 : Int) (ini t 1) := ⟨_, rfl⟩
  have zJ : Hid (J.size = 23) := Lib.hid (by rw [eJ]; exact JJ_size _ _ _ _ _ _ _ _ _ _)
  have oJ : Hid (J.all (·.oneCell') = true) := Lib.hid (by rw [eJ]; exact JJ_one _ _ _ _ _ _ _ _ _ _)
  replace eJ := Lib.hid eJ
  obtain ⟨R0, eR0⟩ : ∃ A, A = RA t (1 : Int) ⟨0, 0, false, 0⟩ := ⟨_, rfl⟩
  have zR0 : Hid (R0.size = 16) := Lib.hid (by rw [eR0]; exact RA_size _ _ _)
  have oR0 : Hid (R0.all (·.oneCell') = true) := Lib.hid (by rw [eR0]; exact RA_one _ _ _)
  replace eR0 := Lib.hid eR0
  obtain ⟨R1, eR1⟩ : ∃ A, A = RA t (1 : Int) (ini t 1) := ⟨_, rfl⟩
  have zR1 : Hid (R1.size = 16) := Lib.hid (by rw [eR1]; exact RA_size _ _ _)
  have oR1 : Hid (R1.all (·.oneCell') = true) := Lib.hid (by rw [eR1]; exact RA_one _ _ _)
  replace eR1 := Lib.hid eR1
  obtain ⟨T, eT⟩ : ∃ A, A = TA t := ⟨_, rfl⟩
  have zT : Hid (T.size = 11) := Lib.hid (by rw [eT]; rfl)
  have oT : Hid (T.all (·.oneCell') = true) := Lib.hid (by rw [eT]; exact TA_one _)
  replace eT := Lib.hid eT
  obtain ⟨U, eU⟩ : ∃ A : Array Value, A = #[.string ⟨#[]⟩, .int .i64 0, .int .i64 0, .int .i64 0, .int .i64 0, .int .i64 0, .int .i64 0, .int .i64 0, .int .i64 0, .int .i64 0, .int .i64 0] := ⟨_, rfl⟩
  have zU : Hid (U.size = 11) := Lib.hid (by rw [eU]; rfl)
  have hzU : ∀ V : World, (zeroValue 28).run Try.prog V = .ok (.agg U) V := fun V => by rw [eU]; kernel_rfl
  replace eU := Lib.hid eU
  obtain ⟨Y, eY⟩ : ∃ A : Array Value, A = #[.string ⟨#[]⟩, .int .i64 0, .int .i64 0, .int .i64 0, .int .i64 0, .int .i64 0, .int .i64 0, .int .i64 0, .int .i64 0, .int .i64 0, .int .i64 0, .int .i64 0, .int .i64 0, .int .i64 0, .bool false, .int .i64 0] := ⟨_, rfl⟩
  have zY : Hid (Y.size = 16) := Lib.hid (by rw [eY]; rfl)
  have hzY : ∀ V : World, (zeroValue 30).run Try.prog V = .ok (.agg Y) V := fun V => by rw [eY]; kernel_rfl
  replace eY := Lib.hid eY
  obtain ⟨PJ, ePJ⟩ : ∃ P : Array Value, P = #[.int .i64 i, .int .i64 no, .int .i64 rel, .int .i64 (rel + D), .bool true, .bool false, .bool false] := ⟨_, rfl⟩
  have hPJ : Hid (PJ ++ R1 = J) := Lib.hid (by rw [ePJ, eR1.out, eJ.out]; rfl)
  replace ePJ := Lib.hid ePJ
  obtain ⟨pr, hpr⟩ : ∃ p, t.f10 = p := ⟨_, rfl⟩
  replace hpr := Lib.hid hpr
  obtain ⟨KK, eKK⟩ : ∃ A : Array Value, A = #[.int .i64 1, .int .i64 pr, .int .i64 rel, .int .i64 i] := ⟨_, rfl⟩
  replace eKK := Lib.hid eKK
  have hjj : Hid (∀ W : World, (binOp .eql 32 (.agg J) (.agg J)).run Try.prog W = .ok (.bool true) W) := Lib.hid (fun W => eq_job W J _ _ _ _ _ _ _ _ _ _ eJ.out)
  have hjg : Hid (∀ (a b : Operand) (W : World), (eqGuard .eql 32 a b (.agg J) (.agg J)).run Try.prog W = .ok () W) := Lib.hid (fun a b W => run_eqGuard_agg W .eql 32 a b _ _ (by kernel_rfl))
  have hkk : Hid (∀ W : World, (binOp .eql 38 (.agg KK) (.agg #[.int .i64 1, .int .i64 pr, .int .i64 rel, .int .i64 i])).run Try.prog W = .ok (.bool true) W) := Lib.hid (fun W => by rw [eKK.out, key_cmp]; simp)
  have hkg : Hid (∀ (a b : Operand) (W : World), (eqGuard .eql 38 a b (.agg KK) (.agg #[.int .i64 1, .int .i64 pr, .int .i64 rel, .int .i64 i])).run Try.prog W = .ok () W) := Lib.hid (fun a b W => run_eqGuard_agg W .eql 38 a b _ _ (by kernel_rfl))
  have hJ3 : Hid (J[3]? = some (.int .i64 (rel + D))) := Lib.hid (by rw [eJ.out]; exact JJ_at _ _ _ _ _ _ _ _ _ _ 3 (by decide))
  have NJ := Lib.hid (fun (W : World) (hW : Below w.heap.size w W) (A0 : Array Value) (eA0 : A0 = #[.int .i64 B, .slice (some ad) l.length cap]) => new_c (B := B) (cap := cap) (x := d) (n := 1) (must := true) (Kd.C_below hC hW) hi1.out.1 hi1.out.2 hno1.out hr1.out.1 hr1.out.2 (by rw [ht]; exact okt) (by rw [ht]; exact hn.out) A0 J eA0 (by rw [hov'.out, ht, hD]; exact eJ.out))
  have hrow := Lib.hid (fun (W : World) (B0 : Nat) (h0 : w.heap.size = B0) (hW : Below B0 w W) => row_at4 hC h0 hW hi1.out.1 hi1.out.2 T (by rw [ht]; exact eT.out))
  replace ht := Lib.hid ht
  replace okt := Lib.hid okt
  replace ok := Lib.hid ok
  replace hD := Lib.hid hD
  replace hCe := Lib.hid hCe
  obtain ⟨A0, eA0⟩ : ∃ A0 : Array Value, A0 = #[.int .i64 B, .slice (some ad) l.length cap] := ⟨_, rfl⟩
  rw [← eA0]
  have zA0 : Hid (A0.size = 2) := Lib.hid (by rw [eA0]; rfl)
  replace eA0 := Lib.hid eA0
  obtain ⟨B0, hB0⟩ : ∃ B, w.heap.size = B := ⟨_, rfl⟩
  rw [hB0]
  obtain ⟨V0, hV0⟩ : ∃ V, w.alloc (.cells A0 24) = V := ⟨_, rfl⟩
  have Hs : Hid (V0.heap[B0]? = some (.cells A0 24 (0, 0))) := Lib.hid (by rw [← hV0]; exact (box_new hB0).1)
  have HE : Hid (Below B0 w V0) := Lib.hid (by rw [← hV0, ← hB0]; exact (Below.refl _ _).alloc (Nat.le_refl _) _)
  go_enter Try.func3, Try.ntmps3
  go_upto_region 1 with (fail)
  replace hB0 := Lib.hid hB0
  replace hV0 := Lib.hid hV0
  go_wp2_with fail
  refine (aw_c _).mono ?_; rintro e V_159 ⟨rfl, hb_160⟩
  have H_161 : Hid (V_159.heap[B0]? = some (.cells A0 24 (0, 0))) := Lib.hid ((hb_160.block B0 (blk_lt Hs.out)).trans Hs.out)
  have HE_162 : Hid (Below B0 w V_159) := Lib.hid (HE.out.trans (hb_160.mono (sz_le hB0.out HE.out.size)))
  clear HE Hs
  clear hb_160
  go_wp2_with (first | ((with_reducible refine wpl_gate (T := 24) rfl ?_); refine wpl_ld _ _ rfl (by rfl) B0 rfl H_161.out Try.underlying24 rfl (by kernel_rfl) zA0.out ?_))
  refine (few_c hf hC hc hB0.out HE_162.out _ eA0.out).mono ?_; rintro e V_163 ⟨rfl, hb_164⟩
  have H_165 : Hid (V_163.heap[B0]? = some (.cells A0 24 (0, 0))) := Lib.hid ((hb_164.block B0 (blk_lt H_161.out)).trans H_161.out)
  have HE_166 : Hid (Below B0 w V_163) := Lib.hid (HE_162.out.trans (hb_164.mono (sz_le hB0.out HE_162.out.size)))
  clear HE_162 H_161
  clear hb_164
  go_wp2_with (first | ((with_reducible refine wpl_gate (T := 24) rfl ?_); refine wpl_ld _ _ rfl (by rfl) B0 rfl H_165.out Try.underlying24 rfl (by kernel_rfl) zA0.out ?_))
  refine (right_c hr hC hc hB0.out HE_166.out _ eA0.out).mono ?_; rintro e V_167 ⟨rfl, hb_168⟩
  have H_169 : Hid (V_167.heap[B0]? = some (.cells A0 24 (0, 0))) := Lib.hid ((hb_168.block B0 (blk_lt H_165.out)).trans H_165.out)
  have HE_170 : Hid (Below B0 w V_167) := Lib.hid (HE_166.out.trans (hb_168.mono (sz_le hB0.out HE_166.out.size)))
  clear HE_166 H_165
  clear hb_168
  go_wp2_with (first | ((with_reducible refine wpl_gate (T := 24) rfl ?_); refine wpl_ld _ _ rfl (by rfl) B0 rfl H_169.out Try.underlying24 rfl (by kernel_rfl) zA0.out ?_))
  refine (NJ.out _ (below_to hB0.out HE_170.out) _ eA0.out).mono ?_; rintro e V_171 ⟨rfl, hb_172⟩
  have H_173 : Hid (V_171.heap[B0]? = some (.cells A0 24 (0, 0))) := Lib.hid ((hb_172.block B0 (blk_lt H_169.out)).trans H_169.out)
  have HE_174 : Hid (Below B0 w V_171) := Lib.hid (HE_170.out.trans (hb_172.mono (sz_le hB0.out HE_170.out.size)))
  clear HE_170 H_169
  clear hb_172
  obtain ⟨X_175, hX_177⟩ : ∃ X, V_171.heap.size = X := ⟨_, rfl⟩
  obtain ⟨V_176, q_178_0, q_178_1, q_178_2, q_178_3⟩ := st_new (w := V_171) (T := 32) hX_177 zZ.out zJ.out oJ.out
  have ne_180 : B0 < X_175 := hX_177 ▸ blk_lt H_173.out
  have H_179 : Hid (V_176.heap[B0]? = some (.cells A0 24 (0, 0))) := Lib.hid ((q_178_2 _ ne_180).trans H_173.out)
  have ge_181 : B0 ≤ X_175 := hX_177 ▸ (sz_le hB0.out HE_174.out.size)
  have HE_182 : Hid (Below B0 w V_176) := Lib.hid (q_178_3 _ _ ge_181 HE_174.out)
  have H_183 := Lib.hid q_178_1
  clear q_178_1 q_178_2 q_178_3
  go_upto_region 4 with (fail)
  clear q_178_0 hX_177
  clear HE_174 H_173
  have c_184 : V_176.cell? ⟨B0, 1, none⟩ = some (.slice (some ad) l.length cap) := by rw [blk_cell H_179.out, eA0.out]; rfl
  go_upto_region 6 with (fail)
  obtain ⟨X_185, hX_187⟩ : ∃ X, V_176.heap.size = X := ⟨_, rfl⟩
  obtain ⟨V_186, q_188_0, q_188_1, q_188_2, q_188_3⟩ := st_new (w := V_176) (T := 28) hX_187 zU.out zT.out oT.out
  have ne_190 : B0 < X_185 := hX_187 ▸ blk_lt H_179.out
  have H_189 : Hid (V_186.heap[B0]? = some (.cells A0 24 (0, 0))) := Lib.hid ((q_188_2 _ ne_190).trans H_179.out)
  have ne_192 : X_175 < X_185 := hX_187 ▸ blk_lt H_183.out
  have H_191 : Hid (V_186.heap[X_175]? = some (.cells J 32 (0, 0))) := Lib.hid ((q_188_2 _ ne_192).trans H_183.out)
  have ge_193 : B0 ≤ X_185 := hX_187 ▸ (sz_le hB0.out HE_182.out.size)
  have HE_194 : Hid (Below B0 w V_186) := Lib.hid (q_188_3 _ _ ge_193 HE_182.out)
  have H_195 := Lib.hid q_188_1
  clear q_188_1 q_188_2 q_188_3
  go_upto_region 7 with (first | ((with_reducible refine wpl_gate (T := 28) rfl ?_); refine wpl_ldr _ _ rfl (by rfl) (ad.add (i.toNat * 11)) rfl (hrow.out _ _ hB0.out HE_182.out) Try.underlying28 rfl (by kernel_rfl) zT.out ?_))
  clear q_188_0 hX_187
  clear c_184
  clear HE_182 H_179 H_183
  have c_196 : V_186.cell? ⟨X_185, 3, none⟩ = some (.int .i64 C) := by rw [blk_cell H_195.out, eT.out, ← hCe.out]; rfl
  go_upto_region 12 with (fail)
  clear c_196
  obtain ⟨X_197, hX_199⟩ : ∃ X, V_186.heap.size = X := ⟨_, rfl⟩
  obtain ⟨V_198, q_200_0, q_200_1, q_200_2, q_200_3⟩ := st_new (w := V_186) (T := 30) hX_199 zY.out zR0.out oR0.out
  have ne_202 : B0 < X_197 := hX_199 ▸ blk_lt H_189.out
  have H_201 : Hid (V_198.heap[B0]? = some (.cells A0 24 (0, 0))) := Lib.hid ((q_200_2 _ ne_202).trans H_189.out)
  have ne_204 : X_175 < X_197 := hX_199 ▸ blk_lt H_191.out
  have H_203 : Hid (V_198.heap[X_175]? = some (.cells J 32 (0, 0))) := Lib.hid ((q_200_2 _ ne_204).trans H_191.out)
  have ne_206 : X_185 < X_197 := hX_199 ▸ blk_lt H_195.out
  have H_205 : Hid (V_198.heap[X_185]? = some (.cells T 28 (0, 0))) := Lib.hid ((q_200_2 _ ne_206).trans H_195.out)
  have ge_207 : B0 ≤ X_197 := hX_199 ▸ (sz_le hB0.out HE_194.out.size)
  have HE_208 : Hid (Below B0 w V_198) := Lib.hid (q_200_3 _ _ ge_207 HE_194.out)
  have H_209 := Lib.hid q_200_1
  clear q_200_1 q_200_2 q_200_3
  go_upto_region 13 with (first | ((with_reducible refine wpl_gate (T := 28) rfl ?_); refine wpl_ld _ _ rfl (by rfl) X_185 rfl H_195.out Try.underlying28 rfl (by kernel_rfl) zT.out ?_) | ((with_reducible refine wpl_gateb (T := 30) rfl ?_); refine wpl_bld 30 _ rfl (by rfl) (run_built t 1 T eT.out (by simp [go_sem]) eR0.out) ?_))
  clear q_200_0 hX_199
  clear HE_194 H_189 H_191 H_195
  go_wp2_with (first | ((with_reducible refine wpl_gate (T := 30) rfl ?_); refine wpl_ld _ _ rfl (by rfl) X_197 rfl H_209.out Try.underlying30 rfl (by kernel_rfl) zR0.out ?_))
  refine (length_c _ t 1 ⟨0, 0, false, 0⟩ _ eR0.out okt.out hv1.out hv2.out (.inr (len_pos okt.out hv1.out)) (rd (pt t 1) (0 : Nat)) (by unfold lenv; rw [if_neg (fun h => by cases h.2)])).mono ?_; rintro e V_210 ⟨rfl, hb_211⟩
  have H_212 : Hid (V_210.heap[B0]? = some (.cells A0 24 (0, 0))) := Lib.hid ((hb_211.block B0 (blk_lt H_201.out)).trans H_201.out)
  have H_213 : Hid (V_210.heap[X_175]? = some (.cells J 32 (0, 0))) := Lib.hid ((hb_211.block X_175 (blk_lt H_203.out)).trans H_203.out)
  have H_214 : Hid (V_210.heap[X_185]? = some (.cells T 28 (0, 0))) := Lib.hid ((hb_211.block X_185 (blk_lt H_205.out)).trans H_205.out)
  have H_215 : Hid (V_210.heap[X_197]? = some (.cells R0 30 (0, 0))) := Lib.hid ((hb_211.block X_197 (blk_lt H_209.out)).trans H_209.out)
  have HE_216 : Hid (Below B0 w V_210) := Lib.hid (HE_208.out.trans (hb_211.mono (sz_le hB0.out HE_208.out.size)))
  clear HE_208 H_201 H_203 H_205 H_209
  clear hb_211
  have cp_218 : V_210.cell? ⟨X_197, 13, none⟩ = some (.int .i64 0) := by rw [blk_cell H_215.out]; exact (by rw [eR0.out]; simp [RA, TA])
  have zp_219 : V_210.frozen? ⟨X_197, 13, none⟩ = false := blk_frozen H_215.out 13
  go_upto_region 14 with (fail)
  have H_220 : Hid ((V_210.setCell ⟨X_197, 13, none⟩ (.int .i64 (rd (pt t 1) ((0 : Nat) : Int)))).heap[B0]? = some (.cells A0 24 (0, 0))) := Lib.hid (blk_far H_212.out (Nat.ne_of_lt ne_202) _)
  have H_221 : Hid ((V_210.setCell ⟨X_197, 13, none⟩ (.int .i64 (rd (pt t 1) ((0 : Nat) : Int)))).heap[X_175]? = some (.cells J 32 (0, 0))) := Lib.hid (blk_far H_213.out (Nat.ne_of_lt ne_204) _)
  have H_222 : Hid ((V_210.setCell ⟨X_197, 13, none⟩ (.int .i64 (rd (pt t 1) ((0 : Nat) : Int)))).heap[X_185]? = some (.cells T 28 (0, 0))) := Lib.hid (blk_far H_214.out (Nat.ne_of_lt ne_206) _)
  have H_223 : Hid ((V_210.setCell ⟨X_197, 13, none⟩ (.int .i64 (rd (pt t 1) ((0 : Nat) : Int)))).heap[X_197]? = some (.cells R1 30 (0, 0))) := Lib.hid (blk_put H_215.out 13 _ (by rw [eR0.out, eR1.out]; simp [RA, TA, ini]))
  have HE_224 : Hid (Below B0 w (V_210.setCell ⟨X_197, 13, none⟩ (.int .i64 (rd (pt t 1) ((0 : Nat) : Int))))) := Lib.hid (HE_216.out.setCell (p := ⟨X_197, 13, none⟩) ge_207 _)
  clear cp_218 zp_219
  generalize (V_210.setCell ⟨X_197, 13, none⟩ (.int .i64 (rd (pt t 1) ((0 : Nat) : Int)))) = V_217 at H_220 H_221 H_222 H_223 HE_224 ⊢
  clear HE_216 H_212 H_213 H_214 H_215
  have c_225 : V_217.cell? ⟨X_185, 2, none⟩ = some (.int .i64 D) := by rw [blk_cell H_222.out, eT.out, ← hD.out]; rfl
  have c_226 : V_217.cell? ⟨X_185, 3, none⟩ = some (.int .i64 C) := by rw [blk_cell H_222.out, eT.out, ← hCe.out]; rfl
  obtain ⟨X_227, hX_229⟩ : ∃ X, V_217.heap.size = X := ⟨_, rfl⟩
  obtain ⟨V_228, q_230_0, q_230_1, q_230_2, q_230_3⟩ := st_new (w := V_217) (T := 32) hX_229 zZ.out zJ.out oJ.out
  have ne_232 : B0 < X_227 := hX_229 ▸ blk_lt H_220.out
  have H_231 : Hid (V_228.heap[B0]? = some (.cells A0 24 (0, 0))) := Lib.hid ((q_230_2 _ ne_232).trans H_220.out)
  have ne_234 : X_175 < X_227 := hX_229 ▸ blk_lt H_221.out
  have H_233 : Hid (V_228.heap[X_175]? = some (.cells J 32 (0, 0))) := Lib.hid ((q_230_2 _ ne_234).trans H_221.out)
  have ne_236 : X_185 < X_227 := hX_229 ▸ blk_lt H_222.out
  have H_235 : Hid (V_228.heap[X_185]? = some (.cells T 28 (0, 0))) := Lib.hid ((q_230_2 _ ne_236).trans H_222.out)
  have ne_238 : X_197 < X_227 := hX_229 ▸ blk_lt H_223.out
  have H_237 : Hid (V_228.heap[X_197]? = some (.cells R1 30 (0, 0))) := Lib.hid ((q_230_2 _ ne_238).trans H_223.out)
  have ge_239 : B0 ≤ X_227 := hX_229 ▸ (sz_le hB0.out HE_224.out.size)
  have HE_240 : Hid (Below B0 w V_228) := Lib.hid (q_230_3 _ _ ge_239 HE_224.out)
  have H_241 := Lib.hid q_230_1
  clear q_230_1 q_230_2 q_230_3
  go_upto_region 15 with (first | ((with_reducible refine wpl_gate (T := 30) rfl ?_); refine wpl_ld _ _ rfl (by rfl) X_197 rfl H_223.out Try.underlying30 rfl (by kernel_rfl) zR1.out ?_) | ((with_reducible refine wpl_gateb (T := 32) rfl ?_); refine wpl_bld 32 _ rfl (by rfl) (job_built i no rel (rel + D) true false R1 zR1.out ePJ.out hPJ.out (by simp [go_sem, hw])) ?_))
  clear q_230_0 hX_229
  clear c_225 c_226
  clear HE_224 H_220 H_221 H_222 H_223
  go_upto_region 18 with (fail)
  have hwi : IntKind.i64.wrap (rel + D) = rel + D := by rw [i64_w]; exact hw
  have hwi' : IntKind.i64.wrap (rel + D - 1) = rel + D - 1 := by rw [i64_w]; exact hw'
  have hjj' := hjj.out
  have hjg' := hjg.out
  have hkk' := hkk.out
  have hkg' := hkg.out
  refine start_ (n := 37) (S := fun w' => w'.heap[X_175]? = some (.cells J 32 (0, 0)) ∧ w'.heap[X_227]? = some (.cells J 32 (0, 0)) ∧ w'.cell? ⟨X_185, 10, none⟩ = some (.int .i64 pr) ∧ w'.cell? ⟨X_185, 2, none⟩ = some (.int .i64 D)) (ds := []) #[false, false, false, false, false, false, false, false, false, false, false, false, false, false, false, false, false, false, false, false, false, false, false, false, false, false, false, false, false, false, false, false, false, false, false, false, false] (by kernel_rfl) rfl rfl ⟨H_233.out, H_241.out, (blk_cell H_235.out 10).trans (by rw [eT.out, ← hpr.out]; rfl), (blk_cell H_235.out 2).trans (by rw [eT.out, ← hD.out]; rfl)⟩ (fun hHeld => ?_)
  refine pure_ (i := 0) (N := (some 107)) (v := ?_) (a' := ?_) #[true, false, false, false, false, false, false, false, false, false, false, false, false, false, false, false, false, false, false, false, false, false, false, false, false, false, false, false, false, false, false, false, false, false, false, false, false] rfl rfl (by kernel_rfl) (fun _ _ _ h => h) (Or.inl ⟨by rfl, ?_⟩) ?_ ?_
  rotate_left
  · intro w'
    go_simp
    with_reducible rfl
  rotate_left
  · simp only [Act.put, List.setIfInBounds_toArray, List.set_cons_zero, List.set_cons_succ, i64_w, i32_w]
    rfl
  refine pure_ (i := 1) (N := (some 108)) (v := ?_) (a' := ?_) #[true, true, false, false, false, false, false, false, false, false, false, false, false, false, false, false, false, false, false, false, false, false, false, false, false, false, false, false, false, false, false, false, false, false, false, false, false] rfl rfl (by kernel_rfl) (fun _ _ _ h => h) (Or.inl ⟨by rfl, ?_⟩) ?_ ?_
  rotate_left
  · intro w'
    go_simp
    with_reducible rfl
  rotate_left
  · simp only [Act.put, List.setIfInBounds_toArray, List.set_cons_zero, List.set_cons_succ, i64_w, i32_w]
    rfl
  refine pure_ (i := 2) (N := (some 109)) (v := ?_) (a' := ?_) #[true, true, true, false, false, false, false, false, false, false, false, false, false, false, false, false, false, false, false, false, false, false, false, false, false, false, false, false, false, false, false, false, false, false, false, false, false] rfl rfl (by kernel_rfl) (fun _ _ _ h => h) (Or.inl ⟨by rfl, ?_⟩) ?_ ?_
  rotate_left
  · intro w'
    go_simp
    with_reducible rfl
  rotate_left
  · simp only [Act.put, List.setIfInBounds_toArray, List.set_cons_zero, List.set_cons_succ, i64_w, i32_w]
    rfl
  refine take_ (i := 3) (N := (some 110)) (v := .agg J) (a' := ?_) #[true, true, true, true, false, false, false, false, false, false, false, false, false, false, false, false, false, false, false, false, false, false, false, false, false, false, false, false, false, false, false, false, false, false, false, false, false] rfl rfl (by kernel_rfl) (fun _ _ _ h => h) (Or.inl ⟨by rfl, ?_⟩) hHeld ?_ ?_
  · rintro w' ⟨s0, s1, s2, s3⟩
    exact ld_op 32 _ rfl X_175 rfl s0 Try.underlying32 rfl (by kernel_rfl) zJ.out
  rotate_left
  · simp only [Act.put, List.setIfInBounds_toArray, List.set_cons_zero, List.set_cons_succ, i64_w, i32_w]
    rfl
  refine take_ (i := 4) (N := (some 111)) (v := .agg J) (a' := ?_) #[true, true, true, true, true, false, false, false, false, false, false, false, false, false, false, false, false, false, false, false, false, false, false, false, false, false, false, false, false, false, false, false, false, false, false, false, false] rfl rfl (by kernel_rfl) (fun _ _ _ h => h) (Or.inl ⟨by rfl, ?_⟩) hHeld ?_ ?_
  · rintro w' ⟨s0, s1, s2, s3⟩
    exact ld_op 32 _ rfl X_227 rfl s1 Try.underlying32 rfl (by kernel_rfl) zJ.out
  rotate_left
  · simp only [Act.put, List.setIfInBounds_toArray, List.set_cons_zero, List.set_cons_succ, i64_w, i32_w]
    rfl
  refine pure_ (i := 5) (N := (some 112)) (v := ?_) (a' := ?_) #[true, true, true, true, true, true, false, false, false, false, false, false, false, false, false, false, false, false, false, false, false, false, false, false, false, false, false, false, false, false, false, false, false, false, false, false, false] rfl rfl (by kernel_rfl) (fun _ _ _ h => h) (Or.inl ⟨by rfl, ?_⟩) ?_ ?_
  rotate_left
  · intro w'
    go_simp
    with_reducible rfl
  rotate_left
  · simp only [Act.put, List.setIfInBounds_toArray, List.set_cons_zero, List.set_cons_succ, i64_w, i32_w]
    rfl
  refine pure_ (i := 6) (N := (some 113)) (v := ?_) (a' := ?_) #[true, true, true, true, true, true, true, false, false, false, false, false, false, false, false, false, false, false, false, false, false, false, false, false, false, false, false, false, false, false, false, false, false, false, false, false, false] rfl rfl (by kernel_rfl) (fun _ _ _ h => h) (Or.inl ⟨by rfl, ?_⟩) ?_ ?_
  rotate_left
  · intro w'
    go_simp
    with_reducible rfl
  rotate_left
  · simp only [Act.put, List.setIfInBounds_toArray, List.set_cons_zero, List.set_cons_succ, i64_w, i32_w]
    rfl
  refine pure_ (i := 7) (N := (some 114)) (v := ?_) (a' := ?_) #[true, true, true, true, true, true, true, true, false, false, false, false, false, false, false, false, false, false, false, false, false, false, false, false, false, false, false, false, false, false, false, false, false, false, false, false, false] rfl rfl (by kernel_rfl) (fun _ _ _ h => h) (Or.inl ⟨by rfl, ?_⟩) ?_ ?_
  rotate_left
  · intro w'
    go_simp
    with_reducible rfl
  rotate_left
  · simp only [Act.put, List.setIfInBounds_toArray, List.set_cons_zero, List.set_cons_succ, i64_w, i32_w]
    rfl
  refine take_ (i := 8) (N := (some 115)) (v := .agg J) (a' := ?_) #[true, true, true, true, true, true, true, true, true, false, false, false, false, false, false, false, false, false, false, false, false, false, false, false, false, false, false, false, false, false, false, false, false, false, false, false, false] rfl rfl (by kernel_rfl) (fun _ _ _ h => h) (Or.inl ⟨by rfl, ?_⟩) hHeld ?_ ?_
  · rintro w' ⟨s0, s1, s2, s3⟩
    exact ld_op 32 _ rfl X_175 rfl s0 Try.underlying32 rfl (by kernel_rfl) zJ.out
  rotate_left
  · simp only [Act.put, List.setIfInBounds_toArray, List.set_cons_zero, List.set_cons_succ, i64_w, i32_w]
    rfl
  refine pure_ (i := 10) (N := (some 117)) (v := ?_) (a' := ?_) #[true, true, true, true, true, true, true, true, true, false, true, false, false, false, false, false, false, false, false, false, false, false, false, false, false, false, false, false, false, false, false, false, false, false, false, false, false] rfl rfl (by kernel_rfl) (fun _ _ _ h => h) (Or.inl ⟨by rfl, ?_⟩) ?_ ?_
  rotate_left
  · intro w'
    go_simp
    with_reducible rfl
  rotate_left
  · simp only [Act.put, List.setIfInBounds_toArray, List.set_cons_zero, List.set_cons_succ, i64_w, i32_w]
    rfl
  refine pure_ (i := 11) (N := (some 118)) (v := ?_) (a' := ?_) #[true, true, true, true, true, true, true, true, true, false, true, true, false, false, false, false, false, false, false, false, false, false, false, false, false, false, false, false, false, false, false, false, false, false, false, false, false] rfl rfl (by kernel_rfl) (fun _ _ _ h => h) (Or.inl ⟨by rfl, ?_⟩) ?_ ?_
  rotate_left
  · intro w'
    go_simp
    with_reducible rfl
  rotate_left
  · simp only [Act.put, List.setIfInBounds_toArray, List.set_cons_zero, List.set_cons_succ, i64_w, i32_w]
    rfl
  refine take_ (i := 12) (N := (some 119)) (v := ?_) (a' := ?_) #[true, true, true, true, true, true, true, true, true, false, true, true, true, false, false, false, false, false, false, false, false, false, false, false, false, false, false, false, false, false, false, false, false, false, false, false, false] rfl rfl (by kernel_rfl) (fun _ _ _ h => h) (Or.inl ⟨by rfl, ?_⟩) hHeld ?_ ?_
  rotate_left
  · rintro w' ⟨s0, s1, s2, s3⟩
    go_simp
    with_reducible rfl
  rotate_left
  · simp only [Act.put, List.setIfInBounds_toArray, List.set_cons_zero, List.set_cons_succ, i64_w, i32_w]
    rfl
  refine pure_ (i := 13) (N := (some 120)) (v := ?_) (a' := ?_) #[true, true, true, true, true, true, true, true, true, false, true, true, true, true, false, false, false, false, false, false, false, false, false, false, false, false, false, false, false, false, false, false, false, false, false, false, false] rfl rfl (by kernel_rfl) (fun _ _ _ h => h) (Or.inl ⟨by rfl, ?_⟩) ?_ ?_
  rotate_left
  · intro w'
    go_simp
    with_reducible rfl
  rotate_left
  · simp only [Act.put, List.setIfInBounds_toArray, List.set_cons_zero, List.set_cons_succ, i64_w, i32_w]
    rfl
  refine pure_ (i := 14) (N := (some 121)) (v := ?_) (a' := ?_) #[true, true, true, true, true, true, true, true, true, false, true, true, true, true, true, false, false, false, false, false, false, false, false, false, false, false, false, false, false, false, false, false, false, false, false, false, false] rfl rfl (by kernel_rfl) (fun _ _ _ h => h) (Or.inl ⟨by rfl, ?_⟩) ?_ ?_
  rotate_left
  · intro w'
    go_simp
    with_reducible rfl
  rotate_left
  · simp only [Act.put, List.setIfInBounds_toArray, List.set_cons_zero, List.set_cons_succ, i64_w, i32_w]
    rfl
  refine pure_ (i := 15) (N := (some 122)) (v := ?_) (a' := ?_) #[true, true, true, true, true, true, true, true, true, false, true, true, true, true, true, true, false, false, false, false, false, false, false, false, false, false, false, false, false, false, false, false, false, false, false, false, false] rfl rfl (by kernel_rfl) (fun _ _ _ h => h) (Or.inl ⟨by rfl, ?_⟩) ?_ ?_
  rotate_left
  · intro w'
    go_simp
    with_reducible rfl
  rotate_left
  · simp only [Act.put, List.setIfInBounds_toArray, List.set_cons_zero, List.set_cons_succ, i64_w, i32_w]
    rfl
  refine one_ (i := 9) (N := (some 116)) #[true, true, true, true, true, true, true, true, true, true, true, true, true, true, true, true, false, false, false, false, false, false, false, false, false, false, false, false, false, false, false, false, false, false, false, false, false] rfl rfl (by kernel_rfl) (by decide) (fun K hK => ?_)
  refine goes_ Try.func13 (by kernel_rfl) rfl #[.agg J] (by rfl) rfl rfl (by (try simp only [List.map_toArray, List.map_cons, List.map_nil]); first | done | rfl) ?_
  refine (keyj_c _ _ KK _ _ _ _ _ _ _ _ _ _ eJ.out (by rw [eKK.out, bnd_ini, hpr.out]; rfl)).mono ?_
  rintro e Va ⟨rfl, hb4⟩
  have Hja := Lib.hid ((hb4.block X_175 (blk_lt H_233.out)).trans H_233.out)
  have Hva := Lib.hid ((hb4.block X_227 (blk_lt H_241.out)).trans H_241.out)
  have Hta := Lib.hid ((hb4.block X_185 (blk_lt H_235.out)).trans H_235.out)
  have HEa := Lib.hid ((HE_240.out.drew).trans (hb4.mono (sz_le hB0.out HE_240.out.size)))
  refine ⟨_, rfl, ?_⟩
  refine hK.out _ _ ⟨Hja.out, Hva.out, (blk_cell Hta.out 10).trans (by rw [eT.out, ← hpr.out]; rfl), (blk_cell Hta.out 2).trans (by rw [eT.out, ← hD.out]; rfl)⟩ (fun hHeld => ?_)
  clear hb4 H_233 H_241 H_235 HE_240
  clear hK K
  refine norm_ (a' := ?_) ?_ ?_
  rotate_left
  · show Act.put _ (some 116) _ = _
    simp only [Act.put, List.setIfInBounds_toArray, List.set_cons_zero, List.set_cons_succ, i64_w, i32_w]
    rfl
  refine pure_ (i := 16) (N := (some 123)) (v := ?_) (a' := ?_) #[true, true, true, true, true, true, true, true, true, true, true, true, true, true, true, true, true, false, false, false, false, false, false, false, false, false, false, false, false, false, false, false, false, false, false, false, false] rfl rfl (by kernel_rfl) (fun _ _ _ h => h) (Or.inl ⟨by rfl, ?_⟩) ?_ ?_
  rotate_left
  · intro w'
    go_simp
    with_reducible rfl
  rotate_left
  · simp only [Act.put, List.setIfInBounds_toArray, List.set_cons_zero, List.set_cons_succ, i64_w, i32_w]
    rfl
  refine pure_ (i := 17) (N := (some 124)) (v := ?_) (a' := ?_) #[true, true, true, true, true, true, true, true, true, true, true, true, true, true, true, true, true, true, false, false, false, false, false, false, false, false, false, false, false, false, false, false, false, false, false, false, false] rfl rfl (by kernel_rfl) (fun _ _ _ h => h) (Or.inl ⟨by rfl, ?_⟩) ?_ ?_
  rotate_left
  · intro w'
    go_simp
    with_reducible rfl
  rotate_left
  · simp only [Act.put, List.setIfInBounds_toArray, List.set_cons_zero, List.set_cons_succ, i64_w, i32_w]
    rfl
  refine pure_ (i := 18) (N := (some 125)) (v := ?_) (a' := ?_) #[true, true, true, true, true, true, true, true, true, true, true, true, true, true, true, true, true, true, true, false, false, false, false, false, false, false, false, false, false, false, false, false, false, false, false, false, false] rfl rfl (by kernel_rfl) (fun _ _ _ h => h) (Or.inl ⟨by rfl, ?_⟩) ?_ ?_
  rotate_left
  · intro w'
    go_simp
    with_reducible rfl
  rotate_left
  · simp only [Act.put, List.setIfInBounds_toArray, List.set_cons_zero, List.set_cons_succ, i64_w, i32_w]
    rfl
  refine take_ (i := 19) (N := (some 126)) (v := .agg J) (a' := ?_) #[true, true, true, true, true, true, true, true, true, true, true, true, true, true, true, true, true, true, true, true, false, false, false, false, false, false, false, false, false, false, false, false, false, false, false, false, false] rfl rfl (by kernel_rfl) (fun _ _ _ h => h) (Or.inl ⟨by rfl, ?_⟩) hHeld ?_ ?_
  · rintro w' ⟨s0, s1, s2, s3⟩
    exact ld_op 32 _ rfl X_175 rfl s0 Try.underlying32 rfl (by kernel_rfl) zJ.out
  rotate_left
  · simp only [Act.put, List.setIfInBounds_toArray, List.set_cons_zero, List.set_cons_succ, i64_w, i32_w]
    rfl
  refine pure_ (i := 20) (N := (some 127)) (v := ?_) (a' := ?_) #[true, true, true, true, true, true, true, true, true, true, true, true, true, true, true, true, true, true, true, true, true, false, false, false, false, false, false, false, false, false, false, false, false, false, false, false, false] rfl rfl (by kernel_rfl) (fun _ _ _ h => h) (Or.inl ⟨by rfl, ?_⟩) ?_ ?_
  rotate_left
  · intro w'
    go_simp
    with_reducible rfl
  rotate_left
  · simp only [Act.put, List.setIfInBounds_toArray, List.set_cons_zero, List.set_cons_succ, i64_w, i32_w]
    rfl
  refine pure_ (i := 21) (N := (some 128)) (v := ?_) (a' := ?_) #[true, true, true, true, true, true, true, true, true, true, true, true, true, true, true, true, true, true, true, true, true, true, false, false, false, false, false, false, false, false, false, false, false, false, false, false, false] rfl rfl (by kernel_rfl) (fun _ _ _ h => h) (Or.inl ⟨by rfl, ?_⟩) ?_ ?_
  rotate_left
  · intro w'
    go_simp
    with_reducible rfl
  rotate_left
  · simp only [Act.put, List.setIfInBounds_toArray, List.set_cons_zero, List.set_cons_succ, i64_w, i32_w]
    rfl
  refine take_ (i := 22) (N := (some 129)) (v := ?_) (a' := ?_) #[true, true, true, true, true, true, true, true, true, true, true, true, true, true, true, true, true, true, true, true, true, true, true, false, false, false, false, false, false, false, false, false, false, false, false, false, false] rfl rfl (by kernel_rfl) (fun _ _ _ h => h) (Or.inl ⟨by rfl, ?_⟩) hHeld ?_ ?_
  rotate_left
  · rintro w' ⟨s0, s1, s2, s3⟩
    go_simp
    with_reducible rfl
  rotate_left
  · simp only [Act.put, List.setIfInBounds_toArray, List.set_cons_zero, List.set_cons_succ, i64_w, i32_w]
    rfl
  refine pure_ (i := 23) (N := (some 130)) (v := ?_) (a' := ?_) #[true, true, true, true, true, true, true, true, true, true, true, true, true, true, true, true, true, true, true, true, true, true, true, true, false, false, false, false, false, false, false, false, false, false, false, false, false] rfl rfl (by kernel_rfl) (fun _ _ _ h => h) (Or.inl ⟨by rfl, ?_⟩) ?_ ?_
  rotate_left
  · intro w'
    go_simp
    with_reducible rfl
  rotate_left
  · simp only [Act.put, List.setIfInBounds_toArray, List.set_cons_zero, List.set_cons_succ, i64_w, i32_w]
    rfl
  refine one_ (i := 24) (N := (some 131)) #[true, true, true, true, true, true, true, true, true, true, true, true, true, true, true, true, true, true, true, true, true, true, true, true, true, false, false, false, false, false, false, false, false, false, false, false, false] rfl rfl (by kernel_rfl) (by decide) (fun K hK => ?_)
  refine goes_ Try.func14 (by kernel_rfl) rfl #[.agg J, .int .i64 (rel + D)] (by rfl) rfl rfl (by (try simp only [List.map_toArray, List.map_cons, List.map_nil]); first | done | rfl) ?_
  refine (late_b _ _ (rel + D) (rel + D) true hJ3.out (by simp)).mono ?_
  rintro e Vb ⟨rfl, hb4⟩
  have Hjb := Lib.hid ((hb4.block X_175 (blk_lt Hja.out)).trans Hja.out)
  have Hvb := Lib.hid ((hb4.block X_227 (blk_lt Hva.out)).trans Hva.out)
  have Htb := Lib.hid ((hb4.block X_185 (blk_lt Hta.out)).trans Hta.out)
  have HEb := Lib.hid ((HEa.out).trans (hb4.mono (sz_le hB0.out HEa.out.size)))
  refine ⟨_, rfl, ?_⟩
  refine hK.out _ _ ⟨Hjb.out, Hvb.out, (blk_cell Htb.out 10).trans (by rw [eT.out, ← hpr.out]; rfl), (blk_cell Htb.out 2).trans (by rw [eT.out, ← hD.out]; rfl)⟩ (fun hHeld => ?_)
  clear hb4 Hja Hva Hta HEa
  clear hK K
  refine norm_ (a' := ?_) ?_ ?_
  rotate_left
  · show Act.put _ (some 131) _ = _
    simp only [Act.put, List.setIfInBounds_toArray, List.set_cons_zero, List.set_cons_succ, i64_w, i32_w]
    rfl
  refine pure_ (i := 25) (N := (some 132)) (v := ?_) (a' := ?_) #[true, true, true, true, true, true, true, true, true, true, true, true, true, true, true, true, true, true, true, true, true, true, true, true, true, true, false, false, false, false, false, false, false, false, false, false, false] rfl rfl (by kernel_rfl) (fun _ _ _ h => h) (Or.inl ⟨by rfl, ?_⟩) ?_ ?_
  rotate_left
  · intro w'
    go_simp
    with_reducible rfl
  rotate_left
  · simp only [Act.put, List.setIfInBounds_toArray, List.set_cons_zero, List.set_cons_succ, i64_w, i32_w]
    rfl
  refine pure_ (i := 26) (N := (some 133)) (v := ?_) (a' := ?_) #[true, true, true, true, true, true, true, true, true, true, true, true, true, true, true, true, true, true, true, true, true, true, true, true, true, true, true, false, false, false, false, false, false, false, false, false, false] rfl rfl (by kernel_rfl) (fun _ _ _ h => h) (Or.inl ⟨by rfl, ?_⟩) ?_ ?_
  rotate_left
  · intro w'
    go_simp
    with_reducible rfl
  rotate_left
  · simp only [Act.put, List.setIfInBounds_toArray, List.set_cons_zero, List.set_cons_succ, i64_w, i32_w]
    rfl
  refine take_ (i := 27) (N := (some 134)) (v := .agg J) (a' := ?_) #[true, true, true, true, true, true, true, true, true, true, true, true, true, true, true, true, true, true, true, true, true, true, true, true, true, true, true, true, false, false, false, false, false, false, false, false, false] rfl rfl (by kernel_rfl) (fun _ _ _ h => h) (Or.inl ⟨by rfl, ?_⟩) hHeld ?_ ?_
  · rintro w' ⟨s0, s1, s2, s3⟩
    exact ld_op 32 _ rfl X_175 rfl s0 Try.underlying32 rfl (by kernel_rfl) zJ.out
  rotate_left
  · simp only [Act.put, List.setIfInBounds_toArray, List.set_cons_zero, List.set_cons_succ, i64_w, i32_w]
    rfl
  refine pure_ (i := 28) (N := (some 135)) (v := ?_) (a' := ?_) #[true, true, true, true, true, true, true, true, true, true, true, true, true, true, true, true, true, true, true, true, true, true, true, true, true, true, true, true, true, false, false, false, false, false, false, false, false] rfl rfl (by kernel_rfl) (fun _ _ _ h => h) (Or.inl ⟨by rfl, ?_⟩) ?_ ?_
  rotate_left
  · intro w'
    go_simp
    with_reducible rfl
  rotate_left
  · simp only [Act.put, List.setIfInBounds_toArray, List.set_cons_zero, List.set_cons_succ, i64_w, i32_w]
    rfl
  refine pure_ (i := 29) (N := (some 136)) (v := ?_) (a' := ?_) #[true, true, true, true, true, true, true, true, true, true, true, true, true, true, true, true, true, true, true, true, true, true, true, true, true, true, true, true, true, true, false, false, false, false, false, false, false] rfl rfl (by kernel_rfl) (fun _ _ _ h => h) (Or.inl ⟨by rfl, ?_⟩) ?_ ?_
  rotate_left
  · intro w'
    go_simp
    with_reducible rfl
  rotate_left
  · simp only [Act.put, List.setIfInBounds_toArray, List.set_cons_zero, List.set_cons_succ, i64_w, i32_w]
    rfl
  refine take_ (i := 30) (N := (some 137)) (v := ?_) (a' := ?_) #[true, true, true, true, true, true, true, true, true, true, true, true, true, true, true, true, true, true, true, true, true, true, true, true, true, true, true, true, true, true, true, false, false, false, false, false, false] rfl rfl (by kernel_rfl) (fun _ _ _ h => h) (Or.inl ⟨by rfl, ?_⟩) hHeld ?_ ?_
  rotate_left
  · rintro w' ⟨s0, s1, s2, s3⟩
    go_simp
    with_reducible rfl
  rotate_left
  · simp only [Act.put, List.setIfInBounds_toArray, List.set_cons_zero, List.set_cons_succ, i64_w, i32_w]
    rfl
  refine pure_ (i := 31) (N := (some 138)) (v := ?_) (a' := ?_) #[true, true, true, true, true, true, true, true, true, true, true, true, true, true, true, true, true, true, true, true, true, true, true, true, true, true, true, true, true, true, true, true, false, false, false, false, false] rfl rfl (by kernel_rfl) (fun _ _ _ h => h) (Or.inl ⟨by rfl, ?_⟩) ?_ ?_
  rotate_left
  · intro w'
    go_simp
    with_reducible rfl
  rotate_left
  · simp only [Act.put, List.setIfInBounds_toArray, List.set_cons_zero, List.set_cons_succ, i64_w, i32_w]
    rfl
  refine pure_ (i := 32) (N := (some 139)) (v := ?_) (a' := ?_) #[true, true, true, true, true, true, true, true, true, true, true, true, true, true, true, true, true, true, true, true, true, true, true, true, true, true, true, true, true, true, true, true, true, false, false, false, false] rfl rfl (by kernel_rfl) (fun _ _ _ h => h) (Or.inl ⟨by rfl, ?_⟩) ?_ ?_
  rotate_left
  · intro w'
    go_simp
    with_reducible rfl
  rotate_left
  · simp only [Act.put, List.setIfInBounds_toArray, List.set_cons_zero, List.set_cons_succ, i64_w, i32_w]
    rfl
  refine one_ (i := 33) (N := (some 140)) #[true, true, true, true, true, true, true, true, true, true, true, true, true, true, true, true, true, true, true, true, true, true, true, true, true, true, true, true, true, true, true, true, true, true, false, false, false] rfl rfl (by kernel_rfl) (by decide) (fun K hK => ?_)
  refine goes_ Try.func14 (by kernel_rfl) rfl #[.agg J, .int .i64 (rel + D - 1)] (by rfl) rfl rfl (by (try simp only [List.map_toArray, List.map_cons, List.map_nil]); first | done | rfl) ?_
  refine (late_b _ _ (rel + D) (rel + D - 1) false hJ3.out (by simp; omega)).mono ?_
  rintro e Vc ⟨rfl, hb4⟩
  have Hjc := Lib.hid ((hb4.block X_175 (blk_lt Hjb.out)).trans Hjb.out)
  have Hvc := Lib.hid ((hb4.block X_227 (blk_lt Hvb.out)).trans Hvb.out)
  have Htc := Lib.hid ((hb4.block X_185 (blk_lt Htb.out)).trans Htb.out)
  have HEc := Lib.hid ((HEb.out).trans (hb4.mono (sz_le hB0.out HEb.out.size)))
  refine ⟨_, rfl, ?_⟩
  refine hK.out _ _ ⟨Hjc.out, Hvc.out, (blk_cell Htc.out 10).trans (by rw [eT.out, ← hpr.out]; rfl), (blk_cell Htc.out 2).trans (by rw [eT.out, ← hD.out]; rfl)⟩ (fun hHeld => ?_)
  clear hb4 Hjb Hvb Htb HEb
  clear hK K
  refine norm_ (a' := ?_) ?_ ?_
  rotate_left
  · show Act.put _ (some 140) _ = _
    simp only [Act.put, List.setIfInBounds_toArray, List.set_cons_zero, List.set_cons_succ, i64_w, i32_w]
    rfl
  refine pure_ (i := 34) (N := (some 141)) (v := ?_) (a' := ?_) #[true, true, true, true, true, true, true, true, true, true, true, true, true, true, true, true, true, true, true, true, true, true, true, true, true, true, true, true, true, true, true, true, true, true, true, false, false] rfl rfl (by kernel_rfl) (fun _ _ _ h => h) (Or.inl ⟨by rfl, ?_⟩) ?_ ?_
  rotate_left
  · intro w'
    go_simp
    with_reducible rfl
  rotate_left
  · simp only [Act.put, List.setIfInBounds_toArray, List.set_cons_zero, List.set_cons_succ, i64_w, i32_w]
    rfl
  refine pure_ (i := 35) (N := (some 142)) (v := ?_) (a' := ?_) #[true, true, true, true, true, true, true, true, true, true, true, true, true, true, true, true, true, true, true, true, true, true, true, true, true, true, true, true, true, true, true, true, true, true, true, true, false] rfl rfl (by kernel_rfl) (fun _ _ _ h => h) (Or.inl ⟨by rfl, ?_⟩) ?_ ?_
  rotate_left
  · intro w'
    go_simp
    with_reducible rfl
  rotate_left
  · simp only [Act.put, List.setIfInBounds_toArray, List.set_cons_zero, List.set_cons_succ, i64_w, i32_w]
    rfl
  refine pure_ (i := 36) (N := (some 12)) (v := ?_) (a' := ?_) #[true, true, true, true, true, true, true, true, true, true, true, true, true, true, true, true, true, true, true, true, true, true, true, true, true, true, true, true, true, true, true, true, true, true, true, true, true] rfl rfl (by kernel_rfl) (fun _ _ _ h => h) (Or.inl ⟨by rfl, ?_⟩) ?_ ?_
  rotate_left
  · intro w'
    go_simp
    with_reducible rfl
  rotate_left
  · simp only [Act.put, List.setIfInBounds_toArray, List.set_cons_zero, List.set_cons_succ, i64_w, i32_w]
    rfl
  refine done_ (by kernel_rfl) ?_
  go_wp2
  go_ret
  exact ⟨rfl, by first | exact HEc.out | exact HEc.out.drew | exact pw_below_drewN HEc.out _⟩
set_option maxRecDepth 100000 in
set_option maxHeartbeats 6000000 in
theorem news_mid_true (w : World) (B : Int) (ad : Addr) (l : List S28) (cap : Nat) (hc : l.length ≤ cap) (hC : Kd.C k28 w (some ad) l.length l) (i no rel d C : Int) (hi : 0 ≤ i) (hi2 : i < (l.length : Int)) (hno : 0 ≤ no) (hrel : 0 ≤ rel) (hrel2 : rel ≤ 1099511627776) (hCe : (rd_T28 l i).f3 = C) (hd : ¬ d < 1) (hd2 : ¬ C < d) (hf : Ev (fun k => pendulumref05_Few.f k B l) true) (hr : Ev (fun k => pendulumref05_Right.f k B l) true) (ok : OkS B l) : Calls Try.prog 3 #[.agg #[.int .i64 B, .slice (some ad) l.length cap], .int .i64 i, .int .i64 no, .int .i64 rel, .int .i64 d, .bool true] w fun e w' => e = .returned (.bool true) ∧ Below w.heap.size w w' := by
  have q0 : decide (i < 0) = false := decide_eq_false (by omega)
  have q1 : decide ((l.length : Int) ≤ i) = false := decide_eq_false (by omega)
  have q2 : decide (no < 0) = false := decide_eq_false (by omega)
  have q3 : decide (rel < 0) = false := decide_eq_false (by omega)
  have q4 : decide (1099511627776 < rel) = false := decide_eq_false (by omega)
  have okt := (ok.2.2.2.2 i.toNat (by omega)).1
  rw [show ((i.toNat : Nat) : Int) = i by omega] at okt
  have hnum := okt.nums
  have hC1 : 1 ≤ C := by omega
  have hCx : C ≤ (rd_T28 l i).f3 := by omega
  obtain ⟨t, ht⟩ : ∃ t, rd_T28 l i = t := ⟨_, rfl⟩
  rw [ht] at hnum hCx okt hCe
  obtain ⟨D, hD⟩ : ∃ D, t.f2 = D := ⟨_, rfl⟩
  rw [hD] at hnum
  have hD1 : 1 ≤ D := by omega
  have hw : wrap64 (rel + D) = rel + D := w64 (by omega) (by omega)
  have hw' : wrap64 (rel + D - 1) = rel + D - 1 := w64 (by omega) (by omega)
  have qd : decide (d < 1) = false := decide_eq_false hd
  have qc : decide (C < d) = false := decide_eq_false hd2
  have hn : Hid (mn (mx d 1) t.f3 = d) := Lib.hid (by rw [hCe]; exact mn_mid hd hd2)
  have hv1 : Hid (1 ≤ (d : Int)) := Lib.hid (by omega)
  have hv2 : Hid ((d : Int) ≤ t.f3) := Lib.hid (by omega)
  have qov : decide (C < d) = false := decide_eq_false (by omega)
  have hov' : Hid (decide (d > (rd_T28 l i).f3) = false) := Lib.hid (by rw [ht, hCe]; exact qov)
  have hr1 : Hid (0 ≤ rel ∧ rel ≤ 1099511627776) := Lib.hid ⟨by omega, by omega⟩
  have hi1 : Hid (0 ≤ i ∧ i < (l.length : Int)) := Lib.hid ⟨by omega, by omega⟩
  have hno1 : Hid (0 ≤ no) := Lib.hid (by omega)
  have hii : i < (l.length : Int) := by omega
  have hi0 : 0 ≤ i := by omega
  clear hnum hCx hrel hrel2 hd hd2
  obtain ⟨Z, eZ⟩ : ∃ A : Array Value, A = #[.int .i64 0, .int .i64 0, .int .i64 0, .int .i64 0, .bool false, .bool false, .bool false, .string ⟨#[]⟩, .int .i64 0, .int .i64 0, .int .i64 0, .int .i64 0, .int .i64 0, .int .i64 0, .int .i64 0, .int .i64 0, .int .i64 0, .int .i64 0, .int .i64 0, .int .i64 0, .int .i64 0, .bool false, .int .i64 0] := ⟨_, rfl⟩
  have zZ : Hid (Z.size = 23) := Lib.hid (by rw [eZ]; rfl)
  have hz : ∀ V : World, (zeroValue 32).run Try.prog V = .ok (.agg Z) V := fun V => by rw [eZ]; kernel_rfl
  replace eZ := Lib.hid eZ
  obtain ⟨J, eJ⟩ : ∃ A, A = JP i no rel (rel + D) true false false ++ RA t (d : Int) (ini t d) := ⟨_, rfl⟩
  have zJ : Hid (J.size = 23) := Lib.hid (by rw [eJ]; exact JJ_size _ _ _ _ _ _ _ _ _ _)
  have oJ : Hid (J.all (·.oneCell') = true) := Lib.hid (by rw [eJ]; exact JJ_one _ _ _ _ _ _ _ _ _ _)
  replace eJ := Lib.hid eJ
  obtain ⟨R0, eR0⟩ : ∃ A, A = RA t (d : Int) ⟨0, 0, false, 0⟩ := ⟨_, rfl⟩
  have zR0 : Hid (R0.size = 16) := Lib.hid (by rw [eR0]; exact RA_size _ _ _)
  have oR0 : Hid (R0.all (·.oneCell') = true) := Lib.hid (by rw [eR0]; exact RA_one _ _ _)
  replace eR0 := Lib.hid eR0
  obtain ⟨R1, eR1⟩ : ∃ A, A = RA t (d : Int) (ini t d) := ⟨_, rfl⟩
  have zR1 : Hid (R1.size = 16) := Lib.hid (by rw [eR1]; exact RA_size _ _ _)
  have oR1 : Hid (R1.all (·.oneCell') = true) := Lib.hid (by rw [eR1]; exact RA_one _ _ _)
  replace eR1 := Lib.hid eR1
  obtain ⟨T, eT⟩ : ∃ A, A = TA t := ⟨_, rfl⟩
  have zT : Hid (T.size = 11) := Lib.hid (by rw [eT]; rfl)
  have oT : Hid (T.all (·.oneCell') = true) := Lib.hid (by rw [eT]; exact TA_one _)
  replace eT := Lib.hid eT
  obtain ⟨U, eU⟩ : ∃ A : Array Value, A = #[.string ⟨#[]⟩, .int .i64 0, .int .i64 0, .int .i64 0, .int .i64 0, .int .i64 0, .int .i64 0, .int .i64 0, .int .i64 0, .int .i64 0, .int .i64 0] := ⟨_, rfl⟩
  have zU : Hid (U.size = 11) := Lib.hid (by rw [eU]; rfl)
  have hzU : ∀ V : World, (zeroValue 28).run Try.prog V = .ok (.agg U) V := fun V => by rw [eU]; kernel_rfl
  replace eU := Lib.hid eU
  obtain ⟨Y, eY⟩ : ∃ A : Array Value, A = #[.string ⟨#[]⟩, .int .i64 0, .int .i64 0, .int .i64 0, .int .i64 0, .int .i64 0, .int .i64 0, .int .i64 0, .int .i64 0, .int .i64 0, .int .i64 0, .int .i64 0, .int .i64 0, .int .i64 0, .bool false, .int .i64 0] := ⟨_, rfl⟩
  have zY : Hid (Y.size = 16) := Lib.hid (by rw [eY]; rfl)
  have hzY : ∀ V : World, (zeroValue 30).run Try.prog V = .ok (.agg Y) V := fun V => by rw [eY]; kernel_rfl
  replace eY := Lib.hid eY
  obtain ⟨PJ, ePJ⟩ : ∃ P : Array Value, P = #[.int .i64 i, .int .i64 no, .int .i64 rel, .int .i64 (rel + D), .bool true, .bool false, .bool false] := ⟨_, rfl⟩
  have hPJ : Hid (PJ ++ R1 = J) := Lib.hid (by rw [ePJ, eR1.out, eJ.out]; rfl)
  replace ePJ := Lib.hid ePJ
  obtain ⟨pr, hpr⟩ : ∃ p, t.f10 = p := ⟨_, rfl⟩
  replace hpr := Lib.hid hpr
  obtain ⟨KK, eKK⟩ : ∃ A : Array Value, A = #[.int .i64 1, .int .i64 pr, .int .i64 rel, .int .i64 i] := ⟨_, rfl⟩
  replace eKK := Lib.hid eKK
  have hjj : Hid (∀ W : World, (binOp .eql 32 (.agg J) (.agg J)).run Try.prog W = .ok (.bool true) W) := Lib.hid (fun W => eq_job W J _ _ _ _ _ _ _ _ _ _ eJ.out)
  have hjg : Hid (∀ (a b : Operand) (W : World), (eqGuard .eql 32 a b (.agg J) (.agg J)).run Try.prog W = .ok () W) := Lib.hid (fun a b W => run_eqGuard_agg W .eql 32 a b _ _ (by kernel_rfl))
  have hkk : Hid (∀ W : World, (binOp .eql 38 (.agg KK) (.agg #[.int .i64 1, .int .i64 pr, .int .i64 rel, .int .i64 i])).run Try.prog W = .ok (.bool true) W) := Lib.hid (fun W => by rw [eKK.out, key_cmp]; simp)
  have hkg : Hid (∀ (a b : Operand) (W : World), (eqGuard .eql 38 a b (.agg KK) (.agg #[.int .i64 1, .int .i64 pr, .int .i64 rel, .int .i64 i])).run Try.prog W = .ok () W) := Lib.hid (fun a b W => run_eqGuard_agg W .eql 38 a b _ _ (by kernel_rfl))
  have hJ3 : Hid (J[3]? = some (.int .i64 (rel + D))) := Lib.hid (by rw [eJ.out]; exact JJ_at _ _ _ _ _ _ _ _ _ _ 3 (by decide))
  have NJ := Lib.hid (fun (W : World) (hW : Below w.heap.size w W) (A0 : Array Value) (eA0 : A0 = #[.int .i64 B, .slice (some ad) l.length cap]) => new_c (B := B) (cap := cap) (x := d) (n := d) (must := true) (Kd.C_below hC hW) hi1.out.1 hi1.out.2 hno1.out hr1.out.1 hr1.out.2 (by rw [ht]; exact okt) (by rw [ht]; exact hn.out) A0 J eA0 (by rw [hov'.out, ht, hD]; exact eJ.out))
  have hrow := Lib.hid (fun (W : World) (B0 : Nat) (h0 : w.heap.size = B0) (hW : Below B0 w W) => row_at4 hC h0 hW hi1.out.1 hi1.out.2 T (by rw [ht]; exact eT.out))
  replace ht := Lib.hid ht
  replace okt := Lib.hid okt
  replace ok := Lib.hid ok
  replace hD := Lib.hid hD
  replace hCe := Lib.hid hCe
  obtain ⟨A0, eA0⟩ : ∃ A0 : Array Value, A0 = #[.int .i64 B, .slice (some ad) l.length cap] := ⟨_, rfl⟩
  rw [← eA0]
  have zA0 : Hid (A0.size = 2) := Lib.hid (by rw [eA0]; rfl)
  replace eA0 := Lib.hid eA0
  obtain ⟨B0, hB0⟩ : ∃ B, w.heap.size = B := ⟨_, rfl⟩
  rw [hB0]
  obtain ⟨V0, hV0⟩ : ∃ V, w.alloc (.cells A0 24) = V := ⟨_, rfl⟩
  have Hs : Hid (V0.heap[B0]? = some (.cells A0 24 (0, 0))) := Lib.hid (by rw [← hV0]; exact (box_new hB0).1)
  have HE : Hid (Below B0 w V0) := Lib.hid (by rw [← hV0, ← hB0]; exact (Below.refl _ _).alloc (Nat.le_refl _) _)
  go_enter Try.func3, Try.ntmps3
  go_upto_region 1 with (fail)
  replace hB0 := Lib.hid hB0
  replace hV0 := Lib.hid hV0
  go_wp2_with fail
  refine (aw_c _).mono ?_; rintro e V_325 ⟨rfl, hb_326⟩
  have H_327 : Hid (V_325.heap[B0]? = some (.cells A0 24 (0, 0))) := Lib.hid ((hb_326.block B0 (blk_lt Hs.out)).trans Hs.out)
  have HE_328 : Hid (Below B0 w V_325) := Lib.hid (HE.out.trans (hb_326.mono (sz_le hB0.out HE.out.size)))
  clear HE Hs
  clear hb_326
  go_wp2_with (first | ((with_reducible refine wpl_gate (T := 24) rfl ?_); refine wpl_ld _ _ rfl (by rfl) B0 rfl H_327.out Try.underlying24 rfl (by kernel_rfl) zA0.out ?_))
  refine (few_c hf hC hc hB0.out HE_328.out _ eA0.out).mono ?_; rintro e V_329 ⟨rfl, hb_330⟩
  have H_331 : Hid (V_329.heap[B0]? = some (.cells A0 24 (0, 0))) := Lib.hid ((hb_330.block B0 (blk_lt H_327.out)).trans H_327.out)
  have HE_332 : Hid (Below B0 w V_329) := Lib.hid (HE_328.out.trans (hb_330.mono (sz_le hB0.out HE_328.out.size)))
  clear HE_328 H_327
  clear hb_330
  go_wp2_with (first | ((with_reducible refine wpl_gate (T := 24) rfl ?_); refine wpl_ld _ _ rfl (by rfl) B0 rfl H_331.out Try.underlying24 rfl (by kernel_rfl) zA0.out ?_))
  refine (right_c hr hC hc hB0.out HE_332.out _ eA0.out).mono ?_; rintro e V_333 ⟨rfl, hb_334⟩
  have H_335 : Hid (V_333.heap[B0]? = some (.cells A0 24 (0, 0))) := Lib.hid ((hb_334.block B0 (blk_lt H_331.out)).trans H_331.out)
  have HE_336 : Hid (Below B0 w V_333) := Lib.hid (HE_332.out.trans (hb_334.mono (sz_le hB0.out HE_332.out.size)))
  clear HE_332 H_331
  clear hb_334
  go_wp2_with (first | ((with_reducible refine wpl_gate (T := 24) rfl ?_); refine wpl_ld _ _ rfl (by rfl) B0 rfl H_335.out Try.underlying24 rfl (by kernel_rfl) zA0.out ?_))
  refine (NJ.out _ (below_to hB0.out HE_336.out) _ eA0.out).mono ?_; rintro e V_337 ⟨rfl, hb_338⟩
  have H_339 : Hid (V_337.heap[B0]? = some (.cells A0 24 (0, 0))) := Lib.hid ((hb_338.block B0 (blk_lt H_335.out)).trans H_335.out)
  have HE_340 : Hid (Below B0 w V_337) := Lib.hid (HE_336.out.trans (hb_338.mono (sz_le hB0.out HE_336.out.size)))
  clear HE_336 H_335
  clear hb_338
  obtain ⟨X_341, hX_343⟩ : ∃ X, V_337.heap.size = X := ⟨_, rfl⟩
  obtain ⟨V_342, q_344_0, q_344_1, q_344_2, q_344_3⟩ := st_new (w := V_337) (T := 32) hX_343 zZ.out zJ.out oJ.out
  have ne_346 : B0 < X_341 := hX_343 ▸ blk_lt H_339.out
  have H_345 : Hid (V_342.heap[B0]? = some (.cells A0 24 (0, 0))) := Lib.hid ((q_344_2 _ ne_346).trans H_339.out)
  have ge_347 : B0 ≤ X_341 := hX_343 ▸ (sz_le hB0.out HE_340.out.size)
  have HE_348 : Hid (Below B0 w V_342) := Lib.hid (q_344_3 _ _ ge_347 HE_340.out)
  have H_349 := Lib.hid q_344_1
  clear q_344_1 q_344_2 q_344_3
  go_upto_region 4 with (fail)
  clear q_344_0 hX_343
  clear HE_340 H_339
  have c_350 : V_342.cell? ⟨B0, 1, none⟩ = some (.slice (some ad) l.length cap) := by rw [blk_cell H_345.out, eA0.out]; rfl
  go_upto_region 6 with (fail)
  obtain ⟨X_351, hX_353⟩ : ∃ X, V_342.heap.size = X := ⟨_, rfl⟩
  obtain ⟨V_352, q_354_0, q_354_1, q_354_2, q_354_3⟩ := st_new (w := V_342) (T := 28) hX_353 zU.out zT.out oT.out
  have ne_356 : B0 < X_351 := hX_353 ▸ blk_lt H_345.out
  have H_355 : Hid (V_352.heap[B0]? = some (.cells A0 24 (0, 0))) := Lib.hid ((q_354_2 _ ne_356).trans H_345.out)
  have ne_358 : X_341 < X_351 := hX_353 ▸ blk_lt H_349.out
  have H_357 : Hid (V_352.heap[X_341]? = some (.cells J 32 (0, 0))) := Lib.hid ((q_354_2 _ ne_358).trans H_349.out)
  have ge_359 : B0 ≤ X_351 := hX_353 ▸ (sz_le hB0.out HE_348.out.size)
  have HE_360 : Hid (Below B0 w V_352) := Lib.hid (q_354_3 _ _ ge_359 HE_348.out)
  have H_361 := Lib.hid q_354_1
  clear q_354_1 q_354_2 q_354_3
  go_upto_region 7 with (first | ((with_reducible refine wpl_gate (T := 28) rfl ?_); refine wpl_ldr _ _ rfl (by rfl) (ad.add (i.toNat * 11)) rfl (hrow.out _ _ hB0.out HE_348.out) Try.underlying28 rfl (by kernel_rfl) zT.out ?_))
  clear q_354_0 hX_353
  clear c_350
  clear HE_348 H_345 H_349
  have c_362 : V_352.cell? ⟨X_351, 3, none⟩ = some (.int .i64 C) := by rw [blk_cell H_361.out, eT.out, ← hCe.out]; rfl
  go_upto_region 12 with (fail)
  clear c_362
  obtain ⟨X_363, hX_365⟩ : ∃ X, V_352.heap.size = X := ⟨_, rfl⟩
  obtain ⟨V_364, q_366_0, q_366_1, q_366_2, q_366_3⟩ := st_new (w := V_352) (T := 30) hX_365 zY.out zR0.out oR0.out
  have ne_368 : B0 < X_363 := hX_365 ▸ blk_lt H_355.out
  have H_367 : Hid (V_364.heap[B0]? = some (.cells A0 24 (0, 0))) := Lib.hid ((q_366_2 _ ne_368).trans H_355.out)
  have ne_370 : X_341 < X_363 := hX_365 ▸ blk_lt H_357.out
  have H_369 : Hid (V_364.heap[X_341]? = some (.cells J 32 (0, 0))) := Lib.hid ((q_366_2 _ ne_370).trans H_357.out)
  have ne_372 : X_351 < X_363 := hX_365 ▸ blk_lt H_361.out
  have H_371 : Hid (V_364.heap[X_351]? = some (.cells T 28 (0, 0))) := Lib.hid ((q_366_2 _ ne_372).trans H_361.out)
  have ge_373 : B0 ≤ X_363 := hX_365 ▸ (sz_le hB0.out HE_360.out.size)
  have HE_374 : Hid (Below B0 w V_364) := Lib.hid (q_366_3 _ _ ge_373 HE_360.out)
  have H_375 := Lib.hid q_366_1
  clear q_366_1 q_366_2 q_366_3
  go_upto_region 13 with (first | ((with_reducible refine wpl_gate (T := 28) rfl ?_); refine wpl_ld _ _ rfl (by rfl) X_351 rfl H_361.out Try.underlying28 rfl (by kernel_rfl) zT.out ?_) | ((with_reducible refine wpl_gateb (T := 30) rfl ?_); refine wpl_bld 30 _ rfl (by rfl) (run_built t d T eT.out (by simp [go_sem]) eR0.out) ?_))
  clear q_366_0 hX_365
  clear HE_360 H_355 H_357 H_361
  go_wp2_with (first | ((with_reducible refine wpl_gate (T := 30) rfl ?_); refine wpl_ld _ _ rfl (by rfl) X_363 rfl H_375.out Try.underlying30 rfl (by kernel_rfl) zR0.out ?_))
  refine (length_c _ t d ⟨0, 0, false, 0⟩ _ eR0.out okt.out hv1.out hv2.out (.inr (len_pos okt.out hv1.out)) (rd (pt t d) (0 : Nat)) (by unfold lenv; rw [if_neg (fun h => by cases h.2)])).mono ?_; rintro e V_376 ⟨rfl, hb_377⟩
  have H_378 : Hid (V_376.heap[B0]? = some (.cells A0 24 (0, 0))) := Lib.hid ((hb_377.block B0 (blk_lt H_367.out)).trans H_367.out)
  have H_379 : Hid (V_376.heap[X_341]? = some (.cells J 32 (0, 0))) := Lib.hid ((hb_377.block X_341 (blk_lt H_369.out)).trans H_369.out)
  have H_380 : Hid (V_376.heap[X_351]? = some (.cells T 28 (0, 0))) := Lib.hid ((hb_377.block X_351 (blk_lt H_371.out)).trans H_371.out)
  have H_381 : Hid (V_376.heap[X_363]? = some (.cells R0 30 (0, 0))) := Lib.hid ((hb_377.block X_363 (blk_lt H_375.out)).trans H_375.out)
  have HE_382 : Hid (Below B0 w V_376) := Lib.hid (HE_374.out.trans (hb_377.mono (sz_le hB0.out HE_374.out.size)))
  clear HE_374 H_367 H_369 H_371 H_375
  clear hb_377
  have cp_384 : V_376.cell? ⟨X_363, 13, none⟩ = some (.int .i64 0) := by rw [blk_cell H_381.out]; exact (by rw [eR0.out]; simp [RA, TA])
  have zp_385 : V_376.frozen? ⟨X_363, 13, none⟩ = false := blk_frozen H_381.out 13
  go_upto_region 14 with (fail)
  have H_386 : Hid ((V_376.setCell ⟨X_363, 13, none⟩ (.int .i64 (rd (pt t d) ((0 : Nat) : Int)))).heap[B0]? = some (.cells A0 24 (0, 0))) := Lib.hid (blk_far H_378.out (Nat.ne_of_lt ne_368) _)
  have H_387 : Hid ((V_376.setCell ⟨X_363, 13, none⟩ (.int .i64 (rd (pt t d) ((0 : Nat) : Int)))).heap[X_341]? = some (.cells J 32 (0, 0))) := Lib.hid (blk_far H_379.out (Nat.ne_of_lt ne_370) _)
  have H_388 : Hid ((V_376.setCell ⟨X_363, 13, none⟩ (.int .i64 (rd (pt t d) ((0 : Nat) : Int)))).heap[X_351]? = some (.cells T 28 (0, 0))) := Lib.hid (blk_far H_380.out (Nat.ne_of_lt ne_372) _)
  have H_389 : Hid ((V_376.setCell ⟨X_363, 13, none⟩ (.int .i64 (rd (pt t d) ((0 : Nat) : Int)))).heap[X_363]? = some (.cells R1 30 (0, 0))) := Lib.hid (blk_put H_381.out 13 _ (by rw [eR0.out, eR1.out]; simp [RA, TA, ini]))
  have HE_390 : Hid (Below B0 w (V_376.setCell ⟨X_363, 13, none⟩ (.int .i64 (rd (pt t d) ((0 : Nat) : Int))))) := Lib.hid (HE_382.out.setCell (p := ⟨X_363, 13, none⟩) ge_373 _)
  clear cp_384 zp_385
  generalize (V_376.setCell ⟨X_363, 13, none⟩ (.int .i64 (rd (pt t d) ((0 : Nat) : Int)))) = V_383 at H_386 H_387 H_388 H_389 HE_390 ⊢
  clear HE_382 H_378 H_379 H_380 H_381
  have c_391 : V_383.cell? ⟨X_351, 2, none⟩ = some (.int .i64 D) := by rw [blk_cell H_388.out, eT.out, ← hD.out]; rfl
  have c_392 : V_383.cell? ⟨X_351, 3, none⟩ = some (.int .i64 C) := by rw [blk_cell H_388.out, eT.out, ← hCe.out]; rfl
  obtain ⟨X_393, hX_395⟩ : ∃ X, V_383.heap.size = X := ⟨_, rfl⟩
  obtain ⟨V_394, q_396_0, q_396_1, q_396_2, q_396_3⟩ := st_new (w := V_383) (T := 32) hX_395 zZ.out zJ.out oJ.out
  have ne_398 : B0 < X_393 := hX_395 ▸ blk_lt H_386.out
  have H_397 : Hid (V_394.heap[B0]? = some (.cells A0 24 (0, 0))) := Lib.hid ((q_396_2 _ ne_398).trans H_386.out)
  have ne_400 : X_341 < X_393 := hX_395 ▸ blk_lt H_387.out
  have H_399 : Hid (V_394.heap[X_341]? = some (.cells J 32 (0, 0))) := Lib.hid ((q_396_2 _ ne_400).trans H_387.out)
  have ne_402 : X_351 < X_393 := hX_395 ▸ blk_lt H_388.out
  have H_401 : Hid (V_394.heap[X_351]? = some (.cells T 28 (0, 0))) := Lib.hid ((q_396_2 _ ne_402).trans H_388.out)
  have ne_404 : X_363 < X_393 := hX_395 ▸ blk_lt H_389.out
  have H_403 : Hid (V_394.heap[X_363]? = some (.cells R1 30 (0, 0))) := Lib.hid ((q_396_2 _ ne_404).trans H_389.out)
  have ge_405 : B0 ≤ X_393 := hX_395 ▸ (sz_le hB0.out HE_390.out.size)
  have HE_406 : Hid (Below B0 w V_394) := Lib.hid (q_396_3 _ _ ge_405 HE_390.out)
  have H_407 := Lib.hid q_396_1
  clear q_396_1 q_396_2 q_396_3
  go_upto_region 15 with (first | ((with_reducible refine wpl_gate (T := 30) rfl ?_); refine wpl_ld _ _ rfl (by rfl) X_363 rfl H_389.out Try.underlying30 rfl (by kernel_rfl) zR1.out ?_) | ((with_reducible refine wpl_gateb (T := 32) rfl ?_); refine wpl_bld 32 _ rfl (by rfl) (job_built i no rel (rel + D) true false R1 zR1.out ePJ.out hPJ.out (by simp [go_sem, hw])) ?_))
  clear q_396_0 hX_395
  clear c_391 c_392
  clear HE_390 H_386 H_387 H_388 H_389
  go_upto_region 18 with (fail)
  have hwi : IntKind.i64.wrap (rel + D) = rel + D := by rw [i64_w]; exact hw
  have hwi' : IntKind.i64.wrap (rel + D - 1) = rel + D - 1 := by rw [i64_w]; exact hw'
  have hjj' := hjj.out
  have hjg' := hjg.out
  have hkk' := hkk.out
  have hkg' := hkg.out
  refine start_ (n := 37) (S := fun w' => w'.heap[X_341]? = some (.cells J 32 (0, 0)) ∧ w'.heap[X_393]? = some (.cells J 32 (0, 0)) ∧ w'.cell? ⟨X_351, 10, none⟩ = some (.int .i64 pr) ∧ w'.cell? ⟨X_351, 2, none⟩ = some (.int .i64 D)) (ds := []) #[false, false, false, false, false, false, false, false, false, false, false, false, false, false, false, false, false, false, false, false, false, false, false, false, false, false, false, false, false, false, false, false, false, false, false, false, false] (by kernel_rfl) rfl rfl ⟨H_399.out, H_407.out, (blk_cell H_401.out 10).trans (by rw [eT.out, ← hpr.out]; rfl), (blk_cell H_401.out 2).trans (by rw [eT.out, ← hD.out]; rfl)⟩ (fun hHeld => ?_)
  refine pure_ (i := 0) (N := (some 107)) (v := ?_) (a' := ?_) #[true, false, false, false, false, false, false, false, false, false, false, false, false, false, false, false, false, false, false, false, false, false, false, false, false, false, false, false, false, false, false, false, false, false, false, false, false] rfl rfl (by kernel_rfl) (fun _ _ _ h => h) (Or.inl ⟨by rfl, ?_⟩) ?_ ?_
  rotate_left
  · intro w'
    go_simp
    with_reducible rfl
  rotate_left
  · simp only [Act.put, List.setIfInBounds_toArray, List.set_cons_zero, List.set_cons_succ, i64_w, i32_w]
    rfl
  refine pure_ (i := 1) (N := (some 108)) (v := ?_) (a' := ?_) #[true, true, false, false, false, false, false, false, false, false, false, false, false, false, false, false, false, false, false, false, false, false, false, false, false, false, false, false, false, false, false, false, false, false, false, false, false] rfl rfl (by kernel_rfl) (fun _ _ _ h => h) (Or.inl ⟨by rfl, ?_⟩) ?_ ?_
  rotate_left
  · intro w'
    go_simp
    with_reducible rfl
  rotate_left
  · simp only [Act.put, List.setIfInBounds_toArray, List.set_cons_zero, List.set_cons_succ, i64_w, i32_w]
    rfl
  refine pure_ (i := 2) (N := (some 109)) (v := ?_) (a' := ?_) #[true, true, true, false, false, false, false, false, false, false, false, false, false, false, false, false, false, false, false, false, false, false, false, false, false, false, false, false, false, false, false, false, false, false, false, false, false] rfl rfl (by kernel_rfl) (fun _ _ _ h => h) (Or.inl ⟨by rfl, ?_⟩) ?_ ?_
  rotate_left
  · intro w'
    go_simp
    with_reducible rfl
  rotate_left
  · simp only [Act.put, List.setIfInBounds_toArray, List.set_cons_zero, List.set_cons_succ, i64_w, i32_w]
    rfl
  refine take_ (i := 3) (N := (some 110)) (v := .agg J) (a' := ?_) #[true, true, true, true, false, false, false, false, false, false, false, false, false, false, false, false, false, false, false, false, false, false, false, false, false, false, false, false, false, false, false, false, false, false, false, false, false] rfl rfl (by kernel_rfl) (fun _ _ _ h => h) (Or.inl ⟨by rfl, ?_⟩) hHeld ?_ ?_
  · rintro w' ⟨s0, s1, s2, s3⟩
    exact ld_op 32 _ rfl X_341 rfl s0 Try.underlying32 rfl (by kernel_rfl) zJ.out
  rotate_left
  · simp only [Act.put, List.setIfInBounds_toArray, List.set_cons_zero, List.set_cons_succ, i64_w, i32_w]
    rfl
  refine take_ (i := 4) (N := (some 111)) (v := .agg J) (a' := ?_) #[true, true, true, true, true, false, false, false, false, false, false, false, false, false, false, false, false, false, false, false, false, false, false, false, false, false, false, false, false, false, false, false, false, false, false, false, false] rfl rfl (by kernel_rfl) (fun _ _ _ h => h) (Or.inl ⟨by rfl, ?_⟩) hHeld ?_ ?_
  · rintro w' ⟨s0, s1, s2, s3⟩
    exact ld_op 32 _ rfl X_393 rfl s1 Try.underlying32 rfl (by kernel_rfl) zJ.out
  rotate_left
  · simp only [Act.put, List.setIfInBounds_toArray, List.set_cons_zero, List.set_cons_succ, i64_w, i32_w]
    rfl
  refine pure_ (i := 5) (N := (some 112)) (v := ?_) (a' := ?_) #[true, true, true, true, true, true, false, false, false, false, false, false, false, false, false, false, false, false, false, false, false, false, false, false, false, false, false, false, false, false, false, false, false, false, false, false, false] rfl rfl (by kernel_rfl) (fun _ _ _ h => h) (Or.inl ⟨by rfl, ?_⟩) ?_ ?_
  rotate_left
  · intro w'
    go_simp
    with_reducible rfl
  rotate_left
  · simp only [Act.put, List.setIfInBounds_toArray, List.set_cons_zero, List.set_cons_succ, i64_w, i32_w]
    rfl
  refine pure_ (i := 6) (N := (some 113)) (v := ?_) (a' := ?_) #[true, true, true, true, true, true, true, false, false, false, false, false, false, false, false, false, false, false, false, false, false, false, false, false, false, false, false, false, false, false, false, false, false, false, false, false, false] rfl rfl (by kernel_rfl) (fun _ _ _ h => h) (Or.inl ⟨by rfl, ?_⟩) ?_ ?_
  rotate_left
  · intro w'
    go_simp
    with_reducible rfl
  rotate_left
  · simp only [Act.put, List.setIfInBounds_toArray, List.set_cons_zero, List.set_cons_succ, i64_w, i32_w]
    rfl
  refine pure_ (i := 7) (N := (some 114)) (v := ?_) (a' := ?_) #[true, true, true, true, true, true, true, true, false, false, false, false, false, false, false, false, false, false, false, false, false, false, false, false, false, false, false, false, false, false, false, false, false, false, false, false, false] rfl rfl (by kernel_rfl) (fun _ _ _ h => h) (Or.inl ⟨by rfl, ?_⟩) ?_ ?_
  rotate_left
  · intro w'
    go_simp
    with_reducible rfl
  rotate_left
  · simp only [Act.put, List.setIfInBounds_toArray, List.set_cons_zero, List.set_cons_succ, i64_w, i32_w]
    rfl
  refine take_ (i := 8) (N := (some 115)) (v := .agg J) (a' := ?_) #[true, true, true, true, true, true, true, true, true, false, false, false, false, false, false, false, false, false, false, false, false, false, false, false, false, false, false, false, false, false, false, false, false, false, false, false, false] rfl rfl (by kernel_rfl) (fun _ _ _ h => h) (Or.inl ⟨by rfl, ?_⟩) hHeld ?_ ?_
  · rintro w' ⟨s0, s1, s2, s3⟩
    exact ld_op 32 _ rfl X_341 rfl s0 Try.underlying32 rfl (by kernel_rfl) zJ.out
  rotate_left
  · simp only [Act.put, List.setIfInBounds_toArray, List.set_cons_zero, List.set_cons_succ, i64_w, i32_w]
    rfl
  refine pure_ (i := 10) (N := (some 117)) (v := ?_) (a' := ?_) #[true, true, true, true, true, true, true, true, true, false, true, false, false, false, false, false, false, false, false, false, false, false, false, false, false, false, false, false, false, false, false, false, false, false, false, false, false] rfl rfl (by kernel_rfl) (fun _ _ _ h => h) (Or.inl ⟨by rfl, ?_⟩) ?_ ?_
  rotate_left
  · intro w'
    go_simp
    with_reducible rfl
  rotate_left
  · simp only [Act.put, List.setIfInBounds_toArray, List.set_cons_zero, List.set_cons_succ, i64_w, i32_w]
    rfl
  refine pure_ (i := 11) (N := (some 118)) (v := ?_) (a' := ?_) #[true, true, true, true, true, true, true, true, true, false, true, true, false, false, false, false, false, false, false, false, false, false, false, false, false, false, false, false, false, false, false, false, false, false, false, false, false] rfl rfl (by kernel_rfl) (fun _ _ _ h => h) (Or.inl ⟨by rfl, ?_⟩) ?_ ?_
  rotate_left
  · intro w'
    go_simp
    with_reducible rfl
  rotate_left
  · simp only [Act.put, List.setIfInBounds_toArray, List.set_cons_zero, List.set_cons_succ, i64_w, i32_w]
    rfl
  refine take_ (i := 12) (N := (some 119)) (v := ?_) (a' := ?_) #[true, true, true, true, true, true, true, true, true, false, true, true, true, false, false, false, false, false, false, false, false, false, false, false, false, false, false, false, false, false, false, false, false, false, false, false, false] rfl rfl (by kernel_rfl) (fun _ _ _ h => h) (Or.inl ⟨by rfl, ?_⟩) hHeld ?_ ?_
  rotate_left
  · rintro w' ⟨s0, s1, s2, s3⟩
    go_simp
    with_reducible rfl
  rotate_left
  · simp only [Act.put, List.setIfInBounds_toArray, List.set_cons_zero, List.set_cons_succ, i64_w, i32_w]
    rfl
  refine pure_ (i := 13) (N := (some 120)) (v := ?_) (a' := ?_) #[true, true, true, true, true, true, true, true, true, false, true, true, true, true, false, false, false, false, false, false, false, false, false, false, false, false, false, false, false, false, false, false, false, false, false, false, false] rfl rfl (by kernel_rfl) (fun _ _ _ h => h) (Or.inl ⟨by rfl, ?_⟩) ?_ ?_
  rotate_left
  · intro w'
    go_simp
    with_reducible rfl
  rotate_left
  · simp only [Act.put, List.setIfInBounds_toArray, List.set_cons_zero, List.set_cons_succ, i64_w, i32_w]
    rfl
  refine pure_ (i := 14) (N := (some 121)) (v := ?_) (a' := ?_) #[true, true, true, true, true, true, true, true, true, false, true, true, true, true, true, false, false, false, false, false, false, false, false, false, false, false, false, false, false, false, false, false, false, false, false, false, false] rfl rfl (by kernel_rfl) (fun _ _ _ h => h) (Or.inl ⟨by rfl, ?_⟩) ?_ ?_
  rotate_left
  · intro w'
    go_simp
    with_reducible rfl
  rotate_left
  · simp only [Act.put, List.setIfInBounds_toArray, List.set_cons_zero, List.set_cons_succ, i64_w, i32_w]
    rfl
  refine pure_ (i := 15) (N := (some 122)) (v := ?_) (a' := ?_) #[true, true, true, true, true, true, true, true, true, false, true, true, true, true, true, true, false, false, false, false, false, false, false, false, false, false, false, false, false, false, false, false, false, false, false, false, false] rfl rfl (by kernel_rfl) (fun _ _ _ h => h) (Or.inl ⟨by rfl, ?_⟩) ?_ ?_
  rotate_left
  · intro w'
    go_simp
    with_reducible rfl
  rotate_left
  · simp only [Act.put, List.setIfInBounds_toArray, List.set_cons_zero, List.set_cons_succ, i64_w, i32_w]
    rfl
  refine one_ (i := 9) (N := (some 116)) #[true, true, true, true, true, true, true, true, true, true, true, true, true, true, true, true, false, false, false, false, false, false, false, false, false, false, false, false, false, false, false, false, false, false, false, false, false] rfl rfl (by kernel_rfl) (by decide) (fun K hK => ?_)
  refine goes_ Try.func13 (by kernel_rfl) rfl #[.agg J] (by rfl) rfl rfl (by (try simp only [List.map_toArray, List.map_cons, List.map_nil]); first | done | rfl) ?_
  refine (keyj_c _ _ KK _ _ _ _ _ _ _ _ _ _ eJ.out (by rw [eKK.out, bnd_ini, hpr.out]; rfl)).mono ?_
  rintro e Va ⟨rfl, hb4⟩
  have Hja := Lib.hid ((hb4.block X_341 (blk_lt H_399.out)).trans H_399.out)
  have Hva := Lib.hid ((hb4.block X_393 (blk_lt H_407.out)).trans H_407.out)
  have Hta := Lib.hid ((hb4.block X_351 (blk_lt H_401.out)).trans H_401.out)
  have HEa := Lib.hid ((HE_406.out.drew).trans (hb4.mono (sz_le hB0.out HE_406.out.size)))
  refine ⟨_, rfl, ?_⟩
  refine hK.out _ _ ⟨Hja.out, Hva.out, (blk_cell Hta.out 10).trans (by rw [eT.out, ← hpr.out]; rfl), (blk_cell Hta.out 2).trans (by rw [eT.out, ← hD.out]; rfl)⟩ (fun hHeld => ?_)
  clear hb4 H_399 H_407 H_401 HE_406
  clear hK K
  refine norm_ (a' := ?_) ?_ ?_
  rotate_left
  · show Act.put _ (some 116) _ = _
    simp only [Act.put, List.setIfInBounds_toArray, List.set_cons_zero, List.set_cons_succ, i64_w, i32_w]
    rfl
  refine pure_ (i := 16) (N := (some 123)) (v := ?_) (a' := ?_) #[true, true, true, true, true, true, true, true, true, true, true, true, true, true, true, true, true, false, false, false, false, false, false, false, false, false, false, false, false, false, false, false, false, false, false, false, false] rfl rfl (by kernel_rfl) (fun _ _ _ h => h) (Or.inl ⟨by rfl, ?_⟩) ?_ ?_
  rotate_left
  · intro w'
    go_simp
    with_reducible rfl
  rotate_left
  · simp only [Act.put, List.setIfInBounds_toArray, List.set_cons_zero, List.set_cons_succ, i64_w, i32_w]
    rfl
  refine pure_ (i := 17) (N := (some 124)) (v := ?_) (a' := ?_) #[true, true, true, true, true, true, true, true, true, true, true, true, true, true, true, true, true, true, false, false, false, false, false, false, false, false, false, false, false, false, false, false, false, false, false, false, false] rfl rfl (by kernel_rfl) (fun _ _ _ h => h) (Or.inl ⟨by rfl, ?_⟩) ?_ ?_
  rotate_left
  · intro w'
    go_simp
    with_reducible rfl
  rotate_left
  · simp only [Act.put, List.setIfInBounds_toArray, List.set_cons_zero, List.set_cons_succ, i64_w, i32_w]
    rfl
  refine pure_ (i := 18) (N := (some 125)) (v := ?_) (a' := ?_) #[true, true, true, true, true, true, true, true, true, true, true, true, true, true, true, true, true, true, true, false, false, false, false, false, false, false, false, false, false, false, false, false, false, false, false, false, false] rfl rfl (by kernel_rfl) (fun _ _ _ h => h) (Or.inl ⟨by rfl, ?_⟩) ?_ ?_
  rotate_left
  · intro w'
    go_simp
    with_reducible rfl
  rotate_left
  · simp only [Act.put, List.setIfInBounds_toArray, List.set_cons_zero, List.set_cons_succ, i64_w, i32_w]
    rfl
  refine take_ (i := 19) (N := (some 126)) (v := .agg J) (a' := ?_) #[true, true, true, true, true, true, true, true, true, true, true, true, true, true, true, true, true, true, true, true, false, false, false, false, false, false, false, false, false, false, false, false, false, false, false, false, false] rfl rfl (by kernel_rfl) (fun _ _ _ h => h) (Or.inl ⟨by rfl, ?_⟩) hHeld ?_ ?_
  · rintro w' ⟨s0, s1, s2, s3⟩
    exact ld_op 32 _ rfl X_341 rfl s0 Try.underlying32 rfl (by kernel_rfl) zJ.out
  rotate_left
  · simp only [Act.put, List.setIfInBounds_toArray, List.set_cons_zero, List.set_cons_succ, i64_w, i32_w]
    rfl
  refine pure_ (i := 20) (N := (some 127)) (v := ?_) (a' := ?_) #[true, true, true, true, true, true, true, true, true, true, true, true, true, true, true, true, true, true, true, true, true, false, false, false, false, false, false, false, false, false, false, false, false, false, false, false, false] rfl rfl (by kernel_rfl) (fun _ _ _ h => h) (Or.inl ⟨by rfl, ?_⟩) ?_ ?_
  rotate_left
  · intro w'
    go_simp
    with_reducible rfl
  rotate_left
  · simp only [Act.put, List.setIfInBounds_toArray, List.set_cons_zero, List.set_cons_succ, i64_w, i32_w]
    rfl
  refine pure_ (i := 21) (N := (some 128)) (v := ?_) (a' := ?_) #[true, true, true, true, true, true, true, true, true, true, true, true, true, true, true, true, true, true, true, true, true, true, false, false, false, false, false, false, false, false, false, false, false, false, false, false, false] rfl rfl (by kernel_rfl) (fun _ _ _ h => h) (Or.inl ⟨by rfl, ?_⟩) ?_ ?_
  rotate_left
  · intro w'
    go_simp
    with_reducible rfl
  rotate_left
  · simp only [Act.put, List.setIfInBounds_toArray, List.set_cons_zero, List.set_cons_succ, i64_w, i32_w]
    rfl
  refine take_ (i := 22) (N := (some 129)) (v := ?_) (a' := ?_) #[true, true, true, true, true, true, true, true, true, true, true, true, true, true, true, true, true, true, true, true, true, true, true, false, false, false, false, false, false, false, false, false, false, false, false, false, false] rfl rfl (by kernel_rfl) (fun _ _ _ h => h) (Or.inl ⟨by rfl, ?_⟩) hHeld ?_ ?_
  rotate_left
  · rintro w' ⟨s0, s1, s2, s3⟩
    go_simp
    with_reducible rfl
  rotate_left
  · simp only [Act.put, List.setIfInBounds_toArray, List.set_cons_zero, List.set_cons_succ, i64_w, i32_w]
    rfl
  refine pure_ (i := 23) (N := (some 130)) (v := ?_) (a' := ?_) #[true, true, true, true, true, true, true, true, true, true, true, true, true, true, true, true, true, true, true, true, true, true, true, true, false, false, false, false, false, false, false, false, false, false, false, false, false] rfl rfl (by kernel_rfl) (fun _ _ _ h => h) (Or.inl ⟨by rfl, ?_⟩) ?_ ?_
  rotate_left
  · intro w'
    go_simp
    with_reducible rfl
  rotate_left
  · simp only [Act.put, List.setIfInBounds_toArray, List.set_cons_zero, List.set_cons_succ, i64_w, i32_w]
    rfl
  refine one_ (i := 24) (N := (some 131)) #[true, true, true, true, true, true, true, true, true, true, true, true, true, true, true, true, true, true, true, true, true, true, true, true, true, false, false, false, false, false, false, false, false, false, false, false, false] rfl rfl (by kernel_rfl) (by decide) (fun K hK => ?_)
  refine goes_ Try.func14 (by kernel_rfl) rfl #[.agg J, .int .i64 (rel + D)] (by rfl) rfl rfl (by (try simp only [List.map_toArray, List.map_cons, List.map_nil]); first | done | rfl) ?_
  refine (late_b _ _ (rel + D) (rel + D) true hJ3.out (by simp)).mono ?_
  rintro e Vb ⟨rfl, hb4⟩
  have Hjb := Lib.hid ((hb4.block X_341 (blk_lt Hja.out)).trans Hja.out)
  have Hvb := Lib.hid ((hb4.block X_393 (blk_lt Hva.out)).trans Hva.out)
  have Htb := Lib.hid ((hb4.block X_351 (blk_lt Hta.out)).trans Hta.out)
  have HEb := Lib.hid ((HEa.out).trans (hb4.mono (sz_le hB0.out HEa.out.size)))
  refine ⟨_, rfl, ?_⟩
  refine hK.out _ _ ⟨Hjb.out, Hvb.out, (blk_cell Htb.out 10).trans (by rw [eT.out, ← hpr.out]; rfl), (blk_cell Htb.out 2).trans (by rw [eT.out, ← hD.out]; rfl)⟩ (fun hHeld => ?_)
  clear hb4 Hja Hva Hta HEa
  clear hK K
  refine norm_ (a' := ?_) ?_ ?_
  rotate_left
  · show Act.put _ (some 131) _ = _
    simp only [Act.put, List.setIfInBounds_toArray, List.set_cons_zero, List.set_cons_succ, i64_w, i32_w]
    rfl
  refine pure_ (i := 25) (N := (some 132)) (v := ?_) (a' := ?_) #[true, true, true, true, true, true, true, true, true, true, true, true, true, true, true, true, true, true, true, true, true, true, true, true, true, true, false, false, false, false, false, false, false, false, false, false, false] rfl rfl (by kernel_rfl) (fun _ _ _ h => h) (Or.inl ⟨by rfl, ?_⟩) ?_ ?_
  rotate_left
  · intro w'
    go_simp
    with_reducible rfl
  rotate_left
  · simp only [Act.put, List.setIfInBounds_toArray, List.set_cons_zero, List.set_cons_succ, i64_w, i32_w]
    rfl
  refine pure_ (i := 26) (N := (some 133)) (v := ?_) (a' := ?_) #[true, true, true, true, true, true, true, true, true, true, true, true, true, true, true, true, true, true, true, true, true, true, true, true, true, true, true, false, false, false, false, false, false, false, false, false, false] rfl rfl (by kernel_rfl) (fun _ _ _ h => h) (Or.inl ⟨by rfl, ?_⟩) ?_ ?_
  rotate_left
  · intro w'
    go_simp
    with_reducible rfl
  rotate_left
  · simp only [Act.put, List.setIfInBounds_toArray, List.set_cons_zero, List.set_cons_succ, i64_w, i32_w]
    rfl
  refine take_ (i := 27) (N := (some 134)) (v := .agg J) (a' := ?_) #[true, true, true, true, true, true, true, true, true, true, true, true, true, true, true, true, true, true, true, true, true, true, true, true, true, true, true, true, false, false, false, false, false, false, false, false, false] rfl rfl (by kernel_rfl) (fun _ _ _ h => h) (Or.inl ⟨by rfl, ?_⟩) hHeld ?_ ?_
  · rintro w' ⟨s0, s1, s2, s3⟩
    exact ld_op 32 _ rfl X_341 rfl s0 Try.underlying32 rfl (by kernel_rfl) zJ.out
  rotate_left
  · simp only [Act.put, List.setIfInBounds_toArray, List.set_cons_zero, List.set_cons_succ, i64_w, i32_w]
    rfl
  refine pure_ (i := 28) (N := (some 135)) (v := ?_) (a' := ?_) #[true, true, true, true, true, true, true, true, true, true, true, true, true, true, true, true, true, true, true, true, true, true, true, true, true, true, true, true, true, false, false, false, false, false, false, false, false] rfl rfl (by kernel_rfl) (fun _ _ _ h => h) (Or.inl ⟨by rfl, ?_⟩) ?_ ?_
  rotate_left
  · intro w'
    go_simp
    with_reducible rfl
  rotate_left
  · simp only [Act.put, List.setIfInBounds_toArray, List.set_cons_zero, List.set_cons_succ, i64_w, i32_w]
    rfl
  refine pure_ (i := 29) (N := (some 136)) (v := ?_) (a' := ?_) #[true, true, true, true, true, true, true, true, true, true, true, true, true, true, true, true, true, true, true, true, true, true, true, true, true, true, true, true, true, true, false, false, false, false, false, false, false] rfl rfl (by kernel_rfl) (fun _ _ _ h => h) (Or.inl ⟨by rfl, ?_⟩) ?_ ?_
  rotate_left
  · intro w'
    go_simp
    with_reducible rfl
  rotate_left
  · simp only [Act.put, List.setIfInBounds_toArray, List.set_cons_zero, List.set_cons_succ, i64_w, i32_w]
    rfl
  refine take_ (i := 30) (N := (some 137)) (v := ?_) (a' := ?_) #[true, true, true, true, true, true, true, true, true, true, true, true, true, true, true, true, true, true, true, true, true, true, true, true, true, true, true, true, true, true, true, false, false, false, false, false, false] rfl rfl (by kernel_rfl) (fun _ _ _ h => h) (Or.inl ⟨by rfl, ?_⟩) hHeld ?_ ?_
  rotate_left
  · rintro w' ⟨s0, s1, s2, s3⟩
    go_simp
    with_reducible rfl
  rotate_left
  · simp only [Act.put, List.setIfInBounds_toArray, List.set_cons_zero, List.set_cons_succ, i64_w, i32_w]
    rfl
  refine pure_ (i := 31) (N := (some 138)) (v := ?_) (a' := ?_) #[true, true, true, true, true, true, true, true, true, true, true, true, true, true, true, true, true, true, true, true, true, true, true, true, true, true, true, true, true, true, true, true, false, false, false, false, false] rfl rfl (by kernel_rfl) (fun _ _ _ h => h) (Or.inl ⟨by rfl, ?_⟩) ?_ ?_
  rotate_left
  · intro w'
    go_simp
    with_reducible rfl
  rotate_left
  · simp only [Act.put, List.setIfInBounds_toArray, List.set_cons_zero, List.set_cons_succ, i64_w, i32_w]
    rfl
  refine pure_ (i := 32) (N := (some 139)) (v := ?_) (a' := ?_) #[true, true, true, true, true, true, true, true, true, true, true, true, true, true, true, true, true, true, true, true, true, true, true, true, true, true, true, true, true, true, true, true, true, false, false, false, false] rfl rfl (by kernel_rfl) (fun _ _ _ h => h) (Or.inl ⟨by rfl, ?_⟩) ?_ ?_
  rotate_left
  · intro w'
    go_simp
    with_reducible rfl
  rotate_left
  · simp only [Act.put, List.setIfInBounds_toArray, List.set_cons_zero, List.set_cons_succ, i64_w, i32_w]
    rfl
  refine one_ (i := 33) (N := (some 140)) #[true, true, true, true, true, true, true, true, true, true, true, true, true, true, true, true, true, true, true, true, true, true, true, true, true, true, true, true, true, true, true, true, true, true, false, false, false] rfl rfl (by kernel_rfl) (by decide) (fun K hK => ?_)
  refine goes_ Try.func14 (by kernel_rfl) rfl #[.agg J, .int .i64 (rel + D - 1)] (by rfl) rfl rfl (by (try simp only [List.map_toArray, List.map_cons, List.map_nil]); first | done | rfl) ?_
  refine (late_b _ _ (rel + D) (rel + D - 1) false hJ3.out (by simp; omega)).mono ?_
  rintro e Vc ⟨rfl, hb4⟩
  have Hjc := Lib.hid ((hb4.block X_341 (blk_lt Hjb.out)).trans Hjb.out)
  have Hvc := Lib.hid ((hb4.block X_393 (blk_lt Hvb.out)).trans Hvb.out)
  have Htc := Lib.hid ((hb4.block X_351 (blk_lt Htb.out)).trans Htb.out)
  have HEc := Lib.hid ((HEb.out).trans (hb4.mono (sz_le hB0.out HEb.out.size)))
  refine ⟨_, rfl, ?_⟩
  refine hK.out _ _ ⟨Hjc.out, Hvc.out, (blk_cell Htc.out 10).trans (by rw [eT.out, ← hpr.out]; rfl), (blk_cell Htc.out 2).trans (by rw [eT.out, ← hD.out]; rfl)⟩ (fun hHeld => ?_)
  clear hb4 Hjb Hvb Htb HEb
  clear hK K
  refine norm_ (a' := ?_) ?_ ?_
  rotate_left
  · show Act.put _ (some 140) _ = _
    simp only [Act.put, List.setIfInBounds_toArray, List.set_cons_zero, List.set_cons_succ, i64_w, i32_w]
    rfl
  refine pure_ (i := 34) (N := (some 141)) (v := ?_) (a' := ?_) #[true, true, true, true, true, true, true, true, true, true, true, true, true, true, true, true, true, true, true, true, true, true, true, true, true, true, true, true, true, true, true, true, true, true, true, false, false] rfl rfl (by kernel_rfl) (fun _ _ _ h => h) (Or.inl ⟨by rfl, ?_⟩) ?_ ?_
  rotate_left
  · intro w'
    go_simp
    with_reducible rfl
  rotate_left
  · simp only [Act.put, List.setIfInBounds_toArray, List.set_cons_zero, List.set_cons_succ, i64_w, i32_w]
    rfl
  refine pure_ (i := 35) (N := (some 142)) (v := ?_) (a' := ?_) #[true, true, true, true, true, true, true, true, true, true, true, true, true, true, true, true, true, true, true, true, true, true, true, true, true, true, true, true, true, true, true, true, true, true, true, true, false] rfl rfl (by kernel_rfl) (fun _ _ _ h => h) (Or.inl ⟨by rfl, ?_⟩) ?_ ?_
  rotate_left
  · intro w'
    go_simp
    with_reducible rfl
  rotate_left
  · simp only [Act.put, List.setIfInBounds_toArray, List.set_cons_zero, List.set_cons_succ, i64_w, i32_w]
    rfl
  refine pure_ (i := 36) (N := (some 12)) (v := ?_) (a' := ?_) #[true, true, true, true, true, true, true, true, true, true, true, true, true, true, true, true, true, true, true, true, true, true, true, true, true, true, true, true, true, true, true, true, true, true, true, true, true] rfl rfl (by kernel_rfl) (fun _ _ _ h => h) (Or.inl ⟨by rfl, ?_⟩) ?_ ?_
  rotate_left
  · intro w'
    go_simp
    with_reducible rfl
  rotate_left
  · simp only [Act.put, List.setIfInBounds_toArray, List.set_cons_zero, List.set_cons_succ, i64_w, i32_w]
    rfl
  refine done_ (by kernel_rfl) ?_
  go_wp2
  go_ret
  exact ⟨rfl, by first | exact HEc.out | exact HEc.out.drew | exact pw_below_drewN HEc.out _⟩
set_option maxRecDepth 100000 in
set_option maxHeartbeats 6000000 in
theorem news_top_true (w : World) (B : Int) (ad : Addr) (l : List S28) (cap : Nat) (hc : l.length ≤ cap) (hC : Kd.C k28 w (some ad) l.length l) (i no rel d C : Int) (hi : 0 ≤ i) (hi2 : i < (l.length : Int)) (hno : 0 ≤ no) (hrel : 0 ≤ rel) (hrel2 : rel ≤ 1099511627776) (hCe : (rd_T28 l i).f3 = C) (hd : ¬ d < 1) (hd2 : C < d) (hf : Ev (fun k => pendulumref05_Few.f k B l) true) (hr : Ev (fun k => pendulumref05_Right.f k B l) true) (ok : OkS B l) : Calls Try.prog 3 #[.agg #[.int .i64 B, .slice (some ad) l.length cap], .int .i64 i, .int .i64 no, .int .i64 rel, .int .i64 d, .bool true] w fun e w' => e = .returned (.bool true) ∧ Below w.heap.size w w' := by
  have q0 : decide (i < 0) = false := decide_eq_false (by omega)
  have q1 : decide ((l.length : Int) ≤ i) = false := decide_eq_false (by omega)
  have q2 : decide (no < 0) = false := decide_eq_false (by omega)
  have q3 : decide (rel < 0) = false := decide_eq_false (by omega)
  have q4 : decide (1099511627776 < rel) = false := decide_eq_false (by omega)
  have okt := (ok.2.2.2.2 i.toNat (by omega)).1
  rw [show ((i.toNat : Nat) : Int) = i by omega] at okt
  have hnum := okt.nums
  have hC1 : 1 ≤ C := by omega
  have hCx : C ≤ (rd_T28 l i).f3 := by omega
  obtain ⟨t, ht⟩ : ∃ t, rd_T28 l i = t := ⟨_, rfl⟩
  rw [ht] at hnum hCx okt hCe
  obtain ⟨D, hD⟩ : ∃ D, t.f2 = D := ⟨_, rfl⟩
  rw [hD] at hnum
  have hD1 : 1 ≤ D := by omega
  have hw : wrap64 (rel + D) = rel + D := w64 (by omega) (by omega)
  have hw' : wrap64 (rel + D - 1) = rel + D - 1 := w64 (by omega) (by omega)
  have qd : decide (d < 1) = false := decide_eq_false hd
  have qc : decide (C < d) = true := decide_eq_true hd2
  have hn : Hid (mn (mx d 1) t.f3 = C) := Lib.hid (by rw [hCe]; exact mn_top hd hd2)
  have hv1 : Hid (1 ≤ (C : Int)) := Lib.hid (by omega)
  have hv2 : Hid ((C : Int) ≤ t.f3) := Lib.hid (by omega)
  have qov : decide (C < d) = true := decide_eq_true hd2
  have hov' : Hid (decide (d > (rd_T28 l i).f3) = true) := Lib.hid (by rw [ht, hCe]; exact qov)
  have hr1 : Hid (0 ≤ rel ∧ rel ≤ 1099511627776) := Lib.hid ⟨by omega, by omega⟩
  have hi1 : Hid (0 ≤ i ∧ i < (l.length : Int)) := Lib.hid ⟨by omega, by omega⟩
  have hno1 : Hid (0 ≤ no) := Lib.hid (by omega)
  have hii : i < (l.length : Int) := by omega
  have hi0 : 0 ≤ i := by omega
  clear hnum hCx hrel hrel2 hd hd2
  obtain ⟨Z, eZ⟩ : ∃ A : Array Value, A = #[.int .i64 0, .int .i64 0, .int .i64 0, .int .i64 0, .bool false, .bool false, .bool false, .string ⟨#[]⟩, .int .i64 0, .int .i64 0, .int .i64 0, .int .i64 0, .int .i64 0, .int .i64 0, .int .i64 0, .int .i64 0, .int .i64 0, .int .i64 0, .int .i64 0, .int .i64 0, .int .i64 0, .bool false, .int .i64 0] := ⟨_, rfl⟩
  have zZ : Hid (Z.size = 23) := Lib.hid (by rw [eZ]; rfl)
  have hz : ∀ V : World, (zeroValue 32).run Try.prog V = .ok (.agg Z) V := fun V => by rw [eZ]; kernel_rfl
  replace eZ := Lib.hid eZ
  obtain ⟨J, eJ⟩ : ∃ A, A = JP i no rel (rel + D) true true false ++ RA t (C : Int) (ini t C) := ⟨_, rfl⟩
  have zJ : Hid (J.size = 23) := Lib.hid (by rw [eJ]; exact JJ_size _ _ _ _ _ _ _ _ _ _)
  have oJ : Hid (J.all (·.oneCell') = true) := Lib.hid (by rw [eJ]; exact JJ_one _ _ _ _ _ _ _ _ _ _)
  replace eJ := Lib.hid eJ
  obtain ⟨R0, eR0⟩ : ∃ A, A = RA t (C : Int) ⟨0, 0, false, 0⟩ := ⟨_, rfl⟩
  have zR0 : Hid (R0.size = 16) := Lib.hid (by rw [eR0]; exact RA_size _ _ _)
  have oR0 : Hid (R0.all (·.oneCell') = true) := Lib.hid (by rw [eR0]; exact RA_one _ _ _)
  replace eR0 := Lib.hid eR0
  obtain ⟨R1, eR1⟩ : ∃ A, A = RA t (C : Int) (ini t C) := ⟨_, rfl⟩
  have zR1 : Hid (R1.size = 16) := Lib.hid (by rw [eR1]; exact RA_size _ _ _)
  have oR1 : Hid (R1.all (·.oneCell') = true) := Lib.hid (by rw [eR1]; exact RA_one _ _ _)
  replace eR1 := Lib.hid eR1
  obtain ⟨T, eT⟩ : ∃ A, A = TA t := ⟨_, rfl⟩
  have zT : Hid (T.size = 11) := Lib.hid (by rw [eT]; rfl)
  have oT : Hid (T.all (·.oneCell') = true) := Lib.hid (by rw [eT]; exact TA_one _)
  replace eT := Lib.hid eT
  obtain ⟨U, eU⟩ : ∃ A : Array Value, A = #[.string ⟨#[]⟩, .int .i64 0, .int .i64 0, .int .i64 0, .int .i64 0, .int .i64 0, .int .i64 0, .int .i64 0, .int .i64 0, .int .i64 0, .int .i64 0] := ⟨_, rfl⟩
  have zU : Hid (U.size = 11) := Lib.hid (by rw [eU]; rfl)
  have hzU : ∀ V : World, (zeroValue 28).run Try.prog V = .ok (.agg U) V := fun V => by rw [eU]; kernel_rfl
  replace eU := Lib.hid eU
  obtain ⟨Y, eY⟩ : ∃ A : Array Value, A = #[.string ⟨#[]⟩, .int .i64 0, .int .i64 0, .int .i64 0, .int .i64 0, .int .i64 0, .int .i64 0, .int .i64 0, .int .i64 0, .int .i64 0, .int .i64 0, .int .i64 0, .int .i64 0, .int .i64 0, .bool false, .int .i64 0] := ⟨_, rfl⟩
  have zY : Hid (Y.size = 16) := Lib.hid (by rw [eY]; rfl)
  have hzY : ∀ V : World, (zeroValue 30).run Try.prog V = .ok (.agg Y) V := fun V => by rw [eY]; kernel_rfl
  replace eY := Lib.hid eY
  obtain ⟨PJ, ePJ⟩ : ∃ P : Array Value, P = #[.int .i64 i, .int .i64 no, .int .i64 rel, .int .i64 (rel + D), .bool true, .bool true, .bool false] := ⟨_, rfl⟩
  have hPJ : Hid (PJ ++ R1 = J) := Lib.hid (by rw [ePJ, eR1.out, eJ.out]; rfl)
  replace ePJ := Lib.hid ePJ
  obtain ⟨pr, hpr⟩ : ∃ p, t.f10 = p := ⟨_, rfl⟩
  replace hpr := Lib.hid hpr
  obtain ⟨KK, eKK⟩ : ∃ A : Array Value, A = #[.int .i64 1, .int .i64 pr, .int .i64 rel, .int .i64 i] := ⟨_, rfl⟩
  replace eKK := Lib.hid eKK
  have hjj : Hid (∀ W : World, (binOp .eql 32 (.agg J) (.agg J)).run Try.prog W = .ok (.bool true) W) := Lib.hid (fun W => eq_job W J _ _ _ _ _ _ _ _ _ _ eJ.out)
  have hjg : Hid (∀ (a b : Operand) (W : World), (eqGuard .eql 32 a b (.agg J) (.agg J)).run Try.prog W = .ok () W) := Lib.hid (fun a b W => run_eqGuard_agg W .eql 32 a b _ _ (by kernel_rfl))
  have hkk : Hid (∀ W : World, (binOp .eql 38 (.agg KK) (.agg #[.int .i64 1, .int .i64 pr, .int .i64 rel, .int .i64 i])).run Try.prog W = .ok (.bool true) W) := Lib.hid (fun W => by rw [eKK.out, key_cmp]; simp)
  have hkg : Hid (∀ (a b : Operand) (W : World), (eqGuard .eql 38 a b (.agg KK) (.agg #[.int .i64 1, .int .i64 pr, .int .i64 rel, .int .i64 i])).run Try.prog W = .ok () W) := Lib.hid (fun a b W => run_eqGuard_agg W .eql 38 a b _ _ (by kernel_rfl))
  have hJ3 : Hid (J[3]? = some (.int .i64 (rel + D))) := Lib.hid (by rw [eJ.out]; exact JJ_at _ _ _ _ _ _ _ _ _ _ 3 (by decide))
  have NJ := Lib.hid (fun (W : World) (hW : Below w.heap.size w W) (A0 : Array Value) (eA0 : A0 = #[.int .i64 B, .slice (some ad) l.length cap]) => new_c (B := B) (cap := cap) (x := d) (n := C) (must := true) (Kd.C_below hC hW) hi1.out.1 hi1.out.2 hno1.out hr1.out.1 hr1.out.2 (by rw [ht]; exact okt) (by rw [ht]; exact hn.out) A0 J eA0 (by rw [hov'.out, ht, hD]; exact eJ.out))
  have hrow := Lib.hid (fun (W : World) (B0 : Nat) (h0 : w.heap.size = B0) (hW : Below B0 w W) => row_at4 hC h0 hW hi1.out.1 hi1.out.2 T (by rw [ht]; exact eT.out))
  replace ht := Lib.hid ht
  replace okt := Lib.hid okt
  replace ok := Lib.hid ok
  replace hD := Lib.hid hD
  replace hCe := Lib.hid hCe
  obtain ⟨A0, eA0⟩ : ∃ A0 : Array Value, A0 = #[.int .i64 B, .slice (some ad) l.length cap] := ⟨_, rfl⟩
  rw [← eA0]
  have zA0 : Hid (A0.size = 2) := Lib.hid (by rw [eA0]; rfl)
  replace eA0 := Lib.hid eA0
  obtain ⟨B0, hB0⟩ : ∃ B, w.heap.size = B := ⟨_, rfl⟩
  rw [hB0]
  obtain ⟨V0, hV0⟩ : ∃ V, w.alloc (.cells A0 24) = V := ⟨_, rfl⟩
  have Hs : Hid (V0.heap[B0]? = some (.cells A0 24 (0, 0))) := Lib.hid (by rw [← hV0]; exact (box_new hB0).1)
  have HE : Hid (Below B0 w V0) := Lib.hid (by rw [← hV0, ← hB0]; exact (Below.refl _ _).alloc (Nat.le_refl _) _)
  go_enter Try.func3, Try.ntmps3
  go_upto_region 1 with (fail)
  replace hB0 := Lib.hid hB0
  replace hV0 := Lib.hid hV0
  go_wp2_with fail
  refine (aw_c _).mono ?_; rintro e V_491 ⟨rfl, hb_492⟩
  have H_493 : Hid (V_491.heap[B0]? = some (.cells A0 24 (0, 0))) := Lib.hid ((hb_492.block B0 (blk_lt Hs.out)).trans Hs.out)
  have HE_494 : Hid (Below B0 w V_491) := Lib.hid (HE.out.trans (hb_492.mono (sz_le hB0.out HE.out.size)))
  clear HE Hs
  clear hb_492
  go_wp2_with (first | ((with_reducible refine wpl_gate (T := 24) rfl ?_); refine wpl_ld _ _ rfl (by rfl) B0 rfl H_493.out Try.underlying24 rfl (by kernel_rfl) zA0.out ?_))
  refine (few_c hf hC hc hB0.out HE_494.out _ eA0.out).mono ?_; rintro e V_495 ⟨rfl, hb_496⟩
  have H_497 : Hid (V_495.heap[B0]? = some (.cells A0 24 (0, 0))) := Lib.hid ((hb_496.block B0 (blk_lt H_493.out)).trans H_493.out)
  have HE_498 : Hid (Below B0 w V_495) := Lib.hid (HE_494.out.trans (hb_496.mono (sz_le hB0.out HE_494.out.size)))
  clear HE_494 H_493
  clear hb_496
  go_wp2_with (first | ((with_reducible refine wpl_gate (T := 24) rfl ?_); refine wpl_ld _ _ rfl (by rfl) B0 rfl H_497.out Try.underlying24 rfl (by kernel_rfl) zA0.out ?_))
  refine (right_c hr hC hc hB0.out HE_498.out _ eA0.out).mono ?_; rintro e V_499 ⟨rfl, hb_500⟩
  have H_501 : Hid (V_499.heap[B0]? = some (.cells A0 24 (0, 0))) := Lib.hid ((hb_500.block B0 (blk_lt H_497.out)).trans H_497.out)
  have HE_502 : Hid (Below B0 w V_499) := Lib.hid (HE_498.out.trans (hb_500.mono (sz_le hB0.out HE_498.out.size)))
  clear HE_498 H_497
  clear hb_500
  go_wp2_with (first | ((with_reducible refine wpl_gate (T := 24) rfl ?_); refine wpl_ld _ _ rfl (by rfl) B0 rfl H_501.out Try.underlying24 rfl (by kernel_rfl) zA0.out ?_))
  refine (NJ.out _ (below_to hB0.out HE_502.out) _ eA0.out).mono ?_; rintro e V_503 ⟨rfl, hb_504⟩
  have H_505 : Hid (V_503.heap[B0]? = some (.cells A0 24 (0, 0))) := Lib.hid ((hb_504.block B0 (blk_lt H_501.out)).trans H_501.out)
  have HE_506 : Hid (Below B0 w V_503) := Lib.hid (HE_502.out.trans (hb_504.mono (sz_le hB0.out HE_502.out.size)))
  clear HE_502 H_501
  clear hb_504
  obtain ⟨X_507, hX_509⟩ : ∃ X, V_503.heap.size = X := ⟨_, rfl⟩
  obtain ⟨V_508, q_510_0, q_510_1, q_510_2, q_510_3⟩ := st_new (w := V_503) (T := 32) hX_509 zZ.out zJ.out oJ.out
  have ne_512 : B0 < X_507 := hX_509 ▸ blk_lt H_505.out
  have H_511 : Hid (V_508.heap[B0]? = some (.cells A0 24 (0, 0))) := Lib.hid ((q_510_2 _ ne_512).trans H_505.out)
  have ge_513 : B0 ≤ X_507 := hX_509 ▸ (sz_le hB0.out HE_506.out.size)
  have HE_514 : Hid (Below B0 w V_508) := Lib.hid (q_510_3 _ _ ge_513 HE_506.out)
  have H_515 := Lib.hid q_510_1
  clear q_510_1 q_510_2 q_510_3
  go_upto_region 4 with (fail)
  clear q_510_0 hX_509
  clear HE_506 H_505
  have c_516 : V_508.cell? ⟨B0, 1, none⟩ = some (.slice (some ad) l.length cap) := by rw [blk_cell H_511.out, eA0.out]; rfl
  go_upto_region 6 with (fail)
  obtain ⟨X_517, hX_519⟩ : ∃ X, V_508.heap.size = X := ⟨_, rfl⟩
  obtain ⟨V_518, q_520_0, q_520_1, q_520_2, q_520_3⟩ := st_new (w := V_508) (T := 28) hX_519 zU.out zT.out oT.out
  have ne_522 : B0 < X_517 := hX_519 ▸ blk_lt H_511.out
  have H_521 : Hid (V_518.heap[B0]? = some (.cells A0 24 (0, 0))) := Lib.hid ((q_520_2 _ ne_522).trans H_511.out)
  have ne_524 : X_507 < X_517 := hX_519 ▸ blk_lt H_515.out
  have H_523 : Hid (V_518.heap[X_507]? = some (.cells J 32 (0, 0))) := Lib.hid ((q_520_2 _ ne_524).trans H_515.out)
  have ge_525 : B0 ≤ X_517 := hX_519 ▸ (sz_le hB0.out HE_514.out.size)
  have HE_526 : Hid (Below B0 w V_518) := Lib.hid (q_520_3 _ _ ge_525 HE_514.out)
  have H_527 := Lib.hid q_520_1
  clear q_520_1 q_520_2 q_520_3
  go_upto_region 7 with (first | ((with_reducible refine wpl_gate (T := 28) rfl ?_); refine wpl_ldr _ _ rfl (by rfl) (ad.add (i.toNat * 11)) rfl (hrow.out _ _ hB0.out HE_514.out) Try.underlying28 rfl (by kernel_rfl) zT.out ?_))
  clear q_520_0 hX_519
  clear c_516
  clear HE_514 H_511 H_515
  have c_528 : V_518.cell? ⟨X_517, 3, none⟩ = some (.int .i64 C) := by rw [blk_cell H_527.out, eT.out, ← hCe.out]; rfl
  go_upto_region 12 with (fail)
  clear c_528
  obtain ⟨X_529, hX_531⟩ : ∃ X, V_518.heap.size = X := ⟨_, rfl⟩
  obtain ⟨V_530, q_532_0, q_532_1, q_532_2, q_532_3⟩ := st_new (w := V_518) (T := 30) hX_531 zY.out zR0.out oR0.out
  have ne_534 : B0 < X_529 := hX_531 ▸ blk_lt H_521.out
  have H_533 : Hid (V_530.heap[B0]? = some (.cells A0 24 (0, 0))) := Lib.hid ((q_532_2 _ ne_534).trans H_521.out)
  have ne_536 : X_507 < X_529 := hX_531 ▸ blk_lt H_523.out
  have H_535 : Hid (V_530.heap[X_507]? = some (.cells J 32 (0, 0))) := Lib.hid ((q_532_2 _ ne_536).trans H_523.out)
  have ne_538 : X_517 < X_529 := hX_531 ▸ blk_lt H_527.out
  have H_537 : Hid (V_530.heap[X_517]? = some (.cells T 28 (0, 0))) := Lib.hid ((q_532_2 _ ne_538).trans H_527.out)
  have ge_539 : B0 ≤ X_529 := hX_531 ▸ (sz_le hB0.out HE_526.out.size)
  have HE_540 : Hid (Below B0 w V_530) := Lib.hid (q_532_3 _ _ ge_539 HE_526.out)
  have H_541 := Lib.hid q_532_1
  clear q_532_1 q_532_2 q_532_3
  go_upto_region 13 with (first | ((with_reducible refine wpl_gate (T := 28) rfl ?_); refine wpl_ld _ _ rfl (by rfl) X_517 rfl H_527.out Try.underlying28 rfl (by kernel_rfl) zT.out ?_) | ((with_reducible refine wpl_gateb (T := 30) rfl ?_); refine wpl_bld 30 _ rfl (by rfl) (run_built t C T eT.out (by simp [go_sem]) eR0.out) ?_))
  clear q_532_0 hX_531
  clear HE_526 H_521 H_523 H_527
  go_wp2_with (first | ((with_reducible refine wpl_gate (T := 30) rfl ?_); refine wpl_ld _ _ rfl (by rfl) X_529 rfl H_541.out Try.underlying30 rfl (by kernel_rfl) zR0.out ?_))
  refine (length_c _ t C ⟨0, 0, false, 0⟩ _ eR0.out okt.out hv1.out hv2.out (.inr (len_pos okt.out hv1.out)) (rd (pt t C) (0 : Nat)) (by unfold lenv; rw [if_neg (fun h => by cases h.2)])).mono ?_; rintro e V_542 ⟨rfl, hb_543⟩
  have H_544 : Hid (V_542.heap[B0]? = some (.cells A0 24 (0, 0))) := Lib.hid ((hb_543.block B0 (blk_lt H_533.out)).trans H_533.out)
  have H_545 : Hid (V_542.heap[X_507]? = some (.cells J 32 (0, 0))) := Lib.hid ((hb_543.block X_507 (blk_lt H_535.out)).trans H_535.out)
  have H_546 : Hid (V_542.heap[X_517]? = some (.cells T 28 (0, 0))) := Lib.hid ((hb_543.block X_517 (blk_lt H_537.out)).trans H_537.out)
  have H_547 : Hid (V_542.heap[X_529]? = some (.cells R0 30 (0, 0))) := Lib.hid ((hb_543.block X_529 (blk_lt H_541.out)).trans H_541.out)
  have HE_548 : Hid (Below B0 w V_542) := Lib.hid (HE_540.out.trans (hb_543.mono (sz_le hB0.out HE_540.out.size)))
  clear HE_540 H_533 H_535 H_537 H_541
  clear hb_543
  have cp_550 : V_542.cell? ⟨X_529, 13, none⟩ = some (.int .i64 0) := by rw [blk_cell H_547.out]; exact (by rw [eR0.out]; simp [RA, TA])
  have zp_551 : V_542.frozen? ⟨X_529, 13, none⟩ = false := blk_frozen H_547.out 13
  go_upto_region 14 with (fail)
  have H_552 : Hid ((V_542.setCell ⟨X_529, 13, none⟩ (.int .i64 (rd (pt t C) ((0 : Nat) : Int)))).heap[B0]? = some (.cells A0 24 (0, 0))) := Lib.hid (blk_far H_544.out (Nat.ne_of_lt ne_534) _)
  have H_553 : Hid ((V_542.setCell ⟨X_529, 13, none⟩ (.int .i64 (rd (pt t C) ((0 : Nat) : Int)))).heap[X_507]? = some (.cells J 32 (0, 0))) := Lib.hid (blk_far H_545.out (Nat.ne_of_lt ne_536) _)
  have H_554 : Hid ((V_542.setCell ⟨X_529, 13, none⟩ (.int .i64 (rd (pt t C) ((0 : Nat) : Int)))).heap[X_517]? = some (.cells T 28 (0, 0))) := Lib.hid (blk_far H_546.out (Nat.ne_of_lt ne_538) _)
  have H_555 : Hid ((V_542.setCell ⟨X_529, 13, none⟩ (.int .i64 (rd (pt t C) ((0 : Nat) : Int)))).heap[X_529]? = some (.cells R1 30 (0, 0))) := Lib.hid (blk_put H_547.out 13 _ (by rw [eR0.out, eR1.out]; simp [RA, TA, ini]))
  have HE_556 : Hid (Below B0 w (V_542.setCell ⟨X_529, 13, none⟩ (.int .i64 (rd (pt t C) ((0 : Nat) : Int))))) := Lib.hid (HE_548.out.setCell (p := ⟨X_529, 13, none⟩) ge_539 _)
  clear cp_550 zp_551
  generalize (V_542.setCell ⟨X_529, 13, none⟩ (.int .i64 (rd (pt t C) ((0 : Nat) : Int)))) = V_549 at H_552 H_553 H_554 H_555 HE_556 ⊢
  clear HE_548 H_544 H_545 H_546 H_547
  have c_557 : V_549.cell? ⟨X_517, 2, none⟩ = some (.int .i64 D) := by rw [blk_cell H_554.out, eT.out, ← hD.out]; rfl
  have c_558 : V_549.cell? ⟨X_517, 3, none⟩ = some (.int .i64 C) := by rw [blk_cell H_554.out, eT.out, ← hCe.out]; rfl
  obtain ⟨X_559, hX_561⟩ : ∃ X, V_549.heap.size = X := ⟨_, rfl⟩
  obtain ⟨V_560, q_562_0, q_562_1, q_562_2, q_562_3⟩ := st_new (w := V_549) (T := 32) hX_561 zZ.out zJ.out oJ.out
  have ne_564 : B0 < X_559 := hX_561 ▸ blk_lt H_552.out
  have H_563 : Hid (V_560.heap[B0]? = some (.cells A0 24 (0, 0))) := Lib.hid ((q_562_2 _ ne_564).trans H_552.out)
  have ne_566 : X_507 < X_559 := hX_561 ▸ blk_lt H_553.out
  have H_565 : Hid (V_560.heap[X_507]? = some (.cells J 32 (0, 0))) := Lib.hid ((q_562_2 _ ne_566).trans H_553.out)
  have ne_568 : X_517 < X_559 := hX_561 ▸ blk_lt H_554.out
  have H_567 : Hid (V_560.heap[X_517]? = some (.cells T 28 (0, 0))) := Lib.hid ((q_562_2 _ ne_568).trans H_554.out)
  have ne_570 : X_529 < X_559 := hX_561 ▸ blk_lt H_555.out
  have H_569 : Hid (V_560.heap[X_529]? = some (.cells R1 30 (0, 0))) := Lib.hid ((q_562_2 _ ne_570).trans H_555.out)
  have ge_571 : B0 ≤ X_559 := hX_561 ▸ (sz_le hB0.out HE_556.out.size)
  have HE_572 : Hid (Below B0 w V_560) := Lib.hid (q_562_3 _ _ ge_571 HE_556.out)
  have H_573 := Lib.hid q_562_1
  clear q_562_1 q_562_2 q_562_3
  go_upto_region 15 with (first | ((with_reducible refine wpl_gate (T := 30) rfl ?_); refine wpl_ld _ _ rfl (by rfl) X_529 rfl H_555.out Try.underlying30 rfl (by kernel_rfl) zR1.out ?_) | ((with_reducible refine wpl_gateb (T := 32) rfl ?_); refine wpl_bld 32 _ rfl (by rfl) (job_built i no rel (rel + D) true true R1 zR1.out ePJ.out hPJ.out (by simp [go_sem, hw])) ?_))
  clear q_562_0 hX_561
  clear c_557 c_558
  clear HE_556 H_552 H_553 H_554 H_555
  go_upto_region 18 with (fail)
  have hwi : IntKind.i64.wrap (rel + D) = rel + D := by rw [i64_w]; exact hw
  have hwi' : IntKind.i64.wrap (rel + D - 1) = rel + D - 1 := by rw [i64_w]; exact hw'
  have hjj' := hjj.out
  have hjg' := hjg.out
  have hkk' := hkk.out
  have hkg' := hkg.out
  refine start_ (n := 37) (S := fun w' => w'.heap[X_507]? = some (.cells J 32 (0, 0)) ∧ w'.heap[X_559]? = some (.cells J 32 (0, 0)) ∧ w'.cell? ⟨X_517, 10, none⟩ = some (.int .i64 pr) ∧ w'.cell? ⟨X_517, 2, none⟩ = some (.int .i64 D)) (ds := []) #[false, false, false, false, false, false, false, false, false, false, false, false, false, false, false, false, false, false, false, false, false, false, false, false, false, false, false, false, false, false, false, false, false, false, false, false, false] (by kernel_rfl) rfl rfl ⟨H_565.out, H_573.out, (blk_cell H_567.out 10).trans (by rw [eT.out, ← hpr.out]; rfl), (blk_cell H_567.out 2).trans (by rw [eT.out, ← hD.out]; rfl)⟩ (fun hHeld => ?_)
  refine pure_ (i := 0) (N := (some 107)) (v := ?_) (a' := ?_) #[true, false, false, false, false, false, false, false, false, false, false, false, false, false, false, false, false, false, false, false, false, false, false, false, false, false, false, false, false, false, false, false, false, false, false, false, false] rfl rfl (by kernel_rfl) (fun _ _ _ h => h) (Or.inl ⟨by rfl, ?_⟩) ?_ ?_
  rotate_left
  · intro w'
    go_simp
    with_reducible rfl
  rotate_left
  · simp only [Act.put, List.setIfInBounds_toArray, List.set_cons_zero, List.set_cons_succ, i64_w, i32_w]
    rfl
  refine pure_ (i := 1) (N := (some 108)) (v := ?_) (a' := ?_) #[true, true, false, false, false, false, false, false, false, false, false, false, false, false, false, false, false, false, false, false, false, false, false, false, false, false, false, false, false, false, false, false, false, false, false, false, false] rfl rfl (by kernel_rfl) (fun _ _ _ h => h) (Or.inl ⟨by rfl, ?_⟩) ?_ ?_
  rotate_left
  · intro w'
    go_simp
    with_reducible rfl
  rotate_left
  · simp only [Act.put, List.setIfInBounds_toArray, List.set_cons_zero, List.set_cons_succ, i64_w, i32_w]
    rfl
  refine pure_ (i := 2) (N := (some 109)) (v := ?_) (a' := ?_) #[true, true, true, false, false, false, false, false, false, false, false, false, false, false, false, false, false, false, false, false, false, false, false, false, false, false, false, false, false, false, false, false, false, false, false, false, false] rfl rfl (by kernel_rfl) (fun _ _ _ h => h) (Or.inl ⟨by rfl, ?_⟩) ?_ ?_
  rotate_left
  · intro w'
    go_simp
    with_reducible rfl
  rotate_left
  · simp only [Act.put, List.setIfInBounds_toArray, List.set_cons_zero, List.set_cons_succ, i64_w, i32_w]
    rfl
  refine take_ (i := 3) (N := (some 110)) (v := .agg J) (a' := ?_) #[true, true, true, true, false, false, false, false, false, false, false, false, false, false, false, false, false, false, false, false, false, false, false, false, false, false, false, false, false, false, false, false, false, false, false, false, false] rfl rfl (by kernel_rfl) (fun _ _ _ h => h) (Or.inl ⟨by rfl, ?_⟩) hHeld ?_ ?_
  · rintro w' ⟨s0, s1, s2, s3⟩
    exact ld_op 32 _ rfl X_507 rfl s0 Try.underlying32 rfl (by kernel_rfl) zJ.out
  rotate_left
  · simp only [Act.put, List.setIfInBounds_toArray, List.set_cons_zero, List.set_cons_succ, i64_w, i32_w]
    rfl
  refine take_ (i := 4) (N := (some 111)) (v := .agg J) (a' := ?_) #[true, true, true, true, true, false, false, false, false, false, false, false, false, false, false, false, false, false, false, false, false, false, false, false, false, false, false, false, false, false, false, false, false, false, false, false, false] rfl rfl (by kernel_rfl) (fun _ _ _ h => h) (Or.inl ⟨by rfl, ?_⟩) hHeld ?_ ?_
  · rintro w' ⟨s0, s1, s2, s3⟩
    exact ld_op 32 _ rfl X_559 rfl s1 Try.underlying32 rfl (by kernel_rfl) zJ.out
  rotate_left
  · simp only [Act.put, List.setIfInBounds_toArray, List.set_cons_zero, List.set_cons_succ, i64_w, i32_w]
    rfl
  refine pure_ (i := 5) (N := (some 112)) (v := ?_) (a' := ?_) #[true, true, true, true, true, true, false, false, false, false, false, false, false, false, false, false, false, false, false, false, false, false, false, false, false, false, false, false, false, false, false, false, false, false, false, false, false] rfl rfl (by kernel_rfl) (fun _ _ _ h => h) (Or.inl ⟨by rfl, ?_⟩) ?_ ?_
  rotate_left
  · intro w'
    go_simp
    with_reducible rfl
  rotate_left
  · simp only [Act.put, List.setIfInBounds_toArray, List.set_cons_zero, List.set_cons_succ, i64_w, i32_w]
    rfl
  refine pure_ (i := 6) (N := (some 113)) (v := ?_) (a' := ?_) #[true, true, true, true, true, true, true, false, false, false, false, false, false, false, false, false, false, false, false, false, false, false, false, false, false, false, false, false, false, false, false, false, false, false, false, false, false] rfl rfl (by kernel_rfl) (fun _ _ _ h => h) (Or.inl ⟨by rfl, ?_⟩) ?_ ?_
  rotate_left
  · intro w'
    go_simp
    with_reducible rfl
  rotate_left
  · simp only [Act.put, List.setIfInBounds_toArray, List.set_cons_zero, List.set_cons_succ, i64_w, i32_w]
    rfl
  refine pure_ (i := 7) (N := (some 114)) (v := ?_) (a' := ?_) #[true, true, true, true, true, true, true, true, false, false, false, false, false, false, false, false, false, false, false, false, false, false, false, false, false, false, false, false, false, false, false, false, false, false, false, false, false] rfl rfl (by kernel_rfl) (fun _ _ _ h => h) (Or.inl ⟨by rfl, ?_⟩) ?_ ?_
  rotate_left
  · intro w'
    go_simp
    with_reducible rfl
  rotate_left
  · simp only [Act.put, List.setIfInBounds_toArray, List.set_cons_zero, List.set_cons_succ, i64_w, i32_w]
    rfl
  refine take_ (i := 8) (N := (some 115)) (v := .agg J) (a' := ?_) #[true, true, true, true, true, true, true, true, true, false, false, false, false, false, false, false, false, false, false, false, false, false, false, false, false, false, false, false, false, false, false, false, false, false, false, false, false] rfl rfl (by kernel_rfl) (fun _ _ _ h => h) (Or.inl ⟨by rfl, ?_⟩) hHeld ?_ ?_
  · rintro w' ⟨s0, s1, s2, s3⟩
    exact ld_op 32 _ rfl X_507 rfl s0 Try.underlying32 rfl (by kernel_rfl) zJ.out
  rotate_left
  · simp only [Act.put, List.setIfInBounds_toArray, List.set_cons_zero, List.set_cons_succ, i64_w, i32_w]
    rfl
  refine pure_ (i := 10) (N := (some 117)) (v := ?_) (a' := ?_) #[true, true, true, true, true, true, true, true, true, false, true, false, false, false, false, false, false, false, false, false, false, false, false, false, false, false, false, false, false, false, false, false, false, false, false, false, false] rfl rfl (by kernel_rfl) (fun _ _ _ h => h) (Or.inl ⟨by rfl, ?_⟩) ?_ ?_
  rotate_left
  · intro w'
    go_simp
    with_reducible rfl
  rotate_left
  · simp only [Act.put, List.setIfInBounds_toArray, List.set_cons_zero, List.set_cons_succ, i64_w, i32_w]
    rfl
  refine pure_ (i := 11) (N := (some 118)) (v := ?_) (a' := ?_) #[true, true, true, true, true, true, true, true, true, false, true, true, false, false, false, false, false, false, false, false, false, false, false, false, false, false, false, false, false, false, false, false, false, false, false, false, false] rfl rfl (by kernel_rfl) (fun _ _ _ h => h) (Or.inl ⟨by rfl, ?_⟩) ?_ ?_
  rotate_left
  · intro w'
    go_simp
    with_reducible rfl
  rotate_left
  · simp only [Act.put, List.setIfInBounds_toArray, List.set_cons_zero, List.set_cons_succ, i64_w, i32_w]
    rfl
  refine take_ (i := 12) (N := (some 119)) (v := ?_) (a' := ?_) #[true, true, true, true, true, true, true, true, true, false, true, true, true, false, false, false, false, false, false, false, false, false, false, false, false, false, false, false, false, false, false, false, false, false, false, false, false] rfl rfl (by kernel_rfl) (fun _ _ _ h => h) (Or.inl ⟨by rfl, ?_⟩) hHeld ?_ ?_
  rotate_left
  · rintro w' ⟨s0, s1, s2, s3⟩
    go_simp
    with_reducible rfl
  rotate_left
  · simp only [Act.put, List.setIfInBounds_toArray, List.set_cons_zero, List.set_cons_succ, i64_w, i32_w]
    rfl
  refine pure_ (i := 13) (N := (some 120)) (v := ?_) (a' := ?_) #[true, true, true, true, true, true, true, true, true, false, true, true, true, true, false, false, false, false, false, false, false, false, false, false, false, false, false, false, false, false, false, false, false, false, false, false, false] rfl rfl (by kernel_rfl) (fun _ _ _ h => h) (Or.inl ⟨by rfl, ?_⟩) ?_ ?_
  rotate_left
  · intro w'
    go_simp
    with_reducible rfl
  rotate_left
  · simp only [Act.put, List.setIfInBounds_toArray, List.set_cons_zero, List.set_cons_succ, i64_w, i32_w]
    rfl
  refine pure_ (i := 14) (N := (some 121)) (v := ?_) (a' := ?_) #[true, true, true, true, true, true, true, true, true, false, true, true, true, true, true, false, false, false, false, false, false, false, false, false, false, false, false, false, false, false, false, false, false, false, false, false, false] rfl rfl (by kernel_rfl) (fun _ _ _ h => h) (Or.inl ⟨by rfl, ?_⟩) ?_ ?_
  rotate_left
  · intro w'
    go_simp
    with_reducible rfl
  rotate_left
  · simp only [Act.put, List.setIfInBounds_toArray, List.set_cons_zero, List.set_cons_succ, i64_w, i32_w]
    rfl
  refine pure_ (i := 15) (N := (some 122)) (v := ?_) (a' := ?_) #[true, true, true, true, true, true, true, true, true, false, true, true, true, true, true, true, false, false, false, false, false, false, false, false, false, false, false, false, false, false, false, false, false, false, false, false, false] rfl rfl (by kernel_rfl) (fun _ _ _ h => h) (Or.inl ⟨by rfl, ?_⟩) ?_ ?_
  rotate_left
  · intro w'
    go_simp
    with_reducible rfl
  rotate_left
  · simp only [Act.put, List.setIfInBounds_toArray, List.set_cons_zero, List.set_cons_succ, i64_w, i32_w]
    rfl
  refine one_ (i := 9) (N := (some 116)) #[true, true, true, true, true, true, true, true, true, true, true, true, true, true, true, true, false, false, false, false, false, false, false, false, false, false, false, false, false, false, false, false, false, false, false, false, false] rfl rfl (by kernel_rfl) (by decide) (fun K hK => ?_)
  refine goes_ Try.func13 (by kernel_rfl) rfl #[.agg J] (by rfl) rfl rfl (by (try simp only [List.map_toArray, List.map_cons, List.map_nil]); first | done | rfl) ?_
  refine (keyj_c _ _ KK _ _ _ _ _ _ _ _ _ _ eJ.out (by rw [eKK.out, bnd_ini, hpr.out]; rfl)).mono ?_
  rintro e Va ⟨rfl, hb4⟩
  have Hja := Lib.hid ((hb4.block X_507 (blk_lt H_565.out)).trans H_565.out)
  have Hva := Lib.hid ((hb4.block X_559 (blk_lt H_573.out)).trans H_573.out)
  have Hta := Lib.hid ((hb4.block X_517 (blk_lt H_567.out)).trans H_567.out)
  have HEa := Lib.hid ((HE_572.out.drew).trans (hb4.mono (sz_le hB0.out HE_572.out.size)))
  refine ⟨_, rfl, ?_⟩
  refine hK.out _ _ ⟨Hja.out, Hva.out, (blk_cell Hta.out 10).trans (by rw [eT.out, ← hpr.out]; rfl), (blk_cell Hta.out 2).trans (by rw [eT.out, ← hD.out]; rfl)⟩ (fun hHeld => ?_)
  clear hb4 H_565 H_573 H_567 HE_572
  clear hK K
  refine norm_ (a' := ?_) ?_ ?_
  rotate_left
  · show Act.put _ (some 116) _ = _
    simp only [Act.put, List.setIfInBounds_toArray, List.set_cons_zero, List.set_cons_succ, i64_w, i32_w]
    rfl
  refine pure_ (i := 16) (N := (some 123)) (v := ?_) (a' := ?_) #[true, true, true, true, true, true, true, true, true, true, true, true, true, true, true, true, true, false, false, false, false, false, false, false, false, false, false, false, false, false, false, false, false, false, false, false, false] rfl rfl (by kernel_rfl) (fun _ _ _ h => h) (Or.inl ⟨by rfl, ?_⟩) ?_ ?_
  rotate_left
  · intro w'
    go_simp
    with_reducible rfl
  rotate_left
  · simp only [Act.put, List.setIfInBounds_toArray, List.set_cons_zero, List.set_cons_succ, i64_w, i32_w]
    rfl
  refine pure_ (i := 17) (N := (some 124)) (v := ?_) (a' := ?_) #[true, true, true, true, true, true, true, true, true, true, true, true, true, true, true, true, true, true, false, false, false, false, false, false, false, false, false, false, false, false, false, false, false, false, false, false, false] rfl rfl (by kernel_rfl) (fun _ _ _ h => h) (Or.inl ⟨by rfl, ?_⟩) ?_ ?_
  rotate_left
  · intro w'
    go_simp
    with_reducible rfl
  rotate_left
  · simp only [Act.put, List.setIfInBounds_toArray, List.set_cons_zero, List.set_cons_succ, i64_w, i32_w]
    rfl
  refine pure_ (i := 18) (N := (some 125)) (v := ?_) (a' := ?_) #[true, true, true, true, true, true, true, true, true, true, true, true, true, true, true, true, true, true, true, false, false, false, false, false, false, false, false, false, false, false, false, false, false, false, false, false, false] rfl rfl (by kernel_rfl) (fun _ _ _ h => h) (Or.inl ⟨by rfl, ?_⟩) ?_ ?_
  rotate_left
  · intro w'
    go_simp
    with_reducible rfl
  rotate_left
  · simp only [Act.put, List.setIfInBounds_toArray, List.set_cons_zero, List.set_cons_succ, i64_w, i32_w]
    rfl
  refine take_ (i := 19) (N := (some 126)) (v := .agg J) (a' := ?_) #[true, true, true, true, true, true, true, true, true, true, true, true, true, true, true, true, true, true, true, true, false, false, false, false, false, false, false, false, false, false, false, false, false, false, false, false, false] rfl rfl (by kernel_rfl) (fun _ _ _ h => h) (Or.inl ⟨by rfl, ?_⟩) hHeld ?_ ?_
  · rintro w' ⟨s0, s1, s2, s3⟩
    exact ld_op 32 _ rfl X_507 rfl s0 Try.underlying32 rfl (by kernel_rfl) zJ.out
  rotate_left
  · simp only [Act.put, List.setIfInBounds_toArray, List.set_cons_zero, List.set_cons_succ, i64_w, i32_w]
    rfl
  refine pure_ (i := 20) (N := (some 127)) (v := ?_) (a' := ?_) #[true, true, true, true, true, true, true, true, true, true, true, true, true, true, true, true, true, true, true, true, true, false, false, false, false, false, false, false, false, false, false, false, false, false, false, false, false] rfl rfl (by kernel_rfl) (fun _ _ _ h => h) (Or.inl ⟨by rfl, ?_⟩) ?_ ?_
  rotate_left
  · intro w'
    go_simp
    with_reducible rfl
  rotate_left
  · simp only [Act.put, List.setIfInBounds_toArray, List.set_cons_zero, List.set_cons_succ, i64_w, i32_w]
    rfl
  refine pure_ (i := 21) (N := (some 128)) (v := ?_) (a' := ?_) #[true, true, true, true, true, true, true, true, true, true, true, true, true, true, true, true, true, true, true, true, true, true, false, false, false, false, false, false, false, false, false, false, false, false, false, false, false] rfl rfl (by kernel_rfl) (fun _ _ _ h => h) (Or.inl ⟨by rfl, ?_⟩) ?_ ?_
  rotate_left
  · intro w'
    go_simp
    with_reducible rfl
  rotate_left
  · simp only [Act.put, List.setIfInBounds_toArray, List.set_cons_zero, List.set_cons_succ, i64_w, i32_w]
    rfl
  refine take_ (i := 22) (N := (some 129)) (v := ?_) (a' := ?_) #[true, true, true, true, true, true, true, true, true, true, true, true, true, true, true, true, true, true, true, true, true, true, true, false, false, false, false, false, false, false, false, false, false, false, false, false, false] rfl rfl (by kernel_rfl) (fun _ _ _ h => h) (Or.inl ⟨by rfl, ?_⟩) hHeld ?_ ?_
  rotate_left
  · rintro w' ⟨s0, s1, s2, s3⟩
    go_simp
    with_reducible rfl
  rotate_left
  · simp only [Act.put, List.setIfInBounds_toArray, List.set_cons_zero, List.set_cons_succ, i64_w, i32_w]
    rfl
  refine pure_ (i := 23) (N := (some 130)) (v := ?_) (a' := ?_) #[true, true, true, true, true, true, true, true, true, true, true, true, true, true, true, true, true, true, true, true, true, true, true, true, false, false, false, false, false, false, false, false, false, false, false, false, false] rfl rfl (by kernel_rfl) (fun _ _ _ h => h) (Or.inl ⟨by rfl, ?_⟩) ?_ ?_
  rotate_left
  · intro w'
    go_simp
    with_reducible rfl
  rotate_left
  · simp only [Act.put, List.setIfInBounds_toArray, List.set_cons_zero, List.set_cons_succ, i64_w, i32_w]
    rfl
  refine one_ (i := 24) (N := (some 131)) #[true, true, true, true, true, true, true, true, true, true, true, true, true, true, true, true, true, true, true, true, true, true, true, true, true, false, false, false, false, false, false, false, false, false, false, false, false] rfl rfl (by kernel_rfl) (by decide) (fun K hK => ?_)
  refine goes_ Try.func14 (by kernel_rfl) rfl #[.agg J, .int .i64 (rel + D)] (by rfl) rfl rfl (by (try simp only [List.map_toArray, List.map_cons, List.map_nil]); first | done | rfl) ?_
  refine (late_b _ _ (rel + D) (rel + D) true hJ3.out (by simp)).mono ?_
  rintro e Vb ⟨rfl, hb4⟩
  have Hjb := Lib.hid ((hb4.block X_507 (blk_lt Hja.out)).trans Hja.out)
  have Hvb := Lib.hid ((hb4.block X_559 (blk_lt Hva.out)).trans Hva.out)
  have Htb := Lib.hid ((hb4.block X_517 (blk_lt Hta.out)).trans Hta.out)
  have HEb := Lib.hid ((HEa.out).trans (hb4.mono (sz_le hB0.out HEa.out.size)))
  refine ⟨_, rfl, ?_⟩
  refine hK.out _ _ ⟨Hjb.out, Hvb.out, (blk_cell Htb.out 10).trans (by rw [eT.out, ← hpr.out]; rfl), (blk_cell Htb.out 2).trans (by rw [eT.out, ← hD.out]; rfl)⟩ (fun hHeld => ?_)
  clear hb4 Hja Hva Hta HEa
  clear hK K
  refine norm_ (a' := ?_) ?_ ?_
  rotate_left
  · show Act.put _ (some 131) _ = _
    simp only [Act.put, List.setIfInBounds_toArray, List.set_cons_zero, List.set_cons_succ, i64_w, i32_w]
    rfl
  refine pure_ (i := 25) (N := (some 132)) (v := ?_) (a' := ?_) #[true, true, true, true, true, true, true, true, true, true, true, true, true, true, true, true, true, true, true, true, true, true, true, true, true, true, false, false, false, false, false, false, false, false, false, false, false] rfl rfl (by kernel_rfl) (fun _ _ _ h => h) (Or.inl ⟨by rfl, ?_⟩) ?_ ?_
  rotate_left
  · intro w'
    go_simp
    with_reducible rfl
  rotate_left
  · simp only [Act.put, List.setIfInBounds_toArray, List.set_cons_zero, List.set_cons_succ, i64_w, i32_w]
    rfl
  refine pure_ (i := 26) (N := (some 133)) (v := ?_) (a' := ?_) #[true, true, true, true, true, true, true, true, true, true, true, true, true, true, true, true, true, true, true, true, true, true, true, true, true, true, true, false, false, false, false, false, false, false, false, false, false] rfl rfl (by kernel_rfl) (fun _ _ _ h => h) (Or.inl ⟨by rfl, ?_⟩) ?_ ?_
  rotate_left
  · intro w'
    go_simp
    with_reducible rfl
  rotate_left
  · simp only [Act.put, List.setIfInBounds_toArray, List.set_cons_zero, List.set_cons_succ, i64_w, i32_w]
    rfl
  refine take_ (i := 27) (N := (some 134)) (v := .agg J) (a' := ?_) #[true, true, true, true, true, true, true, true, true, true, true, true, true, true, true, true, true, true, true, true, true, true, true, true, true, true, true, true, false, false, false, false, false, false, false, false, false] rfl rfl (by kernel_rfl) (fun _ _ _ h => h) (Or.inl ⟨by rfl, ?_⟩) hHeld ?_ ?_
  · rintro w' ⟨s0, s1, s2, s3⟩
    exact ld_op 32 _ rfl X_507 rfl s0 Try.underlying32 rfl (by kernel_rfl) zJ.out
  rotate_left
  · simp only [Act.put, List.setIfInBounds_toArray, List.set_cons_zero, List.set_cons_succ, i64_w, i32_w]
    rfl
  refine pure_ (i := 28) (N := (some 135)) (v := ?_) (a' := ?_) #[true, true, true, true, true, true, true, true, true, true, true, true, true, true, true, true, true, true, true, true, true, true, true, true, true, true, true, true, true, false, false, false, false, false, false, false, false] rfl rfl (by kernel_rfl) (fun _ _ _ h => h) (Or.inl ⟨by rfl, ?_⟩) ?_ ?_
  rotate_left
  · intro w'
    go_simp
    with_reducible rfl
  rotate_left
  · simp only [Act.put, List.setIfInBounds_toArray, List.set_cons_zero, List.set_cons_succ, i64_w, i32_w]
    rfl
  refine pure_ (i := 29) (N := (some 136)) (v := ?_) (a' := ?_) #[true, true, true, true, true, true, true, true, true, true, true, true, true, true, true, true, true, true, true, true, true, true, true, true, true, true, true, true, true, true, false, false, false, false, false, false, false] rfl rfl (by kernel_rfl) (fun _ _ _ h => h) (Or.inl ⟨by rfl, ?_⟩) ?_ ?_
  rotate_left
  · intro w'
    go_simp
    with_reducible rfl
  rotate_left
  · simp only [Act.put, List.setIfInBounds_toArray, List.set_cons_zero, List.set_cons_succ, i64_w, i32_w]
    rfl
  refine take_ (i := 30) (N := (some 137)) (v := ?_) (a' := ?_) #[true, true, true, true, true, true, true, true, true, true, true, true, true, true, true, true, true, true, true, true, true, true, true, true, true, true, true, true, true, true, true, false, false, false, false, false, false] rfl rfl (by kernel_rfl) (fun _ _ _ h => h) (Or.inl ⟨by rfl, ?_⟩) hHeld ?_ ?_
  rotate_left
  · rintro w' ⟨s0, s1, s2, s3⟩
    go_simp
    with_reducible rfl
  rotate_left
  · simp only [Act.put, List.setIfInBounds_toArray, List.set_cons_zero, List.set_cons_succ, i64_w, i32_w]
    rfl
  refine pure_ (i := 31) (N := (some 138)) (v := ?_) (a' := ?_) #[true, true, true, true, true, true, true, true, true, true, true, true, true, true, true, true, true, true, true, true, true, true, true, true, true, true, true, true, true, true, true, true, false, false, false, false, false] rfl rfl (by kernel_rfl) (fun _ _ _ h => h) (Or.inl ⟨by rfl, ?_⟩) ?_ ?_
  rotate_left
  · intro w'
    go_simp
    with_reducible rfl
  rotate_left
  · simp only [Act.put, List.setIfInBounds_toArray, List.set_cons_zero, List.set_cons_succ, i64_w, i32_w]
    rfl
  refine pure_ (i := 32) (N := (some 139)) (v := ?_) (a' := ?_) #[true, true, true, true, true, true, true, true, true, true, true, true, true, true, true, true, true, true, true, true, true, true, true, true, true, true, true, true, true, true, true, true, true, false, false, false, false] rfl rfl (by kernel_rfl) (fun _ _ _ h => h) (Or.inl ⟨by rfl, ?_⟩) ?_ ?_
  rotate_left
  · intro w'
    go_simp
    with_reducible rfl
  rotate_left
  · simp only [Act.put, List.setIfInBounds_toArray, List.set_cons_zero, List.set_cons_succ, i64_w, i32_w]
    rfl
  refine one_ (i := 33) (N := (some 140)) #[true, true, true, true, true, true, true, true, true, true, true, true, true, true, true, true, true, true, true, true, true, true, true, true, true, true, true, true, true, true, true, true, true, true, false, false, false] rfl rfl (by kernel_rfl) (by decide) (fun K hK => ?_)
  refine goes_ Try.func14 (by kernel_rfl) rfl #[.agg J, .int .i64 (rel + D - 1)] (by rfl) rfl rfl (by (try simp only [List.map_toArray, List.map_cons, List.map_nil]); first | done | rfl) ?_
  refine (late_b _ _ (rel + D) (rel + D - 1) false hJ3.out (by simp; omega)).mono ?_
  rintro e Vc ⟨rfl, hb4⟩
  have Hjc := Lib.hid ((hb4.block X_507 (blk_lt Hjb.out)).trans Hjb.out)
  have Hvc := Lib.hid ((hb4.block X_559 (blk_lt Hvb.out)).trans Hvb.out)
  have Htc := Lib.hid ((hb4.block X_517 (blk_lt Htb.out)).trans Htb.out)
  have HEc := Lib.hid ((HEb.out).trans (hb4.mono (sz_le hB0.out HEb.out.size)))
  refine ⟨_, rfl, ?_⟩
  refine hK.out _ _ ⟨Hjc.out, Hvc.out, (blk_cell Htc.out 10).trans (by rw [eT.out, ← hpr.out]; rfl), (blk_cell Htc.out 2).trans (by rw [eT.out, ← hD.out]; rfl)⟩ (fun hHeld => ?_)
  clear hb4 Hjb Hvb Htb HEb
  clear hK K
  refine norm_ (a' := ?_) ?_ ?_
  rotate_left
  · show Act.put _ (some 140) _ = _
    simp only [Act.put, List.setIfInBounds_toArray, List.set_cons_zero, List.set_cons_succ, i64_w, i32_w]
    rfl
  refine pure_ (i := 34) (N := (some 141)) (v := ?_) (a' := ?_) #[true, true, true, true, true, true, true, true, true, true, true, true, true, true, true, true, true, true, true, true, true, true, true, true, true, true, true, true, true, true, true, true, true, true, true, false, false] rfl rfl (by kernel_rfl) (fun _ _ _ h => h) (Or.inl ⟨by rfl, ?_⟩) ?_ ?_
  rotate_left
  · intro w'
    go_simp
    with_reducible rfl
  rotate_left
  · simp only [Act.put, List.setIfInBounds_toArray, List.set_cons_zero, List.set_cons_succ, i64_w, i32_w]
    rfl
  refine pure_ (i := 35) (N := (some 142)) (v := ?_) (a' := ?_) #[true, true, true, true, true, true, true, true, true, true, true, true, true, true, true, true, true, true, true, true, true, true, true, true, true, true, true, true, true, true, true, true, true, true, true, true, false] rfl rfl (by kernel_rfl) (fun _ _ _ h => h) (Or.inl ⟨by rfl, ?_⟩) ?_ ?_
  rotate_left
  · intro w'
    go_simp
    with_reducible rfl
  rotate_left
  · simp only [Act.put, List.setIfInBounds_toArray, List.set_cons_zero, List.set_cons_succ, i64_w, i32_w]
    rfl
  refine pure_ (i := 36) (N := (some 12)) (v := ?_) (a' := ?_) #[true, true, true, true, true, true, true, true, true, true, true, true, true, true, true, true, true, true, true, true, true, true, true, true, true, true, true, true, true, true, true, true, true, true, true, true, true] rfl rfl (by kernel_rfl) (fun _ _ _ h => h) (Or.inl ⟨by rfl, ?_⟩) ?_ ?_
  rotate_left
  · intro w'
    go_simp
    with_reducible rfl
  rotate_left
  · simp only [Act.put, List.setIfInBounds_toArray, List.set_cons_zero, List.set_cons_succ, i64_w, i32_w]
    rfl
  refine done_ (by kernel_rfl) ?_
  go_wp2
  go_ret
  exact ⟨rfl, by first | exact HEc.out | exact HEc.out.drew | exact pw_below_drewN HEc.out _⟩
end Go.Proofs.Ytpjehbcchanmhaa.PS
