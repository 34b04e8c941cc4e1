/- awake of the laws, walked. -/
import Derived.Test.YtnidcoooenhebaaFw
namespace Go.Proofs.Ytnidcoooenhebaa.PS
open Go.RowKit Go.Proofs.Ytnidcoooenhebaa.PC Go.Proofs.YtnidcoooenhebaaW.PrintWords Go.Proofs.YtnidcoooenhebaaW.PrintLast Go.Proofs.YtnidcoooenhebaaW.PrintMore
attribute [local go_sem] max2_int min2_int max_two min_two max_three min_three max_four min_four   -- for this text's walks alone
set_option linter.unusedVariables false
set_option linter.unusedSimpArgs false
theorem wpl_bld {ops : Array Oper} {rest : List Oper} {o : Oper} {a : Act} {w : World} {Q : Exit → Act → World → Prop} (T : TypeId) (parts : Array (Nat × Operand)) (ho : o.op = .build T parts) (hw : Region.wanted o (yielded ops a.tmps) = true) {A : Array Value}
    (hb : Try.prog.built T (parts.map fun (i, x) => (i, a.eval x)).toList = some A) (h : wpList Try.prog ops Q rest (a.put o.dst (.agg A)) w) : wpList Try.prog ops Q (o :: rest) a w := by
  unfold wpList
  rw [if_pos hw]
  exact Or.inl (wp_build T parts ho (by rw [hb]; rfl) (by rw [hb]; exact h))
theorem set_built (g : Nat) {L : List (Nat × Value)} (h : L = [(0, .int .i64 1), (1, .slice (some ⟨g, 0, none⟩) 2 2)]) {A : Array Value} (eA : A = #[.int .i64 1, .slice (some ⟨g, 0, none⟩) 2 2]) : Try.prog.built 24 L = some A := by
  subst h eA
  kernel_rfl
section
variable {W : World} {g : Nat} {TK SS : Array Value} (hk : W.heap[g]? = some (.cells TK 39 (0, 0))) (hT : TK = TA ta ++ TA tb) (hS : SS = #[.int .i64 1, .slice (some ⟨g, 0, none⟩) 2 2])
include hk hT hS
theorem aw_c0 : Calls Try.prog 20 #[.agg SS, .int .i64 0, .int .i64 1000] W fun e w' => e = .returned (.tuple #[.int .i64 8, .bool true]) ∧ Below W.heap.size W w' := by
  have := response_c W 1 ⟨g, 0, none⟩ [ta, tb] 2 (by simp) (two_C hk ta tb hT) aw_ok 0 (by omega) (by simp) 1000 (by omega) (by omega) SS hS
  rwa [aw_r0] at this
theorem aw_c1 : Calls Try.prog 20 #[.agg SS, .int .i64 1, .int .i64 1000] W fun e w' => e = .returned (.tuple #[.int .i64 12, .bool true]) ∧ Below W.heap.size W w' := by
  have := response_c W 1 ⟨g, 0, none⟩ [ta, tb] 2 (by simp) (two_C hk ta tb hT) aw_ok 1 (by omega) (by simp) 1000 (by omega) (by omega) SS hS
  rwa [aw_r1] at this
theorem aw_c2 : Calls Try.prog 13 #[.agg SS, .int .i64 1, .int .i64 1000, .int .i64 0] W fun e w' => e = .returned (.tuple #[.int .i64 6, .bool true]) ∧ Below W.heap.size W w' := by
  have := next_c W 1 ⟨g, 0, none⟩ [ta, tb] 2 (by simp) (two_C hk ta tb hT) aw_ok 1 (by omega) (by simp) 1000 (by omega) (by omega) 0 (by omega) (by omega) SS hS
  rwa [aw_n] at this
theorem aw_c3 : Calls Try.prog 14 #[.agg SS, .int .i64 0] W fun e w' => e = .returned (.int .i64 3) ∧ Below W.heap.size W w' := by
  have := dear_c W 1 ⟨g, 0, none⟩ [ta, tb] 2 (by simp) (two_C hk ta tb hT) aw_ok 0 (by omega) (by simp) SS hS
  rwa [aw_d] at this
theorem aw_c4 : Calls Try.prog 16 #[.agg SS, .int .i64 0] W fun e w' => e = .returned (.int .i64 2) ∧ Below W.heap.size W w' := by
  have := ahead_c W 1 ⟨g, 0, none⟩ [ta, tb] 2 (by simp) (two_C hk ta tb hT) aw_ok 0 (by omega) (by simp) SS hS
  rwa [aw_a] at this
end
set_option maxRecDepth 100000 in
set_option maxHeartbeats 6000000 in
theorem awake_walk (w : World) : Calls Try.prog 9 #[] w fun e w' => e = .returned (.bool true) ∧ Below w.heap.size w w' := by
  obtain ⟨ZS, eZS⟩ : ∃ A : Array Value, A = #[.int .i64 0, .slice none 0 0] := ⟨_, rfl⟩
  have zZS : Hid (ZS.size = 2) := Lib.hid (by rw [eZS]; rfl)
  have oZS : Hid (ZS.all (·.oneCell') = true) := Lib.hid (by rw [eZS]; simp [Value.oneCell'])
  replace eZS := Lib.hid eZS
  have hz4 : ∀ V : World, (zeroValue 24).run Try.prog V = .ok (.agg ZS) V := fun V => by rw [eZS.out]; kernel_rfl
  obtain ⟨B0, hB0⟩ : ∃ B, w.heap.size = B := ⟨_, rfl⟩
  rw [hB0]
  obtain ⟨TK, eTK⟩ : ∃ A : Array Value, A = #[.string ⟨#[97]⟩, .int .i64 20, .int .i64 20, .int .i64 3, .int .i64 0, .int .i64 3, .int .i64 0, .int .i64 1, .int .i64 1, .int .i64 1, .int .i64 1, .string ⟨#[98]⟩, .int .i64 50, .int .i64 40, .int .i64 4, .int .i64 2, .int .i64 0, .int .i64 0, .int .i64 1, .int .i64 1, .int .i64 3, .int .i64 2] := ⟨_, rfl⟩
  have hTK : Hid (TK = TA ta ++ TA tb) := Lib.hid (by rw [eTK]; rfl)
  obtain ⟨V1, hV1⟩ : ∃ V, w.alloc (.cells #[.string ⟨#[97]⟩, .int .i64 20, .int .i64 20, .int .i64 3, .int .i64 0, .int .i64 3, .int .i64 0, .int .i64 1, .int .i64 1, .int .i64 1, .int .i64 1, .string ⟨#[98]⟩, .int .i64 50, .int .i64 40, .int .i64 4, .int .i64 2, .int .i64 0, .int .i64 0, .int .i64 1, .int .i64 1, .int .i64 3, .int .i64 2] 39) = V := ⟨_, rfl⟩
  have Hk : Hid (V1.heap[B0]? = some (.cells TK 39 (0, 0))) := Lib.hid (by rw [← hV1, eTK]; exact (box_new hB0).1)
  have HE : Hid (Below B0 w V1) := Lib.hid (by rw [← hV1, ← hB0]; exact (Below.refl _ _).alloc (Nat.le_refl _) _)
  replace eTK := Lib.hid eTK
  have hB0' := hB0
  obtain ⟨SS, eSS⟩ : ∃ A : Array Value, A = #[.int .i64 1, .slice (some ⟨B0, 0, none⟩) 2 2] := ⟨_, rfl⟩
  have zSS : Hid (SS.size = 2) := Lib.hid (by rw [eSS]; rfl)
  have oSS : Hid (SS.all (·.oneCell') = true) := Lib.hid (by rw [eSS]; simp [Value.oneCell'])
  replace eSS := Lib.hid eSS
  replace hB0 := Lib.hid hB0
  go_enter Try.func9, Try.ntmps9
  obtain ⟨X_166, hX_168⟩ : ∃ X, V1.heap.size = X := ⟨_, rfl⟩
  obtain ⟨V_167, q_169_0, q_169_1, q_169_2, q_169_3⟩ := st_new (w := V1) (T := 24) hX_168 zZS.out zSS.out oSS.out
  have ne_171 : B0 < X_166 := hX_168 ▸ blk_lt Hk.out
  have H_170 : Hid (V_167.heap[B0]? = some (.cells TK 39 (0, 0))) := Lib.hid ((q_169_2 _ ne_171).trans Hk.out)
  have ge_172 : B0 ≤ X_166 := hX_168 ▸ (sz_le hB0.out HE.out.size)
  have HE_173 : Hid (Below B0 w V_167) := Lib.hid (q_169_3 _ _ ge_172 HE.out)
  have H_174 := Lib.hid q_169_1
  clear q_169_1 q_169_2 q_169_3
  go_upto_region 2 with (first | ((with_reducible refine wpl_gateb (T := 24) rfl ?_); refine wpl_bld 24 _ rfl (by rfl) (set_built B0 (by simp [go_sem]) eSS.out) ?_))
  clear q_169_0 hX_168
  clear HE Hk
  go_wp2_with (first | ((with_reducible refine wpl_gate (T := 24) rfl ?_); refine wpl_ld _ _ rfl (by rfl) X_166 rfl H_174.out Try.underlying24 rfl (by kernel_rfl) zSS.out ?_))
  refine (aw_c0 H_170.out hTK.out eSS.out).mono ?_; rintro e V_175 ⟨rfl, hb_176⟩
  have H_177 : Hid (V_175.heap[B0]? = some (.cells TK 39 (0, 0))) := Lib.hid ((hb_176.block B0 (blk_lt H_170.out)).trans H_170.out)
  have H_178 : Hid (V_175.heap[X_166]? = some (.cells SS 24 (0, 0))) := Lib.hid ((hb_176.block X_166 (blk_lt H_174.out)).trans H_174.out)
  have HE_179 : Hid (Below B0 w V_175) := Lib.hid (HE_173.out.trans (hb_176.mono (sz_le hB0.out HE_173.out.size)))
  clear HE_173 H_170 H_174
  clear hb_176
  go_wp2_with (first | ((with_reducible refine wpl_gate (T := 24) rfl ?_); refine wpl_ld _ _ rfl (by rfl) X_166 rfl H_178.out Try.underlying24 rfl (by kernel_rfl) zSS.out ?_))
  refine (aw_c1 H_177.out hTK.out eSS.out).mono ?_; rintro e V_180 ⟨rfl, hb_181⟩
  have H_182 : Hid (V_180.heap[B0]? = some (.cells TK 39 (0, 0))) := Lib.hid ((hb_181.block B0 (blk_lt H_177.out)).trans H_177.out)
  have H_183 : Hid (V_180.heap[X_166]? = some (.cells SS 24 (0, 0))) := Lib.hid ((hb_181.block X_166 (blk_lt H_178.out)).trans H_178.out)
  have HE_184 : Hid (Below B0 w V_180) := Lib.hid (HE_179.out.trans (hb_181.mono (sz_le hB0.out HE_179.out.size)))
  clear HE_179 H_177 H_178
  clear hb_181
  go_wp2_with (first | ((with_reducible refine wpl_gate (T := 24) rfl ?_); refine wpl_ld _ _ rfl (by rfl) X_166 rfl H_183.out Try.underlying24 rfl (by kernel_rfl) zSS.out ?_))
  refine (aw_c2 H_182.out hTK.out eSS.out).mono ?_; rintro e V_185 ⟨rfl, hb_186⟩
  have H_187 : Hid (V_185.heap[B0]? = some (.cells TK 39 (0, 0))) := Lib.hid ((hb_186.block B0 (blk_lt H_182.out)).trans H_182.out)
  have H_188 : Hid (V_185.heap[X_166]? = some (.cells SS 24 (0, 0))) := Lib.hid ((hb_186.block X_166 (blk_lt H_183.out)).trans H_183.out)
  have HE_189 : Hid (Below B0 w V_185) := Lib.hid (HE_184.out.trans (hb_186.mono (sz_le hB0.out HE_184.out.size)))
  clear HE_184 H_182 H_183
  clear hb_186
  go_wp2_with (first | ((with_reducible refine wpl_gate (T := 24) rfl ?_); refine wpl_ld _ _ rfl (by rfl) X_166 rfl H_188.out Try.underlying24 rfl (by kernel_rfl) zSS.out ?_))
  refine (aw_c3 H_187.out hTK.out eSS.out).mono ?_; rintro e V_190 ⟨rfl, hb_191⟩
  have H_192 : Hid (V_190.heap[B0]? = some (.cells TK 39 (0, 0))) := Lib.hid ((hb_191.block B0 (blk_lt H_187.out)).trans H_187.out)
  have H_193 : Hid (V_190.heap[X_166]? = some (.cells SS 24 (0, 0))) := Lib.hid ((hb_191.block X_166 (blk_lt H_188.out)).trans H_188.out)
  have HE_194 : Hid (Below B0 w V_190) := Lib.hid (HE_189.out.trans (hb_191.mono (sz_le hB0.out HE_189.out.size)))
  clear HE_189 H_187 H_188
  clear hb_191
  go_wp2_with (first | ((with_reducible refine wpl_gate (T := 24) rfl ?_); refine wpl_ld _ _ rfl (by rfl) X_166 rfl H_193.out Try.underlying24 rfl (by kernel_rfl) zSS.out ?_))
  refine (aw_c4 H_192.out hTK.out eSS.out).mono ?_; rintro e V_195 ⟨rfl, hb_196⟩
  have H_197 : Hid (V_195.heap[B0]? = some (.cells TK 39 (0, 0))) := Lib.hid ((hb_196.block B0 (blk_lt H_192.out)).trans H_192.out)
  have H_198 : Hid (V_195.heap[X_166]? = some (.cells SS 24 (0, 0))) := Lib.hid ((hb_196.block X_166 (blk_lt H_193.out)).trans H_193.out)
  have HE_199 : Hid (Below B0 w V_195) := Lib.hid (HE_194.out.trans (hb_196.mono (sz_le hB0.out HE_194.out.size)))
  clear HE_194 H_192 H_193
  clear hb_196
  go_wp2
  go_ret
  exact ⟨rfl, HE_199.out⟩
end Go.Proofs.Ytnidcoooenhebaa.PS
