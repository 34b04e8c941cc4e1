/- job.New: what it computes. -/
import Derived.Test.YtpjehbcchanmhaaMid
namespace Go.Proofs.Ytpjehbcchanmhaa.PC
open Go.RowKit Go.Proofs.YtpjehbcchanmhaaW.PrintWords Go.Proofs.YtpjehbcchanmhaaW.PrintLast Go.Proofs.YtpjehbcchanmhaaW.PrintMore
set_option linter.unusedVariables false
set_option linter.unusedSimpArgs false
theorem wpl_ldr {ops : Array Oper} {rest : List Oper} {o : Oper} {a : Act} {w : World} {Q : Exit → Act → World → Prop} (T : TypeId) (x : Operand) (ho : o.op = .load T x) (hw : Region.wanted o (yielded ops a.tmps) = true) (p : Addr) (hx : a.eval x = .pointer (some p)) {A : Array Value} {n : Nat} {d : TypeDesc}
    (hg : ∀ j v, A.toList[j]? = some v → w.cell? (p.add j) = some v) (hu : Try.prog.underlying T = some d) (hd : d.isRow = true) (hi : (Try.prog.info? T).map (·.size) = some n) (hA : A.size = n) (h : wpList Try.prog ops Q rest (a.put o.dst (.agg A)) w) : wpList Try.prog ops Q (o :: rest) a w := by
  have hl : (loadCells p A.toList.length).run Try.prog w = .ok A.toList.toArray w := run_loadCells_list (P := Try.prog) w p A.toList hg
  have hv : (loadVar T p).run Try.prog w = .ok (.agg A) w := by
    cases hq : Try.prog.info? T with
    | none => simp [hq] at hi
    | some i =>
      have hs : i.size = A.toList.length := by simpa [hq, hA] using hi
      have hagg : (isAgg T).run Try.prog w = .ok true w := by
        unfold isAgg
        rw [Sem.run_bind, run_underlying hu w]
        cases d <;> simp_all
      rw [← hs] at hl
      simp only [loadVar, Sem.run_bind, hagg, Result.andThen_ok, if_true, sizeOf, typeInfo, hq, hl, Sem.run_pure]
      simp [hq, hl]
  unfold wpList
  rw [if_pos hw]
  refine Or.inl ?_
  unfold Oper.wp execOp
  simp only [ho, hx, Instr.loadAt, Instr.sureAddr, Sem.run_bind, Sem.run_pure, Result.andThen_ok, hv]
  exact h
theorem wpl_bld {ops : Array Oper} {rest : List Oper} {o : Oper} {a : Act} {w : World} {Q : Exit → Act → World → Prop} (T : TypeId) (parts : Array (Nat × Operand)) (ho : o.op = .build T parts) (hw : Region.wanted o (yielded ops a.tmps) = true) {A : Array Value}
    (hb : Try.prog.built T (parts.map fun (i, x) => (i, a.eval x)).toList = some A) (h : wpList Try.prog ops Q rest (a.put o.dst (.agg A)) w) : wpList Try.prog ops Q (o :: rest) a w := by
  unfold wpList
  rw [if_pos hw]
  exact Or.inl (wp_build T parts ho (by rw [hb]; rfl) (by rw [hb]; exact h))
theorem row16 (R : Array Value) (h : R.size = 16) : ∃ r0 r1 r2 r3 r4 r5 r6 r7 r8 r9 r10 r11 r12 r13 r14 r15, R = #[r0, r1, r2, r3, r4, r5, r6, r7, r8, r9, r10, r11, r12, r13, r14, r15] := by
  obtain ⟨l⟩ := R
  obtain _ | ⟨r0, l⟩ := l
  · simp at h
  obtain _ | ⟨r1, l⟩ := l
  · simp at h
  obtain _ | ⟨r2, l⟩ := l
  · simp at h
  obtain _ | ⟨r3, l⟩ := l
  · simp at h
  obtain _ | ⟨r4, l⟩ := l
  · simp at h
  obtain _ | ⟨r5, l⟩ := l
  · simp at h
  obtain _ | ⟨r6, l⟩ := l
  · simp at h
  obtain _ | ⟨r7, l⟩ := l
  · simp at h
  obtain _ | ⟨r8, l⟩ := l
  · simp at h
  obtain _ | ⟨r9, l⟩ := l
  · simp at h
  obtain _ | ⟨r10, l⟩ := l
  · simp at h
  obtain _ | ⟨r11, l⟩ := l
  · simp at h
  obtain _ | ⟨r12, l⟩ := l
  · simp at h
  obtain _ | ⟨r13, l⟩ := l
  · simp at h
  obtain _ | ⟨r14, l⟩ := l
  · simp at h
  obtain _ | ⟨r15, l⟩ := l
  · simp at h
  obtain _ | ⟨r16, l⟩ := l
  · exact ⟨r0, r1, r2, r3, r4, r5, r6, r7, r8, r9, r10, r11, r12, r13, r14, r15, rfl⟩
  · simp at h
set_option maxRecDepth 100000 in
theorem job_built (a1 a2 a3 a4 : Int) (a5 ov : Bool) (R : Array Value) (zR : R.size = 16) {P J : Array Value} (eP : P = #[.int .i64 a1, .int .i64 a2, .int .i64 a3, .int .i64 a4, .bool a5, .bool ov, .bool false]) (hJ : P ++ R = J) {L : List (Nat × Value)} (h : L = [(0, .int .i64 a1), (1, .int .i64 a2), (2, .int .i64 a3), (3, .int .i64 a4), (4, .bool a5), (5, .bool ov), (7, .agg R)]) : Try.prog.built 32 L = some J := by
  subst eP hJ h
  obtain ⟨r0, r1, r2, r3, r4, r5, r6, r7, r8, r9, r10, r11, r12, r13, r14, r15, rfl⟩ := row16 R zR
  kernel_rfl
set_option maxRecDepth 100000 in
set_option maxHeartbeats 2000000 in
theorem new_bad0 (w : World) (a0 : Int) (ad : Addr) (l c : Nat) (a1 a2 a3 a4 : Int) (a5 : Bool)  (hk : a1 < 0) : Calls Try.prog 11 #[.agg #[.int .i64 a0, .slice (some ad) l c], .int .i64 a1, .int .i64 a2, .int .i64 a3, .int .i64 a4, .bool a5] w fun e w' => e = .returned (.tuple #[.agg #[.int .i64 0, .int .i64 0, .int .i64 0, .int .i64 0, .bool false, .bool false, .bool false, .string ⟨#[]⟩, .int .i64 0, .int .i64 0, .int .i64 0, .int .i64 0, .int .i64 0, .int .i64 0, .int .i64 0, .int .i64 0, .int .i64 0, .int .i64 0, .int .i64 0, .int .i64 0, .int .i64 0, .bool false, .int .i64 0], .int .i64 1]) ∧ Below w.heap.size w w' := by
  have g0 : decide (a1 < 0) = true := decide_eq_true hk
  clear hk
  obtain ⟨S, eS⟩ : ∃ A : Array Value, A = #[.int .i64 a0, .slice (some ad) l c] := ⟨_, rfl⟩
  have zS : Hid (S.size = 2) := Lib.hid (by rw [eS]; rfl)
  have oS : Hid (S.all (·.oneCell') = true) := Lib.hid (by rw [eS]; simp [Value.oneCell'])
  replace eS := Lib.hid eS
  obtain ⟨Z, eZ⟩ : ∃ A : Array Value, A = #[.int .i64 0, .int .i64 0, .int .i64 0, .int .i64 0, .bool false, .bool false, .bool false, .string ⟨#[]⟩, .int .i64 0, .int .i64 0, .int .i64 0, .int .i64 0, .int .i64 0, .int .i64 0, .int .i64 0, .int .i64 0, .int .i64 0, .int .i64 0, .int .i64 0, .int .i64 0, .int .i64 0, .bool false, .int .i64 0] := ⟨_, rfl⟩
  have zZ : Hid (Z.size = 23) := Lib.hid (by rw [eZ]; rfl)
  have oZ : Hid (Z.all (·.oneCell') = true) := Lib.hid (by rw [eZ]; simp [Value.oneCell'])
  replace eZ := Lib.hid eZ
  obtain ⟨Y, eY⟩ : ∃ A : Array Value, A = #[.string ⟨#[]⟩, .int .i64 0, .int .i64 0, .int .i64 0, .int .i64 0, .int .i64 0, .int .i64 0, .int .i64 0, .int .i64 0, .int .i64 0, .int .i64 0, .int .i64 0, .int .i64 0, .int .i64 0, .bool false, .int .i64 0] := ⟨_, rfl⟩
  have zY : Hid (Y.size = 16) := Lib.hid (by rw [eY]; rfl)
  have oY : Hid (Y.all (·.oneCell') = true) := Lib.hid (by rw [eY]; simp [Value.oneCell'])
  replace eY := Lib.hid eY
  obtain ⟨U, eU⟩ : ∃ A : Array Value, A = #[.string ⟨#[]⟩, .int .i64 0, .int .i64 0, .int .i64 0, .int .i64 0, .int .i64 0, .int .i64 0, .int .i64 0, .int .i64 0, .int .i64 0, .int .i64 0] := ⟨_, rfl⟩
  have zU : Hid (U.size = 11) := Lib.hid (by rw [eU]; rfl)
  have oU : Hid (U.all (·.oneCell') = true) := Lib.hid (by rw [eU]; simp [Value.oneCell'])
  replace eU := Lib.hid eU
  rw [← eS.out]
  have hz : ∀ V : World, (zeroValue 32).run Try.prog V = .ok (.agg Z) V := fun V => by rw [eZ.out]; kernel_rfl
  have hz2 : ∀ V : World, (zeroValue 30).run Try.prog V = .ok (.agg Y) V := fun V => by rw [eY.out]; kernel_rfl
  have hz3 : ∀ V : World, (zeroValue 28).run Try.prog V = .ok (.agg U) V := fun V => by rw [eU.out]; kernel_rfl
  obtain ⟨B0, hB0⟩ : ∃ B, w.heap.size = B := ⟨_, rfl⟩
  rw [hB0]
  obtain ⟨V0, hV0⟩ : ∃ V, w.alloc (.cells S 24) = V := ⟨_, rfl⟩
  obtain ⟨X1, hX1⟩ : ∃ X, V0.heap.size = X := ⟨_, rfl⟩
  obtain ⟨V1, hV1⟩ : ∃ V, V0.alloc (.cells Z 32) = V := ⟨_, rfl⟩
  have h0 : V0.heap[B0]? = some (.cells S 24 (0, 0)) := by rw [← hV0]; exact (box_new hB0).1
  have lt1 : B0 < X1 := hX1 ▸ blk_lt h0
  have Hs : Hid (V1.heap[B0]? = some (.cells S 24 (0, 0))) := Lib.hid (by rw [← hV1]; exact ((box_new hX1).2 _ lt1).trans h0)
  have Hr : Hid (V1.heap[X1]? = some (.cells Z 32 (0, 0))) := Lib.hid (by rw [← hV1]; exact (box_new hX1).1)
  have HE : Hid (Below B0 w V1) := Lib.hid (by rw [← hV1, ← hV0, ← hB0]; exact ((Below.refl _ _).alloc (Nat.le_refl _) _).alloc (by simp) _)
  have ge1 : B0 ≤ X1 := Nat.le_of_lt lt1
  have n1 : B0 ≠ X1 := Nat.ne_of_lt lt1
  clear h0
  go_enter Try.func11, Try.ntmps11
  go_upto_region 1 with (fail)
  replace hB0 := Lib.hid hB0
  replace hV0 := Lib.hid hV0
  replace hX1 := Lib.hid hX1
  replace hV1 := Lib.hid hV1
  have c_1 : V1.cell? ⟨B0, 1, none⟩ = some (.slice (some ad) l c) := by rw [blk_cell Hs.out, eS.out]; rfl
  go_upto_region 2 with (fail)
  clear c_1
  obtain ⟨V7, q0, q1, q2, q3⟩ := st_any Hr.out zZ.out zZ.out oZ.out
  have Hr7 := Lib.hid q1
  have HE7 := Lib.hid (q3 _ _ ge1 HE.out)
  clear q1 q2 q3
  go_wp2
  refine bodyPost_ret (v := .tuple #[.agg Z, .int .i64 1]) (by refine Eq.trans (rc2 (fn := Try.f11) rfl _ _ X1 ?_ Hr7.out Try.underlying32 rfl (by kernel_rfl) zZ.out) ?_ <;> rfl) rfl ⟨?_, HE7.out⟩
  rw [eZ.out]
set_option maxRecDepth 100000 in
set_option maxHeartbeats 2000000 in
theorem new_bad1 (w : World) (a0 : Int) (ad : Addr) (l c : Nat) (a1 a2 a3 a4 : Int) (a5 : Bool) (n0 : ¬ a1 < 0) (hk : (l : Int) ≤ a1) : Calls Try.prog 11 #[.agg #[.int .i64 a0, .slice (some ad) l c], .int .i64 a1, .int .i64 a2, .int .i64 a3, .int .i64 a4, .bool a5] w fun e w' => e = .returned (.tuple #[.agg #[.int .i64 0, .int .i64 0, .int .i64 0, .int .i64 0, .bool false, .bool false, .bool false, .string ⟨#[]⟩, .int .i64 0, .int .i64 0, .int .i64 0, .int .i64 0, .int .i64 0, .int .i64 0, .int .i64 0, .int .i64 0, .int .i64 0, .int .i64 0, .int .i64 0, .int .i64 0, .int .i64 0, .bool false, .int .i64 0], .int .i64 1]) ∧ Below w.heap.size w w' := by
  have g0 : decide (a1 < 0) = false := decide_eq_false n0
  have g1 : decide ((l : Int) ≤ a1) = true := decide_eq_true hk
  clear hk n0
  obtain ⟨S, eS⟩ : ∃ A : Array Value, A = #[.int .i64 a0, .slice (some ad) l c] := ⟨_, rfl⟩
  have zS : Hid (S.size = 2) := Lib.hid (by rw [eS]; rfl)
  have oS : Hid (S.all (·.oneCell') = true) := Lib.hid (by rw [eS]; simp [Value.oneCell'])
  replace eS := Lib.hid eS
  obtain ⟨Z, eZ⟩ : ∃ A : Array Value, A = #[.int .i64 0, .int .i64 0, .int .i64 0, .int .i64 0, .bool false, .bool false, .bool false, .string ⟨#[]⟩, .int .i64 0, .int .i64 0, .int .i64 0, .int .i64 0, .int .i64 0, .int .i64 0, .int .i64 0, .int .i64 0, .int .i64 0, .int .i64 0, .int .i64 0, .int .i64 0, .int .i64 0, .bool false, .int .i64 0] := ⟨_, rfl⟩
  have zZ : Hid (Z.size = 23) := Lib.hid (by rw [eZ]; rfl)
  have oZ : Hid (Z.all (·.oneCell') = true) := Lib.hid (by rw [eZ]; simp [Value.oneCell'])
  replace eZ := Lib.hid eZ
  obtain ⟨Y, eY⟩ : ∃ A : Array Value, A = #[.string ⟨#[]⟩, .int .i64 0, .int .i64 0, .int .i64 0, .int .i64 0, .int .i64 0, .int .i64 0, .int .i64 0, .int .i64 0, .int .i64 0, .int .i64 0, .int .i64 0, .int .i64 0, .int .i64 0, .bool false, .int .i64 0] := ⟨_, rfl⟩
  have zY : Hid (Y.size = 16) := Lib.hid (by rw [eY]; rfl)
  have oY : Hid (Y.all (·.oneCell') = true) := Lib.hid (by rw [eY]; simp [Value.oneCell'])
  replace eY := Lib.hid eY
  obtain ⟨U, eU⟩ : ∃ A : Array Value, A = #[.string ⟨#[]⟩, .int .i64 0, .int .i64 0, .int .i64 0, .int .i64 0, .int .i64 0, .int .i64 0, .int .i64 0, .int .i64 0, .int .i64 0, .int .i64 0] := ⟨_, rfl⟩
  have zU : Hid (U.size = 11) := Lib.hid (by rw [eU]; rfl)
  have oU : Hid (U.all (·.oneCell') = true) := Lib.hid (by rw [eU]; simp [Value.oneCell'])
  replace eU := Lib.hid eU
  rw [← eS.out]
  have hz : ∀ V : World, (zeroValue 32).run Try.prog V = .ok (.agg Z) V := fun V => by rw [eZ.out]; kernel_rfl
  have hz2 : ∀ V : World, (zeroValue 30).run Try.prog V = .ok (.agg Y) V := fun V => by rw [eY.out]; kernel_rfl
  have hz3 : ∀ V : World, (zeroValue 28).run Try.prog V = .ok (.agg U) V := fun V => by rw [eU.out]; kernel_rfl
  obtain ⟨B0, hB0⟩ : ∃ B, w.heap.size = B := ⟨_, rfl⟩
  rw [hB0]
  obtain ⟨V0, hV0⟩ : ∃ V, w.alloc (.cells S 24) = V := ⟨_, rfl⟩
  obtain ⟨X1, hX1⟩ : ∃ X, V0.heap.size = X := ⟨_, rfl⟩
  obtain ⟨V1, hV1⟩ : ∃ V, V0.alloc (.cells Z 32) = V := ⟨_, rfl⟩
  have h0 : V0.heap[B0]? = some (.cells S 24 (0, 0)) := by rw [← hV0]; exact (box_new hB0).1
  have lt1 : B0 < X1 := hX1 ▸ blk_lt h0
  have Hs : Hid (V1.heap[B0]? = some (.cells S 24 (0, 0))) := Lib.hid (by rw [← hV1]; exact ((box_new hX1).2 _ lt1).trans h0)
  have Hr : Hid (V1.heap[X1]? = some (.cells Z 32 (0, 0))) := Lib.hid (by rw [← hV1]; exact (box_new hX1).1)
  have HE : Hid (Below B0 w V1) := Lib.hid (by rw [← hV1, ← hV0, ← hB0]; exact ((Below.refl _ _).alloc (Nat.le_refl _) _).alloc (by simp) _)
  have ge1 : B0 ≤ X1 := Nat.le_of_lt lt1
  have n1 : B0 ≠ X1 := Nat.ne_of_lt lt1
  clear h0
  go_enter Try.func11, Try.ntmps11
  go_upto_region 1 with (fail)
  replace hB0 := Lib.hid hB0
  replace hV0 := Lib.hid hV0
  replace hX1 := Lib.hid hX1
  replace hV1 := Lib.hid hV1
  have c_2 : V1.cell? ⟨B0, 1, none⟩ = some (.slice (some ad) l c) := by rw [blk_cell Hs.out, eS.out]; rfl
  go_upto_region 2 with (fail)
  clear c_2
  obtain ⟨V7, q0, q1, q2, q3⟩ := st_any Hr.out zZ.out zZ.out oZ.out
  have Hr7 := Lib.hid q1
  have HE7 := Lib.hid (q3 _ _ ge1 HE.out)
  clear q1 q2 q3
  go_wp2
  refine bodyPost_ret (v := .tuple #[.agg Z, .int .i64 1]) (by refine Eq.trans (rc2 (fn := Try.f11) rfl _ _ X1 ?_ Hr7.out Try.underlying32 rfl (by kernel_rfl) zZ.out) ?_ <;> rfl) rfl ⟨?_, HE7.out⟩
  rw [eZ.out]
set_option maxRecDepth 100000 in
set_option maxHeartbeats 2000000 in
theorem new_bad2 (w : World) (a0 : Int) (ad : Addr) (l c : Nat) (a1 a2 a3 a4 : Int) (a5 : Bool) (n0 : ¬ a1 < 0) (n1 : ¬ (l : Int) ≤ a1) (hk : a2 < 0) : Calls Try.prog 11 #[.agg #[.int .i64 a0, .slice (some ad) l c], .int .i64 a1, .int .i64 a2, .int .i64 a3, .int .i64 a4, .bool a5] w fun e w' => e = .returned (.tuple #[.agg #[.int .i64 0, .int .i64 0, .int .i64 0, .int .i64 0, .bool false, .bool false, .bool false, .string ⟨#[]⟩, .int .i64 0, .int .i64 0, .int .i64 0, .int .i64 0, .int .i64 0, .int .i64 0, .int .i64 0, .int .i64 0, .int .i64 0, .int .i64 0, .int .i64 0, .int .i64 0, .int .i64 0, .bool false, .int .i64 0], .int .i64 1]) ∧ Below w.heap.size w w' := by
  have g0 : decide (a1 < 0) = false := decide_eq_false n0
  have g1 : decide ((l : Int) ≤ a1) = false := decide_eq_false n1
  have g2 : decide (a2 < 0) = true := decide_eq_true hk
  clear hk n0 n1
  obtain ⟨S, eS⟩ : ∃ A : Array Value, A = #[.int .i64 a0, .slice (some ad) l c] := ⟨_, rfl⟩
  have zS : Hid (S.size = 2) := Lib.hid (by rw [eS]; rfl)
  have oS : Hid (S.all (·.oneCell') = true) := Lib.hid (by rw [eS]; simp [Value.oneCell'])
  replace eS := Lib.hid eS
  obtain ⟨Z, eZ⟩ : ∃ A : Array Value, A = #[.int .i64 0, .int .i64 0, .int .i64 0, .int .i64 0, .bool false, .bool false, .bool false, .string ⟨#[]⟩, .int .i64 0, .int .i64 0, .int .i64 0, .int .i64 0, .int .i64 0, .int .i64 0, .int .i64 0, .int .i64 0, .int .i64 0, .int .i64 0, .int .i64 0, .int .i64 0, .int .i64 0, .bool false, .int .i64 0] := ⟨_, rfl⟩
  have zZ : Hid (Z.size = 23) := Lib.hid (by rw [eZ]; rfl)
  have oZ : Hid (Z.all (·.oneCell') = true) := Lib.hid (by rw [eZ]; simp [Value.oneCell'])
  replace eZ := Lib.hid eZ
  obtain ⟨Y, eY⟩ : ∃ A : Array Value, A = #[.string ⟨#[]⟩, .int .i64 0, .int .i64 0, .int .i64 0, .int .i64 0, .int .i64 0, .int .i64 0, .int .i64 0, .int .i64 0, .int .i64 0, .int .i64 0, .int .i64 0, .int .i64 0, .int .i64 0, .bool false, .int .i64 0] := ⟨_, rfl⟩
  have zY : Hid (Y.size = 16) := Lib.hid (by rw [eY]; rfl)
  have oY : Hid (Y.all (·.oneCell') = true) := Lib.hid (by rw [eY]; simp [Value.oneCell'])
  replace eY := Lib.hid eY
  obtain ⟨U, eU⟩ : ∃ A : Array Value, A = #[.string ⟨#[]⟩, .int .i64 0, .int .i64 0, .int .i64 0, .int .i64 0, .int .i64 0, .int .i64 0, .int .i64 0, .int .i64 0, .int .i64 0, .int .i64 0] := ⟨_, rfl⟩
  have zU : Hid (U.size = 11) := Lib.hid (by rw [eU]; rfl)
  have oU : Hid (U.all (·.oneCell') = true) := Lib.hid (by rw [eU]; simp [Value.oneCell'])
  replace eU := Lib.hid eU
  rw [← eS.out]
  have hz : ∀ V : World, (zeroValue 32).run Try.prog V = .ok (.agg Z) V := fun V => by rw [eZ.out]; kernel_rfl
  have hz2 : ∀ V : World, (zeroValue 30).run Try.prog V = .ok (.agg Y) V := fun V => by rw [eY.out]; kernel_rfl
  have hz3 : ∀ V : World, (zeroValue 28).run Try.prog V = .ok (.agg U) V := fun V => by rw [eU.out]; kernel_rfl
  obtain ⟨B0, hB0⟩ : ∃ B, w.heap.size = B := ⟨_, rfl⟩
  rw [hB0]
  obtain ⟨V0, hV0⟩ : ∃ V, w.alloc (.cells S 24) = V := ⟨_, rfl⟩
  obtain ⟨X1, hX1⟩ : ∃ X, V0.heap.size = X := ⟨_, rfl⟩
  obtain ⟨V1, hV1⟩ : ∃ V, V0.alloc (.cells Z 32) = V := ⟨_, rfl⟩
  have h0 : V0.heap[B0]? = some (.cells S 24 (0, 0)) := by rw [← hV0]; exact (box_new hB0).1
  have lt1 : B0 < X1 := hX1 ▸ blk_lt h0
  have Hs : Hid (V1.heap[B0]? = some (.cells S 24 (0, 0))) := Lib.hid (by rw [← hV1]; exact ((box_new hX1).2 _ lt1).trans h0)
  have Hr : Hid (V1.heap[X1]? = some (.cells Z 32 (0, 0))) := Lib.hid (by rw [← hV1]; exact (box_new hX1).1)
  have HE : Hid (Below B0 w V1) := Lib.hid (by rw [← hV1, ← hV0, ← hB0]; exact ((Below.refl _ _).alloc (Nat.le_refl _) _).alloc (by simp) _)
  have ge1 : B0 ≤ X1 := Nat.le_of_lt lt1
  have n1 : B0 ≠ X1 := Nat.ne_of_lt lt1
  clear h0
  go_enter Try.func11, Try.ntmps11
  go_upto_region 1 with (fail)
  replace hB0 := Lib.hid hB0
  replace hV0 := Lib.hid hV0
  replace hX1 := Lib.hid hX1
  replace hV1 := Lib.hid hV1
  have c_3 : V1.cell? ⟨B0, 1, none⟩ = some (.slice (some ad) l c) := by rw [blk_cell Hs.out, eS.out]; rfl
  go_upto_region 2 with (fail)
  clear c_3
  obtain ⟨V7, q0, q1, q2, q3⟩ := st_any Hr.out zZ.out zZ.out oZ.out
  have Hr7 := Lib.hid q1
  have HE7 := Lib.hid (q3 _ _ ge1 HE.out)
  clear q1 q2 q3
  go_wp2
  refine bodyPost_ret (v := .tuple #[.agg Z, .int .i64 1]) (by refine Eq.trans (rc2 (fn := Try.f11) rfl _ _ X1 ?_ Hr7.out Try.underlying32 rfl (by kernel_rfl) zZ.out) ?_ <;> rfl) rfl ⟨?_, HE7.out⟩
  rw [eZ.out]
set_option maxRecDepth 100000 in
set_option maxHeartbeats 2000000 in
theorem new_bad3 (w : World) (a0 : Int) (ad : Addr) (l c : Nat) (a1 a2 a3 a4 : Int) (a5 : Bool) (n0 : ¬ a1 < 0) (n1 : ¬ (l : Int) ≤ a1) (n2 : ¬ a2 < 0) (hk : a3 < 0) : Calls Try.prog 11 #[.agg #[.int .i64 a0, .slice (some ad) l c], .int .i64 a1, .int .i64 a2, .int .i64 a3, .int .i64 a4, .bool a5] w fun e w' => e = .returned (.tuple #[.agg #[.int .i64 0, .int .i64 0, .int .i64 0, .int .i64 0, .bool false, .bool false, .bool false, .string ⟨#[]⟩, .int .i64 0, .int .i64 0, .int .i64 0, .int .i64 0, .int .i64 0, .int .i64 0, .int .i64 0, .int .i64 0, .int .i64 0, .int .i64 0, .int .i64 0, .int .i64 0, .int .i64 0, .bool false, .int .i64 0], .int .i64 1]) ∧ Below w.heap.size w w' := by
  have g0 : decide (a1 < 0) = false := decide_eq_false n0
  have g1 : decide ((l : Int) ≤ a1) = false := decide_eq_false n1
  have g2 : decide (a2 < 0) = false := decide_eq_false n2
  have g3 : decide (a3 < 0) = true := decide_eq_true hk
  clear hk n0 n1 n2
  obtain ⟨S, eS⟩ : ∃ A : Array Value, A = #[.int .i64 a0, .slice (some ad) l c] := ⟨_, rfl⟩
  have zS : Hid (S.size = 2) := Lib.hid (by rw [eS]; rfl)
  have oS : Hid (S.all (·.oneCell') = true) := Lib.hid (by rw [eS]; simp [Value.oneCell'])
  replace eS := Lib.hid eS
  obtain ⟨Z, eZ⟩ : ∃ A : Array Value, A = #[.int .i64 0, .int .i64 0, .int .i64 0, .int .i64 0, .bool false, .bool false, .bool false, .string ⟨#[]⟩, .int .i64 0, .int .i64 0, .int .i64 0, .int .i64 0, .int .i64 0, .int .i64 0, .int .i64 0, .int .i64 0, .int .i64 0, .int .i64 0, .int .i64 0, .int .i64 0, .int .i64 0, .bool false, .int .i64 0] := ⟨_, rfl⟩
  have zZ : Hid (Z.size = 23) := Lib.hid (by rw [eZ]; rfl)
  have oZ : Hid (Z.all (·.oneCell') = true) := Lib.hid (by rw [eZ]; simp [Value.oneCell'])
  replace eZ := Lib.hid eZ
  obtain ⟨Y, eY⟩ : ∃ A : Array Value, A = #[.string ⟨#[]⟩, .int .i64 0, .int .i64 0, .int .i64 0, .int .i64 0, .int .i64 0, .int .i64 0, .int .i64 0, .int .i64 0, .int .i64 0, .int .i64 0, .int .i64 0, .int .i64 0, .int .i64 0, .bool false, .int .i64 0] := ⟨_, rfl⟩
  have zY : Hid (Y.size = 16) := Lib.hid (by rw [eY]; rfl)
  have oY : Hid (Y.all (·.oneCell') = true) := Lib.hid (by rw [eY]; simp [Value.oneCell'])
  replace eY := Lib.hid eY
  obtain ⟨U, eU⟩ : ∃ A : Array Value, A = #[.string ⟨#[]⟩, .int .i64 0, .int .i64 0, .int .i64 0, .int .i64 0, .int .i64 0, .int .i64 0, .int .i64 0, .int .i64 0, .int .i64 0, .int .i64 0] := ⟨_, rfl⟩
  have zU : Hid (U.size = 11) := Lib.hid (by rw [eU]; rfl)
  have oU : Hid (U.all (·.oneCell') = true) := Lib.hid (by rw [eU]; simp [Value.oneCell'])
  replace eU := Lib.hid eU
  rw [← eS.out]
  have hz : ∀ V : World, (zeroValue 32).run Try.prog V = .ok (.agg Z) V := fun V => by rw [eZ.out]; kernel_rfl
  have hz2 : ∀ V : World, (zeroValue 30).run Try.prog V = .ok (.agg Y) V := fun V => by rw [eY.out]; kernel_rfl
  have hz3 : ∀ V : World, (zeroValue 28).run Try.prog V = .ok (.agg U) V := fun V => by rw [eU.out]; kernel_rfl
  obtain ⟨B0, hB0⟩ : ∃ B, w.heap.size = B := ⟨_, rfl⟩
  rw [hB0]
  obtain ⟨V0, hV0⟩ : ∃ V, w.alloc (.cells S 24) = V := ⟨_, rfl⟩
  obtain ⟨X1, hX1⟩ : ∃ X, V0.heap.size = X := ⟨_, rfl⟩
  obtain ⟨V1, hV1⟩ : ∃ V, V0.alloc (.cells Z 32) = V := ⟨_, rfl⟩
  have h0 : V0.heap[B0]? = some (.cells S 24 (0, 0)) := by rw [← hV0]; exact (box_new hB0).1
  have lt1 : B0 < X1 := hX1 ▸ blk_lt h0
  have Hs : Hid (V1.heap[B0]? = some (.cells S 24 (0, 0))) := Lib.hid (by rw [← hV1]; exact ((box_new hX1).2 _ lt1).trans h0)
  have Hr : Hid (V1.heap[X1]? = some (.cells Z 32 (0, 0))) := Lib.hid (by rw [← hV1]; exact (box_new hX1).1)
  have HE : Hid (Below B0 w V1) := Lib.hid (by rw [← hV1, ← hV0, ← hB0]; exact ((Below.refl _ _).alloc (Nat.le_refl _) _).alloc (by simp) _)
  have ge1 : B0 ≤ X1 := Nat.le_of_lt lt1
  have n1 : B0 ≠ X1 := Nat.ne_of_lt lt1
  clear h0
  go_enter Try.func11, Try.ntmps11
  go_upto_region 1 with (fail)
  replace hB0 := Lib.hid hB0
  replace hV0 := Lib.hid hV0
  replace hX1 := Lib.hid hX1
  replace hV1 := Lib.hid hV1
  have c_4 : V1.cell? ⟨B0, 1, none⟩ = some (.slice (some ad) l c) := by rw [blk_cell Hs.out, eS.out]; rfl
  go_upto_region 2 with (fail)
  clear c_4
  obtain ⟨V7, q0, q1, q2, q3⟩ := st_any Hr.out zZ.out zZ.out oZ.out
  have Hr7 := Lib.hid q1
  have HE7 := Lib.hid (q3 _ _ ge1 HE.out)
  clear q1 q2 q3
  go_wp2
  refine bodyPost_ret (v := .tuple #[.agg Z, .int .i64 1]) (by refine Eq.trans (rc2 (fn := Try.f11) rfl _ _ X1 ?_ Hr7.out Try.underlying32 rfl (by kernel_rfl) zZ.out) ?_ <;> rfl) rfl ⟨?_, HE7.out⟩
  rw [eZ.out]
set_option maxRecDepth 100000 in
set_option maxHeartbeats 2000000 in
theorem new_bad4 (w : World) (a0 : Int) (ad : Addr) (l c : Nat) (a1 a2 a3 a4 : Int) (a5 : Bool) (n0 : ¬ a1 < 0) (n1 : ¬ (l : Int) ≤ a1) (n2 : ¬ a2 < 0) (n3 : ¬ a3 < 0) (hk : (1099511627776 : Int) < a3) : Calls Try.prog 11 #[.agg #[.int .i64 a0, .slice (some ad) l c], .int .i64 a1, .int .i64 a2, .int .i64 a3, .int .i64 a4, .bool a5] w fun e w' => e = .returned (.tuple #[.agg #[.int .i64 0, .int .i64 0, .int .i64 0, .int .i64 0, .bool false, .bool false, .bool false, .string ⟨#[]⟩, .int .i64 0, .int .i64 0, .int .i64 0, .int .i64 0, .int .i64 0, .int .i64 0, .int .i64 0, .int .i64 0, .int .i64 0, .int .i64 0, .int .i64 0, .int .i64 0, .int .i64 0, .bool false, .int .i64 0], .int .i64 1]) ∧ Below w.heap.size w w' := by
  have g0 : decide (a1 < 0) = false := decide_eq_false n0
  have g1 : decide ((l : Int) ≤ a1) = false := decide_eq_false n1
  have g2 : decide (a2 < 0) = false := decide_eq_false n2
  have g3 : decide (a3 < 0) = false := decide_eq_false n3
  have g4 : decide ((1099511627776 : Int) < a3) = true := decide_eq_true hk
  clear hk n0 n1 n2 n3
  obtain ⟨S, eS⟩ : ∃ A : Array Value, A = #[.int .i64 a0, .slice (some ad) l c] := ⟨_, rfl⟩
  have zS : Hid (S.size = 2) := Lib.hid (by rw [eS]; rfl)
  have oS : Hid (S.all (·.oneCell') = true) := Lib.hid (by rw [eS]; simp [Value.oneCell'])
  replace eS := Lib.hid eS
  obtain ⟨Z, eZ⟩ : ∃ A : Array Value, A = #[.int .i64 0, .int .i64 0, .int .i64 0, .int .i64 0, .bool false, .bool false, .bool false, .string ⟨#[]⟩, .int .i64 0, .int .i64 0, .int .i64 0, .int .i64 0, .int .i64 0, .int .i64 0, .int .i64 0, .int .i64 0, .int .i64 0, .int .i64 0, .int .i64 0, .int .i64 0, .int .i64 0, .bool false, .int .i64 0] := ⟨_, rfl⟩
  have zZ : Hid (Z.size = 23) := Lib.hid (by rw [eZ]; rfl)
  have oZ : Hid (Z.all (·.oneCell') = true) := Lib.hid (by rw [eZ]; simp [Value.oneCell'])
  replace eZ := Lib.hid eZ
  obtain ⟨Y, eY⟩ : ∃ A : Array Value, A = #[.string ⟨#[]⟩, .int .i64 0, .int .i64 0, .int .i64 0, .int .i64 0, .int .i64 0, .int .i64 0, .int .i64 0, .int .i64 0, .int .i64 0, .int .i64 0, .int .i64 0, .int .i64 0, .int .i64 0, .bool false, .int .i64 0] := ⟨_, rfl⟩
  have zY : Hid (Y.size = 16) := Lib.hid (by rw [eY]; rfl)
  have oY : Hid (Y.all (·.oneCell') = true) := Lib.hid (by rw [eY]; simp [Value.oneCell'])
  replace eY := Lib.hid eY
  obtain ⟨U, eU⟩ : ∃ A : Array Value, A = #[.string ⟨#[]⟩, .int .i64 0, .int .i64 0, .int .i64 0, .int .i64 0, .int .i64 0, .int .i64 0, .int .i64 0, .int .i64 0, .int .i64 0, .int .i64 0] := ⟨_, rfl⟩
  have zU : Hid (U.size = 11) := Lib.hid (by rw [eU]; rfl)
  have oU : Hid (U.all (·.oneCell') = true) := Lib.hid (by rw [eU]; simp [Value.oneCell'])
  replace eU := Lib.hid eU
  rw [← eS.out]
  have hz : ∀ V : World, (zeroValue 32).run Try.prog V = .ok (.agg Z) V := fun V => by rw [eZ.out]; kernel_rfl
  have hz2 : ∀ V : World, (zeroValue 30).run Try.prog V = .ok (.agg Y) V := fun V => by rw [eY.out]; kernel_rfl
  have hz3 : ∀ V : World, (zeroValue 28).run Try.prog V = .ok (.agg U) V := fun V => by rw [eU.out]; kernel_rfl
  obtain ⟨B0, hB0⟩ : ∃ B, w.heap.size = B := ⟨_, rfl⟩
  rw [hB0]
  obtain ⟨V0, hV0⟩ : ∃ V, w.alloc (.cells S 24) = V := ⟨_, rfl⟩
  obtain ⟨X1, hX1⟩ : ∃ X, V0.heap.size = X := ⟨_, rfl⟩
  obtain ⟨V1, hV1⟩ : ∃ V, V0.alloc (.cells Z 32) = V := ⟨_, rfl⟩
  have h0 : V0.heap[B0]? = some (.cells S 24 (0, 0)) := by rw [← hV0]; exact (box_new hB0).1
  have lt1 : B0 < X1 := hX1 ▸ blk_lt h0
  have Hs : Hid (V1.heap[B0]? = some (.cells S 24 (0, 0))) := Lib.hid (by rw [← hV1]; exact ((box_new hX1).2 _ lt1).trans h0)
  have Hr : Hid (V1.heap[X1]? = some (.cells Z 32 (0, 0))) := Lib.hid (by rw [← hV1]; exact (box_new hX1).1)
  have HE : Hid (Below B0 w V1) := Lib.hid (by rw [← hV1, ← hV0, ← hB0]; exact ((Below.refl _ _).alloc (Nat.le_refl _) _).alloc (by simp) _)
  have ge1 : B0 ≤ X1 := Nat.le_of_lt lt1
  have n1 : B0 ≠ X1 := Nat.ne_of_lt lt1
  clear h0
  go_enter Try.func11, Try.ntmps11
  go_upto_region 1 with (fail)
  replace hB0 := Lib.hid hB0
  replace hV0 := Lib.hid hV0
  replace hX1 := Lib.hid hX1
  replace hV1 := Lib.hid hV1
  have c_5 : V1.cell? ⟨B0, 1, none⟩ = some (.slice (some ad) l c) := by rw [blk_cell Hs.out, eS.out]; rfl
  go_upto_region 2 with (fail)
  clear c_5
  obtain ⟨V7, q0, q1, q2, q3⟩ := st_any Hr.out zZ.out zZ.out oZ.out
  have Hr7 := Lib.hid q1
  have HE7 := Lib.hid (q3 _ _ ge1 HE.out)
  clear q1 q2 q3
  go_wp2
  refine bodyPost_ret (v := .tuple #[.agg Z, .int .i64 1]) (by refine Eq.trans (rc2 (fn := Try.f11) rfl _ _ X1 ?_ Hr7.out Try.underlying32 rfl (by kernel_rfl) zZ.out) ?_ <;> rfl) rfl ⟨?_, HE7.out⟩
  rw [eZ.out]
set_option maxRecDepth 100000 in
set_option maxHeartbeats 2000000 in
theorem new_ok (w : World) (a0 : Int) (ad : Addr) (l c : Nat) (a1 a2 a3 a4 : Int) (a5 : Bool) (n0 : ¬ a1 < 0) (n1 : ¬ (l : Int) ≤ a1) (n2 : ¬ a2 < 0) (n3 : ¬ a3 < 0) (n4 : ¬ (1099511627776 : Int) < a3) (T R : Array Value) (dl n : Int) (ov : Bool) (hT : ∀ j v, T.toList[j]? = some v → w.cell? ((ad.add (a1.toNat * 11)).add j) = some v) (zT : T.size = 11) (oT : T.all (·.oneCell') = true) (hT2 : T[2]? = some (.int .i64 dl)) (zR : R.size = 16) (oR : R.all (·.oneCell') = true)
    (HC : ∀ W : World, Calls Try.prog 20 #[.agg T, .int .i64 a4] W fun e w' => e = .returned (.tuple #[.int .i64 n, .bool ov]) ∧ Below W.heap.size W w') (HB : ∀ W : World, Calls Try.prog 21 #[.agg T, .int .i64 n] W fun e w' => e = .returned (.tuple #[.agg R, .int .i64 0]) ∧ Below W.heap.size W w') :
    Calls Try.prog 11 #[.agg #[.int .i64 a0, .slice (some ad) l c], .int .i64 a1, .int .i64 a2, .int .i64 a3, .int .i64 a4, .bool a5] w fun e w' => e = .returned (.tuple #[.agg ((#[.int .i64 a1, .int .i64 a2, .int .i64 a3, .int .i64 (wrap64 (a3 + dl)), .bool a5, .bool ov, .bool false] : Array Value) ++ R), .int .i64 0]) ∧ Below w.heap.size w w' := by
  have g0 : decide (a1 < 0) = false := decide_eq_false n0
  have g1 : decide ((l : Int) ≤ a1) = false := decide_eq_false n1
  have g2 : decide (a2 < 0) = false := decide_eq_false n2
  have g3 : decide (a3 < 0) = false := decide_eq_false n3
  have g4 : decide ((1099511627776 : Int) < a3) = false := decide_eq_false n4
  have p1 : (0 ≤ a1) = True := eq_true (by omega)
  have p2 : (a1 < (l : Int)) = True := eq_true (by omega)
  clear n0 n1 n2 n3 n4
  replace HC := Lib.hid HC
  replace HB := Lib.hid HB
  replace hT2 := Lib.hid hT2
  replace zT := Lib.hid zT
  replace oT := Lib.hid oT
  replace zR := Lib.hid zR
  replace oR := Lib.hid oR
  replace hT := Lib.hid hT
  obtain ⟨S, eS⟩ : ∃ A : Array Value, A = #[.int .i64 a0, .slice (some ad) l c] := ⟨_, rfl⟩
  have zS : Hid (S.size = 2) := Lib.hid (by rw [eS]; rfl)
  have oS : Hid (S.all (·.oneCell') = true) := Lib.hid (by rw [eS]; simp [Value.oneCell'])
  replace eS := Lib.hid eS
  obtain ⟨Z, eZ⟩ : ∃ A : Array Value, A = #[.int .i64 0, .int .i64 0, .int .i64 0, .int .i64 0, .bool false, .bool false, .bool false, .string ⟨#[]⟩, .int .i64 0, .int .i64 0, .int .i64 0, .int .i64 0, .int .i64 0, .int .i64 0, .int .i64 0, .int .i64 0, .int .i64 0, .int .i64 0, .int .i64 0, .int .i64 0, .int .i64 0, .bool false, .int .i64 0] := ⟨_, rfl⟩
  have zZ : Hid (Z.size = 23) := Lib.hid (by rw [eZ]; rfl)
  have oZ : Hid (Z.all (·.oneCell') = true) := Lib.hid (by rw [eZ]; simp [Value.oneCell'])
  replace eZ := Lib.hid eZ
  obtain ⟨Y, eY⟩ : ∃ A : Array Value, A = #[.string ⟨#[]⟩, .int .i64 0, .int .i64 0, .int .i64 0, .int .i64 0, .int .i64 0, .int .i64 0, .int .i64 0, .int .i64 0, .int .i64 0, .int .i64 0, .int .i64 0, .int .i64 0, .int .i64 0, .bool false, .int .i64 0] := ⟨_, rfl⟩
  have zY : Hid (Y.size = 16) := Lib.hid (by rw [eY]; rfl)
  have oY : Hid (Y.all (·.oneCell') = true) := Lib.hid (by rw [eY]; simp [Value.oneCell'])
  replace eY := Lib.hid eY
  obtain ⟨U, eU⟩ : ∃ A : Array Value, A = #[.string ⟨#[]⟩, .int .i64 0, .int .i64 0, .int .i64 0, .int .i64 0, .int .i64 0, .int .i64 0, .int .i64 0, .int .i64 0, .int .i64 0, .int .i64 0] := ⟨_, rfl⟩
  have zU : Hid (U.size = 11) := Lib.hid (by rw [eU]; rfl)
  have oU : Hid (U.all (·.oneCell') = true) := Lib.hid (by rw [eU]; simp [Value.oneCell'])
  replace eU := Lib.hid eU
  rw [← eS.out]
  have hz : ∀ V : World, (zeroValue 32).run Try.prog V = .ok (.agg Z) V := fun V => by rw [eZ.out]; kernel_rfl
  have hz2 : ∀ V : World, (zeroValue 30).run Try.prog V = .ok (.agg Y) V := fun V => by rw [eY.out]; kernel_rfl
  have hz3 : ∀ V : World, (zeroValue 28).run Try.prog V = .ok (.agg U) V := fun V => by rw [eU.out]; kernel_rfl
  obtain ⟨B0, hB0⟩ : ∃ B, w.heap.size = B := ⟨_, rfl⟩
  rw [hB0]
  obtain ⟨V0, hV0⟩ : ∃ V, w.alloc (.cells S 24) = V := ⟨_, rfl⟩
  obtain ⟨X1, hX1⟩ : ∃ X, V0.heap.size = X := ⟨_, rfl⟩
  obtain ⟨V1, hV1⟩ : ∃ V, V0.alloc (.cells Z 32) = V := ⟨_, rfl⟩
  have h0 : V0.heap[B0]? = some (.cells S 24 (0, 0)) := by rw [← hV0]; exact (box_new hB0).1
  have lt1 : B0 < X1 := hX1 ▸ blk_lt h0
  have Hs : Hid (V1.heap[B0]? = some (.cells S 24 (0, 0))) := Lib.hid (by rw [← hV1]; exact ((box_new hX1).2 _ lt1).trans h0)
  have Hr : Hid (V1.heap[X1]? = some (.cells Z 32 (0, 0))) := Lib.hid (by rw [← hV1]; exact (box_new hX1).1)
  have HE : Hid (Below B0 w V1) := Lib.hid (by rw [← hV1, ← hV0, ← hB0]; exact ((Below.refl _ _).alloc (Nat.le_refl _) _).alloc (by simp) _)
  have ge1 : B0 ≤ X1 := Nat.le_of_lt lt1
  have n1 : B0 ≠ X1 := Nat.ne_of_lt lt1
  clear h0
  go_enter Try.func11, Try.ntmps11
  go_upto_region 1 with (fail)
  replace hB0 := Lib.hid hB0
  replace hV0 := Lib.hid hV0
  replace hX1 := Lib.hid hX1
  replace hV1 := Lib.hid hV1
  obtain ⟨P, eP⟩ : ∃ A : Array Value, A = #[.int .i64 a1, .int .i64 a2, .int .i64 a3, .int .i64 (wrap64 (a3 + dl)), .bool a5, .bool ov, .bool false] := ⟨_, rfl⟩
  have zP : Hid (P.size = 7) := Lib.hid (by rw [eP]; rfl)
  have oP : Hid (P.all (·.oneCell') = true) := Lib.hid (by rw [eP]; simp [Value.oneCell'])
  replace eP := Lib.hid eP
  obtain ⟨J, hJ⟩ : ∃ J, P ++ R = J := ⟨_, rfl⟩
  have zJ : Hid (J.size = 23) := Lib.hid (by rw [← hJ, Array.size_append, zP.out, zR.out])
  have oJ : Hid (J.all (·.oneCell') = true) := Lib.hid (by rw [← hJ, Array.all_append, oP.out, oR.out]; rfl)
  replace hJ := Lib.hid hJ
  have c_6 : V1.cell? ⟨B0, 1, none⟩ = some (.slice (some ad) l c) := by rw [blk_cell Hs.out, eS.out]; rfl
  have hT1 : Hid (∀ j v, T.toList[j]? = some v → V1.cell? ((ad.add (a1.toNat * 11)).add j) = some v) := Lib.hid (fun j v hv => (HE.out.cell (by rw [← hB0.out]; exact World.block_lt_of_cell? w _ (hT.out j v hv))).trans (hT.out j v hv))
  go_upto_region 3 with (fail)
  obtain ⟨X_7, hX_9⟩ : ∃ X, V1.heap.size = X := ⟨_, rfl⟩
  obtain ⟨V_8, q_10_0, q_10_1, q_10_2, q_10_3⟩ := st_new (w := V1) (T := 28) hX_9 zU.out zT.out oT.out
  have ne_12 : B0 < X_7 := hX_9 ▸ blk_lt Hs.out
  have H_11 : Hid (V_8.heap[B0]? = some (.cells S 24 (0, 0))) := Lib.hid ((q_10_2 _ ne_12).trans Hs.out)
  have ne_14 : X1 < X_7 := hX_9 ▸ blk_lt Hr.out
  have H_13 : Hid (V_8.heap[X1]? = some (.cells Z 32 (0, 0))) := Lib.hid ((q_10_2 _ ne_14).trans Hr.out)
  have ge_15 : B0 ≤ X_7 := hX_9 ▸ (sz_le hB0.out HE.out.size)
  have HE_16 : Hid (Below B0 w V_8) := Lib.hid (q_10_3 _ _ ge_15 HE.out)
  have H_17 := Lib.hid q_10_1
  clear q_10_1 q_10_2 q_10_3
  go_upto_region 4 with (first | (refine wpl_ldr _ _ rfl (by rfl) (ad.add (a1.toNat * 11)) rfl hT1.out Try.underlying28 rfl (by kernel_rfl) zT.out ?_))
  clear q_10_0 hX_9
  clear c_6
  clear HE Hs Hr
  go_wp2_with (first | (refine wpl_ld _ _ rfl (by rfl) X_7 rfl H_17.out Try.underlying28 rfl (by kernel_rfl) zT.out ?_))
  refine (HC.out _).mono ?_; rintro e V_18 ⟨rfl, hb_19⟩
  have H_20 : Hid (V_18.heap[B0]? = some (.cells S 24 (0, 0))) := Lib.hid ((hb_19.block B0 (blk_lt H_11.out)).trans H_11.out)
  have H_21 : Hid (V_18.heap[X1]? = some (.cells Z 32 (0, 0))) := Lib.hid ((hb_19.block X1 (blk_lt H_13.out)).trans H_13.out)
  have H_22 : Hid (V_18.heap[X_7]? = some (.cells T 28 (0, 0))) := Lib.hid ((hb_19.block X_7 (blk_lt H_17.out)).trans H_17.out)
  have HE_23 : Hid (Below B0 w V_18) := Lib.hid (HE_16.out.trans (hb_19.mono (sz_le hB0.out HE_16.out.size)))
  clear HE_16 H_11 H_13 H_17
  clear hb_19
  go_wp2_with (first | (refine wpl_ld _ _ rfl (by rfl) X_7 rfl H_22.out Try.underlying28 rfl (by kernel_rfl) zT.out ?_))
  refine (HB.out _).mono ?_; rintro e V_24 ⟨rfl, hb_25⟩
  have H_26 : Hid (V_24.heap[B0]? = some (.cells S 24 (0, 0))) := Lib.hid ((hb_25.block B0 (blk_lt H_20.out)).trans H_20.out)
  have H_27 : Hid (V_24.heap[X1]? = some (.cells Z 32 (0, 0))) := Lib.hid ((hb_25.block X1 (blk_lt H_21.out)).trans H_21.out)
  have H_28 : Hid (V_24.heap[X_7]? = some (.cells T 28 (0, 0))) := Lib.hid ((hb_25.block X_7 (blk_lt H_22.out)).trans H_22.out)
  have HE_29 : Hid (Below B0 w V_24) := Lib.hid (HE_23.out.trans (hb_25.mono (sz_le hB0.out HE_23.out.size)))
  clear HE_23 H_20 H_21 H_22
  clear hb_25
  obtain ⟨X_30, hX_32⟩ : ∃ X, V_24.heap.size = X := ⟨_, rfl⟩
  obtain ⟨V_31, q_33_0, q_33_1, q_33_2, q_33_3⟩ := st_new (w := V_24) (T := 30) hX_32 zY.out zR.out oR.out
  have ne_35 : B0 < X_30 := hX_32 ▸ blk_lt H_26.out
  have H_34 : Hid (V_31.heap[B0]? = some (.cells S 24 (0, 0))) := Lib.hid ((q_33_2 _ ne_35).trans H_26.out)
  have ne_37 : X1 < X_30 := hX_32 ▸ blk_lt H_27.out
  have H_36 : Hid (V_31.heap[X1]? = some (.cells Z 32 (0, 0))) := Lib.hid ((q_33_2 _ ne_37).trans H_27.out)
  have ne_39 : X_7 < X_30 := hX_32 ▸ blk_lt H_28.out
  have H_38 : Hid (V_31.heap[X_7]? = some (.cells T 28 (0, 0))) := Lib.hid ((q_33_2 _ ne_39).trans H_28.out)
  have ge_40 : B0 ≤ X_30 := hX_32 ▸ (sz_le hB0.out HE_29.out.size)
  have HE_41 : Hid (Below B0 w V_31) := Lib.hid (q_33_3 _ _ ge_40 HE_29.out)
  have H_42 := Lib.hid q_33_1
  clear q_33_1 q_33_2 q_33_3
  go_upto_region 8 with (fail)
  clear q_33_0 hX_32
  clear HE_29 H_26 H_27 H_28
  have c2 : V_31.cell? ⟨X_7, 2, none⟩ = some (.int .i64 dl) := by rw [blk_cell H_38.out]; exact hT2.out
  obtain ⟨V7, q0, q1, q2, q3⟩ := st_any H_36.out zZ.out zJ.out oJ.out
  have Hr7 := Lib.hid q1
  have HE7 := Lib.hid (q3 _ _ ge1 HE_41.out)
  clear q1 q2 q3
  go_wp2_with (first | (refine wpl_ld _ _ rfl (by rfl) X_30 rfl H_42.out Try.underlying30 rfl (by kernel_rfl) zR.out ?_) | (refine wpl_bld 32 _ rfl (by rfl) (job_built a1 a2 a3 (wrap64 (a3 + dl)) a5 ov R zR.out eP.out hJ.out (by simp [go_sem])) ?_))
  refine bodyPost_ret (v := .tuple #[.agg J, .int .i64 0]) (by refine Eq.trans (rc2 (fn := Try.f11) rfl _ _ X1 ?_ Hr7.out Try.underlying32 rfl (by kernel_rfl) zJ.out) ?_ <;> rfl) rfl ⟨?_, HE7.out⟩
  rw [← hJ.out, eP.out]
end Go.Proofs.Ytpjehbcchanmhaa.PC
