/- job.Key: what it computes. -/
import Derived.Test.YtpjehbcchanmhaaMid
namespace Go.Proofs.Ytpjehbcchanmhaa.PC
open Go.RowKit Go.Proofs.YtpjehbcchanmhaaW.PrintWords Go.Proofs.YtpjehbcchanmhaaW.PrintLast Go.Proofs.YtpjehbcchanmhaaW.PrintMore
set_option linter.unusedVariables false
set_option linter.unusedSimpArgs false
theorem ld_op {o : Oper} {a : Act} {w : World} (T : TypeId) (x : Operand) (ho : o.op = .load T x) (g : Nat) (hx : a.eval x = .pointer (some ⟨g, 0, none⟩)) {A : Array Value} {T' : TypeId} {n : Nat} {d : TypeDesc}
    (hg : w.heap[g]? = some (.cells A T' (0, 0))) (hu : Try.prog.underlying T = some d) (hd : d.isRow = true) (hi : (Try.prog.info? T).map (·.size) = some n) (hA : A.size = n) : (execOp a.eval o).run Try.prog w = .ok (.value (.agg A)) w := by
  have := run_loadVar_mid (P := Try.prog) w g 0 T A.toList d (fun j v hv => by rw [Nat.zero_add, blk_cell hg]; simpa using hv) hu hd (by rw [hi, ← hA]; simp)
  unfold execOp
  simp only [ho, hx, Instr.loadAt, Instr.sureAddr, Sem.run_bind, Sem.run_pure, Result.andThen_ok, this]
set_option maxRecDepth 100000 in
set_option maxHeartbeats 4000000 in
theorem key_c (w : World) (J : Array Value) (b pr rel tk : Int) (zJ : J.size = 23) (h17 : J[17]? = some (.int .i64 pr)) (h2 : J[2]? = some (.int .i64 rel)) (h0 : J[0]? = some (.int .i64 tk)) (HBa : ∀ W : World, Calls Try.prog 18 #[.agg J] W fun e w' => e = .returned (.int .i64 b) ∧ Below W.heap.size W w') :
    Calls Try.prog 13 #[.agg J] w fun e w' => e = .returned (.agg #[.int .i64 b, .int .i64 pr, .int .i64 rel, .int .i64 tk]) ∧ Below w.heap.size w w' := by
  replace zJ := Lib.hid zJ
  replace h17 := Lib.hid h17
  replace h2 := Lib.hid h2
  replace h0 := Lib.hid h0
  replace HBa := Lib.hid HBa
  have hz : ∀ V : World, (zeroValue 38).run Try.prog V = .ok (.agg #[.int .i64 0, .int .i64 0, .int .i64 0, .int .i64 0]) V := fun V => by kernel_rfl
  obtain ⟨B0, hB0⟩ : ∃ B, w.heap.size = B := ⟨_, rfl⟩
  rw [hB0]
  obtain ⟨V0, hV0⟩ : ∃ V, w.alloc (.cells J 32) = V := ⟨_, rfl⟩
  obtain ⟨X1, hX1⟩ : ∃ X, V0.heap.size = X := ⟨_, rfl⟩
  obtain ⟨V1, hV1⟩ : ∃ V, V0.alloc (.cells #[.int .i64 0, .int .i64 0, .int .i64 0, .int .i64 0] 38) = V := ⟨_, rfl⟩
  have g0 : V0.heap[B0]? = some (.cells J 32 (0, 0)) := by rw [← hV0]; exact (box_new hB0).1
  have lt1 : B0 < X1 := hX1 ▸ blk_lt g0
  have Hj : Hid (V1.heap[B0]? = some (.cells J 32 (0, 0))) := Lib.hid (by rw [← hV1]; exact ((box_new hX1).2 _ lt1).trans g0)
  have Hr : Hid (V1.heap[X1]? = some (.cells #[.int .i64 0, .int .i64 0, .int .i64 0, .int .i64 0] 38 (0, 0))) := Lib.hid (by rw [← hV1]; exact (box_new hX1).1)
  have HE : Hid (Below B0 w V1) := Lib.hid (by rw [← hV1, ← hV0, ← hB0]; exact ((Below.refl _ _).alloc (Nat.le_refl _) _).alloc (by simp) _)
  have ge1 : B0 ≤ X1 := Nat.le_of_lt lt1
  have n1 : B0 ≠ X1 := Nat.ne_of_lt lt1
  clear g0
  go_enter Try.func13, Try.ntmps13
  go_upto_region 1 with (fail)
  replace hB0 := Lib.hid hB0
  replace hV0 := Lib.hid hV0
  replace hX1 := Lib.hid hX1
  replace hV1 := Lib.hid hV1
  refine start_ (n := 12) (S := fun w' => w'.heap[B0]? = some (.cells J 32 (0, 0)) ∧ w'.cell? ⟨B0, 17, none⟩ = some (.int .i64 pr) ∧ w'.cell? ⟨B0, 2, none⟩ = some (.int .i64 rel) ∧ w'.cell? ⟨B0, 0, none⟩ = some (.int .i64 tk)) (ds := []) #[false, false, false, false, false, false, false, false, false, false, false, false] (by kernel_rfl) rfl rfl ⟨Hj.out, (blk_cell (Hj.out) 17).trans h17.out, (blk_cell (Hj.out) 2).trans h2.out, (blk_cell (Hj.out) 0).trans h0.out⟩ (fun hHeld => ?_)
  refine take_ (i := 0) (N := (some 3)) (v := .agg J) (a' := ?_) #[true, false, false, false, false, false, false, false, false, false, false, false] rfl rfl (by kernel_rfl) (fun _ _ _ h => h) (Or.inl ⟨by rfl, ?_⟩) hHeld ?_ ?_
  · rintro w' ⟨s0, s1⟩
    exact ld_op 32 _ rfl B0 rfl s0 Try.underlying32 rfl (by kernel_rfl) zJ.out
  rotate_left
  · simp only [Act.put, List.setIfInBounds_toArray, List.set_cons_zero, List.set_cons_succ, i64_w, i32_w]
    rfl
  refine pure_ (i := 2) (N := (some 5)) (v := ?_) (a' := ?_) #[true, false, true, false, false, false, false, false, false, false, false, false] rfl rfl (by kernel_rfl) (fun _ _ _ h => h) (Or.inl ⟨by rfl, ?_⟩) ?_ ?_
  rotate_left
  · intro w'
    go_simp
    with_reducible rfl
  rotate_left
  · simp only [Act.put, List.setIfInBounds_toArray, List.set_cons_zero, List.set_cons_succ, i64_w, i32_w]
    rfl
  refine pure_ (i := 3) (N := (some 6)) (v := ?_) (a' := ?_) #[true, false, true, true, false, false, false, false, false, false, false, false] rfl rfl (by kernel_rfl) (fun _ _ _ h => h) (Or.inl ⟨by rfl, ?_⟩) ?_ ?_
  rotate_left
  · intro w'
    go_simp
    with_reducible rfl
  rotate_left
  · simp only [Act.put, List.setIfInBounds_toArray, List.set_cons_zero, List.set_cons_succ, i64_w, i32_w]
    rfl
  refine pure_ (i := 4) (N := (some 7)) (v := ?_) (a' := ?_) #[true, false, true, true, true, false, false, false, false, false, false, false] rfl rfl (by kernel_rfl) (fun _ _ _ h => h) (Or.inl ⟨by rfl, ?_⟩) ?_ ?_
  rotate_left
  · intro w'
    go_simp
    with_reducible rfl
  rotate_left
  · simp only [Act.put, List.setIfInBounds_toArray, List.set_cons_zero, List.set_cons_succ, i64_w, i32_w]
    rfl
  refine pure_ (i := 6) (N := (some 9)) (v := ?_) (a' := ?_) #[true, false, true, true, true, false, true, false, false, false, false, false] rfl rfl (by kernel_rfl) (fun _ _ _ h => h) (Or.inl ⟨by rfl, ?_⟩) ?_ ?_
  rotate_left
  · intro w'
    go_simp
    with_reducible rfl
  rotate_left
  · simp only [Act.put, List.setIfInBounds_toArray, List.set_cons_zero, List.set_cons_succ, i64_w, i32_w]
    rfl
  refine pure_ (i := 8) (N := (some 11)) (v := ?_) (a' := ?_) #[true, false, true, true, true, false, true, false, true, false, false, false] rfl rfl (by kernel_rfl) (fun _ _ _ h => h) (Or.inl ⟨by rfl, ?_⟩) ?_ ?_
  rotate_left
  · intro w'
    go_simp
    with_reducible rfl
  rotate_left
  · simp only [Act.put, List.setIfInBounds_toArray, List.set_cons_zero, List.set_cons_succ, i64_w, i32_w]
    rfl
  refine take_ (i := 5) (N := (some 8)) (v := ?_) (a' := ?_) #[true, false, true, true, true, true, true, false, true, false, false, false] rfl rfl (by kernel_rfl) (fun _ _ _ h => h) (Or.inl ⟨by rfl, ?_⟩) hHeld ?_ ?_
  rotate_left
  · rintro w' ⟨s0, s1, s2, s3⟩
    go_simp
    with_reducible rfl
  rotate_left
  · simp only [Act.put, List.setIfInBounds_toArray, List.set_cons_zero, List.set_cons_succ, i64_w, i32_w]
    rfl
  refine take_ (i := 7) (N := (some 10)) (v := ?_) (a' := ?_) #[true, false, true, true, true, true, true, true, true, false, false, false] rfl rfl (by kernel_rfl) (fun _ _ _ h => h) (Or.inl ⟨by rfl, ?_⟩) hHeld ?_ ?_
  rotate_left
  · rintro w' ⟨s0, s1, s2, s3⟩
    go_simp
    with_reducible rfl
  rotate_left
  · simp only [Act.put, List.setIfInBounds_toArray, List.set_cons_zero, List.set_cons_succ, i64_w, i32_w]
    rfl
  refine take_ (i := 9) (N := (some 12)) (v := ?_) (a' := ?_) #[true, false, true, true, true, true, true, true, true, true, false, false] rfl rfl (by kernel_rfl) (fun _ _ _ h => h) (Or.inl ⟨by rfl, ?_⟩) hHeld ?_ ?_
  rotate_left
  · rintro w' ⟨s0, s1, s2, s3⟩
    go_simp
    with_reducible rfl
  rotate_left
  · simp only [Act.put, List.setIfInBounds_toArray, List.set_cons_zero, List.set_cons_succ, i64_w, i32_w]
    rfl
  refine one_ (i := 1) (N := (some 4)) #[true, true, true, true, true, true, true, true, true, true, false, false] rfl rfl (by kernel_rfl) (by decide) (fun K hK => ?_)
  refine goes_ Try.func18 (by kernel_rfl) rfl #[.agg J] (by rfl) rfl rfl (by (try simp only [List.map_toArray, List.map_cons, List.map_nil]); first | done | rfl) ?_
  refine (HBa.out _).mono ?_
  rintro e V4 ⟨rfl, hb4⟩
  have Hj4 := Lib.hid ((hb4.block B0 (blk_lt Hj.out)).trans Hj.out)
  have Hr4 := Lib.hid ((hb4.block X1 (blk_lt Hr.out)).trans Hr.out)
  have HE4 := Lib.hid ((HE.out.drew).trans (hb4.mono (sz_le hB0.out HE.out.size)))
  refine ⟨_, rfl, ?_⟩
  refine hK.out _ _ ⟨Hj4.out, (blk_cell (Hj4.out) 17).trans h17.out, (blk_cell (Hj4.out) 2).trans h2.out, (blk_cell (Hj4.out) 0).trans h0.out⟩ (fun hHeld => ?_)
  clear hb4 Hj Hr HE
  clear hK K
  refine norm_ (a' := ?_) ?_ ?_
  rotate_left
  · show Act.put _ (some 4) _ = _
    simp only [Act.put, List.setIfInBounds_toArray, List.set_cons_zero, List.set_cons_succ, i64_w, i32_w]
    rfl
  refine pure_ (i := 10) (N := (some 13)) (v := ?_) (a' := ?_) #[true, true, true, true, true, true, true, true, true, true, true, false] rfl rfl (by kernel_rfl) (fun _ _ _ h => h) (Or.inl ⟨by rfl, ?_⟩) ?_ ?_
  rotate_left
  · intro w'
    go_simp
    with_reducible rfl
  rotate_left
  · simp only [Act.put, List.setIfInBounds_toArray, List.set_cons_zero, List.set_cons_succ, i64_w, i32_w]
    rfl
  refine one_ (i := 11) (N := none) #[true, true, true, true, true, true, true, true, true, true, true, true] rfl rfl (by kernel_rfl) (by decide) (fun K hK => ?_)
  have hs0 : V4.cell? ⟨X1, 0, none⟩ = some (.int .i64 0) := (blk_cell Hr4.out 0).trans rfl
  have hs1 : V4.cell? ⟨X1, 1, none⟩ = some (.int .i64 0) := (blk_cell Hr4.out 1).trans rfl
  have hs2 : V4.cell? ⟨X1, 2, none⟩ = some (.int .i64 0) := (blk_cell Hr4.out 2).trans rfl
  have hs3 : V4.cell? ⟨X1, 3, none⟩ = some (.int .i64 0) := (blk_cell Hr4.out 3).trans rfl
  have hf0 := blk_frozen Hr4.out 0
  have hf1 := blk_frozen Hr4.out 1
  have hf2 := blk_frozen Hr4.out 2
  have hf3 := blk_frozen Hr4.out 3
  refine skip_ (w1 := ?_) (by rfl) rfl ?_ ?_
  rotate_left
  · go_simp
    rfl
  skip
  refine hK.out _ _ ⟨blk_far (blk_far (blk_far (blk_far (Hj4.out) n1 _) n1 _) n1 _) n1 _, (blk_cell (blk_far (blk_far (blk_far (blk_far (Hj4.out) n1 _) n1 _) n1 _) n1 _) 17).trans h17.out, (blk_cell (blk_far (blk_far (blk_far (blk_far (Hj4.out) n1 _) n1 _) n1 _) n1 _) 2).trans h2.out, (blk_cell (blk_far (blk_far (blk_far (blk_far (Hj4.out) n1 _) n1 _) n1 _) n1 _) 0).trans h0.out⟩ (fun hHeld => ?_)
  clear hK K
  refine done_ (by kernel_rfl) ?_
  try go_wp2
  refine bodyPost_ret (results_cell_row rfl _ _ X1 38 #[.int .i64 b, .int .i64 pr, .int .i64 rel, .int .i64 tk] (0, 0) _ rfl (blk_put (blk_put (blk_put (blk_put (Hr4.out) 0 _ rfl) 1 _ rfl) 2 _ rfl) 3 _ rfl) Try.underlying38 rfl (by kernel_rfl)) rfl ?_
  exact ⟨rfl, ((((HE4.out.setCell (p := ⟨X1, 0, none⟩) ge1 _).setCell (p := ⟨X1, 1, none⟩) ge1 _).setCell (p := ⟨X1, 2, none⟩) ge1 _).setCell (p := ⟨X1, 3, none⟩) ge1 _)⟩
end Go.Proofs.Ytpjehbcchanmhaa.PC
