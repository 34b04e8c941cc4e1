/- What recover.failed computes: the printed function's contract, by a walk of this session's own. -/
import Derived.Test.YtpjehbcchanmhaaPCx4
import Derived.Lib.Hide
namespace Go.Proofs.Ytpjehbcchanmhaa.PC
open Go.RowKit Go.Proofs.YtpjehbcchanmhaaW.PrintWords Go.Proofs.YtpjehbcchanmhaaW.PrintLast Go.Proofs.YtpjehbcchanmhaaW.PrintMore
set_option linter.unusedVariables false
set_option linter.unusedSimpArgs false
/-! ### recover_failed: function 27 -/
def recover_failed.f (k : Nat) (a0_0 : ByteArray) (a0_1 : Int) (a0_2 : Int) (a0_3 : Int) (a0_4 : Int) (a0_5 : Int) (a0_6 : Int) (a0_7 : Int) (a0_8 : Int) (a0_9 : Int) (a0_10 : Int) (a0_11 : Int) (a0_12 : Int) (a0_13 : Int) (a0_14 : Bool) (a0_15 : Int) : Option (ByteArray × Int × Int × Int × Int × Int × Int × Int × Int × Int × Int × Int × Int × Int × Bool × Int × Int) := if a0_9 = 1 then ((demand_Parts.f k a0_0 a0_1 a0_2 a0_3 a0_4 a0_5 a0_6 a0_7 a0_8 a0_9 a0_10 a0_11).bind fun t148 => (if 0 ≤ a0_12 then (if a0_12 < (t148.length : Int) then (some (a0_0, a0_1, a0_2, a0_3, a0_4, a0_5, a0_6, a0_7, a0_8, a0_9, a0_10, a0_11, a0_12, rd t148 a0_12, false, wrap64 (a0_15 + 1), 2)) else (none)) else (none))) else (if a0_9 = 3 then (if a0_12 = 1 then (some (a0_0, a0_1, a0_2, a0_3, a0_4, a0_5, a0_6, a0_7, a0_8, a0_9, a0_10, a0_11, 1, wrap64 (a0_4 + a0_6), false, wrap64 (a0_15 + 1), 2)) else (some (a0_0, a0_1, a0_2, a0_3, a0_4, a0_5, a0_6, a0_7, a0_8, a0_9, a0_10, a0_11, 1, wrap64 (a0_4 + a0_6), false, wrap64 (a0_15 + 1), 3))) else (some (a0_0, a0_1, a0_2, a0_3, a0_4, a0_5, a0_6, a0_7, a0_8, a0_9, a0_10, a0_11, 1, wrap64 (a0_4 + a0_6), false, wrap64 (a0_15 + 1), 2)))
theorem recover_failed.mono : ∀ a0 a1 a2 a3 a4 a5 a6 a7 a8 a9 a10 a11 a12 a13 a14 a15 k, LeO (recover_failed.f k a0 a1 a2 a3 a4 a5 a6 a7 a8 a9 a10 a11 a12 a13 a14 a15) (recover_failed.f (k + 1) a0 a1 a2 a3 a4 a5 a6 a7 a8 a9 a10 a11 a12 a13 a14 a15) := by
  intro a0 a1 a2 a3 a4 a5 a6 a7 a8 a9 a10 a11 a12 a13 a14 a15 k
  unfold recover_failed.f
  repeat' first
      | (with_reducible exact demand_Parts.mono _ _ _ _ _ _ _ _ _ _ _ _ _)
      | (with_reducible exact LeO.refl _)
      | (with_reducible exact LeO.none _)
      | (with_reducible refine LeO.ite ?_ ?_)
      | (with_reducible refine LeO.bind ?_ (fun _ => ?_))
      | exact demand_Parts.mono _ _ _ _ _ _ _ _ _ _ _ _ _
      | exact LeO.none _
      | refine LeO.ite ?_ ?_
      | refine LeO.bind ?_ (fun _ => ?_)

theorem own_ints {w : World} {base : Nat} {ok : Nat → Prop} {v : Value} {L : List Int} (h : Kd.R (Kd.int .i64) 3 w base ok v L) (p : Nat) (hp : p < L.length) :
    ∃ g c, v = .slice (some ⟨g, 0, none⟩) L.length c ∧ base ≤ g ∧ L.length ≤ c ∧ w.cell? ⟨g, p, none⟩ = some (.int .i64 (rd L (p : Int))) := by
  obtain ⟨A, c, he, hl, hC⟩ := Kd.R_reads h
  obtain ⟨inner, ho⟩ := Kd.R_own h
  rcases ho.2 with ⟨_, h0⟩ | ⟨g, cap, cur, hv, hg, _⟩
  · omega
  · rw [hv] at he
    injection he with e1 e2 e3
    subst e1
    obtain ⟨ad, e4, hc⟩ := Kd.at_int hC (p : Int) (by omega) (by omega)
    injection e4 with e4
    subst e4
    rw [Go.WideShapes.add_plain] at hc
    exact ⟨g, cap, hv, hg, by omega, by simpa using hc⟩
/-- The two boxes of the call. -/
theorem two_boxed (w : World) (xs ys : Array Value) {W : World} (hW : W = (w.alloc (.cells xs 30)).alloc (.cells ys 30)) : W.heap[w.heap.size]? = some (.cells xs 30 (0, 0)) ∧ W.heap[w.heap.size + 1]? = some (.cells ys 30 (0, 0)) ∧ Below w.heap.size w W := by
  subst hW
  have h2 := blk_new (w.alloc (.cells xs 30)) (.cells ys 30)
  rw [show (w.alloc (.cells xs 30)).heap.size = w.heap.size + 1 by simp] at h2
  exact ⟨blk_alloc (blk_new w _) _, h2, ((Below.refl _ _).alloc (Nat.le_refl _) _).alloc (by simp) _⟩
theorem st16 {W : World} {B : Nat} {T : TypeId} {v0 v1 v2 v3 v4 v5 v6 v7 v8 v9 v10 v11 v12 v13 v14 v15 u0 u1 u2 u3 u4 u5 u6 u7 u8 u9 u10 u11 u12 u13 u14 u15 : Value} (h : W.heap[B]? = some (.cells #[u0, u1, u2, u3, u4, u5, u6, u7, u8, u9, u10, u11, u12, u13, u14, u15] T (0, 0))) : ((((((((((((((((W.setCell ⟨B, 0, none⟩ (v0)).setCell ⟨B, 1, none⟩ (v1)).setCell ⟨B, 2, none⟩ (v2)).setCell ⟨B, 3, none⟩ (v3)).setCell ⟨B, 4, none⟩ (v4)).setCell ⟨B, 5, none⟩ (v5)).setCell ⟨B, 6, none⟩ (v6)).setCell ⟨B, 7, none⟩ (v7)).setCell ⟨B, 8, none⟩ (v8)).setCell ⟨B, 9, none⟩ (v9)).setCell ⟨B, 10, none⟩ (v10)).setCell ⟨B, 11, none⟩ (v11)).setCell ⟨B, 12, none⟩ (v12)).setCell ⟨B, 13, none⟩ (v13)).setCell ⟨B, 14, none⟩ (v14)).setCell ⟨B, 15, none⟩ (v15)).heap[B]? = some (.cells #[v0, v1, v2, v3, v4, v5, v6, v7, v8, v9, v10, v11, v12, v13, v14, v15] T (0, 0)) := by
  have := (blk_set (blk_set (blk_set (blk_set (blk_set (blk_set (blk_set (blk_set (blk_set (blk_set (blk_set (blk_set (blk_set (blk_set (blk_set (blk_set h 0 v0) 1 v1) 2 v2) 3 v3) 4 v4) 5 v5) 6 v6) 7 v7) 8 v8) 9 v9) 10 v10) 11 v11) 12 v12) 13 v13) 14 v14) 15 v15)
  simpa only [List.setIfInBounds_toArray, List.set_cons_zero, List.set_cons_succ] using this
theorem be16 {a W : World} {B R : Nat} (v0 v1 v2 v3 v4 v5 v6 v7 v8 v9 v10 v11 v12 v13 v14 v15 : Value) (h : Below B a W) (hR : B ≤ R) : Below B a ((((((((((((((((W.setCell ⟨R, 0, none⟩ (v0)).setCell ⟨R, 1, none⟩ (v1)).setCell ⟨R, 2, none⟩ (v2)).setCell ⟨R, 3, none⟩ (v3)).setCell ⟨R, 4, none⟩ (v4)).setCell ⟨R, 5, none⟩ (v5)).setCell ⟨R, 6, none⟩ (v6)).setCell ⟨R, 7, none⟩ (v7)).setCell ⟨R, 8, none⟩ (v8)).setCell ⟨R, 9, none⟩ (v9)).setCell ⟨R, 10, none⟩ (v10)).setCell ⟨R, 11, none⟩ (v11)).setCell ⟨R, 12, none⟩ (v12)).setCell ⟨R, 13, none⟩ (v13)).setCell ⟨R, 14, none⟩ (v14)).setCell ⟨R, 15, none⟩ (v15)) :=
  ((((((((((((((((h.setCell (p := ⟨R, 0, none⟩) hR _).setCell (p := ⟨R, 1, none⟩) hR _).setCell (p := ⟨R, 2, none⟩) hR _).setCell (p := ⟨R, 3, none⟩) hR _).setCell (p := ⟨R, 4, none⟩) hR _).setCell (p := ⟨R, 5, none⟩) hR _).setCell (p := ⟨R, 6, none⟩) hR _).setCell (p := ⟨R, 7, none⟩) hR _).setCell (p := ⟨R, 8, none⟩) hR _).setCell (p := ⟨R, 9, none⟩) hR _).setCell (p := ⟨R, 10, none⟩) hR _).setCell (p := ⟨R, 11, none⟩) hR _).setCell (p := ⟨R, 12, none⟩) hR _).setCell (p := ⟨R, 13, none⟩) hR _).setCell (p := ⟨R, 14, none⟩) hR _).setCell (p := ⟨R, 15, none⟩) hR _)
set_option maxRecDepth 100000 in
set_option maxHeartbeats 2000000 in
theorem failed_retry (w : World) (a0 : ByteArray) (a1 : Int) (a2 : Int) (a3 : Int) (a4 : Int) (a5 : Int) (a6 : Int) (a7 : Int) (a8 : Int) (a10 : Int) (a11 : Int) (p : Nat) (a13 : Int) (a14 : Bool) (a15 : Int) (L : List Int) (k : Nat) (hL : demand_Parts.f k a0 a1 a2 a3 a4 a5 a6 a7 a8 1 a10 a11 = some L) (hpl : p < L.length) :
    Calls Try.prog 27 #[.agg #[.string a0, .int .i64 a1, .int .i64 a2, .int .i64 a3, .int .i64 a4, .int .i64 a5, .int .i64 a6, .int .i64 a7, .int .i64 a8, .int .i64 1, .int .i64 a10, .int .i64 a11, .int .i64 (p : Int), .int .i64 a13, .bool a14, .int .i64 a15]] w fun e w' => e = .returned (.tuple #[.agg #[.string a0, .int .i64 a1, .int .i64 a2, .int .i64 a3, .int .i64 a4, .int .i64 a5, .int .i64 a6, .int .i64 a7, .int .i64 a8, .int .i64 1, .int .i64 a10, .int .i64 a11, .int .i64 (p : Int), .int .i64 (rd L (p : Int)), .bool false, .int .i64 (wrap64 (a15 + 1))], .int .i64 2]) ∧ Below w.heap.size w w' := by
  obtain ⟨W, hW⟩ : ∃ W, W = (w.alloc (.cells #[.string a0, .int .i64 a1, .int .i64 a2, .int .i64 a3, .int .i64 a4, .int .i64 a5, .int .i64 a6, .int .i64 a7, .int .i64 a8, .int .i64 1, .int .i64 a10, .int .i64 a11, .int .i64 (p : Int), .int .i64 a13, .bool a14, .int .i64 a15] 30)).alloc (.cells #[.string ⟨#[]⟩, .int .i64 0, .int .i64 0, .int .i64 0, .int .i64 0, .int .i64 0, .int .i64 0, .int .i64 0, .int .i64 0, .int .i64 0, .int .i64 0, .int .i64 0, .int .i64 0, .int .i64 0, .bool false, .int .i64 0] 30) := ⟨_, rfl⟩
  obtain ⟨h1, h2, hb⟩ := two_boxed w _ _ hW
  have hz : ∀ V : World, (zeroValue 30).run Try.prog V = .ok (.agg #[.string ⟨#[]⟩, .int .i64 0, .int .i64 0, .int .i64 0, .int .i64 0, .int .i64 0, .int .i64 0, .int .i64 0, .int .i64 0, .int .i64 0, .int .i64 0, .int .i64 0, .int .i64 0, .int .i64 0, .bool false, .int .i64 0]) V := fun V => by kernel_rfl
  obtain ⟨B, hB⟩ : ∃ B, B = w.heap.size := ⟨_, rfl⟩
  rw [← hB] at h1 h2 hb
  have c15 : W.cell? ⟨B, 15, none⟩ = some (.int .i64 a15) := blk_cell h1 15
  have c14 : W.cell? ⟨B, 14, none⟩ = some (.bool a14) := blk_cell h1 14
  have z15 : W.frozen? ⟨B, 15, none⟩ = false := blk_frozen h1 15
  have z14 : W.frozen? ⟨B, 14, none⟩ = false := blk_frozen h1 14
  have HB2 : Hid (((W.setCell ⟨B, 15, none⟩ (.int .i64 (wrap64 (a15 + 1)))).setCell ⟨B, 14, none⟩ (.bool false)).heap[B]? = some (.cells #[.string a0, .int .i64 a1, .int .i64 a2, .int .i64 a3, .int .i64 a4, .int .i64 a5, .int .i64 a6, .int .i64 a7, .int .i64 a8, .int .i64 1, .int .i64 a10, .int .i64 a11, .int .i64 (p : Int), .int .i64 a13, .bool false, .int .i64 (wrap64 (a15 + 1))] 30 (0, 0))) := Lib.hid (blk_put (blk_put h1 15 _ rfl) 14 _ rfl)
  have HR2 : Hid (((W.setCell ⟨B, 15, none⟩ (.int .i64 (wrap64 (a15 + 1)))).setCell ⟨B, 14, none⟩ (.bool false)).heap[B + 1]? = some (.cells #[.string ⟨#[]⟩, .int .i64 0, .int .i64 0, .int .i64 0, .int .i64 0, .int .i64 0, .int .i64 0, .int .i64 0, .int .i64 0, .int .i64 0, .int .i64 0, .int .i64 0, .int .i64 0, .int .i64 0, .bool false, .int .i64 0] 30 (0, 0))) := Lib.hid (blk_far (blk_far h2 (by show B + 1 ≠ B; omega) _) (by show B + 1 ≠ B; omega) _)
  have HBe : Hid (Below B w ((W.setCell ⟨B, 15, none⟩ (.int .i64 (wrap64 (a15 + 1)))).setCell ⟨B, 14, none⟩ (.bool false))) := Lib.hid ((hb.setCell (p := ⟨B, 15, none⟩) (Nat.le_refl _) _).setCell (p := ⟨B, 14, none⟩) (Nat.le_refl _) _)
  replace hW := Lib.hid hW
  replace hB := Lib.hid hB
  clear h1 h2 hb
  go_enter Try.func27, Try.ntmps27
  go_upto_region 1 with (fail)
  rw [← hW.out, ← hB.out]
  go_upto_region 3 with (fail)
  generalize (W.setCell ⟨B, 15, none⟩ (.int .i64 (wrap64 (a15 + 1)))).setCell ⟨B, 14, none⟩ (.bool false) = W2 at HB2 HR2 HBe ⊢
  clear c15 c14 z15 z14 hz
  have c0 : W2.cell? ⟨B, 0, none⟩ = some (.string a0) := blk_cell HB2.out 0
  have c1 : W2.cell? ⟨B, 1, none⟩ = some (.int .i64 a1) := blk_cell HB2.out 1
  have c2 : W2.cell? ⟨B, 2, none⟩ = some (.int .i64 a2) := blk_cell HB2.out 2
  have c3 : W2.cell? ⟨B, 3, none⟩ = some (.int .i64 a3) := blk_cell HB2.out 3
  have c4 : W2.cell? ⟨B, 4, none⟩ = some (.int .i64 a4) := blk_cell HB2.out 4
  have c5 : W2.cell? ⟨B, 5, none⟩ = some (.int .i64 a5) := blk_cell HB2.out 5
  have c6 : W2.cell? ⟨B, 6, none⟩ = some (.int .i64 a6) := blk_cell HB2.out 6
  have c7 : W2.cell? ⟨B, 7, none⟩ = some (.int .i64 a7) := blk_cell HB2.out 7
  have c8 : W2.cell? ⟨B, 8, none⟩ = some (.int .i64 a8) := blk_cell HB2.out 8
  have c9 : W2.cell? ⟨B, 9, none⟩ = some (.int .i64 1) := blk_cell HB2.out 9
  have c10 : W2.cell? ⟨B, 10, none⟩ = some (.int .i64 a10) := blk_cell HB2.out 10
  have c11 : W2.cell? ⟨B, 11, none⟩ = some (.int .i64 a11) := blk_cell HB2.out 11
  have c12 : W2.cell? ⟨B, 12, none⟩ = some (.int .i64 (p : Int)) := blk_cell HB2.out 12
  have c13 : W2.cell? ⟨B, 13, none⟩ = some (.int .i64 a13) := blk_cell HB2.out 13
  have c14 : W2.cell? ⟨B, 14, none⟩ = some (.bool false) := blk_cell HB2.out 14
  have c15 : W2.cell? ⟨B, 15, none⟩ = some (.int .i64 (wrap64 (a15 + 1))) := blk_cell HB2.out 15
  have hBlt : B < W2.heap.size := blk_lt HB2.out
  have hRlt : B + 1 < W2.heap.size := blk_lt HR2.out
  have hp0 : (0 : Int) ≤ (p : Int) := by omega
  have hpl2 : (p : Int) < (L.length : Int) := by omega
  have HP : Hid (∀ W' : World, W' = W2.drew → Calls Try.prog 26 #[.agg #[.string a0, .int .i64 a1, .int .i64 a2, .int .i64 a3, .int .i64 a4, .int .i64 a5, .int .i64 a6, .int .i64 a7, .int .i64 a8, .int .i64 1, .int .i64 a10], .int .i64 a11] W' fun e w' => ∃ v : Value, e = .returned v ∧ Kd.R (Kd.int .i64) 3 w' W2.heap.size (fun _ => True) v L ∧ Below W2.heap.size W2 w') := Lib.hid (fun W' hW' => by
    subst hW'
    exact (demand_Parts.calls k _ _ _ _ _ _ _ _ _ _ _ _ _ W2.drew hL).mono fun _ _ ⟨v, he, h1, h2⟩ => ⟨v, he, h1, ((Below.refl _ W2).drew).trans h2⟩)
  go_wp2_with fail
  refine start_ (n := 11) (S := fun w' => w'.cell? ⟨B, 0, none⟩ = some (.string a0) ∧ w'.cell? ⟨B, 1, none⟩ = some (.int .i64 a1) ∧ w'.cell? ⟨B, 2, none⟩ = some (.int .i64 a2) ∧ w'.cell? ⟨B, 3, none⟩ = some (.int .i64 a3) ∧ w'.cell? ⟨B, 4, none⟩ = some (.int .i64 a4) ∧ w'.cell? ⟨B, 5, none⟩ = some (.int .i64 a5) ∧ w'.cell? ⟨B, 6, none⟩ = some (.int .i64 a6) ∧ w'.cell? ⟨B, 7, none⟩ = some (.int .i64 a7) ∧ w'.cell? ⟨B, 8, none⟩ = some (.int .i64 a8) ∧ w'.cell? ⟨B, 9, none⟩ = some (.int .i64 1) ∧ w'.cell? ⟨B, 10, none⟩ = some (.int .i64 a10) ∧ w'.cell? ⟨B, 11, none⟩ = some (.int .i64 a11) ∧ w'.cell? ⟨B, 12, none⟩ = some (.int .i64 (p : Int))) (ds := [10]) #[false, false, false, false, false, false, false, false, false, false, false] (by kernel_rfl) rfl rfl ⟨c0, c1, c2, c3, c4, c5, c6, c7, c8, c9, c10, c11, c12⟩ (fun hHeld => ?_)
  refine pure_ (i := 0) (N := (some 14)) (v := ?_) (a' := ?_) #[true, false, false, false, false, false, false, false, false, false, false] rfl rfl (by kernel_rfl) (fun _ _ _ h => h) (Or.inl ⟨by rfl, ?_⟩) ?_ ?_
  rotate_left
  · intro w'
    go_simp
    with_reducible rfl
  rotate_left
  · simp only [Act.put, List.setIfInBounds_toArray, List.set_cons_zero, List.set_cons_succ, i64_w, i32_w]
    rfl
  refine take_ (i := 1) (N := (some 15)) (v := ?_) (a' := ?_) #[true, true, false, false, false, false, false, false, false, false, false] rfl rfl (by kernel_rfl) (fun _ _ _ h => h) (Or.inl ⟨by rfl, ?_⟩) hHeld ?_ ?_
  rotate_left
  · rintro w' ⟨s0, s1, s2, s3, s4, s5, s6, s7, s8, s9, s10, s11, s12⟩
    go_simp
    with_reducible rfl
  rotate_left
  · simp only [Act.put, List.setIfInBounds_toArray, List.set_cons_zero, List.set_cons_succ, i64_w, i32_w]
    rfl
  refine pure_ (i := 2) (N := (some 16)) (v := ?_) (a' := ?_) #[true, true, true, false, false, false, false, false, false, false, false] rfl rfl (by kernel_rfl) (fun _ _ _ h => h) (Or.inl ⟨by rfl, ?_⟩) ?_ ?_
  rotate_left
  · intro w'
    go_simp
    with_reducible rfl
  rotate_left
  · simp only [Act.put, List.setIfInBounds_toArray, List.set_cons_zero, List.set_cons_succ, i64_w, i32_w]
    rfl
  refine take_ (i := 3) (N := (some 17)) (v := ?_) (a' := ?_) #[true, true, true, true, false, false, false, false, false, false, false] rfl rfl (by kernel_rfl) (fun _ _ _ h => h) (Or.inl ⟨by rfl, ?_⟩) hHeld ?_ ?_
  rotate_left
  · rintro w' ⟨s0, s1, s2, s3, s4, s5, s6, s7, s8, s9, s10, s11, s12⟩
    go_simp
    with_reducible rfl
  rotate_left
  · simp only [Act.put, List.setIfInBounds_toArray, List.set_cons_zero, List.set_cons_succ, i64_w, i32_w]
    rfl
  refine pure_ (i := 5) (N := (some 19)) (v := ?_) (a' := ?_) #[true, true, true, true, false, true, false, false, false, false, false] rfl rfl (by kernel_rfl) (fun _ _ _ h => h) (Or.inl ⟨by rfl, ?_⟩) ?_ ?_
  rotate_left
  · intro w'
    go_simp
    with_reducible rfl
  rotate_left
  · simp only [Act.put, List.setIfInBounds_toArray, List.set_cons_zero, List.set_cons_succ, i64_w, i32_w]
    rfl
  refine take_ (i := 6) (N := (some 20)) (v := ?_) (a' := ?_) #[true, true, true, true, false, true, true, false, false, false, false] rfl rfl (by kernel_rfl) (fun _ _ _ h => h) (Or.inl ⟨by rfl, ?_⟩) hHeld ?_ ?_
  rotate_left
  · rintro w' ⟨s0, s1, s2, s3, s4, s5, s6, s7, s8, s9, s10, s11, s12⟩
    go_simp
    with_reducible rfl
  rotate_left
  · simp only [Act.put, List.setIfInBounds_toArray, List.set_cons_zero, List.set_cons_succ, i64_w, i32_w]
    rfl
  refine one_ (i := 4) (N := (some 18)) #[true, true, true, true, true, true, true, false, false, false, false] rfl rfl (by kernel_rfl) (by decide) (fun K hK => ?_)
  refine goes_ Try.func26 (by kernel_rfl) rfl #[.agg #[.string a0, .int .i64 a1, .int .i64 a2, .int .i64 a3, .int .i64 a4, .int .i64 a5, .int .i64 a6, .int .i64 a7, .int .i64 a8, .int .i64 1, .int .i64 a10], .int .i64 a11] (by rfl) rfl rfl (by (try simp only [List.map_toArray, List.map_cons, List.map_nil]); first | done | rfl) ?_
  refine (HP.out _ rfl).mono ?_
  rintro e w4 ⟨v, rfl, hv, hb4⟩
  obtain ⟨g, cp, rfl, hg, hlc, hgc⟩ := own_ints hv p hpl
  have hb4' := Lib.hid hb4
  have q := Lib.hid (hb4.block B hBlt)
  have q2 := Lib.hid (hb4.block (B + 1) hRlt)
  have e13 : w4.cell? ⟨B, 13, none⟩ = some (.int .i64 a13) := blk_cell (q.out.trans HB2.out) 13
  have y13 : w4.frozen? ⟨B, 13, none⟩ = false := blk_frozen (q.out.trans HB2.out) 13
  refine ⟨_, rfl, ?_⟩
  refine hK.out _ _ ⟨(blk_cell (q.out.trans HB2.out) 0), (blk_cell (q.out.trans HB2.out) 1), (blk_cell (q.out.trans HB2.out) 2), (blk_cell (q.out.trans HB2.out) 3), (blk_cell (q.out.trans HB2.out) 4), (blk_cell (q.out.trans HB2.out) 5), (blk_cell (q.out.trans HB2.out) 6), (blk_cell (q.out.trans HB2.out) 7), (blk_cell (q.out.trans HB2.out) 8), (blk_cell (q.out.trans HB2.out) 9), (blk_cell (q.out.trans HB2.out) 10), (blk_cell (q.out.trans HB2.out) 11), (blk_cell (q.out.trans HB2.out) 12)⟩ (fun hHeld => ?_)
  clear hv hb4
  clear hK K
  refine norm_ (a' := ?_) ?_ ?_
  rotate_left
  · show Act.put _ (some 18) _ = _
    simp only [Act.put, List.setIfInBounds_toArray, List.set_cons_zero, List.set_cons_succ, i64_w, i32_w]
    rfl
  refine pure_ (i := 7) (N := (some 21)) (v := ?_) (a' := ?_) #[true, true, true, true, true, true, true, true, false, false, false] rfl rfl (by kernel_rfl) (fun _ _ _ h => h) (Or.inl ⟨by rfl, ?_⟩) ?_ ?_
  rotate_left
  · intro w'
    go_simp
    with_reducible rfl
  rotate_left
  · simp only [Act.put, List.setIfInBounds_toArray, List.set_cons_zero, List.set_cons_succ, i64_w, i32_w]
    rfl
  refine one_ (i := 8) (N := (some 22)) #[true, true, true, true, true, true, true, true, true, false, false] rfl rfl (by kernel_rfl) (by decide) (fun K hK => ?_)
  refine value_ (v := .int .i64 (rd L (p : Int))) (w1 := w4) rfl rfl (by go_simp) ?_
  refine hK.out _ _ ⟨(blk_cell (q.out.trans HB2.out) 0), (blk_cell (q.out.trans HB2.out) 1), (blk_cell (q.out.trans HB2.out) 2), (blk_cell (q.out.trans HB2.out) 3), (blk_cell (q.out.trans HB2.out) 4), (blk_cell (q.out.trans HB2.out) 5), (blk_cell (q.out.trans HB2.out) 6), (blk_cell (q.out.trans HB2.out) 7), (blk_cell (q.out.trans HB2.out) 8), (blk_cell (q.out.trans HB2.out) 9), (blk_cell (q.out.trans HB2.out) 10), (blk_cell (q.out.trans HB2.out) 11), (blk_cell (q.out.trans HB2.out) 12)⟩ (fun hHeld => ?_)
  clear hK K
  refine norm_ (a' := ?_) ?_ ?_
  rotate_left
  · show Act.put _ (some 22) _ = _
    simp only [Act.put, List.setIfInBounds_toArray, List.set_cons_zero, List.set_cons_succ, i64_w, i32_w]
    rfl
  refine pure_ (i := 9) (N := (some 23)) (v := ?_) (a' := ?_) #[true, true, true, true, true, true, true, true, true, true, false] rfl rfl (by kernel_rfl) (fun _ _ _ h => h) (Or.inl ⟨by rfl, ?_⟩) ?_ ?_
  rotate_left
  · intro w'
    go_simp
    with_reducible rfl
  rotate_left
  · simp only [Act.put, List.setIfInBounds_toArray, List.set_cons_zero, List.set_cons_succ, i64_w, i32_w]
    rfl
  refine last_ (i := 10) (N := none) #[true, true, true, true, true, true, true, true, true, true, true] rfl rfl (by kernel_rfl) (by decide) (fun K hK => ?_)
  refine skip_ (w1 := (w4.setCell ⟨B, 13, none⟩ (.int .i64 (rd L (p : Int))))) rfl rfl (by go_simp) ?_
  refine hK.out _ _ ?_
  clear hK K
  refine done_ (by kernel_rfl) ?_
  have HB : Hid ((w4.setCell ⟨B, 13, none⟩ (.int .i64 (rd L (p : Int)))).heap[B]? = some (.cells #[.string a0, .int .i64 a1, .int .i64 a2, .int .i64 a3, .int .i64 a4, .int .i64 a5, .int .i64 a6, .int .i64 a7, .int .i64 a8, .int .i64 1, .int .i64 a10, .int .i64 a11, .int .i64 (p : Int), .int .i64 (rd L (p : Int)), .bool false, .int .i64 (wrap64 (a15 + 1))] 30 (0, 0))) := Lib.hid (blk_put (q.out.trans HB2.out) 13 _ rfl)
  have HR : Hid ((w4.setCell ⟨B, 13, none⟩ (.int .i64 (rd L (p : Int)))).heap[B + 1]? = some (.cells #[.string ⟨#[]⟩, .int .i64 0, .int .i64 0, .int .i64 0, .int .i64 0, .int .i64 0, .int .i64 0, .int .i64 0, .int .i64 0, .int .i64 0, .int .i64 0, .int .i64 0, .int .i64 0, .int .i64 0, .bool false, .int .i64 0] 30 (0, 0))) := Lib.hid (blk_far (q2.out.trans HR2.out) (by show B + 1 ≠ B; omega) _)
  have HE : Hid (Below B w (w4.setCell ⟨B, 13, none⟩ (.int .i64 (rd L (p : Int))))) := Lib.hid ((HBe.out.trans (hb4'.out.mono (Nat.le_of_lt hBlt))).setCell (p := ⟨B, 13, none⟩) (Nat.le_refl _) _)
  generalize w4.setCell ⟨B, 13, none⟩ (.int .i64 (rd L (p : Int))) = W5 at HB HR HE ⊢
  clear HB2 HR2 HBe hb4' q q2 e13 y13 hgc hBlt hRlt HP hHeld c0 c1 c2 c3 c4 c5 c6 c7 c8 c9 c10 c11 c12 c13 c14 c15
  have c0 : W5.cell? ⟨B, 0, none⟩ = some (.string a0) := blk_cell HB.out 0
  have r0 : W5.cell? ⟨B + 1, 0, none⟩ = some (.string ⟨#[]⟩) := blk_cell HR.out 0
  have z0 : W5.frozen? ⟨B + 1, 0, none⟩ = false := blk_frozen HR.out 0
  have c1 : W5.cell? ⟨B, 1, none⟩ = some (.int .i64 a1) := blk_cell HB.out 1
  have r1 : W5.cell? ⟨B + 1, 1, none⟩ = some (.int .i64 0) := blk_cell HR.out 1
  have z1 : W5.frozen? ⟨B + 1, 1, none⟩ = false := blk_frozen HR.out 1
  have c2 : W5.cell? ⟨B, 2, none⟩ = some (.int .i64 a2) := blk_cell HB.out 2
  have r2 : W5.cell? ⟨B + 1, 2, none⟩ = some (.int .i64 0) := blk_cell HR.out 2
  have z2 : W5.frozen? ⟨B + 1, 2, none⟩ = false := blk_frozen HR.out 2
  have c3 : W5.cell? ⟨B, 3, none⟩ = some (.int .i64 a3) := blk_cell HB.out 3
  have r3 : W5.cell? ⟨B + 1, 3, none⟩ = some (.int .i64 0) := blk_cell HR.out 3
  have z3 : W5.frozen? ⟨B + 1, 3, none⟩ = false := blk_frozen HR.out 3
  have c4 : W5.cell? ⟨B, 4, none⟩ = some (.int .i64 a4) := blk_cell HB.out 4
  have r4 : W5.cell? ⟨B + 1, 4, none⟩ = some (.int .i64 0) := blk_cell HR.out 4
  have z4 : W5.frozen? ⟨B + 1, 4, none⟩ = false := blk_frozen HR.out 4
  have c5 : W5.cell? ⟨B, 5, none⟩ = some (.int .i64 a5) := blk_cell HB.out 5
  have r5 : W5.cell? ⟨B + 1, 5, none⟩ = some (.int .i64 0) := blk_cell HR.out 5
  have z5 : W5.frozen? ⟨B + 1, 5, none⟩ = false := blk_frozen HR.out 5
  have c6 : W5.cell? ⟨B, 6, none⟩ = some (.int .i64 a6) := blk_cell HB.out 6
  have r6 : W5.cell? ⟨B + 1, 6, none⟩ = some (.int .i64 0) := blk_cell HR.out 6
  have z6 : W5.frozen? ⟨B + 1, 6, none⟩ = false := blk_frozen HR.out 6
  have c7 : W5.cell? ⟨B, 7, none⟩ = some (.int .i64 a7) := blk_cell HB.out 7
  have r7 : W5.cell? ⟨B + 1, 7, none⟩ = some (.int .i64 0) := blk_cell HR.out 7
  have z7 : W5.frozen? ⟨B + 1, 7, none⟩ = false := blk_frozen HR.out 7
  have c8 : W5.cell? ⟨B, 8, none⟩ = some (.int .i64 a8) := blk_cell HB.out 8
  have r8 : W5.cell? ⟨B + 1, 8, none⟩ = some (.int .i64 0) := blk_cell HR.out 8
  have z8 : W5.frozen? ⟨B + 1, 8, none⟩ = false := blk_frozen HR.out 8
  have c9 : W5.cell? ⟨B, 9, none⟩ = some (.int .i64 1) := blk_cell HB.out 9
  have r9 : W5.cell? ⟨B + 1, 9, none⟩ = some (.int .i64 0) := blk_cell HR.out 9
  have z9 : W5.frozen? ⟨B + 1, 9, none⟩ = false := blk_frozen HR.out 9
  have c10 : W5.cell? ⟨B, 10, none⟩ = some (.int .i64 a10) := blk_cell HB.out 10
  have r10 : W5.cell? ⟨B + 1, 10, none⟩ = some (.int .i64 0) := blk_cell HR.out 10
  have z10 : W5.frozen? ⟨B + 1, 10, none⟩ = false := blk_frozen HR.out 10
  have c11 : W5.cell? ⟨B, 11, none⟩ = some (.int .i64 a11) := blk_cell HB.out 11
  have r11 : W5.cell? ⟨B + 1, 11, none⟩ = some (.int .i64 0) := blk_cell HR.out 11
  have z11 : W5.frozen? ⟨B + 1, 11, none⟩ = false := blk_frozen HR.out 11
  have c12 : W5.cell? ⟨B, 12, none⟩ = some (.int .i64 (p : Int)) := blk_cell HB.out 12
  have r12 : W5.cell? ⟨B + 1, 12, none⟩ = some (.int .i64 0) := blk_cell HR.out 12
  have z12 : W5.frozen? ⟨B + 1, 12, none⟩ = false := blk_frozen HR.out 12
  have c13 : W5.cell? ⟨B, 13, none⟩ = some (.int .i64 (rd L (p : Int))) := blk_cell HB.out 13
  have r13 : W5.cell? ⟨B + 1, 13, none⟩ = some (.int .i64 0) := blk_cell HR.out 13
  have z13 : W5.frozen? ⟨B + 1, 13, none⟩ = false := blk_frozen HR.out 13
  have c14 : W5.cell? ⟨B, 14, none⟩ = some (.bool false) := blk_cell HB.out 14
  have r14 : W5.cell? ⟨B + 1, 14, none⟩ = some (.bool false) := blk_cell HR.out 14
  have z14 : W5.frozen? ⟨B + 1, 14, none⟩ = false := blk_frozen HR.out 14
  have c15 : W5.cell? ⟨B, 15, none⟩ = some (.int .i64 (wrap64 (a15 + 1))) := blk_cell HB.out 15
  have r15 : W5.cell? ⟨B + 1, 15, none⟩ = some (.int .i64 0) := blk_cell HR.out 15
  have z15 : W5.frozen? ⟨B + 1, 15, none⟩ = false := blk_frozen HR.out 15
  have HF : Hid (Below B w ((((((((((((((((W5.setCell ⟨B + 1, 0, none⟩ (.string a0)).setCell ⟨B + 1, 1, none⟩ (.int .i64 a1)).setCell ⟨B + 1, 2, none⟩ (.int .i64 a2)).setCell ⟨B + 1, 3, none⟩ (.int .i64 a3)).setCell ⟨B + 1, 4, none⟩ (.int .i64 a4)).setCell ⟨B + 1, 5, none⟩ (.int .i64 a5)).setCell ⟨B + 1, 6, none⟩ (.int .i64 a6)).setCell ⟨B + 1, 7, none⟩ (.int .i64 a7)).setCell ⟨B + 1, 8, none⟩ (.int .i64 a8)).setCell ⟨B + 1, 9, none⟩ (.int .i64 1)).setCell ⟨B + 1, 10, none⟩ (.int .i64 a10)).setCell ⟨B + 1, 11, none⟩ (.int .i64 a11)).setCell ⟨B + 1, 12, none⟩ (.int .i64 (p : Int))).setCell ⟨B + 1, 13, none⟩ (.int .i64 (rd L (p : Int)))).setCell ⟨B + 1, 14, none⟩ (.bool false)).setCell ⟨B + 1, 15, none⟩ (.int .i64 (wrap64 (a15 + 1))))) := Lib.hid (be16 _ _ _ _ _ _ _ _ _ _ _ _ _ _ _ _ HE.out (Nat.le_succ B))
  have HS : Hid (((((((((((((((((W5.setCell ⟨B + 1, 0, none⟩ (.string a0)).setCell ⟨B + 1, 1, none⟩ (.int .i64 a1)).setCell ⟨B + 1, 2, none⟩ (.int .i64 a2)).setCell ⟨B + 1, 3, none⟩ (.int .i64 a3)).setCell ⟨B + 1, 4, none⟩ (.int .i64 a4)).setCell ⟨B + 1, 5, none⟩ (.int .i64 a5)).setCell ⟨B + 1, 6, none⟩ (.int .i64 a6)).setCell ⟨B + 1, 7, none⟩ (.int .i64 a7)).setCell ⟨B + 1, 8, none⟩ (.int .i64 a8)).setCell ⟨B + 1, 9, none⟩ (.int .i64 1)).setCell ⟨B + 1, 10, none⟩ (.int .i64 a10)).setCell ⟨B + 1, 11, none⟩ (.int .i64 a11)).setCell ⟨B + 1, 12, none⟩ (.int .i64 (p : Int))).setCell ⟨B + 1, 13, none⟩ (.int .i64 (rd L (p : Int)))).setCell ⟨B + 1, 14, none⟩ (.bool false)).setCell ⟨B + 1, 15, none⟩ (.int .i64 (wrap64 (a15 + 1)))).heap[B + 1]? = some (.cells #[.string a0, .int .i64 a1, .int .i64 a2, .int .i64 a3, .int .i64 a4, .int .i64 a5, .int .i64 a6, .int .i64 a7, .int .i64 a8, .int .i64 1, .int .i64 a10, .int .i64 a11, .int .i64 (p : Int), .int .i64 (rd L (p : Int)), .bool false, .int .i64 (wrap64 (a15 + 1))] 30 (0, 0))) := Lib.hid (st16 HR.out)
  go_wp2
  generalize ((((((((((((((((W5.setCell ⟨B + 1, 0, none⟩ (.string a0)).setCell ⟨B + 1, 1, none⟩ (.int .i64 a1)).setCell ⟨B + 1, 2, none⟩ (.int .i64 a2)).setCell ⟨B + 1, 3, none⟩ (.int .i64 a3)).setCell ⟨B + 1, 4, none⟩ (.int .i64 a4)).setCell ⟨B + 1, 5, none⟩ (.int .i64 a5)).setCell ⟨B + 1, 6, none⟩ (.int .i64 a6)).setCell ⟨B + 1, 7, none⟩ (.int .i64 a7)).setCell ⟨B + 1, 8, none⟩ (.int .i64 a8)).setCell ⟨B + 1, 9, none⟩ (.int .i64 1)).setCell ⟨B + 1, 10, none⟩ (.int .i64 a10)).setCell ⟨B + 1, 11, none⟩ (.int .i64 a11)).setCell ⟨B + 1, 12, none⟩ (.int .i64 (p : Int))).setCell ⟨B + 1, 13, none⟩ (.int .i64 (rd L (p : Int)))).setCell ⟨B + 1, 14, none⟩ (.bool false)).setCell ⟨B + 1, 15, none⟩ (.int .i64 (wrap64 (a15 + 1)))) = W6 at HF HS ⊢
  clear c0 r0 z0 c1 r1 z1 c2 r2 z2 c3 r3 z3 c4 r4 z4 c5 r5 z5 c6 r6 z6 c7 r7 z7 c8 r8 z8 c9 r9 z9 c10 r10 z10 c11 r11 z11 c12 r12 z12 c13 r13 z13 c14 r14 z14 c15 r15 z15
  have c0 : W6.cell? ⟨B + 1, 0, none⟩ = some (.string a0) := blk_cell HS.out 0
  have c1 : W6.cell? ⟨B + 1, 1, none⟩ = some (.int .i64 a1) := blk_cell HS.out 1
  have c2 : W6.cell? ⟨B + 1, 2, none⟩ = some (.int .i64 a2) := blk_cell HS.out 2
  have c3 : W6.cell? ⟨B + 1, 3, none⟩ = some (.int .i64 a3) := blk_cell HS.out 3
  have c4 : W6.cell? ⟨B + 1, 4, none⟩ = some (.int .i64 a4) := blk_cell HS.out 4
  have c5 : W6.cell? ⟨B + 1, 5, none⟩ = some (.int .i64 a5) := blk_cell HS.out 5
  have c6 : W6.cell? ⟨B + 1, 6, none⟩ = some (.int .i64 a6) := blk_cell HS.out 6
  have c7 : W6.cell? ⟨B + 1, 7, none⟩ = some (.int .i64 a7) := blk_cell HS.out 7
  have c8 : W6.cell? ⟨B + 1, 8, none⟩ = some (.int .i64 a8) := blk_cell HS.out 8
  have c9 : W6.cell? ⟨B + 1, 9, none⟩ = some (.int .i64 1) := blk_cell HS.out 9
  have c10 : W6.cell? ⟨B + 1, 10, none⟩ = some (.int .i64 a10) := blk_cell HS.out 10
  have c11 : W6.cell? ⟨B + 1, 11, none⟩ = some (.int .i64 a11) := blk_cell HS.out 11
  have c12 : W6.cell? ⟨B + 1, 12, none⟩ = some (.int .i64 (p : Int)) := blk_cell HS.out 12
  have c13 : W6.cell? ⟨B + 1, 13, none⟩ = some (.int .i64 (rd L (p : Int))) := blk_cell HS.out 13
  have c14 : W6.cell? ⟨B + 1, 14, none⟩ = some (.bool false) := blk_cell HS.out 14
  have c15 : W6.cell? ⟨B + 1, 15, none⟩ = some (.int .i64 (wrap64 (a15 + 1))) := blk_cell HS.out 15
  refine bodyPost_ret (v := .tuple #[.agg #[.string a0, .int .i64 a1, .int .i64 a2, .int .i64 a3, .int .i64 a4, .int .i64 a5, .int .i64 a6, .int .i64 a7, .int .i64 a8, .int .i64 1, .int .i64 a10, .int .i64 a11, .int .i64 (p : Int), .int .i64 (rd L (p : Int)), .bool false, .int .i64 (wrap64 (a15 + 1))], .int .i64 2]) (by simp [results, Try.results27, go_sem, c0, c1, c2, c3, c4, c5, c6, c7, c8, c9, c10, c11, c12, c13, c14, c15]) rfl ⟨rfl, ?_⟩
  rw [← hB.out]
  exact HF.out
set_option maxRecDepth 100000 in
set_option maxHeartbeats 2000000 in
theorem failed_called (w : World) (a0 : ByteArray) (a1 : Int) (a2 : Int) (a3 : Int) (a4 : Int) (a5 : Int) (a6 : Int) (a7 : Int) (a8 : Int) (a9 : Int) (a10 : Int) (a11 : Int) (a12 : Int) (a13 : Int) (a14 : Bool) (a15 : Int) (h9 : a9 = 3) (h12 : ¬ a12 = 1) :
    Calls Try.prog 27 #[.agg #[.string a0, .int .i64 a1, .int .i64 a2, .int .i64 a3, .int .i64 a4, .int .i64 a5, .int .i64 a6, .int .i64 a7, .int .i64 a8, .int .i64 a9, .int .i64 a10, .int .i64 a11, .int .i64 a12, .int .i64 a13, .bool a14, .int .i64 a15]] w fun e w' => e = .returned (.tuple #[.agg #[.string a0, .int .i64 a1, .int .i64 a2, .int .i64 a3, .int .i64 a4, .int .i64 a5, .int .i64 a6, .int .i64 a7, .int .i64 a8, .int .i64 a9, .int .i64 a10, .int .i64 a11, .int .i64 1, .int .i64 (wrap64 (a4 + a6)), .bool false, .int .i64 (wrap64 (a15 + 1))], .int .i64 3]) ∧ Below w.heap.size w w' := by
  have g91 : (a9 == 1) = false := by rw [h9]; rfl
  have g93 : (a9 == 3) = true := by rw [h9]; rfl
  have g12 : (a12 != 1) = true := by simpa using h12
  have g12' : (a12 == 1) = false := by simpa using h12
  clear h12 h9
  obtain ⟨W, hW⟩ : ∃ W, W = (w.alloc (.cells #[.string a0, .int .i64 a1, .int .i64 a2, .int .i64 a3, .int .i64 a4, .int .i64 a5, .int .i64 a6, .int .i64 a7, .int .i64 a8, .int .i64 a9, .int .i64 a10, .int .i64 a11, .int .i64 a12, .int .i64 a13, .bool a14, .int .i64 a15] 30)).alloc (.cells #[.string ⟨#[]⟩, .int .i64 0, .int .i64 0, .int .i64 0, .int .i64 0, .int .i64 0, .int .i64 0, .int .i64 0, .int .i64 0, .int .i64 0, .int .i64 0, .int .i64 0, .int .i64 0, .int .i64 0, .bool false, .int .i64 0] 30) := ⟨_, rfl⟩
  obtain ⟨h1, h2, hb⟩ := two_boxed w _ _ hW
  have hz : ∀ V : World, (zeroValue 30).run Try.prog V = .ok (.agg #[.string ⟨#[]⟩, .int .i64 0, .int .i64 0, .int .i64 0, .int .i64 0, .int .i64 0, .int .i64 0, .int .i64 0, .int .i64 0, .int .i64 0, .int .i64 0, .int .i64 0, .int .i64 0, .int .i64 0, .bool false, .int .i64 0]) V := fun V => by kernel_rfl
  obtain ⟨B, hB⟩ : ∃ B, B = w.heap.size := ⟨_, rfl⟩
  rw [← hB] at h1 h2 hb
  have c15 : W.cell? ⟨B, 15, none⟩ = some (.int .i64 a15) := blk_cell h1 15
  have c14 : W.cell? ⟨B, 14, none⟩ = some (.bool a14) := blk_cell h1 14
  have z15 : W.frozen? ⟨B, 15, none⟩ = false := blk_frozen h1 15
  have z14 : W.frozen? ⟨B, 14, none⟩ = false := blk_frozen h1 14
  have HB2 : Hid (((W.setCell ⟨B, 15, none⟩ (.int .i64 (wrap64 (a15 + 1)))).setCell ⟨B, 14, none⟩ (.bool false)).heap[B]? = some (.cells #[.string a0, .int .i64 a1, .int .i64 a2, .int .i64 a3, .int .i64 a4, .int .i64 a5, .int .i64 a6, .int .i64 a7, .int .i64 a8, .int .i64 a9, .int .i64 a10, .int .i64 a11, .int .i64 a12, .int .i64 a13, .bool false, .int .i64 (wrap64 (a15 + 1))] 30 (0, 0))) := Lib.hid (blk_put (blk_put h1 15 _ rfl) 14 _ rfl)
  have HR2 : Hid (((W.setCell ⟨B, 15, none⟩ (.int .i64 (wrap64 (a15 + 1)))).setCell ⟨B, 14, none⟩ (.bool false)).heap[B + 1]? = some (.cells #[.string ⟨#[]⟩, .int .i64 0, .int .i64 0, .int .i64 0, .int .i64 0, .int .i64 0, .int .i64 0, .int .i64 0, .int .i64 0, .int .i64 0, .int .i64 0, .int .i64 0, .int .i64 0, .int .i64 0, .bool false, .int .i64 0] 30 (0, 0))) := Lib.hid (blk_far (blk_far h2 (by show B + 1 ≠ B; omega) _) (by show B + 1 ≠ B; omega) _)
  have HBe : Hid (Below B w ((W.setCell ⟨B, 15, none⟩ (.int .i64 (wrap64 (a15 + 1)))).setCell ⟨B, 14, none⟩ (.bool false))) := Lib.hid ((hb.setCell (p := ⟨B, 15, none⟩) (Nat.le_refl _) _).setCell (p := ⟨B, 14, none⟩) (Nat.le_refl _) _)
  replace hW := Lib.hid hW
  replace hB := Lib.hid hB
  clear h1 h2 hb
  go_enter Try.func27, Try.ntmps27
  go_upto_region 1 with (fail)
  rw [← hW.out, ← hB.out]
  go_upto_region 3 with (fail)
  generalize (W.setCell ⟨B, 15, none⟩ (.int .i64 (wrap64 (a15 + 1)))).setCell ⟨B, 14, none⟩ (.bool false) = W2 at HB2 HR2 HBe ⊢
  clear c15 c14 z15 z14 hz
  have c0 : W2.cell? ⟨B, 0, none⟩ = some (.string a0) := blk_cell HB2.out 0
  have c1 : W2.cell? ⟨B, 1, none⟩ = some (.int .i64 a1) := blk_cell HB2.out 1
  have c2 : W2.cell? ⟨B, 2, none⟩ = some (.int .i64 a2) := blk_cell HB2.out 2
  have c3 : W2.cell? ⟨B, 3, none⟩ = some (.int .i64 a3) := blk_cell HB2.out 3
  have c4 : W2.cell? ⟨B, 4, none⟩ = some (.int .i64 a4) := blk_cell HB2.out 4
  have c5 : W2.cell? ⟨B, 5, none⟩ = some (.int .i64 a5) := blk_cell HB2.out 5
  have c6 : W2.cell? ⟨B, 6, none⟩ = some (.int .i64 a6) := blk_cell HB2.out 6
  have c7 : W2.cell? ⟨B, 7, none⟩ = some (.int .i64 a7) := blk_cell HB2.out 7
  have c8 : W2.cell? ⟨B, 8, none⟩ = some (.int .i64 a8) := blk_cell HB2.out 8
  have c9 : W2.cell? ⟨B, 9, none⟩ = some (.int .i64 a9) := blk_cell HB2.out 9
  have c10 : W2.cell? ⟨B, 10, none⟩ = some (.int .i64 a10) := blk_cell HB2.out 10
  have c11 : W2.cell? ⟨B, 11, none⟩ = some (.int .i64 a11) := blk_cell HB2.out 11
  have c12 : W2.cell? ⟨B, 12, none⟩ = some (.int .i64 a12) := blk_cell HB2.out 12
  have c13 : W2.cell? ⟨B, 13, none⟩ = some (.int .i64 a13) := blk_cell HB2.out 13
  have c14 : W2.cell? ⟨B, 14, none⟩ = some (.bool false) := blk_cell HB2.out 14
  have c15 : W2.cell? ⟨B, 15, none⟩ = some (.int .i64 (wrap64 (a15 + 1))) := blk_cell HB2.out 15
  have z12 : W2.frozen? ⟨B, 12, none⟩ = false := blk_frozen HB2.out 12
  have z13 : W2.frozen? ⟨B, 13, none⟩ = false := blk_frozen HB2.out 13
  have HB : Hid (((W2.setCell ⟨B, 12, none⟩ (.int .i64 1)).setCell ⟨B, 13, none⟩ (.int .i64 (wrap64 (a4 + a6)))).heap[B]? = some (.cells #[.string a0, .int .i64 a1, .int .i64 a2, .int .i64 a3, .int .i64 a4, .int .i64 a5, .int .i64 a6, .int .i64 a7, .int .i64 a8, .int .i64 a9, .int .i64 a10, .int .i64 a11, .int .i64 1, .int .i64 (wrap64 (a4 + a6)), .bool false, .int .i64 (wrap64 (a15 + 1))] 30 (0, 0))) := Lib.hid (blk_put (blk_put HB2.out 12 _ rfl) 13 _ rfl)
  have HR : Hid (((W2.setCell ⟨B, 12, none⟩ (.int .i64 1)).setCell ⟨B, 13, none⟩ (.int .i64 (wrap64 (a4 + a6)))).heap[B + 1]? = some (.cells #[.string ⟨#[]⟩, .int .i64 0, .int .i64 0, .int .i64 0, .int .i64 0, .int .i64 0, .int .i64 0, .int .i64 0, .int .i64 0, .int .i64 0, .int .i64 0, .int .i64 0, .int .i64 0, .int .i64 0, .bool false, .int .i64 0] 30 (0, 0))) := Lib.hid (blk_far (blk_far HR2.out (by show B + 1 ≠ B; omega) _) (by show B + 1 ≠ B; omega) _)
  have HE : Hid (Below B w ((W2.setCell ⟨B, 12, none⟩ (.int .i64 1)).setCell ⟨B, 13, none⟩ (.int .i64 (wrap64 (a4 + a6))))) := Lib.hid ((HBe.out.setCell (p := ⟨B, 12, none⟩) (Nat.le_refl _) _).setCell (p := ⟨B, 13, none⟩) (Nat.le_refl _) _)
  go_upto_region 8 with (fail)
  generalize (W2.setCell ⟨B, 12, none⟩ (.int .i64 1)).setCell ⟨B, 13, none⟩ (.int .i64 (wrap64 (a4 + a6))) = W5 at HB HR HE ⊢
  clear HB2 HR2 HBe z12 z13 c0 c1 c2 c3 c4 c5 c6 c7 c8 c9 c10 c11 c12 c13 c14 c15
  have c0 : W5.cell? ⟨B, 0, none⟩ = some (.string a0) := blk_cell HB.out 0
  have r0 : W5.cell? ⟨B + 1, 0, none⟩ = some (.string ⟨#[]⟩) := blk_cell HR.out 0
  have z0 : W5.frozen? ⟨B + 1, 0, none⟩ = false := blk_frozen HR.out 0
  have c1 : W5.cell? ⟨B, 1, none⟩ = some (.int .i64 a1) := blk_cell HB.out 1
  have r1 : W5.cell? ⟨B + 1, 1, none⟩ = some (.int .i64 0) := blk_cell HR.out 1
  have z1 : W5.frozen? ⟨B + 1, 1, none⟩ = false := blk_frozen HR.out 1
  have c2 : W5.cell? ⟨B, 2, none⟩ = some (.int .i64 a2) := blk_cell HB.out 2
  have r2 : W5.cell? ⟨B + 1, 2, none⟩ = some (.int .i64 0) := blk_cell HR.out 2
  have z2 : W5.frozen? ⟨B + 1, 2, none⟩ = false := blk_frozen HR.out 2
  have c3 : W5.cell? ⟨B, 3, none⟩ = some (.int .i64 a3) := blk_cell HB.out 3
  have r3 : W5.cell? ⟨B + 1, 3, none⟩ = some (.int .i64 0) := blk_cell HR.out 3
  have z3 : W5.frozen? ⟨B + 1, 3, none⟩ = false := blk_frozen HR.out 3
  have c4 : W5.cell? ⟨B, 4, none⟩ = some (.int .i64 a4) := blk_cell HB.out 4
  have r4 : W5.cell? ⟨B + 1, 4, none⟩ = some (.int .i64 0) := blk_cell HR.out 4
  have z4 : W5.frozen? ⟨B + 1, 4, none⟩ = false := blk_frozen HR.out 4
  have c5 : W5.cell? ⟨B, 5, none⟩ = some (.int .i64 a5) := blk_cell HB.out 5
  have r5 : W5.cell? ⟨B + 1, 5, none⟩ = some (.int .i64 0) := blk_cell HR.out 5
  have z5 : W5.frozen? ⟨B + 1, 5, none⟩ = false := blk_frozen HR.out 5
  have c6 : W5.cell? ⟨B, 6, none⟩ = some (.int .i64 a6) := blk_cell HB.out 6
  have r6 : W5.cell? ⟨B + 1, 6, none⟩ = some (.int .i64 0) := blk_cell HR.out 6
  have z6 : W5.frozen? ⟨B + 1, 6, none⟩ = false := blk_frozen HR.out 6
  have c7 : W5.cell? ⟨B, 7, none⟩ = some (.int .i64 a7) := blk_cell HB.out 7
  have r7 : W5.cell? ⟨B + 1, 7, none⟩ = some (.int .i64 0) := blk_cell HR.out 7
  have z7 : W5.frozen? ⟨B + 1, 7, none⟩ = false := blk_frozen HR.out 7
  have c8 : W5.cell? ⟨B, 8, none⟩ = some (.int .i64 a8) := blk_cell HB.out 8
  have r8 : W5.cell? ⟨B + 1, 8, none⟩ = some (.int .i64 0) := blk_cell HR.out 8
  have z8 : W5.frozen? ⟨B + 1, 8, none⟩ = false := blk_frozen HR.out 8
  have c9 : W5.cell? ⟨B, 9, none⟩ = some (.int .i64 a9) := blk_cell HB.out 9
  have r9 : W5.cell? ⟨B + 1, 9, none⟩ = some (.int .i64 0) := blk_cell HR.out 9
  have z9 : W5.frozen? ⟨B + 1, 9, none⟩ = false := blk_frozen HR.out 9
  have c10 : W5.cell? ⟨B, 10, none⟩ = some (.int .i64 a10) := blk_cell HB.out 10
  have r10 : W5.cell? ⟨B + 1, 10, none⟩ = some (.int .i64 0) := blk_cell HR.out 10
  have z10 : W5.frozen? ⟨B + 1, 10, none⟩ = false := blk_frozen HR.out 10
  have c11 : W5.cell? ⟨B, 11, none⟩ = some (.int .i64 a11) := blk_cell HB.out 11
  have r11 : W5.cell? ⟨B + 1, 11, none⟩ = some (.int .i64 0) := blk_cell HR.out 11
  have z11 : W5.frozen? ⟨B + 1, 11, none⟩ = false := blk_frozen HR.out 11
  have c12 : W5.cell? ⟨B, 12, none⟩ = some (.int .i64 1) := blk_cell HB.out 12
  have r12 : W5.cell? ⟨B + 1, 12, none⟩ = some (.int .i64 0) := blk_cell HR.out 12
  have z12 : W5.frozen? ⟨B + 1, 12, none⟩ = false := blk_frozen HR.out 12
  have c13 : W5.cell? ⟨B, 13, none⟩ = some (.int .i64 (wrap64 (a4 + a6))) := blk_cell HB.out 13
  have r13 : W5.cell? ⟨B + 1, 13, none⟩ = some (.int .i64 0) := blk_cell HR.out 13
  have z13 : W5.frozen? ⟨B + 1, 13, none⟩ = false := blk_frozen HR.out 13
  have c14 : W5.cell? ⟨B, 14, none⟩ = some (.bool false) := blk_cell HB.out 14
  have r14 : W5.cell? ⟨B + 1, 14, none⟩ = some (.bool false) := blk_cell HR.out 14
  have z14 : W5.frozen? ⟨B + 1, 14, none⟩ = false := blk_frozen HR.out 14
  have c15 : W5.cell? ⟨B, 15, none⟩ = some (.int .i64 (wrap64 (a15 + 1))) := blk_cell HB.out 15
  have r15 : W5.cell? ⟨B + 1, 15, none⟩ = some (.int .i64 0) := blk_cell HR.out 15
  have z15 : W5.frozen? ⟨B + 1, 15, none⟩ = false := blk_frozen HR.out 15
  have HF : Hid (Below B w ((((((((((((((((W5.setCell ⟨B + 1, 0, none⟩ (.string a0)).setCell ⟨B + 1, 1, none⟩ (.int .i64 a1)).setCell ⟨B + 1, 2, none⟩ (.int .i64 a2)).setCell ⟨B + 1, 3, none⟩ (.int .i64 a3)).setCell ⟨B + 1, 4, none⟩ (.int .i64 a4)).setCell ⟨B + 1, 5, none⟩ (.int .i64 a5)).setCell ⟨B + 1, 6, none⟩ (.int .i64 a6)).setCell ⟨B + 1, 7, none⟩ (.int .i64 a7)).setCell ⟨B + 1, 8, none⟩ (.int .i64 a8)).setCell ⟨B + 1, 9, none⟩ (.int .i64 a9)).setCell ⟨B + 1, 10, none⟩ (.int .i64 a10)).setCell ⟨B + 1, 11, none⟩ (.int .i64 a11)).setCell ⟨B + 1, 12, none⟩ (.int .i64 1)).setCell ⟨B + 1, 13, none⟩ (.int .i64 (wrap64 (a4 + a6)))).setCell ⟨B + 1, 14, none⟩ (.bool false)).setCell ⟨B + 1, 15, none⟩ (.int .i64 (wrap64 (a15 + 1))))) := Lib.hid (be16 _ _ _ _ _ _ _ _ _ _ _ _ _ _ _ _ HE.out (Nat.le_succ B))
  have HS : Hid (((((((((((((((((W5.setCell ⟨B + 1, 0, none⟩ (.string a0)).setCell ⟨B + 1, 1, none⟩ (.int .i64 a1)).setCell ⟨B + 1, 2, none⟩ (.int .i64 a2)).setCell ⟨B + 1, 3, none⟩ (.int .i64 a3)).setCell ⟨B + 1, 4, none⟩ (.int .i64 a4)).setCell ⟨B + 1, 5, none⟩ (.int .i64 a5)).setCell ⟨B + 1, 6, none⟩ (.int .i64 a6)).setCell ⟨B + 1, 7, none⟩ (.int .i64 a7)).setCell ⟨B + 1, 8, none⟩ (.int .i64 a8)).setCell ⟨B + 1, 9, none⟩ (.int .i64 a9)).setCell ⟨B + 1, 10, none⟩ (.int .i64 a10)).setCell ⟨B + 1, 11, none⟩ (.int .i64 a11)).setCell ⟨B + 1, 12, none⟩ (.int .i64 1)).setCell ⟨B + 1, 13, none⟩ (.int .i64 (wrap64 (a4 + a6)))).setCell ⟨B + 1, 14, none⟩ (.bool false)).setCell ⟨B + 1, 15, none⟩ (.int .i64 (wrap64 (a15 + 1)))).heap[B + 1]? = some (.cells #[.string a0, .int .i64 a1, .int .i64 a2, .int .i64 a3, .int .i64 a4, .int .i64 a5, .int .i64 a6, .int .i64 a7, .int .i64 a8, .int .i64 a9, .int .i64 a10, .int .i64 a11, .int .i64 1, .int .i64 (wrap64 (a4 + a6)), .bool false, .int .i64 (wrap64 (a15 + 1))] 30 (0, 0))) := Lib.hid (st16 HR.out)
  go_wp2
  generalize ((((((((((((((((W5.setCell ⟨B + 1, 0, none⟩ (.string a0)).setCell ⟨B + 1, 1, none⟩ (.int .i64 a1)).setCell ⟨B + 1, 2, none⟩ (.int .i64 a2)).setCell ⟨B + 1, 3, none⟩ (.int .i64 a3)).setCell ⟨B + 1, 4, none⟩ (.int .i64 a4)).setCell ⟨B + 1, 5, none⟩ (.int .i64 a5)).setCell ⟨B + 1, 6, none⟩ (.int .i64 a6)).setCell ⟨B + 1, 7, none⟩ (.int .i64 a7)).setCell ⟨B + 1, 8, none⟩ (.int .i64 a8)).setCell ⟨B + 1, 9, none⟩ (.int .i64 a9)).setCell ⟨B + 1, 10, none⟩ (.int .i64 a10)).setCell ⟨B + 1, 11, none⟩ (.int .i64 a11)).setCell ⟨B + 1, 12, none⟩ (.int .i64 1)).setCell ⟨B + 1, 13, none⟩ (.int .i64 (wrap64 (a4 + a6)))).setCell ⟨B + 1, 14, none⟩ (.bool false)).setCell ⟨B + 1, 15, none⟩ (.int .i64 (wrap64 (a15 + 1)))) = W6 at HF HS ⊢
  clear c0 r0 z0 c1 r1 z1 c2 r2 z2 c3 r3 z3 c4 r4 z4 c5 r5 z5 c6 r6 z6 c7 r7 z7 c8 r8 z8 c9 r9 z9 c10 r10 z10 c11 r11 z11 c12 r12 z12 c13 r13 z13 c14 r14 z14 c15 r15 z15
  have c0 : W6.cell? ⟨B + 1, 0, none⟩ = some (.string a0) := blk_cell HS.out 0
  have c1 : W6.cell? ⟨B + 1, 1, none⟩ = some (.int .i64 a1) := blk_cell HS.out 1
  have c2 : W6.cell? ⟨B + 1, 2, none⟩ = some (.int .i64 a2) := blk_cell HS.out 2
  have c3 : W6.cell? ⟨B + 1, 3, none⟩ = some (.int .i64 a3) := blk_cell HS.out 3
  have c4 : W6.cell? ⟨B + 1, 4, none⟩ = some (.int .i64 a4) := blk_cell HS.out 4
  have c5 : W6.cell? ⟨B + 1, 5, none⟩ = some (.int .i64 a5) := blk_cell HS.out 5
  have c6 : W6.cell? ⟨B + 1, 6, none⟩ = some (.int .i64 a6) := blk_cell HS.out 6
  have c7 : W6.cell? ⟨B + 1, 7, none⟩ = some (.int .i64 a7) := blk_cell HS.out 7
  have c8 : W6.cell? ⟨B + 1, 8, none⟩ = some (.int .i64 a8) := blk_cell HS.out 8
  have c9 : W6.cell? ⟨B + 1, 9, none⟩ = some (.int .i64 a9) := blk_cell HS.out 9
  have c10 : W6.cell? ⟨B + 1, 10, none⟩ = some (.int .i64 a10) := blk_cell HS.out 10
  have c11 : W6.cell? ⟨B + 1, 11, none⟩ = some (.int .i64 a11) := blk_cell HS.out 11
  have c12 : W6.cell? ⟨B + 1, 12, none⟩ = some (.int .i64 1) := blk_cell HS.out 12
  have c13 : W6.cell? ⟨B + 1, 13, none⟩ = some (.int .i64 (wrap64 (a4 + a6))) := blk_cell HS.out 13
  have c14 : W6.cell? ⟨B + 1, 14, none⟩ = some (.bool false) := blk_cell HS.out 14
  have c15 : W6.cell? ⟨B + 1, 15, none⟩ = some (.int .i64 (wrap64 (a15 + 1))) := blk_cell HS.out 15
  refine bodyPost_ret (v := .tuple #[.agg #[.string a0, .int .i64 a1, .int .i64 a2, .int .i64 a3, .int .i64 a4, .int .i64 a5, .int .i64 a6, .int .i64 a7, .int .i64 a8, .int .i64 a9, .int .i64 a10, .int .i64 a11, .int .i64 1, .int .i64 (wrap64 (a4 + a6)), .bool false, .int .i64 (wrap64 (a15 + 1))], .int .i64 3]) (by simp [results, Try.results27, go_sem, c0, c1, c2, c3, c4, c5, c6, c7, c8, c9, c10, c11, c12, c13, c14, c15]) rfl ⟨rfl, ?_⟩
  rw [← hB.out]
  exact HF.out
set_option maxRecDepth 100000 in
set_option maxHeartbeats 2000000 in
theorem failed_again (w : World) (a0 : ByteArray) (a1 : Int) (a2 : Int) (a3 : Int) (a4 : Int) (a5 : Int) (a6 : Int) (a7 : Int) (a8 : Int) (a9 : Int) (a10 : Int) (a11 : Int) (a12 : Int) (a13 : Int) (a14 : Bool) (a15 : Int) (h9 : a9 = 3) (h12 : a12 = 1) :
    Calls Try.prog 27 #[.agg #[.string a0, .int .i64 a1, .int .i64 a2, .int .i64 a3, .int .i64 a4, .int .i64 a5, .int .i64 a6, .int .i64 a7, .int .i64 a8, .int .i64 a9, .int .i64 a10, .int .i64 a11, .int .i64 a12, .int .i64 a13, .bool a14, .int .i64 a15]] w fun e w' => e = .returned (.tuple #[.agg #[.string a0, .int .i64 a1, .int .i64 a2, .int .i64 a3, .int .i64 a4, .int .i64 a5, .int .i64 a6, .int .i64 a7, .int .i64 a8, .int .i64 a9, .int .i64 a10, .int .i64 a11, .int .i64 1, .int .i64 (wrap64 (a4 + a6)), .bool false, .int .i64 (wrap64 (a15 + 1))], .int .i64 2]) ∧ Below w.heap.size w w' := by
  have g91 : (a9 == 1) = false := by rw [h9]; rfl
  have g93 : (a9 == 3) = true := by rw [h9]; rfl
  have g12 : (a12 != 1) = false := by rw [h12]; rfl
  have g12' : (a12 == 1) = true := by rw [h12]; rfl
  clear h12 h9
  obtain ⟨W, hW⟩ : ∃ W, W = (w.alloc (.cells #[.string a0, .int .i64 a1, .int .i64 a2, .int .i64 a3, .int .i64 a4, .int .i64 a5, .int .i64 a6, .int .i64 a7, .int .i64 a8, .int .i64 a9, .int .i64 a10, .int .i64 a11, .int .i64 a12, .int .i64 a13, .bool a14, .int .i64 a15] 30)).alloc (.cells #[.string ⟨#[]⟩, .int .i64 0, .int .i64 0, .int .i64 0, .int .i64 0, .int .i64 0, .int .i64 0, .int .i64 0, .int .i64 0, .int .i64 0, .int .i64 0, .int .i64 0, .int .i64 0, .int .i64 0, .bool false, .int .i64 0] 30) := ⟨_, rfl⟩
  obtain ⟨h1, h2, hb⟩ := two_boxed w _ _ hW
  have hz : ∀ V : World, (zeroValue 30).run Try.prog V = .ok (.agg #[.string ⟨#[]⟩, .int .i64 0, .int .i64 0, .int .i64 0, .int .i64 0, .int .i64 0, .int .i64 0, .int .i64 0, .int .i64 0, .int .i64 0, .int .i64 0, .int .i64 0, .int .i64 0, .int .i64 0, .bool false, .int .i64 0]) V := fun V => by kernel_rfl
  obtain ⟨B, hB⟩ : ∃ B, B = w.heap.size := ⟨_, rfl⟩
  rw [← hB] at h1 h2 hb
  have c15 : W.cell? ⟨B, 15, none⟩ = some (.int .i64 a15) := blk_cell h1 15
  have c14 : W.cell? ⟨B, 14, none⟩ = some (.bool a14) := blk_cell h1 14
  have z15 : W.frozen? ⟨B, 15, none⟩ = false := blk_frozen h1 15
  have z14 : W.frozen? ⟨B, 14, none⟩ = false := blk_frozen h1 14
  have HB2 : Hid (((W.setCell ⟨B, 15, none⟩ (.int .i64 (wrap64 (a15 + 1)))).setCell ⟨B, 14, none⟩ (.bool false)).heap[B]? = some (.cells #[.string a0, .int .i64 a1, .int .i64 a2, .int .i64 a3, .int .i64 a4, .int .i64 a5, .int .i64 a6, .int .i64 a7, .int .i64 a8, .int .i64 a9, .int .i64 a10, .int .i64 a11, .int .i64 a12, .int .i64 a13, .bool false, .int .i64 (wrap64 (a15 + 1))] 30 (0, 0))) := Lib.hid (blk_put (blk_put h1 15 _ rfl) 14 _ rfl)
  have HR2 : Hid (((W.setCell ⟨B, 15, none⟩ (.int .i64 (wrap64 (a15 + 1)))).setCell ⟨B, 14, none⟩ (.bool false)).heap[B + 1]? = some (.cells #[.string ⟨#[]⟩, .int .i64 0, .int .i64 0, .int .i64 0, .int .i64 0, .int .i64 0, .int .i64 0, .int .i64 0, .int .i64 0, .int .i64 0, .int .i64 0, .int .i64 0, .int .i64 0, .int .i64 0, .bool false, .int .i64 0] 30 (0, 0))) := Lib.hid (blk_far (blk_far h2 (by show B + 1 ≠ B; omega) _) (by show B + 1 ≠ B; omega) _)
  have HBe : Hid (Below B w ((W.setCell ⟨B, 15, none⟩ (.int .i64 (wrap64 (a15 + 1)))).setCell ⟨B, 14, none⟩ (.bool false))) := Lib.hid ((hb.setCell (p := ⟨B, 15, none⟩) (Nat.le_refl _) _).setCell (p := ⟨B, 14, none⟩) (Nat.le_refl _) _)
  replace hW := Lib.hid hW
  replace hB := Lib.hid hB
  clear h1 h2 hb
  go_enter Try.func27, Try.ntmps27
  go_upto_region 1 with (fail)
  rw [← hW.out, ← hB.out]
  go_upto_region 3 with (fail)
  generalize (W.setCell ⟨B, 15, none⟩ (.int .i64 (wrap64 (a15 + 1)))).setCell ⟨B, 14, none⟩ (.bool false) = W2 at HB2 HR2 HBe ⊢
  clear c15 c14 z15 z14 hz
  have c0 : W2.cell? ⟨B, 0, none⟩ = some (.string a0) := blk_cell HB2.out 0
  have c1 : W2.cell? ⟨B, 1, none⟩ = some (.int .i64 a1) := blk_cell HB2.out 1
  have c2 : W2.cell? ⟨B, 2, none⟩ = some (.int .i64 a2) := blk_cell HB2.out 2
  have c3 : W2.cell? ⟨B, 3, none⟩ = some (.int .i64 a3) := blk_cell HB2.out 3
  have c4 : W2.cell? ⟨B, 4, none⟩ = some (.int .i64 a4) := blk_cell HB2.out 4
  have c5 : W2.cell? ⟨B, 5, none⟩ = some (.int .i64 a5) := blk_cell HB2.out 5
  have c6 : W2.cell? ⟨B, 6, none⟩ = some (.int .i64 a6) := blk_cell HB2.out 6
  have c7 : W2.cell? ⟨B, 7, none⟩ = some (.int .i64 a7) := blk_cell HB2.out 7
  have c8 : W2.cell? ⟨B, 8, none⟩ = some (.int .i64 a8) := blk_cell HB2.out 8
  have c9 : W2.cell? ⟨B, 9, none⟩ = some (.int .i64 a9) := blk_cell HB2.out 9
  have c10 : W2.cell? ⟨B, 10, none⟩ = some (.int .i64 a10) := blk_cell HB2.out 10
  have c11 : W2.cell? ⟨B, 11, none⟩ = some (.int .i64 a11) := blk_cell HB2.out 11
  have c12 : W2.cell? ⟨B, 12, none⟩ = some (.int .i64 a12) := blk_cell HB2.out 12
  have c13 : W2.cell? ⟨B, 13, none⟩ = some (.int .i64 a13) := blk_cell HB2.out 13
  have c14 : W2.cell? ⟨B, 14, none⟩ = some (.bool false) := blk_cell HB2.out 14
  have c15 : W2.cell? ⟨B, 15, none⟩ = some (.int .i64 (wrap64 (a15 + 1))) := blk_cell HB2.out 15
  have z12 : W2.frozen? ⟨B, 12, none⟩ = false := blk_frozen HB2.out 12
  have z13 : W2.frozen? ⟨B, 13, none⟩ = false := blk_frozen HB2.out 13
  have HB : Hid (((W2.setCell ⟨B, 12, none⟩ (.int .i64 1)).setCell ⟨B, 13, none⟩ (.int .i64 (wrap64 (a4 + a6)))).heap[B]? = some (.cells #[.string a0, .int .i64 a1, .int .i64 a2, .int .i64 a3, .int .i64 a4, .int .i64 a5, .int .i64 a6, .int .i64 a7, .int .i64 a8, .int .i64 a9, .int .i64 a10, .int .i64 a11, .int .i64 1, .int .i64 (wrap64 (a4 + a6)), .bool false, .int .i64 (wrap64 (a15 + 1))] 30 (0, 0))) := Lib.hid (blk_put (blk_put HB2.out 12 _ rfl) 13 _ rfl)
  have HR : Hid (((W2.setCell ⟨B, 12, none⟩ (.int .i64 1)).setCell ⟨B, 13, none⟩ (.int .i64 (wrap64 (a4 + a6)))).heap[B + 1]? = some (.cells #[.string ⟨#[]⟩, .int .i64 0, .int .i64 0, .int .i64 0, .int .i64 0, .int .i64 0, .int .i64 0, .int .i64 0, .int .i64 0, .int .i64 0, .int .i64 0, .int .i64 0, .int .i64 0, .int .i64 0, .bool false, .int .i64 0] 30 (0, 0))) := Lib.hid (blk_far (blk_far HR2.out (by show B + 1 ≠ B; omega) _) (by show B + 1 ≠ B; omega) _)
  have HE : Hid (Below B w ((W2.setCell ⟨B, 12, none⟩ (.int .i64 1)).setCell ⟨B, 13, none⟩ (.int .i64 (wrap64 (a4 + a6))))) := Lib.hid ((HBe.out.setCell (p := ⟨B, 12, none⟩) (Nat.le_refl _) _).setCell (p := ⟨B, 13, none⟩) (Nat.le_refl _) _)
  go_upto_region 8 with (fail)
  generalize (W2.setCell ⟨B, 12, none⟩ (.int .i64 1)).setCell ⟨B, 13, none⟩ (.int .i64 (wrap64 (a4 + a6))) = W5 at HB HR HE ⊢
  clear HB2 HR2 HBe z12 z13 c0 c1 c2 c3 c4 c5 c6 c7 c8 c9 c10 c11 c12 c13 c14 c15
  have c0 : W5.cell? ⟨B, 0, none⟩ = some (.string a0) := blk_cell HB.out 0
  have r0 : W5.cell? ⟨B + 1, 0, none⟩ = some (.string ⟨#[]⟩) := blk_cell HR.out 0
  have z0 : W5.frozen? ⟨B + 1, 0, none⟩ = false := blk_frozen HR.out 0
  have c1 : W5.cell? ⟨B, 1, none⟩ = some (.int .i64 a1) := blk_cell HB.out 1
  have r1 : W5.cell? ⟨B + 1, 1, none⟩ = some (.int .i64 0) := blk_cell HR.out 1
  have z1 : W5.frozen? ⟨B + 1, 1, none⟩ = false := blk_frozen HR.out 1
  have c2 : W5.cell? ⟨B, 2, none⟩ = some (.int .i64 a2) := blk_cell HB.out 2
  have r2 : W5.cell? ⟨B + 1, 2, none⟩ = some (.int .i64 0) := blk_cell HR.out 2
  have z2 : W5.frozen? ⟨B + 1, 2, none⟩ = false := blk_frozen HR.out 2
  have c3 : W5.cell? ⟨B, 3, none⟩ = some (.int .i64 a3) := blk_cell HB.out 3
  have r3 : W5.cell? ⟨B + 1, 3, none⟩ = some (.int .i64 0) := blk_cell HR.out 3
  have z3 : W5.frozen? ⟨B + 1, 3, none⟩ = false := blk_frozen HR.out 3
  have c4 : W5.cell? ⟨B, 4, none⟩ = some (.int .i64 a4) := blk_cell HB.out 4
  have r4 : W5.cell? ⟨B + 1, 4, none⟩ = some (.int .i64 0) := blk_cell HR.out 4
  have z4 : W5.frozen? ⟨B + 1, 4, none⟩ = false := blk_frozen HR.out 4
  have c5 : W5.cell? ⟨B, 5, none⟩ = some (.int .i64 a5) := blk_cell HB.out 5
  have r5 : W5.cell? ⟨B + 1, 5, none⟩ = some (.int .i64 0) := blk_cell HR.out 5
  have z5 : W5.frozen? ⟨B + 1, 5, none⟩ = false := blk_frozen HR.out 5
  have c6 : W5.cell? ⟨B, 6, none⟩ = some (.int .i64 a6) := blk_cell HB.out 6
  have r6 : W5.cell? ⟨B + 1, 6, none⟩ = some (.int .i64 0) := blk_cell HR.out 6
  have z6 : W5.frozen? ⟨B + 1, 6, none⟩ = false := blk_frozen HR.out 6
  have c7 : W5.cell? ⟨B, 7, none⟩ = some (.int .i64 a7) := blk_cell HB.out 7
  have r7 : W5.cell? ⟨B + 1, 7, none⟩ = some (.int .i64 0) := blk_cell HR.out 7
  have z7 : W5.frozen? ⟨B + 1, 7, none⟩ = false := blk_frozen HR.out 7
  have c8 : W5.cell? ⟨B, 8, none⟩ = some (.int .i64 a8) := blk_cell HB.out 8
  have r8 : W5.cell? ⟨B + 1, 8, none⟩ = some (.int .i64 0) := blk_cell HR.out 8
  have z8 : W5.frozen? ⟨B + 1, 8, none⟩ = false := blk_frozen HR.out 8
  have c9 : W5.cell? ⟨B, 9, none⟩ = some (.int .i64 a9) := blk_cell HB.out 9
  have r9 : W5.cell? ⟨B + 1, 9, none⟩ = some (.int .i64 0) := blk_cell HR.out 9
  have z9 : W5.frozen? ⟨B + 1, 9, none⟩ = false := blk_frozen HR.out 9
  have c10 : W5.cell? ⟨B, 10, none⟩ = some (.int .i64 a10) := blk_cell HB.out 10
  have r10 : W5.cell? ⟨B + 1, 10, none⟩ = some (.int .i64 0) := blk_cell HR.out 10
  have z10 : W5.frozen? ⟨B + 1, 10, none⟩ = false := blk_frozen HR.out 10
  have c11 : W5.cell? ⟨B, 11, none⟩ = some (.int .i64 a11) := blk_cell HB.out 11
  have r11 : W5.cell? ⟨B + 1, 11, none⟩ = some (.int .i64 0) := blk_cell HR.out 11
  have z11 : W5.frozen? ⟨B + 1, 11, none⟩ = false := blk_frozen HR.out 11
  have c12 : W5.cell? ⟨B, 12, none⟩ = some (.int .i64 1) := blk_cell HB.out 12
  have r12 : W5.cell? ⟨B + 1, 12, none⟩ = some (.int .i64 0) := blk_cell HR.out 12
  have z12 : W5.frozen? ⟨B + 1, 12, none⟩ = false := blk_frozen HR.out 12
  have c13 : W5.cell? ⟨B, 13, none⟩ = some (.int .i64 (wrap64 (a4 + a6))) := blk_cell HB.out 13
  have r13 : W5.cell? ⟨B + 1, 13, none⟩ = some (.int .i64 0) := blk_cell HR.out 13
  have z13 : W5.frozen? ⟨B + 1, 13, none⟩ = false := blk_frozen HR.out 13
  have c14 : W5.cell? ⟨B, 14, none⟩ = some (.bool false) := blk_cell HB.out 14
  have r14 : W5.cell? ⟨B + 1, 14, none⟩ = some (.bool false) := blk_cell HR.out 14
  have z14 : W5.frozen? ⟨B + 1, 14, none⟩ = false := blk_frozen HR.out 14
  have c15 : W5.cell? ⟨B, 15, none⟩ = some (.int .i64 (wrap64 (a15 + 1))) := blk_cell HB.out 15
  have r15 : W5.cell? ⟨B + 1, 15, none⟩ = some (.int .i64 0) := blk_cell HR.out 15
  have z15 : W5.frozen? ⟨B + 1, 15, none⟩ = false := blk_frozen HR.out 15
  have HF : Hid (Below B w ((((((((((((((((W5.setCell ⟨B + 1, 0, none⟩ (.string a0)).setCell ⟨B + 1, 1, none⟩ (.int .i64 a1)).setCell ⟨B + 1, 2, none⟩ (.int .i64 a2)).setCell ⟨B + 1, 3, none⟩ (.int .i64 a3)).setCell ⟨B + 1, 4, none⟩ (.int .i64 a4)).setCell ⟨B + 1, 5, none⟩ (.int .i64 a5)).setCell ⟨B + 1, 6, none⟩ (.int .i64 a6)).setCell ⟨B + 1, 7, none⟩ (.int .i64 a7)).setCell ⟨B + 1, 8, none⟩ (.int .i64 a8)).setCell ⟨B + 1, 9, none⟩ (.int .i64 a9)).setCell ⟨B + 1, 10, none⟩ (.int .i64 a10)).setCell ⟨B + 1, 11, none⟩ (.int .i64 a11)).setCell ⟨B + 1, 12, none⟩ (.int .i64 1)).setCell ⟨B + 1, 13, none⟩ (.int .i64 (wrap64 (a4 + a6)))).setCell ⟨B + 1, 14, none⟩ (.bool false)).setCell ⟨B + 1, 15, none⟩ (.int .i64 (wrap64 (a15 + 1))))) := Lib.hid (be16 _ _ _ _ _ _ _ _ _ _ _ _ _ _ _ _ HE.out (Nat.le_succ B))
  have HS : Hid (((((((((((((((((W5.setCell ⟨B + 1, 0, none⟩ (.string a0)).setCell ⟨B + 1, 1, none⟩ (.int .i64 a1)).setCell ⟨B + 1, 2, none⟩ (.int .i64 a2)).setCell ⟨B + 1, 3, none⟩ (.int .i64 a3)).setCell ⟨B + 1, 4, none⟩ (.int .i64 a4)).setCell ⟨B + 1, 5, none⟩ (.int .i64 a5)).setCell ⟨B + 1, 6, none⟩ (.int .i64 a6)).setCell ⟨B + 1, 7, none⟩ (.int .i64 a7)).setCell ⟨B + 1, 8, none⟩ (.int .i64 a8)).setCell ⟨B + 1, 9, none⟩ (.int .i64 a9)).setCell ⟨B + 1, 10, none⟩ (.int .i64 a10)).setCell ⟨B + 1, 11, none⟩ (.int .i64 a11)).setCell ⟨B + 1, 12, none⟩ (.int .i64 1)).setCell ⟨B + 1, 13, none⟩ (.int .i64 (wrap64 (a4 + a6)))).setCell ⟨B + 1, 14, none⟩ (.bool false)).setCell ⟨B + 1, 15, none⟩ (.int .i64 (wrap64 (a15 + 1)))).heap[B + 1]? = some (.cells #[.string a0, .int .i64 a1, .int .i64 a2, .int .i64 a3, .int .i64 a4, .int .i64 a5, .int .i64 a6, .int .i64 a7, .int .i64 a8, .int .i64 a9, .int .i64 a10, .int .i64 a11, .int .i64 1, .int .i64 (wrap64 (a4 + a6)), .bool false, .int .i64 (wrap64 (a15 + 1))] 30 (0, 0))) := Lib.hid (st16 HR.out)
  go_wp2
  generalize ((((((((((((((((W5.setCell ⟨B + 1, 0, none⟩ (.string a0)).setCell ⟨B + 1, 1, none⟩ (.int .i64 a1)).setCell ⟨B + 1, 2, none⟩ (.int .i64 a2)).setCell ⟨B + 1, 3, none⟩ (.int .i64 a3)).setCell ⟨B + 1, 4, none⟩ (.int .i64 a4)).setCell ⟨B + 1, 5, none⟩ (.int .i64 a5)).setCell ⟨B + 1, 6, none⟩ (.int .i64 a6)).setCell ⟨B + 1, 7, none⟩ (.int .i64 a7)).setCell ⟨B + 1, 8, none⟩ (.int .i64 a8)).setCell ⟨B + 1, 9, none⟩ (.int .i64 a9)).setCell ⟨B + 1, 10, none⟩ (.int .i64 a10)).setCell ⟨B + 1, 11, none⟩ (.int .i64 a11)).setCell ⟨B + 1, 12, none⟩ (.int .i64 1)).setCell ⟨B + 1, 13, none⟩ (.int .i64 (wrap64 (a4 + a6)))).setCell ⟨B + 1, 14, none⟩ (.bool false)).setCell ⟨B + 1, 15, none⟩ (.int .i64 (wrap64 (a15 + 1)))) = W6 at HF HS ⊢
  clear c0 r0 z0 c1 r1 z1 c2 r2 z2 c3 r3 z3 c4 r4 z4 c5 r5 z5 c6 r6 z6 c7 r7 z7 c8 r8 z8 c9 r9 z9 c10 r10 z10 c11 r11 z11 c12 r12 z12 c13 r13 z13 c14 r14 z14 c15 r15 z15
  have c0 : W6.cell? ⟨B + 1, 0, none⟩ = some (.string a0) := blk_cell HS.out 0
  have c1 : W6.cell? ⟨B + 1, 1, none⟩ = some (.int .i64 a1) := blk_cell HS.out 1
  have c2 : W6.cell? ⟨B + 1, 2, none⟩ = some (.int .i64 a2) := blk_cell HS.out 2
  have c3 : W6.cell? ⟨B + 1, 3, none⟩ = some (.int .i64 a3) := blk_cell HS.out 3
  have c4 : W6.cell? ⟨B + 1, 4, none⟩ = some (.int .i64 a4) := blk_cell HS.out 4
  have c5 : W6.cell? ⟨B + 1, 5, none⟩ = some (.int .i64 a5) := blk_cell HS.out 5
  have c6 : W6.cell? ⟨B + 1, 6, none⟩ = some (.int .i64 a6) := blk_cell HS.out 6
  have c7 : W6.cell? ⟨B + 1, 7, none⟩ = some (.int .i64 a7) := blk_cell HS.out 7
  have c8 : W6.cell? ⟨B + 1, 8, none⟩ = some (.int .i64 a8) := blk_cell HS.out 8
  have c9 : W6.cell? ⟨B + 1, 9, none⟩ = some (.int .i64 a9) := blk_cell HS.out 9
  have c10 : W6.cell? ⟨B + 1, 10, none⟩ = some (.int .i64 a10) := blk_cell HS.out 10
  have c11 : W6.cell? ⟨B + 1, 11, none⟩ = some (.int .i64 a11) := blk_cell HS.out 11
  have c12 : W6.cell? ⟨B + 1, 12, none⟩ = some (.int .i64 1) := blk_cell HS.out 12
  have c13 : W6.cell? ⟨B + 1, 13, none⟩ = some (.int .i64 (wrap64 (a4 + a6))) := blk_cell HS.out 13
  have c14 : W6.cell? ⟨B + 1, 14, none⟩ = some (.bool false) := blk_cell HS.out 14
  have c15 : W6.cell? ⟨B + 1, 15, none⟩ = some (.int .i64 (wrap64 (a15 + 1))) := blk_cell HS.out 15
  refine bodyPost_ret (v := .tuple #[.agg #[.string a0, .int .i64 a1, .int .i64 a2, .int .i64 a3, .int .i64 a4, .int .i64 a5, .int .i64 a6, .int .i64 a7, .int .i64 a8, .int .i64 a9, .int .i64 a10, .int .i64 a11, .int .i64 1, .int .i64 (wrap64 (a4 + a6)), .bool false, .int .i64 (wrap64 (a15 + 1))], .int .i64 2]) (by simp [results, Try.results27, go_sem, c0, c1, c2, c3, c4, c5, c6, c7, c8, c9, c10, c11, c12, c13, c14, c15]) rfl ⟨rfl, ?_⟩
  rw [← hB.out]
  exact HF.out
set_option maxRecDepth 100000 in
set_option maxHeartbeats 2000000 in
theorem failed_alt (w : World) (a0 : ByteArray) (a1 : Int) (a2 : Int) (a3 : Int) (a4 : Int) (a5 : Int) (a6 : Int) (a7 : Int) (a8 : Int) (a9 : Int) (a10 : Int) (a11 : Int) (a12 : Int) (a13 : Int) (a14 : Bool) (a15 : Int) (h9 : ¬ a9 = 1) (h3 : ¬ a9 = 3) :
    Calls Try.prog 27 #[.agg #[.string a0, .int .i64 a1, .int .i64 a2, .int .i64 a3, .int .i64 a4, .int .i64 a5, .int .i64 a6, .int .i64 a7, .int .i64 a8, .int .i64 a9, .int .i64 a10, .int .i64 a11, .int .i64 a12, .int .i64 a13, .bool a14, .int .i64 a15]] w fun e w' => e = .returned (.tuple #[.agg #[.string a0, .int .i64 a1, .int .i64 a2, .int .i64 a3, .int .i64 a4, .int .i64 a5, .int .i64 a6, .int .i64 a7, .int .i64 a8, .int .i64 a9, .int .i64 a10, .int .i64 a11, .int .i64 1, .int .i64 (wrap64 (a4 + a6)), .bool false, .int .i64 (wrap64 (a15 + 1))], .int .i64 2]) ∧ Below w.heap.size w w' := by
  have g9 : (a9 == 1) = false := by simpa using h9
  have g3 : (a9 == 3) = false := by simpa using h3
  clear h9 h3
  obtain ⟨W, hW⟩ : ∃ W, W = (w.alloc (.cells #[.string a0, .int .i64 a1, .int .i64 a2, .int .i64 a3, .int .i64 a4, .int .i64 a5, .int .i64 a6, .int .i64 a7, .int .i64 a8, .int .i64 a9, .int .i64 a10, .int .i64 a11, .int .i64 a12, .int .i64 a13, .bool a14, .int .i64 a15] 30)).alloc (.cells #[.string ⟨#[]⟩, .int .i64 0, .int .i64 0, .int .i64 0, .int .i64 0, .int .i64 0, .int .i64 0, .int .i64 0, .int .i64 0, .int .i64 0, .int .i64 0, .int .i64 0, .int .i64 0, .int .i64 0, .bool false, .int .i64 0] 30) := ⟨_, rfl⟩
  obtain ⟨h1, h2, hb⟩ := two_boxed w _ _ hW
  have hz : ∀ V : World, (zeroValue 30).run Try.prog V = .ok (.agg #[.string ⟨#[]⟩, .int .i64 0, .int .i64 0, .int .i64 0, .int .i64 0, .int .i64 0, .int .i64 0, .int .i64 0, .int .i64 0, .int .i64 0, .int .i64 0, .int .i64 0, .int .i64 0, .int .i64 0, .bool false, .int .i64 0]) V := fun V => by kernel_rfl
  obtain ⟨B, hB⟩ : ∃ B, B = w.heap.size := ⟨_, rfl⟩
  rw [← hB] at h1 h2 hb
  have c15 : W.cell? ⟨B, 15, none⟩ = some (.int .i64 a15) := blk_cell h1 15
  have c14 : W.cell? ⟨B, 14, none⟩ = some (.bool a14) := blk_cell h1 14
  have z15 : W.frozen? ⟨B, 15, none⟩ = false := blk_frozen h1 15
  have z14 : W.frozen? ⟨B, 14, none⟩ = false := blk_frozen h1 14
  have HB2 : Hid (((W.setCell ⟨B, 15, none⟩ (.int .i64 (wrap64 (a15 + 1)))).setCell ⟨B, 14, none⟩ (.bool false)).heap[B]? = some (.cells #[.string a0, .int .i64 a1, .int .i64 a2, .int .i64 a3, .int .i64 a4, .int .i64 a5, .int .i64 a6, .int .i64 a7, .int .i64 a8, .int .i64 a9, .int .i64 a10, .int .i64 a11, .int .i64 a12, .int .i64 a13, .bool false, .int .i64 (wrap64 (a15 + 1))] 30 (0, 0))) := Lib.hid (blk_put (blk_put h1 15 _ rfl) 14 _ rfl)
  have HR2 : Hid (((W.setCell ⟨B, 15, none⟩ (.int .i64 (wrap64 (a15 + 1)))).setCell ⟨B, 14, none⟩ (.bool false)).heap[B + 1]? = some (.cells #[.string ⟨#[]⟩, .int .i64 0, .int .i64 0, .int .i64 0, .int .i64 0, .int .i64 0, .int .i64 0, .int .i64 0, .int .i64 0, .int .i64 0, .int .i64 0, .int .i64 0, .int .i64 0, .int .i64 0, .bool false, .int .i64 0] 30 (0, 0))) := Lib.hid (blk_far (blk_far h2 (by show B + 1 ≠ B; omega) _) (by show B + 1 ≠ B; omega) _)
  have HBe : Hid (Below B w ((W.setCell ⟨B, 15, none⟩ (.int .i64 (wrap64 (a15 + 1)))).setCell ⟨B, 14, none⟩ (.bool false))) := Lib.hid ((hb.setCell (p := ⟨B, 15, none⟩) (Nat.le_refl _) _).setCell (p := ⟨B, 14, none⟩) (Nat.le_refl _) _)
  replace hW := Lib.hid hW
  replace hB := Lib.hid hB
  clear h1 h2 hb
  go_enter Try.func27, Try.ntmps27
  go_upto_region 1 with (fail)
  rw [← hW.out, ← hB.out]
  go_upto_region 3 with (fail)
  generalize (W.setCell ⟨B, 15, none⟩ (.int .i64 (wrap64 (a15 + 1)))).setCell ⟨B, 14, none⟩ (.bool false) = W2 at HB2 HR2 HBe ⊢
  clear c15 c14 z15 z14 hz
  have c0 : W2.cell? ⟨B, 0, none⟩ = some (.string a0) := blk_cell HB2.out 0
  have c1 : W2.cell? ⟨B, 1, none⟩ = some (.int .i64 a1) := blk_cell HB2.out 1
  have c2 : W2.cell? ⟨B, 2, none⟩ = some (.int .i64 a2) := blk_cell HB2.out 2
  have c3 : W2.cell? ⟨B, 3, none⟩ = some (.int .i64 a3) := blk_cell HB2.out 3
  have c4 : W2.cell? ⟨B, 4, none⟩ = some (.int .i64 a4) := blk_cell HB2.out 4
  have c5 : W2.cell? ⟨B, 5, none⟩ = some (.int .i64 a5) := blk_cell HB2.out 5
  have c6 : W2.cell? ⟨B, 6, none⟩ = some (.int .i64 a6) := blk_cell HB2.out 6
  have c7 : W2.cell? ⟨B, 7, none⟩ = some (.int .i64 a7) := blk_cell HB2.out 7
  have c8 : W2.cell? ⟨B, 8, none⟩ = some (.int .i64 a8) := blk_cell HB2.out 8
  have c9 : W2.cell? ⟨B, 9, none⟩ = some (.int .i64 a9) := blk_cell HB2.out 9
  have c10 : W2.cell? ⟨B, 10, none⟩ = some (.int .i64 a10) := blk_cell HB2.out 10
  have c11 : W2.cell? ⟨B, 11, none⟩ = some (.int .i64 a11) := blk_cell HB2.out 11
  have c12 : W2.cell? ⟨B, 12, none⟩ = some (.int .i64 a12) := blk_cell HB2.out 12
  have c13 : W2.cell? ⟨B, 13, none⟩ = some (.int .i64 a13) := blk_cell HB2.out 13
  have c14 : W2.cell? ⟨B, 14, none⟩ = some (.bool false) := blk_cell HB2.out 14
  have c15 : W2.cell? ⟨B, 15, none⟩ = some (.int .i64 (wrap64 (a15 + 1))) := blk_cell HB2.out 15
  have z12 : W2.frozen? ⟨B, 12, none⟩ = false := blk_frozen HB2.out 12
  have z13 : W2.frozen? ⟨B, 13, none⟩ = false := blk_frozen HB2.out 13
  have HB : Hid (((W2.setCell ⟨B, 12, none⟩ (.int .i64 1)).setCell ⟨B, 13, none⟩ (.int .i64 (wrap64 (a4 + a6)))).heap[B]? = some (.cells #[.string a0, .int .i64 a1, .int .i64 a2, .int .i64 a3, .int .i64 a4, .int .i64 a5, .int .i64 a6, .int .i64 a7, .int .i64 a8, .int .i64 a9, .int .i64 a10, .int .i64 a11, .int .i64 1, .int .i64 (wrap64 (a4 + a6)), .bool false, .int .i64 (wrap64 (a15 + 1))] 30 (0, 0))) := Lib.hid (blk_put (blk_put HB2.out 12 _ rfl) 13 _ rfl)
  have HR : Hid (((W2.setCell ⟨B, 12, none⟩ (.int .i64 1)).setCell ⟨B, 13, none⟩ (.int .i64 (wrap64 (a4 + a6)))).heap[B + 1]? = some (.cells #[.string ⟨#[]⟩, .int .i64 0, .int .i64 0, .int .i64 0, .int .i64 0, .int .i64 0, .int .i64 0, .int .i64 0, .int .i64 0, .int .i64 0, .int .i64 0, .int .i64 0, .int .i64 0, .int .i64 0, .bool false, .int .i64 0] 30 (0, 0))) := Lib.hid (blk_far (blk_far HR2.out (by show B + 1 ≠ B; omega) _) (by show B + 1 ≠ B; omega) _)
  have HE : Hid (Below B w ((W2.setCell ⟨B, 12, none⟩ (.int .i64 1)).setCell ⟨B, 13, none⟩ (.int .i64 (wrap64 (a4 + a6))))) := Lib.hid ((HBe.out.setCell (p := ⟨B, 12, none⟩) (Nat.le_refl _) _).setCell (p := ⟨B, 13, none⟩) (Nat.le_refl _) _)
  go_upto_region 8 with (fail)
  generalize (W2.setCell ⟨B, 12, none⟩ (.int .i64 1)).setCell ⟨B, 13, none⟩ (.int .i64 (wrap64 (a4 + a6))) = W5 at HB HR HE ⊢
  clear HB2 HR2 HBe z12 z13 c0 c1 c2 c3 c4 c5 c6 c7 c8 c9 c10 c11 c12 c13 c14 c15
  have c0 : W5.cell? ⟨B, 0, none⟩ = some (.string a0) := blk_cell HB.out 0
  have r0 : W5.cell? ⟨B + 1, 0, none⟩ = some (.string ⟨#[]⟩) := blk_cell HR.out 0
  have z0 : W5.frozen? ⟨B + 1, 0, none⟩ = false := blk_frozen HR.out 0
  have c1 : W5.cell? ⟨B, 1, none⟩ = some (.int .i64 a1) := blk_cell HB.out 1
  have r1 : W5.cell? ⟨B + 1, 1, none⟩ = some (.int .i64 0) := blk_cell HR.out 1
  have z1 : W5.frozen? ⟨B + 1, 1, none⟩ = false := blk_frozen HR.out 1
  have c2 : W5.cell? ⟨B, 2, none⟩ = some (.int .i64 a2) := blk_cell HB.out 2
  have r2 : W5.cell? ⟨B + 1, 2, none⟩ = some (.int .i64 0) := blk_cell HR.out 2
  have z2 : W5.frozen? ⟨B + 1, 2, none⟩ = false := blk_frozen HR.out 2
  have c3 : W5.cell? ⟨B, 3, none⟩ = some (.int .i64 a3) := blk_cell HB.out 3
  have r3 : W5.cell? ⟨B + 1, 3, none⟩ = some (.int .i64 0) := blk_cell HR.out 3
  have z3 : W5.frozen? ⟨B + 1, 3, none⟩ = false := blk_frozen HR.out 3
  have c4 : W5.cell? ⟨B, 4, none⟩ = some (.int .i64 a4) := blk_cell HB.out 4
  have r4 : W5.cell? ⟨B + 1, 4, none⟩ = some (.int .i64 0) := blk_cell HR.out 4
  have z4 : W5.frozen? ⟨B + 1, 4, none⟩ = false := blk_frozen HR.out 4
  have c5 : W5.cell? ⟨B, 5, none⟩ = some (.int .i64 a5) := blk_cell HB.out 5
  have r5 : W5.cell? ⟨B + 1, 5, none⟩ = some (.int .i64 0) := blk_cell HR.out 5
  have z5 : W5.frozen? ⟨B + 1, 5, none⟩ = false := blk_frozen HR.out 5
  have c6 : W5.cell? ⟨B, 6, none⟩ = some (.int .i64 a6) := blk_cell HB.out 6
  have r6 : W5.cell? ⟨B + 1, 6, none⟩ = some (.int .i64 0) := blk_cell HR.out 6
  have z6 : W5.frozen? ⟨B + 1, 6, none⟩ = false := blk_frozen HR.out 6
  have c7 : W5.cell? ⟨B, 7, none⟩ = some (.int .i64 a7) := blk_cell HB.out 7
  have r7 : W5.cell? ⟨B + 1, 7, none⟩ = some (.int .i64 0) := blk_cell HR.out 7
  have z7 : W5.frozen? ⟨B + 1, 7, none⟩ = false := blk_frozen HR.out 7
  have c8 : W5.cell? ⟨B, 8, none⟩ = some (.int .i64 a8) := blk_cell HB.out 8
  have r8 : W5.cell? ⟨B + 1, 8, none⟩ = some (.int .i64 0) := blk_cell HR.out 8
  have z8 : W5.frozen? ⟨B + 1, 8, none⟩ = false := blk_frozen HR.out 8
  have c9 : W5.cell? ⟨B, 9, none⟩ = some (.int .i64 a9) := blk_cell HB.out 9
  have r9 : W5.cell? ⟨B + 1, 9, none⟩ = some (.int .i64 0) := blk_cell HR.out 9
  have z9 : W5.frozen? ⟨B + 1, 9, none⟩ = false := blk_frozen HR.out 9
  have c10 : W5.cell? ⟨B, 10, none⟩ = some (.int .i64 a10) := blk_cell HB.out 10
  have r10 : W5.cell? ⟨B + 1, 10, none⟩ = some (.int .i64 0) := blk_cell HR.out 10
  have z10 : W5.frozen? ⟨B + 1, 10, none⟩ = false := blk_frozen HR.out 10
  have c11 : W5.cell? ⟨B, 11, none⟩ = some (.int .i64 a11) := blk_cell HB.out 11
  have r11 : W5.cell? ⟨B + 1, 11, none⟩ = some (.int .i64 0) := blk_cell HR.out 11
  have z11 : W5.frozen? ⟨B + 1, 11, none⟩ = false := blk_frozen HR.out 11
  have c12 : W5.cell? ⟨B, 12, none⟩ = some (.int .i64 1) := blk_cell HB.out 12
  have r12 : W5.cell? ⟨B + 1, 12, none⟩ = some (.int .i64 0) := blk_cell HR.out 12
  have z12 : W5.frozen? ⟨B + 1, 12, none⟩ = false := blk_frozen HR.out 12
  have c13 : W5.cell? ⟨B, 13, none⟩ = some (.int .i64 (wrap64 (a4 + a6))) := blk_cell HB.out 13
  have r13 : W5.cell? ⟨B + 1, 13, none⟩ = some (.int .i64 0) := blk_cell HR.out 13
  have z13 : W5.frozen? ⟨B + 1, 13, none⟩ = false := blk_frozen HR.out 13
  have c14 : W5.cell? ⟨B, 14, none⟩ = some (.bool false) := blk_cell HB.out 14
  have r14 : W5.cell? ⟨B + 1, 14, none⟩ = some (.bool false) := blk_cell HR.out 14
  have z14 : W5.frozen? ⟨B + 1, 14, none⟩ = false := blk_frozen HR.out 14
  have c15 : W5.cell? ⟨B, 15, none⟩ = some (.int .i64 (wrap64 (a15 + 1))) := blk_cell HB.out 15
  have r15 : W5.cell? ⟨B + 1, 15, none⟩ = some (.int .i64 0) := blk_cell HR.out 15
  have z15 : W5.frozen? ⟨B + 1, 15, none⟩ = false := blk_frozen HR.out 15
  have HF : Hid (Below B w ((((((((((((((((W5.setCell ⟨B + 1, 0, none⟩ (.string a0)).setCell ⟨B + 1, 1, none⟩ (.int .i64 a1)).setCell ⟨B + 1, 2, none⟩ (.int .i64 a2)).setCell ⟨B + 1, 3, none⟩ (.int .i64 a3)).setCell ⟨B + 1, 4, none⟩ (.int .i64 a4)).setCell ⟨B + 1, 5, none⟩ (.int .i64 a5)).setCell ⟨B + 1, 6, none⟩ (.int .i64 a6)).setCell ⟨B + 1, 7, none⟩ (.int .i64 a7)).setCell ⟨B + 1, 8, none⟩ (.int .i64 a8)).setCell ⟨B + 1, 9, none⟩ (.int .i64 a9)).setCell ⟨B + 1, 10, none⟩ (.int .i64 a10)).setCell ⟨B + 1, 11, none⟩ (.int .i64 a11)).setCell ⟨B + 1, 12, none⟩ (.int .i64 1)).setCell ⟨B + 1, 13, none⟩ (.int .i64 (wrap64 (a4 + a6)))).setCell ⟨B + 1, 14, none⟩ (.bool false)).setCell ⟨B + 1, 15, none⟩ (.int .i64 (wrap64 (a15 + 1))))) := Lib.hid (be16 _ _ _ _ _ _ _ _ _ _ _ _ _ _ _ _ HE.out (Nat.le_succ B))
  have HS : Hid (((((((((((((((((W5.setCell ⟨B + 1, 0, none⟩ (.string a0)).setCell ⟨B + 1, 1, none⟩ (.int .i64 a1)).setCell ⟨B + 1, 2, none⟩ (.int .i64 a2)).setCell ⟨B + 1, 3, none⟩ (.int .i64 a3)).setCell ⟨B + 1, 4, none⟩ (.int .i64 a4)).setCell ⟨B + 1, 5, none⟩ (.int .i64 a5)).setCell ⟨B + 1, 6, none⟩ (.int .i64 a6)).setCell ⟨B + 1, 7, none⟩ (.int .i64 a7)).setCell ⟨B + 1, 8, none⟩ (.int .i64 a8)).setCell ⟨B + 1, 9, none⟩ (.int .i64 a9)).setCell ⟨B + 1, 10, none⟩ (.int .i64 a10)).setCell ⟨B + 1, 11, none⟩ (.int .i64 a11)).setCell ⟨B + 1, 12, none⟩ (.int .i64 1)).setCell ⟨B + 1, 13, none⟩ (.int .i64 (wrap64 (a4 + a6)))).setCell ⟨B + 1, 14, none⟩ (.bool false)).setCell ⟨B + 1, 15, none⟩ (.int .i64 (wrap64 (a15 + 1)))).heap[B + 1]? = some (.cells #[.string a0, .int .i64 a1, .int .i64 a2, .int .i64 a3, .int .i64 a4, .int .i64 a5, .int .i64 a6, .int .i64 a7, .int .i64 a8, .int .i64 a9, .int .i64 a10, .int .i64 a11, .int .i64 1, .int .i64 (wrap64 (a4 + a6)), .bool false, .int .i64 (wrap64 (a15 + 1))] 30 (0, 0))) := Lib.hid (st16 HR.out)
  go_wp2
  generalize ((((((((((((((((W5.setCell ⟨B + 1, 0, none⟩ (.string a0)).setCell ⟨B + 1, 1, none⟩ (.int .i64 a1)).setCell ⟨B + 1, 2, none⟩ (.int .i64 a2)).setCell ⟨B + 1, 3, none⟩ (.int .i64 a3)).setCell ⟨B + 1, 4, none⟩ (.int .i64 a4)).setCell ⟨B + 1, 5, none⟩ (.int .i64 a5)).setCell ⟨B + 1, 6, none⟩ (.int .i64 a6)).setCell ⟨B + 1, 7, none⟩ (.int .i64 a7)).setCell ⟨B + 1, 8, none⟩ (.int .i64 a8)).setCell ⟨B + 1, 9, none⟩ (.int .i64 a9)).setCell ⟨B + 1, 10, none⟩ (.int .i64 a10)).setCell ⟨B + 1, 11, none⟩ (.int .i64 a11)).setCell ⟨B + 1, 12, none⟩ (.int .i64 1)).setCell ⟨B + 1, 13, none⟩ (.int .i64 (wrap64 (a4 + a6)))).setCell ⟨B + 1, 14, none⟩ (.bool false)).setCell ⟨B + 1, 15, none⟩ (.int .i64 (wrap64 (a15 + 1)))) = W6 at HF HS ⊢
  clear c0 r0 z0 c1 r1 z1 c2 r2 z2 c3 r3 z3 c4 r4 z4 c5 r5 z5 c6 r6 z6 c7 r7 z7 c8 r8 z8 c9 r9 z9 c10 r10 z10 c11 r11 z11 c12 r12 z12 c13 r13 z13 c14 r14 z14 c15 r15 z15
  have c0 : W6.cell? ⟨B + 1, 0, none⟩ = some (.string a0) := blk_cell HS.out 0
  have c1 : W6.cell? ⟨B + 1, 1, none⟩ = some (.int .i64 a1) := blk_cell HS.out 1
  have c2 : W6.cell? ⟨B + 1, 2, none⟩ = some (.int .i64 a2) := blk_cell HS.out 2
  have c3 : W6.cell? ⟨B + 1, 3, none⟩ = some (.int .i64 a3) := blk_cell HS.out 3
  have c4 : W6.cell? ⟨B + 1, 4, none⟩ = some (.int .i64 a4) := blk_cell HS.out 4
  have c5 : W6.cell? ⟨B + 1, 5, none⟩ = some (.int .i64 a5) := blk_cell HS.out 5
  have c6 : W6.cell? ⟨B + 1, 6, none⟩ = some (.int .i64 a6) := blk_cell HS.out 6
  have c7 : W6.cell? ⟨B + 1, 7, none⟩ = some (.int .i64 a7) := blk_cell HS.out 7
  have c8 : W6.cell? ⟨B + 1, 8, none⟩ = some (.int .i64 a8) := blk_cell HS.out 8
  have c9 : W6.cell? ⟨B + 1, 9, none⟩ = some (.int .i64 a9) := blk_cell HS.out 9
  have c10 : W6.cell? ⟨B + 1, 10, none⟩ = some (.int .i64 a10) := blk_cell HS.out 10
  have c11 : W6.cell? ⟨B + 1, 11, none⟩ = some (.int .i64 a11) := blk_cell HS.out 11
  have c12 : W6.cell? ⟨B + 1, 12, none⟩ = some (.int .i64 1) := blk_cell HS.out 12
  have c13 : W6.cell? ⟨B + 1, 13, none⟩ = some (.int .i64 (wrap64 (a4 + a6))) := blk_cell HS.out 13
  have c14 : W6.cell? ⟨B + 1, 14, none⟩ = some (.bool false) := blk_cell HS.out 14
  have c15 : W6.cell? ⟨B + 1, 15, none⟩ = some (.int .i64 (wrap64 (a15 + 1))) := blk_cell HS.out 15
  refine bodyPost_ret (v := .tuple #[.agg #[.string a0, .int .i64 a1, .int .i64 a2, .int .i64 a3, .int .i64 a4, .int .i64 a5, .int .i64 a6, .int .i64 a7, .int .i64 a8, .int .i64 a9, .int .i64 a10, .int .i64 a11, .int .i64 1, .int .i64 (wrap64 (a4 + a6)), .bool false, .int .i64 (wrap64 (a15 + 1))], .int .i64 2]) (by simp [results, Try.results27, go_sem, c0, c1, c2, c3, c4, c5, c6, c7, c8, c9, c10, c11, c12, c13, c14, c15]) rfl ⟨rfl, ?_⟩
  rw [← hB.out]
  exact HF.out
theorem recover_failed.calls (k : Nat) (a0 : ByteArray) (a1 : Int) (a2 : Int) (a3 : Int) (a4 : Int) (a5 : Int) (a6 : Int) (a7 : Int) (a8 : Int) (a9 : Int) (a10 : Int) (a11 : Int) (a12 : Int) (a13 : Int) (a14 : Bool) (a15 : Int) (r1 : ByteArray) (r2 : Int) (r3 : Int) (r4 : Int) (r5 : Int) (r6 : Int) (r7 : Int) (r8 : Int) (r9 : Int) (r10 : Int) (r11 : Int) (r12 : Int) (r13 : Int) (r14 : Int) (r15 : Bool) (r16 : Int) (r17 : Int) (w : World) (h : recover_failed.f k a0 a1 a2 a3 a4 a5 a6 a7 a8 a9 a10 a11 a12 a13 a14 a15 = some (r1, r2, r3, r4, r5, r6, r7, r8, r9, r10, r11, r12, r13, r14, r15, r16, r17)) :
    Calls Try.prog 27 #[.agg #[.string a0, .int .i64 a1, .int .i64 a2, .int .i64 a3, .int .i64 a4, .int .i64 a5, .int .i64 a6, .int .i64 a7, .int .i64 a8, .int .i64 a9, .int .i64 a10, .int .i64 a11, .int .i64 a12, .int .i64 a13, .bool a14, .int .i64 a15]] w fun e w' => e = .returned (.tuple #[.agg #[.string r1, .int .i64 r2, .int .i64 r3, .int .i64 r4, .int .i64 r5, .int .i64 r6, .int .i64 r7, .int .i64 r8, .int .i64 r9, .int .i64 r10, .int .i64 r11, .int .i64 r12, .int .i64 r13, .int .i64 r14, .bool r15, .int .i64 r16], .int .i64 r17]) ∧ Below w.heap.size w w' := by
  unfold recover_failed.f at h
  by_cases c : a9 = 1
  · subst c
    rw [if_pos rfl] at h
    obtain ⟨L, hL, h⟩ := Option.bind_eq_some_iff.mp h
    by_cases c1 : 0 ≤ a12
    · rw [if_pos c1] at h
      by_cases c2 : a12 < (L.length : Int)
      · rw [if_pos c2] at h
        simp only [Option.some.injEq, Prod.mk.injEq] at h
        obtain ⟨rfl, rfl, rfl, rfl, rfl, rfl, rfl, rfl, rfl, rfl, rfl, rfl, rfl, rfl, rfl, rfl, rfl⟩ := h
        obtain ⟨p, rfl⟩ : ∃ n : Nat, a12 = (n : Int) := ⟨a12.toNat, by omega⟩
        exact failed_retry w a0 a1 a2 a3 a4 a5 a6 a7 a8 a10 a11 p a13 a14 a15 L k hL (by omega)
      · rw [if_neg c2] at h; cases h
    · rw [if_neg c1] at h; cases h
  · rw [if_neg c] at h
    by_cases c3 : a9 = 3
    · rw [if_pos c3] at h
      by_cases c4 : a12 = 1
      · rw [if_pos c4] at h
        simp only [Option.some.injEq, Prod.mk.injEq] at h
        obtain ⟨rfl, rfl, rfl, rfl, rfl, rfl, rfl, rfl, rfl, rfl, rfl, rfl, rfl, rfl, rfl, rfl, rfl⟩ := h
        exact failed_again w a0 a1 a2 a3 a4 a5 a6 a7 a8 a9 a10 a11 a12 a13 a14 a15 c3 c4
      · rw [if_neg c4] at h
        simp only [Option.some.injEq, Prod.mk.injEq] at h
        obtain ⟨rfl, rfl, rfl, rfl, rfl, rfl, rfl, rfl, rfl, rfl, rfl, rfl, rfl, rfl, rfl, rfl, rfl⟩ := h
        exact failed_called w a0 a1 a2 a3 a4 a5 a6 a7 a8 a9 a10 a11 a12 a13 a14 a15 c3 c4
    · rw [if_neg c3] at h
      simp only [Option.some.injEq, Prod.mk.injEq] at h
      obtain ⟨rfl, rfl, rfl, rfl, rfl, rfl, rfl, rfl, rfl, rfl, rfl, rfl, rfl, rfl, rfl, rfl, rfl⟩ := h
      exact failed_alt w a0 a1 a2 a3 a4 a5 a6 a7 a8 a9 a10 a11 a12 a13 a14 a15 c c3
end Go.Proofs.Ytpjehbcchanmhaa.PC
