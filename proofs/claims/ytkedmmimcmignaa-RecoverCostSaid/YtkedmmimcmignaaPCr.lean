/- What recover.Rest computes: the printed function's contract. -/
import Derived.Test.YtkedmmimcmignaaPCf
import Derived.Lib.Hide
namespace Go.Proofs.Ytkedmmimcmignaa.PC
open Go.RowKit Go.Proofs.YtkedmmimcmignaaW.PrintWords Go.Proofs.YtkedmmimcmignaaW.PrintLast Go.Proofs.YtkedmmimcmignaaW.PrintMore
set_option linter.unusedVariables false
set_option linter.unusedSimpArgs false
/-! ### recover_Rest: function 11 -/
def recover_Rest.l0 : Nat → Int → List Int → Int → Int → Option (Int)
  | 0, _, _, _, _ => none
  | k + 1, x3, x20, x21, x22 => if x22 < x21 then (if 0 ≤ x22 then (if x22 < (x20.length : Int) then (recover_Rest.l0 k (wrap64 (x3 + (rd x20 x22))) x20 x21 (wrap64 (x22 + 1))) else (none)) else (none)) else (some x3)
def recover_Rest.f (k : Nat) (a0_0 : ByteArray) (a0_1 : Int) (a0_2 : Int) (a0_3 : Int) (a0_4 : Int) (a0_5 : Int) (a0_6 : Int) (a0_7 : Int) (a0_8 : Int) (a0_9 : Int) (a0_10 : Int) (a0_11 : Int) (a0_12 : Int) (a0_13 : Int) (a0_14 : Bool) (a0_15 : Int) : Option (Int) := if a0_9 = 1 then ((demand_Parts.f k a0_0 a0_1 a0_2 a0_3 a0_4 a0_5 a0_6 a0_7 a0_8 a0_9 a0_10 a0_11).bind fun t144 => (if 0 ≤ (wrap64 (a0_12 + 1)) then (if (wrap64 (a0_12 + 1)) ≤ (t144.length : Int) then ((some (t144.drop ((wrap64 (a0_12 + 1)) : Int).toNat : List Int)).bind fun y147 => (recover_Rest.l0 k a0_13 y147 (y147.length : Int) 0)) else (none)) else (none))) else (some a0_13)
theorem recover_Rest.mono_l : ∀ k, (∀ y0 y1 y2 y3, LeO (recover_Rest.l0 k y0 y1 y2 y3) (recover_Rest.l0 (k + 1) y0 y1 y2 y3))
  | 0 => fun _ _ _ _ r h => by simp [recover_Rest.l0] at h
  | k + 1 => by
    have ih0 := recover_Rest.mono_l k
    · intro y0 y1 y2 y3
      unfold recover_Rest.l0
      repeat' first
      | (with_reducible exact ih0 _ _ _ _)
      | (with_reducible exact demand_Parts.mono _ _ _ _ _ _ _ _ _ _ _ _ _)
      | (with_reducible exact LeO.refl _)
      | (with_reducible exact LeO.none _)
      | (with_reducible refine LeO.ite ?_ ?_)
      | (with_reducible refine LeO.bind ?_ (fun _ => ?_))
      | exact ih0 _ _ _ _
      | exact demand_Parts.mono _ _ _ _ _ _ _ _ _ _ _ _ _
      | exact LeO.none _
      | refine LeO.ite ?_ ?_
      | refine LeO.bind ?_ (fun _ => ?_)
theorem recover_Rest.mono : ∀ a0 a1 a2 a3 a4 a5 a6 a7 a8 a9 a10 a11 a12 a13 a14 a15 k, LeO (recover_Rest.f k a0 a1 a2 a3 a4 a5 a6 a7 a8 a9 a10 a11 a12 a13 a14 a15) (recover_Rest.f (k + 1) a0 a1 a2 a3 a4 a5 a6 a7 a8 a9 a10 a11 a12 a13 a14 a15) := by
  intro a0 a1 a2 a3 a4 a5 a6 a7 a8 a9 a10 a11 a12 a13 a14 a15 k
  have ih0 := recover_Rest.mono_l k
  unfold recover_Rest.f
  repeat' first
      | (with_reducible exact ih0 _ _ _ _)
      | (with_reducible exact demand_Parts.mono _ _ _ _ _ _ _ _ _ _ _ _ _)
      | (with_reducible exact LeO.refl _)
      | (with_reducible exact LeO.none _)
      | (with_reducible refine LeO.ite ?_ ?_)
      | (with_reducible refine LeO.bind ?_ (fun _ => ?_))
      | exact ih0 _ _ _ _
      | exact demand_Parts.mono _ _ _ _ _ _ _ _ _ _ _ _ _
      | exact LeO.none _
      | refine LeO.ite ?_ ?_
      | refine LeO.bind ?_ (fun _ => ?_)

theorem own_all {w : World} {base : Nat} {ok : Nat → Prop} {v : Value} {L : List Int} (h : Kd.R (Kd.int .i64) 3 w base ok v L) :
    (v = .slice none 0 0 ∧ L = []) ∨ ∃ g c, v = .slice (some ⟨g, 0, none⟩) L.length c ∧ L.length ≤ c ∧ L.length ≤ 9223372036854775807 ∧ ∀ p, p < L.length → w.cell? ⟨g, p, none⟩ = some (.int .i64 (rd L (p : Int))) := by
  obtain ⟨A, c, he, hl, hC⟩ := Kd.R_reads h
  obtain ⟨inner, ho⟩ := Kd.R_own h
  rcases ho.2 with ⟨h1, h0⟩ | ⟨g, cap, cur, hv, hg, _⟩
  · exact .inl ⟨h1, List.length_eq_zero_iff.mp h0⟩
  · refine .inr ⟨g, cap, hv, ?_, hC.2.1, fun p hp => ?_⟩
    · rw [hv] at he; injection he with e1 e2 e3; omega
    · rw [hv] at he
      injection he with e1 e2 e3
      subst e1
      obtain ⟨ad, e4, hc⟩ := Kd.at_int hC (p : Int) (by omega) (by omega)
      injection e4 with e4
      subst e4
      rw [Go.WideShapes.add_plain] at hc
      simpa using hc
theorem one_boxed (w : World) (xs : Array Value) {W : World} (hW : W = w.alloc (.cells xs 28)) : W.heap[w.heap.size]? = some (.cells xs 28 (0, 0)) ∧ Below w.heap.size w W := by
  subst hW
  exact ⟨blk_new w _, (Below.refl _ _).alloc (Nat.le_refl _) _⟩
theorem rd_drop (L : List Int) (q j : Nat) : rd (L.drop q) (j : Int) = rd L ((q + j : Nat) : Int) := by
  unfold rd
  rw [Int.toNat_natCast, Int.toNat_natCast]
  simp [List.getD_eq_getElem?_getD]
set_option maxRecDepth 100000 in
set_option maxHeartbeats 1000000 in
theorem rest_alone (w : World) (a0 : ByteArray) (a1 : Int) (a2 : Int) (a3 : Int) (a4 : Int) (a5 : Int) (a6 : Int) (a7 : Int) (a8 : Int) (a9 : Int) (a10 : Int) (a11 : Int) (a12 : Int) (a13 : Int) (a14 : Bool) (a15 : Int) (h9 : ¬ a9 = 1) : Calls Try.prog 11 #[.agg #[.string a0, .int .i64 a1, .int .i64 a2, .int .i64 a3, .int .i64 a4, .int .i64 a5, .int .i64 a6, .int .i64 a7, .int .i64 a8, .int .i64 a9, .int .i64 a10, .int .i64 a11, .int .i64 a12, .int .i64 a13, .bool a14, .int .i64 a15]] w fun e w' => e = .returned (.int .i64 a13) ∧ Below w.heap.size w w' := by
  have g9 : (a9 == 1) = false := by simpa using h9
  clear h9
  obtain ⟨W, hW⟩ : ∃ W, W = w.alloc (.cells #[.string a0, .int .i64 a1, .int .i64 a2, .int .i64 a3, .int .i64 a4, .int .i64 a5, .int .i64 a6, .int .i64 a7, .int .i64 a8, .int .i64 a9, .int .i64 a10, .int .i64 a11, .int .i64 a12, .int .i64 a13, .bool a14, .int .i64 a15] 28) := ⟨_, rfl⟩
  obtain ⟨h1, hb⟩ := one_boxed w _ hW
  obtain ⟨B, hB⟩ : ∃ B, B = w.heap.size := ⟨_, rfl⟩
  rw [← hB] at h1 hb
  have c0 : W.cell? ⟨B, 0, none⟩ = some (.string a0) := blk_cell h1 0
  have c1 : W.cell? ⟨B, 1, none⟩ = some (.int .i64 a1) := blk_cell h1 1
  have c2 : W.cell? ⟨B, 2, none⟩ = some (.int .i64 a2) := blk_cell h1 2
  have c3 : W.cell? ⟨B, 3, none⟩ = some (.int .i64 a3) := blk_cell h1 3
  have c4 : W.cell? ⟨B, 4, none⟩ = some (.int .i64 a4) := blk_cell h1 4
  have c5 : W.cell? ⟨B, 5, none⟩ = some (.int .i64 a5) := blk_cell h1 5
  have c6 : W.cell? ⟨B, 6, none⟩ = some (.int .i64 a6) := blk_cell h1 6
  have c7 : W.cell? ⟨B, 7, none⟩ = some (.int .i64 a7) := blk_cell h1 7
  have c8 : W.cell? ⟨B, 8, none⟩ = some (.int .i64 a8) := blk_cell h1 8
  have c9 : W.cell? ⟨B, 9, none⟩ = some (.int .i64 a9) := blk_cell h1 9
  have c10 : W.cell? ⟨B, 10, none⟩ = some (.int .i64 a10) := blk_cell h1 10
  have c11 : W.cell? ⟨B, 11, none⟩ = some (.int .i64 a11) := blk_cell h1 11
  have c12 : W.cell? ⟨B, 12, none⟩ = some (.int .i64 a12) := blk_cell h1 12
  have c13 : W.cell? ⟨B, 13, none⟩ = some (.int .i64 a13) := blk_cell h1 13
  replace hW := Lib.hid hW
  replace hB := Lib.hid hB
  have H1 := Lib.hid h1
  have HE := Lib.hid hb
  clear h1 hb
  go_enter Try.func11, Try.ntmps11
  go_upto_region 1 with (fail)
  rw [← hW.out, ← hB.out]
  go_wp2
  go_ret
  rw [← hB.out]
  exact ⟨rfl, HE.out⟩
set_option maxRecDepth 100000 in
set_option maxHeartbeats 2000000 in
theorem rest_retry (w : World) (a0 : ByteArray) (a1 : Int) (a2 : Int) (a3 : Int) (a4 : Int) (a5 : Int) (a6 : Int) (a7 : Int) (a8 : Int) (a9 : Int) (a10 : Int) (a11 : Int) (a12 : Int) (a13 : Int) (a14 : Bool) (a15 : Int) (k : Nat) (L : List Int) (r : Int) (q0 : Nat) (h9 : a9 = 1) (hL : demand_Parts.f k a0 a1 a2 a3 a4 a5 a6 a7 a8 a9 a10 a11 = some L) (hq : wrap64 (a12 + 1) = (q0 : Int)) (hql : q0 ≤ L.length)
    (h : recover_Rest.l0 k a13 (L.drop q0) ((L.drop q0).length : Int) 0 = some r) : Calls Try.prog 11 #[.agg #[.string a0, .int .i64 a1, .int .i64 a2, .int .i64 a3, .int .i64 a4, .int .i64 a5, .int .i64 a6, .int .i64 a7, .int .i64 a8, .int .i64 a9, .int .i64 a10, .int .i64 a11, .int .i64 a12, .int .i64 a13, .bool a14, .int .i64 a15]] w fun e w' => e = .returned (.int .i64 r) ∧ Below w.heap.size w w' := by
  have g9 : (a9 == 1) = true := by rw [h9]; rfl
  clear h9
  obtain ⟨M, hM⟩ : ∃ M, M = L.drop q0 := ⟨_, rfl⟩
  have hMl : M.length = L.length - q0 := by rw [hM, List.length_drop]
  rw [← hM] at h
  have hr := Lib.hid h
  clear h
  obtain ⟨W, hW⟩ : ∃ W, W = w.alloc (.cells #[.string a0, .int .i64 a1, .int .i64 a2, .int .i64 a3, .int .i64 a4, .int .i64 a5, .int .i64 a6, .int .i64 a7, .int .i64 a8, .int .i64 a9, .int .i64 a10, .int .i64 a11, .int .i64 a12, .int .i64 a13, .bool a14, .int .i64 a15] 28) := ⟨_, rfl⟩
  obtain ⟨h1, hb⟩ := one_boxed w _ hW
  obtain ⟨B, hB⟩ : ∃ B, B = w.heap.size := ⟨_, rfl⟩
  rw [← hB] at h1 hb
  have c0 : W.cell? ⟨B, 0, none⟩ = some (.string a0) := blk_cell h1 0
  have c1 : W.cell? ⟨B, 1, none⟩ = some (.int .i64 a1) := blk_cell h1 1
  have c2 : W.cell? ⟨B, 2, none⟩ = some (.int .i64 a2) := blk_cell h1 2
  have c3 : W.cell? ⟨B, 3, none⟩ = some (.int .i64 a3) := blk_cell h1 3
  have c4 : W.cell? ⟨B, 4, none⟩ = some (.int .i64 a4) := blk_cell h1 4
  have c5 : W.cell? ⟨B, 5, none⟩ = some (.int .i64 a5) := blk_cell h1 5
  have c6 : W.cell? ⟨B, 6, none⟩ = some (.int .i64 a6) := blk_cell h1 6
  have c7 : W.cell? ⟨B, 7, none⟩ = some (.int .i64 a7) := blk_cell h1 7
  have c8 : W.cell? ⟨B, 8, none⟩ = some (.int .i64 a8) := blk_cell h1 8
  have c9 : W.cell? ⟨B, 9, none⟩ = some (.int .i64 a9) := blk_cell h1 9
  have c10 : W.cell? ⟨B, 10, none⟩ = some (.int .i64 a10) := blk_cell h1 10
  have c11 : W.cell? ⟨B, 11, none⟩ = some (.int .i64 a11) := blk_cell h1 11
  have c12 : W.cell? ⟨B, 12, none⟩ = some (.int .i64 a12) := blk_cell h1 12
  have c13 : W.cell? ⟨B, 13, none⟩ = some (.int .i64 a13) := blk_cell h1 13
  replace hW := Lib.hid hW
  replace hB := Lib.hid hB
  have H1 := Lib.hid h1
  have HE := Lib.hid hb
  clear h1 hb
  have hBlt : B < W.heap.size := blk_lt H1.out
  have HP : Hid (∀ W' : World, W' = W.drew → Calls Try.prog 12 #[.agg #[.string a0, .int .i64 a1, .int .i64 a2, .int .i64 a3, .int .i64 a4, .int .i64 a5, .int .i64 a6, .int .i64 a7, .int .i64 a8, .int .i64 a9, .int .i64 a10], .int .i64 a11] W' fun e w' => ∃ v : Value, e = .returned v ∧ Kd.R (Kd.int .i64) 3 w' W.heap.size (fun _ => True) v L ∧ Below W.heap.size W w') := Lib.hid (fun W' hW' => by
    subst hW'
    exact (demand_Parts.calls k _ _ _ _ _ _ _ _ _ _ _ _ _ W.drew hL).mono fun _ _ ⟨v, he, h1, h2⟩ => ⟨v, he, h1, ((Below.refl _ W).drew).trans h2⟩)
  have hq' := hq
  have hqi : (q0 : Int) ≤ (L.length : Int) := by omega
  clear hL
  go_enter Try.func11, Try.ntmps11
  go_upto_region 1 with (fail)
  rw [← hW.out, ← hB.out]
  go_wp2_with fail
  refine start_ (n := 11) (S := fun w' => w'.cell? ⟨B, 0, none⟩ = some (.string a0) ∧ w'.cell? ⟨B, 1, none⟩ = some (.int .i64 a1) ∧ w'.cell? ⟨B, 2, none⟩ = some (.int .i64 a2) ∧ w'.cell? ⟨B, 3, none⟩ = some (.int .i64 a3) ∧ w'.cell? ⟨B, 4, none⟩ = some (.int .i64 a4) ∧ w'.cell? ⟨B, 5, none⟩ = some (.int .i64 a5) ∧ w'.cell? ⟨B, 6, none⟩ = some (.int .i64 a6) ∧ w'.cell? ⟨B, 7, none⟩ = some (.int .i64 a7) ∧ w'.cell? ⟨B, 8, none⟩ = some (.int .i64 a8) ∧ w'.cell? ⟨B, 9, none⟩ = some (.int .i64 a9) ∧ w'.cell? ⟨B, 10, none⟩ = some (.int .i64 a10) ∧ w'.cell? ⟨B, 11, none⟩ = some (.int .i64 a11) ∧ w'.cell? ⟨B, 12, none⟩ = some (.int .i64 a12)) (ds := []) #[false, false, false, false, false, false, false, false, false, false, false] (by kernel_rfl) rfl rfl ⟨c0, c1, c2, c3, c4, c5, c6, c7, c8, c9, c10, c11, c12⟩ (fun hHeld => ?_)
  refine pure_ (i := 0) (N := (some 12)) (v := ?_) (a' := ?_) #[true, false, false, false, false, false, false, false, false, false, false] rfl rfl (by kernel_rfl) (fun _ _ _ h => h) (Or.inl ⟨by rfl, ?_⟩) ?_ ?_
  rotate_left
  · intro w'
    go_simp
    with_reducible rfl
  rotate_left
  · simp only [Act.put, List.setIfInBounds_toArray, List.set_cons_zero, List.set_cons_succ, i64_w, i32_w]
    rfl
  refine take_ (i := 1) (N := (some 13)) (v := ?_) (a' := ?_) #[true, true, false, false, false, false, false, false, false, false, false] rfl rfl (by kernel_rfl) (fun _ _ _ h => h) (Or.inl ⟨by rfl, ?_⟩) hHeld ?_ ?_
  rotate_left
  · rintro w' ⟨s0, s1, s2, s3, s4, s5, s6, s7, s8, s9, s10, s11, s12⟩
    go_simp
    with_reducible rfl
  rotate_left
  · simp only [Act.put, List.setIfInBounds_toArray, List.set_cons_zero, List.set_cons_succ, i64_w, i32_w]
    rfl
  refine pure_ (i := 2) (N := (some 14)) (v := ?_) (a' := ?_) #[true, true, true, false, false, false, false, false, false, false, false] rfl rfl (by kernel_rfl) (fun _ _ _ h => h) (Or.inl ⟨by rfl, ?_⟩) ?_ ?_
  rotate_left
  · intro w'
    go_simp
    with_reducible rfl
  rotate_left
  · simp only [Act.put, List.setIfInBounds_toArray, List.set_cons_zero, List.set_cons_succ, i64_w, i32_w]
    rfl
  refine take_ (i := 3) (N := (some 15)) (v := ?_) (a' := ?_) #[true, true, true, true, false, false, false, false, false, false, false] rfl rfl (by kernel_rfl) (fun _ _ _ h => h) (Or.inl ⟨by rfl, ?_⟩) hHeld ?_ ?_
  rotate_left
  · rintro w' ⟨s0, s1, s2, s3, s4, s5, s6, s7, s8, s9, s10, s11, s12⟩
    go_simp
    with_reducible rfl
  rotate_left
  · simp only [Act.put, List.setIfInBounds_toArray, List.set_cons_zero, List.set_cons_succ, i64_w, i32_w]
    rfl
  refine pure_ (i := 5) (N := (some 17)) (v := ?_) (a' := ?_) #[true, true, true, true, false, true, false, false, false, false, false] rfl rfl (by kernel_rfl) (fun _ _ _ h => h) (Or.inl ⟨by rfl, ?_⟩) ?_ ?_
  rotate_left
  · intro w'
    go_simp
    with_reducible rfl
  rotate_left
  · simp only [Act.put, List.setIfInBounds_toArray, List.set_cons_zero, List.set_cons_succ, i64_w, i32_w]
    rfl
  refine take_ (i := 6) (N := (some 18)) (v := ?_) (a' := ?_) #[true, true, true, true, false, true, true, false, false, false, false] rfl rfl (by kernel_rfl) (fun _ _ _ h => h) (Or.inl ⟨by rfl, ?_⟩) hHeld ?_ ?_
  rotate_left
  · rintro w' ⟨s0, s1, s2, s3, s4, s5, s6, s7, s8, s9, s10, s11, s12⟩
    go_simp
    with_reducible rfl
  rotate_left
  · simp only [Act.put, List.setIfInBounds_toArray, List.set_cons_zero, List.set_cons_succ, i64_w, i32_w]
    rfl
  refine pure_ (i := 7) (N := (some 19)) (v := ?_) (a' := ?_) #[true, true, true, true, false, true, true, true, false, false, false] rfl rfl (by kernel_rfl) (fun _ _ _ h => h) (Or.inl ⟨by rfl, ?_⟩) ?_ ?_
  rotate_left
  · intro w'
    go_simp
    with_reducible rfl
  rotate_left
  · simp only [Act.put, List.setIfInBounds_toArray, List.set_cons_zero, List.set_cons_succ, i64_w, i32_w]
    rfl
  refine pure_ (i := 10) (N := (some 22)) (v := ?_) (a' := ?_) #[true, true, true, true, false, true, true, true, false, false, true] rfl rfl (by kernel_rfl) (fun _ _ _ h => h) (Or.inl ⟨by rfl, ?_⟩) ?_ ?_
  rotate_left
  · intro w'
    go_simp
    with_reducible rfl
  rotate_left
  · simp only [Act.put, List.setIfInBounds_toArray, List.set_cons_zero, List.set_cons_succ, i64_w, i32_w]
    rfl
  refine one_ (i := 4) (N := (some 16)) #[true, true, true, true, true, true, true, true, false, false, true] rfl rfl (by kernel_rfl) (by decide) (fun K hK => ?_)
  refine goes_ Try.func12 (by kernel_rfl) rfl #[.agg #[.string a0, .int .i64 a1, .int .i64 a2, .int .i64 a3, .int .i64 a4, .int .i64 a5, .int .i64 a6, .int .i64 a7, .int .i64 a8, .int .i64 a9, .int .i64 a10], .int .i64 a11] (by rfl) rfl rfl (by (try simp only [List.map_toArray, List.map_cons, List.map_nil]); first | done | rfl) ?_
  refine (HP.out _ rfl).mono ?_
  rintro e w4 ⟨v, rfl, hv, hb4⟩
  have HE4 := Lib.hid (HE.out.trans (hb4.mono (Nat.le_of_lt hBlt)))
  have q := Lib.hid (hb4.block B hBlt)
  rcases own_all hv with ⟨rfl, rfl⟩ | ⟨g, cp, rfl, hlc, hLm, hcell⟩
  · obtain rfl : q0 = 0 := by simpa using hql
    have hM0 : M.length = 0 := by rw [hM]; rfl
    have hM0i : (M.length : Int) = 0 := by omega
    clear hM hMl
    refine ⟨_, rfl, ?_⟩
    refine hK.out _ _ ⟨(blk_cell (q.out.trans H1.out) 0), (blk_cell (q.out.trans H1.out) 1), (blk_cell (q.out.trans H1.out) 2), (blk_cell (q.out.trans H1.out) 3), (blk_cell (q.out.trans H1.out) 4), (blk_cell (q.out.trans H1.out) 5), (blk_cell (q.out.trans H1.out) 6), (blk_cell (q.out.trans H1.out) 7), (blk_cell (q.out.trans H1.out) 8), (blk_cell (q.out.trans H1.out) 9), (blk_cell (q.out.trans H1.out) 10), (blk_cell (q.out.trans H1.out) 11), (blk_cell (q.out.trans H1.out) 12)⟩ (fun hHeld => ?_)
    clear hK K hv hb4
    refine norm_ (a' := ?_) ?_ ?_
    rotate_left
    · show Act.put _ (some 16) _ = _
      simp only [Act.put, List.setIfInBounds_toArray, List.set_cons_zero, List.set_cons_succ, i64_w, i32_w]
      rfl
    refine pure_ (i := 8) (N := (some 20)) (v := ?_) (a' := ?_) #[true, true, true, true, true, true, true, true, true, false, true] rfl rfl (by kernel_rfl) (fun _ _ _ h => h) (Or.inl ⟨by rfl, ?_⟩) ?_ ?_
    rotate_left
    · intro w'
      go_simp
      with_reducible rfl
    rotate_left
    · simp only [Act.put, List.setIfInBounds_toArray, List.set_cons_zero, List.set_cons_succ, i64_w, i32_w]
      rfl
    refine pure_ (i := 9) (N := (some 21)) (v := ?_) (a' := ?_) #[true, true, true, true, true, true, true, true, true, true, true] rfl rfl (by kernel_rfl) (fun _ _ _ h => h) (Or.inl ⟨by rfl, ?_⟩) ?_ ?_
    rotate_left
    · intro w'
      go_simp
      with_reducible rfl
    rotate_left
    · simp only [Act.put, List.setIfInBounds_toArray, List.set_cons_zero, List.set_cons_succ, i64_w, i32_w]
      rfl
    refine done_ (by kernel_rfl) ?_
    go_wp2_with fail
    replace hq' := Lib.hid hq'
    replace hq := Lib.hid hq
    go_loopw [3, 22] (fun n i wr => ∃ (x : Int) (j kq : Nat), n = .int .i64 x ∧ i = .int .i64 (j : Int) ∧ j ≤ M.length ∧ recover_Rest.l0 kq x M (M.length : Int) (j : Int) = some r ∧ wr = w4) (fun _ i _ => M.length - (intOf i).toNat)
    case atStart => exact ⟨a13, 0, k, rfl, rfl, Nat.zero_le _, hr.out, rfl⟩
    case round =>
      obtain ⟨x, j, kq, rfl, rfl, hj, hrj, rfl⟩ := hrel
      obtain ⟨kq, rfl⟩ : ∃ m, kq = m + 1 := by
        cases kq with
        | zero => simp [recover_Rest.l0] at hrj
        | succ m => exact ⟨m, rfl⟩
      simp only [recover_Rest.l0] at hrj
      by_cases hlt : j < M.length
      · have hjl : (j : Int) < (M.length : Int) := by omega
        rw [if_pos hjl, if_pos (show (0 : Int) ≤ (j : Int) by omega), if_pos hjl] at hrj
        have hj1 : wrap64 ((j : Int) + 1) = ((j + 1 : Nat) : Int) := by unfold wrap64; omega
        rw [hj1] at hrj
        have hrj := Lib.hid hrj
        replace hj1 := Lib.hid hj1
        exfalso; omega
      · rw [if_neg (by omega)] at hrj
        obtain rfl : j = 0 := by omega
        obtain rfl : x = r := by injection hrj
        clear hrj
        go_wp2
        go_ret
        rw [← hB.out]
        exact ⟨rfl, HE4.out⟩
  · by_cases hcq : q0 = cp
    · have hcl := Lib.hid hcell
      obtain rfl : cp = L.length := by omega
      obtain rfl : q0 = L.length := by omega
      have hM0 : M.length = 0 := by rw [hM, List.drop_length]; rfl
      clear hM hMl hcq hlc
      refine ⟨_, rfl, ?_⟩
      refine hK.out _ _ ⟨(blk_cell (q.out.trans H1.out) 0), (blk_cell (q.out.trans H1.out) 1), (blk_cell (q.out.trans H1.out) 2), (blk_cell (q.out.trans H1.out) 3), (blk_cell (q.out.trans H1.out) 4), (blk_cell (q.out.trans H1.out) 5), (blk_cell (q.out.trans H1.out) 6), (blk_cell (q.out.trans H1.out) 7), (blk_cell (q.out.trans H1.out) 8), (blk_cell (q.out.trans H1.out) 9), (blk_cell (q.out.trans H1.out) 10), (blk_cell (q.out.trans H1.out) 11), (blk_cell (q.out.trans H1.out) 12)⟩ (fun hHeld => ?_)
      clear hK K hv hb4
      refine norm_ (a' := ?_) ?_ ?_
      rotate_left
      · show Act.put _ (some 16) _ = _
        simp only [Act.put, List.setIfInBounds_toArray, List.set_cons_zero, List.set_cons_succ, i64_w, i32_w]
        rfl
      refine pure_ (i := 8) (N := (some 20)) (v := ?_) (a' := ?_) #[true, true, true, true, true, true, true, true, true, false, true] rfl rfl (by kernel_rfl) (fun _ _ _ h => h) (Or.inl ⟨by rfl, ?_⟩) ?_ ?_
      rotate_left
      · intro w'
        go_simp
        with_reducible rfl
      rotate_left
      · simp only [Act.put, List.setIfInBounds_toArray, List.set_cons_zero, List.set_cons_succ, i64_w, i32_w]
        rfl
      refine pure_ (i := 9) (N := (some 21)) (v := ?_) (a' := ?_) #[true, true, true, true, true, true, true, true, true, true, true] rfl rfl (by kernel_rfl) (fun _ _ _ h => h) (Or.inl ⟨by rfl, ?_⟩) ?_ ?_
      rotate_left
      · intro w'
        go_simp
        with_reducible rfl
      rotate_left
      · simp only [Act.put, List.setIfInBounds_toArray, List.set_cons_zero, List.set_cons_succ, i64_w, i32_w]
        rfl
      refine done_ (by kernel_rfl) ?_
      go_wp2_with fail
      replace hq' := Lib.hid hq'
      replace hq := Lib.hid hq
      go_loopw [3, 22] (fun n i wr => ∃ (x : Int) (j kq : Nat), n = .int .i64 x ∧ i = .int .i64 (j : Int) ∧ j ≤ M.length ∧ recover_Rest.l0 kq x M (M.length : Int) (j : Int) = some r ∧ wr = w4) (fun _ i _ => M.length - (intOf i).toNat)
      case atStart => exact ⟨a13, 0, k, rfl, rfl, Nat.zero_le _, hr.out, rfl⟩
      case round =>
        obtain ⟨x, j, kq, rfl, rfl, hj, hrj, rfl⟩ := hrel
        obtain ⟨kq, rfl⟩ : ∃ m, kq = m + 1 := by
          cases kq with
          | zero => simp [recover_Rest.l0] at hrj
          | succ m => exact ⟨m, rfl⟩
        simp only [recover_Rest.l0] at hrj
        by_cases hlt : j < M.length
        · have hjl : (j : Int) < (M.length : Int) := by omega
          rw [if_pos hjl, if_pos (show (0 : Int) ≤ (j : Int) by omega), if_pos hjl] at hrj
          have hj1 : wrap64 ((j : Int) + 1) = ((j + 1 : Nat) : Int) := by unfold wrap64; omega
          rw [hj1] at hrj
          have hrj := Lib.hid hrj
          replace hj1 := Lib.hid hj1
          exfalso; omega
        · rw [if_neg (by omega)] at hrj
          obtain rfl : j = 0 := by omega
          obtain rfl : x = r := by injection hrj
          clear hrj
          go_wp2
          go_ret
          rw [← hB.out]
          exact ⟨rfl, HE4.out⟩
    · have hcl := Lib.hid hcell
      have gcp : (q0 == cp) = false := by rw [beq_eq_false_iff_ne]; exact hcq
      have hMi : (L.length : Int) - (q0 : Int) = (M.length : Int) := by omega
      have hMn : L.length - q0 = M.length := by omega
      have hML : M.length ≤ 9223372036854775807 := by omega
      replace hMl := Lib.hid hMl
      replace hM := Lib.hid hM
      refine ⟨_, rfl, ?_⟩
      refine hK.out _ _ ⟨(blk_cell (q.out.trans H1.out) 0), (blk_cell (q.out.trans H1.out) 1), (blk_cell (q.out.trans H1.out) 2), (blk_cell (q.out.trans H1.out) 3), (blk_cell (q.out.trans H1.out) 4), (blk_cell (q.out.trans H1.out) 5), (blk_cell (q.out.trans H1.out) 6), (blk_cell (q.out.trans H1.out) 7), (blk_cell (q.out.trans H1.out) 8), (blk_cell (q.out.trans H1.out) 9), (blk_cell (q.out.trans H1.out) 10), (blk_cell (q.out.trans H1.out) 11), (blk_cell (q.out.trans H1.out) 12)⟩ (fun hHeld => ?_)
      clear hK K hv hb4
      refine norm_ (a' := ?_) ?_ ?_
      rotate_left
      · show Act.put _ (some 16) _ = _
        simp only [Act.put, List.setIfInBounds_toArray, List.set_cons_zero, List.set_cons_succ, i64_w, i32_w]
        rfl
      refine pure_ (i := 8) (N := (some 20)) (v := ?_) (a' := ?_) #[true, true, true, true, true, true, true, true, true, false, true] rfl rfl (by kernel_rfl) (fun _ _ _ h => h) (Or.inl ⟨by rfl, ?_⟩) ?_ ?_
      rotate_left
      · intro w'
        go_simp
        with_reducible rfl
      rotate_left
      · simp only [Act.put, List.setIfInBounds_toArray, List.set_cons_zero, List.set_cons_succ, i64_w, i32_w]
        rfl
      refine pure_ (i := 9) (N := (some 21)) (v := ?_) (a' := ?_) #[true, true, true, true, true, true, true, true, true, true, true] rfl rfl (by kernel_rfl) (fun _ _ _ h => h) (Or.inl ⟨by rfl, ?_⟩) ?_ ?_
      rotate_left
      · intro w'
        go_simp
        with_reducible rfl
      rotate_left
      · simp only [Act.put, List.setIfInBounds_toArray, List.set_cons_zero, List.set_cons_succ, i64_w, i32_w]
        rfl
      refine done_ (by kernel_rfl) ?_
      go_wp2_with fail
      replace hq' := Lib.hid hq'
      replace hq := Lib.hid hq
      go_loopw [3, 22] (fun n i wr => ∃ (x : Int) (j kq : Nat), n = .int .i64 x ∧ i = .int .i64 (j : Int) ∧ j ≤ M.length ∧ recover_Rest.l0 kq x M (M.length : Int) (j : Int) = some r ∧ wr = w4) (fun _ i _ => M.length - (intOf i).toNat)
      case atStart => exact ⟨a13, 0, k, rfl, rfl, Nat.zero_le _, hr.out, rfl⟩
      case round =>
        obtain ⟨x, j, kq, rfl, rfl, hj, hrj, rfl⟩ := hrel
        obtain ⟨kq, rfl⟩ : ∃ m, kq = m + 1 := by
          cases kq with
          | zero => simp [recover_Rest.l0] at hrj
          | succ m => exact ⟨m, rfl⟩
        simp only [recover_Rest.l0] at hrj
        by_cases hlt : j < M.length
        · have hjl : (j : Int) < (M.length : Int) := by omega
          rw [if_pos hjl, if_pos (show (0 : Int) ≤ (j : Int) by omega), if_pos hjl] at hrj
          have hj1 : wrap64 ((j : Int) + 1) = ((j + 1 : Nat) : Int) := by unfold wrap64; omega
          rw [hj1] at hrj
          have hrj := Lib.hid hrj
          replace hj1 := Lib.hid hj1
          have hcj : wr.cell? ⟨g, q0 + j, none⟩ = some (.int .i64 (rd M (j : Int))) := by rw [hM.out, rd_drop]; exact hcl.out (q0 + j) (by omega)
          replace hMi := Lib.hid hMi
          replace hMn := Lib.hid hMn
          go_wp2
          go_roundw
          case rel => exact ⟨_, j + 1, kq, rfl, by first | go_num | (rw [hj1.out]), by omega, hrj.out, trivial⟩
          case measure => simp [intOf]; omega
        · rw [if_neg (by omega)] at hrj
          have hlt2 : (M.length : Int) ≤ (j : Int) := by omega
          obtain rfl : x = r := by injection hrj
          clear hrj
          go_wp2
          go_ret
          rw [← hB.out]
          exact ⟨rfl, HE4.out⟩
theorem recover_Rest.calls (k : Nat) (a0 : ByteArray) (a1 : Int) (a2 : Int) (a3 : Int) (a4 : Int) (a5 : Int) (a6 : Int) (a7 : Int) (a8 : Int) (a9 : Int) (a10 : Int) (a11 : Int) (a12 : Int) (a13 : Int) (a14 : Bool) (a15 : Int) (r : Int) (w : World) (h : recover_Rest.f k a0 a1 a2 a3 a4 a5 a6 a7 a8 a9 a10 a11 a12 a13 a14 a15 = some r) : Calls Try.prog 11 #[.agg #[.string a0, .int .i64 a1, .int .i64 a2, .int .i64 a3, .int .i64 a4, .int .i64 a5, .int .i64 a6, .int .i64 a7, .int .i64 a8, .int .i64 a9, .int .i64 a10, .int .i64 a11, .int .i64 a12, .int .i64 a13, .bool a14, .int .i64 a15]] w fun e w' => e = .returned (.int .i64 r) ∧ Below w.heap.size w w' := by
  unfold recover_Rest.f at h
  by_cases c : a9 = 1
  · rw [if_pos c] at h
    obtain ⟨L, hL, h⟩ := Option.bind_eq_some_iff.mp h
    by_cases c1 : 0 ≤ wrap64 (a12 + 1)
    · rw [if_pos c1] at h
      by_cases c2 : wrap64 (a12 + 1) ≤ (L.length : Int)
      · rw [if_pos c2] at h
        simp only [Option.bind_some] at h
        exact rest_retry w a0 a1 a2 a3 a4 a5 a6 a7 a8 a9 a10 a11 a12 a13 a14 a15 k L r (wrap64 (a12 + 1)).toNat c hL (by omega) (by omega) h
      · rw [if_neg c2] at h; cases h
    · rw [if_neg c1] at h; cases h
  · rw [if_neg c] at h
    obtain rfl : a13 = r := by injection h
    exact rest_alone w a0 a1 a2 a3 a4 a5 a6 a7 a8 a9 a10 a11 a12 a13 a14 a15 c
end Go.Proofs.Ytkedmmimcmignaa.PC
