/- Contracts of trace.New, Add, Events, Of, Count, All. -/
import Derived.Test.YtbcpfbmoednghaaTr
namespace Go.Proofs.Ytbcpfbmoednghaa.Tr
open Go.RowKit Go.Proofs.YtbcpfbmoednghaaW.PrintWords Go.Proofs.YtbcpfbmoednghaaW.PrintLast Go.Proofs.YtbcpfbmoednghaaW.PrintMore Go.Proofs.Ytbcpfbmoednghaa.Ring Go.Proofs.Ytbcpfbmoednghaa.Ring5 Go.Proofs.Ytbcpfbmoednghaa.Args
set_option linter.unusedSimpArgs false
set_option linter.unusedVariables false
theorem new_no (w : World) (c : Int) (h : c < 1 ∨ 4096 < c) :
    Calls Try.prog 8 #[.int .i64 c] w fun e w' => e = .returned (.tuple #[.pointer none, .int .i64 1]) ∧ w' = w := by
  have HN := Ring5.new_no w c h
  clear h
  go_enter Try.func8, Try.ntmps8
  go_wp2_with fail
  refine HN.mono ?_; rintro e w1 ⟨rfl, rfl⟩
  go_wp2
  go_ret2
  exact ⟨rfl, rfl⟩
/-- A trace's cells as its type lays them. -/
def tzero : Array Value := ((.pointer none) :: List.replicate 192 (Value.int .i64 0)).toArray
theorem zero_tr (W : World) : (zeroValue 50).run Try.prog W = .ok (.agg tzero) W := by kernel_rfl
set_option maxRecDepth 100000 in
theorem tzero_set (p : Nat) : tzero.setIfInBounds 0 (.pointer (some ⟨p, 0, none⟩)) = tcells p (fun _ => 0) := by
  unfold tzero tcells
  rw [List.setIfInBounds_toArray, List.set_cons_zero]
  congr 2
theorem new_yes (w : World) (c : Nat) (h1 : 1 ≤ c) (h2 : c ≤ 4096) :
    Calls Try.prog 8 #[.int .i64 (c : Int)] w fun e w' => ∃ pt p g, e = .returned (.tuple #[.pointer (some ⟨pt, 0, none⟩), .int .i64 0]) ∧ TS w' pt p g c [] (fun _ => 0) ∧ w.heap.size ≤ pt ∧ w.heap.size ≤ p ∧ w.heap.size ≤ g ∧ Below w.heap.size w w' := by
  go_enter Try.func8, Try.ntmps8
  go_wp2_with fail
  refine (new_any w c h1 h2).mono ?_; rintro e w1 ⟨p, g, rfl, hr, hp, hg, hb⟩
  replace hr := Lib.hid hr
  replace hb := Lib.hid hb
  have hz := zero_tr
  have hne : ¬ tzero = #[] := by simp [tzero]
  have hsz := hb.out.size
  go_wp2
  rw [tzero_set]
  refine bodyPost_ret (v := .tuple #[.pointer (some ⟨w1.heap.size, 0, none⟩), .int .i64 0]) (by simp [results, Try.results8, go_sem]) rfl ⟨w1.heap.size, p, g, rfl, ⟨blk_new _ _, by rw [show lastc c ([] : List Ev) = [] by simp [lastc]]; exact ⟨0, List.replicate c z5, hr.out.alloc _, List.length_replicate, h1, h2, by omega, Nat.zero_le _, rfl, fun i hi => absurd hi (Nat.not_lt_zero i)⟩⟩, hsz, hp, hg, hb.out.alloc hsz _⟩
set_option maxRecDepth 100000 in
set_option maxHeartbeats 400000 in
theorem add_yes {w : World} {pt p g c : Nat} {M : List Ev} {cn : Nat → Nat} (h : TS w pt p g c M cn) (x : Ev) (a b : Nat) (hxa : x.b = (a : Int)) (hxb : x.c = (b : Int)) (h1 : 1 ≤ a) (h2 : a < 12) (h3 : b < 16) (hcn : cn (a * 16 + b) ≤ 4611686018427387904) :
    Calls Try.prog 9 #[.pointer (some ⟨pt, 0, none⟩), .agg (l5 x).toArray] w fun e w' => e = .returned (.bool true) ∧ TS w' pt p g c (M ++ [x]) (up1 cn (a * 16 + b)) ∧ Kept w w' (fun k => k = pt ∨ k = p ∨ k = g) ∧ ∀ B, B ≤ pt → B ≤ p → B ≤ g → Below B w w' := by
  obtain ⟨W, hW⟩ : ∃ W, W = w.alloc (.cells (l5 x).toArray 30) := ⟨_, rfl⟩
  obtain ⟨hbW, hsW, b0, b1, b2, b3, b4⟩ := boxed w x hW
  have hT := h.below hbW
  have hfar := h.far
  have hlt := h.lt
  obtain ⟨B, hB⟩ : ∃ B, B = w.heap.size := ⟨_, rfl⟩
  rw [← hB] at b0 b1 b2 b3 b4 hlt hbW
  have hBp : B ≠ p := by omega
  have hBg : B ≠ g := by omega
  have hptB : pt ≠ B := by omega
  have c0 : W.cell? ⟨pt, 0, none⟩ = some (.pointer (some ⟨p, 0, none⟩)) := (blk_cell hT.1 0).trans (by simp [tcells])
  have HC : ∀ W', Calls Try.prog 17 #[.int .i64 x.b, .int .i64 x.c] W' fun e w' => e = .returned (.bool true) ∧ w' = W' := fun W' => by rw [hxa, hxb]; exact counted_yes a b W' h1 h2 h3
  have HP : ∀ W' : World, W' = W.drew → Calls Try.prog 18 #[.pointer (some ⟨p, 0, none⟩), .agg (l5 x).toArray] W' fun e w' => ∃ b, e = .returned (.bool b) ∧ RQ w' p g c (lastc c (M ++ [x])) ∧ Kept W w' (Own p g) ∧ ∀ B, B ≤ p → B ≤ g → Below B W w' := fun W' hW' => by
    subst hW'
    exact (push_q (w := W.drew) hT.2 x).mono fun _ _ ⟨bb, he, hq, hk, hbl⟩ => ⟨bb, he, hq, hk, fun B h1 h2 => ((Below.refl B W).drew).trans (hbl B h1 h2)⟩
  have hPT := Lib.hid hT.1
  have i1 : (a : Int) < 12 := by omega
  have i2 : (b : Int) < 16 := by omega
  replace hxa := Lib.hid hxa
  replace hxb := Lib.hid hxb
  replace hW := Lib.hid hW
  replace hB := Lib.hid hB
  replace HC := Lib.hid HC
  replace HP := Lib.hid HP
  replace hbW := Lib.hid hbW
  clear h hT hsW
  go_enter Try.func9, Try.ntmps9
  go_upto_region 1 with (fail)
  rw [← hW.out, ← hB.out]
  go_wp2_with fail
  refine (HC.out _).mono ?_; rintro e w' ⟨rfl, rfl⟩
  go_wp2_with fail
  refine start_ (n := 6) (S := fun w' => w'.cell? ⟨pt, 0, none⟩ = some (.pointer (some ⟨p, 0, none⟩)) ∧ w'.cell? ⟨B, 0, none⟩ = some (.int .i64 x.a) ∧ w'.cell? ⟨B, 1, none⟩ = some (.int .i64 x.b) ∧ w'.cell? ⟨B, 2, none⟩ = some (.int .i64 x.c) ∧ w'.cell? ⟨B, 3, none⟩ = some (.int .i64 x.d) ∧ w'.cell? ⟨B, 4, none⟩ = some (.int .i64 x.e)) (ds := []) #[false, false, false, false, false, false] (by kernel_rfl) rfl rfl ⟨c0, b0, b1, b2, b3, b4⟩ (fun hHeld => ?_)
  refine pure_ (i := 0) (N := (some 11)) (v := ?_) (a' := ?_) #[true, false, false, false, false, false] rfl rfl (by kernel_rfl) (fun _ _ _ h => h) (Or.inl ⟨by rfl, ?_⟩) ?_ ?_
  rotate_left
  · intro w'
    go_simp
    with_reducible rfl
  rotate_left
  · simp only [Act.put, List.setIfInBounds_toArray, List.set_cons_zero, List.set_cons_succ, i64_w, i32_w]
    rfl
  refine pure_ (i := 1) (N := (some 12)) (v := ?_) (a' := ?_) #[true, true, false, false, false, false] rfl rfl (by kernel_rfl) (fun _ _ _ h => h) (Or.inl ⟨by rfl, ?_⟩) ?_ ?_
  rotate_left
  · intro w'
    go_simp
    with_reducible rfl
  rotate_left
  · simp only [Act.put, List.setIfInBounds_toArray, List.set_cons_zero, List.set_cons_succ, i64_w, i32_w]
    rfl
  refine pure_ (i := 2) (N := (some 13)) (v := ?_) (a' := ?_) #[true, true, true, false, false, false] rfl rfl (by kernel_rfl) (fun _ _ _ h => h) (Or.inl ⟨by rfl, ?_⟩) ?_ ?_
  rotate_left
  · intro w'
    go_simp
    with_reducible rfl
  rotate_left
  · simp only [Act.put, List.setIfInBounds_toArray, List.set_cons_zero, List.set_cons_succ, i64_w, i32_w]
    rfl
  refine take_ (i := 3) (N := (some 14)) (v := ?_) (a' := ?_) #[true, true, true, true, false, false] rfl rfl (by kernel_rfl) (fun _ _ _ h => h) (Or.inl ⟨by rfl, ?_⟩) hHeld ?_ ?_
  rotate_left
  · rintro w' ⟨s0, s1, s2, s3, s4, s5⟩
    go_simp
    with_reducible rfl
  rotate_left
  · simp only [Act.put, List.setIfInBounds_toArray, List.set_cons_zero, List.set_cons_succ, i64_w, i32_w]
    rfl
  refine take_ (i := 4) (N := (some 15)) (v := ?_) (a' := ?_) #[true, true, true, true, true, false] rfl rfl (by kernel_rfl) (fun _ _ _ h => h) (Or.inl ⟨by rfl, ?_⟩) hHeld ?_ ?_
  rotate_left
  · rintro w' ⟨s0, s1, s2, s3, s4, s5⟩
    go_simp
    with_reducible rfl
  rotate_left
  · simp only [Act.put, List.setIfInBounds_toArray, List.set_cons_zero, List.set_cons_succ, i64_w, i32_w]
    rfl
  refine one_ (i := 5) (N := (some 16)) #[true, true, true, true, true, true] rfl rfl (by kernel_rfl) (by decide) (fun K hK => ?_)
  refine goes_ Try.func18 (by kernel_rfl) rfl #[.pointer (some ⟨p, 0, none⟩), .agg (l5 x).toArray] (by rfl) rfl rfl (by (try simp only [List.map_toArray, List.map_cons, List.map_nil]); first | done | rfl) ?_
  refine (HP.out _ rfl).mono ?_
  rintro e w1 ⟨bb, rfl, hq, hk, hbl⟩
  have q0 := cell_kept c0 hk (fun h => h.elim hfar.1 hfar.2)
  have q1 := cell_kept b0 hk (fun h => h.elim hBp hBg)
  have q2 := cell_kept b1 hk (fun h => h.elim hBp hBg)
  have q3 := cell_kept b2 hk (fun h => h.elim hBp hBg)
  have q4 := cell_kept b3 hk (fun h => h.elim hBp hBg)
  have q5 := cell_kept b4 hk (fun h => h.elim hBp hBg)
  have hpt1 := Lib.hid (blk_kept hPT.out hk (fun h => h.elim hfar.1 hfar.2))
  replace hq := Lib.hid hq
  replace hk := Lib.hid hk
  replace hbl := Lib.hid hbl
  refine ⟨_, rfl, ?_⟩
  refine hK.out _ _ ⟨q0, q1, q2, q3, q4, q5⟩ (fun hHeld => ?_)
  clear hK K
  refine norm_ (a' := ?_) ?_ ?_
  rotate_left
  · show Act.put _ (some 16) _ = _
    simp only [Act.put, List.setIfInBounds_toArray, List.set_cons_zero, List.set_cons_succ, i64_w, i32_w]
    rfl
  refine done_ (by kernel_rfl) ?_
  go_wp2_with fail
  rw [hxa.out] at q2
  rw [hxb.out] at q3
  have hix : a * 16 + b < 192 := by omega
  have hcc : w1.drew.cell? ⟨pt, 1 + a * 16 + b, none⟩ = some (.int .i64 (cn (a * 16 + b) : Int)) := (blk_cell hpt1.out _).trans (by rw [Nat.add_assoc]; exact tcells_at p cn _ hix)
  have hcz : w1.drew.frozen? ⟨pt, 1 + a * 16 + b, none⟩ = false := blk_frozen hpt1.out _
  refine start_ (n := 10) (S := fun w' => w'.cell? ⟨B, 1, none⟩ = some (.int .i64 (a : Int)) ∧ w'.cell? ⟨B, 2, none⟩ = some (.int .i64 (b : Int))) (ds := []) #[false, false, false, false, false, false, false, false, false, false] (by kernel_rfl) rfl rfl ⟨q2, q3⟩ (fun hHeld => ?_)
  refine pure_ (i := 0) (N := (some 17)) (v := ?_) (a' := ?_) #[true, false, false, false, false, false, false, false, false, false] rfl rfl (by kernel_rfl) (fun _ _ _ h => h) (Or.inl ⟨by rfl, ?_⟩) ?_ ?_
  rotate_left
  · intro w'
    go_simp
    with_reducible rfl
  rotate_left
  · simp only [Act.put, List.setIfInBounds_toArray, List.set_cons_zero, List.set_cons_succ, i64_w, i32_w]
    rfl
  refine pure_ (i := 1) (N := (some 18)) (v := ?_) (a' := ?_) #[true, true, false, false, false, false, false, false, false, false] rfl rfl (by kernel_rfl) (fun _ _ _ h => h) (Or.inl ⟨by rfl, ?_⟩) ?_ ?_
  rotate_left
  · intro w'
    go_simp
    with_reducible rfl
  rotate_left
  · simp only [Act.put, List.setIfInBounds_toArray, List.set_cons_zero, List.set_cons_succ, i64_w, i32_w]
    rfl
  refine take_ (i := 2) (N := (some 19)) (v := ?_) (a' := ?_) #[true, true, true, false, false, false, false, false, false, false] rfl rfl (by kernel_rfl) (fun _ _ _ h => h) (Or.inl ⟨by rfl, ?_⟩) hHeld ?_ ?_
  rotate_left
  · rintro w' ⟨s0, s1⟩
    go_simp
    with_reducible rfl
  rotate_left
  · simp only [Act.put, List.setIfInBounds_toArray, List.set_cons_zero, List.set_cons_succ, i64_w, i32_w]
    rfl
  refine pure_ (i := 3) (N := (some 20)) (v := ?_) (a' := ?_) #[true, true, true, true, false, false, false, false, false, false] rfl rfl (by kernel_rfl) (fun _ _ _ h => h) (Or.inl ⟨by rfl, ?_⟩) ?_ ?_
  rotate_left
  · intro w'
    go_simp
    with_reducible rfl
  rotate_left
  · simp only [Act.put, List.setIfInBounds_toArray, List.set_cons_zero, List.set_cons_succ, i64_w, i32_w]
    rfl
  refine take_ (i := 4) (N := (some 21)) (v := ?_) (a' := ?_) #[true, true, true, true, true, false, false, false, false, false] rfl rfl (by kernel_rfl) (fun _ _ _ h => h) (Or.inl ⟨by rfl, ?_⟩) hHeld ?_ ?_
  rotate_left
  · rintro w' ⟨s0, s1⟩
    go_simp
    with_reducible rfl
  rotate_left
  · simp only [Act.put, List.setIfInBounds_toArray, List.set_cons_zero, List.set_cons_succ, i64_w, i32_w]
    rfl
  refine pure_ (i := 5) (N := (some 22)) (v := ?_) (a' := ?_) #[true, true, true, true, true, true, false, false, false, false] rfl rfl (by kernel_rfl) (fun _ _ _ h => h) (Or.inl ⟨by rfl, ?_⟩) ?_ ?_
  rotate_left
  · intro w'
    go_simp
    with_reducible rfl
  rotate_left
  · simp only [Act.put, List.setIfInBounds_toArray, List.set_cons_zero, List.set_cons_succ, i64_w, i32_w]
    rfl
  refine pure_ (i := 6) (N := (some 23)) (v := ?_) (a' := ?_) #[true, true, true, true, true, true, true, false, false, false] rfl rfl (by kernel_rfl) (fun _ _ _ h => h) (Or.inl ⟨by rfl, ?_⟩) ?_ ?_
  rotate_left
  · intro w'
    go_simp
    with_reducible rfl
  rotate_left
  · simp only [Act.put, List.setIfInBounds_toArray, List.set_cons_zero, List.set_cons_succ, i64_w, i32_w]
    rfl
  refine pure_ (i := 7) (N := (some 24)) (v := ?_) (a' := ?_) #[true, true, true, true, true, true, true, true, false, false] rfl rfl (by kernel_rfl) (fun _ _ _ h => h) (Or.inl ⟨by rfl, ?_⟩) ?_ ?_
  rotate_left
  · intro w'
    go_simp
    with_reducible rfl
  rotate_left
  · simp only [Act.put, List.setIfInBounds_toArray, List.set_cons_zero, List.set_cons_succ, i64_w, i32_w]
    rfl
  refine pure_ (i := 8) (N := (some 25)) (v := ?_) (a' := ?_) #[true, true, true, true, true, true, true, true, true, false] rfl rfl (by kernel_rfl) (fun _ _ _ h => h) (Or.inl ⟨by rfl, ?_⟩) ?_ ?_
  rotate_left
  · intro w'
    go_simp
    with_reducible rfl
  rotate_left
  · simp only [Act.put, List.setIfInBounds_toArray, List.set_cons_zero, List.set_cons_succ, i64_w, i32_w]
    rfl
  refine one_ (i := 9) (N := (some 26)) #[true, true, true, true, true, true, true, true, true, true] rfl rfl (by kernel_rfl) (by decide) (fun K hK => ?_)
  refine goes_ Try.func19 (by kernel_rfl) rfl #[.pointer (some ⟨pt, 1 + a * 16 + b, none⟩), .int .i64 1] (by rfl) rfl rfl (by (try simp only [List.map_toArray, List.map_cons, List.map_nil]); first | done | rfl) ?_
  refine (inc_any ⟨pt, 1 + a * 16 + b, none⟩ (cn (a * 16 + b)) _ hcn hcc hcz).mono ?_
  rintro e w2 ⟨rfl, hw2⟩
  refine ⟨_, rfl, ?_⟩
  refine hK.out _ _ ⟨?_, ?_⟩ (fun hHeld => ?_)
  · rw [hw2]; exact (World.cell?_setCell_other _ ⟨pt, _, none⟩ ⟨B, 1, none⟩ _ (by intro h; exact hptB (congrArg Addr.block h))).trans q2
  · rw [hw2]; exact (World.cell?_setCell_other _ ⟨pt, _, none⟩ ⟨B, 2, none⟩ _ (by intro h; exact hptB (congrArg Addr.block h))).trans q3
  clear hK K
  refine norm_ (a' := ?_) ?_ ?_
  rotate_left
  · show Act.put _ (some 26) _ = _
    simp only [Act.put, List.setIfInBounds_toArray, List.set_cons_zero, List.set_cons_succ, i64_w, i32_w]
    rfl
  refine done_ (by kernel_rfl) ?_
  have hfin : TS w2 pt p g c (M ++ [x]) (up1 cn (a * 16 + b)) ∧ Kept w w2 (fun k => k = pt ∨ k = p ∨ k = g) ∧ ∀ B, B ≤ pt → B ≤ p → B ≤ g → Below B w w2 := by
    rw [hw2]
    refine ⟨⟨blk_put (show w1.drew.heap[pt]? = _ from hpt1.out) _ _ (by rw [Nat.add_assoc]; exact tcells_up p cn _ hix), hq.out.same (Below.heap_setCell w1.drew _ _ _ (Ne.symm hfar.1)) (Below.heap_setCell w1.drew _ _ _ (Ne.symm hfar.2))⟩, ?_, fun B' k1 k2 k3 => ?_⟩
    · exact (((Kept.of_below (by rw [← hB.out]; exact hbW.out) (fun k => k = pt ∨ k = p ∨ k = g)).then_ hk.out (fun _ h => .inl (.inr h))).drew).setCell (p := ⟨pt, _, none⟩) (.inl (.inl rfl)) _
    · exact (((hbW.out.mono (by omega)).trans (hbl.out B' k2 k3)).drew).setCell k1 _
  replace hfin := Lib.hid hfin
  clear hw2 hcc hcz
  go_wp2
  go_ret
  exact ⟨rfl, hfin.out⟩
theorem add_no {w : World} {pt : Nat} (x : Ev) (hn : ¬ (1 ≤ x.b ∧ x.b < 12 ∧ 0 ≤ x.c ∧ x.c < 16)) :
    Calls Try.prog 9 #[.pointer (some ⟨pt, 0, none⟩), .agg (l5 x).toArray] w fun e w' => e = .returned (.bool false) ∧ Below w.heap.size w w' := by
  obtain ⟨W, hW⟩ : ∃ W, W = w.alloc (.cells (l5 x).toArray 30) := ⟨_, rfl⟩
  obtain ⟨hbW, hsW, b0, b1, b2, b3, b4⟩ := boxed w x hW
  obtain ⟨B, hB⟩ : ∃ B, B = w.heap.size := ⟨_, rfl⟩
  rw [← hB] at b0 b1 b2 b3 b4
  have HC := Lib.hid (fun W' => counted_no x.b x.c W' hn)
  replace hW := Lib.hid hW
  replace hB := Lib.hid hB
  replace hbW := Lib.hid hbW
  clear hsW hn
  go_enter Try.func9, Try.ntmps9
  go_upto_region 1 with (fail)
  rw [← hW.out, ← hB.out]
  go_wp2_with fail
  refine (HC.out _).mono ?_; rintro e w' ⟨rfl, rfl⟩
  go_wp2
  go_ret
  exact ⟨rfl, hbW.out⟩
theorem right_any (w : World) (x : Ev) (r : Bool) (hr : r = decide (1 ≤ x.b ∧ x.b < 12 ∧ 0 ≤ x.c ∧ x.c < 16)) :
    Calls Try.prog 10 #[.agg (l5 x).toArray] w fun e w' => e = .returned (.bool r) ∧ Below w.heap.size w w' := by
  obtain ⟨W, hW⟩ : ∃ W, W = w.alloc (.cells (l5 x).toArray 30) := ⟨_, rfl⟩
  obtain ⟨hbW, hsW, b0, b1, b2, b3, b4⟩ := boxed w x hW
  obtain ⟨B, hB⟩ : ∃ B, B = w.heap.size := ⟨_, rfl⟩
  rw [← hB] at b0 b1 b2 b3 b4
  obtain ⟨u, hu⟩ : ∃ u, u = x.b := ⟨_, rfl⟩
  obtain ⟨v, hv⟩ : ∃ v, v = x.c := ⟨_, rfl⟩
  rw [← hu] at b1 hr
  rw [← hv] at b2 hr
  replace hW := Lib.hid hW
  replace hB := Lib.hid hB
  replace hbW := Lib.hid hbW
  clear hsW hu hv
  by_cases h1 : 1 ≤ u
  · by_cases h2 : u ≤ 11
    · by_cases h3 : 0 ≤ v
      · by_cases h4 : v ≤ 15
        · obtain rfl : r = true := by rw [hr]; simp; omega
          clear hr
          go_enter Try.func10, Try.ntmps10
          go_upto_region 1 with (fail)
          rw [← hW.out, ← hB.out]
          go_wp2
          go_ret
          exact ⟨rfl, hbW.out⟩
        · obtain rfl : r = false := by rw [hr]; simp; omega
          have h5 : 15 < v := by omega
          clear hr
          go_enter Try.func10, Try.ntmps10
          go_upto_region 1 with (fail)
          rw [← hW.out, ← hB.out]
          go_wp2
          go_ret
          exact ⟨rfl, hbW.out⟩
      · obtain rfl : r = false := by rw [hr]; simp; omega
        have h5 : v < 0 := by omega
        clear hr
        go_enter Try.func10, Try.ntmps10
        go_upto_region 1 with (fail)
        rw [← hW.out, ← hB.out]
        go_wp2
        go_ret
        exact ⟨rfl, hbW.out⟩
    · obtain rfl : r = false := by rw [hr]; simp; omega
      have h5 : 11 < u := by omega
      clear hr
      go_enter Try.func10, Try.ntmps10
      go_upto_region 1 with (fail)
      rw [← hW.out, ← hB.out]
      go_wp2
      go_ret
      exact ⟨rfl, hbW.out⟩
  · obtain rfl : r = false := by rw [hr]; simp; omega
    have h5 : u < 1 := by omega
    clear hr
    go_enter Try.func10, Try.ntmps10
    go_upto_region 1 with (fail)
    rw [← hW.out, ← hB.out]
    go_wp2
    go_ret
    exact ⟨rfl, hbW.out⟩
section
variable {w : World} {pt p g c : Nat} {M : List Ev} {cn : Nat → Nat}
theorem events_any (h : TS w pt p g c M cn) :
    Calls Try.prog 11 #[.pointer (some ⟨pt, 0, none⟩)] w fun e w' => ∃ v, e = .returned v ∧ w'.ownsRow w.heap.size 30 5 v (lastc c M).length (flat (lastc c M)) ∧ Below w.heap.size w w' := by
  have c0 : w.cell? ⟨pt, 0, none⟩ = some (.pointer (some ⟨p, 0, none⟩)) := (blk_cell h.1 0).trans (by simp [tcells])
  have HA := all_q h.2
  clear h
  go_enter Try.func11, Try.ntmps11
  go_wp2_with fail
  refine HA.mono ?_; rintro e w1 ⟨v, rfl, ho, hb⟩
  replace ho := Lib.hid ho
  replace hb := Lib.hid hb
  go_wp2
  go_ret
  exact ⟨v, rfl, ho.out, hb.out⟩
/-- A task's count of a kind: none, where there is none. -/
def ofn (cn : Nat → Nat) (a b : Int) : Nat := if 1 ≤ a ∧ a < 12 ∧ 0 ≤ b ∧ b < 16 then cn (a.toNat * 16 + b.toNat) else 0
theorem of_any (h : TS w pt p g c M cn) (a b : Int) :
    Calls Try.prog 14 #[.pointer (some ⟨pt, 0, none⟩), .int .i64 a, .int .i64 b] w fun e w' => e = .returned (.int .i64 (ofn cn a b : Int)) ∧ w' = w := by
  by_cases hn : 1 ≤ a ∧ a < 12 ∧ 0 ≤ b ∧ b < 16
  · obtain ⟨a, rfl⟩ : ∃ n : Nat, a = (n : Int) := ⟨a.toNat, by omega⟩
    obtain ⟨b, rfl⟩ : ∃ n : Nat, b = (n : Int) := ⟨b.toNat, by omega⟩
    have HC := counted_yes a b w (by omega) (by omega) (by omega)
    have e : ofn cn (a : Int) (b : Int) = cn (a * 16 + b) := by unfold ofn; rw [if_pos hn]; simp
    have hcc : w.cell? ⟨pt, 1 + a * 16 + b, none⟩ = some (.int .i64 (cn (a * 16 + b) : Int)) := (blk_cell h.1 _).trans (by rw [Nat.add_assoc]; exact tcells_at p cn _ (by omega))
    have HL := load_any _ _ w hcc
    have i1 : (a : Int) < 12 := by omega
    have i2 : (b : Int) < 16 := by omega
    rw [e]
    clear h e hcc hn
    go_enter Try.func14, Try.ntmps14
    go_wp2_with fail
    refine HC.mono ?_; rintro e w1 ⟨rfl, rfl⟩
    go_wp2_with fail
    refine HL.mono ?_; rintro e w2 ⟨rfl, rfl⟩
    go_wp2
    go_ret
    exact ⟨rfl, rfl⟩
  · have HC := counted_no a b w hn
    have e : ofn cn a b = 0 := by unfold ofn; rw [if_neg hn]
    rw [e]
    clear h e hn
    go_enter Try.func14, Try.ntmps14
    go_wp2_with fail
    refine HC.mono ?_; rintro e w1 ⟨rfl, rfl⟩
    go_wp2
    go_ret
    exact ⟨rfl, rfl⟩
/-- Counts' sums. -/
def sumn (f : Nat → Nat) : Nat → Nat
  | 0 => 0
  | n + 1 => sumn f n + f n
theorem sumn_le {f : Nat → Nat} {B : Nat} (h : ∀ i, f i ≤ B) (n : Nat) : sumn f n ≤ n * B := by
  induction n with
  | zero => simp [sumn]
  | succ n ih => rw [sumn, Nat.succ_mul]; have := h n; omega
def kindn (cn : Nat → Nat) (a : Int) : Nat := sumn (fun b => ofn cn a (b : Int)) 16
def alln (cn : Nat → Nat) : Nat := sumn (fun a => kindn cn (a : Int)) 12
theorem ofn_le {cn : Nat → Nat} {B : Nat} (h : ∀ i, cn i ≤ B) (a b : Int) : ofn cn a b ≤ B := by
  unfold ofn; split
  · exact h _
  · omega
theorem count_any (h : TS w pt p g c M cn) (a : Int) (hB : ∀ i, cn i ≤ 1000000) :
    Calls Try.prog 13 #[.pointer (some ⟨pt, 0, none⟩), .int .i64 a] w fun e w' => e = .returned (.int .i64 (kindn cn a : Int)) ∧ w' = w := by
  have HO := Lib.hid (fun b : Int => of_any h a b)
  clear h
  go_enter Try.func13, Try.ntmps13
  go_wp2
  go_loop [5, 7] (fun n i => ∃ j : Nat, j ≤ 16 ∧ i = .int .i64 (j : Int) ∧ n = .int .i64 (sumn (fun b => ofn cn a (b : Int)) j : Int)) (fun _ i => 16 - (intOf i).toNat)
  case atStart => exact ⟨0, by omega, rfl, rfl⟩
  case round =>
    obtain ⟨j, hj, rfl, rfl⟩ := hrel
    by_cases hlt : j < 16
    · have hlt2 : (j : Int) < 16 := by omega
      have H1 := HO.out (j : Int)
      have hs := sumn_le (f := fun b => ofn cn a (b : Int)) (fun i => ofn_le hB a (i : Int)) j
      have ho := ofn_le hB a (j : Int)
      have hnx : sumn (fun b => ofn cn a (b : Int)) (j + 1) = sumn (fun b => ofn cn a (b : Int)) j + ofn cn a (j : Int) := rfl
      obtain ⟨s, hs2⟩ : ∃ s, s = sumn (fun b => ofn cn a (b : Int)) j := ⟨_, rfl⟩
      obtain ⟨o, ho2⟩ : ∃ o, o = ofn cn a (j : Int) := ⟨_, rfl⟩
      rw [← hs2] at hs hnx ⊢
      rw [← ho2] at H1 ho hnx
      have i1 : (s : Int) ≤ 16000000 := by omega
      have i2 : (o : Int) ≤ 1000000 := by omega
      replace hnx := Lib.hid hnx
      clear hs2 ho2 hs ho
      go_wp2_with fail
      refine H1.mono ?_; rintro e w1 ⟨rfl, rfl⟩
      go_wp2
      go_round
      case rel => exact ⟨j + 1, by omega, by go_num, by rw [hnx.out]; go_num⟩
      case measure => simp [intOf]; omega
    · obtain rfl : j = 16 := by omega
      go_wp2
      go_ret
      exact ⟨rfl, rfl⟩
theorem talln_any (h : TS w pt p g c M cn) (hB : ∀ i, cn i ≤ 1000000) :
    Calls Try.prog 12 #[.pointer (some ⟨pt, 0, none⟩)] w fun e w' => e = .returned (.int .i64 (alln cn : Int)) ∧ w' = w := by
  have HO := Lib.hid (fun a : Int => count_any h a hB)
  clear h
  go_enter Try.func12, Try.ntmps12
  go_wp2
  go_loop [3, 5] (fun n i => ∃ j : Nat, j ≤ 12 ∧ i = .int .i64 (j : Int) ∧ n = .int .i64 (sumn (fun a => kindn cn (a : Int)) j : Int)) (fun _ i => 12 - (intOf i).toNat)
  case atStart => exact ⟨0, by omega, rfl, rfl⟩
  case round =>
    obtain ⟨j, hj, rfl, rfl⟩ := hrel
    by_cases hlt : j < 12
    · have hlt2 : (j : Int) < 12 := by omega
      have H1 := HO.out (j : Int)
      have hk : ∀ i : Nat, kindn cn (i : Int) ≤ 16000000 := fun i => sumn_le (f := fun b => ofn cn (i : Int) (b : Int)) (B := 1000000) (fun b => ofn_le hB (i : Int) (b : Int)) 16
      have hs := sumn_le (f := fun a => kindn cn (a : Int)) hk j
      have ho := hk j
      have hnx : sumn (fun a => kindn cn (a : Int)) (j + 1) = sumn (fun a => kindn cn (a : Int)) j + kindn cn (j : Int) := rfl
      obtain ⟨s, hs2⟩ : ∃ s, s = sumn (fun a => kindn cn (a : Int)) j := ⟨_, rfl⟩
      obtain ⟨o, ho2⟩ : ∃ o, o = kindn cn (j : Int) := ⟨_, rfl⟩
      rw [← hs2] at hs hnx ⊢
      rw [← ho2] at H1 ho hnx
      have i1 : (s : Int) ≤ 192000000 := by omega
      have i2 : (o : Int) ≤ 16000000 := by omega
      replace hnx := Lib.hid hnx
      clear hs2 ho2 hs ho hk
      go_wp2_with fail
      refine H1.mono ?_; rintro e w1 ⟨rfl, rfl⟩
      go_wp2
      go_round
      case rel => exact ⟨j + 1, by omega, by go_num, by rw [hnx.out]; go_num⟩
      case measure => simp [intOf]; omega
    · obtain rfl : j = 12 := by omega
      go_wp2
      go_ret
      exact ⟨rfl, rfl⟩
end
end Go.Proofs.Ytbcpfbmoednghaa.Tr
