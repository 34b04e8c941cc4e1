/- Contracts of the methods of skip.Skipper. -/
import Derived.Test.YtlnbpeaoidjinaaPatLawC
import Derived.Test.YtlnbpeaoidjinaaWin
namespace Go.Proofs.Ytlnbpeaoidjinaa.Skip
open Go.RowKit Go.Proofs.YtlnbpeaoidjinaaW.PrintWords Go.Proofs.YtlnbpeaoidjinaaW.PrintLast Go.Proofs.YtlnbpeaoidjinaaW.PrintMore Go.Proofs.Ytlnbpeaoidjinaa.Ring Go.Proofs.Ytlnbpeaoidjinaa.Args Go.Proofs.Ytlnbpeaoidjinaa.Win Go.Proofs.Ytlnbpeaoidjinaa.Pat
set_option linter.unusedSimpArgs false
set_option linter.unusedVariables false

/-- A skipper at block ps: its pattern, how many jobs and failures, its window. -/
def SS (w : World) (ps pw p g : Nat) (deep : Bool) (m k jobs failed : Nat) (L : List Bool) : Prop :=
  w.heap[ps]? = some (.cells #[.int .i64 (kd deep), .int .i64 (m : Int), .int .i64 (k : Int), .int .i64 (jobs : Int), .int .i64 (failed : Int), .pointer (some ⟨pw, 0, none⟩)] 41 (0, 0)) ∧ WS w pw p g m k L
section
variable {w : World} {ps pw p g m k jobs failed : Nat} {deep : Bool} {L : List Bool}
theorem SS.below (h : SS w ps pw p g deep m k jobs failed L) {W : World} (hb : Below w.heap.size w W) : SS W ps pw p g deep m k jobs failed L := ⟨blk_below h.1 hb, h.2.below hb⟩
theorem SS.drewN (h : SS w ps pw p g deep m k jobs failed L) (n : Nat) : SS (w.drewN n) ps pw p g deep m k jobs failed L := h
theorem SS.far (h : SS w ps pw p g deep m k jobs failed L) : ps ≠ pw ∧ ps ≠ p ∧ ps ≠ g := by
  obtain ⟨h0, h1, ⟨f, cs, hr, _⟩, _⟩ := h
  exact ⟨blk_ne h0 h1 (by decide), blk_ne h0 hr.1 (by decide), blk_ne h0 hr.2 (by decide)⟩
end
theorem new_no (w : World) (kind m k : Int) (h : ¬ ((kind = 1 ∨ kind = 2) ∧ 1 ≤ m ∧ m ≤ k ∧ k ≤ 64)) :
    Calls Try.prog 8 #[.int .i64 kind, .int .i64 m, .int .i64 k] w fun e w' => e = .returned (.tuple #[.pointer none, .int .i64 1]) ∧ w' = w := by
  have HR := right_no w kind m k h
  clear h
  go_enter Try.func8, Try.ntmps8
  go_wp2_with fail
  refine HR.mono ?_; rintro e w1 ⟨rfl, rfl⟩
  go_wp2
  go_ret2
  exact ⟨rfl, rfl⟩
theorem new_yes (w : World) (deep : Bool) (m k : Nat) (h1 : 1 ≤ m) (h2 : m ≤ k) (h3 : k ≤ 64) :
    Calls Try.prog 8 #[.int .i64 (kd deep), .int .i64 (m : Int), .int .i64 (k : Int)] w fun e w' => ∃ ps pw p g, e = .returned (.tuple #[.pointer (some ⟨ps, 0, none⟩), .int .i64 0]) ∧ SS w' ps pw p g deep m k 0 0 (List.replicate k true) ∧ w.heap.size ≤ ps ∧ w.heap.size ≤ p ∧ w.heap.size ≤ g ∧ Below w.heap.size w w' := by
  have HR := right_yes deep w m k h1 h2 h3
  have HN := Win.new_yes w m k h1 h2 h3
  go_enter Try.func8, Try.ntmps8
  go_wp2_with fail
  refine HR.mono ?_; rintro e w1 ⟨rfl, rfl⟩
  go_wp2_with fail
  refine HN.mono ?_; rintro e w2 ⟨pw, p, g, rfl, hw, hpw, hp, hg, hb⟩
  have hw2 := Lib.hid hw
  have hsz := hb.size
  replace hb := Lib.hid hb
  clear hw HR HN
  go_wp2
  refine bodyPost_ret (v := .tuple #[.pointer (some ⟨w2.heap.size, 0, none⟩), .int .i64 0]) (by simp [results, Try.results8, go_sem]) rfl ⟨w2.heap.size, pw, p, g, rfl, ⟨blk_new _ _, ?_⟩, hsz, hp, hg, hb.out.alloc hsz _⟩
  exact hw2.out.below (below_alloc (Below.refl _ _) _)
section
variable {w : World} {ps pw p g m k jobs failed : Nat} {deep : Bool} {L : List Bool}
theorem jobs_any (h : SS w ps pw p g deep m k jobs failed L) : Calls Try.prog 11 #[.pointer (some ⟨ps, 0, none⟩)] w fun e w' => e = .returned (.int .i64 (jobs : Int)) ∧ w' = w := by
  have c3 : w.cell? ⟨ps, 3, none⟩ = some (.int .i64 (jobs : Int)) := blk_cell h.1 3
  clear h
  go_enter Try.func11, Try.ntmps11
  go_wp2
  go_ret
  exact ⟨rfl, rfl⟩
theorem failed_any (h : SS w ps pw p g deep m k jobs failed L) : Calls Try.prog 13 #[.pointer (some ⟨ps, 0, none⟩)] w fun e w' => e = .returned (.int .i64 (failed : Int)) ∧ w' = w := by
  have c4 : w.cell? ⟨ps, 4, none⟩ = some (.int .i64 (failed : Int)) := blk_cell h.1 4
  clear h
  go_enter Try.func13, Try.ntmps13
  go_wp2
  go_ret
  exact ⟨rfl, rfl⟩
theorem sdist_any (h : SS w ps pw p g deep m k jobs failed L) (hm : 1 ≤ m) : Calls Try.prog 12 #[.pointer (some ⟨ps, 0, none⟩)] w fun e w' => e = .returned (.int .i64 (dist m L : Int)) ∧ Below w.heap.size w w' := by
  have c5 : w.cell? ⟨ps, 5, none⟩ = some (.pointer (some ⟨pw, 0, none⟩)) := blk_cell h.1 5
  have HD := distance_any h.2 hm
  clear h
  go_enter Try.func12, Try.ntmps12
  go_wp2_with fail
  refine HD.mono ?_; rintro e w1 ⟨rfl, hb⟩
  replace hb := Lib.hid hb
  go_wp2
  go_ret
  exact ⟨rfl, hb.out⟩
set_option maxRecDepth 100000 in
set_option maxHeartbeats 4000000 in
theorem smust_any (h : SS w ps pw p g deep m k jobs failed L) (hm : 1 ≤ m) (hmk : m ≤ k) (hk : k ≤ 64) (hj : jobs ≤ 4398046511104) :
    Calls Try.prog 14 #[.pointer (some ⟨ps, 0, none⟩)] w fun e w' => e = .returned (.bool (must deep m k jobs || decide (dist m L ≤ 1))) ∧ Below w.heap.size w w' := by
  have c0 : w.cell? ⟨ps, 0, none⟩ = some (.int .i64 (kd deep)) := blk_cell h.1 0
  have c1 : w.cell? ⟨ps, 1, none⟩ = some (.int .i64 (m : Int)) := blk_cell h.1 1
  have c2 : w.cell? ⟨ps, 2, none⟩ = some (.int .i64 (k : Int)) := blk_cell h.1 2
  have c3 : w.cell? ⟨ps, 3, none⟩ = some (.int .i64 (jobs : Int)) := blk_cell h.1 3
  have hlt := blk_lt h.1
  have keep : ∀ W, Below w.heap.size w W → W.cell? ⟨ps, 0, none⟩ = some (.int .i64 (kd deep)) ∧ W.cell? ⟨ps, 1, none⟩ = some (.int .i64 (m : Int)) ∧ W.cell? ⟨ps, 2, none⟩ = some (.int .i64 (k : Int)) ∧ W.cell? ⟨ps, 3, none⟩ = some (.int .i64 (jobs : Int)) := fun W hW =>
    ⟨pw_cell_below hW c0, pw_cell_below hW c1, pw_cell_below hW c2, pw_cell_below hW c3⟩
  have HM : ∀ W, Below w.heap.size w W → Calls Try.prog 20 #[.int .i64 (kd deep), .int .i64 (jobs : Int), .int .i64 (m : Int), .int .i64 (k : Int)] W fun e w' => e = .returned (.bool (must deep m k jobs)) ∧ Below w.heap.size w w' ∧ w'.cell? ⟨ps, 0, none⟩ = some (.int .i64 (kd deep)) ∧ w'.cell? ⟨ps, 1, none⟩ = some (.int .i64 (m : Int)) ∧ w'.cell? ⟨ps, 2, none⟩ = some (.int .i64 (k : Int)) ∧ w'.cell? ⟨ps, 3, none⟩ = some (.int .i64 (jobs : Int)) := fun W hW =>
    (must_any deep W jobs m k hm hmk hk hj).mono fun _ w' ⟨he, hb⟩ => ⟨he, hW.trans (hb.mono hW.size), keep _ (hW.trans (hb.mono hW.size))⟩
  have HD : ∀ W, Below w.heap.size w W → Calls Try.prog 12 #[.pointer (some ⟨ps, 0, none⟩)] W fun e w' => e = .returned (.int .i64 (dist m L : Int)) ∧ Below w.heap.size w w' ∧ w'.cell? ⟨ps, 0, none⟩ = some (.int .i64 (kd deep)) ∧ w'.cell? ⟨ps, 1, none⟩ = some (.int .i64 (m : Int)) ∧ w'.cell? ⟨ps, 2, none⟩ = some (.int .i64 (k : Int)) ∧ w'.cell? ⟨ps, 3, none⟩ = some (.int .i64 (jobs : Int)) := fun W hW =>
    (sdist_any (h.below hW) hm).mono fun _ w' ⟨he, hb⟩ => ⟨he, hW.trans (hb.mono hW.size), keep _ (hW.trans (hb.mono hW.size))⟩
  obtain ⟨d, hd⟩ : ∃ d, d = dist m L := ⟨_, rfl⟩
  obtain ⟨x, hx⟩ : ∃ x, x = must deep m k jobs := ⟨_, rfl⟩
  rw [← hd] at HD ⊢
  rw [← hx] at HM ⊢
  replace HM := Lib.hid HM
  replace HD := Lib.hid HD
  clear keep hx hd h
  cases x with
  | true =>
    go_enter Try.func14, Try.ntmps14
    go_wp2_with fail
    refine start_ (n := 23) (S := fun w' => w'.cell? ⟨ps, 0, none⟩ = some (.int .i64 (kd deep)) ∧ w'.cell? ⟨ps, 1, none⟩ = some (.int .i64 (m : Int)) ∧ w'.cell? ⟨ps, 2, none⟩ = some (.int .i64 (k : Int)) ∧ w'.cell? ⟨ps, 3, none⟩ = some (.int .i64 (jobs : Int))) (ds := []) #[false, false, false, false, false, false, false, false, false, false, false, false, false, false, false, false, false, false, false, false, false, false, false] (by kernel_rfl) rfl rfl ⟨c0, c1, c2, c3⟩ (fun hHeld => ?_)
    refine pure_ (i := 0) (N := (some 3)) (v := ?_) (a' := ?_) #[true, false, false, false, false, false, false, false, false, false, false, false, false, false, false, false, false, false, false, false, false, false, false] rfl rfl (by kernel_rfl) (fun _ _ _ h => h) (Or.inl ⟨by rfl, ?_⟩) ?_ ?_
    rotate_left
    · intro w'
      go_simp
      with_reducible rfl
    rotate_left
    · simp only [Act.put, List.setIfInBounds_toArray, List.set_cons_zero, List.set_cons_succ, i64_w, i32_w]
      rfl
    refine pure_ (i := 1) (N := (some 4)) (v := ?_) (a' := ?_) #[true, true, false, false, false, false, false, false, false, false, false, false, false, false, false, false, false, false, false, false, false, false, false] rfl rfl (by kernel_rfl) (fun _ _ _ h => h) (Or.inl ⟨by rfl, ?_⟩) ?_ ?_
    rotate_left
    · intro w'
      go_simp
      with_reducible rfl
    rotate_left
    · simp only [Act.put, List.setIfInBounds_toArray, List.set_cons_zero, List.set_cons_succ, i64_w, i32_w]
      rfl
    refine pure_ (i := 2) (N := (some 5)) (v := ?_) (a' := ?_) #[true, true, true, false, false, false, false, false, false, false, false, false, false, false, false, false, false, false, false, false, false, false, false] rfl rfl (by kernel_rfl) (fun _ _ _ h => h) (Or.inl ⟨by rfl, ?_⟩) ?_ ?_
    rotate_left
    · intro w'
      go_simp
      with_reducible rfl
    rotate_left
    · simp only [Act.put, List.setIfInBounds_toArray, List.set_cons_zero, List.set_cons_succ, i64_w, i32_w]
      rfl
    refine take_ (i := 3) (N := (some 6)) (v := ?_) (a' := ?_) #[true, true, true, true, false, false, false, false, false, false, false, false, false, false, false, false, false, false, false, false, false, false, false] rfl rfl (by kernel_rfl) (fun _ _ _ h => h) (Or.inl ⟨by rfl, ?_⟩) hHeld ?_ ?_
    rotate_left
    · rintro w' ⟨s0, s1, s2, s3⟩
      go_simp
      with_reducible rfl
    rotate_left
    · simp only [Act.put, List.setIfInBounds_toArray, List.set_cons_zero, List.set_cons_succ, i64_w, i32_w]
      rfl
    refine pure_ (i := 4) (N := (some 7)) (v := ?_) (a' := ?_) #[true, true, true, true, true, false, false, false, false, false, false, false, false, false, false, false, false, false, false, false, false, false, false] rfl rfl (by kernel_rfl) (fun _ _ _ h => h) (Or.inl ⟨by rfl, ?_⟩) ?_ ?_
    rotate_left
    · intro w'
      go_simp
      with_reducible rfl
    rotate_left
    · simp only [Act.put, List.setIfInBounds_toArray, List.set_cons_zero, List.set_cons_succ, i64_w, i32_w]
      rfl
    refine pure_ (i := 5) (N := (some 8)) (v := ?_) (a' := ?_) #[true, true, true, true, true, true, false, false, false, false, false, false, false, false, false, false, false, false, false, false, false, false, false] rfl rfl (by kernel_rfl) (fun _ _ _ h => h) (Or.inl ⟨by rfl, ?_⟩) ?_ ?_
    rotate_left
    · intro w'
      go_simp
      with_reducible rfl
    rotate_left
    · simp only [Act.put, List.setIfInBounds_toArray, List.set_cons_zero, List.set_cons_succ, i64_w, i32_w]
      rfl
    refine pure_ (i := 6) (N := (some 9)) (v := ?_) (a' := ?_) #[true, true, true, true, true, true, true, false, false, false, false, false, false, false, false, false, false, false, false, false, false, false, false] rfl rfl (by kernel_rfl) (fun _ _ _ h => h) (Or.inl ⟨by rfl, ?_⟩) ?_ ?_
    rotate_left
    · intro w'
      go_simp
      with_reducible rfl
    rotate_left
    · simp only [Act.put, List.setIfInBounds_toArray, List.set_cons_zero, List.set_cons_succ, i64_w, i32_w]
      rfl
    refine take_ (i := 7) (N := (some 10)) (v := ?_) (a' := ?_) #[true, true, true, true, true, true, true, true, false, false, false, false, false, false, false, false, false, false, false, false, false, false, false] rfl rfl (by kernel_rfl) (fun _ _ _ h => h) (Or.inl ⟨by rfl, ?_⟩) hHeld ?_ ?_
    rotate_left
    · rintro w' ⟨s0, s1, s2, s3⟩
      go_simp
      with_reducible rfl
    rotate_left
    · simp only [Act.put, List.setIfInBounds_toArray, List.set_cons_zero, List.set_cons_succ, i64_w, i32_w]
      rfl
    refine pure_ (i := 8) (N := (some 11)) (v := ?_) (a' := ?_) #[true, true, true, true, true, true, true, true, true, false, false, false, false, false, false, false, false, false, false, false, false, false, false] rfl rfl (by kernel_rfl) (fun _ _ _ h => h) (Or.inl ⟨by rfl, ?_⟩) ?_ ?_
    rotate_left
    · intro w'
      go_simp
      with_reducible rfl
    rotate_left
    · simp only [Act.put, List.setIfInBounds_toArray, List.set_cons_zero, List.set_cons_succ, i64_w, i32_w]
      rfl
    refine pure_ (i := 9) (N := (some 12)) (v := ?_) (a' := ?_) #[true, true, true, true, true, true, true, true, true, true, false, false, false, false, false, false, false, false, false, false, false, false, false] rfl rfl (by kernel_rfl) (fun _ _ _ h => h) (Or.inl ⟨by rfl, ?_⟩) ?_ ?_
    rotate_left
    · intro w'
      go_simp
      with_reducible rfl
    rotate_left
    · simp only [Act.put, List.setIfInBounds_toArray, List.set_cons_zero, List.set_cons_succ, i64_w, i32_w]
      rfl
    refine pure_ (i := 10) (N := (some 13)) (v := ?_) (a' := ?_) #[true, true, true, true, true, true, true, true, true, true, true, false, false, false, false, false, false, false, false, false, false, false, false] rfl rfl (by kernel_rfl) (fun _ _ _ h => h) (Or.inl ⟨by rfl, ?_⟩) ?_ ?_
    rotate_left
    · intro w'
      go_simp
      with_reducible rfl
    rotate_left
    · simp only [Act.put, List.setIfInBounds_toArray, List.set_cons_zero, List.set_cons_succ, i64_w, i32_w]
      rfl
    refine take_ (i := 11) (N := (some 14)) (v := ?_) (a' := ?_) #[true, true, true, true, true, true, true, true, true, true, true, true, false, false, false, false, false, false, false, false, false, false, false] rfl rfl (by kernel_rfl) (fun _ _ _ h => h) (Or.inl ⟨by rfl, ?_⟩) hHeld ?_ ?_
    rotate_left
    · rintro w' ⟨s0, s1, s2, s3⟩
      go_simp
      with_reducible rfl
    rotate_left
    · simp only [Act.put, List.setIfInBounds_toArray, List.set_cons_zero, List.set_cons_succ, i64_w, i32_w]
      rfl
    refine pure_ (i := 12) (N := (some 15)) (v := ?_) (a' := ?_) #[true, true, true, true, true, true, true, true, true, true, true, true, true, false, false, false, false, false, false, false, false, false, false] rfl rfl (by kernel_rfl) (fun _ _ _ h => h) (Or.inl ⟨by rfl, ?_⟩) ?_ ?_
    rotate_left
    · intro w'
      go_simp
      with_reducible rfl
    rotate_left
    · simp only [Act.put, List.setIfInBounds_toArray, List.set_cons_zero, List.set_cons_succ, i64_w, i32_w]
      rfl
    refine pure_ (i := 13) (N := (some 16)) (v := ?_) (a' := ?_) #[true, true, true, true, true, true, true, true, true, true, true, true, true, true, false, false, false, false, false, false, false, false, false] rfl rfl (by kernel_rfl) (fun _ _ _ h => h) (Or.inl ⟨by rfl, ?_⟩) ?_ ?_
    rotate_left
    · intro w'
      go_simp
      with_reducible rfl
    rotate_left
    · simp only [Act.put, List.setIfInBounds_toArray, List.set_cons_zero, List.set_cons_succ, i64_w, i32_w]
      rfl
    refine pure_ (i := 14) (N := (some 17)) (v := ?_) (a' := ?_) #[true, true, true, true, true, true, true, true, true, true, true, true, true, true, true, false, false, false, false, false, false, false, false] rfl rfl (by kernel_rfl) (fun _ _ _ h => h) (Or.inl ⟨by rfl, ?_⟩) ?_ ?_
    rotate_left
    · intro w'
      go_simp
      with_reducible rfl
    rotate_left
    · simp only [Act.put, List.setIfInBounds_toArray, List.set_cons_zero, List.set_cons_succ, i64_w, i32_w]
      rfl
    refine take_ (i := 15) (N := (some 18)) (v := ?_) (a' := ?_) #[true, true, true, true, true, true, true, true, true, true, true, true, true, true, true, true, false, false, false, false, false, false, false] rfl rfl (by kernel_rfl) (fun _ _ _ h => h) (Or.inl ⟨by rfl, ?_⟩) hHeld ?_ ?_
    rotate_left
    · rintro w' ⟨s0, s1, s2, s3⟩
      go_simp
      with_reducible rfl
    rotate_left
    · simp only [Act.put, List.setIfInBounds_toArray, List.set_cons_zero, List.set_cons_succ, i64_w, i32_w]
      rfl
    refine one_ (i := 16) (N := (some 19)) #[true, true, true, true, true, true, true, true, true, true, true, true, true, true, true, true, true, false, false, false, false, false, false] rfl rfl (by kernel_rfl) (by decide) (fun K hK => ?_)
    refine goes_ Try.func20 (by kernel_rfl) rfl #[.int .i64 (kd deep), .int .i64 (jobs : Int), .int .i64 (m : Int), .int .i64 (k : Int)] (by rfl) rfl rfl (by (try simp only [List.map_toArray, List.map_cons, List.map_nil]); first | done | rfl) ?_
    refine (HM.out _ (Below.refl _ _).drew).mono ?_
    rintro e w1 ⟨rfl, hb1, e0, e1, e2, e3⟩
    replace hb1 := Lib.hid hb1
    refine ⟨_, rfl, ?_⟩
    refine hK.out _ _ ⟨e0, e1, e2, e3⟩ (fun hHeld => ?_)
    clear hK K
    refine norm_ (a' := ?_) ?_ ?_
    rotate_left
    · show Act.put _ (some 19) _ = _
      simp only [Act.put, List.setIfInBounds_toArray, List.set_cons_zero, List.set_cons_succ, i64_w, i32_w]
      rfl
    refine pure_ (i := 17) (N := (some 20)) (v := ?_) (a' := ?_) #[true, true, true, true, true, true, true, true, true, true, true, true, true, true, true, true, true, true, false, false, false, false, false] rfl rfl (by kernel_rfl) (fun _ _ _ h => h) (Or.inl ⟨by rfl, ?_⟩) ?_ ?_
    rotate_left
    · intro w'
      go_simp
      with_reducible rfl
    rotate_left
    · simp only [Act.put, List.setIfInBounds_toArray, List.set_cons_zero, List.set_cons_succ, i64_w, i32_w]
      rfl
    refine pure_ (i := 18) (N := (some 21)) (v := undef) (a' := ?_) #[true, true, true, true, true, true, true, true, true, true, true, true, true, true, true, true, true, true, true, false, false, false, false] rfl rfl (by kernel_rfl) (fun _ _ _ h => h) (Or.inr ⟨by rfl, rfl⟩) ?_ ?_
    rotate_left
    · simp only [Act.put, List.setIfInBounds_toArray, List.set_cons_zero, List.set_cons_succ, i64_w, i32_w]
      rfl
    refine pure_ (i := 19) (N := (some 22)) (v := undef) (a' := ?_) #[true, true, true, true, true, true, true, true, true, true, true, true, true, true, true, true, true, true, true, true, false, false, false] rfl rfl (by kernel_rfl) (fun _ _ _ h => h) (Or.inr ⟨by rfl, rfl⟩) ?_ ?_
    rotate_left
    · simp only [Act.put, List.setIfInBounds_toArray, List.set_cons_zero, List.set_cons_succ, i64_w, i32_w]
      rfl
    refine pure_ (i := 20) (N := (some 23)) (v := undef) (a' := ?_) #[true, true, true, true, true, true, true, true, true, true, true, true, true, true, true, true, true, true, true, true, true, false, false] rfl rfl (by kernel_rfl) (fun _ _ _ h => h) (Or.inr ⟨by rfl, rfl⟩) ?_ ?_
    rotate_left
    · simp only [Act.put, List.setIfInBounds_toArray, List.set_cons_zero, List.set_cons_succ, i64_w, i32_w]
      rfl
    refine pure_ (i := 21) (N := (some 24)) (v := ?_) (a' := ?_) #[true, true, true, true, true, true, true, true, true, true, true, true, true, true, true, true, true, true, true, true, true, true, false] rfl rfl (by kernel_rfl) (fun _ _ _ h => h) (Or.inl ⟨by rfl, ?_⟩) ?_ ?_
    rotate_left
    · intro w'
      go_simp
      with_reducible rfl
    rotate_left
    · simp only [Act.put, List.setIfInBounds_toArray, List.set_cons_zero, List.set_cons_succ, i64_w, i32_w]
      rfl
    refine pure_ (i := 22) (N := (some 2)) (v := ?_) (a' := ?_) #[true, true, true, true, true, true, true, true, true, true, true, true, true, true, true, true, true, true, true, true, true, true, true] rfl rfl (by kernel_rfl) (fun _ _ _ h => h) (Or.inl ⟨by rfl, ?_⟩) ?_ ?_
    rotate_left
    · intro w'
      go_simp
      with_reducible rfl
    rotate_left
    · simp only [Act.put, List.setIfInBounds_toArray, List.set_cons_zero, List.set_cons_succ, i64_w, i32_w]
      rfl
    refine done_ (by kernel_rfl) ?_
    go_wp2
    go_ret
    exact ⟨rfl, hb1.out⟩
  | false =>
    go_enter Try.func14, Try.ntmps14
    go_wp2_with fail
    refine start_ (n := 23) (S := fun w' => w'.cell? ⟨ps, 0, none⟩ = some (.int .i64 (kd deep)) ∧ w'.cell? ⟨ps, 1, none⟩ = some (.int .i64 (m : Int)) ∧ w'.cell? ⟨ps, 2, none⟩ = some (.int .i64 (k : Int)) ∧ w'.cell? ⟨ps, 3, none⟩ = some (.int .i64 (jobs : Int))) (ds := []) #[false, false, false, false, false, false, false, false, false, false, false, false, false, false, false, false, false, false, false, false, false, false, false] (by kernel_rfl) rfl rfl ⟨c0, c1, c2, c3⟩ (fun hHeld => ?_)
    refine pure_ (i := 0) (N := (some 3)) (v := ?_) (a' := ?_) #[true, false, false, false, false, false, false, false, false, false, false, false, false, false, false, false, false, false, false, false, false, false, false] rfl rfl (by kernel_rfl) (fun _ _ _ h => h) (Or.inl ⟨by rfl, ?_⟩) ?_ ?_
    rotate_left
    · intro w'
      go_simp
      with_reducible rfl
    rotate_left
    · simp only [Act.put, List.setIfInBounds_toArray, List.set_cons_zero, List.set_cons_succ, i64_w, i32_w]
      rfl
    refine pure_ (i := 1) (N := (some 4)) (v := ?_) (a' := ?_) #[true, true, false, false, false, false, false, false, false, false, false, false, false, false, false, false, false, false, false, false, false, false, false] rfl rfl (by kernel_rfl) (fun _ _ _ h => h) (Or.inl ⟨by rfl, ?_⟩) ?_ ?_
    rotate_left
    · intro w'
      go_simp
      with_reducible rfl
    rotate_left
    · simp only [Act.put, List.setIfInBounds_toArray, List.set_cons_zero, List.set_cons_succ, i64_w, i32_w]
      rfl
    refine pure_ (i := 2) (N := (some 5)) (v := ?_) (a' := ?_) #[true, true, true, false, false, false, false, false, false, false, false, false, false, false, false, false, false, false, false, false, false, false, false] rfl rfl (by kernel_rfl) (fun _ _ _ h => h) (Or.inl ⟨by rfl, ?_⟩) ?_ ?_
    rotate_left
    · intro w'
      go_simp
      with_reducible rfl
    rotate_left
    · simp only [Act.put, List.setIfInBounds_toArray, List.set_cons_zero, List.set_cons_succ, i64_w, i32_w]
      rfl
    refine take_ (i := 3) (N := (some 6)) (v := ?_) (a' := ?_) #[true, true, true, true, false, false, false, false, false, false, false, false, false, false, false, false, false, false, false, false, false, false, false] rfl rfl (by kernel_rfl) (fun _ _ _ h => h) (Or.inl ⟨by rfl, ?_⟩) hHeld ?_ ?_
    rotate_left
    · rintro w' ⟨s0, s1, s2, s3⟩
      go_simp
      with_reducible rfl
    rotate_left
    · simp only [Act.put, List.setIfInBounds_toArray, List.set_cons_zero, List.set_cons_succ, i64_w, i32_w]
      rfl
    refine pure_ (i := 4) (N := (some 7)) (v := ?_) (a' := ?_) #[true, true, true, true, true, false, false, false, false, false, false, false, false, false, false, false, false, false, false, false, false, false, false] rfl rfl (by kernel_rfl) (fun _ _ _ h => h) (Or.inl ⟨by rfl, ?_⟩) ?_ ?_
    rotate_left
    · intro w'
      go_simp
      with_reducible rfl
    rotate_left
    · simp only [Act.put, List.setIfInBounds_toArray, List.set_cons_zero, List.set_cons_succ, i64_w, i32_w]
      rfl
    refine pure_ (i := 5) (N := (some 8)) (v := ?_) (a' := ?_) #[true, true, true, true, true, true, false, false, false, false, false, false, false, false, false, false, false, false, false, false, false, false, false] rfl rfl (by kernel_rfl) (fun _ _ _ h => h) (Or.inl ⟨by rfl, ?_⟩) ?_ ?_
    rotate_left
    · intro w'
      go_simp
      with_reducible rfl
    rotate_left
    · simp only [Act.put, List.setIfInBounds_toArray, List.set_cons_zero, List.set_cons_succ, i64_w, i32_w]
      rfl
    refine pure_ (i := 6) (N := (some 9)) (v := ?_) (a' := ?_) #[true, true, true, true, true, true, true, false, false, false, false, false, false, false, false, false, false, false, false, false, false, false, false] rfl rfl (by kernel_rfl) (fun _ _ _ h => h) (Or.inl ⟨by rfl, ?_⟩) ?_ ?_
    rotate_left
    · intro w'
      go_simp
      with_reducible rfl
    rotate_left
    · simp only [Act.put, List.setIfInBounds_toArray, List.set_cons_zero, List.set_cons_succ, i64_w, i32_w]
      rfl
    refine take_ (i := 7) (N := (some 10)) (v := ?_) (a' := ?_) #[true, true, true, true, true, true, true, true, false, false, false, false, false, false, false, false, false, false, false, false, false, false, false] rfl rfl (by kernel_rfl) (fun _ _ _ h => h) (Or.inl ⟨by rfl, ?_⟩) hHeld ?_ ?_
    rotate_left
    · rintro w' ⟨s0, s1, s2, s3⟩
      go_simp
      with_reducible rfl
    rotate_left
    · simp only [Act.put, List.setIfInBounds_toArray, List.set_cons_zero, List.set_cons_succ, i64_w, i32_w]
      rfl
    refine pure_ (i := 8) (N := (some 11)) (v := ?_) (a' := ?_) #[true, true, true, true, true, true, true, true, true, false, false, false, false, false, false, false, false, false, false, false, false, false, false] rfl rfl (by kernel_rfl) (fun _ _ _ h => h) (Or.inl ⟨by rfl, ?_⟩) ?_ ?_
    rotate_left
    · intro w'
      go_simp
      with_reducible rfl
    rotate_left
    · simp only [Act.put, List.setIfInBounds_toArray, List.set_cons_zero, List.set_cons_succ, i64_w, i32_w]
      rfl
    refine pure_ (i := 9) (N := (some 12)) (v := ?_) (a' := ?_) #[true, true, true, true, true, true, true, true, true, true, false, false, false, false, false, false, false, false, false, false, false, false, false] rfl rfl (by kernel_rfl) (fun _ _ _ h => h) (Or.inl ⟨by rfl, ?_⟩) ?_ ?_
    rotate_left
    · intro w'
      go_simp
      with_reducible rfl
    rotate_left
    · simp only [Act.put, List.setIfInBounds_toArray, List.set_cons_zero, List.set_cons_succ, i64_w, i32_w]
      rfl
    refine pure_ (i := 10) (N := (some 13)) (v := ?_) (a' := ?_) #[true, true, true, true, true, true, true, true, true, true, true, false, false, false, false, false, false, false, false, false, false, false, false] rfl rfl (by kernel_rfl) (fun _ _ _ h => h) (Or.inl ⟨by rfl, ?_⟩) ?_ ?_
    rotate_left
    · intro w'
      go_simp
      with_reducible rfl
    rotate_left
    · simp only [Act.put, List.setIfInBounds_toArray, List.set_cons_zero, List.set_cons_succ, i64_w, i32_w]
      rfl
    refine take_ (i := 11) (N := (some 14)) (v := ?_) (a' := ?_) #[true, true, true, true, true, true, true, true, true, true, true, true, false, false, false, false, false, false, false, false, false, false, false] rfl rfl (by kernel_rfl) (fun _ _ _ h => h) (Or.inl ⟨by rfl, ?_⟩) hHeld ?_ ?_
    rotate_left
    · rintro w' ⟨s0, s1, s2, s3⟩
      go_simp
      with_reducible rfl
    rotate_left
    · simp only [Act.put, List.setIfInBounds_toArray, List.set_cons_zero, List.set_cons_succ, i64_w, i32_w]
      rfl
    refine pure_ (i := 12) (N := (some 15)) (v := ?_) (a' := ?_) #[true, true, true, true, true, true, true, true, true, true, true, true, true, false, false, false, false, false, false, false, false, false, false] rfl rfl (by kernel_rfl) (fun _ _ _ h => h) (Or.inl ⟨by rfl, ?_⟩) ?_ ?_
    rotate_left
    · intro w'
      go_simp
      with_reducible rfl
    rotate_left
    · simp only [Act.put, List.setIfInBounds_toArray, List.set_cons_zero, List.set_cons_succ, i64_w, i32_w]
      rfl
    refine pure_ (i := 13) (N := (some 16)) (v := ?_) (a' := ?_) #[true, true, true, true, true, true, true, true, true, true, true, true, true, true, false, false, false, false, false, false, false, false, false] rfl rfl (by kernel_rfl) (fun _ _ _ h => h) (Or.inl ⟨by rfl, ?_⟩) ?_ ?_
    rotate_left
    · intro w'
      go_simp
      with_reducible rfl
    rotate_left
    · simp only [Act.put, List.setIfInBounds_toArray, List.set_cons_zero, List.set_cons_succ, i64_w, i32_w]
      rfl
    refine pure_ (i := 14) (N := (some 17)) (v := ?_) (a' := ?_) #[true, true, true, true, true, true, true, true, true, true, true, true, true, true, true, false, false, false, false, false, false, false, false] rfl rfl (by kernel_rfl) (fun _ _ _ h => h) (Or.inl ⟨by rfl, ?_⟩) ?_ ?_
    rotate_left
    · intro w'
      go_simp
      with_reducible rfl
    rotate_left
    · simp only [Act.put, List.setIfInBounds_toArray, List.set_cons_zero, List.set_cons_succ, i64_w, i32_w]
      rfl
    refine take_ (i := 15) (N := (some 18)) (v := ?_) (a' := ?_) #[true, true, true, true, true, true, true, true, true, true, true, true, true, true, true, true, false, false, false, false, false, false, false] rfl rfl (by kernel_rfl) (fun _ _ _ h => h) (Or.inl ⟨by rfl, ?_⟩) hHeld ?_ ?_
    rotate_left
    · rintro w' ⟨s0, s1, s2, s3⟩
      go_simp
      with_reducible rfl
    rotate_left
    · simp only [Act.put, List.setIfInBounds_toArray, List.set_cons_zero, List.set_cons_succ, i64_w, i32_w]
      rfl
    refine one_ (i := 16) (N := (some 19)) #[true, true, true, true, true, true, true, true, true, true, true, true, true, true, true, true, true, false, false, false, false, false, false] rfl rfl (by kernel_rfl) (by decide) (fun K hK => ?_)
    refine goes_ Try.func20 (by kernel_rfl) rfl #[.int .i64 (kd deep), .int .i64 (jobs : Int), .int .i64 (m : Int), .int .i64 (k : Int)] (by rfl) rfl rfl (by (try simp only [List.map_toArray, List.map_cons, List.map_nil]); first | done | rfl) ?_
    refine (HM.out _ (Below.refl _ _).drew).mono ?_
    rintro e w1 ⟨rfl, hb1, e0, e1, e2, e3⟩
    replace hb1 := Lib.hid hb1
    refine ⟨_, rfl, ?_⟩
    refine hK.out _ _ ⟨e0, e1, e2, e3⟩ (fun hHeld => ?_)
    clear hK K
    refine norm_ (a' := ?_) ?_ ?_
    rotate_left
    · show Act.put _ (some 19) _ = _
      simp only [Act.put, List.setIfInBounds_toArray, List.set_cons_zero, List.set_cons_succ, i64_w, i32_w]
      rfl
    refine pure_ (i := 17) (N := (some 20)) (v := ?_) (a' := ?_) #[true, true, true, true, true, true, true, true, true, true, true, true, true, true, true, true, true, true, false, false, false, false, false] rfl rfl (by kernel_rfl) (fun _ _ _ h => h) (Or.inl ⟨by rfl, ?_⟩) ?_ ?_
    rotate_left
    · intro w'
      go_simp
      with_reducible rfl
    rotate_left
    · simp only [Act.put, List.setIfInBounds_toArray, List.set_cons_zero, List.set_cons_succ, i64_w, i32_w]
      rfl
    refine pure_ (i := 18) (N := (some 21)) (v := ?_) (a' := ?_) #[true, true, true, true, true, true, true, true, true, true, true, true, true, true, true, true, true, true, true, false, false, false, false] rfl rfl (by kernel_rfl) (fun _ _ _ h => h) (Or.inl ⟨by rfl, ?_⟩) ?_ ?_
    rotate_left
    · intro w'
      go_simp
      with_reducible rfl
    rotate_left
    · simp only [Act.put, List.setIfInBounds_toArray, List.set_cons_zero, List.set_cons_succ, i64_w, i32_w]
      rfl
    refine one_ (i := 19) (N := (some 22)) #[true, true, true, true, true, true, true, true, true, true, true, true, true, true, true, true, true, true, true, true, false, false, false] rfl rfl (by kernel_rfl) (by decide) (fun K hK => ?_)
    refine goes_ Try.func12 (by kernel_rfl) rfl #[.pointer (some ⟨ps, 0, none⟩)] (by rfl) rfl rfl (by (try simp only [List.map_toArray, List.map_cons, List.map_nil]); first | done | rfl) ?_
    refine (HD.out _ hb1.out).mono ?_
    rintro e w2 ⟨rfl, hb2, e0, e1, e2, e3⟩
    replace hb2 := Lib.hid hb2
    refine ⟨_, rfl, ?_⟩
    refine hK.out _ _ ⟨e0, e1, e2, e3⟩ (fun hHeld => ?_)
    clear hK K
    refine norm_ (a' := ?_) ?_ ?_
    rotate_left
    · show Act.put _ (some 22) _ = _
      simp only [Act.put, List.setIfInBounds_toArray, List.set_cons_zero, List.set_cons_succ, i64_w, i32_w]
      rfl
    refine pure_ (i := 20) (N := (some 23)) (v := ?_) (a' := ?_) #[true, true, true, true, true, true, true, true, true, true, true, true, true, true, true, true, true, true, true, true, true, false, false] rfl rfl (by kernel_rfl) (fun _ _ _ h => h) (Or.inl ⟨by rfl, ?_⟩) ?_ ?_
    rotate_left
    · intro w'
      go_simp
      with_reducible rfl
    rotate_left
    · simp only [Act.put, List.setIfInBounds_toArray, List.set_cons_zero, List.set_cons_succ, i64_w, i32_w]
      rfl
    refine pure_ (i := 21) (N := (some 24)) (v := ?_) (a' := ?_) #[true, true, true, true, true, true, true, true, true, true, true, true, true, true, true, true, true, true, true, true, true, true, false] rfl rfl (by kernel_rfl) (fun _ _ _ h => h) (Or.inl ⟨by rfl, ?_⟩) ?_ ?_
    rotate_left
    · intro w'
      go_simp
      with_reducible rfl
    rotate_left
    · simp only [Act.put, List.setIfInBounds_toArray, List.set_cons_zero, List.set_cons_succ, i64_w, i32_w]
      rfl
    refine pure_ (i := 22) (N := (some 2)) (v := ?_) (a' := ?_) #[true, true, true, true, true, true, true, true, true, true, true, true, true, true, true, true, true, true, true, true, true, true, true] rfl rfl (by kernel_rfl) (fun _ _ _ h => h) (Or.inl ⟨by rfl, ?_⟩) ?_ ?_
    rotate_left
    · intro w'
      go_simp
      with_reducible rfl
    rotate_left
    · simp only [Act.put, List.setIfInBounds_toArray, List.set_cons_zero, List.set_cons_succ, i64_w, i32_w]
      rfl
    refine done_ (by kernel_rfl) ?_
    go_wp2
    go_ret
    exact ⟨by simp; omega, hb2.out⟩
theorem SS.le (h : SS w ps pw p g deep m k jobs failed L) {W : World} {B : Nat} (hb : Below B w W) (h0 : ps < B) (h1 : pw < B) (h2 : p < B) (h3 : g < B) : SS W ps pw p g deep m k jobs failed L :=
  ⟨(hb.block ps h0).trans h.1, h.2.le hb h1 h2 h3⟩
theorem SS.lt (h : SS w ps pw p g deep m k jobs failed L) : ps < w.heap.size ∧ pw < w.heap.size ∧ p < w.heap.size ∧ g < w.heap.size := ⟨blk_lt h.1, h.2.lt⟩
/-- What a job that is pushed leaves. -/
theorem spush_any (h : SS w ps pw p g deep m k jobs failed L) (x : Bool) (hj : jobs ≤ 4398046511104) (hf : failed ≤ 4398046511104) :
    Calls Try.prog 16 #[.pointer (some ⟨ps, 0, none⟩), .bool x] w fun e w' => e = .returned (.tuple #[]) ∧ SS w' ps pw p g deep m k (jobs + 1) (failed + if cnt (L.tail ++ [x]) < m then 1 else 0) (L.tail ++ [x]) ∧ (∀ B, B ≤ ps → B ≤ p → B ≤ g → Below B w w') ∧ Kept w w' (fun b => b = ps ∨ b = p ∨ b = g) := by
  have c3 : w.cell? ⟨ps, 3, none⟩ = some (.int .i64 (jobs : Int)) := blk_cell h.1 3
  have f3 := blk_frozen h.1 3
  have c5w : w.cell? ⟨ps, 5, none⟩ = some (.pointer (some ⟨pw, 0, none⟩)) := blk_cell h.1 5
  have hfar := h.far
  have hlt := blk_lt h.1
  have hji : (jobs : Int) ≤ 4398046511104 := by omega
  have hfi : (failed : Int) ≤ 4398046511104 := by omega
  obtain ⟨w1, hw1⟩ : ∃ W, W = w.setCell ⟨ps, 3, none⟩ (.int .i64 ((jobs : Int) + 1)) := ⟨_, rfl⟩
  have hs1 : SS w1 ps pw p g deep m k (jobs + 1) failed L := by
    rw [hw1]
    exact ⟨blk_put h.1 3 _ (by simp), ⟨blk_far h.2.1 (Ne.symm hfar.1) _, h.2.2.1.same (Below.heap_setCell _ _ _ _ (Ne.symm hfar.2.1)) (Below.heap_setCell _ _ _ _ (Ne.symm hfar.2.2)), h.2.2.2⟩⟩
  have hb1 : ∀ B, B ≤ ps → Below B w w1 := fun B hB => by rw [hw1]; exact (Below.refl _ _).setCell hB _
  have hk1 : Hid (Kept w w1 (fun b => b = ps ∨ b = p ∨ b = g)) := Lib.hid (by rw [hw1]; exact (Kept.refl w (fun b => b = ps ∨ b = p ∨ b = g)).setCell (p := ⟨ps, 3, none⟩) (.inl (.inl rfl)) _)
  have c5 : w1.cell? ⟨ps, 5, none⟩ = some (.pointer (some ⟨pw, 0, none⟩)) := blk_cell hs1.1 5
  have HP := push_any hs1.2 x
  have hS1 := Lib.hid hs1
  replace hb1 := Lib.hid hb1
  have hW1 := Lib.hid hw1
  obtain ⟨nf, hnf⟩ : ∃ nf, nf = failed + if cnt (L.tail ++ [x]) < m then 1 else 0 := ⟨_, rfl⟩
  rw [← hnf]
  replace hnf := Lib.hid hnf
  clear h hs1 hw1
  go_enter Try.func16, Try.ntmps16
  go_wp2_with fail
  rw [← hW1.out]
  refine HP.mono ?_; rintro e w2 ⟨rfl, hl⟩
  have hs2 : SS w2 ps pw p g deep m k (jobs + 1) failed (L.tail ++ [x]) := ⟨(hl.2.1.2 ps (blk_lt hS1.out.1) (fun h => h.elim hfar.2.1 hfar.2.2)).trans hS1.out.1, hl.1⟩
  have d5 : w2.cell? ⟨ps, 5, none⟩ = some (.pointer (some ⟨pw, 0, none⟩)) := blk_cell hs2.1 5
  have HF := fails_any hs2.2
  have hS2 := Lib.hid hs2
  replace hl := Lib.hid hl
  clear hs2 HP c3 f3
  go_wp2_with fail
  refine HF.mono ?_; rintro e w3 ⟨rfl, hb3⟩
  have hs3 := hS2.out.below hb3
  have d4 : w3.cell? ⟨ps, 4, none⟩ = some (.int .i64 (failed : Int)) := blk_cell hs3.1 4
  have e4 := blk_frozen hs3.1 4
  have hS3 := Lib.hid hs3
  have hsz2 := hl.out.2.1.1
  have hB3 : Hid (∀ B, B ≤ ps → B ≤ p → B ≤ g → Below B w w3) := Lib.hid (fun B h1 h2 h3 => ((hb1.out B h1).trans (hl.out.2.2 B h2 h3)).trans (hb3.mono (by have := blk_lt hS2.out.1; omega)))
  have hK3 : Hid (Kept w w3 (fun b => b = ps ∨ b = p ∨ b = g)) := Lib.hid ((hk1.out.then_ hl.out.2.1 (fun _ h => .inl (.inr h))).below hb3)
  clear hs3 hb3 HF d5
  by_cases hc : cnt (L.tail ++ [x]) < m
  · have e := hnf.out
    rw [if_pos hc] at e
    replace e := Lib.hid e
    have hc2 : decide (cnt (L.tail ++ [x]) < m) = true := by simpa using hc
    rw [hc2]
    go_wp2
    go_end0
    rw [e.out]
    refine ⟨rfl, ⟨blk_put hS3.out.1 4 _ (by simp), ⟨blk_far hS3.out.2.1 (Ne.symm hfar.1) _, hS3.out.2.2.1.same (Below.heap_setCell _ _ _ _ (Ne.symm hfar.2.1)) (Below.heap_setCell _ _ _ _ (Ne.symm hfar.2.2)), hS3.out.2.2.2⟩⟩, fun B h1 h2 h3 => (hB3.out B h1 h2 h3).setCell h1 _, hK3.out.setCell (p := ⟨ps, 4, none⟩) (.inl (.inl rfl)) _⟩
  · have e := hnf.out
    rw [if_neg hc, Nat.add_zero] at e
    replace e := Lib.hid e
    have hc2 : decide (cnt (L.tail ++ [x]) < m) = false := by simpa using hc
    rw [hc2]
    go_wp2
    go_end0
    rw [e.out]
    exact ⟨rfl, hS3.out, hB3.out, hK3.out⟩
end
/-- How many of the last k were met, ahead of which all were. -/
theorem last_at {k j : Nat} (hj : j < k) (l : List Bool) : (lastk k l)[k - (j + 1)]? = some (if l.length < j + 1 then true else l.getD (l.length - (j + 1)) false) := by
  unfold lastk
  rw [List.getElem?_drop]
  split
  · rw [List.getElem?_append_left (by rw [List.length_replicate]; omega), List.getElem?_replicate, if_pos (by omega)]
  · rw [List.getElem?_append_right (by rw [List.length_replicate]; omega), List.length_replicate, show l.length + (k - (j + 1)) - k = l.length - (j + 1) by omega, List.getD_eq_getElem?_getD]
    rw [List.getElem?_eq_getElem (by omega)]; rfl
theorem cnt_last_succ {k j : Nat} (hj : j < k) (l : List Bool) : cnt ((lastk k l).drop (k - (j + 1))) = cnt ((lastk k l).drop (k - j)) + (if (if l.length < j + 1 then true else l.getD (l.length - (j + 1)) false) = true then 1 else 0) := by
  have h := last_at hj l
  obtain ⟨h1, h2⟩ := List.getElem?_eq_some_iff.1 h
  rw [List.drop_eq_getElem_cons h1, cnt_cons, h2, show k - (j + 1) + 1 = k - j by omega]
set_option maxHeartbeats 1600000 in
theorem lawmet_any (w : World) (A : Option Addr) (l : List Bool) (cap k : Nat) (hr : ReadsOf Value.bool false w A l.length l) (hk : k ≤ 64) (hl : l.length ≤ 100000) :
    Calls Try.prog 10 #[.slice A l.length cap, .int .i64 (k : Int)] w fun e w' => e = .returned (.int .i64 (cnt (lastk k l) : Int)) ∧ w' = w := by
  have hmx := hr.2.1
  have hli : (l.length : Int) ≤ 100000 := by omega
  have hki : (k : Int) ≤ 64 := by omega
  have H := Lib.hid hr
  clear hr
  go_enter Try.func10, Try.ntmps10
  go_wp2
  go_loop [5, 6] (fun n i => ∃ j : Nat, j ≤ k ∧ i = .int .i64 ((j : Int) + 1) ∧ n = .int .i64 (cnt ((lastk k l).drop (k - j)) : Int)) (fun _ i => k + 1 - (intOf i).toNat)
  case atStart => exact ⟨0, Nat.zero_le _, rfl, by rw [List.drop_eq_nil_of_le (by rw [lastk_len]; omega)]; rfl⟩
  case round =>
    obtain ⟨j, hj, rfl, rfl⟩ := hrel
    by_cases hlt : j < k
    · have hs := Lib.hid (cnt_last_succ hlt l)
      have hcb : cnt ((lastk k l).drop (k - j)) ≤ 64 := by have := cnt_le ((lastk k l).drop (k - j)); rw [List.length_drop, lastk_len] at this; omega
      obtain ⟨c, hc⟩ : ∃ c, c = cnt ((lastk k l).drop (k - j)) := ⟨_, rfl⟩
      rw [← hc] at hs hcb ⊢
      have hlt2 : (j : Int) + 1 ≤ (k : Int) := by omega
      clear hc
      by_cases hlj : l.length < j + 1
      · have i1 : (l.length : Int) - ((j : Int) + 1) < 0 := by omega
        have i2 : (l.length : Int) < (j : Int) + 1 := by omega
        have hs2 := hs.out
        rw [if_pos hlj, if_pos rfl] at hs2
        replace hs2 := Lib.hid hs2
        go_wp2
        go_round
        case rel => exact ⟨j + 1, by omega, by go_num, by rw [hs2.out]; go_num⟩
        case measure => simp [intOf]; omega
      · have i1 : ¬ (l.length : Int) - ((j : Int) + 1) < 0 := by omega
        have i2 : ¬ (l.length : Int) < (j : Int) + 1 := by omega
        obtain ⟨ad, rfl, hcell⟩ := H.out.2.2 (by omega)
        have c1 := hcell (l.length - (j + 1)) (by omega)
        have hs2 := hs.out
        rw [if_neg hlj] at hs2
        obtain ⟨q, hq⟩ : ∃ q, q = l.length - (j + 1) := ⟨_, rfl⟩
        rw [← hq] at c1 hs2
        obtain ⟨x, hx⟩ : ∃ x, x = l.getD q false := ⟨_, rfl⟩
        rw [← hx] at c1 hs2
        have hqi : (l.length : Int) - ((j : Int) + 1) = (q : Int) := by omega
        have hq0 : q < l.length := by omega
        clear hx hcell hs
        cases x with
        | true =>
          rw [if_pos rfl] at hs2
          replace hs2 := Lib.hid hs2
          clear hq
          go_wp2
          go_round
          case rel => exact ⟨j + 1, by omega, by go_num, by rw [hs2.out]; go_num⟩
          case measure => simp [intOf]; omega
        | false =>
          rw [if_neg (by simp)] at hs2
          replace hs2 := Lib.hid hs2
          clear hq
          go_wp2
          go_round
          case rel => exact ⟨j + 1, by omega, by go_num, by rw [hs2.out]; rfl⟩
          case measure => simp [intOf]; omega
    · obtain rfl : j = k := by omega
      have hlt2 : ¬ (j : Int) + 1 ≤ (j : Int) := by omega
      rw [Nat.sub_self, List.drop_zero]
      go_wp2
      go_ret
      exact ⟨rfl, rfl⟩
theorem own_later {W W' : World} {base n size : Nat} {e : TypeId} {v : Value} {xs : List Value} (h : W.ownsRow base e size v n xs) (hb : Below W.heap.size W W') : W'.ownsRow base e size v n xs := by
  refine ⟨h.1, ?_⟩
  rcases h.2 with h | ⟨g, cap, cur, h1, h2, h3, h4⟩
  · exact .inl h
  · exact .inr ⟨g, cap, cur, h1, h2, blk_below h3 hb, h4⟩
theorem own_kept {W W' : World} {base n size : Nat} {e : TypeId} {v : Value} {xs : List Value} {S : Nat → Prop} (h : W.ownsRow base e size v n xs) (hk : Kept W W' S) (hS : ∀ b, S b → b < base) : W'.ownsRow base e size v n xs := by
  refine ⟨h.1, ?_⟩
  rcases h.2 with h | ⟨g, cap, cur, h1, h2, h3, h4⟩
  · exact .inl h
  · exact .inr ⟨g, cap, cur, h1, h2, (hk.2 g (blk_lt h3) (fun hs => by have := hS g hs; omega)).trans h3, h4⟩
theorem own_none (W : World) (base : Nat) (e : TypeId) (hb : base ≤ W.heap.size) : (W.alloc (.cells #[] e)).ownsRow base e 1 (.slice (some ⟨W.heap.size, 0, none⟩) 0 0) ([] : List Bool).length (encs Value.bool []) :=
  ⟨rfl, .inr ⟨_, 0, #[], rfl, hb, blk_new _ _, Nat.le_refl _, Nat.zero_le _, rfl, rfl⟩⟩
theorem reads_arg {w : World} {A : Option Addr} {l : List Bool} (h : Arg Value.bool w A l) (hm : l.length ≤ 9223372036854775807) : ReadsOf Value.bool false w A l.length l :=
  ⟨rfl, hm, fun hp => by
    obtain ⟨b, off, rfl, _, hc⟩ := h hp
    refine ⟨_, rfl, fun j hj => ?_⟩
    rw [Go.WideShapes.add_plain]
    exact hc j _ (by rw [List.getElem?_eq_getElem hj, List.getD_eq_getElem?_getD, List.getElem?_eq_getElem hj]; rfl)⟩
theorem awake_any (w : World) : Calls Try.prog 7 #[] w fun e w' => e = .returned (.bool true) ∧ Below w.heap.size w w' := by
  go_enter Try.func7, Try.ntmps7
  go_wp2_with fail
  refine (new_yes w false 1 2 (by omega) (by omega) (by omega)).mono ?_; rintro e w1 ⟨ps, pw, p, g, rfl, hs, hps, hp, hg, hb⟩
  have hs1 := Lib.hid hs
  have hb1 := Lib.hid hb
  clear hs hb
  go_wp2_with fail
  refine (new_no w1 1 3 2 (by omega)).mono ?_; rintro e w2 ⟨rfl, rfl⟩
  have X := smust_any hs1.out (by omega) (by omega) (by omega) (by omega)
  rw [show (must false 1 2 0 || decide (dist 1 (List.replicate 2 true) ≤ 1)) = true by decide] at X
  go_wp2_with fail
  refine X.mono ?_; rintro e w3 ⟨rfl, hb3⟩
  have hs3 := Lib.hid (hs1.out.below hb3)
  have hB3 := Lib.hid (hb1.out.trans (hb3.mono hb1.out.size))
  clear X hb3
  have X := spush_any hs3.out true (by omega) (by omega)
  go_wp2_with fail
  refine X.mono ?_; rintro e w4 ⟨rfl, hs, hb, _⟩
  have hs4 : Hid (SS w4 ps pw p g false 1 2 1 0 [true, true]) := Lib.hid hs
  have hB4 := Lib.hid (hB3.out.trans (hb _ hps hp hg))
  clear X hs hb
  have X := smust_any hs4.out (by omega) (by omega) (by omega) (by omega)
  rw [show (must false 1 2 1 || decide (dist 1 [true, true] ≤ 1)) = false by decide] at X
  go_wp2_with fail
  refine X.mono ?_; rintro e w5 ⟨rfl, hb3⟩
  have hs5 := Lib.hid (hs4.out.below hb3)
  have hB5 := Lib.hid (hB4.out.trans (hb3.mono hB4.out.size))
  clear X hb3
  have X := spush_any hs5.out false (by omega) (by omega)
  go_wp2_with fail
  refine X.mono ?_; rintro e w6 ⟨rfl, hs, hb, _⟩
  have hs6 : Hid (SS w6 ps pw p g false 1 2 2 0 [true, false]) := Lib.hid hs
  have hB6 := Lib.hid (hB5.out.trans (hb _ hps hp hg))
  clear X hs hb
  have X := smust_any hs6.out (by omega) (by omega) (by omega) (by omega)
  rw [show (must false 1 2 2 || decide (dist 1 [true, false] ≤ 1)) = true by decide] at X
  go_wp2_with fail
  refine X.mono ?_; rintro e w7 ⟨rfl, hb3⟩
  have hs7 := Lib.hid (hs6.out.below hb3)
  have hB7 := Lib.hid (hB6.out.trans (hb3.mono hB6.out.size))
  clear X hb3
  have X := spush_any hs7.out false (by omega) (by omega)
  go_wp2_with fail
  refine X.mono ?_; rintro e w8 ⟨rfl, hs, hb, _⟩
  have hs8 : Hid (SS w8 ps pw p g false 1 2 3 1 [false, false]) := Lib.hid hs
  have hB8 := Lib.hid (hB7.out.trans (hb _ hps hp hg))
  clear X hs hb
  go_wp2_with fail
  refine (jobs_any hs8.out).mono ?_; rintro e w9 ⟨rfl, rfl⟩
  go_wp2_with fail
  refine (failed_any hs8.out).mono ?_; rintro e w10 ⟨rfl, rfl⟩
  have X := sdist_any hs8.out (by omega)
  rw [show ((dist 1 [false, false] : Nat) : Int) = 0 by decide] at X
  go_wp2_with fail
  refine X.mono ?_; rintro e w11 ⟨rfl, hb3⟩
  have hs9 := Lib.hid (hs8.out.below hb3)
  have hB9 := Lib.hid (hB8.out.trans (hb3.mono hB8.out.size))
  clear X hb3
  have X := smust_any hs9.out (by omega) (by omega) (by omega) (by omega)
  rw [show (must false 1 2 3 || decide (dist 1 [false, false] ≤ 1)) = true by decide] at X
  go_wp2_with fail
  refine X.mono ?_; rintro e w12 ⟨rfl, hb3⟩
  have hB10 := Lib.hid (hB9.out.trans (hb3.mono hB9.out.size))
  clear X hb3
  go_wp2
  go_ret
  exact ⟨rfl, hB10.out⟩
theorem awake_twice (w : World) : ∀ W : World, Below w.heap.size w W → Calls Try.prog 7 #[] W fun e w' => e = .returned (.bool true) ∧ Below w.heap.size w w' :=
  fun W hW => (awake_any W).mono fun _ _ ⟨he, hb⟩ => ⟨he, hW.trans (hb.mono hW.size)⟩
end Go.Proofs.Ytlnbpeaoidjinaa.Skip
