/- The contract of the closure that makes a pattern's row. -/
import Derived.Test.YtlnbpeaoidjinaaPat
namespace Go.Proofs.Ytlnbpeaoidjinaa.Pat
open Go.RowKit Go.Proofs.YtlnbpeaoidjinaaW.PrintWords Go.Proofs.YtlnbpeaoidjinaaW.PrintLast Go.Proofs.YtlnbpeaoidjinaaW.PrintMore Go.Proofs.Ytlnbpeaoidjinaa.Ring Go.Proofs.Ytlnbpeaoidjinaa.Args
set_option linter.unusedSimpArgs false
set_option linter.unusedVariables false
theorem info4 : (Try.prog.info? 4).map (fun i => (i.zero, i.size, i.bytes)) = some (some (.bool false), 1, 1) := by kernel_rfl
theorem count_any (deep : Bool) (w : World) (n m k : Nat) (hn : n ≤ 4398046511104) (h1 : 1 ≤ m) (h2 : m ≤ k) (h3 : k ≤ 64) :
    Calls Try.prog 35 #[.int .i64 (kd deep), .int .i64 (n : Int), .int .i64 (m : Int), .int .i64 (k : Int)] w fun e w' => e = .returned (.int .i64 (C deep m k n : Int)) ∧ ∃ nd, w' = w.drewN nd := by
  cases deep with
  | true => exact count_deep w n m k hn h1 h2 h3
  | false => exact (count_even w n m k hn h1 h2 h3).mono fun _ _ ⟨he, hw⟩ => ⟨he, 0, hw⟩
theorem pw_cell_below2 {w W : World} {B b o : Nat} (h : Below B w W) (hb : b < B) : W.cell? ⟨b, o, none⟩ = w.cell? ⟨b, o, none⟩ := h.cell (p := ⟨b, o, none⟩) hb
theorem own_is_slice {w : World} {base size n : Nat} {e : TypeId} {v : Value} {xs : List Value} (h : w.ownsRow base e size v n xs) : ∃ A c, v = .slice A n c := by
  rcases h.2 with ⟨rfl, rfl⟩ | ⟨g, cap, cur, rfl, _⟩
  · exact ⟨none, 0, rfl⟩
  · exact ⟨_, cap, rfl⟩
/-- The first j of a row. -/
def rowl (deep : Bool) (m k j : Nat) : List Bool := (List.range j).map (must deep m k)
theorem rowl_len (deep : Bool) (m k j : Nat) : (rowl deep m k j).length = j := by simp [rowl]
theorem rowl_succ {deep : Bool} {m k j : Nat} (hj : j < k) : rowl deep m k (j + 1) = rowl deep m k j ++ [decide (C deep m k j < C deep m k (j + 1))] := by
  unfold rowl
  rw [List.range_succ, List.map_append]
  simp [must, Nat.mod_eq_of_lt hj]
/-- What the closure leaves: the row's slice at its place in R, and all else as it was. -/
def Made (deep : Bool) (w w' : World) (R m k j : Nat) (cur : Array Value) : Prop :=
  ∃ v, w'.heap[R]? = some (.cells (cur.setIfInBounds (4 * m + 3) v) 67 (0, 0)) ∧ w'.ownsRow w.heap.size 4 1 v j ((rowl deep m k j).map Value.bool) ∧ Kept w w' (fun b => b = R) ∧ (∀ B, B ≤ R → Below B w w')
set_option maxRecDepth 100000 in
set_option maxHeartbeats 4000000 in
theorem body_any (deep : Bool) (w : World) (m k : Nat) (h1 : 1 ≤ m) (h2 : m ≤ k) (h3 : k ≤ 64) (R kb xb db mb : Nat) (cur : Array Value)
    (ck : w.cell? ⟨kb, 0, none⟩ = some (.int .i64 (k : Int))) (cx : w.cell? ⟨xb, 0, none⟩ = some (.pointer (some ⟨R, 4 * m, none⟩))) (cd : w.cell? ⟨db, 0, none⟩ = some (.int .i64 (kd deep))) (cm : w.cell? ⟨mb, 0, none⟩ = some (.int .i64 (m : Int)))
    (hR : w.heap[R]? = some (.cells cur 67 (0, 0))) (hc : cur[4 * m + 3]? = some (.slice none 0 0)) (nk : kb ≠ R) (nx : xb ≠ R) (nd : db ≠ R) (nm : mb ≠ R) :
    Calls Try.prog 34 #[.pointer (some ⟨kb, 0, none⟩), .pointer (some ⟨xb, 0, none⟩), .pointer (some ⟨db, 0, none⟩), .pointer (some ⟨mb, 0, none⟩)] w fun e w' => e = .returned (.tuple #[]) ∧ Made deep w w' R m k k cur := by
  have hkb : kb < w.heap.size := World.block_lt_of_cell? w _ ck
  have hxb : xb < w.heap.size := World.block_lt_of_cell? w _ cx
  have hdb : db < w.heap.size := World.block_lt_of_cell? w _ cd
  have hmb : mb < w.heap.size := World.block_lt_of_cell? w _ cm
  have hRb : R < w.heap.size := blk_lt hR
  have hcs : 4 * m + 3 < cur.size := (Array.getElem?_eq_some_iff.1 hc).1
  have HC := Lib.hid cx
  have HD := Lib.hid cd
  have HM := Lib.hid cm
  have HK := Lib.hid ck
  have h00 : Hid (Made deep w w R m k 0 cur) := Lib.hid ⟨.slice none 0 0, by
    rw [show cur.setIfInBounds (4 * m + 3) (.slice none 0 0) = cur by
      apply Array.ext (by simp)
      intro i hi1 hi2
      rw [Array.getElem_setIfInBounds]
      split
      · subst i; exact ((Array.getElem?_eq_some_iff.1 hc).2).symm
      · rfl]
    exact hR, World.ownsRow_nil _ _ _ _, Kept.refl _ _, fun B _ => Below.refl B w⟩
  clear hR hc cx cd cm
  go_enter Try.func34, Try.ntmps34
  go_wp2_with fail
  clear ck
  go_loopw [6] (fun i wr => ∃ j : Nat, j ≤ k ∧ i = .int .i64 (j : Int) ∧ Made deep w wr R m k j cur) (fun i _ => k - (intOf i).toNat)
  case atStart => exact ⟨0, Nat.zero_le _, rfl, h00.out⟩
  case round =>
    obtain ⟨j, hj, rfl, u, hRw, ho, hkp, hbl⟩ := hrel
    by_cases hlt : j < k
    · have c1 := cell_kept HC.out hkp nx
      have c3 := cell_kept HD.out hkp nd
      have c4 := cell_kept HM.out hkp nm
      have c5 := cell_kept HK.out hkp nk
      have c2 : wr.cell? ⟨R, 4 * m + 3, none⟩ = some u := (blk_cell hRw _).trans (by simp [hcs])
      have f2 : wr.frozen? ⟨R, 4 * m + 3, none⟩ = false := blk_frozen hRw _
      have CN1 : ∀ W, Calls Try.prog 35 #[.int .i64 (kd deep), .int .i64 (wrap64 ((j : Int) + 1)), .int .i64 (m : Int), .int .i64 (k : Int)] W fun e w' => e = .returned (.int .i64 (C deep m k (j + 1) : Int)) ∧ ∃ nd, w' = W.drewN nd := fun W => by
        rw [w64 (by omega) (by omega)]; exact count_any deep W (j + 1) m k (by omega) h1 h2 h3
      have CN0 : ∀ W, Calls Try.prog 35 #[.int .i64 (kd deep), .int .i64 (j : Int), .int .i64 (m : Int), .int .i64 (k : Int)] W fun e w' => e = .returned (.int .i64 (C deep m k j : Int)) ∧ ∃ nd, w' = W.drewN nd := fun W => count_any deep W j m k (by omega) h1 h2 h3
      have HO := Lib.hid ho
      have HRW := Lib.hid hRw
      have HKP := Lib.hid hkp
      have HBL := Lib.hid hbl
      have hsz := hkp.1
      replace CN1 := Lib.hid CN1
      replace CN0 := Lib.hid CN0
      clear ho hRw hkp hbl
      go_wp2_with fail
      refine start_ (n := 22) (S := fun w' => w'.cell? ⟨xb, 0, none⟩ = some (.pointer (some ⟨R, 4 * m, none⟩)) ∧ w'.cell? ⟨R, 4 * m + 3, none⟩ = some u ∧ w'.cell? ⟨db, 0, none⟩ = some (.int .i64 (kd deep)) ∧ w'.cell? ⟨mb, 0, none⟩ = some (.int .i64 (m : Int)) ∧ w'.cell? ⟨kb, 0, none⟩ = some (.int .i64 (k : Int))) (ds := [21]) #[false, false, false, false, false, false, false, false, false, false, false, false, false, false, false, false, false, false, false, false, false, false] (by kernel_rfl) rfl rfl ⟨c1, c2, c3, c4, c5⟩ (fun hHeld => ?_)
      refine pure_ (i := 6) (N := (some 15)) (v := ?_) (a' := ?_) #[false, false, false, false, false, false, true, false, false, false, false, false, false, false, false, false, false, false, false, false, false, false] rfl rfl (by kernel_rfl) (fun _ _ _ h => h) (Or.inl ⟨by rfl, ?_⟩) ?_ ?_
      rotate_left
      · intro w'
        go_simp
        with_reducible rfl
      rotate_left
      · simp only [Act.put, List.setIfInBounds_toArray, List.set_cons_zero, List.set_cons_succ, i64_w, i32_w]
        rfl
      refine pure_ (i := 12) (N := (some 21)) (v := ?_) (a' := ?_) #[false, false, false, false, false, false, true, false, false, false, false, false, true, false, false, false, false, false, false, false, false, false] rfl rfl (by kernel_rfl) (fun _ _ _ h => h) (Or.inl ⟨by rfl, ?_⟩) ?_ ?_
      rotate_left
      · intro w'
        go_simp
        with_reducible rfl
      rotate_left
      · simp only [Act.put, List.setIfInBounds_toArray, List.set_cons_zero, List.set_cons_succ, i64_w, i32_w]
        rfl
      refine pure_ (i := 7) (N := (some 16)) (v := ?_) (a' := ?_) #[false, false, false, false, false, false, true, true, false, false, false, false, true, false, false, false, false, false, false, false, false, false] rfl rfl (by kernel_rfl) (fun _ _ _ h => h) (Or.inl ⟨by rfl, ?_⟩) ?_ ?_
      rotate_left
      · intro w'
        go_simp
        with_reducible rfl
      rotate_left
      · simp only [Act.put, List.setIfInBounds_toArray, List.set_cons_zero, List.set_cons_succ, i64_w, i32_w]
        rfl
      refine take_ (i := 0) (N := (some 9)) (v := ?_) (a' := ?_) #[true, false, false, false, false, false, true, true, false, false, false, false, true, false, false, false, false, false, false, false, false, false] rfl rfl (by kernel_rfl) (fun _ _ _ h => h) (Or.inl ⟨by rfl, ?_⟩) hHeld ?_ ?_
      rotate_left
      · rintro w' ⟨s0, s1, s2, s3, s4⟩
        go_simp
        with_reducible rfl
      rotate_left
      · simp only [Act.put, List.setIfInBounds_toArray, List.set_cons_zero, List.set_cons_succ, i64_w, i32_w]
        rfl
      refine take_ (i := 1) (N := (some 10)) (v := ?_) (a' := ?_) #[true, true, false, false, false, false, true, true, false, false, false, false, true, false, false, false, false, false, false, false, false, false] rfl rfl (by kernel_rfl) (fun _ _ _ h => h) (Or.inl ⟨by rfl, ?_⟩) hHeld ?_ ?_
      rotate_left
      · rintro w' ⟨s0, s1, s2, s3, s4⟩
        go_simp
        with_reducible rfl
      rotate_left
      · simp only [Act.put, List.setIfInBounds_toArray, List.set_cons_zero, List.set_cons_succ, i64_w, i32_w]
        rfl
      refine pure_ (i := 2) (N := (some 11)) (v := ?_) (a' := ?_) #[true, true, true, false, false, false, true, true, false, false, false, false, true, false, false, false, false, false, false, false, false, false] rfl rfl (by kernel_rfl) (fun _ _ _ h => h) (Or.inl ⟨by rfl, ?_⟩) ?_ ?_
      rotate_left
      · intro w'
        go_simp
        with_reducible rfl
      rotate_left
      · simp only [Act.put, List.setIfInBounds_toArray, List.set_cons_zero, List.set_cons_succ, i64_w, i32_w]
        rfl
      refine pure_ (i := 3) (N := (some 12)) (v := ?_) (a' := ?_) #[true, true, true, true, false, false, true, true, false, false, false, false, true, false, false, false, false, false, false, false, false, false] rfl rfl (by kernel_rfl) (fun _ _ _ h => h) (Or.inl ⟨by rfl, ?_⟩) ?_ ?_
      rotate_left
      · intro w'
        go_simp
        with_reducible rfl
      rotate_left
      · simp only [Act.put, List.setIfInBounds_toArray, List.set_cons_zero, List.set_cons_succ, i64_w, i32_w]
        rfl
      refine take_ (i := 4) (N := (some 13)) (v := ?_) (a' := ?_) #[true, true, true, true, true, false, true, true, false, false, false, false, true, false, false, false, false, false, false, false, false, false] rfl rfl (by kernel_rfl) (fun _ _ _ h => h) (Or.inl ⟨by rfl, ?_⟩) hHeld ?_ ?_
      rotate_left
      · rintro w' ⟨s0, s1, s2, s3, s4⟩
        go_simp
        with_reducible rfl
      rotate_left
      · simp only [Act.put, List.setIfInBounds_toArray, List.set_cons_zero, List.set_cons_succ, i64_w, i32_w]
        rfl
      refine take_ (i := 5) (N := (some 14)) (v := ?_) (a' := ?_) #[true, true, true, true, true, true, true, true, false, false, false, false, true, false, false, false, false, false, false, false, false, false] rfl rfl (by kernel_rfl) (fun _ _ _ h => h) (Or.inl ⟨by rfl, ?_⟩) hHeld ?_ ?_
      rotate_left
      · rintro w' ⟨s0, s1, s2, s3, s4⟩
        go_simp
        with_reducible rfl
      rotate_left
      · simp only [Act.put, List.setIfInBounds_toArray, List.set_cons_zero, List.set_cons_succ, i64_w, i32_w]
        rfl
      refine take_ (i := 8) (N := (some 17)) (v := ?_) (a' := ?_) #[true, true, true, true, true, true, true, true, true, false, false, false, true, false, false, false, false, false, false, false, false, false] rfl rfl (by kernel_rfl) (fun _ _ _ h => h) (Or.inl ⟨by rfl, ?_⟩) hHeld ?_ ?_
      rotate_left
      · rintro w' ⟨s0, s1, s2, s3, s4⟩
        go_simp
        with_reducible rfl
      rotate_left
      · simp only [Act.put, List.setIfInBounds_toArray, List.set_cons_zero, List.set_cons_succ, i64_w, i32_w]
        rfl
      refine take_ (i := 9) (N := (some 18)) (v := ?_) (a' := ?_) #[true, true, true, true, true, true, true, true, true, true, false, false, true, false, false, false, false, false, false, false, false, false] rfl rfl (by kernel_rfl) (fun _ _ _ h => h) (Or.inl ⟨by rfl, ?_⟩) hHeld ?_ ?_
      rotate_left
      · rintro w' ⟨s0, s1, s2, s3, s4⟩
        go_simp
        with_reducible rfl
      rotate_left
      · simp only [Act.put, List.setIfInBounds_toArray, List.set_cons_zero, List.set_cons_succ, i64_w, i32_w]
        rfl
      refine take_ (i := 11) (N := (some 20)) (v := ?_) (a' := ?_) #[true, true, true, true, true, true, true, true, true, true, false, true, true, false, false, false, false, false, false, false, false, false] rfl rfl (by kernel_rfl) (fun _ _ _ h => h) (Or.inl ⟨by rfl, ?_⟩) hHeld ?_ ?_
      rotate_left
      · rintro w' ⟨s0, s1, s2, s3, s4⟩
        go_simp
        with_reducible rfl
      rotate_left
      · simp only [Act.put, List.setIfInBounds_toArray, List.set_cons_zero, List.set_cons_succ, i64_w, i32_w]
        rfl
      refine take_ (i := 13) (N := (some 22)) (v := ?_) (a' := ?_) #[true, true, true, true, true, true, true, true, true, true, false, true, true, true, false, false, false, false, false, false, false, false] rfl rfl (by kernel_rfl) (fun _ _ _ h => h) (Or.inl ⟨by rfl, ?_⟩) hHeld ?_ ?_
      rotate_left
      · rintro w' ⟨s0, s1, s2, s3, s4⟩
        go_simp
        with_reducible rfl
      rotate_left
      · simp only [Act.put, List.setIfInBounds_toArray, List.set_cons_zero, List.set_cons_succ, i64_w, i32_w]
        rfl
      refine take_ (i := 14) (N := (some 23)) (v := ?_) (a' := ?_) #[true, true, true, true, true, true, true, true, true, true, false, true, true, true, true, false, false, false, false, false, false, false] rfl rfl (by kernel_rfl) (fun _ _ _ h => h) (Or.inl ⟨by rfl, ?_⟩) hHeld ?_ ?_
      rotate_left
      · rintro w' ⟨s0, s1, s2, s3, s4⟩
        go_simp
        with_reducible rfl
      rotate_left
      · simp only [Act.put, List.setIfInBounds_toArray, List.set_cons_zero, List.set_cons_succ, i64_w, i32_w]
        rfl
      refine one_ (i := 10) (N := (some 19)) #[true, true, true, true, true, true, true, true, true, true, true, true, true, true, true, false, false, false, false, false, false, false] rfl rfl (by kernel_rfl) (by decide) (fun K hK => ?_)
      refine goes_ Try.func35 (by kernel_rfl) rfl #[.int .i64 (kd deep), .int .i64 (wrap64 ((j : Int) + 1)), .int .i64 (m : Int), .int .i64 (k : Int)] (by rfl) rfl rfl (by (try simp only [List.map_toArray, List.map_cons, List.map_nil]); first | done | rfl) ?_
      with_reducible refine (CN1.out _).mono ?_
      rintro e w' ⟨rfl, n1, rfl⟩
      refine ⟨_, rfl, ?_⟩
      refine hK.out _ _ hHeld (fun hHeld => ?_)
      clear hK K
      refine norm_ (a' := ?_) ?_ ?_
      rotate_left
      · show Act.put _ (some 19) _ = _
        simp only [Act.put, List.setIfInBounds_toArray, List.set_cons_zero, List.set_cons_succ, i64_w, i32_w]
        rfl
      refine one_ (i := 15) (N := (some 24)) #[true, true, true, true, true, true, true, true, true, true, true, true, true, true, true, true, false, false, false, false, false, false] rfl rfl (by kernel_rfl) (by decide) (fun K hK => ?_)
      refine goes_ Try.func35 (by kernel_rfl) rfl #[.int .i64 (kd deep), .int .i64 ((j : Int)), .int .i64 (m : Int), .int .i64 (k : Int)] (by rfl) rfl rfl (by (try simp only [List.map_toArray, List.map_cons, List.map_nil]); first | done | rfl) ?_
      with_reducible refine (CN0.out _).mono ?_
      rintro e w' ⟨rfl, n2, rfl⟩
      refine ⟨_, rfl, ?_⟩
      have HB2 := Lib.hid (pw_below_drewN (pw_below_drewN (Below.refl w.heap.size wr).drew n1) n2)
      have HO2 := Lib.hid (show ((wr.drew.drewN n1).drewN n2).ownsRow w.heap.size 4 1 u j ((rowl deep m k j).map Value.bool) from HO.out)
      have hs2 : w.heap.size ≤ ((wr.drew.drewN n1).drewN n2).heap.size := hsz
      refine hK.out _ _ hHeld (fun hHeld => ?_)
      generalize (wr.drew.drewN n1).drewN n2 = W2 at HB2 HO2 hs2 hHeld ⊢
      clear hK K
      refine norm_ (a' := ?_) ?_ ?_
      rotate_left
      · show Act.put _ (some 24) _ = _
        simp only [Act.put, List.setIfInBounds_toArray, List.set_cons_zero, List.set_cons_succ, i64_w, i32_w]
        rfl
      refine pure_ (i := 16) (N := (some 25)) (v := ?_) (a' := ?_) #[true, true, true, true, true, true, true, true, true, true, true, true, true, true, true, true, true, false, false, false, false, false] rfl rfl (by kernel_rfl) (fun _ _ _ h => h) (Or.inl ⟨by rfl, ?_⟩) ?_ ?_
      rotate_left
      · intro w'
        go_simp
        with_reducible rfl
      rotate_left
      · simp only [Act.put, List.setIfInBounds_toArray, List.set_cons_zero, List.set_cons_succ, i64_w, i32_w]
        rfl
      refine one_ (i := 17) (N := (some 26)) #[true, true, true, true, true, true, true, true, true, true, true, true, true, true, true, true, true, true, false, false, false, false] rfl rfl (by kernel_rfl) (by decide) (fun K hK => ?_)
      refine value_ (v := .slice (some ⟨W2.heap.size, 0, none⟩) 1 1) (w1 := W2.alloc (.cells #[.bool (decide (C deep m k j < C deep m k (j + 1)))] 4)) rfl rfl (by go_simp) ?_
      have hHeld2 := hHeld
      obtain ⟨s0, s1, s2, s3, s4⟩ := hHeld
      refine hK.out _ _ ⟨(World.cell?_alloc_past _ _ _ (Nat.lt_of_lt_of_le hxb hs2)).trans s0, (World.cell?_alloc_past _ _ _ (Nat.lt_of_lt_of_le hRb hs2)).trans s1, (World.cell?_alloc_past _ _ _ (Nat.lt_of_lt_of_le hdb hs2)).trans s2, (World.cell?_alloc_past _ _ _ (Nat.lt_of_lt_of_le hmb hs2)).trans s3, (World.cell?_alloc_past _ _ _ (Nat.lt_of_lt_of_le hkb hs2)).trans s4⟩ (fun hHeld => ?_)
      clear s0 s1 s2 s3 s4
      clear hK K
      refine norm_ (a' := ?_) ?_ ?_
      rotate_left
      · show Act.put _ (some 26) _ = _
        simp only [Act.put, List.setIfInBounds_toArray, List.set_cons_zero, List.set_cons_succ, i64_w, i32_w]
        rfl
      refine one_ (i := 18) (N := (some 27)) #[true, true, true, true, true, true, true, true, true, true, true, true, true, true, true, true, true, true, true, false, false, false] rfl rfl (by kernel_rfl) (by decide) (fun K hK => ?_)
      refine step_append_cells (w0 := wr) w.heap.size rfl (.tmp 13) (.tmp 26) 22 4 (.bool false) 1 1 rfl Try.underlying22 info4 rfl (by decide) (by decide) u j _ [.bool (decide (C deep m k j < C deep m k (j + 1)))] rfl rfl rfl (by simp [Value.oneCell']) HO2.out HB2.out hs2 (by omega) ?_
      intro v1 w1 ho1 hb1 hg1 hat1
      obtain ⟨A1, cap1, rfl⟩ := own_is_slice ho1
      refine hK.out _ _ ⟨(pw_cell_below2 hb1 hxb).trans c1, (pw_cell_below2 hb1 hRb).trans c2, (pw_cell_below2 hb1 hdb).trans c3, (pw_cell_below2 hb1 hmb).trans c4, (pw_cell_below2 hb1 hkb).trans c5⟩ (fun hHeld => ?_)
      clear hK K
      refine norm_ (a' := ?_) ?_ ?_
      rotate_left
      · show Act.put _ (some 27) _ = _
        simp only [Act.put, List.setIfInBounds_toArray, List.set_cons_zero, List.set_cons_succ, i64_w, i32_w]
        rfl
      refine pure_ (i := 19) (N := (some 28)) (v := ?_) (a' := ?_) #[true, true, true, true, true, true, true, true, true, true, true, true, true, true, true, true, true, true, true, true, false, false] rfl rfl (by kernel_rfl) (fun _ _ _ h => h) (Or.inl ⟨by rfl, ?_⟩) ?_ ?_
      rotate_left
      · intro w'
        go_simp
        with_reducible rfl
      rotate_left
      · simp only [Act.put, List.setIfInBounds_toArray, List.set_cons_zero, List.set_cons_succ, i64_w, i32_w]
        rfl
      refine pure_ (i := 20) (N := (some 29)) (v := ?_) (a' := ?_) #[true, true, true, true, true, true, true, true, true, true, true, true, true, true, true, true, true, true, true, true, true, false] rfl rfl (by kernel_rfl) (fun _ _ _ h => h) (Or.inl ⟨by rfl, ?_⟩) ?_ ?_
      rotate_left
      · intro w'
        go_simp
        with_reducible rfl
      rotate_left
      · simp only [Act.put, List.setIfInBounds_toArray, List.set_cons_zero, List.set_cons_succ, i64_w, i32_w]
        rfl
      refine last_ (i := 21) (N := none) #[true, true, true, true, true, true, true, true, true, true, true, true, true, true, true, true, true, true, true, true, true, true] rfl rfl (by kernel_rfl) (by decide) (fun K hK => ?_)
      have hcS := hHeld.2.1
      have hfS : w1.frozen? ⟨R, 4 * m + 3, none⟩ = false := (hb1.frozen (p := ⟨R, 4 * m + 3, none⟩) hRb).trans f2
      refine skip_ (w1 := w1.setCell ⟨R, 4 * m + 3, none⟩ (.slice A1 (j + 1) cap1)) rfl rfl (by go_simp) ?_
      refine hK.out _ _ ?_
      clear hK K
      refine done_ (by kernel_rfl) ?_
      clear hHeld hcS
      go_wp2
      go_roundw
      case rel =>
        refine ⟨j + 1, by omega, by go_num, .slice A1 (j + 1) cap1, ?_, ?_, ?_, ?_⟩
        · have := blk_set ((hb1.block R hRb).trans HRW.out) (4 * m + 3) (.slice A1 (j + 1) cap1)
          rw [Array.setIfInBounds_setIfInBounds] at this; exact this
        · rw [rowl_succ hlt, List.map_append]
          exact ownsRow_setCell_below ho1 hRb _
        · exact (HKP.out.then_ (S2 := fun b => w.heap.size ≤ b) ⟨hb1.size, fun i hi hn => hb1.block i (by omega)⟩ (fun _ h => .inr h)).setCell (.inl rfl) _
        · exact fun B hB => ((HBL.out B hB).trans (hb1.mono (by omega))).setCell hB _
      case measure => simp [intOf]; omega
    · obtain rfl : j = k := by omega
      have hfin := Lib.hid (show Made deep w wr R m j j cur from ⟨u, hRw, ho, hkp, hbl⟩)
      clear hRw ho hkp hbl h00
      go_wp2
      go_end0
      exact ⟨rfl, hfin.out⟩
end Go.Proofs.Ytlnbpeaoidjinaa.Pat
