/- The walk of TraceCounts. -/
import Derived.Test.YtbcpfbmoednghaaTrCnt0
namespace Go.Proofs.Ytbcpfbmoednghaa.Tr
open Go.RowKit Go.Proofs.YtbcpfbmoednghaaW.PrintWords Go.Proofs.YtbcpfbmoednghaaW.PrintLast Go.Proofs.YtbcpfbmoednghaaW.PrintMore Go.Proofs.Ytbcpfbmoednghaa.Ring Go.Proofs.Ytbcpfbmoednghaa.Ring5 Go.Proofs.Ytbcpfbmoednghaa.Args
set_option linter.unusedSimpArgs false
set_option linter.unusedVariables false
set_option maxRecDepth 100000 in
set_option maxHeartbeats 4000000 in
theorem counts_any (w : World) (A : Option Addr) (l : List Ev) (cap : Nat) (room : Nat) (what task : Int) (hr1 : 1 ≤ room) (hr2 : room ≤ 4096) (ha : RdEv w A l) (h2 : l.length ≤ 300) :
    Calls Try.prog 3 #[.int .i64 (room : Int), .slice A l.length cap, .int .i64 what, .int .i64 task] w fun e w' => e = .returned (.bool true) ∧ Below w.heap.size w w' := by
  have i1 : (l.length : Int) ≤ 300 := by omega
  have i2 : (1 : Int) ≤ (room : Int) := by omega
  have i3 : (room : Int) ≤ 4096 := by omega
  have hN := Lib.hid (fun W => show Calls Try.prog 8 #[.int .i64 (room : Int)] W _ from new_yes W room hr1 hr2)
  have HC := Lib.hid ha
  clear ha
  go_enter Try.func3, Try.ntmps3
  go_wp2_with fail
  refine (awake_any _).mono ?_; rintro e w1 ⟨rfl, hb1⟩
  replace hb1 := Lib.hid hb1
  go_wp2_with fail
  refine (hN.out _).mono ?_; rintro e w2 ⟨pt, p, g, rfl, hs, hpt, hp, hg, hb2⟩
  have hs2 : Hid (TS w2 pt p g room (kept []) (cnl [])) := Lib.hid hs
  have hB2 := Lib.hid (hb1.out.trans (hb2.mono hb1.out.size))
  have hpt' : w.heap.size ≤ pt := Nat.le_trans hb1.out.size hpt
  have hp' : w.heap.size ≤ p := Nat.le_trans hb1.out.size hp
  have hg' : w.heap.size ≤ g := Nat.le_trans hb1.out.size hg
  have hlt2 := hs2.out.lt
  have hsw2 := hB2.out.size
  obtain ⟨base, hbase⟩ : ∃ base, base = w2.heap.size := ⟨_, rfl⟩
  rw [← hbase] at hlt2 hsw2
  have hbase1 : base ≤ w2.heap.size := by omega
  clear hs hb2 hpt hp hg hb1 hbase
  go_wp2_with fail
  go_loopw [11, 12, 13, 14] (fun v n bo i wr => ∃ j : Nat, j ≤ l.length ∧ i = .int .i64 (j : Int) ∧ n = .int .i64 (cntN what (l.take j) : Int) ∧ bo = .int .i64 (cntB what task (l.take j) : Int) ∧ TS wr pt p g room (kept (l.take j)) (cnl (l.take j)) ∧ wr.ownsRow base 30 5 v (kept (l.take j)).length (flat (kept (l.take j))) ∧ base ≤ wr.heap.size ∧ Below w.heap.size w wr) (fun _ _ _ i _ => l.length - (intOf i).toNat)
  case atStart => exact ⟨0, Nat.zero_le _, rfl, rfl, rfl, by rw [List.take_zero]; exact hs2.out, by rw [List.take_zero]; exact World.ownsRow_nil _ _ _ _, hbase1, hB2.out⟩
  case round =>
    obtain ⟨j, hj, rfl, rfl, rfl, hs, hown, hsz, hbel⟩ := hrel
    by_cases hlt : j < l.length
    · obtain ⟨b, off, rfl, hbw, hcell⟩ := HC.out (by omega)
      obtain ⟨x, hx⟩ : ∃ x, l[j]? = some x := ⟨l[j], by simp [hlt]⟩
      have hjl : (j : Int) < (l.length : Int) := by omega
      have CX := Lib.hid (fun (W : World) (hW : Below w.heap.size w W) (i : Nat) (hi : i < 5) => (hW.cell (p := ⟨b, off + j * 5 + i, none⟩) hbw).trans (hcell j x hx i hi))
      have a0 : wr.cell? ⟨b, off + j * 5, none⟩ = some (.int .i64 x.a) := CX.out wr hbel 0 (by omega)
      have a1 : wr.cell? ⟨b, off + j * 5 + 1, none⟩ = some (.int .i64 x.b) := CX.out wr hbel 1 (by omega)
      have a2 : wr.cell? ⟨b, off + j * 5 + 2, none⟩ = some (.int .i64 x.c) := CX.out wr hbel 2 (by omega)
      have a3 : wr.cell? ⟨b, off + j * 5 + 3, none⟩ = some (.int .i64 x.d) := CX.out wr hbel 3 (by omega)
      have a4 : wr.cell? ⟨b, off + j * 5 + 4, none⟩ = some (.int .i64 x.e) := CX.out wr hbel 4 (by omega)
      have e1 : l.take j ++ [x] = l.take (j + 1) := by rw [List.take_add_one, hx]; rfl
      obtain ⟨M, hM⟩ : ∃ M, M = l.take j := ⟨_, rfl⟩
      have hMl : M.length ≤ 300 := by rw [hM, List.length_take]; omega
      rw [← hM] at hs hown e1 ⊢
      have hn0 := cntN_le what M
      have hb0 := cntB_le what task M
      have hkM := kept_le M
      have eN : Hid (cntN what (l.take (j + 1)) = cntN what (M ++ [x])) := Lib.hid (by rw [e1])
      have eB : Hid (cntB what task (l.take (j + 1)) = cntB what task (M ++ [x])) := Lib.hid (by rw [e1])
      have eK : Hid (kept (l.take (j + 1)) = kept (M ++ [x])) := Lib.hid (by rw [e1])
      have eC : Hid (cnl (l.take (j + 1)) = cnl (M ++ [x])) := Lib.hid (by rw [e1])
      obtain ⟨nn, hnn⟩ : ∃ nn, nn = cntN what M := ⟨_, rfl⟩
      obtain ⟨nb, hnb⟩ : ∃ nb, nb = cntB what task M := ⟨_, rfl⟩
      rw [← hnn] at hn0 ⊢
      rw [← hnb] at hb0 ⊢
      have i4 : (nn : Int) ≤ 300 := by omega
      have i5 : (nb : Int) ≤ 300 := by omega
      obtain ⟨cb, hcb⟩ : ∃ cb, ctd x = cb := ⟨_, rfl⟩
      have HA : Hid (∀ W', W' = wr.drew → Calls Try.prog 9 #[.pointer (some ⟨pt, 0, none⟩), .agg (l5 x).toArray] W' fun e w' => e = .returned (.bool cb) ∧ TS w' pt p g room (kept (M ++ [x])) (cnl (M ++ [x])) ∧ Kept wr w' (fun k => k = pt ∨ k = p ∨ k = g) ∧ ∀ B, B ≤ pt → B ≤ p → B ≤ g → Below B wr w') := Lib.hid (fun W' hW' => by
        subst hW'
        rw [← hcb]
        exact (add_any (w := wr.drew) hs x (by omega)).mono fun _ _ ⟨he, h1, h2, h3⟩ => ⟨he, h1, h2, fun B k1 k2 k3 => ((Below.refl B wr).drew).trans (h3 B k1 k2 k3)⟩)
      have HR : Hid (∀ W', Calls Try.prog 10 #[.agg (l5 x).toArray] W' fun e w' => e = .returned (.bool cb) ∧ Below W'.heap.size W' w') := Lib.hid (fun W' => right_any W' x cb hcb.symm)
      have hO := Lib.hid hown
      have hBl := Lib.hid hbel
      have hM0 : Hid (0 < l.length) := Lib.hid (by omega)
      replace hnn := Lib.hid hnn
      replace hnb := Lib.hid hnb
      replace hcb := Lib.hid hcb
      clear hx hs hown hbel hs2 hB2 e1 hcell hM
      go_wp2_with fail
      refine start_ (n := 12) (S := fun w' => w'.cell? ⟨b, off + j * 5, none⟩ = some (.int .i64 x.a) ∧ w'.cell? ⟨b, off + j * 5 + 1, none⟩ = some (.int .i64 x.b) ∧ w'.cell? ⟨b, off + j * 5 + 2, none⟩ = some (.int .i64 x.c) ∧ w'.cell? ⟨b, off + j * 5 + 3, none⟩ = some (.int .i64 x.d) ∧ w'.cell? ⟨b, off + j * 5 + 4, none⟩ = some (.int .i64 x.e)) (ds := []) #[false, false, false, false, false, false, false, false, false, false, false, false] (by kernel_rfl) rfl rfl ⟨a0, a1, a2, a3, a4⟩ (fun hHeld => ?_)
      refine pure_ (i := 0) (N := (some 57)) (v := ?_) (a' := ?_) #[true, false, false, false, false, false, false, false, false, false, false, false] rfl rfl (by kernel_rfl) (fun _ _ _ h => h) (Or.inl ⟨by rfl, ?_⟩) ?_ ?_
      rotate_left
      · intro w'
        go_simp
        with_reducible rfl
      rotate_left
      · simp only [Act.put, List.setIfInBounds_toArray, List.set_cons_zero, List.set_cons_succ, i64_w, i32_w]
        rfl
      refine pure_ (i := 1) (N := (some 58)) (v := ?_) (a' := ?_) #[true, true, false, false, false, false, false, false, false, false, false, false] rfl rfl (by kernel_rfl) (fun _ _ _ h => h) (Or.inl ⟨by rfl, ?_⟩) ?_ ?_
      rotate_left
      · intro w'
        go_simp
        with_reducible rfl
      rotate_left
      · simp only [Act.put, List.setIfInBounds_toArray, List.set_cons_zero, List.set_cons_succ, i64_w, i32_w]
        rfl
      refine pure_ (i := 2) (N := (some 59)) (v := ?_) (a' := ?_) #[true, true, true, false, false, false, false, false, false, false, false, false] rfl rfl (by kernel_rfl) (fun _ _ _ h => h) (Or.inl ⟨by rfl, ?_⟩) ?_ ?_
      rotate_left
      · intro w'
        go_simp
        with_reducible rfl
      rotate_left
      · simp only [Act.put, List.setIfInBounds_toArray, List.set_cons_zero, List.set_cons_succ, i64_w, i32_w]
        rfl
      refine pure_ (i := 3) (N := (some 60)) (v := ?_) (a' := ?_) #[true, true, true, true, false, false, false, false, false, false, false, false] rfl rfl (by kernel_rfl) (fun _ _ _ h => h) (Or.inl ⟨by rfl, ?_⟩) ?_ ?_
      rotate_left
      · intro w'
        go_simp
        with_reducible rfl
      rotate_left
      · simp only [Act.put, List.setIfInBounds_toArray, List.set_cons_zero, List.set_cons_succ, i64_w, i32_w]
        rfl
      refine take_ (i := 4) (N := (some 61)) (v := ?_) (a' := ?_) #[true, true, true, true, true, false, false, false, false, false, false, false] rfl rfl (by kernel_rfl) (fun _ _ _ h => h) (Or.inl ⟨by rfl, ?_⟩) hHeld ?_ ?_
      rotate_left
      · rintro w' ⟨s0, s1, s2, s3, s4⟩
        go_simp
        with_reducible rfl
      rotate_left
      · simp only [Act.put, List.setIfInBounds_toArray, List.set_cons_zero, List.set_cons_succ, i64_w, i32_w]
        rfl
      refine pure_ (i := 6) (N := (some 63)) (v := ?_) (a' := ?_) #[true, true, true, true, true, false, true, false, false, false, false, false] rfl rfl (by kernel_rfl) (fun _ _ _ h => h) (Or.inl ⟨by rfl, ?_⟩) ?_ ?_
      rotate_left
      · intro w'
        go_simp
        with_reducible rfl
      rotate_left
      · simp only [Act.put, List.setIfInBounds_toArray, List.set_cons_zero, List.set_cons_succ, i64_w, i32_w]
        rfl
      refine pure_ (i := 7) (N := (some 64)) (v := ?_) (a' := ?_) #[true, true, true, true, true, false, true, true, false, false, false, false] rfl rfl (by kernel_rfl) (fun _ _ _ h => h) (Or.inl ⟨by rfl, ?_⟩) ?_ ?_
      rotate_left
      · intro w'
        go_simp
        with_reducible rfl
      rotate_left
      · simp only [Act.put, List.setIfInBounds_toArray, List.set_cons_zero, List.set_cons_succ, i64_w, i32_w]
        rfl
      refine pure_ (i := 8) (N := (some 65)) (v := ?_) (a' := ?_) #[true, true, true, true, true, false, true, true, true, false, false, false] rfl rfl (by kernel_rfl) (fun _ _ _ h => h) (Or.inl ⟨by rfl, ?_⟩) ?_ ?_
      rotate_left
      · intro w'
        go_simp
        with_reducible rfl
      rotate_left
      · simp only [Act.put, List.setIfInBounds_toArray, List.set_cons_zero, List.set_cons_succ, i64_w, i32_w]
        rfl
      refine take_ (i := 9) (N := (some 66)) (v := ?_) (a' := ?_) #[true, true, true, true, true, false, true, true, true, true, false, false] rfl rfl (by kernel_rfl) (fun _ _ _ h => h) (Or.inl ⟨by rfl, ?_⟩) hHeld ?_ ?_
      rotate_left
      · rintro w' ⟨s0, s1, s2, s3, s4⟩
        go_simp
        with_reducible rfl
      rotate_left
      · simp only [Act.put, List.setIfInBounds_toArray, List.set_cons_zero, List.set_cons_succ, i64_w, i32_w]
        rfl
      refine one_ (i := 5) (N := (some 62)) #[true, true, true, true, true, true, true, true, true, true, false, false] rfl rfl (by kernel_rfl) (by decide) (fun K hK => ?_)
      refine goes_ Try.func9 (by kernel_rfl) rfl #[.pointer (some ⟨pt, 0, none⟩), .agg (l5 x).toArray] (by rfl) rfl rfl (by (try simp only [List.map_toArray, List.map_cons, List.map_nil]); first | done | rfl) ?_
      refine (HA.out _ rfl).mono ?_
      rintro e w4 ⟨rfl, hs4, hk4, hb4⟩
      have hB4 := Lib.hid (hBl.out.trans (hb4 _ hpt' hp' hg'))
      have q0 : w4.cell? ⟨b, off + j * 5, none⟩ = some (.int .i64 x.a) := CX.out w4 hB4.out 0 (by omega)
      have q1 : w4.cell? ⟨b, off + j * 5 + 1, none⟩ = some (.int .i64 x.b) := CX.out w4 hB4.out 1 (by omega)
      have q2 : w4.cell? ⟨b, off + j * 5 + 2, none⟩ = some (.int .i64 x.c) := CX.out w4 hB4.out 2 (by omega)
      have q3 : w4.cell? ⟨b, off + j * 5 + 3, none⟩ = some (.int .i64 x.d) := CX.out w4 hB4.out 3 (by omega)
      have q4 : w4.cell? ⟨b, off + j * 5 + 4, none⟩ = some (.int .i64 x.e) := CX.out w4 hB4.out 4 (by omega)
      have hO4 := Lib.hid (own_same hO.out (fun k k1 k2 => hk4.2 k k2 (by rintro (h | h | h) <;> omega)))
      have hsz4 : base ≤ w4.heap.size := Nat.le_trans hsz (hb4 0 (Nat.zero_le _) (Nat.zero_le _) (Nat.zero_le _)).size
      have hS4 := Lib.hid hs4
      clear hs4 hk4 hb4
      refine ⟨_, rfl, ?_⟩
      refine hK.out _ _ ⟨q0, q1, q2, q3, q4⟩ (fun hHeld => ?_)
      clear q0 q1 q2 q3 q4
      clear hK K
      refine norm_ (a' := ?_) ?_ ?_
      rotate_left
      · show Act.put _ (some 62) _ = _
        simp only [Act.put, List.setIfInBounds_toArray, List.set_cons_zero, List.set_cons_succ, i64_w, i32_w]
        rfl
      refine one_ (i := 10) (N := (some 67)) #[true, true, true, true, true, true, true, true, true, true, true, false] rfl rfl (by kernel_rfl) (by decide) (fun K hK => ?_)
      refine goes_ Try.func10 (by kernel_rfl) rfl #[.agg (l5 x).toArray] (by rfl) rfl rfl (by (try simp only [List.map_toArray, List.map_cons, List.map_nil]); first | done | rfl) ?_
      refine (HR.out _).mono ?_
      rintro e w5 ⟨rfl, hb5⟩
      have hB5 := Lib.hid (hB4.out.trans (hb5.mono hB4.out.size))
      have q0 : w5.cell? ⟨b, off + j * 5, none⟩ = some (.int .i64 x.a) := CX.out w5 hB5.out 0 (by omega)
      have q1 : w5.cell? ⟨b, off + j * 5 + 1, none⟩ = some (.int .i64 x.b) := CX.out w5 hB5.out 1 (by omega)
      have q2 : w5.cell? ⟨b, off + j * 5 + 2, none⟩ = some (.int .i64 x.c) := CX.out w5 hB5.out 2 (by omega)
      have q3 : w5.cell? ⟨b, off + j * 5 + 3, none⟩ = some (.int .i64 x.d) := CX.out w5 hB5.out 3 (by omega)
      have q4 : w5.cell? ⟨b, off + j * 5 + 4, none⟩ = some (.int .i64 x.e) := CX.out w5 hB5.out 4 (by omega)
      have hO5 := Lib.hid (own_same hO4.out (fun k k1 k2 => hb5.block k k2))
      have hsz5 : base ≤ w5.heap.size := Nat.le_trans hsz4 hb5.size
      have hS5 := Lib.hid (hS4.out.below hb5)
      clear hb5 hB4 hO4 hS4 hsz4
      refine ⟨_, rfl, ?_⟩
      refine hK.out _ _ ⟨q0, q1, q2, q3, q4⟩ (fun hHeld => ?_)
      clear q0 q1 q2 q3 q4
      clear hK K
      refine norm_ (a' := ?_) ?_ ?_
      rotate_left
      · show Act.put _ (some 67) _ = _
        simp only [Act.put, List.setIfInBounds_toArray, List.set_cons_zero, List.set_cons_succ, i64_w, i32_w]
        rfl
      refine pure_ (i := 11) (N := (some 68)) (v := ?_) (a' := ?_) #[true, true, true, true, true, true, true, true, true, true, true, true] rfl rfl (by kernel_rfl) (fun _ _ _ h => h) (Or.inl ⟨by rfl, ?_⟩) ?_ ?_
      rotate_left
      · intro w'
        go_simp
        with_reducible rfl
      rotate_left
      · simp only [Act.put, List.setIfInBounds_toArray, List.set_cons_zero, List.set_cons_succ, i64_w, i32_w]
        rfl
      refine done_ (by kernel_rfl) ?_
      have q0 : w5.cell? ⟨b, off + j * 5, none⟩ = some (.int .i64 x.a) := CX.out w5 hB5.out 0 (by omega)
      have q1 : w5.cell? ⟨b, off + j * 5 + 1, none⟩ = some (.int .i64 x.b) := CX.out w5 hB5.out 1 (by omega)
      have q2 : w5.cell? ⟨b, off + j * 5 + 2, none⟩ = some (.int .i64 x.c) := CX.out w5 hB5.out 2 (by omega)
      have q3 : w5.cell? ⟨b, off + j * 5 + 3, none⟩ = some (.int .i64 x.d) := CX.out w5 hB5.out 3 (by omega)
      have q4 : w5.cell? ⟨b, off + j * 5 + 4, none⟩ = some (.int .i64 x.e) := CX.out w5 hB5.out 4 (by omega)
      have hcc : (cb != cb) = false := by cases cb <;> rfl
      go_wp2_with fail
      refine (HR.out _).mono ?_; rintro e w6 ⟨rfl, hb6⟩
      have hB6 := Lib.hid (hB5.out.trans (hb6.mono hB5.out.size))
      have hO6 := Lib.hid (own_same hO5.out (fun k k1 k2 => hb6.block k k2))
      have hsz6 : base ≤ w6.heap.size := Nat.le_trans hsz5 hb6.size
      have hS6 := Lib.hid (hS5.out.below hb6)
      clear hb6 hB5 hO5 hS5 hsz5 q0 q1 q2 q3 q4 hcc
      cases cb with
      | false =>
        go_wp2
        go_roundw
        case rel => exact ⟨j + 1, by omega, by go_num, by rw [eN.out, cntN_no hcb.out, ← hnn.out], by rw [eB.out, cntB_no hcb.out, ← hnb.out], by rw [eK.out, eC.out]; exact hS6.out, by rw [eK.out, kept_no hcb.out]; exact hO6.out, hsz6, hB6.out⟩
        case measure => simp [intOf]; omega
      | true =>
        have hkM2 : (kept M).length ≤ 300 := by omega
        have hO7 := Lib.hid (own_same (W := w6.alloc (.cells (l5 x).toArray 30)) hO6.out (fun k k1 k2 => (below_alloc (Below.refl w6.heap.size w6) _).block k k2))
        have hsz7 : base ≤ (w6.alloc (.cells (l5 x).toArray 30)).heap.size := Nat.le_trans hsz6 (below_alloc (Below.refl w6.heap.size w6) _).size
        have hkl : (kept (M ++ [x])).length = (kept M).length + 1 := by rw [kept_up hcb.out, List.length_append]; rfl
        replace hkl := Lib.hid hkl
        have q0 : w6.cell? ⟨b, off + j * 5, none⟩ = some (.int .i64 x.a) := CX.out w6 hB6.out 0 (by omega)
        have q1 : w6.cell? ⟨b, off + j * 5 + 1, none⟩ = some (.int .i64 x.b) := CX.out w6 hB6.out 1 (by omega)
        have q2 : w6.cell? ⟨b, off + j * 5 + 2, none⟩ = some (.int .i64 x.c) := CX.out w6 hB6.out 2 (by omega)
        have q3 : w6.cell? ⟨b, off + j * 5 + 3, none⟩ = some (.int .i64 x.d) := CX.out w6 hB6.out 3 (by omega)
        have q4 : w6.cell? ⟨b, off + j * 5 + 4, none⟩ = some (.int .i64 x.e) := CX.out w6 hB6.out 4 (by omega)
        by_cases h1 : x.b = what
        · have g1 : (x.b == what) = true := by rw [beq_iff_eq]; exact h1
          by_cases h2 : x.c = task
          · have g2 : (x.c == task) = true := by rw [beq_iff_eq]; exact h2
            replace h1 := Lib.hid h1
            replace h2 := Lib.hid h2
            go_wp2_with (
              at_builtin
              refine app_one rfl (.tmp 74) (.tmp 79) rfl base u11 (kept M).length (kept M) rfl hO7.out w6.heap.size x rfl (blk_new _ _) (by omega) hsz7 ?_
              intro v8 w8 ho8 hb8
              have hb68 := Lib.hid (((Below.refl base w6).alloc hsz6 (.cells (l5 x).toArray 30)).trans hb8)
              have hB8 := Lib.hid (hB6.out.trans (hb68.out.mono hsw2))
              have hS8 := Lib.hid (hS6.out.le hb68.out hlt2.1 hlt2.2.1 hlt2.2.2)
              have hsz8 : base ≤ w8.heap.size := Nat.le_trans hsz6 hb68.out.size
              have hOX : Hid (w8.ownsRow base 30 5 v8 (kept (l.take (j + 1))).length (flat (kept (l.take (j + 1))))) := Lib.hid (by rw [eK.out, hkl.out, kept_up hcb.out]; exact ho8)
              clear q0 q1 q2 q3 q4 hB6 hO6 hS6 hsz6 hO7 hsz7 hb8 hb68 ho8
              have q1 : w8.cell? ⟨b, off + j * 5 + 1, none⟩ = some (.int .i64 x.b) := CX.out w8 hB8.out 1 (by omega)
              have q2 : w8.cell? ⟨b, off + j * 5 + 2, none⟩ = some (.int .i64 x.c) := CX.out w8 hB8.out 2 (by omega))
            go_roundw
            case rel => exact ⟨j + 1, by omega, by go_num, by rw [eN.out, cntN_up hcb.out h1.out, ← hnn.out]; go_num, by rw [eB.out, cntB_up hcb.out h1.out h2.out, ← hnb.out]; go_num, by rw [eK.out, eC.out]; exact hS8.out, hOX.out, hsz8, hB8.out⟩
            case measure => simp [intOf]; omega
          · have g2 : (x.c == task) = false := by rw [beq_eq_false_iff_ne]; exact h2
            have h2 := Lib.hid h2
            replace h1 := Lib.hid h1
            go_wp2_with (
              at_builtin
              refine app_one rfl (.tmp 74) (.tmp 79) rfl base u11 (kept M).length (kept M) rfl hO7.out w6.heap.size x rfl (blk_new _ _) (by omega) hsz7 ?_
              intro v8 w8 ho8 hb8
              have hb68 := Lib.hid (((Below.refl base w6).alloc hsz6 (.cells (l5 x).toArray 30)).trans hb8)
              have hB8 := Lib.hid (hB6.out.trans (hb68.out.mono hsw2))
              have hS8 := Lib.hid (hS6.out.le hb68.out hlt2.1 hlt2.2.1 hlt2.2.2)
              have hsz8 : base ≤ w8.heap.size := Nat.le_trans hsz6 hb68.out.size
              have hOX : Hid (w8.ownsRow base 30 5 v8 (kept (l.take (j + 1))).length (flat (kept (l.take (j + 1))))) := Lib.hid (by rw [eK.out, hkl.out, kept_up hcb.out]; exact ho8)
              clear q0 q1 q2 q3 q4 hB6 hO6 hS6 hsz6 hO7 hsz7 hb8 hb68 ho8
              have q1 : w8.cell? ⟨b, off + j * 5 + 1, none⟩ = some (.int .i64 x.b) := CX.out w8 hB8.out 1 (by omega)
              have q2 : w8.cell? ⟨b, off + j * 5 + 2, none⟩ = some (.int .i64 x.c) := CX.out w8 hB8.out 2 (by omega))
            go_roundw
            case rel => exact ⟨j + 1, by omega, by go_num, by rw [eN.out, cntN_up hcb.out h1.out, ← hnn.out]; go_num, by rw [eB.out, cntB_on (fun h => h2.out h.2), ← hnb.out], by rw [eK.out, eC.out]; exact hS8.out, hOX.out, hsz8, hB8.out⟩
            case measure => simp [intOf]; omega
        · have g1 : (x.b == what) = false := by rw [beq_eq_false_iff_ne]; exact h1
          have h1' := Lib.hid h1
          clear h1
          go_wp2_with (
            at_builtin
            refine app_one rfl (.tmp 74) (.tmp 79) rfl base u11 (kept M).length (kept M) rfl hO7.out w6.heap.size x rfl (blk_new _ _) (by omega) hsz7 ?_
            intro v8 w8 ho8 hb8
            have hb68 := Lib.hid (((Below.refl base w6).alloc hsz6 (.cells (l5 x).toArray 30)).trans hb8)
            have hB8 := Lib.hid (hB6.out.trans (hb68.out.mono hsw2))
            have hS8 := Lib.hid (hS6.out.le hb68.out hlt2.1 hlt2.2.1 hlt2.2.2)
            have hsz8 : base ≤ w8.heap.size := Nat.le_trans hsz6 hb68.out.size
            have hOX : Hid (w8.ownsRow base 30 5 v8 (kept (l.take (j + 1))).length (flat (kept (l.take (j + 1))))) := Lib.hid (by rw [eK.out, hkl.out, kept_up hcb.out]; exact ho8)
            clear q0 q1 q2 q3 q4 hB6 hO6 hS6 hsz6 hO7 hsz7 hb8 hb68 ho8
            have q1 : w8.cell? ⟨b, off + j * 5 + 1, none⟩ = some (.int .i64 x.b) := CX.out w8 hB8.out 1 (by omega)
            have q2 : w8.cell? ⟨b, off + j * 5 + 2, none⟩ = some (.int .i64 x.c) := CX.out w8 hB8.out 2 (by omega))
          go_roundw
          case rel => exact ⟨j + 1, by omega, by go_num, by rw [eN.out, cntN_on h1'.out, ← hnn.out], by rw [eB.out, cntB_on (fun h => h1'.out h.1), ← hnb.out], by rw [eK.out, eC.out]; exact hS8.out, hOX.out, hsz8, hB8.out⟩
          case measure => simp [intOf]; omega
    · obtain rfl : j = l.length := by omega
      obtain ⟨wo, rfl⟩ : ∃ wo : World, wo = wr := ⟨_, rfl⟩
      rw [List.take_length] at hs hown ⊢
      obtain ⟨L, hL⟩ : ∃ L, L = kept l := ⟨_, rfl⟩
      have hLl : L.length ≤ 300 := by rw [hL]; exact Nat.le_trans (kept_le l) h2
      have hal : alln (cnl l) = L.length := by rw [hL]; exact alln_cnl l
      have hkn : kindn (cnl l) what = cntN what l := kindn_cnl l what
      have hof : ofn (cnl l) what task = cntB what task l := ofn_cnl l what task
      have hn0 := cntN_le what l
      have hb0 := cntB_le what task l
      obtain ⟨cn, hcn⟩ : ∃ cn, cn = cnl l := ⟨_, rfl⟩
      have hBc : Hid (∀ i, cn i ≤ 1000000) := Lib.hid (fun i => by rw [hcn]; exact Nat.le_trans (cnl_le l i) (by omega))
      obtain ⟨nn, hnn⟩ : ∃ nn, nn = cntN what l := ⟨_, rfl⟩
      obtain ⟨nb, hnb⟩ : ∃ nb, nb = cntB what task l := ⟨_, rfl⟩
      rw [← hL, ← hcn] at hs
      rw [← hL] at hown
      rw [← hcn] at hal hkn hof
      rw [← hnn] at hkn hn0 ⊢
      rw [← hnb] at hof hb0 ⊢
      obtain ⟨A9, c9, rfl, hc9, hv9⟩ := own_view2 hown rfl
      have hll := lastc_len room L
      obtain ⟨fr, hfr⟩ : ∃ fr, fr = L.length - room := ⟨_, rfl⟩
      have hget : Hid (∀ i, (lastc room L)[i]? = L[fr + i]?) := Lib.hid (fun i => by unfold lastc; rw [List.getElem?_drop, ← hfr])
      have X1 := events_any hs
      obtain ⟨K, hK⟩ : ∃ K, K = lastc room L := ⟨_, rfl⟩
      rw [← hK] at hll hget X1
      obtain ⟨m, hm⟩ : ∃ m, m = K.length := ⟨_, rfl⟩
      rw [← hm] at X1
      have hsum : fr + m = L.length := by rw [hm, hll]; split <;> omega
      have hS := Lib.hid hs
      have hBl := Lib.hid hbel
      have i4 : (nn : Int) ≤ 300 := by omega
      have i5 : (nb : Int) ≤ 300 := by omega
      have i6 : (L.length : Int) ≤ 300 := by omega
      have hwo : Hid (w.heap.size ≤ wo.heap.size) := Lib.hid hbel.size
      obtain ⟨q9, hq9⟩ : ∃ q9, q9 = L.length := ⟨_, rfl⟩
      rw [← hq9] at hal hfr hsum i6 hv9 hc9 ⊢
      replace hal := Lib.hid hal
      replace hkn := Lib.hid hkn
      replace hof := Lib.hid hof
      replace hv9 := Lib.hid hv9
      replace hq9 := Lib.hid hq9
      clear hs hbel hown hs2 hB2 hcn hnn hnb hll hL hK hn0 hb0
      go_upto_if 102 with (fail)
      go_cut [15] (fun s wx => s = .int .i64 (fr : Int) ∧ wx = wo)
      case first =>
        by_cases hc : room < q9
        · have g1 : decide (room < q9) = true := by simpa using hc
          have g2 : (room : Int) < (q9 : Int) := by omega
          have e : (fr : Int) = (q9 : Int) - (room : Int) := by omega
          replace e := Lib.hid e
          replace hfr := Lib.hid hfr
          replace hsum := Lib.hid hsum
          replace hm := Lib.hid hm
          go_wp2_with fail
          go_meet
          exact ⟨by rw [e.out], rfl⟩
        · have g1 : decide (room < q9) = false := by simpa using hc
          have g2 : (q9 : Int) ≤ (room : Int) := by omega
          obtain rfl : fr = 0 := by omega
          replace hfr := Lib.hid hfr
          replace hsum := Lib.hid hsum
          replace hm := Lib.hid hm
          go_wp2_with fail
          go_meet
          exact ⟨rfl, rfl⟩
      case rest =>
        obtain ⟨rfl, rfl⟩ := hcut
        have e1 : (q9 : Int) - (fr : Int) = (m : Int) := by omega
        have i7 : (m : Int) ≤ 300 := by omega
        have i8 : (fr : Int) ≤ 300 := by omega
        replace hfr := Lib.hid hfr
        replace e1 := Lib.hid e1
        clear hsum
        go_wp2_with fail
        refine X1.mono ?_; rintro e w7 ⟨v, rfl, ho, hb⟩
        obtain ⟨A7, c7, rfl, hc7, hv7⟩ := own_view2 ho hm
        have hS7 := Lib.hid (hS.out.below hb)
        have hB7 := Lib.hid (hBl.out.trans (hb.mono hwo.out))
        have hv97 := Lib.hid (fun (h0 : 0 < q9) => by
          obtain ⟨g6, f1, f2, f3, f6⟩ := hv9.out h0
          exact (⟨g6, f1, fun i x hx j hj => ((hb.cell (p := ⟨g6, i * 5 + j, none⟩) f3).trans (f6 i x hx j hj))⟩ : ∃ g6, A9 = some ⟨g6, 0, none⟩ ∧ ∀ i x, L[i]? = some x → ∀ j, j < 5 → w7.cell? ⟨g6, i * 5 + j, none⟩ = (l5 x)[j]?))
        have X2 := talln_any hS7.out hBc.out
        have X3 := count_any hS7.out what hBc.out
        have X4 := of_any hS7.out what task
        rw [hal.out] at X2
        rw [hkn.out] at X3
        rw [hof.out] at X4
        have X2 := Lib.hid X2
        replace X3 := Lib.hid X3
        replace X4 := Lib.hid X4
        replace hv7 := Lib.hid hv7
        replace hm := Lib.hid hm
        clear ho hb X1 hS hBl hv9
        have e1' := e1.out
        go_wp2_with fail
        refine X2.out.mono ?_; rintro e w8 ⟨rfl, hw8⟩
        subst hw8
        go_wp2_with fail
        refine X3.out.mono ?_; rintro e w8 ⟨rfl, hw8⟩
        subst hw8
        go_wp2_with fail
        refine X4.out.mono ?_; rintro e w8 ⟨rfl, hw8⟩
        subst hw8
        clear X2 X3 X4 e1'
        go_wp2_with fail
        go_loopw [17] (fun s wr => ∃ j : Nat, j ≤ m ∧ s = .int .i64 (j : Int) ∧ ∃ n, wr = w8.drewN n) (fun s _ => m - (intOf s).toNat)
        case atStart => exact ⟨0, Nat.zero_le _, rfl, 0, rfl⟩
        case round =>
          obtain ⟨j, hj, rfl, n, hw⟩ := hrel
          by_cases hlt : j < m
          · have hjm : j < K.length := by rw [← hm.out]; exact hlt
            obtain ⟨x, hx⟩ : ∃ x, K[j]? = some x := ⟨K[j], by simp [hjm]⟩
            have hx2 : L[fr + j]? = some x := (hget.out j).symm.trans hx
            have hfj : fr + j < L.length := by
              rcases Nat.lt_or_ge (fr + j) L.length with h | h
              · exact h
              · rw [List.getElem?_eq_none h] at hx2; cases hx2
            have hfq : fr + j < q9 := by rw [hq9.out]; exact hfj
            obtain ⟨g6, f1, f2⟩ := hv97.out (by omega)
            obtain ⟨g7, d1, _, _, d2⟩ := hv7.out (by omega)
            subst f1 d1
            have hjl : (j : Int) < (m : Int) := by omega
            have hfql : ((fr + j : Nat) : Int) < (q9 : Int) := by omega
            have hw1 : IntKind.i64.wrap ((fr : Int) + (j : Int)) = ((fr + j : Nat) : Int) := by rw [IntWalk.i64_in _ (by omega)]; omega
            have hp0 : (0 : Int) ≤ ((fr + j : Nat) : Int) := by omega
            have a0 : wr.cell? ⟨g7, j * 5, none⟩ = some (.int .i64 x.a) := by rw [hw]; exact d2 j x hx 0 (by omega)
            have a1 : wr.cell? ⟨g7, j * 5 + 1, none⟩ = some (.int .i64 x.b) := by rw [hw]; exact d2 j x hx 1 (by omega)
            have a2 : wr.cell? ⟨g7, j * 5 + 2, none⟩ = some (.int .i64 x.c) := by rw [hw]; exact d2 j x hx 2 (by omega)
            have a3 : wr.cell? ⟨g7, j * 5 + 3, none⟩ = some (.int .i64 x.d) := by rw [hw]; exact d2 j x hx 3 (by omega)
            have a4 : wr.cell? ⟨g7, j * 5 + 4, none⟩ = some (.int .i64 x.e) := by rw [hw]; exact d2 j x hx 4 (by omega)
            have b0 : wr.cell? ⟨g6, (fr + j) * 5, none⟩ = some (.int .i64 x.a) := by rw [hw]; exact f2 (fr + j) x hx2 0 (by omega)
            have b1 : wr.cell? ⟨g6, (fr + j) * 5 + 1, none⟩ = some (.int .i64 x.b) := by rw [hw]; exact f2 (fr + j) x hx2 1 (by omega)
            have b2 : wr.cell? ⟨g6, (fr + j) * 5 + 2, none⟩ = some (.int .i64 x.c) := by rw [hw]; exact f2 (fr + j) x hx2 2 (by omega)
            have b3 : wr.cell? ⟨g6, (fr + j) * 5 + 3, none⟩ = some (.int .i64 x.d) := by rw [hw]; exact f2 (fr + j) x hx2 3 (by omega)
            have b4 : wr.cell? ⟨g6, (fr + j) * 5 + 4, none⟩ = some (.int .i64 x.e) := by rw [hw]; exact f2 (fr + j) x hx2 4 (by omega)
            have hne := ev_ne x
            have hgd := ev_guard x
            replace hw := Lib.hid hw
            replace hx := Lib.hid hx
            replace hx2 := Lib.hid hx2
            clear f2 d2
            go_wp2_with fail
            go_quiet (fail)
            clear hw1
            go_wp2
            go_roundw
            case rel => exact ⟨j + 1, by omega, by go_num, n + nq, by rw [hw.out, World.drewN_drewN]⟩
            case measure => simp [intOf]; omega
          · obtain rfl : j = m := by omega
            obtain ⟨wq, rfl⟩ : ∃ wq : World, wq = wr := ⟨_, rfl⟩
            have hS8 : Hid (TS wq pt p g room L cn) := Lib.hid (by rw [hw]; exact hS7.out)
            have hB8 : Hid (Below w.heap.size w wq) := Lib.hid (by rw [hw]; exact pw_below_drewN hB7.out n)
            have HO := Lib.hid (fun b : Int => of_any hS8.out what b)
            replace hw := Lib.hid hw
            clear hS7 hB7
            go_wp2_with fail
            go_loop [18, 19] (fun n i => ∃ j : Nat, j ≤ 16 ∧ i = .int .i64 (j : Int) ∧ n = .int .i64 (sumn (fun b => ofn cn what (b : Int)) j : Int)) (fun _ i => 16 - (intOf i).toNat)
            case atStart => exact ⟨0, by omega, rfl, rfl⟩
            case round =>
              obtain ⟨j, hj, rfl, rfl⟩ := hrel
              by_cases hlt : j < 16
              · have hlt2 : (j : Int) < 16 := by omega
                have H1 := HO.out (j : Int)
                have hs := sumn_le (f := fun b => ofn cn what (b : Int)) (fun i => ofn_le hBc.out what (i : Int)) j
                have ho := ofn_le hBc.out what (j : Int)
                have hnx : sumn (fun b => ofn cn what (b : Int)) (j + 1) = sumn (fun b => ofn cn what (b : Int)) j + ofn cn what (j : Int) := rfl
                obtain ⟨s, hs2⟩ : ∃ s, s = sumn (fun b => ofn cn what (b : Int)) j := ⟨_, rfl⟩
                obtain ⟨o, ho2⟩ : ∃ o, o = ofn cn what (j : Int) := ⟨_, rfl⟩
                rw [← hs2] at hs hnx ⊢
                rw [← ho2] at H1 ho hnx
                have i1 : (s : Int) ≤ 16000000 := by omega
                have i2 : (o : Int) ≤ 1000000 := by omega
                replace hnx := Lib.hid hnx
                clear hs2 ho2 hs ho
                go_wp2_with fail
                refine H1.mono ?_; rintro e w1 ⟨rfl, rfl⟩
                go_wp2
                go_round
                case rel => exact ⟨j + 1, by omega, by go_num, by rw [hnx.out]; go_num⟩
                case measure => simp [intOf]; omega
              · obtain rfl : j = 16 := by omega
                have ek : sumn (fun b => ofn cn what (b : Int)) 16 = nn := hkn.out
                rw [ek]
                clear ek
                go_wp2
                go_ret
                exact ⟨rfl, hB8.out⟩
set_option maxRecDepth 100000 in
theorem counts_walk (w : World) (room : Int) (wr : (Lit.int .i64 room).wf = true) (A : Option Addr) (l : List Ev) (cap : Nat) (hl : l.length ≤ cap) (hm : cap ≤ maxLen) (ha : ArgN REv 5 w A l) (what : Int) (ww : (Lit.int .i64 what).wf = true) (task : Int) (wt : (Lit.int .i64 task).wf = true) :
    Calls Try.prog 3 #[.int .i64 room, .slice A l.length cap, .int .i64 what, .int .i64 task] w fun e w' => e = .returned (.bool true) ∧ Below w.heap.size w w' := by
  unfold maxLen at hm
  have HA := awake_twice w
  have hx : l.length ≤ 9223372036854775807 := by omega
  by_cases h : l.length ≤ 300
  · by_cases hr : 1 ≤ room ∧ room ≤ 4096
    · obtain ⟨room, rfl⟩ : ∃ n : Nat, room = (n : Int) := ⟨room.toNat, by omega⟩
      exact counts_any w A l cap room what task (by omega) (by omega) (rd_arg ha) h
    · have hn : (l.length : Int) ≤ 300 := by omega
      have HN := Lib.hid (fun W => new_no W room (by omega))
      clear h ha hl hm wr ww wt
      by_cases hr1 : room < 1
      · clear hr
        go_enter Try.func3, Try.ntmps3
        go_wp2_with (first | (go_at_call 7; refine (HA _ (by first | exact Below.refl _ _ | assumption)).mono ?_; rintro e w1 ⟨rfl, hb⟩) | (go_at_call 8; refine (HN.out _).mono ?_; rintro e w2 ⟨rfl, rfl⟩))
        go_ret
        exact ⟨rfl, by assumption⟩
      · have hr2 : 4096 < room := by omega
        clear hr
        go_enter Try.func3, Try.ntmps3
        go_wp2_with (first | (go_at_call 7; refine (HA _ (by first | exact Below.refl _ _ | assumption)).mono ?_; rintro e w1 ⟨rfl, hb⟩) | (go_at_call 8; refine (HN.out _).mono ?_; rintro e w2 ⟨rfl, rfl⟩))
        go_ret
        exact ⟨rfl, by assumption⟩
  · have hn : (300 : Int) < (l.length : Int) := by omega
    clear h ha hl hm wr ww wt
    go_enter Try.func3, Try.ntmps3
    go_wp2_with (go_at_call 7; refine (HA _ (by first | exact Below.refl _ _ | assumption)).mono ?_; rintro e w1 ⟨rfl, hb⟩)
    go_ret
    exact ⟨rfl, by assumption⟩
end Go.Proofs.Ytbcpfbmoednghaa.Tr
