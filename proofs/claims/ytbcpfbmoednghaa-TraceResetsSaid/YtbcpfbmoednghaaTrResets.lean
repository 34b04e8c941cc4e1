/- The walk of TraceResets. -/
import Derived.Test.YtbcpfbmoednghaaTrReset
import Derived.Test.YtbcpfbmoednghaaTrCnt0
namespace Go.Proofs.Ytbcpfbmoednghaa.Tr
open Go.RowKit Go.Proofs.YtbcpfbmoednghaaW.PrintWords Go.Proofs.YtbcpfbmoednghaaW.PrintLast Go.Proofs.YtbcpfbmoednghaaW.PrintMore Go.Proofs.Ytbcpfbmoednghaa.Ring Go.Proofs.Ytbcpfbmoednghaa.Ring5 Go.Proofs.Ytbcpfbmoednghaa.Args
set_option linter.unusedSimpArgs false
set_option linter.unusedVariables false
/-- A row whose events from j on are K's. -/
def XR (A : Option Addr) (K : List Ev) (n c lo hi j : Nat) (w : World) : Prop := 0 < n → ∃ g cur, A = some ⟨g, 0, none⟩ ∧ lo ≤ g ∧ g < hi ∧ w.heap[g]? = some (.cells cur 30 (0, 0)) ∧ cur.size = c * 5 ∧ ∀ i x, j ≤ i → K[i]? = some x → ∀ k, k < 5 → cur[i * 5 + k]? = (l5 x)[k]?
theorem XR.next {K : List Ev} {n c lo hi j g : Nat} {w : World} (h : XR (some ⟨g, 0, none⟩) K n c lo hi j w) : XR (some ⟨g, 0, none⟩) K n c lo hi (j + 1) (put5 w g (j * 5) z5) := fun h0 => by
  obtain ⟨g', cur, e1, e2, e3, e4, e5, e6⟩ := h h0
  obtain rfl : g' = g := by injection e1 with e1; injection e1 with e1; exact e1.symm
  refine ⟨g', _, rfl, e2, e3, blk_set (blk_set (blk_set (blk_set (blk_set e4 _ _) _ _) _ _) _ _) _ _, by simp [e5], fun i x hi hx k hk => ?_⟩
  rw [← e6 i x (by omega) hx k hk]
  rw [Array.getElem?_setIfInBounds_ne (by omega), Array.getElem?_setIfInBounds_ne (by omega), Array.getElem?_setIfInBounds_ne (by omega), Array.getElem?_setIfInBounds_ne (by omega), Array.getElem?_setIfInBounds_ne (by omega)]
theorem own_xr {w : World} {base n : Nat} {v : Value} {K : List Ev} (h : w.ownsRow base 30 5 v n (flat K)) (hn : n = K.length) :
    ∃ A cap, v = .slice A n cap ∧ n ≤ cap ∧ XR A K n cap base w.heap.size 0 w := by
  subst hn
  obtain ⟨A, cap, h1, h2, h3⟩ := own_view h rfl
  refine ⟨A, cap, h1, h2, fun hp => ?_⟩
  obtain ⟨g, cur, k1, k2, k3, k4, k5, k6⟩ := h3 hp
  exact ⟨g, cur, k1, k2, k3, k4, k5, fun i x _ hx k hk => by rw [← blk_cell k4]; exact k6 i x hx k hk⟩
theorem add_at {w : World} {pt p g c : Nat} {l l' : List Ev} {cb : Bool} (h : TS w pt p g c (kept l) (cnl l)) (x : Ev) (hl : l.length ≤ 1000000) (hcb : ctd x = cb) (he : l ++ [x] = l') :
    Calls Try.prog 9 #[.pointer (some ⟨pt, 0, none⟩), .agg (l5 x).toArray] w fun e w' => e = .returned (.bool cb) ∧ TS w' pt p g c (kept l') (cnl l') ∧ Kept w w' (fun k => k = pt ∨ k = p ∨ k = g) ∧ ∀ B, B ≤ pt → B ≤ p → B ≤ g → Below B w w' := by
  subst hcb he
  exact add_any h x hl
set_option maxRecDepth 100000 in
set_option maxHeartbeats 4000000 in
theorem resets_any (w : World) (A : Option Addr) (l : List Ev) (cap : Nat) (A2 : Option Addr) (l2 : List Ev) (cap2 : Nat) (ha : RdEv w A l) (ha2 : RdEv w A2 l2) (h2 : l.length ≤ 300) (h3 : l2.length ≤ 300) :
    Calls Try.prog 6 #[.slice A l.length cap, .slice A2 l2.length cap2] w fun e w' => e = .returned (.bool true) ∧ Below w.heap.size w w' := by
  have i1 : (l.length : Int) ≤ 300 := by omega
  have i2 : (l2.length : Int) ≤ 300 := by omega
  have hN := Lib.hid (fun W => show Calls Try.prog 8 #[.int .i64 5] W _ from new_yes W 5 (by omega) (by omega))
  have HC := Lib.hid ha
  have HC2 := Lib.hid ha2
  clear ha ha2
  go_enter Try.func6, Try.ntmps6
  go_wp2_with fail
  refine (awake_any _).mono ?_; rintro e w1 ⟨rfl, hb1⟩
  replace hb1 := Lib.hid hb1
  go_wp2_with fail
  refine (hN.out _).mono ?_; rintro e w2 ⟨pt, p, g, rfl, hs, hpt, hp, hg, hb2⟩
  have hs2 : Hid (TS w2 pt p g 5 (kept []) (cnl [])) := Lib.hid hs
  have hB2 := Lib.hid (hb1.out.trans (hb2.mono hb1.out.size))
  have hpt' : w.heap.size ≤ pt := Nat.le_trans hb1.out.size hpt
  have hp' : w.heap.size ≤ p := Nat.le_trans hb1.out.size hp
  have hg' : w.heap.size ≤ g := Nat.le_trans hb1.out.size hg
  clear hs hb2 hpt hp hg hb1
  go_wp2_with fail
  refine (hN.out _).mono ?_; rintro e w3 ⟨qt, q, r, rfl, hs, hqt, hq, hr, hb3⟩
  have hlt2 := hs2.out.lt
  have hs3 := Lib.hid (hs2.out.below hb3)
  have ht3 : Hid (TS w3 qt q r 5 (kept []) (cnl [])) := Lib.hid hs
  have hB3 := Lib.hid (hB2.out.trans (hb3.mono hB2.out.size))
  obtain ⟨B, hB⟩ : ∃ B, B = w2.heap.size := ⟨_, rfl⟩
  have hwB : w.heap.size ≤ B := by rw [hB]; exact hB2.out.size
  rw [← hB] at hlt2 hqt hq hr
  clear hs hb3 hB2 hs2 hB
  go_wp2_with fail
  go_loopw [9] (fun s wr => ∃ j : Nat, j ≤ l.length ∧ s = .int .i64 (j : Int) ∧ TS wr pt p g 5 (kept (l.take j)) (cnl (l.take j)) ∧ TS wr qt q r 5 (kept []) (cnl []) ∧ Below w.heap.size w wr) (fun s _ => l.length - (intOf s).toNat)
  case atStart => exact ⟨0, Nat.zero_le _, rfl, by rw [List.take_zero]; exact hs3.out, ht3.out, hB3.out⟩
  case round =>
    obtain ⟨j, hj, rfl, hs, ht4, hbel⟩ := hrel
    by_cases hlt : j < l.length
    · obtain ⟨b, off, rfl, hbw, hcell⟩ := HC.out (by omega)
      obtain ⟨x, hx⟩ : ∃ x, l[j]? = some x := ⟨l[j], by simp [hlt]⟩
      have hjl : (j : Int) < (l.length : Int) := by omega
      have CX := Lib.hid (fun (W : World) (hW : Below w.heap.size w W) (i : Nat) (hi : i < 5) => (hW.cell (p := ⟨b, off + j * 5 + i, none⟩) hbw).trans (hcell j x hx i hi))
      have a0 : wr.cell? ⟨b, off + j * 5, none⟩ = some (.int .i64 x.a) := CX.out wr hbel 0 (by omega)
      have a1 : wr.cell? ⟨b, off + j * 5 + 1, none⟩ = some (.int .i64 x.b) := CX.out wr hbel 1 (by omega)
      have a2 : wr.cell? ⟨b, off + j * 5 + 2, none⟩ = some (.int .i64 x.c) := CX.out wr hbel 2 (by omega)
      have a3 : wr.cell? ⟨b, off + j * 5 + 3, none⟩ = some (.int .i64 x.d) := CX.out wr hbel 3 (by omega)
      have a4 : wr.cell? ⟨b, off + j * 5 + 4, none⟩ = some (.int .i64 x.e) := CX.out wr hbel 4 (by omega)
      have X1 := add_any hs x (by rw [List.length_take]; omega)
      have e1 : l.take j ++ [x] = l.take (j + 1) := by rw [List.take_add_one, hx]; rfl
      rw [e1] at X1
      have hT := Lib.hid ht4
      have hBl := Lib.hid hbel
      clear hx hs ht4 hbel hs3 ht3 hB3 e1 hcell
      go_wp2_with fail
      refine X1.mono ?_; rintro e w4 ⟨rfl, hs4, hk4, hb4⟩
      have hS4 := Lib.hid hs4
      have hT4 := Lib.hid (hT.out.apart hk4 (by rintro (h | h | h) <;> omega) (by rintro (h | h | h) <;> omega) (by rintro (h | h | h) <;> omega))
      have hB4 := Lib.hid (hBl.out.trans (hb4 _ hpt' hp' hg'))
      clear hs4 hk4 hb4 a0 a1 a2 a3 a4 X1
      go_wp2
      go_roundw
      case rel => exact ⟨j + 1, by omega, by go_num, hS4.out, hT4.out, hB4.out⟩
      case measure => simp [intOf]; omega
    · obtain rfl : j = l.length := by omega
      obtain ⟨wo, rfl⟩ : ∃ wo : World, wo = wr := ⟨_, rfl⟩
      have X1 := reset_any hs
      have hT := Lib.hid ht4
      have hBl := Lib.hid hbel
      clear hs ht4 hbel hs3 ht3 hB3
      go_wp2_with fail
      refine X1.mono ?_; rintro e w4 ⟨⟨v, rfl⟩, hs4, hk4, hb4⟩
      have hS4 : Hid (TS w4 pt p g 5 (kept []) (cnl [])) := Lib.hid hs4
      have hT4 := Lib.hid (hT.out.apart hk4 (by rintro (h | h | h) <;> omega) (by rintro (h | h | h) <;> omega) (by rintro (h | h | h) <;> omega))
      have hB4 := Lib.hid (hBl.out.trans (hb4 _ hpt' hp' hg'))
      have X2 := talln_any hs4 (fun i => Nat.zero_le _)
      have X3 := events_any hs4
      rw [alln_zero] at X2
      rw [show lastc 5 ([] : List Ev) = [] by rfl] at X3
      clear hs4 hk4 hb4 X1 hT hBl
      go_wp2_with fail
      refine X2.mono ?_; rintro e w5 ⟨rfl, hw5⟩
      subst hw5
      go_wp2_with fail
      refine X3.mono ?_; rintro e w6 ⟨v6, rfl, ho, hb⟩
      obtain ⟨A6, c6, rfl, hc6, _⟩ := own_view2 ho rfl
      have hS6 := Lib.hid (hS4.out.below hb)
      have hT6 := Lib.hid (hT4.out.below hb)
      have hB6 := Lib.hid (hB4.out.trans (hb.mono hB4.out.size))
      clear ho hb X2 X3 hS4 hT4 hB4
      go_wp2_with fail
      go_loopw [10] (fun s wr => ∃ j : Nat, j ≤ l2.length ∧ s = .int .i64 (j : Int) ∧ TS wr pt p g 5 (kept (l2.take j)) (cnl (l2.take j)) ∧ TS wr qt q r 5 (kept (l2.take j)) (cnl (l2.take j)) ∧ Below w.heap.size w wr) (fun s _ => l2.length - (intOf s).toNat)
      case atStart => exact ⟨0, Nat.zero_le _, rfl, by rw [List.take_zero]; exact hS6.out, by rw [List.take_zero]; exact hT6.out, hB6.out⟩
      case round =>
        obtain ⟨j, hj, rfl, hs, ht4, hbel⟩ := hrel
        by_cases hlt : j < l2.length
        · obtain ⟨b, off, rfl, hbw, hcell⟩ := HC2.out (by omega)
          obtain ⟨x, hx⟩ : ∃ x, l2[j]? = some x := ⟨l2[j], by simp [hlt]⟩
          have hjl : (j : Int) < (l2.length : Int) := by omega
          have CX := Lib.hid (fun (W : World) (hW : Below w.heap.size w W) (i : Nat) (hi : i < 5) => (hW.cell (p := ⟨b, off + j * 5 + i, none⟩) hbw).trans (hcell j x hx i hi))
          have a0 : wr.cell? ⟨b, off + j * 5, none⟩ = some (.int .i64 x.a) := CX.out wr hbel 0 (by omega)
          have a1 : wr.cell? ⟨b, off + j * 5 + 1, none⟩ = some (.int .i64 x.b) := CX.out wr hbel 1 (by omega)
          have a2 : wr.cell? ⟨b, off + j * 5 + 2, none⟩ = some (.int .i64 x.c) := CX.out wr hbel 2 (by omega)
          have a3 : wr.cell? ⟨b, off + j * 5 + 3, none⟩ = some (.int .i64 x.d) := CX.out wr hbel 3 (by omega)
          have a4 : wr.cell? ⟨b, off + j * 5 + 4, none⟩ = some (.int .i64 x.e) := CX.out wr hbel 4 (by omega)
          obtain ⟨cb, hcb⟩ : ∃ cb, ctd x = cb := ⟨_, rfl⟩
          have e1 : l2.take j ++ [x] = l2.take (j + 1) := by rw [List.take_add_one, hx]; rfl
          have hML : (l2.take j).length ≤ 1000000 := by rw [List.length_take]; omega
          have HA : Hid (∀ W', W' = wr.drew → Calls Try.prog 9 #[.pointer (some ⟨pt, 0, none⟩), .agg (l5 x).toArray] W' fun e w' => e = .returned (.bool cb) ∧ TS w' pt p g 5 (kept (l2.take (j + 1))) (cnl (l2.take (j + 1))) ∧ Kept wr w' (fun k => k = pt ∨ k = p ∨ k = g) ∧ ∀ B, B ≤ pt → B ≤ p → B ≤ g → Below B wr w') := Lib.hid (fun W' hW' => by
            subst hW'
            exact (add_at (w := wr.drew) hs x hML hcb e1).mono fun _ _ ⟨he, h1, h2, h3⟩ => ⟨he, h1, h2, fun B k1 k2 k3 => ((Below.refl B wr).drew).trans (h3 B k1 k2 k3)⟩)
          have hT := Lib.hid ht4
          have hBl := Lib.hid hbel
          have hEE := Lib.hid e1
          replace hcb := Lib.hid hcb
          clear hx hs ht4 hbel e1 hcell hS6 hT6 hB6
          go_wp2_with fail
          refine start_ (n := 13) (S := fun w' => w'.cell? ⟨b, off + j * 5, none⟩ = some (.int .i64 x.a) ∧ w'.cell? ⟨b, off + j * 5 + 1, none⟩ = some (.int .i64 x.b) ∧ w'.cell? ⟨b, off + j * 5 + 2, none⟩ = some (.int .i64 x.c) ∧ w'.cell? ⟨b, off + j * 5 + 3, none⟩ = some (.int .i64 x.d) ∧ w'.cell? ⟨b, off + j * 5 + 4, none⟩ = some (.int .i64 x.e)) (ds := []) #[false, false, false, false, false, false, false, false, false, false, false, false, false] (by kernel_rfl) rfl rfl ⟨a0, a1, a2, a3, a4⟩ (fun hHeld => ?_)
          refine pure_ (i := 0) (N := (some 80)) (v := ?_) (a' := ?_) #[true, false, false, false, false, false, false, false, false, false, false, false, false] rfl rfl (by kernel_rfl) (fun _ _ _ h => h) (Or.inl ⟨by rfl, ?_⟩) ?_ ?_
          rotate_left
          · intro w'
            go_simp
            with_reducible rfl
          rotate_left
          · simp only [Act.put, List.setIfInBounds_toArray, List.set_cons_zero, List.set_cons_succ, i64_w, i32_w]
            rfl
          refine pure_ (i := 1) (N := (some 81)) (v := ?_) (a' := ?_) #[true, true, false, false, false, false, false, false, false, false, false, false, false] rfl rfl (by kernel_rfl) (fun _ _ _ h => h) (Or.inl ⟨by rfl, ?_⟩) ?_ ?_
          rotate_left
          · intro w'
            go_simp
            with_reducible rfl
          rotate_left
          · simp only [Act.put, List.setIfInBounds_toArray, List.set_cons_zero, List.set_cons_succ, i64_w, i32_w]
            rfl
          refine pure_ (i := 2) (N := (some 82)) (v := ?_) (a' := ?_) #[true, true, true, false, false, false, false, false, false, false, false, false, false] rfl rfl (by kernel_rfl) (fun _ _ _ h => h) (Or.inl ⟨by rfl, ?_⟩) ?_ ?_
          rotate_left
          · intro w'
            go_simp
            with_reducible rfl
          rotate_left
          · simp only [Act.put, List.setIfInBounds_toArray, List.set_cons_zero, List.set_cons_succ, i64_w, i32_w]
            rfl
          refine pure_ (i := 3) (N := (some 83)) (v := ?_) (a' := ?_) #[true, true, true, true, false, false, false, false, false, false, false, false, false] rfl rfl (by kernel_rfl) (fun _ _ _ h => h) (Or.inl ⟨by rfl, ?_⟩) ?_ ?_
          rotate_left
          · intro w'
            go_simp
            with_reducible rfl
          rotate_left
          · simp only [Act.put, List.setIfInBounds_toArray, List.set_cons_zero, List.set_cons_succ, i64_w, i32_w]
            rfl
          refine take_ (i := 4) (N := (some 84)) (v := ?_) (a' := ?_) #[true, true, true, true, true, false, false, false, false, false, false, false, false] rfl rfl (by kernel_rfl) (fun _ _ _ h => h) (Or.inl ⟨by rfl, ?_⟩) hHeld ?_ ?_
          rotate_left
          · rintro w' ⟨s0, s1, s2, s3, s4⟩
            go_simp
            with_reducible rfl
          rotate_left
          · simp only [Act.put, List.setIfInBounds_toArray, List.set_cons_zero, List.set_cons_succ, i64_w, i32_w]
            rfl
          refine pure_ (i := 6) (N := (some 86)) (v := ?_) (a' := ?_) #[true, true, true, true, true, false, true, false, false, false, false, false, false] rfl rfl (by kernel_rfl) (fun _ _ _ h => h) (Or.inl ⟨by rfl, ?_⟩) ?_ ?_
          rotate_left
          · intro w'
            go_simp
            with_reducible rfl
          rotate_left
          · simp only [Act.put, List.setIfInBounds_toArray, List.set_cons_zero, List.set_cons_succ, i64_w, i32_w]
            rfl
          refine pure_ (i := 7) (N := (some 87)) (v := ?_) (a' := ?_) #[true, true, true, true, true, false, true, true, false, false, false, false, false] rfl rfl (by kernel_rfl) (fun _ _ _ h => h) (Or.inl ⟨by rfl, ?_⟩) ?_ ?_
          rotate_left
          · intro w'
            go_simp
            with_reducible rfl
          rotate_left
          · simp only [Act.put, List.setIfInBounds_toArray, List.set_cons_zero, List.set_cons_succ, i64_w, i32_w]
            rfl
          refine pure_ (i := 8) (N := (some 88)) (v := ?_) (a' := ?_) #[true, true, true, true, true, false, true, true, true, false, false, false, false] rfl rfl (by kernel_rfl) (fun _ _ _ h => h) (Or.inl ⟨by rfl, ?_⟩) ?_ ?_
          rotate_left
          · intro w'
            go_simp
            with_reducible rfl
          rotate_left
          · simp only [Act.put, List.setIfInBounds_toArray, List.set_cons_zero, List.set_cons_succ, i64_w, i32_w]
            rfl
          refine pure_ (i := 9) (N := (some 89)) (v := ?_) (a' := ?_) #[true, true, true, true, true, false, true, true, true, true, false, false, false] rfl rfl (by kernel_rfl) (fun _ _ _ h => h) (Or.inl ⟨by rfl, ?_⟩) ?_ ?_
          rotate_left
          · intro w'
            go_simp
            with_reducible rfl
          rotate_left
          · simp only [Act.put, List.setIfInBounds_toArray, List.set_cons_zero, List.set_cons_succ, i64_w, i32_w]
            rfl
          refine take_ (i := 10) (N := (some 90)) (v := ?_) (a' := ?_) #[true, true, true, true, true, false, true, true, true, true, true, false, false] rfl rfl (by kernel_rfl) (fun _ _ _ h => h) (Or.inl ⟨by rfl, ?_⟩) hHeld ?_ ?_
          rotate_left
          · rintro w' ⟨s0, s1, s2, s3, s4⟩
            go_simp
            with_reducible rfl
          rotate_left
          · simp only [Act.put, List.setIfInBounds_toArray, List.set_cons_zero, List.set_cons_succ, i64_w, i32_w]
            rfl
          refine one_ (i := 5) (N := (some 85)) #[true, true, true, true, true, true, true, true, true, true, true, false, false] rfl rfl (by kernel_rfl) (by decide) (fun K hK => ?_)
          refine goes_ Try.func9 (by kernel_rfl) rfl #[.pointer (some ⟨pt, 0, none⟩), .agg (l5 x).toArray] (by rfl) rfl rfl (by (try simp only [List.map_toArray, List.map_cons, List.map_nil]); first | done | rfl) ?_
          refine (HA.out _ rfl).mono ?_
          rintro e w4 ⟨rfl, hs4, hk4, hb4⟩
          have hB4 := Lib.hid (hBl.out.trans (hb4 _ hpt' hp' hg'))
          have q0 : w4.cell? ⟨b, off + j * 5, none⟩ = some (.int .i64 x.a) := CX.out w4 hB4.out 0 (by omega)
          have q1 : w4.cell? ⟨b, off + j * 5 + 1, none⟩ = some (.int .i64 x.b) := CX.out w4 hB4.out 1 (by omega)
          have q2 : w4.cell? ⟨b, off + j * 5 + 2, none⟩ = some (.int .i64 x.c) := CX.out w4 hB4.out 2 (by omega)
          have q3 : w4.cell? ⟨b, off + j * 5 + 3, none⟩ = some (.int .i64 x.d) := CX.out w4 hB4.out 3 (by omega)
          have q4 : w4.cell? ⟨b, off + j * 5 + 4, none⟩ = some (.int .i64 x.e) := CX.out w4 hB4.out 4 (by omega)
          have hT4 := Lib.hid (hT.out.apart hk4 (by rintro (h | h | h) <;> omega) (by rintro (h | h | h) <;> omega) (by rintro (h | h | h) <;> omega))
          have hS4 := Lib.hid hs4
          clear hs4 hk4 hb4
          refine ⟨_, rfl, ?_⟩
          refine hK.out _ _ ⟨q0, q1, q2, q3, q4⟩ (fun hHeld => ?_)
          clear q0 q1 q2 q3 q4
          clear hK K
          refine norm_ (a' := ?_) ?_ ?_
          rotate_left
          · show Act.put _ (some 85) _ = _
            simp only [Act.put, List.setIfInBounds_toArray, List.set_cons_zero, List.set_cons_succ, i64_w, i32_w]
            rfl
          refine one_ (i := 11) (N := (some 91)) #[true, true, true, true, true, true, true, true, true, true, true, true, false] rfl rfl (by kernel_rfl) (by decide) (fun K hK => ?_)
          refine goes_ Try.func9 (by kernel_rfl) rfl #[.pointer (some ⟨qt, 0, none⟩), .agg (l5 x).toArray] (by rfl) rfl rfl (by (try simp only [List.map_toArray, List.map_cons, List.map_nil]); first | done | rfl) ?_
          refine (add_at (hcb := hcb.out) (he := hEE.out) hT4.out x hML).mono ?_
          rintro e w5 ⟨rfl, ht5, hk5, hb5⟩
          have hB5 := Lib.hid (hB4.out.trans (hb5 w.heap.size (by omega) (by omega) (by omega)))
          have q0 : w5.cell? ⟨b, off + j * 5, none⟩ = some (.int .i64 x.a) := CX.out w5 hB5.out 0 (by omega)
          have q1 : w5.cell? ⟨b, off + j * 5 + 1, none⟩ = some (.int .i64 x.b) := CX.out w5 hB5.out 1 (by omega)
          have q2 : w5.cell? ⟨b, off + j * 5 + 2, none⟩ = some (.int .i64 x.c) := CX.out w5 hB5.out 2 (by omega)
          have q3 : w5.cell? ⟨b, off + j * 5 + 3, none⟩ = some (.int .i64 x.d) := CX.out w5 hB5.out 3 (by omega)
          have q4 : w5.cell? ⟨b, off + j * 5 + 4, none⟩ = some (.int .i64 x.e) := CX.out w5 hB5.out 4 (by omega)
          have hS5 := Lib.hid (hS4.out.le (hb5 B hqt hq hr) hlt2.1 hlt2.2.1 hlt2.2.2)
          have hT5 := Lib.hid ht5
          clear ht5 hk5 hb5 hB4 hT4 hS4
          refine ⟨_, rfl, ?_⟩
          refine hK.out _ _ ⟨q0, q1, q2, q3, q4⟩ (fun hHeld => ?_)
          clear q0 q1 q2 q3 q4
          clear hK K
          refine norm_ (a' := ?_) ?_ ?_
          rotate_left
          · show Act.put _ (some 91) _ = _
            simp only [Act.put, List.setIfInBounds_toArray, List.set_cons_zero, List.set_cons_succ, i64_w, i32_w]
            rfl
          refine pure_ (i := 12) (N := (some 92)) (v := ?_) (a' := ?_) #[true, true, true, true, true, true, true, true, true, true, true, true, true] rfl rfl (by kernel_rfl) (fun _ _ _ h => h) (Or.inl ⟨by rfl, ?_⟩) ?_ ?_
          rotate_left
          · intro w'
            go_simp
            with_reducible rfl
          rotate_left
          · simp only [Act.put, List.setIfInBounds_toArray, List.set_cons_zero, List.set_cons_succ, i64_w, i32_w]
            rfl
          refine done_ (by kernel_rfl) ?_
          have hcc : (cb != cb) = false := by cases cb <;> rfl
          go_wp2
          go_roundw
          case rel => exact ⟨j + 1, by omega, by go_num, hS5.out, hT5.out, hB5.out⟩
          case measure => simp [intOf]; omega
        · obtain rfl : j = l2.length := by omega
          obtain ⟨wp, rfl⟩ : ∃ wp : World, wp = wr := ⟨_, rfl⟩
          rw [List.take_length] at hs ht4
          obtain ⟨cn, hcn⟩ : ∃ cn, cn = cnl l2 := ⟨_, rfl⟩
          obtain ⟨M, hM⟩ : ∃ M, M = kept l2 := ⟨_, rfl⟩
          have hBc : Hid (∀ i, cn i ≤ 1000000) := Lib.hid (fun i => by rw [hcn]; exact Nat.le_trans (cnl_le l2 i) (by omega))
          have hal : alln cn = M.length := by rw [hcn, hM]; exact alln_cnl l2
          rw [← hcn, ← hM] at hs ht4
          have hMl : M.length ≤ 300 := by rw [hM]; exact Nat.le_trans (kept_le l2) h3
          obtain ⟨K, hK⟩ : ∃ K, K = lastc 5 M := ⟨_, rfl⟩
          obtain ⟨m, hm⟩ : ∃ m, m = K.length := ⟨_, rfl⟩
          have hm5 : m ≤ 5 := by rw [hm, hK, lastc_len]; split <;> omega
          have i3 : (m : Int) ≤ 5 := by omega
          have hHe : Hid (∀ W : World, TS W pt p g 5 M cn → Calls Try.prog 11 #[.pointer (some ⟨pt, 0, none⟩)] W fun e w' => ∃ v, e = .returned v ∧ w'.ownsRow W.heap.size 30 5 v m (flat K) ∧ Below W.heap.size W w') := Lib.hid (fun W hW => by rw [hm, hK]; exact events_any hW)
          have hHe2 : Hid (∀ W : World, TS W qt q r 5 M cn → Calls Try.prog 11 #[.pointer (some ⟨qt, 0, none⟩)] W fun e w' => ∃ v, e = .returned v ∧ w'.ownsRow W.heap.size 30 5 v m (flat K) ∧ Below W.heap.size W w') := Lib.hid (fun W hW => by rw [hm, hK]; exact events_any hW)
          have hltS := hs.lt
          have hltT := ht4.lt
          have hS := Lib.hid hs
          have hT := Lib.hid ht4
          have hBl := Lib.hid hbel
          have hwp : Hid (w.heap.size ≤ wp.heap.size) := Lib.hid hbel.size
          replace hm := Lib.hid hm
          replace hal := Lib.hid hal
          clear hs ht4 hbel hS6 hT6 hB6 hcn hM hK
          go_wp2_with fail
          refine (hHe.out _ hS.out).mono ?_; rintro e w7 ⟨v, rfl, ho, hb⟩
          obtain ⟨A7, c7, rfl, hc7, hx7⟩ := own_xr ho hm.out
          have hS7 := Lib.hid (hS.out.below hb)
          have hT7 := Lib.hid (hT.out.below hb)
          have hB7 := Lib.hid (hBl.out.trans (hb.mono hwp.out))
          have hw7 : wp.heap.size ≤ w7.heap.size := hb.size
          replace hx7 := Lib.hid hx7
          clear ho hb hS hT hBl
          go_wp2_with fail
          refine (hHe2.out _ hT7.out).mono ?_; rintro e w8 ⟨v, rfl, ho, hb⟩
          obtain ⟨A8, c8, rfl, hc8, hv8⟩ := own_view2 ho hm.out
          have hS8 := Lib.hid (hS7.out.below hb)
          have hT8 := Lib.hid (hT7.out.below hb)
          have hB8 := Lib.hid (hB7.out.trans (hb.mono hB7.out.size))
          have hx8 : Hid (XR A7 K m c7 wp.heap.size w7.heap.size 0 w8) := Lib.hid (fun h0 => by
            obtain ⟨g7, cur, e1, e2, e3, e4, e5, e6⟩ := hx7.out h0
            exact ⟨g7, cur, e1, e2, e3, (hb.block g7 e3).trans e4, e5, e6⟩)
          obtain ⟨n7, hn7⟩ : ∃ n7, n7 = w7.heap.size := ⟨_, rfl⟩
          rw [← hn7] at hw7 hx8 hv8
          have hw8 : Hid (n7 ≤ w8.heap.size) := Lib.hid (by rw [hn7]; exact hb.size)
          replace hv8 := Lib.hid hv8
          clear ho hb hS7 hT7 hB7 hx7 hn7
          have X1 := talln_any hS8.out hBc.out
          have X2 := talln_any hT8.out hBc.out
          rw [hal.out] at X1 X2
          go_wp2_with fail
          refine X1.mono ?_; rintro e w9 ⟨rfl, hw9⟩
          subst hw9
          go_wp2_with fail
          refine X2.mono ?_; rintro e w9 ⟨rfl, hw9⟩
          subst hw9
          clear X1 X2
          go_wp2_with fail
          go_loopw [13] (fun s wr => ∃ j : Nat, j ≤ m ∧ s = .int .i64 (j : Int) ∧ Kept w9 wr (fun k => 0 < m ∧ A7 = some ⟨k, 0, none⟩) ∧ Below wp.heap.size w9 wr ∧ XR A7 K m c7 wp.heap.size n7 j wr) (fun s _ => m - (intOf s).toNat)
          case atStart => exact ⟨0, Nat.zero_le _, rfl, Kept.refl _ _, Below.refl _ _, hx8.out⟩
          case round =>
            obtain ⟨j, hj, rfl, hk, hbel, hxr⟩ := hrel
            have hfar : ∀ k, k < wp.heap.size → ¬ (0 < m ∧ A7 = some ⟨k, 0, none⟩) := fun k hk0 h => by
              obtain ⟨g5, cur5, e1, e2, _⟩ := hxr h.1
              rw [e1] at h
              have := h.2
              injection this with this
              injection this with this
              omega
            have hfar8 : ∀ k, n7 ≤ k → ¬ (0 < m ∧ A7 = some ⟨k, 0, none⟩) := fun k hk0 h => by
              obtain ⟨g5, cur5, e1, e2, e3, _⟩ := hxr h.1
              rw [e1] at h
              have := h.2
              injection this with this
              injection this with this
              omega
            by_cases hlt : j < m
            · have hjm : j < K.length := by rw [← hm.out]; exact hlt
              have hm0 : 0 < m := by omega
              obtain ⟨x, hx⟩ : ∃ x, K[j]? = some x := ⟨K[j], by simp [hjm]⟩
              obtain ⟨g7, cur, e1, e2, e3, e4, e5, e6⟩ := hxr hm0
              obtain ⟨g8, f1, f2, f3, f6⟩ := hv8.out hm0
              have hjl : (j : Int) < (m : Int) := by omega
              have hxc : ∀ k, k < 5 → wr.cell? ⟨g7, j * 5 + k, none⟩ = (l5 x)[k]? := fun k hk => by rw [blk_cell e4]; exact e6 j x (Nat.le_refl _) hx k hk
              have hyc : ∀ k u, k < 5 → (l5 x)[k]? = some u → wr.cell? ⟨g8, j * 5 + k, none⟩ = some u := fun k u hk5 hu => cell_kept (a := ⟨g8, j * 5 + k, none⟩) ((f6 j x hx k hk5).trans hu) hk (hfar8 _ f2)
              have a0 : wr.cell? ⟨g7, j * 5, none⟩ = some (.int .i64 x.a) := hxc 0 (by omega)
              have a1 : wr.cell? ⟨g7, j * 5 + 1, none⟩ = some (.int .i64 x.b) := hxc 1 (by omega)
              have a2 : wr.cell? ⟨g7, j * 5 + 2, none⟩ = some (.int .i64 x.c) := hxc 2 (by omega)
              have a3 : wr.cell? ⟨g7, j * 5 + 3, none⟩ = some (.int .i64 x.d) := hxc 3 (by omega)
              have a4 : wr.cell? ⟨g7, j * 5 + 4, none⟩ = some (.int .i64 x.e) := hxc 4 (by omega)
              have b0 : wr.cell? ⟨g8, j * 5, none⟩ = some (.int .i64 x.a) := hyc 0 _ (by omega) rfl
              have b1 : wr.cell? ⟨g8, j * 5 + 1, none⟩ = some (.int .i64 x.b) := hyc 1 _ (by omega) rfl
              have b2 : wr.cell? ⟨g8, j * 5 + 2, none⟩ = some (.int .i64 x.c) := hyc 2 _ (by omega) rfl
              have b3 : wr.cell? ⟨g8, j * 5 + 3, none⟩ = some (.int .i64 x.d) := hyc 3 _ (by omega) rfl
              have b4 : wr.cell? ⟨g8, j * 5 + 4, none⟩ = some (.int .i64 x.e) := hyc 4 _ (by omega) rfl
              have z0 : wr.frozen? ⟨g7, j * 5, none⟩ = false := blk_frozen e4 _
              have z1 : wr.frozen? ⟨g7, j * 5 + 1, none⟩ = false := blk_frozen e4 _
              have z2 : wr.frozen? ⟨g7, j * 5 + 2, none⟩ = false := blk_frozen e4 _
              have z3 : wr.frozen? ⟨g7, j * 5 + 3, none⟩ = false := blk_frozen e4 _
              have z4 : wr.frozen? ⟨g7, j * 5 + 4, none⟩ = false := blk_frozen e4 _
              have hne := ev_ne x
              have hgd := ev_guard x
              have hz : ∀ W : World, (zeroValue 30).run Try.prog W = .ok (.agg #[.int .i64 0, .int .i64 0, .int .i64 0, .int .i64 0, .int .i64 0]) W := zero_ev
              subst e1 f1
              have hX := Lib.hid hxr.next
              have hKK := Lib.hid (put5_kept (x := z5) (g := g7) (o := j * 5) hk (.inl ⟨hm0, rfl⟩))
              have hBB := Lib.hid (put5_below (x := z5) (g := g7) (o := j * 5) hbel e2)
              replace hx := Lib.hid hx
              clear hk hbel hxr e4 e5 e6 f6 hxc hyc hfar hfar8
              go_wp2_with fail
              go_quiet (fail)
              go_wp2
              go_roundw
              case rel => exact ⟨j + 1, by omega, by go_num, hKK.out.drewN nq, pw_below_drewN hBB.out nq, hX.out⟩
              case measure => simp [intOf]; omega
            · obtain rfl : j = m := by omega
              obtain ⟨wq, rfl⟩ : ∃ wq : World, wq = wr := ⟨_, rfl⟩
              have hSq := Lib.hid (hS8.out.apart hk (hfar _ hltS.1) (hfar _ hltS.2.1) (hfar _ hltS.2.2))
              have hBq := Lib.hid (hB8.out.trans (hbel.mono hwp.out))
              have hvq := Lib.hid (fun (h0 : 0 < j) => by
                obtain ⟨g8, f1, f2, f3, f6⟩ := hv8.out h0
                exact (⟨g8, f1, (Nat.lt_of_lt_of_le f3 hk.1), fun i x hx k u hk5 hu => cell_kept (a := ⟨g8, i * 5 + k, none⟩) ((f6 i x hx k hk5).trans hu) hk (hfar8 _ f2)⟩ : ∃ g8, A8 = some ⟨g8, 0, none⟩ ∧ g8 < wq.heap.size ∧ ∀ i x, K[i]? = some x → ∀ k u, k < 5 → (l5 x)[k]? = some u → wq.cell? ⟨g8, i * 5 + k, none⟩ = some u))
              clear hk hbel hxr hfar hfar8 hS8 hT8 hB8 hx8 hv8
              go_wp2_with fail
              refine (hHe.out _ hSq.out).mono ?_; rintro e wz ⟨v, rfl, ho, hb⟩
              obtain ⟨Az, cz, rfl, hcz, hvz⟩ := own_view2 ho hm.out
              have hBz := Lib.hid (hBq.out.trans (hb.mono hBq.out.size))
              have hvy := Lib.hid (fun (h0 : 0 < j) => by
                obtain ⟨g8, f1, f3, f6⟩ := hvq.out h0
                exact (⟨g8, f1, fun i x hx k u hk5 hu => ((hb.cell (p := ⟨g8, i * 5 + k, none⟩) f3).trans (f6 i x hx k u hk5 hu))⟩ : ∃ g8, A8 = some ⟨g8, 0, none⟩ ∧ ∀ i x, K[i]? = some x → ∀ k u, k < 5 → (l5 x)[k]? = some u → wz.cell? ⟨g8, i * 5 + k, none⟩ = some u))
              replace hvz := Lib.hid hvz
              clear ho hb hSq hBq hvq
              go_wp2_with fail
              go_loopw [15] (fun s wr => ∃ i : Nat, i ≤ j ∧ s = .int .i64 (i : Int) ∧ ∃ n, wr = wz.drewN n) (fun s _ => j - (intOf s).toNat)
              case atStart => exact ⟨0, Nat.zero_le _, rfl, 0, rfl⟩
              case round =>
                obtain ⟨i, hi, rfl, n, hw⟩ := hrel
                by_cases hlt : i < j
                · have hij : i < K.length := by rw [← hm.out]; exact hlt
                  have hm0 : 0 < j := by omega
                  obtain ⟨x, hx⟩ : ∃ x, K[i]? = some x := ⟨K[i], by simp [hij]⟩
                  obtain ⟨g8, f1, f6⟩ := hvy.out hm0
                  obtain ⟨gz, e1, e2, e3, e6⟩ := hvz.out hm0
                  have hjl : (i : Int) < (j : Int) := by omega
                  have a0 : wr.cell? ⟨gz, i * 5, none⟩ = some (.int .i64 x.a) := (by rw [hw]; exact e6 i x hx 0 (by omega))
                  have a1 : wr.cell? ⟨gz, i * 5 + 1, none⟩ = some (.int .i64 x.b) := (by rw [hw]; exact e6 i x hx 1 (by omega))
                  have a2 : wr.cell? ⟨gz, i * 5 + 2, none⟩ = some (.int .i64 x.c) := (by rw [hw]; exact e6 i x hx 2 (by omega))
                  have a3 : wr.cell? ⟨gz, i * 5 + 3, none⟩ = some (.int .i64 x.d) := (by rw [hw]; exact e6 i x hx 3 (by omega))
                  have a4 : wr.cell? ⟨gz, i * 5 + 4, none⟩ = some (.int .i64 x.e) := (by rw [hw]; exact e6 i x hx 4 (by omega))
                  have b0 : wr.cell? ⟨g8, i * 5, none⟩ = some (.int .i64 x.a) := (by rw [hw]; exact f6 i x hx 0 _ (by omega) rfl)
                  have b1 : wr.cell? ⟨g8, i * 5 + 1, none⟩ = some (.int .i64 x.b) := (by rw [hw]; exact f6 i x hx 1 _ (by omega) rfl)
                  have b2 : wr.cell? ⟨g8, i * 5 + 2, none⟩ = some (.int .i64 x.c) := (by rw [hw]; exact f6 i x hx 2 _ (by omega) rfl)
                  have b3 : wr.cell? ⟨g8, i * 5 + 3, none⟩ = some (.int .i64 x.d) := (by rw [hw]; exact f6 i x hx 3 _ (by omega) rfl)
                  have b4 : wr.cell? ⟨g8, i * 5 + 4, none⟩ = some (.int .i64 x.e) := (by rw [hw]; exact f6 i x hx 4 _ (by omega) rfl)
                  have hne := ev_ne x
                  have hgd := ev_guard x
                  subst e1 f1
                  replace hx := Lib.hid hx
                  replace hw := Lib.hid hw
                  clear e6 f6
                  go_wp2_with fail
                  go_quiet (fail)
                  go_wp2
                  go_roundw
                  case rel => exact ⟨i + 1, by omega, by go_num, n + nq, by rw [hw.out, World.drewN_drewN]⟩
                  case measure => simp [intOf]; omega
                · obtain rfl : i = j := by omega
                  have hBf : Hid (Below w.heap.size w wr) := Lib.hid (by rw [hw]; exact pw_below_drewN hBz.out n)
                  replace hw := Lib.hid hw
                  go_wp2
                  go_ret
                  exact ⟨rfl, hBf.out⟩
set_option maxRecDepth 100000 in
theorem resets_walk (w : World) (A : Option Addr) (l : List Ev) (cap : Nat) (hl : l.length ≤ cap) (hm : cap ≤ maxLen) (ha : ArgN REv 5 w A l) (A2 : Option Addr) (l2 : List Ev) (cap2 : Nat) (hl2 : l2.length ≤ cap2) (hm2 : cap2 ≤ maxLen) (ha2 : ArgN REv 5 w A2 l2) :
    Calls Try.prog 6 #[.slice A l.length cap, .slice A2 l2.length cap2] w fun e w' => e = .returned (.bool true) ∧ Below w.heap.size w w' := by
  unfold maxLen at hm hm2
  have HA := awake_twice w
  have hx : l.length ≤ 9223372036854775807 := by omega
  have hx2 : l2.length ≤ 9223372036854775807 := by omega
  by_cases h : l.length ≤ 300
  · by_cases h' : l2.length ≤ 300
    · exact resets_any w A l cap A2 l2 cap2 (rd_arg ha) (rd_arg ha2) h h'
    · have hn : (300 : Int) < (l2.length : Int) := by omega
      have hn1 : (l.length : Int) ≤ 300 := by omega
      clear h h' ha hl hm ha2 hl2 hm2
      go_enter Try.func6, Try.ntmps6
      go_wp2_with (go_at_call 7; refine (HA _ (by first | exact Below.refl _ _ | assumption)).mono ?_; rintro e w1 ⟨rfl, hb⟩)
      go_ret
      exact ⟨rfl, by assumption⟩
  · have hn : (300 : Int) < (l.length : Int) := by omega
    clear h ha hl hm ha2 hl2 hm2
    go_enter Try.func6, Try.ntmps6
    go_wp2_with (go_at_call 7; refine (HA _ (by first | exact Below.refl _ _ | assumption)).mono ?_; rintro e w1 ⟨rfl, hb⟩)
    go_ret
    exact ⟨rfl, by assumption⟩
end Go.Proofs.Ytbcpfbmoednghaa.Tr
