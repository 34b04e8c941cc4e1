import Derived.Test.YteaighaaclaimaaRingAwake
import Derived.Test.YteaighaaclaimaaArgs
namespace Go.Proofs.Yteaighaaclaimaa.Ring
open Go.RowKit Go.Proofs.YteaighaaclaimaaW.PrintWords Go.Proofs.YteaighaaclaimaaW.PrintLast Go.Proofs.YteaighaaclaimaaW.PrintMore Go.Proofs.Yteaighaaclaimaa.Args
theorem lastN_end {α : Type} {n : Nat} {l : List α} {j : Nat} (hj : j < (lastN n l.length l).length) : ∃ x, (lastN n l.length l)[j]? = some x ∧ l[l.length - n + j]? = some x := by
  unfold lastN at *
  rw [List.take_length] at *
  rw [List.length_drop] at hj
  exact ⟨l[l.length - n + j], by rw [List.getElem?_drop]; exact List.getElem?_eq_getElem (by omega), List.getElem?_eq_getElem (by omega)⟩
theorem last_any (w : World) (m : Nat) (h9 : m ≤ 255) (A : Option Addr) (l : List ByteArray) (cap : Nat) (ha : Arg Value.string w A l) (h2 : l.length ≤ 500) :
    Calls Try.prog 4 #[.int .u8 (m : Int), .slice A l.length cap] w fun e w' => e = .returned (.bool true) ∧ Below w.heap.size w w' := by
  have e1 : (l.length : Int) ≤ 500 := by omega
  have HA := Lib.hid ha
  clear ha
  go_enter Try.func4, Try.ntmps4
  go_wp2_with fail
  refine (awake_any _).mono ?_; rintro e w1 ⟨rfl, hb1⟩
  have hb1 := Lib.hid hb1
  have HN := new_q_str w1 (1 + m) (by omega) (by omega)
  rw [show ((1 + m : Nat) : Int) = 1 + (m : Int) by omega] at HN
  go_wp2_with fail
  refine HN.mono ?_; rintro e w2 ⟨p, g, rfl, hr, hp, hg, hb2⟩
  have hb2 : Hid (Below w.heap.size w w2) := hb1.out.trans (hb2.mono hb1.out.size)
  have hr := Lib.hid hr
  have hp : w.heap.size ≤ p := Nat.le_trans hb1.out.size hp
  have hg : w.heap.size ≤ g := Nat.le_trans hb1.out.size hg
  clear hb1 HN
  go_wp2_with fail
  go_loopw [8, 9] (fun go i wr => ∃ k : Nat, k ≤ l.length ∧ i = .int .i64 (k : Int) ∧ go = .int .i64 ((k - (1 + m) : Nat) : Int) ∧ RQ Value.string 9 54 wr p g (1 + m) (lastN (1 + m) k l) ∧ Below w.heap.size w wr) (fun _ i _ => l.length - (intOf i).toNat)
  case atStart => exact ⟨0, Nat.zero_le _, rfl, by simp, by simpa [lastN] using hr.out, hb2.out⟩
  case round =>
    obtain ⟨k, hk, rfl, rfl, hrq, hbel⟩ := hrel
    by_cases hlt : k < l.length
    · obtain ⟨x, hx⟩ : ∃ x, l[k]? = some x := ⟨l[k], by simp [hlt]⟩
      obtain ⟨b, off, rfl, hbw, hcell⟩ := HA.out (by omega)
      have hc := (hbel.cell (p := ⟨b, off + k, none⟩) hbw).trans (hcell k x hx)
      have hlen := lastN_len (n := 1 + m) (l := l) hk
      have F : Hid (Below w.heap.size w wr ∧ l[k]? = some x) := ⟨hbel, hx⟩
      by_cases hfull : k < 1 + m
      · rw [if_pos hfull] at hlen
        have HP := push_q_str hrq x (by omega)
        have hg0 : ((k - (1 + m) : Nat) : Int) = 0 := by omega
        have hg1 : ((k + 1 - (1 + m) : Nat) : Int) = 0 := by omega
        rw [hg0]
        have hg1 := Lib.hid hg1
        clear hrq hbel hx hlen hr hb2 hg0 hcell
        go_wp2_with (go_at_call 13; refine HP.mono ?_; rintro e w3 ⟨rfl, hl3⟩; have hl3 := Lib.hid hl3)
        go_roundw
        case rel =>
          obtain ⟨hbel, hx⟩ := F.out
          exact ⟨k + 1, by omega, by go_num, by rw [hg1.out], by rw [← lastN_room hx hfull]; exact hl3.out.1, hbel.trans (hl3.out.2.2 _ hp hg)⟩
        case measure => simp [intOf]; omega
      · rw [if_neg hfull] at hlen
        have HP := push_qf_str hrq x hlen
        have hg0 : ((k - (1 + m) : Nat) : Int) = (k : Int) - (1 + (m : Int)) := by omega
        have hge : 1 + (m : Int) ≤ (k : Int) := by omega
        rw [hg0]
        clear hrq hbel hx hlen hr hb2 hg0 hcell
        go_wp2_with (go_at_call 13; refine HP.mono ?_; rintro e w3 ⟨rfl, hl3⟩; have hl3 := Lib.hid hl3)
        go_roundw
        case rel =>
          obtain ⟨hbel, hx⟩ := F.out
          exact ⟨k + 1, by omega, by go_num, by go_num, by rw [← lastN_full hx (by omega) (by omega)]; exact hl3.out.1, hbel.trans (hl3.out.2.2 _ hp hg)⟩
        case measure => simp [intOf]; omega
    · obtain rfl : k = l.length := by omega
      obtain ⟨wo, rfl⟩ : ∃ wo : World, wo = wr := ⟨_, rfl⟩
      obtain ⟨D, hD⟩ : ∃ D, D = lastN (1 + m) l.length l := ⟨_, rfl⟩
      have hlen := lastN_len (n := 1 + m) (l := l) (Nat.le_refl _)
      have hget : ∀ j, j < (lastN (1 + m) l.length l).length → ∃ x, (lastN (1 + m) l.length l)[j]? = some x ∧ l[l.length - (1 + m) + j]? = some x := fun j hj => lastN_end hj
      have HA2 := all_q_str hrq
      rw [← hD] at hlen HA2 hget
      have F : Hid (Below w.heap.size w wo ∧ D.length = (if l.length < 1 + m then l.length else 1 + m) ∧ ∀ j, j < D.length → ∃ x, D[j]? = some x ∧ l[l.length - (1 + m) + j]? = some x) := ⟨hbel, hlen, hget⟩
      have hsz := hbel.size
      clear hrq hbel hr hb2 hget hD
      by_cases hgt : 1 + m < l.length
      · rw [if_neg (by omega)] at hlen
        have hg0 : ((l.length - (1 + m) : Nat) : Int) = (l.length : Int) - (1 + (m : Int)) := by omega
        rw [hg0]
        have hg0 := Lib.hid hg0
        have hgt2 : 1 + (m : Int) < (l.length : Int) := by omega
        have hdl : (D.length : Int) = 1 + (m : Int) := by omega
        have hdl := Lib.hid hdl
        have hlen := Lib.hid hlen
        go_wp2_with fail
        refine HA2.mono ?_; rintro e w3 ⟨v, rfl, hown, hb3⟩
        obtain ⟨A2, cap2, rfl, hsh⟩ := own_shape hown
        have hsh := Lib.hid hsh
        have hb3 := Lib.hid hb3
        rw [hlen.out]
        clear hown HA2
        have hsz3 : w.heap.size ≤ w3.heap.size := Nat.le_trans hsz hb3.out.size
        go_wp2_with fail
        go_loopw [12] (fun i wq => ∃ j : Nat, j ≤ 1 + m ∧ i = .int .i64 (j : Int) ∧ Below w3.heap.size w3 wq) (fun i _ => 1 + m - (intOf i).toNat)
        case atStart => exact ⟨0, Nat.zero_le _, rfl, Below.refl _ _⟩
        case round =>
          obtain ⟨j, hj, rfl, hbq⟩ := hrel
          by_cases hjl : j < 1 + m
          · obtain ⟨x, hx1, hx2⟩ := F.out.2.2 j (by rw [hlen.out]; exact hjl)
            obtain ⟨b, off, rfl, hbw, hcell⟩ := HA.out (by omega)
            obtain ⟨g2, rfl, _, hg2, _, hc2⟩ := hsh.out (by rw [hlen.out]; omega)
            have c1 := (hbq.cell (p := ⟨g2, j, none⟩) hg2).trans (hc2 j x hx1)
            have c2 := (hbq.cell (p := ⟨b, off + (l.length - (1 + m) + j), none⟩) (by simp; omega)).trans ((hb3.out.cell (p := ⟨b, off + (l.length - (1 + m) + j), none⟩) (by simp; omega)).trans ((F.out.1.cell (p := ⟨b, off + (l.length - (1 + m) + j), none⟩) hbw).trans (hcell _ x hx2)))
            have hj1 : (j : Int) < 1 + (m : Int) := by omega
            have i1 : IntKind.i64.wrap ((l.length : Int) - (1 + (m : Int)) + (j : Int)) = ((l.length - (1 + m) + j : Nat) : Int) := by rw [IntWalk.i64_in _ (by omega)]; omega
            have i2 : (0 : Int) ≤ ((l.length - (1 + m) + j : Nat) : Int) := by omega
            have i3 : ((l.length - (1 + m) + j : Nat) : Int) < (l.length : Int) := by have := hlen.out; omega
            have hbq2 := Lib.hid hbq
            have hj3 := Lib.hid hjl
            clear hx1 hx2 hcell hc2 hbq hjl hj
            go_wp2_with fail
            go_quiet (fail)
            go_wp2
            go_roundw
            case rel => exact ⟨j + 1, by have := hj3.out; omega, by go_num, pw_below_drewN hbq2.out _⟩
            case measure => have := hj3.out; simp [intOf]; omega
          · go_wp2
            go_ret
            exact ⟨rfl, (F.out.1.trans (hb3.out.mono hsz)).trans (hbq.mono hsz3)⟩
      · have hlen : D.length = l.length := by split at hlen <;> omega
        have hg0 : ((l.length - (1 + m) : Nat) : Int) = 0 := by omega
        rw [hg0]
        have hg0 : l.length - (1 + m) = 0 := by omega
        have hg0 := Lib.hid hg0
        have hgt2 : (l.length : Int) ≤ 1 + (m : Int) := by omega
        have hlen := Lib.hid hlen
        clear hgt
        go_wp2_with fail
        refine HA2.mono ?_; rintro e w3 ⟨v, rfl, hown, hb3⟩
        obtain ⟨A2, cap2, rfl, hsh⟩ := own_shape hown
        have hsh := Lib.hid hsh
        have hb3 := Lib.hid hb3
        rw [hlen.out]
        clear hown HA2
        have hsz3 : w.heap.size ≤ w3.heap.size := Nat.le_trans hsz hb3.out.size
        go_wp2_with fail
        go_loopw [12] (fun i wq => ∃ j : Nat, j ≤ l.length ∧ i = .int .i64 (j : Int) ∧ Below w3.heap.size w3 wq) (fun i _ => l.length - (intOf i).toNat)
        case atStart => exact ⟨0, Nat.zero_le _, rfl, Below.refl _ _⟩
        case round =>
          obtain ⟨j, hj, rfl, hbq⟩ := hrel
          by_cases hjl : j < l.length
          · obtain ⟨x, hx1, hx2⟩ := F.out.2.2 j (by rw [hlen.out]; exact hjl)
            rw [hg0.out, Nat.zero_add] at hx2
            obtain ⟨b, off, rfl, hbw, hcell⟩ := HA.out (by omega)
            obtain ⟨g2, rfl, _, hg2, _, hc2⟩ := hsh.out (by rw [hlen.out]; omega)
            have c1 := (hbq.cell (p := ⟨g2, j, none⟩) hg2).trans (hc2 j x hx1)
            have c2 := (hbq.cell (p := ⟨b, off + j, none⟩) (by simp; omega)).trans ((hb3.out.cell (p := ⟨b, off + j, none⟩) (by simp; omega)).trans ((F.out.1.cell (p := ⟨b, off + j, none⟩) hbw).trans (hcell _ x hx2)))
            have hj1 : (j : Int) < (l.length : Int) := by omega
            have i1 : IntKind.i64.wrap (j : Int) = (j : Int) := by rw [IntWalk.i64_in _ (by omega)]
            have hbq2 := Lib.hid hbq
            have hj3 := Lib.hid hjl
            clear hx1 hx2 hcell hc2 hbq hjl hj
            go_wp2_with fail
            go_quiet (fail)
            go_wp2
            go_roundw
            case rel => exact ⟨j + 1, by have := hj3.out; omega, by go_num, pw_below_drewN hbq2.out _⟩
            case measure => have := hj3.out; simp [intOf]; omega
          · go_wp2
            go_ret
            exact ⟨rfl, (F.out.1.trans (hb3.out.mono hsz)).trans (hbq.mono hsz3)⟩
theorem last_walk (w : World) (places : Int) (wf : (Lit.int .u8 places).wf = true) (A : Option Addr) (l : List ByteArray) (cap : Nat) (_hl : l.length ≤ cap) (_hm : cap ≤ maxLen) (ha : Arg Value.string w A l) :
    Calls Try.prog 4 #[.int .u8 places, .slice A l.length cap] w fun e w' => e = .returned (.bool true) ∧ Below w.heap.size w w' := by
  have hb := bd_u8 wf
  obtain ⟨m, rfl⟩ : ∃ m : Nat, places = (m : Int) := ⟨places.toNat, by omega⟩
  by_cases h : l.length ≤ 500
  · exact last_any w m (by omega) A l cap ha h
  · have HA : ∀ W : World, Below w.heap.size w W → Calls Try.prog 8 #[] W fun e w' => e = .returned (.bool true) ∧ Below w.heap.size w w' := fun W hW => (awake_any W).mono fun _ _ ⟨he, hb⟩ => ⟨he, hW.trans (hb.mono hW.size)⟩
    have h1 : (500 : Int) < (l.length : Int) := by omega
    clear h hb wf ha
    go_enter Try.func4, Try.ntmps4
    go_wp2_with (go_at_call 8; refine (HA _ (by first | exact Below.refl _ _ | assumption)).mono ?_; rintro e w1 ⟨rfl, hb⟩)
    go_ret
    exact ⟨rfl, by assumption⟩
end Go.Proofs.Yteaighaaclaimaa.Ring
