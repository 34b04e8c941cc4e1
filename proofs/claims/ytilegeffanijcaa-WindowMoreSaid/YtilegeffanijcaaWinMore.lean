/- The walk of WindowMore. -/
import Derived.Test.YtilegeffanijcaaWinLaw
namespace Go.Proofs.Ytilegeffanijcaa.Win
open Go.RowKit Go.Proofs.YtilegeffanijcaaW.PrintWords Go.Proofs.YtilegeffanijcaaW.PrintLast Go.Proofs.YtilegeffanijcaaW.PrintMore Go.Proofs.Ytilegeffanijcaa.Ring Go.Proofs.Ytilegeffanijcaa.Args

/-- Two windows side by side; the second one's blocks lie from B on. -/
def TW (w : World) (B pv p1 g1 pw p2 g2 m1 m2 k : Nat) (L1 L2 : List Bool) : Prop :=
  WS w pv p1 g1 m1 k L1 ∧ WS w pw p2 g2 m2 k L2 ∧ (pv < B ∧ p1 < B ∧ g1 < B) ∧ (B ≤ pw ∧ B ≤ p2 ∧ B ≤ g2)
section
variable {w W : World} {B pv p1 g1 pw p2 g2 m1 m2 k : Nat} {L1 L2 L : List Bool}
theorem TW.push1 (h : TW w B pv p1 g1 pw p2 g2 m1 m2 k L1 L2) (hl : LW w W pv p1 g1 m1 k L) : TW W B pv p1 g1 pw p2 g2 m1 m2 k L L2 :=
  ⟨hl.1, h.2.1.apart hl.2.1 h.2.2.1.2.1 h.2.2.1.2.2 h.2.2.2.1 h.2.2.2.2.1 h.2.2.2.2.2, h.2.2⟩
theorem TW.push2 (h : TW w B pv p1 g1 pw p2 g2 m1 m2 k L1 L2) (hl : LW w W pw p2 g2 m2 k L) : TW W B pv p1 g1 pw p2 g2 m1 m2 k L1 L :=
  ⟨h.1.le (hl.2.2 B h.2.2.2.2.1 h.2.2.2.2.2) h.2.2.1.1 h.2.2.1.2.1 h.2.2.1.2.2, hl.1, h.2.2⟩
theorem TW.below (h : TW w B pv p1 g1 pw p2 g2 m1 m2 k L1 L2) (hb : Below w.heap.size w W) : TW W B pv p1 g1 pw p2 g2 m1 m2 k L1 L2 := ⟨h.1.below hb, h.2.1.below hb, h.2.2⟩
end
set_option maxRecDepth 100000 in
set_option maxHeartbeats 1600000 in
theorem more_any (w : World) (a b k m : Nat) (ha : a ≤ 255) (hb : b ≤ 255) (hk : 2 + b % 63 = k) (hm : 1 + a % (k - 1) = m) (A : Option Addr) (l : List Bool) (cap : Nat) (hr : ReadsOf Value.bool false w A l.length l) (hl : l.length ≤ 300) :
    Calls Try.prog 7 #[.int .u8 (a : Int), .int .u8 (b : Int), .slice A l.length cap] w fun e w' => e = .returned (.bool true) ∧ Below w.heap.size w w' := by
  have hki : 2 + (b : Int) % 63 = (k : Int) := by omega
  have hk1 : 1 ≤ k := by omega
  have hk3 : 2 ≤ k := by omega
  have hk4 : (1 : Int) ≤ (k : Int) - 1 := by omega
  have hk5 : ((k : Int) - 1) = ((k - 1 : Nat) : Int) := by omega
  have hmi : 1 + (a : Int) % ((k : Int) - 1) = (m : Int) := by rw [← hm, hk5]; omega
  clear hk5
  have hk2 : k ≤ 64 := by omega
  have hm1 : 1 ≤ m := by omega
  have hm2 : m + 1 ≤ k := by have := Nat.mod_lt a (show k - 1 > 0 by omega); omega
  have hm3 : m ≤ k := by omega
  have i3 : (l.length : Int) ≤ 300 := by omega
  have H := Lib.hid hr
  clear hr hk hm
  go_enter Try.func7, Try.ntmps7
  go_wp2_with fail
  refine (awake_any _).mono ?_; rintro e w1 ⟨rfl, hb1⟩
  replace hb1 := Lib.hid hb1
  go_wp2_with fail
  refine (new_yes _ m k hm1 hm3 hk2).mono ?_; rintro e w2 ⟨pv, p1, g1, rfl, hw, hpw, hp, hg, hb2⟩
  have hw2 := Lib.hid hw
  have hB2 := Lib.hid (hb1.out.trans (hb2.mono hb1.out.size))
  have hp1 : w.heap.size ≤ p1 := Nat.le_trans hb1.out.size hp
  have hg1 : w.heap.size ≤ g1 := Nat.le_trans hb1.out.size hg
  clear hw hb2 hpw hp hg hb1
  have HN := new_yes w2 (m + 1) k (by omega) hm2 hk2
  rw [show ((m + 1 : Nat) : Int) = (m : Int) + 1 by omega] at HN
  go_wp2_with fail
  refine HN.mono ?_; rintro e w3 ⟨pw, p2, g2, rfl, hw, hpw, hp, hg, hb3⟩
  have ht3 : Hid (TW w3 w2.heap.size pv p1 g1 pw p2 g2 m (m + 1) k (List.replicate k true) (List.replicate k true)) := Lib.hid ⟨hw2.out.below hb3, hw, hw2.out.lt, hpw, hp, hg⟩
  have hB3 := Lib.hid (hB2.out.trans (hb3.mono hB2.out.size))
  have hp2 : w.heap.size ≤ p2 := Nat.le_trans hB2.out.size hp
  have hg2 : w.heap.size ≤ g2 := Nat.le_trans hB2.out.size hg
  have hB0 : w.heap.size ≤ w2.heap.size := hB2.out.size
  obtain ⟨B, hB⟩ : ∃ B, B = w2.heap.size := ⟨_, rfl⟩
  rw [← hB] at ht3 hB0
  clear hw hb3 hpw hp hg hB2 hw2 HN hB
  go_wp2_with fail
  go_loopw [13] (fun i wr => ∃ j : Nat, j ≤ l.length ∧ i = .int .i64 (j : Int) ∧ TW wr B pv p1 g1 pw p2 g2 m (m + 1) k (lastk k (l.take j)) (lastk k (l.take j)) ∧ Below w.heap.size w wr) (fun i _ => l.length - (intOf i).toNat)
  case atStart => exact ⟨0, Nat.zero_le _, rfl, by rw [List.take_zero, lastk_nil]; exact ht3.out, hB3.out⟩
  case round =>
    obtain ⟨j, hj, rfl, hws, hbel⟩ := hrel
    by_cases hlt : j < l.length
    · obtain ⟨x, hx⟩ : ∃ x, l[j]? = some x := ⟨l[j], by simp [hlt]⟩
      obtain ⟨ad, rfl, hc⟩ := H.out.2.2 (by omega)
      have hcell := hc j hlt
      rw [show l.getD j false = x by simp [List.getD_eq_getElem?_getD, hx]] at hcell
      have HC := Lib.hid (fun W (hW : Below w.heap.size w W) => pw_cell_below hW hcell)
      have hL2 := Lib.hid (lastk_take hk1 hx)
      have hc4 := HC.out _ hbel
      have HP := push_any hws.1 x
      have hB1 := Lib.hid hbel
      have hT1 := Lib.hid hws
      clear hws hbel hx hc hcell ht3 hB3
      go_wp2_with fail
      refine HP.mono ?_; rintro e w5 ⟨rfl, hl5⟩
      have hT5 := Lib.hid (hT1.out.push1 hl5)
      have hB5 := Lib.hid (hB1.out.trans (hl5.2.2 _ hp1 hg1))
      clear hl5 hc4 HP
      have hc5 := HC.out _ hB5.out
      have HP := push_any hT5.out.2.1 x
      go_wp2_with fail
      refine HP.mono ?_; rintro e w6 ⟨rfl, hl6⟩
      have hT6 := Lib.hid (hT5.out.push2 hl6)
      have hB6 := Lib.hid (hB5.out.trans (hl6.2.2 _ hp2 hg2))
      clear hl6 hc5 HP HC hT1 hB1 hT5 hB5
      rw [← hL2.out] at hT6
      obtain ⟨L, hL⟩ : ∃ L, L = lastk k (l.take (j + 1)) := ⟨_, rfl⟩
      rw [← hL] at hT6
      obtain ⟨d, hd⟩ : ∃ d, d = dist m L := ⟨_, rfl⟩
      obtain ⟨d2, hd2⟩ : ∃ d, d = dist (m + 1) L := ⟨_, rfl⟩
      obtain ⟨c, hc⟩ : ∃ c, c = cnt L := ⟨_, rfl⟩
      have hdd : (d2 : Int) ≤ (d : Int) := by have := dist_more m L; omega
      have hcb : c ≤ k := by have := cnt_le L; have := hT6.out.1.2.2; omega
      have HF1 := Lib.hid (fun (W : World) (hW : WS W pv p1 g1 m k L) => fails_any hW)
      have HF2 := Lib.hid (fun (W : World) (hW : WS W pw p2 g2 (m + 1) k L) => fails_any hW)
      have HM1 := Lib.hid (fun (W : World) (hW : WS W pv p1 g1 m k L) => met_any hW)
      have HM2 := Lib.hid (fun (W : World) (hW : WS W pw p2 g2 (m + 1) k L) => met_any hW)
      rw [← hc] at HF1 HF2 HM1 HM2
      replace hL := Lib.hid hL
      replace hc := Lib.hid hc
      have HP := distance_any hT6.out.2.1 (by omega)
      rw [← hd2] at HP
      replace hd2 := Lib.hid hd2
      replace hd := Lib.hid hd
      go_wp2_with fail
      refine HP.mono ?_; rintro e w7 ⟨rfl, hb5⟩
      have hT2 := Lib.hid (hT6.out.below hb5)
      have hB2 := Lib.hid (hB6.out.trans (hb5.mono hB6.out.size))
      clear hb5 HP hT6 hB6
      have HP := distance_any hT2.out.1 hm1
      rw [← hd.out] at HP
      go_wp2_with fail
      refine HP.mono ?_; rintro e w8 ⟨rfl, hb5⟩
      have hT3 := Lib.hid (hT2.out.below hb5)
      have hB3 := Lib.hid (hB2.out.trans (hb5.mono hB2.out.size))
      clear hb5 HP hT2 hB2
      go_wp2_with fail
      refine (HM1.out _ hT3.out.1).mono ?_; rintro e w9 ⟨rfl, hb5⟩
      have hT4 := Lib.hid (hT3.out.below hb5)
      have hB4 := Lib.hid (hB3.out.trans (hb5.mono hB3.out.size))
      clear hb5 hT3 hB3
      go_wp2_with fail
      refine (HM2.out _ hT4.out.2.1).mono ?_; rintro e w10 ⟨rfl, hb5⟩
      have hT5 := Lib.hid (hT4.out.below hb5)
      have hB5 := Lib.hid (hB4.out.trans (hb5.mono hB4.out.size))
      clear hb5 hT4 hB4
      by_cases hcm : c < m
      · have g1 : decide (c < m) = true := by simpa using hcm
        have g2 : decide (c < m + 1) = true := by simp; omega
        have g3 : (c : Int) < (m : Int) := by omega
        rw [g1] at HF1
        rw [g2] at HF2
        clear g1 g2
        go_wp2_with fail
        refine (HF1.out _ hT5.out.1).mono ?_; rintro e w11 ⟨rfl, hb5⟩
        have hT6 := Lib.hid (hT5.out.below hb5)
        have hB6 := Lib.hid (hB5.out.trans (hb5.mono hB5.out.size))
        clear hb5 hT5 hB5
        go_wp2_with fail
        refine (HF2.out _ hT6.out.2.1).mono ?_; rintro e w12 ⟨rfl, hb5⟩
        have hT7 := Lib.hid (hT6.out.below hb5)
        have hB7 := Lib.hid (hB6.out.trans (hb5.mono hB6.out.size))
        clear hb5 hT6 hB6
        go_wp2_with fail
        refine (HF1.out _ hT7.out.1).mono ?_; rintro e w13 ⟨rfl, hb5⟩
        have hT8 := Lib.hid (hT7.out.below hb5)
        have hB8 := Lib.hid (hB7.out.trans (hb5.mono hB7.out.size))
        clear hb5 hT7 hB7
        go_wp2_with fail
        refine (HM1.out _ hT8.out.1).mono ?_; rintro e w14 ⟨rfl, hb5⟩
        have hT9 := Lib.hid (hT8.out.below hb5)
        have hB9 := Lib.hid (hB8.out.trans (hb5.mono hB8.out.size))
        clear hb5 hT8 hB8
        go_wp2
        go_roundw
        case rel => exact ⟨j + 1, by omega, by go_num, by rw [← hL.out]; exact hT9.out, hB9.out⟩
        case measure => simp [intOf]; omega
      · have g1 : decide (c < m) = false := by simpa using hcm
        have g3 : (m : Int) ≤ (c : Int) := by omega
        rw [g1] at HF1
        clear g1
        go_wp2_with fail
        refine (HF1.out _ hT5.out.1).mono ?_; rintro e w11 ⟨rfl, hb5⟩
        have hT6 := Lib.hid (hT5.out.below hb5)
        have hB6 := Lib.hid (hB5.out.trans (hb5.mono hB5.out.size))
        clear hb5 hT5 hB5
        go_wp2_with fail
        refine (HF1.out _ hT6.out.1).mono ?_; rintro e w12 ⟨rfl, hb5⟩
        have hT7 := Lib.hid (hT6.out.below hb5)
        have hB7 := Lib.hid (hB6.out.trans (hb5.mono hB6.out.size))
        clear hb5 hT6 hB6
        go_wp2_with fail
        refine (HM1.out _ hT7.out.1).mono ?_; rintro e w14 ⟨rfl, hb5⟩
        have hT9 := Lib.hid (hT7.out.below hb5)
        have hB9 := Lib.hid (hB7.out.trans (hb5.mono hB7.out.size))
        clear hb5 hT7 hB7
        go_wp2
        go_roundw
        case rel => exact ⟨j + 1, by omega, by go_num, by rw [← hL.out]; exact hT9.out, hB9.out⟩
        case measure => simp [intOf]; omega
    · obtain rfl : j = l.length := by omega
      rw [List.take_length] at hws
      obtain ⟨L, hL⟩ : ∃ L, L = lastk k l := ⟨_, rfl⟩
      rw [← hL] at hws
      have hlenL : L.length = k := hws.1.2.2
      obtain ⟨d, hd⟩ : ∃ d, d = dist m L := ⟨_, rfl⟩
      obtain ⟨d2, hd2⟩ : ∃ d, d = dist (m + 1) L := ⟨_, rfl⟩
      have g1 : (d : Int) ≤ (k : Int) := by have := dist_le hm1 L; omega
      have g2 : (d2 : Int) < (k : Int) := by have := dist_le (m := m + 1) (by omega) L; omega
      have hT1 := Lib.hid hws
      have hB1 := Lib.hid hbel
      have HP := distance_any hws.1 hm1
      rw [← hd] at HP
      replace hd := Lib.hid hd
      clear hL hws hbel ht3 hB3 hlenL
      go_wp2_with fail
      refine HP.mono ?_; rintro e w7 ⟨rfl, hb5⟩
      have hT2 := Lib.hid (hT1.out.below hb5)
      have hB2 := Lib.hid (hB1.out.trans (hb5.mono hB1.out.size))
      clear hb5 HP hT1 hB1
      have HP := distance_any hT2.out.2.1 (by omega)
      rw [← hd2] at HP
      replace hd2 := Lib.hid hd2
      go_wp2_with fail
      refine HP.mono ?_; rintro e w8 ⟨rfl, hb5⟩
      have hB3 := Lib.hid (hB2.out.trans (hb5.mono hB2.out.size))
      clear hb5 HP
      go_wp2
      go_ret
      exact ⟨rfl, hB3.out⟩
theorem more_walk (w : World) (a : Int) (wa : (Lit.int .u8 a).wf = true) (b : Int) (wb : (Lit.int .u8 b).wf = true) (A : Option Addr) (l : List Bool) (cap : Nat) (hl : l.length ≤ cap) (hm : cap ≤ maxLen) (ha : Arg Value.bool w A l) :
    Calls Try.prog 7 #[.int .u8 a, .int .u8 b, .slice A l.length cap] w fun e w' => e = .returned (.bool true) ∧ Below w.heap.size w w' := by
  unfold maxLen at hm
  have h1 := bd_u8 wa
  have h2 := bd_u8 wb
  obtain ⟨a, rfl⟩ : ∃ n : Nat, a = (n : Int) := ⟨a.toNat, by omega⟩
  obtain ⟨b, rfl⟩ : ∃ n : Nat, b = (n : Int) := ⟨b.toNat, by omega⟩
  by_cases h : l.length ≤ 300
  · exact more_any w a b _ _ (by omega) (by omega) rfl rfl A l cap (reads_arg ha (by omega)) h
  · have HA := awake_twice w
    have hn : (300 : Int) < (l.length : Int) := by omega
    have hx : l.length ≤ 9223372036854775807 := by omega
    clear h h1 h2 ha wa wb hl hm
    go_enter Try.func7, Try.ntmps7
    go_wp2_with (go_at_call 8; refine (HA _ (by first | exact Below.refl _ _ | assumption)).mono ?_; rintro e w1 ⟨rfl, hb⟩)
    go_ret
    exact ⟨rfl, by assumption⟩
end Go.Proofs.Ytilegeffanijcaa.Win
