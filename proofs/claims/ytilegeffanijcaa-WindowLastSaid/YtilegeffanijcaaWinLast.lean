/- The walk of WindowLast. -/
import Derived.Test.YtilegeffanijcaaWinLaw
namespace Go.Proofs.Ytilegeffanijcaa.Win
open Go.RowKit Go.Proofs.YtilegeffanijcaaW.PrintWords Go.Proofs.YtilegeffanijcaaW.PrintLast Go.Proofs.YtilegeffanijcaaW.PrintMore Go.Proofs.Ytilegeffanijcaa.Ring Go.Proofs.Ytilegeffanijcaa.Args

/-- Two windows side by side; the second one's blocks lie from B on. -/
def TW (w : World) (B pv p1 g1 pw p2 g2 m1 m2 k : Nat) (L1 L2 : List Bool) : Prop :=
  WS w pv p1 g1 m1 k L1 ∧ WS w pw p2 g2 m2 k L2 ∧ (pv < B ∧ p1 < B ∧ g1 < B) ∧ (B ≤ pw ∧ B ≤ p2 ∧ B ≤ g2)
section
variable {w W : World} {B pv p1 g1 pw p2 g2 m1 m2 k : Nat} {L1 L2 L : List Bool}
theorem TW.push1 (h : TW w B pv p1 g1 pw p2 g2 m1 m2 k L1 L2) (hl : LW w W pv p1 g1 m1 k L) : TW W B pv p1 g1 pw p2 g2 m1 m2 k L L2 :=
  ⟨hl.1, h.2.1.apart hl.2.1 h.2.2.1.2.1 h.2.2.1.2.2 h.2.2.2.1 h.2.2.2.2.1 h.2.2.2.2.2, h.2.2⟩
theorem TW.push2 (h : TW w B pv p1 g1 pw p2 g2 m1 m2 k L1 L2) (hl : LW w W pw p2 g2 m2 k L) : TW W B pv p1 g1 pw p2 g2 m1 m2 k L1 L :=
  ⟨h.1.le (hl.2.2 B h.2.2.2.2.1 h.2.2.2.2.2) h.2.2.1.1 h.2.2.1.2.1 h.2.2.1.2.2, hl.1, h.2.2⟩
theorem TW.below (h : TW w B pv p1 g1 pw p2 g2 m1 m2 k L1 L2) (hb : Below w.heap.size w W) : TW W B pv p1 g1 pw p2 g2 m1 m2 k L1 L2 := ⟨h.1.below hb, h.2.1.below hb, h.2.2⟩
end
set_option maxRecDepth 100000 in
theorem last_any2 (w : World) (a b k m : Nat) (ha : a ≤ 255) (hb : b ≤ 255) (hk : 1 + b % 64 = k) (hm : 1 + a % k = m) (A1 : Option Addr) (one : List Bool) (c1 : Nat) (hr1 : ReadsOf Value.bool false w A1 one.length one) (hl1 : one.length ≤ 200)
    (A2 : Option Addr) (two : List Bool) (c2 : Nat) (hr2 : ReadsOf Value.bool false w A2 two.length two) (hl2 : two.length ≤ 200) (A : Option Addr) (l : List Bool) (cap : Nat) (hr : ReadsOf Value.bool false w A l.length l) (hl : l.length ≤ 300) (hkl : k ≤ l.length) :
    Calls Try.prog 6 #[.int .u8 (a : Int), .int .u8 (b : Int), .slice A1 one.length c1, .slice A2 two.length c2, .slice A l.length cap] w fun e w' => e = .returned (.bool true) ∧ Below w.heap.size w w' := by
  have hki : 1 + (b : Int) % 64 = (k : Int) := by omega
  have hmi : 1 + (a : Int) % (k : Int) = (m : Int) := by omega
  have hk1 : 1 ≤ k := by omega
  have hk2 : k ≤ 64 := by omega
  have hm1 : 1 ≤ m := by omega
  have hm2 : m ≤ k := by have := Nat.mod_lt a (show k > 0 by omega); omega
  have i1 : (one.length : Int) ≤ 200 := by omega
  have i2 : (two.length : Int) ≤ 200 := by omega
  have i3 : (l.length : Int) ≤ 300 := by omega
  have i4 : (k : Int) ≤ (l.length : Int) := by omega
  have H := Lib.hid hr
  have H1 := Lib.hid hr1
  have H2 := Lib.hid hr2
  clear hr hr1 hr2 hk hm
  go_enter Try.func6, Try.ntmps6
  go_wp2_with fail
  refine (awake_any _).mono ?_; rintro e w1 ⟨rfl, hb1⟩
  replace hb1 := Lib.hid hb1
  go_wp2_with fail
  refine (new_yes _ m k hm1 hm2 hk2).mono ?_; rintro e w2 ⟨pv, p1, g1, rfl, hw, hpw, hp, hg, hb2⟩
  have hw2 := Lib.hid hw
  have hB2 := Lib.hid (hb1.out.trans (hb2.mono hb1.out.size))
  have hp1 : w.heap.size ≤ p1 := Nat.le_trans hb1.out.size hp
  have hg1 : w.heap.size ≤ g1 := Nat.le_trans hb1.out.size hg
  clear hw hb2 hpw hp hg hb1
  have HN := new_yes w2 m k hm1 hm2 hk2
  go_wp2_with fail
  refine HN.mono ?_; rintro e w3 ⟨pw, p2, g2, rfl, hw, hpw, hp, hg, hb3⟩
  have ht3 : Hid (TW w3 w2.heap.size pv p1 g1 pw p2 g2 m m k (List.replicate k true) (List.replicate k true)) := Lib.hid ⟨hw2.out.below hb3, hw, hw2.out.lt, hpw, hp, hg⟩
  have hB3 := Lib.hid (hB2.out.trans (hb3.mono hB2.out.size))
  have hp2 : w.heap.size ≤ p2 := Nat.le_trans hB2.out.size hp
  have hg2 : w.heap.size ≤ g2 := Nat.le_trans hB2.out.size hg
  have hB0 : w.heap.size ≤ w2.heap.size := hB2.out.size
  obtain ⟨B, hB⟩ : ∃ B, B = w2.heap.size := ⟨_, rfl⟩
  rw [← hB] at ht3 hB0
  clear hw hb3 hpw hp hg hB2 hw2 HN hB
  go_wp2_with fail
  go_loopw [17] (fun i wr => ∃ j : Nat, j ≤ one.length ∧ i = .int .i64 (j : Int) ∧ TW wr B pv p1 g1 pw p2 g2 m m k (lastk k (one.take j)) (List.replicate k true) ∧ Below w.heap.size w wr) (fun i _ => one.length - (intOf i).toNat)
  case atStart => exact ⟨0, Nat.zero_le _, rfl, by rw [List.take_zero, lastk_nil]; exact ht3.out, hB3.out⟩
  case round =>
    obtain ⟨j, hj, rfl, hws, hbel⟩ := hrel
    by_cases hlt : j < one.length
    · obtain ⟨x, hx⟩ : ∃ x, one[j]? = some x := ⟨one[j], by simp [hlt]⟩
      obtain ⟨ad, rfl, hc⟩ := H1.out.2.2 (by omega)
      have hcell := hc j hlt
      rw [show one.getD j false = x by simp [List.getD_eq_getElem?_getD, hx]] at hcell
      have hc4 := pw_cell_below hbel hcell
      have hL2 := Lib.hid (lastk_take hk1 hx)
      have HP := push_any hws.1 x
      have hB1 := Lib.hid hbel
      have hT1 := Lib.hid hws
      clear hws hbel hx hc hcell ht3 hB3
      go_wp2_with fail
      refine HP.mono ?_; rintro e w5 ⟨rfl, hl5⟩
      have hT5 := Lib.hid (hT1.out.push1 hl5)
      have hB5 := Lib.hid (hB1.out.trans (hl5.2.2 _ hp1 hg1))
      clear hl5 hc4 HP
      go_wp2
      go_roundw
      case rel => exact ⟨j + 1, by omega, by go_num, by rw [hL2.out]; exact hT5.out, hB5.out⟩
      case measure => simp [intOf]; omega
    · obtain rfl : j = one.length := by omega
      obtain ⟨wo, rfl⟩ : ∃ wo : World, wo = wr := ⟨_, rfl⟩
      rw [List.take_length] at hws
      have hT6 := Lib.hid hws
      have hB6 := Lib.hid hbel
      clear hws hbel ht3 hB3
      go_wp2_with fail
      go_loopw [18] (fun i wr => ∃ j : Nat, j ≤ two.length ∧ i = .int .i64 (j : Int) ∧ TW wr B pv p1 g1 pw p2 g2 m m k (lastk k one) (lastk k (two.take j)) ∧ Below w.heap.size w wr) (fun i _ => two.length - (intOf i).toNat)
      case atStart => exact ⟨0, Nat.zero_le _, rfl, by rw [List.take_zero, lastk_nil]; exact hT6.out, hB6.out⟩
      case round =>
        obtain ⟨j, hj, rfl, hws, hbel⟩ := hrel
        by_cases hlt : j < two.length
        · obtain ⟨x, hx⟩ : ∃ x, two[j]? = some x := ⟨two[j], by simp [hlt]⟩
          obtain ⟨ad, rfl, hc⟩ := H2.out.2.2 (by omega)
          have hcell := hc j hlt
          rw [show two.getD j false = x by simp [List.getD_eq_getElem?_getD, hx]] at hcell
          have hc4 := pw_cell_below hbel hcell
          have hL2 := Lib.hid (lastk_take hk1 hx)
          have HP := push_any hws.2.1 x
          have hB1 := Lib.hid hbel
          have hT1 := Lib.hid hws
          clear hws hbel hx hc hcell hT6 hB6
          go_wp2_with fail
          refine HP.mono ?_; rintro e w5 ⟨rfl, hl5⟩
          have hT5 := Lib.hid (hT1.out.push2 hl5)
          have hB5 := Lib.hid (hB1.out.trans (hl5.2.2 _ hp2 hg2))
          clear hl5 hc4 HP
          go_wp2
          go_roundw
          case rel => exact ⟨j + 1, by omega, by go_num, by rw [hL2.out]; exact hT5.out, hB5.out⟩
          case measure => simp [intOf]; omega
        · obtain rfl : j = two.length := by omega
          obtain ⟨wp, rfl⟩ : ∃ wp : World, wp = wr := ⟨_, rfl⟩
          rw [List.take_length] at hws
          have hT7 := Lib.hid hws
          have hB7 := Lib.hid hbel
          clear hws hbel hT6 hB6
          go_wp2_with fail
          go_loopw [19] (fun i wr => ∃ j : Nat, j ≤ l.length ∧ i = .int .i64 (j : Int) ∧ TW wr B pv p1 g1 pw p2 g2 m m k (lastk k (one ++ l.take j)) (lastk k (two ++ l.take j)) ∧ Below w.heap.size w wr) (fun i _ => l.length - (intOf i).toNat)
          case atStart => exact ⟨0, Nat.zero_le _, rfl, by rw [List.take_zero, List.append_nil, List.append_nil]; exact hT7.out, hB7.out⟩
          case round =>
            obtain ⟨j, hj, rfl, hws, hbel⟩ := hrel
            by_cases hlt : j < l.length
            · obtain ⟨x, hx⟩ : ∃ x, l[j]? = some x := ⟨l[j], by simp [hlt]⟩
              obtain ⟨ad, rfl, hc⟩ := H.out.2.2 (by omega)
              have hcell := hc j hlt
              rw [show l.getD j false = x by simp [List.getD_eq_getElem?_getD, hx]] at hcell
              have HC := Lib.hid (fun W (hW : Below w.heap.size w W) => pw_cell_below hW hcell)
              have hL1 := Lib.hid (show lastk k (one ++ l.take (j + 1)) = (lastk k (one ++ l.take j)).tail ++ [x] by rw [List.take_add_one, hx, Option.toList_some, ← List.append_assoc, lastk_snoc hk1])
              have hL2 := Lib.hid (show lastk k (two ++ l.take (j + 1)) = (lastk k (two ++ l.take j)).tail ++ [x] by rw [List.take_add_one, hx, Option.toList_some, ← List.append_assoc, lastk_snoc hk1])
              have hc4 := HC.out _ hbel
              have HP := push_any hws.1 x
              have hB1 := Lib.hid hbel
              have hT1 := Lib.hid hws
              clear hws hbel hx hc hcell hT7 hB7
              go_wp2_with fail
              refine HP.mono ?_; rintro e w5 ⟨rfl, hl5⟩
              have hT5 := Lib.hid (hT1.out.push1 hl5)
              have hB5 := Lib.hid (hB1.out.trans (hl5.2.2 _ hp1 hg1))
              clear hl5 hc4 HP
              have hc5 := HC.out _ hB5.out
              have HP := push_any hT5.out.2.1 x
              go_wp2_with fail
              refine HP.mono ?_; rintro e w6 ⟨rfl, hl6⟩
              have hT6 := Lib.hid (hT5.out.push2 hl6)
              have hB6 := Lib.hid (hB5.out.trans (hl6.2.2 _ hp2 hg2))
              clear hl6 hc5 HP
              go_wp2
              go_roundw
              case rel => exact ⟨j + 1, by omega, by go_num, by rw [hL1.out, hL2.out]; exact hT6.out, hB6.out⟩
              case measure => simp [intOf]; omega
            · obtain rfl : j = l.length := by omega
              rw [List.take_length, lastk_only _ _ hkl, lastk_only _ _ hkl] at hws
              obtain ⟨L, hL⟩ : ∃ L, L = l.drop (l.length - k) := ⟨_, rfl⟩
              rw [← hL] at hws
              have hT1 := Lib.hid hws
              have hB1 := Lib.hid hbel
              clear hL hws hbel hT7 hB7
              obtain ⟨d, hd⟩ : ∃ d, d = dist m L := ⟨_, rfl⟩
              obtain ⟨c, hc⟩ : ∃ c, c = cnt L := ⟨_, rfl⟩
              obtain ⟨f, hf⟩ : ∃ f, f = decide (cnt L < m) := ⟨_, rfl⟩
              have HP := distance_any hT1.out.1 hm1
              rw [← hd] at HP
              replace hd := Lib.hid hd
              replace hc := Lib.hid hc
              replace hf := Lib.hid hf
              go_wp2_with fail
              refine HP.mono ?_; rintro e w5 ⟨rfl, hb5⟩
              have hT2 := Lib.hid (hT1.out.below hb5)
              have hB2 := Lib.hid (hB1.out.trans (hb5.mono hB1.out.size))
              clear hb5 HP hT1 hB1
              have HP := distance_any hT2.out.2.1 hm1
              rw [← hd.out] at HP
              go_wp2_with fail
              refine HP.mono ?_; rintro e w6 ⟨rfl, hb5⟩
              have hT3 := Lib.hid (hT2.out.below hb5)
              have hB3 := Lib.hid (hB2.out.trans (hb5.mono hB2.out.size))
              clear hb5 HP hT2 hB2
              have HP := met_any hT3.out.1
              rw [← hc.out] at HP
              go_wp2_with fail
              refine HP.mono ?_; rintro e w7 ⟨rfl, hb5⟩
              have hT4 := Lib.hid (hT3.out.below hb5)
              have hB4 := Lib.hid (hB3.out.trans (hb5.mono hB3.out.size))
              clear hb5 HP hT3 hB3
              have HP := met_any hT4.out.2.1
              rw [← hc.out] at HP
              go_wp2_with fail
              refine HP.mono ?_; rintro e w8 ⟨rfl, hb5⟩
              have hT5 := Lib.hid (hT4.out.below hb5)
              have hB5 := Lib.hid (hB4.out.trans (hb5.mono hB4.out.size))
              clear hb5 HP hT4 hB4
              have HP := fails_any hT5.out.1
              rw [← hf.out] at HP
              go_wp2_with fail
              refine HP.mono ?_; rintro e w9 ⟨rfl, hb5⟩
              have hT6 := Lib.hid (hT5.out.below hb5)
              have hB6 := Lib.hid (hB5.out.trans (hb5.mono hB5.out.size))
              clear hb5 HP hT5 hB5
              have HP := fails_any hT6.out.2.1
              rw [← hf.out] at HP
              go_wp2_with fail
              refine HP.mono ?_; rintro e w10 ⟨rfl, hb5⟩
              have hB7 := Lib.hid (hB6.out.trans (hb5.mono hB6.out.size))
              clear hb5 HP hT6 hB6
              cases f <;> (go_wp2; go_ret; exact ⟨rfl, hB7.out⟩)
theorem last_walk (w : World) (a : Int) (wa : (Lit.int .u8 a).wf = true) (b : Int) (wb : (Lit.int .u8 b).wf = true) (A1 : Option Addr) (one : List Bool) (c1 : Nat) (hl1 : one.length ≤ c1) (hm1 : c1 ≤ maxLen) (ha1 : Arg Value.bool w A1 one)
    (A2 : Option Addr) (two : List Bool) (c2 : Nat) (hl2 : two.length ≤ c2) (hm2 : c2 ≤ maxLen) (ha2 : Arg Value.bool w A2 two) (A : Option Addr) (l : List Bool) (cap : Nat) (hl : l.length ≤ cap) (hm : cap ≤ maxLen) (ha : Arg Value.bool w A l) :
    Calls Try.prog 6 #[.int .u8 a, .int .u8 b, .slice A1 one.length c1, .slice A2 two.length c2, .slice A l.length cap] w fun e w' => e = .returned (.bool true) ∧ Below w.heap.size w w' := by
  unfold maxLen at hm hm1 hm2
  have h1 := bd_u8 wa
  have h2 := bd_u8 wb
  obtain ⟨a, rfl⟩ : ∃ n : Nat, a = (n : Int) := ⟨a.toNat, by omega⟩
  obtain ⟨b, rfl⟩ : ∃ n : Nat, b = (n : Int) := ⟨b.toNat, by omega⟩
  have x1 : one.length ≤ 9223372036854775807 := by omega
  have x2 : two.length ≤ 9223372036854775807 := by omega
  have x3 : l.length ≤ 9223372036854775807 := by omega
  have HA := awake_twice w
  obtain ⟨k, hk⟩ : ∃ k, 1 + b % 64 = k := ⟨_, rfl⟩
  obtain ⟨m, hm⟩ : ∃ m, 1 + a % k = m := ⟨_, rfl⟩
  have hki : 1 + (b : Int) % 64 = (k : Int) := by omega
  have hmi : 1 + (a : Int) % (k : Int) = (m : Int) := by omega
  have hk1 : 1 ≤ k := by omega
  by_cases h : one.length ≤ 200 ∧ two.length ≤ 200 ∧ k ≤ l.length ∧ l.length ≤ 300
  · obtain ⟨y1, y2, y3, y4⟩ := h
    exact last_any2 w a b k m (by omega) (by omega) hk hm A1 one c1 (reads_arg ha1 x1) y1 A2 two c2 (reads_arg ha2 x2) y2 A l cap (reads_arg ha x3) y4 y3
  · by_cases y1 : (one.length : Int) ≤ 200
    · by_cases y2 : (two.length : Int) ≤ 200
      · by_cases y3 : (k : Int) ≤ (l.length : Int)
        · have y4 : (300 : Int) < (l.length : Int) := by omega
          clear h h1 h2 ha wa wb hl hm ha1 ha2 hl1 hl2 hm1 hm2 hk
          go_enter Try.func6, Try.ntmps6
          go_wp2_with (go_at_call 8; refine (HA _ (by first | exact Below.refl _ _ | assumption)).mono ?_; rintro e w1 ⟨rfl, hb⟩)
          go_ret
          exact ⟨rfl, by assumption⟩
        · have y4 : (l.length : Int) < (k : Int) := by omega
          clear h h1 h2 ha wa wb hl hm ha1 ha2 hl1 hl2 hm1 hm2 hk
          go_enter Try.func6, Try.ntmps6
          go_wp2_with (go_at_call 8; refine (HA _ (by first | exact Below.refl _ _ | assumption)).mono ?_; rintro e w1 ⟨rfl, hb⟩)
          go_ret
          exact ⟨rfl, by assumption⟩
      · have y4 : (200 : Int) < (two.length : Int) := by omega
        clear h h1 h2 ha wa wb hl hm ha1 ha2 hl1 hl2 hm1 hm2 hk
        go_enter Try.func6, Try.ntmps6
        go_wp2_with (go_at_call 8; refine (HA _ (by first | exact Below.refl _ _ | assumption)).mono ?_; rintro e w1 ⟨rfl, hb⟩)
        go_ret
        exact ⟨rfl, by assumption⟩
    · have y4 : (200 : Int) < (one.length : Int) := by omega
      clear h h1 h2 ha wa wb hl hm ha1 ha2 hl1 hl2 hm1 hm2 hk
      go_enter Try.func6, Try.ntmps6
      go_wp2_with (go_at_call 8; refine (HA _ (by first | exact Below.refl _ _ | assumption)).mono ?_; rintro e w1 ⟨rfl, hb⟩)
      go_ret
      exact ⟨rfl, by assumption⟩
end Go.Proofs.Ytilegeffanijcaa.Win
