/- The walk of WindowKeeps. -/
import Derived.Test.YtilegeffanijcaaWinLaw
namespace Go.Proofs.Ytilegeffanijcaa.Win
open Go.RowKit Go.Proofs.YtilegeffanijcaaW.PrintWords Go.Proofs.YtilegeffanijcaaW.PrintLast Go.Proofs.YtilegeffanijcaaW.PrintMore Go.Proofs.Ytilegeffanijcaa.Ring Go.Proofs.Ytilegeffanijcaa.Args

set_option maxRecDepth 100000 in
theorem keeps_any (w : World) (a b k m : Nat) (ha : a ≤ 255) (hb : b ≤ 255) (hk : 1 + b % 64 = k) (hm : 1 + a % k = m) (A : Option Addr) (l : List Bool) (cap : Nat) (hr : ReadsOf Value.bool false w A l.length l) (hl : l.length ≤ 300) :
    Calls Try.prog 5 #[.int .u8 (a : Int), .int .u8 (b : Int), .slice A l.length cap] w fun e w' => e = .returned (.bool true) ∧ Below w.heap.size w w' := by
  have hki : 1 + (b : Int) % 64 = (k : Int) := by omega
  have hmi : 1 + (a : Int) % (k : Int) = (m : Int) := by omega
  have hll : (l.length : Int) ≤ 300 := by omega
  have hk1 : 1 ≤ k := by omega
  have hk2 : k ≤ 64 := by omega
  have hm1 : 1 ≤ m := by omega
  have hm2 : m ≤ k := by have := Nat.mod_lt a (show k > 0 by omega); omega
  have H := Lib.hid hr
  clear hr hk hm
  go_enter Try.func5, Try.ntmps5
  go_wp2_with fail
  refine (awake_any _).mono ?_; rintro e w1 ⟨rfl, hb1⟩
  replace hb1 := Lib.hid hb1
  go_wp2_with fail
  refine (new_yes _ m k hm1 hm2 hk2).mono ?_; rintro e w2 ⟨pw, p, g, rfl, hw, hpw, hp, hg, hb2⟩
  have hw2 := Lib.hid hw
  have hB2 := Lib.hid (hb1.out.trans (hb2.mono hb1.out.size))
  have hp' : w.heap.size ≤ p := Nat.le_trans hb1.out.size hp
  have hg' : w.heap.size ≤ g := Nat.le_trans hb1.out.size hg
  clear hw hb2 hpw hp hg hb1
  go_wp2_with fail
  go_loopw [10] (fun i wr => ∃ j : Nat, j ≤ l.length ∧ i = .int .i64 (j : Int) ∧ WS wr pw p g m k (lastk k (l.take j)) ∧ Below w.heap.size w wr) (fun i _ => l.length - (intOf i).toNat)
  case atStart => exact ⟨0, Nat.zero_le _, rfl, by rw [List.take_zero, lastk_nil]; exact hw2.out, hB2.out⟩
  case round =>
    obtain ⟨j, hj, rfl, hws, hbel⟩ := hrel
    by_cases hlt : j < l.length
    · obtain ⟨x, hx⟩ : ∃ x, l[j]? = some x := ⟨l[j], by simp [hlt]⟩
      obtain ⟨ad, rfl, hc⟩ := H.out.2.2 (by omega)
      have hcell := hc j hlt
      rw [show l.getD j false = x by simp [List.getD_eq_getElem?_getD, hx]] at hcell
      have hc4 := pw_cell_below hbel hcell
      have hL2 := Lib.hid (lastk_take hk1 hx)
      have HP := push_any hws x
      have hB1 := Lib.hid hbel
      clear hws hbel hx hc hcell hw2 hB2
      go_wp2_with fail
      refine HP.mono ?_; rintro e w5 ⟨rfl, hl5⟩
      have hw5 := Lib.hid hl5.1
      have hB5 := Lib.hid (hB1.out.trans (hl5.2.2 _ hp' hg'))
      clear hl5 hc4 HP
      go_wp2
      go_roundw
      case rel => exact ⟨j + 1, by omega, by go_num, by rw [hL2.out]; exact hw5.out, hB5.out⟩
      case measure => simp [intOf]; omega
    · obtain rfl : j = l.length := by omega
      obtain ⟨wo, rfl⟩ : ∃ wo : World, wo = wr := ⟨_, rfl⟩
      rw [List.take_length] at hws
      obtain ⟨L, hL⟩ : ∃ L, L = lastk k l := ⟨_, rfl⟩
      rw [← hL] at hws
      have hlenL : L.length = k := hws.2.2
      have HM := met_any hws
      obtain ⟨c, hc⟩ : ∃ c, c = cnt L := ⟨_, rfl⟩
      rw [← hc] at HM
      have hws1 := Lib.hid hws
      have hB1 := Lib.hid hbel
      replace hc := Lib.hid hc
      clear hws hbel hL hw2 hB2
      go_wp2_with fail
      refine HM.mono ?_; rintro e w3 ⟨rfl, hb3⟩
      have hw3 := Lib.hid (hws1.out.below hb3)
      have hB3 := Lib.hid (hB1.out.trans (hb3.mono hB1.out.size))
      clear HM hb3 hws1 hB1
      go_wp2_with fail
      refine (last_any hw3.out).mono ?_; rintro e w4 ⟨v, rfl, ho, hb4⟩
      rw [hlenL] at ho
      obtain ⟨g2, c2, cur, rfl, hg2, hblk, hkc, hcm, hcs, htk⟩ : ∃ g2 cap2 cur, v = .slice (some ⟨g2, 0, none⟩) k cap2 ∧ w3.heap.size ≤ g2 ∧ w4.heap[g2]? = some (.cells cur 4 (0, 0)) ∧ k ≤ cap2 ∧ cap2 ≤ maxLen ∧ cur.size = cap2 * 1 ∧ cur.toList.take (k * 1) = L.map Value.bool := by
        rcases ho.2 with ⟨_, h0⟩ | h
        · omega
        · exact h
      have hcur0 : ∀ i, i < k → ∃ b, cur[i]? = some (.bool b) := fun i hi => by
        obtain ⟨b, hb⟩ : ∃ b, L[i]? = some b := ⟨L[i]'(by omega), by simp [hlenL, hi]⟩
        have h7 : (L.map Value.bool)[i]? = some (.bool b) := by rw [List.getElem?_map, hb]; rfl
        rw [← htk, List.getElem?_take, if_pos (by omega)] at h7
        exact ⟨b, by simpa using h7⟩
      have hcur := Lib.hid hcur0
      clear hcur0
      replace hb4 := Lib.hid hb4
      replace hblk := Lib.hid hblk
      clear ho hcm hcs htk hlenL hkc
      go_wp2_with fail
      go_loopw [13] (fun i wr => ∃ (j : Nat) (cur : Array Value), j ≤ k ∧ i = .int .i64 (j : Int) ∧ wr.heap[g2]? = some (.cells cur 4 (0, 0)) ∧ (∀ i, i < k → ∃ b, cur[i]? = some (.bool b)) ∧ Below w3.heap.size w3 wr) (fun i _ => k - (intOf i).toNat)
      case atStart => exact ⟨0, cur, Nat.zero_le _, rfl, hblk.out, hcur.out, hb4.out⟩
      case round =>
        obtain ⟨j, cur, hj, rfl, hblk, hcur, hb4⟩ := hrel
        by_cases hlt : j < k
        · obtain ⟨b, hb⟩ := hcur j hlt
          have hcell : wr.cell? ⟨g2, j, none⟩ = some (.bool b) := (blk_cell hblk j).trans hb
          have hfz := blk_frozen hblk j
          have F := Lib.hid (And.intro hblk (And.intro hcur hb4))
          clear hblk hcur hb4 hb
          go_wp2
          go_roundw
          case rel =>
            obtain ⟨f1, f2, f3⟩ := F.out
            refine ⟨j + 1, _, by omega, by go_num, blk_set f1 j _, fun i hi => ?_, f3.setCell hg2 _⟩
            rw [Array.getElem?_setIfInBounds]
            split
            · split
              · exact ⟨_, rfl⟩
              · obtain ⟨b, hb⟩ := f2 i hi
                rw [Array.getElem?_eq_none (by omega)] at hb; cases hb
            · exact f2 i hi
          case measure => simp [intOf]; omega
        · have hsz := hb4.size
          have HM := met_any (hw3.out.below hb4)
          rw [← hc.out] at HM
          have hB6 := Lib.hid (hB3.out.trans (hb4.mono hB3.out.size))
          clear hblk hcur hb4
          go_wp2_with fail
          refine HM.mono ?_; rintro e w7 ⟨rfl, hb7⟩
          have hB7 := Lib.hid (hB6.out.trans (hb7.mono hB6.out.size))
          clear hb7 HM
          go_wp2
          go_ret
          exact ⟨rfl, hB7.out⟩

theorem keeps_walk (w : World) (a : Int) (wa : (Lit.int .u8 a).wf = true) (b : Int) (wb : (Lit.int .u8 b).wf = true) (A : Option Addr) (l : List Bool) (cap : Nat) (hl : l.length ≤ cap) (hm : cap ≤ maxLen) (ha : Arg Value.bool w A l) :
    Calls Try.prog 5 #[.int .u8 a, .int .u8 b, .slice A l.length cap] w fun e w' => e = .returned (.bool true) ∧ Below w.heap.size w w' := by
  unfold maxLen at hm
  have h1 := bd_u8 wa
  have h2 := bd_u8 wb
  obtain ⟨a, rfl⟩ : ∃ n : Nat, a = (n : Int) := ⟨a.toNat, by omega⟩
  obtain ⟨b, rfl⟩ : ∃ n : Nat, b = (n : Int) := ⟨b.toNat, by omega⟩
  by_cases h : l.length ≤ 300
  · exact keeps_any w a b _ _ (by omega) (by omega) rfl rfl A l cap (reads_arg ha (by omega)) h
  · have HA := awake_twice w
    have hn : (300 : Int) < (l.length : Int) := by omega
    have hx : l.length ≤ 9223372036854775807 := by omega
    clear h h1 h2 ha wa wb hl hm
    go_enter Try.func5, Try.ntmps5
    go_wp2_with (go_at_call 8; refine (HA _ (by first | exact Below.refl _ _ | assumption)).mono ?_; rintro e w1 ⟨rfl, hb⟩)
    go_ret
    exact ⟨rfl, by assumption⟩
end Go.Proofs.Ytilegeffanijcaa.Win
