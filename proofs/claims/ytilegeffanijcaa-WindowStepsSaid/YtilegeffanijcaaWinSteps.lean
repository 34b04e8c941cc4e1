/- The walk of WindowSteps. -/
import Derived.Test.YtilegeffanijcaaWinLaw
namespace Go.Proofs.Ytilegeffanijcaa.Win
open Go.RowKit Go.Proofs.YtilegeffanijcaaW.PrintWords Go.Proofs.YtilegeffanijcaaW.PrintLast Go.Proofs.YtilegeffanijcaaW.PrintMore Go.Proofs.Ytilegeffanijcaa.Ring Go.Proofs.Ytilegeffanijcaa.Args

set_option maxRecDepth 100000 in
theorem steps_any (w : World) (a b k m : Nat) (ha : a ≤ 255) (hb : b ≤ 255) (hk : 1 + b % 64 = k) (hm : 1 + a % k = m) (A : Option Addr) (l : List Bool) (cap : Nat) (hr : ReadsOf Value.bool false w A l.length l) (hl : l.length ≤ 300) :
    Calls Try.prog 4 #[.int .u8 (a : Int), .int .u8 (b : Int), .slice A l.length cap] w fun e w' => e = .returned (.bool true) ∧ Below w.heap.size w w' := by
  have hki : 1 + (b : Int) % 64 = (k : Int) := by omega
  have hmi : 1 + (a : Int) % (k : Int) = (m : Int) := by omega
  have hll : (l.length : Int) ≤ 300 := by omega
  have hk1 : 1 ≤ k := by omega
  have hk2 : k ≤ 64 := by omega
  have hm1 : 1 ≤ m := by omega
  have hm2 : m ≤ k := by have := Nat.mod_lt a (show k > 0 by omega); omega
  have H := Lib.hid hr
  clear hr hk hm
  go_enter Try.func4, Try.ntmps4
  go_wp2_with fail
  refine (awake_any _).mono ?_; rintro e w1 ⟨rfl, hb1⟩
  replace hb1 := Lib.hid hb1
  go_wp2_with fail
  refine (new_yes _ m k hm1 hm2 hk2).mono ?_; rintro e w2 ⟨pw, p, g, rfl, hw, hpw, hp, hg, hb2⟩
  have hw2 := Lib.hid hw
  have hB2 := Lib.hid (hb1.out.trans (hb2.mono hb1.out.size))
  have hp' : w.heap.size ≤ p := Nat.le_trans hb1.out.size hp
  have hg' : w.heap.size ≤ g := Nat.le_trans hb1.out.size hg
  clear hw hb2 hpw hp hg hb1
  obtain ⟨D, hD⟩ : ∃ D, D = dist m (List.replicate k true) := ⟨_, rfl⟩
  have HD := distance_any hw2.out hm1
  rw [← hD] at HD
  rw [dist_rep hm1] at hD
  go_wp2_with fail
  refine HD.mono ?_; rintro e w3 ⟨rfl, hb3⟩
  have hw3 := Lib.hid (hw2.out.below hb3)
  have hB3 := Lib.hid (hB2.out.trans (hb3.mono hB2.out.size))
  have hDb : D ≤ 64 := by omega
  replace hD := Lib.hid hD
  clear HD hb3 hB2 hw2
  go_wp2_with fail
  go_loopw [12] (fun i wr => ∃ j : Nat, j ≤ l.length ∧ i = .int .i64 (j : Int) ∧ WS wr pw p g m k (lastk k (l.take j)) ∧ Below w.heap.size w wr) (fun i _ => l.length - (intOf i).toNat)
  case atStart => exact ⟨0, Nat.zero_le _, rfl, by rw [List.take_zero, lastk_nil]; exact hw3.out, hB3.out⟩
  case round =>
    obtain ⟨j, hj, rfl, hws, hbel⟩ := hrel
    by_cases hlt : j < l.length
    · obtain ⟨x, hx⟩ : ∃ x, l[j]? = some x := ⟨l[j], by simp [hlt]⟩
      obtain ⟨ad, rfl, hc⟩ := H.out.2.2 (by omega)
      have hcell := hc j hlt
      rw [show l.getD j false = x by simp [List.getD_eq_getElem?_getD, hx]] at hcell
      have HC := Lib.hid (fun W (hW : Below w.heap.size w W) => pw_cell_below hW hcell)
      obtain ⟨L, hL⟩ : ∃ L, L = lastk k (l.take j) := ⟨_, rfl⟩
      rw [← hL] at hws
      obtain ⟨d, hd⟩ : ∃ d, d = dist m L := ⟨_, rfl⟩
      have HD1 := distance_any hws hm1
      rw [← hd] at HD1
      have hstep := lastk_take hk1 hx
      rw [← hL] at hstep
      have hL2 := Lib.hid hstep
      have hlenL : L.length = k := hws.2.2
      obtain ⟨d2, hd2⟩ : ∃ d2, d2 = dist m (L.tail ++ [x]) := ⟨_, rfl⟩
      have hd2D : d2 ≤ D := by
        have h1 := dist_le hm1 (L.tail ++ [x]); have h2 := hD.out
        have h3 : (L.tail ++ [x]).length = k := by simp; omega
        omega
      have hdD : d ≤ D := by have := dist_le hm1 L; have := hD.out; omega
      have hf : x = false → 0 < d → d2 = d - 1 := fun hx0 h0 => by
        have hn : ¬ cnt L < m := fun h => by have := (dist_zero hm1 L).2 h; omega
        have h1 := dist_tail hm1 (l := L) (by omega)
        rw [hd2, hx0, dist_snoc_false hm1]; omega
      have ht : 1 < d → d - 1 ≤ d2 := fun h0 => by
        have hn : ¬ cnt L < m := fun h => by have := (dist_zero hm1 L).2 h; omega
        have h1 := dist_tail hm1 (l := L) (by omega)
        have h2 := dist_snoc_ge hm1 L.tail x
        omega
      have HP := Lib.hid (fun (W : World) (hW : WS W pw p g m k L) => push_any hW x)
      have HD2 := Lib.hid (fun (W : World) (hW : WS W pw p g m k (L.tail ++ [x])) => distance_any hW hm1)
      rw [← hd2] at HD2
      have hws1 := Lib.hid hws
      have hB1 := Lib.hid hbel
      clear hws hbel hstep hL hd hd2 hlenL hx hc hcell hw3 hB3
      go_wp2_with fail
      refine HD1.mono ?_; rintro e w4 ⟨rfl, hb4⟩
      have hw4 := Lib.hid (hws1.out.below hb4)
      have hB4 := Lib.hid (hB1.out.trans (hb4.mono hB1.out.size))
      have hc4 := HC.out w4 hB4.out
      clear HD1 hb4
      go_wp2_with fail
      refine (HP.out w4 hw4.out).mono ?_; rintro e w5 ⟨rfl, hl5⟩
      have hw5 := Lib.hid hl5.1
      have hB5 := Lib.hid (hB4.out.trans (hl5.2.2 _ hp' hg'))
      clear hl5 hc4
      go_wp2_with fail
      refine (HD2.out w5 hw5.out).mono ?_; rintro e w6 ⟨rfl, hb6⟩
      have hw6 := Lib.hid (hw5.out.below hb6)
      have hB6 := Lib.hid (hB5.out.trans (hb6.mono hB5.out.size))
      have hc6 := HC.out w6 hB6.out
      have g1 : (d2 : Int) ≤ (D : Int) := by omega
      clear hb6 HD2 HP HC
      cases x with
      | true =>
        replace ht := Lib.hid ht
        clear hf
        by_cases h1 : (1 : Int) < (d : Int)
        · have g2 : (d : Int) - 1 ≤ (d2 : Int) := by have := ht.out (by omega); omega
          go_wp2
          go_roundw
          case rel => exact ⟨j + 1, by omega, by go_num, by rw [hL2.out]; exact hw6.out, hB6.out⟩
          case measure => simp [intOf]; omega
        · go_wp2
          go_roundw
          case rel => exact ⟨j + 1, by omega, by go_num, by rw [hL2.out]; exact hw6.out, hB6.out⟩
          case measure => simp [intOf]; omega
      | false =>
        clear ht
        by_cases h1 : (0 : Int) < (d : Int)
        · have g2 : (d2 : Int) = (d : Int) - 1 := by have := hf rfl (by omega); omega
          have g3 : (d : Int) - 1 ≤ (D : Int) := by omega
          have g4 : ((d2 : Int) != (d : Int) - 1) = false := by rw [g2]; simp
          replace g2 := Lib.hid g2
          clear hf
          go_wp2
          go_roundw
          case rel => exact ⟨j + 1, by omega, by go_num, by rw [hL2.out]; exact hw6.out, hB6.out⟩
          case measure => simp [intOf]; omega
        · clear hf
          go_wp2
          go_roundw
          case rel => exact ⟨j + 1, by omega, by go_num, by rw [hL2.out]; exact hw6.out, hB6.out⟩
          case measure => simp [intOf]; omega
    · obtain rfl : j = l.length := by omega
      obtain ⟨wo, rfl⟩ : ∃ wo : World, wo = wr := ⟨_, rfl⟩
      rw [List.take_length] at hws
      replace hws := Lib.hid hws
      have hB1 := Lib.hid hbel
      clear hbel hw3 hB3
      go_wp2_with fail
      go_loopw [15] (fun i wr => ∃ j : Nat, j ≤ k ∧ i = .int .i64 (j : Int) ∧ WS wr pw p g m k (lastk k (l ++ List.replicate j true)) ∧ Below w.heap.size w wr) (fun i _ => k - (intOf i).toNat)
      case atStart => exact ⟨0, Nat.zero_le _, rfl, by rw [List.replicate_zero, List.append_nil]; exact hws.out, hB1.out⟩
      case round =>
        obtain ⟨j, hj, rfl, hws2, hbel⟩ := hrel
        by_cases hlt : j < k
        · have HP := push_any hws2 true
          have hs := Lib.hid (lastk_snoc hk1 (l ++ List.replicate j true) true)
          have hB2 := Lib.hid hbel
          clear hws2 hbel
          go_wp2_with fail
          refine HP.mono ?_; rintro e w5 ⟨rfl, hl5⟩
          have hl6 := Lib.hid hl5
          clear hl5 HP
          go_wp2
          go_roundw
          case rel => exact ⟨j + 1, by omega, by go_num, by rw [List.replicate_succ', ← List.append_assoc, hs.out]; exact hl6.out.1, hB2.out.trans (hl6.out.2.2 _ hp' hg')⟩
          case measure => simp [intOf]; omega
        · obtain rfl : j = k := by omega
          rw [lastk_only _ _ (by simp), List.length_replicate, Nat.sub_self, List.drop_zero] at hws2
          have HD1 := distance_any hws2 hm1
          have hw2 := Lib.hid hws2
          have hB2 := Lib.hid hbel
          rw [dist_rep hm1, ← hD.out] at HD1
          clear hws2 hbel hws hB1
          go_wp2_with fail
          refine HD1.mono ?_; rintro e w5 ⟨rfl, hb5⟩
          have hw5 := Lib.hid (hw2.out.below hb5)
          have hB5 := Lib.hid (hB2.out.trans (hb5.mono hB2.out.size))
          have HF := fails_any hw5.out
          rw [cnt_rep_true, show decide (j < m) = false by simp; omega] at HF
          clear hb5 HD1 hw2 hB2
          go_wp2_with fail
          refine HF.mono ?_; rintro e w6 ⟨rfl, hb6⟩
          have hw6 := Lib.hid (hw5.out.below hb6)
          have hB6 := Lib.hid (hB5.out.trans (hb6.mono hB5.out.size))
          have HM := met_any hw6.out
          rw [cnt_rep_true] at HM
          clear hb6 HF hw5 hB5
          go_wp2_with fail
          refine HM.mono ?_; rintro e w7 ⟨rfl, hb7⟩
          have hB7 := Lib.hid (hB6.out.trans (hb7.mono hB6.out.size))
          have g5 : ((D : Int) == (j : Int) - (m : Int) + 1) = true := by have := hD.out; rw [beq_iff_eq]; omega
          clear hb7 HM
          go_wp2
          go_ret
          exact ⟨rfl, hB7.out⟩

theorem steps_walk (w : World) (a : Int) (wa : (Lit.int .u8 a).wf = true) (b : Int) (wb : (Lit.int .u8 b).wf = true) (A : Option Addr) (l : List Bool) (cap : Nat) (hl : l.length ≤ cap) (hm : cap ≤ maxLen) (ha : Arg Value.bool w A l) :
    Calls Try.prog 4 #[.int .u8 a, .int .u8 b, .slice A l.length cap] w fun e w' => e = .returned (.bool true) ∧ Below w.heap.size w w' := by
  unfold maxLen at hm
  have h1 := bd_u8 wa
  have h2 := bd_u8 wb
  obtain ⟨a, rfl⟩ : ∃ n : Nat, a = (n : Int) := ⟨a.toNat, by omega⟩
  obtain ⟨b, rfl⟩ : ∃ n : Nat, b = (n : Int) := ⟨b.toNat, by omega⟩
  by_cases h : l.length ≤ 300
  · exact steps_any w a b _ _ (by omega) (by omega) rfl rfl A l cap (reads_arg ha (by omega)) h
  · have HA := awake_twice w
    have hn : (300 : Int) < (l.length : Int) := by omega
    have hx : l.length ≤ 9223372036854775807 := by omega
    clear h h1 h2 ha wa wb hl hm
    go_enter Try.func4, Try.ntmps4
    go_wp2_with (go_at_call 8; refine (HA _ (by first | exact Below.refl _ _ | assumption)).mono ?_; rintro e w1 ⟨rfl, hb⟩)
    go_ret
    exact ⟨rfl, by assumption⟩
end Go.Proofs.Ytilegeffanijcaa.Win
