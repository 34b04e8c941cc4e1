/- The walk of PatternKeeps. -/
import Derived.Test.YtpbhajapmdaldaaPatLawC
namespace Go.Proofs.Ytpbhajapmdaldaa.Pat
open Go.RowKit Go.Proofs.YtpbhajapmdaldaaW.PrintWords Go.Proofs.YtpbhajapmdaldaaW.PrintLast Go.Proofs.YtpbhajapmdaldaaW.PrintMore Go.Proofs.Ytpbhajapmdaldaa.Ring Go.Proofs.Ytpbhajapmdaldaa.Args
set_option linter.unusedSimpArgs false
set_option linter.unusedVariables false
set_option maxHeartbeats 1600000 in
theorem keeps_any (w : World) (a b k m : Nat) (ha : a ≤ 255) (hb : b ≤ 255) (hk : 1 + b % 64 = k) (hm : 1 + a % k = m) :
    Calls Try.prog 6 #[.int .u8 (a : Int), .int .u8 (b : Int)] w fun e w' => e = .returned (.bool true) ∧ Below w.heap.size w w' := by
  have hki : 1 + (b : Int) % 64 = (k : Int) := by omega
  have hmi : 1 + (a : Int) % (k : Int) = (m : Int) := by omega
  have hk1 : 1 ≤ k := by omega
  have hk2 : k ≤ 64 := by omega
  have hm1 : 1 ≤ m := by omega
  have hm2 : m ≤ k := by have := Nat.mod_lt a (show k > 0 by omega); omega
  have hki2 : (k : Int) ≤ 64 := by omega
  have HR := Lib.hid (fun W => show Calls Try.prog 15 #[.int .i64 1, .int .i64 (m : Int), .int .i64 (k : Int)] W fun e w' => ∃ v, e = .returned v ∧ w'.ownsRow W.heap.size 4 1 v k ((rowl false m k k).map Value.bool) ∧ Below W.heap.size W w' from row_any false W m k hm1 hm2 hk2)
  have HQ := Lib.hid (fun (W : World) (j : Nat) (hj : j ≤ 64) => show Calls Try.prog 14 #[.int .i64 1, .int .i64 (j : Int), .int .i64 (m : Int), .int .i64 (k : Int)] W fun e w' => e = .returned (.bool (must false m k j)) ∧ ∃ nd, w' = W.drewN nd from rmust_any false W j m k (by omega) hm1 hm2 hk2)
  clear hk hm
  go_enter Try.func6, Try.ntmps6
  go_wp2_with fail
  refine (awake_any _).mono ?_; rintro e w1 ⟨rfl, hb1⟩
  replace hb1 := Lib.hid hb1
  go_wp2_with fail
  refine (HR.out _).mono ?_; rintro e w2 ⟨v, rfl, ho, hb2⟩
  obtain ⟨g2, c2, cur, rfl, hg2, hblk, hkc, hcm, hcs, htk⟩ : ∃ g2 cap2 cur, v = .slice (some ⟨g2, 0, none⟩) k cap2 ∧ w1.heap.size ≤ g2 ∧ w2.heap[g2]? = some (.cells cur 4 (0, 0)) ∧ k ≤ cap2 ∧ cap2 ≤ maxLen ∧ cur.size = cap2 * 1 ∧ cur.toList.take (k * 1) = (rowl false m k k).map Value.bool := by
    rcases ho.2 with ⟨_, h0⟩ | h
    · omega
    · exact h
  have hcur0 : ∀ i, i < k → ∃ b, cur[i]? = some (.bool b) := fun i hi => by
    obtain ⟨b, hb⟩ : ∃ b, (rowl false m k k)[i]? = some b := ⟨(rowl false m k k)[i]'(by rw [rowl_len]; exact hi), by simp [rowl_len, hi]⟩
    have h7 : ((rowl false m k k).map Value.bool)[i]? = some (.bool b) := by rw [List.getElem?_map, hb]; rfl
    rw [← htk, List.getElem?_take, if_pos (by omega)] at h7
    exact ⟨b, by simpa using h7⟩
  have hcur := Lib.hid hcur0
  have hkb : k ≤ 9223372036854775807 := by omega
  replace hb2 := Lib.hid hb2
  replace hblk := Lib.hid hblk
  clear hcur0 ho hcm hcs htk hkc
  go_wp2_with fail
  go_loopw [8] (fun i wr => ∃ (j : Nat) (cur : Array Value), j ≤ k ∧ i = .int .i64 (j : Int) ∧ wr.heap[g2]? = some (.cells cur 4 (0, 0)) ∧ (∀ i, i < k → ∃ b, cur[i]? = some (.bool b)) ∧ Below w1.heap.size w1 wr) (fun i _ => k - (intOf i).toNat)
  case atStart => exact ⟨0, cur, Nat.zero_le _, rfl, hblk.out, hcur.out, hb2.out⟩
  case round =>
    obtain ⟨j, cur, hj, rfl, hblk, hcur, hb4⟩ := hrel
    by_cases hlt : j < k
    · obtain ⟨b, hb⟩ := hcur j hlt
      have hcell : wr.cell? ⟨g2, j, none⟩ = some (.bool b) := (blk_cell hblk j).trans hb
      have hfz := blk_frozen hblk j
      have F := Lib.hid (And.intro hblk (And.intro hcur hb4))
      clear hblk hcur hb4 hb
      go_wp2
      go_roundw
      case rel =>
        obtain ⟨f1, f2, f3⟩ := F.out
        refine ⟨j + 1, _, by omega, by go_num, blk_set f1 j _, fun i hi => ?_, f3.setCell hg2 _⟩
        rw [Array.getElem?_setIfInBounds]
        split
        · split
          · exact ⟨_, rfl⟩
          · obtain ⟨b, hb⟩ := f2 i hi
            rw [Array.getElem?_eq_none (by omega)] at hb; cases hb
        · exact f2 i hi
      case measure => simp [intOf]; omega
    · obtain rfl : j = k := by omega
      obtain ⟨w3, rfl⟩ : ∃ W : World, W = wr := ⟨_, rfl⟩
      have hB3 := Lib.hid (hb1.out.trans (hb4.mono hb1.out.size))
      clear hblk hcur hb4
      go_wp2_with fail
      refine (HR.out _).mono ?_; rintro e w4 ⟨v, rfl, ho, hb5⟩
      obtain ⟨A, c, rfl, hr⟩ := own_reads_of (enc := Value.bool) (d := false) ho
      obtain ⟨ad, rfl, hcell⟩ := hr.2.2 (by omega)
      have hB4 := Lib.hid (hB3.out.trans (hb5.mono hB3.out.size))
      replace hcell := Lib.hid hcell
      clear ho hb5 hr
      go_wp2_with fail
      go_loopw [10] (fun i wr => ∃ i' : Nat, i' ≤ j ∧ i = .int .i64 (i' : Int) ∧ Below w4.heap.size w4 wr) (fun i _ => j - (intOf i).toNat)
      case atStart => exact ⟨0, Nat.zero_le _, rfl, Below.refl _ _⟩
      case round =>
        obtain ⟨i, hi, rfl, hb6⟩ := hrel
        by_cases hij : i < j
        · have c1 := pw_cell_below hb6 (hcell.out i hij)
          have hget : (rowl false m j j).getD i false = must false m j i := by
            rw [List.getD_eq_getElem?_getD, rowl, List.getElem?_map, List.getElem?_range hij]; rfl
          rw [hget] at c1
          have HQ1 := Lib.hid (fun W => HQ.out W i (by omega))
          obtain ⟨x, hx⟩ : ∃ x, x = must false m j i := ⟨_, rfl⟩
          rw [← hx] at c1 HQ1
          have hij2 : (i : Int) < (j : Int) := by omega
          replace hb6 := Lib.hid hb6
          clear hx hget
          go_wp2_with fail
          go_quiet ((go_at_call 14; exact Calls.quiet_of (HQ1.out _)))
          go_wp2
          go_roundw
          case rel => exact ⟨i + 1, by omega, by go_num, pw_below_drewN hb6.out _⟩
          case measure => simp [intOf]; omega
        · obtain rfl : i = j := by omega
          have hB7 := Lib.hid (hB4.out.trans (hb6.mono hB4.out.size))
          clear hb6
          go_wp2
          go_ret
          exact ⟨rfl, hB7.out⟩
theorem keeps_walk (w : World) (a : Int) (wa : (Lit.int .u8 a).wf = true) (b : Int) (wb : (Lit.int .u8 b).wf = true) :
    Calls Try.prog 6 #[.int .u8 a, .int .u8 b] w fun e w' => e = .returned (.bool true) ∧ Below w.heap.size w w' := by
  have h1 := bd_u8 wa
  have h2 := bd_u8 wb
  obtain ⟨a, rfl⟩ : ∃ n : Nat, a = (n : Int) := ⟨a.toNat, by omega⟩
  obtain ⟨b, rfl⟩ : ∃ n : Nat, b = (n : Int) := ⟨b.toNat, by omega⟩
  exact keeps_any w a b _ _ (by omega) (by omega) rfl rfl
end Go.Proofs.Ytpbhajapmdaldaa.Pat
