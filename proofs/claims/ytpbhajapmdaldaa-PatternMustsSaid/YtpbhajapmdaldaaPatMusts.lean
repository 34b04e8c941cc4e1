/- The walk of PatternMusts. -/
import Derived.Test.YtpbhajapmdaldaaPatLawC
namespace Go.Proofs.Ytpbhajapmdaldaa.Pat
open Go.RowKit Go.Proofs.YtpbhajapmdaldaaW.PrintWords Go.Proofs.YtpbhajapmdaldaaW.PrintLast Go.Proofs.YtpbhajapmdaldaaW.PrintMore Go.Proofs.Ytpbhajapmdaldaa.Ring Go.Proofs.Ytpbhajapmdaldaa.Args
set_option linter.unusedSimpArgs false
set_option linter.unusedVariables false
theorem musts_bad (w : World) (kind n m k : Int) (h : ¬ ((kind = 1 ∨ kind = 2) ∧ 1 ≤ m ∧ m ≤ k ∧ k ≤ 64)) :
    Calls Try.prog 3 #[.int .i64 kind, .int .u64 n, .int .i64 m, .int .i64 k] w fun e w' => e = .returned (.bool true) ∧ Below w.heap.size w w' := by
  have H1 := Lib.hid (fun W => right_no W kind m k h)
  have H2 := Lib.hid (fun W => rright_no W kind m k h)
  clear h
  go_enter Try.func3, Try.ntmps3
  go_wp2_with fail
  refine (awake_any _).mono ?_; rintro e w1 ⟨rfl, hb1⟩
  replace hb1 := Lib.hid hb1
  go_wp2_with fail
  refine (H1.out _).mono ?_; rintro e w2 ⟨rfl, rfl⟩
  go_wp2_with fail
  refine (H2.out _).mono ?_; rintro e w3 ⟨rfl, rfl⟩
  go_wp2_with fail
  refine (H2.out _).mono ?_; rintro e w4 ⟨rfl, rfl⟩
  go_wp2
  go_ret
  exact ⟨rfl, hb1.out⟩
set_option maxHeartbeats 1600000 in
theorem musts_good (w : World) (deep : Bool) (z : Int) (hz : (deep = true ∧ z = 2) ∨ (deep = false ∧ z = 1)) (n : Int) (hn0 : 0 ≤ n) (hn1 : n ≤ 18446744073709551615) (m k : Nat) (hm1 : 1 ≤ m) (hm2 : m ≤ k) (hk2 : k ≤ 64) :
    Calls Try.prog 3 #[.int .i64 z, .int .u64 n, .int .i64 (m : Int), .int .i64 (k : Int)] w fun e w' => e = .returned (.bool true) ∧ Below w.heap.size w w' := by
  obtain ⟨t, ht⟩ : ∃ t : Nat, n % 1099511627777 = (t : Int) := ⟨(n % 1099511627777).toNat, by omega⟩
  have htb : t ≤ 1099511627776 := by omega
  have hti : (t : Int) ≤ 1099511627776 := by omega
  have hkz : kd deep = z := by rcases hz with ⟨rfl, rfl⟩ | ⟨rfl, rfl⟩ <;> rfl
  have H1 := Lib.hid (fun W => by have := right_yes deep W m k hm1 hm2 hk2; rw [hkz] at this; exact this)
  have H2 := Lib.hid (fun W => by have := rright_yes deep W m k hm1 hm2 hk2; rw [hkz] at this; exact this)
  have H3 := Lib.hid (fun W => by have := count_any deep W t m k (by omega) hm1 hm2 hk2; rw [hkz] at this; exact this)
  have H4 := Lib.hid (fun W => by have := rcount_any deep W t m k (by omega) hm1 hm2 hk2; rw [hkz] at this; exact this)
  have H5 := Lib.hid (fun W => by have := must_any deep W t m k hm1 hm2 hk2 (by omega); rw [hkz] at this; exact this)
  have H6 := Lib.hid (fun W => by have := rmust_any deep W t m k (by omega) hm1 hm2 hk2; rw [hkz] at this; exact this)
  have HR := Lib.hid (fun W => by have := row_any deep W m k hm1 hm2 hk2; rw [hkz] at this; exact this)
  have HQ := Lib.hid (fun (W : World) (j : Nat) (hj : j ≤ 64) => by have := rmust_any deep W j m k (by omega) hm1 hm2 hk2; rw [hkz] at this; exact this)
  obtain ⟨cc, hcc⟩ : ∃ cc, cc = C deep m k t := ⟨_, rfl⟩
  obtain ⟨uu, huu⟩ : ∃ uu, uu = must deep m k t := ⟨_, rfl⟩
  rw [← hcc] at H3 H4
  rw [← huu] at H5 H6
  clear hkz hcc huu hz
  go_enter Try.func3, Try.ntmps3
  go_wp2_with fail
  refine (awake_any _).mono ?_; rintro e w1 ⟨rfl, hb1⟩
  replace hb1 := Lib.hid hb1
  go_wp2_with fail
  refine (H1.out _).mono ?_; rintro e w2 ⟨rfl, rfl⟩
  go_wp2_with fail
  refine (H2.out _).mono ?_; rintro e w3 ⟨rfl, rfl⟩
  go_wp2_with fail
  refine (H2.out _).mono ?_; rintro e w4 ⟨rfl, rfl⟩
  go_wp2_with fail
  refine (H3.out _).mono ?_; rintro e w5 ⟨rfl, n5, rfl⟩
  go_wp2_with fail
  refine (H4.out _).mono ?_; rintro e w6 ⟨rfl, n6, hw6⟩
  have hb6 := Lib.hid (by rw [hw6]; exact pw_below_drewN (pw_below_drewN hb1.out n5) n6 : Below w.heap.size w w6)
  clear hw6
  go_wp2_with fail
  refine (H5.out _).mono ?_; rintro e w7 ⟨rfl, hb7⟩
  have hb8 := Lib.hid (hb6.out.trans (hb7.mono hb6.out.size))
  clear hb7
  go_wp2_with fail
  refine (H6.out _).mono ?_; rintro e w8 ⟨rfl, n8, hw8⟩
  have hb9 := Lib.hid (by rw [hw8]; exact pw_below_drewN hb8.out n8 : Below w.heap.size w w8)
  clear hw8
  cases uu <;> (
    go_wp2_with fail
    refine (HR.out _).mono ?_; rintro e w10 ⟨v, rfl, ho, hb10⟩
    obtain ⟨A, c, rfl, hr⟩ := own_reads_of (enc := Value.bool) (d := false) ho
    obtain ⟨ad, rfl, hcell⟩ := hr.2.2 (by omega)
    have hB4 := Lib.hid (hb9.out.trans (hb10.mono hb9.out.size))
    have hkb : k ≤ 9223372036854775807 := by omega
    replace hcell := Lib.hid hcell
    clear ho hb10 hr
    go_wp2_with fail
    go_loopw [11] (fun i wr => ∃ i' : Nat, i' ≤ k ∧ i = .int .i64 (i' : Int) ∧ Below w10.heap.size w10 wr) (fun i _ => k - (intOf i).toNat)
    case atStart => exact ⟨0, Nat.zero_le _, rfl, Below.refl _ _⟩
    case round =>
      obtain ⟨i, hi, rfl, hb6⟩ := hrel
      by_cases hij : i < k
      · have c1 := pw_cell_below hb6 (hcell.out i hij)
        have hget : (rowl deep m k k).getD i false = must deep m k i := by
          rw [List.getD_eq_getElem?_getD, rowl, List.getElem?_map, List.getElem?_range hij]; rfl
        rw [hget] at c1
        have HQ1 := Lib.hid (fun W => HQ.out W i (by omega))
        obtain ⟨x, hx⟩ : ∃ x, x = must deep m k i := ⟨_, rfl⟩
        rw [← hx] at c1 HQ1
        have hij2 : (i : Int) < (k : Int) := by omega
        replace hb6 := Lib.hid hb6
        clear hx hget
        go_wp2_with fail
        go_quiet ((go_at_call 14; exact Calls.quiet_of (HQ1.out _)))
        go_wp2
        go_roundw
        case rel => exact ⟨i + 1, by omega, by go_num, pw_below_drewN hb6.out _⟩
        case measure => simp [intOf]; omega
      · obtain rfl : i = k := by omega
        have hB7 := Lib.hid (hB4.out.trans (hb6.mono hB4.out.size))
        clear hb6
        go_wp2
        go_ret
        exact ⟨rfl, hB7.out⟩)
theorem musts_walk (w : World) (kind : Int) (wk : (Lit.int .i64 kind).wf = true) (n : Int) (wn : (Lit.int .u64 n).wf = true) (m : Int) (wm : (Lit.int .i64 m).wf = true) (k : Int) (wk2 : (Lit.int .i64 k).wf = true) :
    Calls Try.prog 3 #[.int .i64 kind, .int .u64 n, .int .i64 m, .int .i64 k] w fun e w' => e = .returned (.bool true) ∧ Below w.heap.size w w' := by
  have h3 := bd_u64 wn
  by_cases h : (kind = 1 ∨ kind = 2) ∧ 1 ≤ m ∧ m ≤ k ∧ k ≤ 64
  · obtain ⟨m, rfl⟩ : ∃ x : Nat, m = (x : Int) := ⟨m.toNat, by omega⟩
    obtain ⟨k, rfl⟩ : ∃ x : Nat, k = (x : Int) := ⟨k.toNat, by omega⟩
    rcases h.1 with rfl | rfl
    · exact musts_good w false 1 (.inr ⟨rfl, rfl⟩) n h3.1 h3.2 m k (by omega) (by omega) (by omega)
    · exact musts_good w true 2 (.inl ⟨rfl, rfl⟩) n h3.1 h3.2 m k (by omega) (by omega) (by omega)
  · exact musts_bad w kind n m k h
end Go.Proofs.Ytpbhajapmdaldaa.Pat
