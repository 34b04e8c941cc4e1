/- The walk of PatternMore. -/
import Derived.Test.YtpbhajapmdaldaaPatLawC
namespace Go.Proofs.Ytpbhajapmdaldaa.Pat
open Go.RowKit Go.Proofs.YtpbhajapmdaldaaW.PrintWords Go.Proofs.YtpbhajapmdaldaaW.PrintLast Go.Proofs.YtpbhajapmdaldaaW.PrintMore Go.Proofs.Ytpbhajapmdaldaa.Ring Go.Proofs.Ytpbhajapmdaldaa.Args
set_option linter.unusedSimpArgs false
set_option linter.unusedVariables false
set_option maxHeartbeats 1600000 in
theorem more_any (w : World) (n a b k m : Nat) (hn : n ≤ 4294967295) (ha : a ≤ 255) (hb : b ≤ 255) (hk : 1 + b % 64 = k) (hm : 1 + a % k = m) :
    Calls Try.prog 7 #[.int .u32 (n : Int), .int .u8 (a : Int), .int .u8 (b : Int)] w fun e w' => e = .returned (.bool true) ∧ Below w.heap.size w w' := by
  have hki : 1 + (b : Int) % 64 = (k : Int) := by omega
  have hmi : 1 + (a : Int) % (k : Int) = (m : Int) := by omega
  have hk1 : 1 ≤ k := by omega
  have hk2 : k ≤ 64 := by omega
  have hm1 : 1 ≤ m := by omega
  have hm2 : m ≤ k := by have := Nat.mod_lt a (show k > 0 by omega); omega
  have hki2 : (k : Int) ≤ 64 := by omega
  have HE := Lib.hid (fun W => show Calls Try.prog 11 #[.int .i64 1, .int .i64 (n : Int), .int .i64 (m : Int), .int .i64 (k : Int)] W fun e w' => e = .returned (.int .i64 (C false (m) k n : Int)) ∧ ∃ nd, w' = W.drewN nd from count_any false W n (m) k (by omega) (by omega) (by omega) hk2)
  have HD := Lib.hid (fun W => show Calls Try.prog 11 #[.int .i64 2, .int .i64 (n : Int), .int .i64 (m : Int), .int .i64 (k : Int)] W fun e w' => e = .returned (.int .i64 (C true (m) k n : Int)) ∧ ∃ nd, w' = W.drewN nd from count_any true W n (m) k (by omega) (by omega) (by omega) hk2)
  have HEK := Lib.hid (fun W => show Calls Try.prog 11 #[.int .i64 1, .int .i64 (n : Int), .int .i64 (k : Int), .int .i64 (k : Int)] W fun e w' => e = .returned (.int .i64 (n : Int)) ∧ ∃ nd, w' = W.drewN nd from by have := count_any false W n k k (by omega) hk1 (Nat.le_refl _) hk2; rw [C_all hk1] at this; exact this)
  have HDK := Lib.hid (fun W => show Calls Try.prog 11 #[.int .i64 2, .int .i64 (n : Int), .int .i64 (k : Int), .int .i64 (k : Int)] W fun e w' => e = .returned (.int .i64 (n : Int)) ∧ ∃ nd, w' = W.drewN nd from by have := count_any true W n k k (by omega) hk1 (Nat.le_refl _) hk2; rw [C_all hk1] at this; exact this)
  have HR := Lib.hid (fun W => show Calls Try.prog 15 #[.int .i64 2, .int .i64 (m : Int), .int .i64 (k : Int)] W fun e w' => ∃ v, e = .returned v ∧ w'.ownsRow W.heap.size 4 1 v k ((rowl true m k k).map Value.bool) ∧ Below W.heap.size W w' from row_any true W m k hm1 hm2 hk2)
  have hed := C_deep hk1 hm2 n
  have hme := C_more (deep := false) (m := m) hk1 n
  have hmd := C_more (deep := true) (m := m) hk1 n
  have hle1 := C_le (deep := true) hk1 hm2 n
  obtain ⟨ce, hce⟩ : ∃ c, c = C false m k n := ⟨_, rfl⟩
  obtain ⟨cd, hcd⟩ : ∃ c, c = C true m k n := ⟨_, rfl⟩
  rw [← hce] at HE hed hme
  rw [← hcd] at HD hed hmd hle1
  have hedi : (ce : Int) ≤ (cd : Int) := by omega
  clear hk hm hce hcd
  have hni : (n : Int) ≤ 4294967295 := by omega
  have hfin : ∀ W : World, Below w.heap.size w W → True := fun _ _ => trivial
  clear hfin
  by_cases hmk : m < k
  · have hmk2 : (m : Int) < (k : Int) := by omega
    have hle2 := C_le (deep := true) (m := m + 1) hk1 hmk n
    obtain ⟨ce1, hce1⟩ : ∃ c, c = C false (m + 1) k n := ⟨_, rfl⟩
    obtain ⟨cd1, hcd1⟩ : ∃ c, c = C true (m + 1) k n := ⟨_, rfl⟩
    have HE1 := Lib.hid (fun W => show Calls Try.prog 11 #[.int .i64 1, .int .i64 (n : Int), .int .i64 ((m : Int) + 1), .int .i64 (k : Int)] W fun e w' => e = .returned (.int .i64 (ce1 : Int)) ∧ ∃ nd, w' = W.drewN nd from by have := count_any false W n (m + 1) k (by omega) (by omega) hmk hk2; rw [← hce1] at this; exact this)
    have HD1 := Lib.hid (fun W => show Calls Try.prog 11 #[.int .i64 2, .int .i64 (n : Int), .int .i64 ((m : Int) + 1), .int .i64 (k : Int)] W fun e w' => e = .returned (.int .i64 (cd1 : Int)) ∧ ∃ nd, w' = W.drewN nd from by have := count_any true W n (m + 1) k (by omega) (by omega) hmk hk2; rw [← hcd1] at this; exact this)
    rw [← hce1] at hme
    rw [← hcd1] at hmd hle2
    have g1 : (ce : Int) ≤ (ce1 : Int) := by omega
    have g2 : (cd : Int) ≤ (cd1 : Int) := by omega
    clear hce1 hcd1
    go_enter Try.func7, Try.ntmps7
    go_wp2_with fail
    refine (awake_any _).mono ?_; rintro e w1 ⟨rfl, hb1⟩
    replace hb1 := Lib.hid hb1
    go_wp2_with fail
    refine (HE1.out _).mono ?_; rintro e w2 ⟨rfl, n2, rfl⟩
    go_wp2_with fail
    refine (HE.out _).mono ?_; rintro e w3 ⟨rfl, n3, hw3⟩
    have hb3 := Lib.hid (by rw [hw3]; exact pw_below_drewN (pw_below_drewN hb1.out n2) n3 : Below w.heap.size w w3)
    clear hw3
    go_wp2_with fail
    refine (HD1.out _).mono ?_; rintro e w4 ⟨rfl, n4, rfl⟩
    go_wp2_with fail
    refine (HD.out _).mono ?_; rintro e w5 ⟨rfl, n5, hw5⟩
    have hb5 := Lib.hid (by rw [hw5]; exact pw_below_drewN (pw_below_drewN hb3.out n4) n5 : Below w.heap.size w w5)
    clear hw5
    go_wp2_with fail
    refine (HR.out _).mono ?_; rintro e w10 ⟨v, rfl, ho, hb10⟩
    obtain ⟨A, c, rfl, hr⟩ := own_reads_of (enc := Value.bool) (d := false) ho
    obtain ⟨ad, rfl, hcell⟩ := hr.2.2 (by omega)
    have hB4 := Lib.hid (hb5.out.trans (hb10.mono hb5.out.size))
    have hkb : k ≤ 9223372036854775807 := by omega
    replace hcell := Lib.hid hcell
    clear ho hb10 hr
    go_wp2_with fail
    go_loopw [11] (fun i wr => ∃ i' : Nat, i' ≤ k ∧ i = .int .i64 (i' : Int) ∧ wr = w10) (fun i _ => k - (intOf i).toNat)
    case atStart => exact ⟨0, Nat.zero_le _, rfl, rfl⟩
    case round =>
      obtain ⟨i, hi, rfl, rfl⟩ := hrel
      by_cases hij : i < k
      · have c1 := hcell.out i hij
        have hget : (rowl true m k k).getD i false = decide (i < m) := by
          rw [List.getD_eq_getElem?_getD, rowl, List.getElem?_map, List.getElem?_range hij]; exact must_deep hk1 hm2 hij
        rw [hget] at c1
        have hij2 : (i : Int) < (k : Int) := by omega
        clear hget
        by_cases him : i < m
        · rw [show decide (i < m) = true by simpa using him] at c1
          have him2 : (i : Int) < (m : Int) := by omega
          go_wp2
          go_roundw
          case rel => exact ⟨i + 1, by omega, by go_num, trivial⟩
          case measure => simp [intOf]; omega
        · rw [show decide (i < m) = false by simpa using him] at c1
          have him2 : ¬ (i : Int) < (m : Int) := by omega
          go_wp2
          go_roundw
          case rel => exact ⟨i + 1, by omega, by go_num, trivial⟩
          case measure => simp [intOf]; omega
      · obtain rfl : i = k := by omega
        go_wp2_with fail
        refine (HEK.out _).mono ?_; rintro e w12 ⟨rfl, n12, rfl⟩
        go_wp2_with fail
        refine (HDK.out _).mono ?_; rintro e w13 ⟨rfl, n13, hw13⟩
        have hb13 := Lib.hid (by rw [hw13]; exact pw_below_drewN (pw_below_drewN hB4.out n12) n13 : Below w.heap.size w w13)
        clear hw13
        go_wp2_with fail
        refine (HE.out _).mono ?_; rintro e w14 ⟨rfl, n14, rfl⟩
        go_wp2_with fail
        refine (HD.out _).mono ?_; rintro e w15 ⟨rfl, n15, hw15⟩
        have hb15 := Lib.hid (by rw [hw15]; exact pw_below_drewN (pw_below_drewN hb13.out n14) n15 : Below w.heap.size w w15)
        clear hw15
        go_wp2
        go_ret
        exact ⟨rfl, hb15.out⟩
  · have hmk2 : ¬ (m : Int) < (k : Int) := by omega
    go_enter Try.func7, Try.ntmps7
    go_wp2_with fail
    refine (awake_any _).mono ?_; rintro e w1 ⟨rfl, hb1⟩
    replace hb1 := Lib.hid hb1
    go_wp2_with fail
    have hb5 := Lib.hid hb1.out
    refine (HR.out _).mono ?_; rintro e w10 ⟨v, rfl, ho, hb10⟩
    obtain ⟨A, c, rfl, hr⟩ := own_reads_of (enc := Value.bool) (d := false) ho
    obtain ⟨ad, rfl, hcell⟩ := hr.2.2 (by omega)
    have hB4 := Lib.hid (hb5.out.trans (hb10.mono hb5.out.size))
    have hkb : k ≤ 9223372036854775807 := by omega
    replace hcell := Lib.hid hcell
    clear ho hb10 hr
    go_wp2_with fail
    go_loopw [11] (fun i wr => ∃ i' : Nat, i' ≤ k ∧ i = .int .i64 (i' : Int) ∧ wr = w10) (fun i _ => k - (intOf i).toNat)
    case atStart => exact ⟨0, Nat.zero_le _, rfl, rfl⟩
    case round =>
      obtain ⟨i, hi, rfl, rfl⟩ := hrel
      by_cases hij : i < k
      · have c1 := hcell.out i hij
        have hget : (rowl true m k k).getD i false = decide (i < m) := by
          rw [List.getD_eq_getElem?_getD, rowl, List.getElem?_map, List.getElem?_range hij]; exact must_deep hk1 hm2 hij
        rw [hget] at c1
        have hij2 : (i : Int) < (k : Int) := by omega
        clear hget
        by_cases him : i < m
        · rw [show decide (i < m) = true by simpa using him] at c1
          have him2 : (i : Int) < (m : Int) := by omega
          go_wp2
          go_roundw
          case rel => exact ⟨i + 1, by omega, by go_num, trivial⟩
          case measure => simp [intOf]; omega
        · rw [show decide (i < m) = false by simpa using him] at c1
          have him2 : ¬ (i : Int) < (m : Int) := by omega
          go_wp2
          go_roundw
          case rel => exact ⟨i + 1, by omega, by go_num, trivial⟩
          case measure => simp [intOf]; omega
      · obtain rfl : i = k := by omega
        go_wp2_with fail
        refine (HEK.out _).mono ?_; rintro e w12 ⟨rfl, n12, rfl⟩
        go_wp2_with fail
        refine (HDK.out _).mono ?_; rintro e w13 ⟨rfl, n13, hw13⟩
        have hb13 := Lib.hid (by rw [hw13]; exact pw_below_drewN (pw_below_drewN hB4.out n12) n13 : Below w.heap.size w w13)
        clear hw13
        go_wp2_with fail
        refine (HE.out _).mono ?_; rintro e w14 ⟨rfl, n14, rfl⟩
        go_wp2_with fail
        refine (HD.out _).mono ?_; rintro e w15 ⟨rfl, n15, hw15⟩
        have hb15 := Lib.hid (by rw [hw15]; exact pw_below_drewN (pw_below_drewN hb13.out n14) n15 : Below w.heap.size w w15)
        clear hw15
        go_wp2
        go_ret
        exact ⟨rfl, hb15.out⟩
theorem more_walk (w : World) (n : Int) (wn : (Lit.int .u32 n).wf = true) (a : Int) (wa : (Lit.int .u8 a).wf = true) (b : Int) (wb : (Lit.int .u8 b).wf = true) :
    Calls Try.prog 7 #[.int .u32 n, .int .u8 a, .int .u8 b] w fun e w' => e = .returned (.bool true) ∧ Below w.heap.size w w' := by
  have h1 := bd_u8 wa
  have h2 := bd_u8 wb
  obtain ⟨a, rfl⟩ : ∃ n : Nat, a = (n : Int) := ⟨a.toNat, by omega⟩
  obtain ⟨b, rfl⟩ : ∃ n : Nat, b = (n : Int) := ⟨b.toNat, by omega⟩
  have h3 := bd_u32 wn
  obtain ⟨n, rfl⟩ : ∃ x : Nat, n = (x : Int) := ⟨n.toNat, by omega⟩
  exact more_any w n a b _ _ (by omega) (by omega) (by omega) rfl rfl
end Go.Proofs.Ytpbhajapmdaldaa.Pat
