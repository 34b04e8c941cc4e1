/- The walk of PatternCounts. -/
import Derived.Test.YtpbhajapmdaldaaPatLawC
namespace Go.Proofs.Ytpbhajapmdaldaa.Pat
open Go.RowKit Go.Proofs.YtpbhajapmdaldaaW.PrintWords Go.Proofs.YtpbhajapmdaldaaW.PrintLast Go.Proofs.YtpbhajapmdaldaaW.PrintMore Go.Proofs.Ytpbhajapmdaldaa.Ring Go.Proofs.Ytpbhajapmdaldaa.Args
set_option linter.unusedSimpArgs false
set_option linter.unusedVariables false
theorem counts_any (w : World) (deep : Bool) (z : Int) (hz : (deep = true ∧ z = 2) ∨ (deep = false ∧ z = 1)) (n a b k m : Nat) (hn : n ≤ 4294967295) (ha : a ≤ 255) (hb : b ≤ 255) (hk : 1 + b % 64 = k) (hm : 1 + a % k = m) :
    Calls Try.prog 5 #[.bool deep, .int .u32 (n : Int), .int .u8 (a : Int), .int .u8 (b : Int)] w fun e w' => e = .returned (.bool true) ∧ Below w.heap.size w w' := by
  have hki : 1 + (b : Int) % 64 = (k : Int) := by omega
  have hmi : 1 + (a : Int) % (k : Int) = (m : Int) := by omega
  have hk1 : 1 ≤ k := by omega
  have hk2 : k ≤ 64 := by omega
  have hm1 : 1 ≤ m := by omega
  have hm2 : m ≤ k := by have := Nat.mod_lt a (show k > 0 by omega); omega
  have hki2 : (k : Int) ≤ 64 := by omega
  have hkz : kd deep = z := by rcases hz with ⟨rfl, rfl⟩ | ⟨rfl, rfl⟩ <;> rfl
  have HC := Lib.hid (fun (W : World) (j : Nat) (hj : j ≤ 4294968000) => show Calls Try.prog 11 #[.int .i64 z, .int .i64 (j : Int), .int .i64 (m : Int), .int .i64 (k : Int)] W fun e w' => e = .returned (.int .i64 (C deep m k j : Int)) ∧ ∃ nd, w' = W.drewN nd from by
    rw [← hkz]; exact count_any deep W j m k (by omega) hm1 hm2 hk2)
  have HM := Lib.hid (fun (W : World) (j : Nat) (hj : j ≤ 4294968000) => show Calls Try.prog 13 #[.int .i64 z, .int .i64 (j : Int), .int .i64 (m : Int), .int .i64 (k : Int)] W fun e w' => e = .returned (.bool (must deep m k j)) ∧ Below W.heap.size W w' from by
    rw [← hkz]; exact must_any deep W j m k hm1 hm2 hk2 (by omega))
  have hni : (n : Int) ≤ 4294967295 := by omega
  have hnx := C_next (deep := deep) hk1 hm2 n
  have hle := C_le (deep := deep) hk1 hm2 n
  have hrd := C_round (deep := deep) (m := m) hk1 n
  have hmr := must_round (deep := deep) (m := m) (k := k) n
  obtain ⟨x, hx⟩ : ∃ x, x = C deep m k n := ⟨_, rfl⟩
  obtain ⟨y, hy⟩ : ∃ y, y = C deep m k (n + 1) := ⟨_, rfl⟩
  obtain ⟨u, hu⟩ : ∃ u, u = must deep m k n := ⟨_, rfl⟩
  have HX := HC.out
  have H1 := Lib.hid (fun W => by have := HC.out W n (by omega); rw [← hx] at this; exact this)
  have H2 := Lib.hid (fun W => show Calls Try.prog 11 #[.int .i64 z, .int .i64 ((n : Int) + 1), .int .i64 (m : Int), .int .i64 (k : Int)] W fun e w' => e = .returned (.int .i64 (y : Int)) ∧ ∃ nd, w' = W.drewN nd from by have := HC.out W (n + 1) (by omega); rw [← hy] at this; exact this)
  have H3 := Lib.hid (fun W => show Calls Try.prog 11 #[.int .i64 z, .int .i64 ((n : Int) + (k : Int)), .int .i64 (m : Int), .int .i64 (k : Int)] W fun e w' => e = .returned (.int .i64 ((x : Int) + (m : Int))) ∧ ∃ nd, w' = W.drewN nd from by have := HC.out W (n + k) (by omega); rw [hrd, ← hx] at this; exact this)
  have H4 := Lib.hid (fun W => by have := HM.out W n (by omega); rw [← hu] at this; exact this)
  have H5 := Lib.hid (fun W => show Calls Try.prog 13 #[.int .i64 z, .int .i64 ((n : Int) + (k : Int)), .int .i64 (m : Int), .int .i64 (k : Int)] W fun e w' => e = .returned (.bool u) ∧ Below W.heap.size W w' from by have := HM.out W (n + k) (by omega); rw [hmr, ← hu] at this; exact this)
  rw [← hx] at hnx hle
  rw [← hy, ← hu] at hnx
  have hxi : (x : Int) ≤ 4294967295 := by omega
  have hyi : (y : Int) ≤ 4294967296 := by split at hnx <;> omega
  replace hnx := Lib.hid hnx
  clear hk hm hkz HX HC HM hrd hmr hx hy hu
  rcases hz with ⟨rfl, rfl⟩ | ⟨rfl, rfl⟩
  · go_enter Try.func5, Try.ntmps5
    go_wp2_with fail
    refine (awake_any _).mono ?_; rintro e w1 ⟨rfl, hb1⟩
    replace hb1 := Lib.hid hb1
    go_wp2_with fail
    refine (H1.out _).mono ?_; rintro e w2 ⟨rfl, n2, rfl⟩
    go_wp2_with fail
    refine (H2.out _).mono ?_; rintro e w3 ⟨rfl, n3, hw3⟩
    have hb4 : Hid (Below w.heap.size w w3) := Lib.hid (by rw [hw3]; exact pw_below_drewN (pw_below_drewN hb1.out n2) n3)
    clear hw3
    go_wp2_with fail
    refine (H4.out _).mono ?_; rintro e w5 ⟨rfl, hb5⟩
    have hb6 := Lib.hid (hb4.out.trans (hb5.mono hb4.out.size))
    clear hb5
    cases u with
    | true =>
      have hn2 := hnx.out
      rw [if_pos rfl] at hn2
      have e1 : ((y : Int) == (x : Int) + 1) = true := by rw [beq_iff_eq]; omega
      have e2 : ((y : Int) == (x : Int)) = false := by rw [beq_eq_false_iff_ne]; omega
      have e3 : (y == x) = false := by rw [beq_eq_false_iff_ne]; omega
      have e4 : decide ((y : Int) = (x : Int) + 1) = true := by simp; omega
      clear hn2
      go_wp2_with fail
      refine (H3.out _).mono ?_; rintro e w7 ⟨rfl, n7, rfl⟩
      go_wp2_with fail
      refine (H5.out _).mono ?_; rintro e w8 ⟨rfl, hb8⟩
      have hb9 := Lib.hid (hb6.out.trans ((pw_below_drewN (Below.refl _ _) n7).trans hb8 |>.mono hb6.out.size))
      clear hb8
      go_wp2_with fail
      refine (H4.out _).mono ?_; rintro e w9 ⟨rfl, hb8⟩
      have hb10 := Lib.hid (hb9.out.trans (hb8.mono hb9.out.size))
      clear hb8
      go_wp2
      go_ret
      exact ⟨rfl, hb10.out⟩
    | false =>
      have hn2 := hnx.out
      rw [if_neg (by simp), Nat.add_zero] at hn2
      clear hnx
      subst hn2
      have e1 : ((y : Int) == (y : Int) + 1) = false := by rw [beq_eq_false_iff_ne]; omega
      go_wp2_with fail
      refine (H3.out _).mono ?_; rintro e w7 ⟨rfl, n7, rfl⟩
      go_wp2_with fail
      refine (H5.out _).mono ?_; rintro e w8 ⟨rfl, hb8⟩
      have hb9 := Lib.hid (hb6.out.trans ((pw_below_drewN (Below.refl _ _) n7).trans hb8 |>.mono hb6.out.size))
      clear hb8
      go_wp2_with fail
      refine (H4.out _).mono ?_; rintro e w9 ⟨rfl, hb8⟩
      have hb10 := Lib.hid (hb9.out.trans (hb8.mono hb9.out.size))
      clear hb8
      go_wp2
      go_ret
      exact ⟨rfl, hb10.out⟩
  · go_enter Try.func5, Try.ntmps5
    go_wp2_with fail
    refine (awake_any _).mono ?_; rintro e w1 ⟨rfl, hb1⟩
    replace hb1 := Lib.hid hb1
    go_wp2_with fail
    refine (H1.out _).mono ?_; rintro e w2 ⟨rfl, n2, rfl⟩
    go_wp2_with fail
    refine (H2.out _).mono ?_; rintro e w3 ⟨rfl, n3, hw3⟩
    have hb4 : Hid (Below w.heap.size w w3) := Lib.hid (by rw [hw3]; exact pw_below_drewN (pw_below_drewN hb1.out n2) n3)
    clear hw3
    go_wp2_with fail
    refine (H4.out _).mono ?_; rintro e w5 ⟨rfl, hb5⟩
    have hb6 := Lib.hid (hb4.out.trans (hb5.mono hb4.out.size))
    clear hb5
    cases u with
    | true =>
      have hn2 := hnx.out
      rw [if_pos rfl] at hn2
      have e1 : ((y : Int) == (x : Int) + 1) = true := by rw [beq_iff_eq]; omega
      have e2 : ((y : Int) == (x : Int)) = false := by rw [beq_eq_false_iff_ne]; omega
      have e3 : (y == x) = false := by rw [beq_eq_false_iff_ne]; omega
      have e4 : decide ((y : Int) = (x : Int) + 1) = true := by simp; omega
      clear hn2
      go_wp2_with fail
      refine (H3.out _).mono ?_; rintro e w7 ⟨rfl, n7, rfl⟩
      go_wp2_with fail
      refine (H5.out _).mono ?_; rintro e w8 ⟨rfl, hb8⟩
      have hb9 := Lib.hid (hb6.out.trans ((pw_below_drewN (Below.refl _ _) n7).trans hb8 |>.mono hb6.out.size))
      clear hb8
      go_wp2_with fail
      refine (H4.out _).mono ?_; rintro e w9 ⟨rfl, hb8⟩
      have hb10 := Lib.hid (hb9.out.trans (hb8.mono hb9.out.size))
      clear hb8
      go_wp2
      go_ret
      exact ⟨rfl, hb10.out⟩
    | false =>
      have hn2 := hnx.out
      rw [if_neg (by simp), Nat.add_zero] at hn2
      clear hnx
      subst hn2
      have e1 : ((y : Int) == (y : Int) + 1) = false := by rw [beq_eq_false_iff_ne]; omega
      go_wp2_with fail
      refine (H3.out _).mono ?_; rintro e w7 ⟨rfl, n7, rfl⟩
      go_wp2_with fail
      refine (H5.out _).mono ?_; rintro e w8 ⟨rfl, hb8⟩
      have hb9 := Lib.hid (hb6.out.trans ((pw_below_drewN (Below.refl _ _) n7).trans hb8 |>.mono hb6.out.size))
      clear hb8
      go_wp2_with fail
      refine (H4.out _).mono ?_; rintro e w9 ⟨rfl, hb8⟩
      have hb10 := Lib.hid (hb9.out.trans (hb8.mono hb9.out.size))
      clear hb8
      go_wp2
      go_ret
      exact ⟨rfl, hb10.out⟩
theorem counts_walk (w : World) (deep : Bool) (n : Int) (wn : (Lit.int .u32 n).wf = true) (a : Int) (wa : (Lit.int .u8 a).wf = true) (b : Int) (wb : (Lit.int .u8 b).wf = true) :
    Calls Try.prog 5 #[.bool deep, .int .u32 n, .int .u8 a, .int .u8 b] w fun e w' => e = .returned (.bool true) ∧ Below w.heap.size w w' := by
  have h1 := bd_u8 wa
  have h2 := bd_u8 wb
  obtain ⟨a, rfl⟩ : ∃ n : Nat, a = (n : Int) := ⟨a.toNat, by omega⟩
  obtain ⟨b, rfl⟩ : ∃ n : Nat, b = (n : Int) := ⟨b.toNat, by omega⟩
  have h3 := bd_u32 wn
  obtain ⟨n, rfl⟩ : ∃ x : Nat, n = (x : Int) := ⟨n.toNat, by omega⟩
  cases deep with
  | true => exact counts_any w true 2 (.inl ⟨rfl, rfl⟩) n a b _ _ (by omega) (by omega) (by omega) rfl rfl
  | false => exact counts_any w false 1 (.inr ⟨rfl, rfl⟩) n a b _ _ (by omega) (by omega) (by omega) rfl rfl
end Go.Proofs.Ytpbhajapmdaldaa.Pat
