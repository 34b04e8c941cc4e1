/- Contracts of the laws' own functions over patterns, and of the reference's. -/
import Derived.Test.YtlnbpeaoidjinaaPatOnce
namespace Go.Proofs.Ytlnbpeaoidjinaa.Pat
open Go.RowKit Go.Proofs.YtlnbpeaoidjinaaW.PrintWords Go.Proofs.YtlnbpeaoidjinaaW.PrintLast Go.Proofs.YtlnbpeaoidjinaaW.PrintMore Go.Proofs.Ytlnbpeaoidjinaa.Ring Go.Proofs.Ytlnbpeaoidjinaa.Args
set_option linter.unusedSimpArgs false
set_option linter.unusedVariables false
theorem right_yes (deep : Bool) (w : World) (m k : Nat) (h1 : 1 ≤ m) (h2 : m ≤ k) (h3 : k ≤ 64) : Calls Try.prog 17 #[.int .i64 (kd deep), .int .i64 (m : Int), .int .i64 (k : Int)] w fun e w' => e = .returned (.bool true) ∧ w' = w := by
  have i1 : (1 : Int) ≤ (m : Int) := by omega
  have i2 : (m : Int) ≤ (k : Int) := by omega
  have i3 : (k : Int) ≤ 64 := by omega
  have i4 : decide (m ≤ k) = true := by simpa using h2
  cases deep with
  | true =>
    show Calls Try.prog 17 #[.int .i64 2, .int .i64 (m : Int), .int .i64 (k : Int)] w _
    go_enter Try.func17, Try.ntmps17
    go_wp2
    go_ret
    exact ⟨rfl, rfl⟩
  | false =>
    show Calls Try.prog 17 #[.int .i64 1, .int .i64 (m : Int), .int .i64 (k : Int)] w _
    go_enter Try.func17, Try.ntmps17
    go_wp2
    go_ret
    exact ⟨rfl, rfl⟩
theorem right_no (w : World) (kind m k : Int) (h : ¬ ((kind = 1 ∨ kind = 2) ∧ 1 ≤ m ∧ m ≤ k ∧ k ≤ 64)) : Calls Try.prog 17 #[.int .i64 kind, .int .i64 m, .int .i64 k] w fun e w' => e = .returned (.bool false) ∧ w' = w := by
  by_cases k1 : kind = 1
  · subst k1
    by_cases a1 : 1 ≤ m
    · by_cases a2 : m ≤ k
      · have a3 : ¬ k ≤ 64 := fun a3 => h ⟨by decide, a1, a2, a3⟩
        clear h
        go_enter Try.func17, Try.ntmps17
        go_wp2
        go_ret
        exact ⟨rfl, rfl⟩
      · have a4 : k < m := by omega
        clear h
        go_enter Try.func17, Try.ntmps17
        go_wp2
        go_ret
        exact ⟨rfl, rfl⟩
    · have a4 : m < 1 := by omega
      clear h
      go_enter Try.func17, Try.ntmps17
      go_wp2
      go_ret
      exact ⟨rfl, rfl⟩
  · by_cases k2 : kind = 2
    · subst k2
      by_cases a1 : 1 ≤ m
      · by_cases a2 : m ≤ k
        · have a3 : ¬ k ≤ 64 := fun a3 => h ⟨by decide, a1, a2, a3⟩
          clear h
          go_enter Try.func17, Try.ntmps17
          go_wp2
          go_ret
          exact ⟨rfl, rfl⟩
        · have a4 : k < m := by omega
          clear h
          go_enter Try.func17, Try.ntmps17
          go_wp2
          go_ret
          exact ⟨rfl, rfl⟩
      · have a4 : m < 1 := by omega
        clear h
        go_enter Try.func17, Try.ntmps17
        go_wp2
        go_ret
        exact ⟨rfl, rfl⟩
    · have e1 : (kind == 1) = false := by rw [beq_eq_false_iff_ne]; exact k1
      have e2 : (kind == 2) = false := by rw [beq_eq_false_iff_ne]; exact k2
      clear h
      go_enter Try.func17, Try.ntmps17
      go_wp2
      go_ret
      exact ⟨rfl, rfl⟩
theorem rright_yes (deep : Bool) (w : World) (m k : Nat) (h1 : 1 ≤ m) (h2 : m ≤ k) (h3 : k ≤ 64) : Calls Try.prog 9 #[.int .i64 (kd deep), .int .i64 (m : Int), .int .i64 (k : Int)] w fun e w' => e = .returned (.bool true) ∧ w' = w := by
  have i1 : (1 : Int) ≤ (m : Int) := by omega
  have i2 : (m : Int) ≤ (k : Int) := by omega
  have i3 : (k : Int) ≤ 64 := by omega
  have i4 : decide (m ≤ k) = true := by simpa using h2
  cases deep with
  | true =>
    show Calls Try.prog 9 #[.int .i64 2, .int .i64 (m : Int), .int .i64 (k : Int)] w _
    go_enter Try.func9, Try.ntmps9
    go_wp2
    go_ret
    exact ⟨rfl, rfl⟩
  | false =>
    show Calls Try.prog 9 #[.int .i64 1, .int .i64 (m : Int), .int .i64 (k : Int)] w _
    go_enter Try.func9, Try.ntmps9
    go_wp2
    go_ret
    exact ⟨rfl, rfl⟩
theorem rright_no (w : World) (kind m k : Int) (h : ¬ ((kind = 1 ∨ kind = 2) ∧ 1 ≤ m ∧ m ≤ k ∧ k ≤ 64)) : Calls Try.prog 9 #[.int .i64 kind, .int .i64 m, .int .i64 k] w fun e w' => e = .returned (.bool false) ∧ w' = w := by
  by_cases k1 : kind = 1
  · subst k1
    by_cases a1 : 1 ≤ m
    · by_cases a2 : m ≤ k
      · have a3 : ¬ k ≤ 64 := fun a3 => h ⟨by decide, a1, a2, a3⟩
        clear h
        go_enter Try.func9, Try.ntmps9
        go_wp2
        go_ret
        exact ⟨rfl, rfl⟩
      · have a4 : k < m := by omega
        clear h
        go_enter Try.func9, Try.ntmps9
        go_wp2
        go_ret
        exact ⟨rfl, rfl⟩
    · have a4 : m < 1 := by omega
      clear h
      go_enter Try.func9, Try.ntmps9
      go_wp2
      go_ret
      exact ⟨rfl, rfl⟩
  · by_cases k2 : kind = 2
    · subst k2
      by_cases a1 : 1 ≤ m
      · by_cases a2 : m ≤ k
        · have a3 : ¬ k ≤ 64 := fun a3 => h ⟨by decide, a1, a2, a3⟩
          clear h
          go_enter Try.func9, Try.ntmps9
          go_wp2
          go_ret
          exact ⟨rfl, rfl⟩
        · have a4 : k < m := by omega
          clear h
          go_enter Try.func9, Try.ntmps9
          go_wp2
          go_ret
          exact ⟨rfl, rfl⟩
      · have a4 : m < 1 := by omega
        clear h
        go_enter Try.func9, Try.ntmps9
        go_wp2
        go_ret
        exact ⟨rfl, rfl⟩
    · have e1 : (kind == 1) = false := by rw [beq_eq_false_iff_ne]; exact k1
      have e2 : (kind == 2) = false := by rw [beq_eq_false_iff_ne]; exact k2
      clear h
      go_enter Try.func9, Try.ntmps9
      go_wp2
      go_ret
      exact ⟨rfl, rfl⟩
theorem fin5 {q m r k : Nat} (hq : q ≤ 4398046511104) (hm : m ≤ 64) (hr : r ≤ 64) (hk1 : 1 ≤ k) (hk : k ≤ 64) :
    wrap64 (wrap64 (wrap64 (q : Int) * (m : Int)) + wrap64 ((wrap64 (wrap64 (wrap64 ((r : Int) * (m : Int)) + (k : Int)) - 1)).tdiv (k : Int))) = ((q * m + up (r * m) k : Nat) : Int) := by
  have h0 : q * m ≤ 4398046511104 * 64 := Nat.mul_le_mul hq hm
  have h1 : r * m ≤ 64 * 64 := Nat.mul_le_mul hr hm
  obtain ⟨x, hx⟩ : ∃ x, x = q * m := ⟨_, rfl⟩
  obtain ⟨y, hy⟩ : ∃ y, y = r * m := ⟨_, rfl⟩
  have e1 : (q : Int) * (m : Int) = (x : Int) := by rw [hx, Int.natCast_mul]
  have e2 : (r : Int) * (m : Int) = (y : Int) := by rw [hy, Int.natCast_mul]
  rw [← hx, ← hy]
  rw [← hx] at h0
  rw [← hy] at h1
  have hu : up y k ≤ 4096 := (up_le hk1).2 (by have : 4096 * 1 ≤ 4096 * k := Nat.mul_le_mul_left _ hk1; omega)
  rw [w64 (a := (q : Int)) (by omega) (by omega), e1, e2, w64 (a := (x : Int)) (by omega) (by omega), w64 (a := (y : Int)) (by omega) (by omega), w64 (a := (y : Int) + k) (by omega) (by omega), w64 (a := (y : Int) + k - 1) (by omega) (by omega),
    show (y : Int) + k - 1 = ((y + k - 1 : Nat) : Int) by omega, Int.tdiv_eq_ediv_of_nonneg (by omega), ← Int.natCast_ediv, show (y + k - 1) / k = up y k from rfl, w64 (a := (up y k : Int)) (by omega) (by omega), w64 (by omega) (by omega)]
  omega
theorem rcount_deep (w : World) (n m k : Nat) (hn : n ≤ 4398046511104) (h1 : 1 ≤ m) (h2 : m ≤ k) (h3 : k ≤ 64) :
    Calls Try.prog 21 #[.int .i64 2, .int .i64 (n : Int), .int .i64 (m : Int), .int .i64 (k : Int)] w fun e w' => e = .returned (.int .i64 (C true m k n : Int)) ∧ ∃ nd, w' = w.drewN nd := by
  obtain ⟨q, hq⟩ : ∃ q, q = n / k := ⟨_, rfl⟩
  obtain ⟨r, hr⟩ : ∃ r, r = n % k := ⟨_, rfl⟩
  have hqi : (n : Int) / (k : Int) = (q : Int) := by rw [hq]; simp
  have hqt : Int.tdiv (n : Int) (k : Int) = (q : Int) := by rw [Int.tdiv_eq_ediv_of_nonneg (by omega)]; exact hqi
  have hri : (n : Int) % (k : Int) = (r : Int) := by rw [hr]; simp
  have hrt : Int.tmod (n : Int) (k : Int) = (r : Int) := by rw [Int.tmod_eq_emod_of_nonneg (by omega)]; exact hri
  have hqn : q ≤ 4398046511104 := by rw [hq]; exact Nat.le_trans (Nat.div_le_self n k) hn
  have hrk : r < k := by rw [hr]; exact Nat.mod_lt _ (by omega)
  have h0 : q * m ≤ 4398046511104 * 64 := Nat.mul_le_mul hqn (by omega)
  have i1 : (0 : Int) ≤ (q : Int) * (m : Int) := by rw [← Int.natCast_mul]; omega
  have i2 : (q : Int) * (m : Int) ≤ 281474976710656 := by rw [← Int.natCast_mul]; omega
  have i5 : ¬ (k : Int) = 0 := by omega
  have i6 : ((k : Int) == 0) = false := by rw [beq_eq_false_iff_ne]; omega
  have i7 : ¬ k = 0 := by omega
  have hC : C true m k n = q * m + (if r < m then r else m) := by unfold C g; rw [← hq, ← hr]; rfl
  rw [hC]
  have i8 : (m : Int) ≤ 64 := by omega
  have i9 : (q : Int) ≤ 4398046511104 := by omega
  have i10 : (r : Int) ≤ 64 := by omega
  by_cases hrm : m < r
  · have i11 : decide (m < r) = true := by simpa using hrm
    rw [if_neg (by omega)]
    clear hC h0 hq hr hn hqn hrk
    go_enter Try.func21, Try.ntmps21
    go_wp2
    go_ret
    exact ⟨ret_int (by simp), 0, rfl⟩
  · have i11 : decide (m < r) = false := by simpa using hrm
    have e : (if r < m then r else m) = r := by split <;> omega
    rw [e]
    clear hC h0 hq hr hn hqn hrk e
    go_enter Try.func21, Try.ntmps21
    go_wp2
    go_ret
    exact ⟨ret_int (by simp), 0, rfl⟩
theorem rcount_even (w : World) (n m k : Nat) (hn : n ≤ 4398046511104) (h1 : 1 ≤ m) (h2 : m ≤ k) (h3 : k ≤ 64) :
    Calls Try.prog 21 #[.int .i64 1, .int .i64 (n : Int), .int .i64 (m : Int), .int .i64 (k : Int)] w fun e w' => e = .returned (.int .i64 (C false m k n : Int)) ∧ ∃ nd, w' = w.drewN nd := by
  obtain ⟨q, hq⟩ : ∃ q, q = n / k := ⟨_, rfl⟩
  obtain ⟨r, hr⟩ : ∃ r, r = n % k := ⟨_, rfl⟩
  have hqi : (n : Int) / (k : Int) = (q : Int) := by rw [hq]; simp
  have hqt : Int.tdiv (n : Int) (k : Int) = (q : Int) := by rw [Int.tdiv_eq_ediv_of_nonneg (by omega)]; exact hqi
  have hri : (n : Int) % (k : Int) = (r : Int) := by rw [hr]; simp
  have hrt : Int.tmod (n : Int) (k : Int) = (r : Int) := by rw [Int.tmod_eq_emod_of_nonneg (by omega)]; exact hri
  have i5 : ¬ (k : Int) = 0 := by omega
  have i6 : ((k : Int) == 0) = false := by rw [beq_eq_false_iff_ne]; omega
  have i7 : ¬ k = 0 := by omega
  have hC : C false m k n = q * m + up (r * m) k := by unfold C g; rw [← hq, ← hr]; rfl
  rw [hC]
  have F := Lib.hid (And.intro hq (And.intro hr hn))
  clear hC hq hr hn
  go_enter Try.func21, Try.ntmps21
  go_wp2_with fail
  go_quiet (fail)
  go_wp2
  go_ret
  obtain ⟨hq, hr, hn⟩ := F.out
  exact ⟨ret_int (fin5 (by rw [hq]; exact Nat.le_trans (Nat.div_le_self n k) hn) (by omega) (by rw [hr]; have := Nat.mod_lt n (show k > 0 by omega); omega) (by omega) h3), _, rfl⟩
theorem rcount_any (deep : Bool) (w : World) (n m k : Nat) (hn : n ≤ 4398046511104) (h1 : 1 ≤ m) (h2 : m ≤ k) (h3 : k ≤ 64) :
    Calls Try.prog 21 #[.int .i64 (kd deep), .int .i64 (n : Int), .int .i64 (m : Int), .int .i64 (k : Int)] w fun e w' => e = .returned (.int .i64 (C deep m k n : Int)) ∧ ∃ nd, w' = w.drewN nd := by
  cases deep with
  | true => exact rcount_deep w n m k hn h1 h2 h3
  | false => exact rcount_even w n m k hn h1 h2 h3
theorem rmust_any (deep : Bool) (w : World) (n m k : Nat) (hn : n ≤ 4398046511000) (h1 : 1 ≤ m) (h2 : m ≤ k) (h3 : k ≤ 64) :
    Calls Try.prog 15 #[.int .i64 (kd deep), .int .i64 (n : Int), .int .i64 (m : Int), .int .i64 (k : Int)] w fun e w' => e = .returned (.bool (must deep m k n)) ∧ ∃ nd, w' = w.drewN nd := by
  have H1 : ∀ W, Calls Try.prog 21 #[.int .i64 (kd deep), .int .i64 ((n : Int) + 1), .int .i64 (m : Int), .int .i64 (k : Int)] W fun e w' => e = .returned (.int .i64 (C deep m k (n + 1) : Int)) ∧ ∃ nd, w' = W.drewN nd := fun W => rcount_any deep W (n + 1) m k (by omega) h1 h2 h3
  have H0 := rcount_any deep (n := n) (m := m) (k := k) (hn := by omega) (h1 := h1) (h2 := h2) (h3 := h3)
  have hm := must_eq (deep := deep) (show 1 ≤ k by omega) h2 n
  have hc := C_le (deep := deep) (show 1 ≤ k by omega) h2 n
  obtain ⟨a, ha⟩ : ∃ a, a = C deep m k n := ⟨_, rfl⟩
  obtain ⟨b, hb⟩ : ∃ b, b = C deep m k (n + 1) := ⟨_, rfl⟩
  rw [← ha] at H0 hm hc
  rw [← hb] at H1 hm
  replace H0 := Lib.hid H0
  replace H1 := Lib.hid H1
  have i1 : (n : Int) ≤ 4398046511000 := by omega
  have i2 : (a : Int) ≤ 4398046511000 := by omega
  have e : decide (b = a + 1) = ((b : Int) == (a : Int) + 1) := by rw [Bool.eq_iff_iff]; simp; omega
  rw [hm, e]
  clear hm ha hb hc hn e
  go_enter Try.func15, Try.ntmps15
  go_wp2_with fail
  refine (H1.out _).mono ?_; rintro e w1 ⟨rfl, n1, rfl⟩
  go_wp2_with fail
  refine (H0.out _).mono ?_; rintro e w2 ⟨rfl, n2, rfl⟩
  go_wp2
  go_ret
  exact ⟨rfl, n1 + n2, by first | rfl | rw [World.drewN_drewN]⟩
end Go.Proofs.Ytlnbpeaoidjinaa.Pat
