/- Contracts of pattern's functions, and of tick's that they use. -/
import Derived.Test.YtlnbpeaoidjinaaRing
import Derived.Test.YtlnbpeaoidjinaaPatPlain
import Derived.Test.YtlnbpeaoidjinaaArgs
import Derived.Defers
import Derived.Laws.LoneSync
import Derived.Laws.NewBlocks
import Derived.RegionCalls
namespace Go.Proofs.Ytlnbpeaoidjinaa.Pat
open Go.RowKit Go.Proofs.YtlnbpeaoidjinaaW.PrintWords Go.Proofs.YtlnbpeaoidjinaaW.PrintLast Go.Proofs.YtlnbpeaoidjinaaW.PrintMore Go.Proofs.Ytlnbpeaoidjinaa.Ring Go.Proofs.Ytlnbpeaoidjinaa.Args

set_option linter.unusedSimpArgs false
set_option linter.unusedVariables false
theorem ret_int {k : IntKind} {a b : Int} (h : a = b) : Ending.returned (.int k a) = .returned (.int k b) := by rw [h]
theorem w64 {a : Int} (h1 : -9223372036854775808 ≤ a) (h2 : a ≤ 9223372036854775807) : wrap64 a = a := by unfold wrap64; omega
theorem fin3 {q m r : Int} (h1 : 0 ≤ q) (h2 : q ≤ 4398046511104) (h3 : 0 ≤ q * m) (h4 : q * m ≤ 281474976710656) (h5 : 0 ≤ r) (h6 : r ≤ 64) : wrap64 (wrap64 (wrap64 q * m) + r) = q * m + r := by
  rw [w64 (a := q) (by omega) (by omega), w64 (a := q * m) (by omega) (by omega), w64 (by omega) (by omega)]
theorem time_any (a : Nat) (w : World) (ha : a ≤ 4611686018427387904) : Calls Try.prog 45 #[.int .i64 (a : Int)] w fun e w' => e = .returned (.bool true) ∧ w' = w := by
  have h1 : (0 : Int) ≤ (a : Int) := by omega
  have h2 : (a : Int) ≤ 4611686018427387904 := by omega
  go_enter Try.func45, Try.ntmps45
  go_wp2
  go_ret
  exact ⟨rfl, rfl⟩
theorem mul_any (a b : Nat) (w : World) (ha : a ≤ 4398046511104) (hb : b ≤ 64) (hb1 : 1 ≤ b) : Calls Try.prog 39 #[.int .i64 (a : Int), .int .i64 (b : Int)] w fun e w' => e = .returned (.tuple #[.int .i64 ((a * b : Nat) : Int), .bool true]) ∧ w' = w := by
  have h0 : a * b ≤ 4398046511104 * 64 := Nat.mul_le_mul ha hb
  have h1 : (0 : Int) ≤ (a : Int) * (b : Int) := by rw [← Int.natCast_mul]; omega
  have h2 : (a : Int) * (b : Int) ≤ 281474976710656 := by rw [← Int.natCast_mul]; omega
  have h3 : (0 : Int) < (b : Int) := by omega
  have h4 : (a : Int) ≤ 4611686018427387904 / (b : Int) := by
    rw [Int.le_ediv_iff_mul_le h3]; omega
  have h5 : ¬ (b : Int) = 0 := by omega
  have h6 : (a : Int) ≤ 4398046511104 := by omega
  have h7 : (b : Int) ≤ 64 := by omega
  have h8 : (a : Int) ≤ Int.tdiv 4611686018427387904 (b : Int) := by rw [Int.tdiv_eq_ediv_of_nonneg (by omega)]; exact h4
  rw [Int.natCast_mul]
  clear h0
  go_enter Try.func39, Try.ntmps39
  go_wp2_with (go_at_call 45; refine (time_any _ _ (by omega)).mono ?_; rintro e w' ⟨rfl, rfl⟩)
  go_ret2
  exact ⟨rfl, rfl⟩
theorem ceil_any (a k : Nat) (w : World) (ha : a ≤ 281474976710656) (hk : k ≤ 64) (hk1 : 1 ≤ k) : Calls Try.prog 40 #[.int .i64 (a : Int), .int .i64 (k : Int)] w fun e w' => e = .returned (.tuple #[.int .i64 (up a k : Int), .bool true]) ∧ w' = w := by
  obtain ⟨q, hq⟩ : ∃ q, q = a / k := ⟨_, rfl⟩
  have hqi : (a : Int) / (k : Int) = (q : Int) := by rw [hq]; simp
  have hqt : Int.tdiv (a : Int) (k : Int) = (q : Int) := by rw [Int.tdiv_eq_ediv_of_nonneg (by omega)]; exact hqi
  have hle : q * k ≤ a := by rw [hq]; exact Nat.div_mul_le_self a k
  have hqa : q ≤ a := by rw [hq]; exact Nat.div_le_self a k
  have h1 : (0 : Int) ≤ (q : Int) * (k : Int) := by rw [← Int.natCast_mul]; omega
  have h2 : (q : Int) * (k : Int) ≤ 281474976710656 := by rw [← Int.natCast_mul]; omega
  have h3 : (0 : Int) < (k : Int) := by omega
  have h5 : ¬ (k : Int) = 0 := by omega
  have h5' : ((k : Int) == 0) = false := by rw [beq_eq_false_iff_ne]; omega
  have h6 : (q : Int) ≤ 281474976710656 := by omega
  have hu := up_of_div (a := a) (k := k) hk1
  rw [← hq] at hu
  clear hq
  by_cases hlt : q * k < a
  · rw [if_pos hlt] at hu
    have h7 : (q : Int) * (k : Int) < (a : Int) := by rw [← Int.natCast_mul]; omega
    rw [hu]
    clear hu hlt hle
    go_enter Try.func40, Try.ntmps40
    go_wp2_with (go_at_call 45; refine (time_any _ _ (by omega)).mono ?_; rintro e w' ⟨rfl, rfl⟩)
    go_ret2
    exact ⟨by go_num, rfl⟩
  · rw [if_neg hlt] at hu
    have h7 : ¬ (q : Int) * (k : Int) < (a : Int) := by rw [← Int.natCast_mul]; omega
    rw [hu]
    clear hu hlt hle
    go_enter Try.func40, Try.ntmps40
    go_wp2_with (go_at_call 45; refine (time_any _ _ (by omega)).mono ?_; rintro e w' ⟨rfl, rfl⟩)
    go_ret2
    exact ⟨rfl, rfl⟩
/-- The pattern's kind. -/
def kd (deep : Bool) : Int := if deep = true then 2 else 1
theorem count_even (w : World) (n m k : Nat) (hn : n ≤ 4398046511104) (h1 : 1 ≤ m) (h2 : m ≤ k) (h3 : k ≤ 64) :
    Calls Try.prog 35 #[.int .i64 1, .int .i64 (n : Int), .int .i64 (m : Int), .int .i64 (k : Int)] w fun e w' => e = .returned (.int .i64 (C false m k n : Int)) ∧ w' = w := by
  rw [C_even (by omega)]
  have h0 : n * m ≤ 4398046511104 * 64 := Nat.mul_le_mul hn (by omega)
  have HM := mul_any n m w hn (by omega) h1
  obtain ⟨a, ha⟩ : ∃ a, a = n * m := ⟨_, rfl⟩
  rw [← ha] at HM h0 ⊢
  have HC := ceil_any a k w (by omega) h3 (by omega)
  clear ha
  go_enter Try.func35, Try.ntmps35
  go_wp2_with (first | (go_at_call 39; refine HM.mono ?_; rintro e w' ⟨rfl, rfl⟩) | (go_at_call 40; refine HC.mono ?_; rintro e w' ⟨rfl, rfl⟩))
  go_ret
  exact ⟨rfl, rfl⟩
theorem count_deep (w : World) (n m k : Nat) (hn : n ≤ 4398046511104) (h1 : 1 ≤ m) (h2 : m ≤ k) (h3 : k ≤ 64) :
    Calls Try.prog 35 #[.int .i64 2, .int .i64 (n : Int), .int .i64 (m : Int), .int .i64 (k : Int)] w fun e w' => e = .returned (.int .i64 (C true m k n : Int)) ∧ ∃ nd, w' = w.drewN nd := by
  obtain ⟨q, hq⟩ : ∃ q, q = n / k := ⟨_, rfl⟩
  obtain ⟨r, hr⟩ : ∃ r, r = n % k := ⟨_, rfl⟩
  have hqi : (n : Int) / (k : Int) = (q : Int) := by rw [hq]; simp
  have hqt : Int.tdiv (n : Int) (k : Int) = (q : Int) := by rw [Int.tdiv_eq_ediv_of_nonneg (by omega)]; exact hqi
  have hri : (n : Int) % (k : Int) = (r : Int) := by rw [hr]; simp
  have hrt : Int.tmod (n : Int) (k : Int) = (r : Int) := by rw [Int.tmod_eq_emod_of_nonneg (by omega)]; exact hri
  have hqn : q ≤ 4398046511104 := by rw [hq]; exact Nat.le_trans (Nat.div_le_self n k) hn
  have hrk : r < k := by rw [hr]; exact Nat.mod_lt _ (by omega)
  have h0 : q * m ≤ 4398046511104 * 64 := Nat.mul_le_mul hqn (by omega)
  have i1 : (0 : Int) ≤ (q : Int) * (m : Int) := by rw [← Int.natCast_mul]; omega
  have i2 : (q : Int) * (m : Int) ≤ 281474976710656 := by rw [← Int.natCast_mul]; omega
  have i5 : ¬ (k : Int) = 0 := by omega
  have i6 : ((k : Int) == 0) = false := by rw [beq_eq_false_iff_ne]; omega
  have hC : C true m k n = q * m + (if r < m then r else m) := by unfold C g; rw [← hq, ← hr]; rfl
  rw [hC]
  have i8 : (m : Int) ≤ 64 := by omega
  have i7 : (q : Int) ≤ 4398046511104 := by omega
  replace i7 := Lib.hid i7
  by_cases hrm : r < m
  · have i3 : (r : Int) < (m : Int) := by omega
    have i4 : decide (m < r) = false := by simp; omega
    have i10 : ¬ m < r := by omega
    rw [if_pos hrm]
    clear hC h0 hq hr hn hqn hrm hrk
    go_enter Try.func35, Try.ntmps35
    go_wp2_with fail
    go_quiet (fail)
    go_wp2
    go_ret
    exact ⟨ret_int (by rw [Int.natCast_add, Int.natCast_mul]; exact fin3 (by omega) i7.out i1 i2 (by omega) (by omega)), _, rfl⟩
  · rw [if_neg hrm]
    by_cases hrm2 : m < r
    · have i4 : decide (m < r) = true := by simp; omega
      clear hC h0 hq hr hn hqn hrm hrk
      go_enter Try.func35, Try.ntmps35
      go_wp2_with fail
      go_quiet (fail)
      go_wp2
      go_ret
      exact ⟨ret_int (by rw [Int.natCast_add, Int.natCast_mul]; exact fin3 (by omega) i7.out i1 i2 (by omega) (by omega)), _, rfl⟩
    · obtain rfl : r = m := by omega
      have i10 : ¬ r < r := by omega
      clear hC h0 hq hr hn hqn hrm hrk
      go_enter Try.func35, Try.ntmps35
      go_wp2_with fail
      go_quiet (fail)
      go_wp2
      go_ret
      exact ⟨ret_int (by rw [Int.natCast_add, Int.natCast_mul]; exact fin3 (by omega) i7.out i1 i2 (by omega) (by omega)), _, rfl⟩
end Go.Proofs.Ytlnbpeaoidjinaa.Pat
