/- Plain law of patterns: how many jobs must be among the first, and which. No program in sight. -/
import Derived.Test.YtlnbpeaoidjinaaProg
namespace Go.Proofs.Ytlnbpeaoidjinaa.Pat
set_option linter.unusedVariables false

/-- A quotient, rounded up. -/
def up (a k : Nat) : Nat := (a + k - 1) / k
/-- How many must be among the first r of a row (r ≤ k). -/
def g (deep : Bool) (m k r : Nat) : Nat := if deep = true then (if r < m then r else m) else up (r * m) k
/-- How many must be among the first n. -/
def C (deep : Bool) (m k n : Nat) : Nat := n / k * m + g deep m k (n % k)
/-- Must the n-th be? -/
def must (deep : Bool) (m k n : Nat) : Bool := decide (C deep m k (n % k) < C deep m k (n % k + 1))

theorem up_le {a k c : Nat} (hk : 1 ≤ k) : up a k ≤ c ↔ a ≤ c * k := by
  unfold up
  rw [Nat.div_le_iff_le_mul_add_pred (by omega)]
  rw [Nat.mul_comm k c]; omega
theorem lt_up {a k c : Nat} (hk : 1 ≤ k) : c < up a k ↔ c * k < a := by
  rw [← Nat.not_le, up_le hk, Nat.not_le]
theorem up_eq {a k c : Nat} (hk : 1 ≤ k) (h1 : a ≤ c * k) (h2 : c * k < a + k) : up a k = c := by
  apply Nat.le_antisymm ((up_le hk).2 h1)
  rcases Nat.eq_zero_or_pos c with h0 | h0
  · omega
  · obtain ⟨d, rfl⟩ : ∃ d, c = d + 1 := ⟨c - 1, by omega⟩
    exact (lt_up hk).2 (by rw [Nat.succ_mul] at h2; omega)
theorem up_add {a k q : Nat} (hk : 1 ≤ k) : up (q * k + a) k = q + up a k := by
  unfold up
  rw [show q * k + a + k - 1 = a + k - 1 + q * k by omega, Nat.add_mul_div_right _ _ (by omega)]; omega
theorem up_of_div {a k : Nat} (hk : 1 ≤ k) : up a k = if a / k * k < a then a / k + 1 else a / k := by
  have h1 := Nat.div_mul_le_self a k
  have h2 := Nat.lt_succ_iff.1 (Nat.lt_succ_of_lt (Nat.lt_div_mul_add (a := a) (b := k) (by omega)))
  have h3 := Nat.lt_div_mul_add (a := a) (b := k) (by omega)
  split
  · exact up_eq hk (by rw [Nat.succ_mul]; omega) (by rw [Nat.succ_mul]; omega)
  · exact up_eq hk (by omega) (by omega)
theorem up_mono {a b k : Nat} (h : a ≤ b) : up a k ≤ up b k := Nat.div_le_div_right (by omega)

section
variable {deep : Bool} {m k : Nat}
theorem g_zero (hk : 1 ≤ k) : g deep m k 0 = 0 := by
  unfold g
  split
  · split <;> omega
  · rw [Nat.zero_mul]; exact up_eq hk (by omega) (by omega)
theorem g_k (hk : 1 ≤ k) (hm : m ≤ k) : g deep m k k = m := by
  unfold g
  split
  · split <;> omega
  · exact up_eq hk (by rw [Nat.mul_comm]; exact Nat.le_refl _) (by rw [Nat.mul_comm]; omega)
theorem g_step (hk : 1 ≤ k) (hm : m ≤ k) (r : Nat) : g deep m k r ≤ g deep m k (r + 1) ∧ g deep m k (r + 1) ≤ g deep m k r + 1 := by
  unfold g
  split
  · constructor <;> (split <;> split <;> omega)
  · refine ⟨up_mono (Nat.mul_le_mul_right _ (by omega)), (up_le hk).2 ?_⟩
    have := (up_le (a := r * m) (c := up (r * m) k) hk).1 (Nat.le_refl _)
    rw [Nat.succ_mul, Nat.succ_mul]; omega
theorem g_le (hk : 1 ≤ k) (hm : m ≤ k) (r : Nat) (hr : r ≤ k) : g false m k r ≤ g true m k r := by
  unfold g
  simp only [Bool.false_eq_true, if_false, if_true]
  split
  · exact (up_le hk).2 (Nat.mul_le_mul_left _ hm)
  · exact (up_le hk).2 (by rw [Nat.mul_comm]; exact Nat.mul_le_mul_left _ hr)
theorem g_more (hk : 1 ≤ k) (r : Nat) : g deep m k r ≤ g deep (m + 1) k r := by
  unfold g
  split
  · split <;> split <;> omega
  · exact up_mono (Nat.mul_le_mul_left _ (by omega))
theorem g_all (hk : 1 ≤ k) {r : Nat} (hr : r ≤ k) : g deep k k r = r := by
  unfold g
  split
  · split <;> omega
  · exact up_eq hk (Nat.le_refl _) (by omega)
theorem div_succ (hk : 1 ≤ k) (n : Nat) : (n % k + 1 < k ∧ (n + 1) / k = n / k ∧ (n + 1) % k = n % k + 1) ∨ (n % k + 1 = k ∧ (n + 1) / k = n / k + 1 ∧ (n + 1) % k = 0) := by
  have h1 := Nat.div_add_mod n k
  have h2 := Nat.mod_lt n (show k > 0 by omega)
  rcases Nat.lt_or_ge (n % k + 1) k with h | h
  · have e : n + 1 = (n % k + 1) + k * (n / k) := by omega
    refine .inl ⟨h, ?_, ?_⟩
    · rw [e, Nat.add_mul_div_left _ _ (by omega), Nat.div_eq_of_lt h]; simp
    · rw [e, Nat.add_mul_mod_self_left, Nat.mod_eq_of_lt h]
  · have e : n + 1 = k * (n / k + 1) := by rw [Nat.mul_add]; omega
    refine .inr ⟨by omega, ?_, ?_⟩
    · rw [e, Nat.mul_div_cancel_left _ (by omega)]
    · rw [e, Nat.mul_mod_right]
/-- One job more. -/
theorem C_succ (hk : 1 ≤ k) (hm : m ≤ k) (n : Nat) : C deep m k (n + 1) = n / k * m + g deep m k (n % k + 1) := by
  unfold C
  rcases div_succ hk n with ⟨_, h1, h2⟩ | ⟨h0, h1, h2⟩
  · rw [h1, h2]
  · rw [h1, h2, g_zero hk, h0, g_k hk hm, Nat.succ_mul]; omega
theorem C_small {r : Nat} (hr : r < k) : C deep m k r = g deep m k r := by
  unfold C
  rw [Nat.div_eq_of_lt hr, Nat.mod_eq_of_lt hr]; omega
theorem C_small1 (hk : 1 ≤ k) (hm : m ≤ k) {r : Nat} (hr : r < k) : C deep m k (r + 1) = g deep m k (r + 1) := by
  rw [C_succ hk hm, Nat.div_eq_of_lt hr, Nat.mod_eq_of_lt hr]; omega
theorem C_step (hk : 1 ≤ k) (hm : m ≤ k) (n : Nat) : C deep m k n ≤ C deep m k (n + 1) ∧ C deep m k (n + 1) ≤ C deep m k n + 1 := by
  rw [C_succ hk hm]; unfold C
  have := g_step (deep := deep) hk hm (n % k); omega
/-- A row's place tells of each job. -/
theorem must_iff (hk : 1 ≤ k) (hm : m ≤ k) (n : Nat) : must deep m k n = true ↔ C deep m k (n + 1) = C deep m k n + 1 := by
  have hr := Nat.mod_lt n (show k > 0 by omega)
  unfold must
  rw [decide_eq_true_iff, C_small hr, C_small1 hk hm hr, C_succ hk hm]
  have := g_step (deep := deep) hk hm (n % k)
  unfold C; omega
theorem must_eq (hk : 1 ≤ k) (hm : m ≤ k) (n : Nat) : must deep m k n = decide (C deep m k (n + 1) = C deep m k n + 1) := by
  rw [Bool.eq_iff_iff, must_iff hk hm, decide_eq_true_iff]
theorem C_next (hk : 1 ≤ k) (hm : m ≤ k) (n : Nat) : C deep m k (n + 1) = C deep m k n + (if must deep m k n = true then 1 else 0) := by
  have := C_step (deep := deep) hk hm n
  have h := must_iff (deep := deep) hk hm n
  split
  · exact h.1 (by assumption)
  · have : ¬ C deep m k (n + 1) = C deep m k n + 1 := fun e => by simp_all
    omega
theorem C_round (hk : 1 ≤ k) (n : Nat) : C deep m k (n + k) = C deep m k n + m := by
  unfold C
  rw [Nat.add_div_right _ (by omega), Nat.add_mod_right, Nat.succ_mul]; omega
theorem must_round (n : Nat) : must deep m k (n + k) = must deep m k n := by
  unfold must; rw [Nat.add_mod_right]
theorem must_zero (hk : 1 ≤ k) (hm : m ≤ k) (h1 : 1 ≤ m) : must deep m k 0 = true := by
  rw [must_iff hk hm, C_small1 hk hm (by omega), C_small (by omega), g_zero hk]
  have h := g_step (deep := deep) hk hm 0
  rw [g_zero hk] at h
  have : 0 < g deep m k (0 + 1) := by
    unfold g
    split
    · split <;> omega
    · exact (lt_up hk).2 (by omega)
  omega
theorem C_zero (hk : 1 ≤ k) : C deep m k 0 = 0 := by rw [C_small (by omega), g_zero hk]
theorem C_all (hk : 1 ≤ k) (n : Nat) : C deep k k n = n := by
  unfold C
  rw [g_all hk (Nat.le_of_lt (Nat.mod_lt _ (by omega))), Nat.mul_comm]; exact Nat.div_add_mod n k
theorem must_all (hk : 1 ≤ k) (n : Nat) : must deep k k n = true := by
  rw [must_iff hk (Nat.le_refl _), C_all hk, C_all hk]
theorem C_more (hk : 1 ≤ k) (n : Nat) : C deep m k n ≤ C deep (m + 1) k n := by
  unfold C
  have := g_more (deep := deep) (m := m) hk (n % k)
  have h2 : n / k * m ≤ n / k * (m + 1) := Nat.mul_le_mul_left _ (by omega)
  omega
theorem C_deep (hk : 1 ≤ k) (hm : m ≤ k) (n : Nat) : C false m k n ≤ C true m k n := by
  unfold C
  have := g_le hk hm (n % k) (Nat.le_of_lt (Nat.mod_lt _ (by omega)))
  omega
theorem must_deep (hk : 1 ≤ k) (hm : m ≤ k) {r : Nat} (hr : r < k) : must true m k r = decide (r < m) := by
  rw [must_eq hk hm, C_small hr, C_small1 hk hm hr]
  unfold g
  simp only [if_true]
  rw [Bool.eq_iff_iff]
  simp only [decide_eq_true_iff]
  split <;> split <;> omega
theorem C_even (hk : 1 ≤ k) (n : Nat) : C false m k n = up (n * m) k := by
  unfold C g
  simp only [Bool.false_eq_true, if_false]
  have h := Nat.div_add_mod n k
  have e : n * m = n / k * m * k + n % k * m := by
    have h2 := congrArg (· * m) h
    simp only [Nat.add_mul] at h2
    rw [← h2, Nat.mul_assoc, Nat.mul_comm k, Nat.mul_assoc]
  rw [e, up_add hk]
/-- How many of the j jobs from n on must be. -/
def tot (deep : Bool) (m k n : Nat) : Nat → Nat
  | 0 => 0
  | j + 1 => tot deep m k n j + (if must deep m k (n + j) = true then 1 else 0)
theorem tot_eq (hk : 1 ≤ k) (hm : m ≤ k) (n j : Nat) : C deep m k n + tot deep m k n j = C deep m k (n + j) := by
  induction j with
  | zero => rfl
  | succ j ih => rw [tot, ← Nat.add_assoc, ih, ← Nat.add_assoc, C_next hk hm]
theorem tot_k (hk : 1 ≤ k) (hm : m ≤ k) (n : Nat) : tot deep m k n k = m := by
  have := tot_eq (deep := deep) hk hm n k
  rw [C_round hk] at this; omega
theorem tot_le (n j : Nat) : tot deep m k n j ≤ j := by
  induction j with
  | zero => exact Nat.le_refl _
  | succ j ih => rw [tot]; split <;> omega
theorem C_le (hk : 1 ≤ k) (hm : m ≤ k) (n : Nat) : C deep m k n ≤ n := by
  induction n with
  | zero => rw [C_zero hk]; omega
  | succ n ih => have := C_step (deep := deep) hk hm n; omega
end
end Go.Proofs.Ytlnbpeaoidjinaa.Pat
