/- Plain law of windows: the last k of jobs, how many were met, and how many misses there may be. No program in sight. -/
import Derived.Test.YtlnbpeaoidjinaaProg
namespace Go.Proofs.Ytlnbpeaoidjinaa.Win
set_option linter.unusedVariables false

/-- How many are true. -/
def cnt (l : List Bool) : Nat := l.count true
/-- How many misses there may be: as long as at least m of what is left are true. -/
def dist (m : Nat) : List Bool → Nat
  | [] => 0
  | x :: t => if cnt (x :: t) < m then 0 else dist m t + 1
/-- The last k of l, ahead of which all were true. -/
def lastk (k : Nat) (l : List Bool) : List Bool := (List.replicate k true ++ l).drop l.length

theorem cnt_nil : cnt [] = 0 := rfl
theorem cnt_cons (x : Bool) (t : List Bool) : cnt (x :: t) = cnt t + (if x = true then 1 else 0) := by cases x <;> simp [cnt]
theorem cnt_app (a b : List Bool) : cnt (a ++ b) = cnt a + cnt b := by simp [cnt]
theorem cnt_le (l : List Bool) : cnt l ≤ l.length := List.count_le_length
theorem cnt_rep_true (n : Nat) : cnt (List.replicate n true) = n := by simp [cnt]
theorem cnt_rep_false (n : Nat) : cnt (List.replicate n false) = 0 := by simp [cnt, List.count_replicate]
theorem cnt_snoc_false (l : List Bool) : cnt (l ++ [false]) = cnt l := by rw [cnt_app]; simp [cnt]
theorem cnt_snoc_true (l : List Bool) : cnt (l ++ [true]) = cnt l + 1 := by rw [cnt_app]; simp [cnt]
theorem cnt_take_true {l : List Bool} {k : Nat} (h : l[k]? = some true) : cnt (l.take (k + 1)) = cnt (l.take k) + 1 := by
  rw [List.take_add_one, h, Option.toList_some, cnt_snoc_true]
theorem cnt_take_false {l : List Bool} {k : Nat} (h : l[k]? = some false) : cnt (l.take (k + 1)) = cnt (l.take k) := by
  rw [List.take_add_one, h, Option.toList_some, cnt_snoc_false]

theorem dist_stop {m : Nat} (hm : 1 ≤ m) (l : List Bool) : cnt (l.drop (dist m l)) < m := by
  induction l with
  | nil => simp [dist, cnt]; omega
  | cons x t ih =>
    unfold dist
    split
    · simpa using ‹_›
    · simpa using ih
theorem dist_go {m : Nat} : ∀ (l : List Bool) (n : Nat), n < dist m l → m ≤ cnt (l.drop n) := by
  intro l
  induction l with
  | nil => intro n h; simp [dist] at h
  | cons x t ih =>
    intro n h
    unfold dist at h
    split at h
    · omega
    · rename_i hc
      cases n with
      | zero => simpa using hc
      | succ n => simpa using ih n (by omega)
theorem dist_le {m : Nat} (hm : 1 ≤ m) (l : List Bool) : dist m l ≤ l.length + 1 - m := by
  induction l with
  | nil => simp [dist]
  | cons x t ih =>
    unfold dist
    split
    · omega
    · rename_i hc
      have := cnt_le (x :: t)
      simp only [List.length_cons] at *
      omega
theorem dist_zero {m : Nat} (hm : 1 ≤ m) (l : List Bool) : dist m l = 0 ↔ cnt l < m := by
  cases l with
  | nil => simp [dist, cnt]; omega
  | cons x t => unfold dist; split <;> simp_all
theorem dist_tail {m : Nat} (hm : 1 ≤ m) {l : List Bool} (h : m ≤ cnt l) : dist m l = dist m l.tail + 1 := by
  cases l with
  | nil => simp [cnt] at h; omega
  | cons x t =>
    unfold dist
    rw [if_neg (by omega)]; cases t <;> simp [dist]
theorem dist_snoc_false {m : Nat} (hm : 1 ≤ m) (l : List Bool) : dist m (l ++ [false]) = dist m l := by
  induction l with
  | nil => simp [dist, cnt]; omega
  | cons x t ih =>
    rw [List.cons_append]
    unfold dist
    rw [ih, ← List.cons_append, cnt_snoc_false]
theorem dist_snoc_ge {m : Nat} (hm : 1 ≤ m) (l : List Bool) (b : Bool) : dist m l ≤ dist m (l ++ [b]) := by
  induction l with
  | nil => simp [dist]
  | cons x t ih =>
    rw [List.cons_append]
    unfold dist
    rw [← List.cons_append, cnt_app]
    split <;> split <;> omega
theorem dist_rep {m : Nat} (hm : 1 ≤ m) (k : Nat) : dist m (List.replicate k true) = k + 1 - m := by
  induction k with
  | zero => simp [dist]; omega
  | succ k ih =>
    rw [List.replicate_succ]
    unfold dist
    rw [ih, ← List.replicate_succ, cnt_rep_true]
    split <;> omega
theorem dist_more (m : Nat) (l : List Bool) : dist (m + 1) l ≤ dist m l := by
  induction l with
  | nil => simp [dist]
  | cons x t ih =>
    unfold dist
    split <;> split <;> omega
/-- A loop that counts misses: it is there exactly when the count of what is left is too small. -/
theorem dist_at {m n : Nat} (hm : 1 ≤ m) {l : List Bool} (h : n ≤ dist m l) : m ≤ cnt (l.drop n) ↔ n < dist m l := by
  refine ⟨fun h1 => ?_, dist_go l n⟩
  rcases Nat.lt_or_ge n (dist m l) with h2 | h2
  · exact h2
  · obtain rfl : n = dist m l := by omega
    have := dist_stop hm l; omega

theorem lastk_len (k : Nat) (l : List Bool) : (lastk k l).length = k := by simp [lastk]
theorem lastk_nil (k : Nat) : lastk k [] = List.replicate k true := by simp [lastk]
theorem lastk_snoc {k : Nat} (hk : 1 ≤ k) (l : List Bool) (x : Bool) : lastk k (l ++ [x]) = (lastk k l).tail ++ [x] := by
  unfold lastk
  rw [← List.append_assoc, List.length_append, List.length_singleton, List.drop_append_of_le_length (by simp; omega), ← List.tail_drop]
theorem lastk_take {k i : Nat} (hk : 1 ≤ k) {l : List Bool} {x : Bool} (h : l[i]? = some x) : lastk k (l.take (i + 1)) = (lastk k (l.take i)).tail ++ [x] := by
  rw [List.take_add_one, h, Option.toList_some, lastk_snoc hk]
theorem lastk_miss {k n : Nat} (hn : n ≤ k) (l : List Bool) : lastk k (l ++ List.replicate n false) = (lastk k l).drop n ++ List.replicate n false := by
  unfold lastk
  rw [← List.append_assoc, List.length_append, List.length_replicate, List.drop_append_of_le_length (by simp; omega), List.drop_drop]
theorem cnt_miss {k n : Nat} (hn : n ≤ k) (l : List Bool) : cnt (lastk k (l ++ List.replicate n false)) = cnt ((lastk k l).drop n) := by
  rw [lastk_miss hn, cnt_app, cnt_rep_false, Nat.add_zero]
/-- Behind k jobs only these count. -/
theorem lastk_only {k : Nat} (a l : List Bool) (h : k ≤ l.length) : lastk k (a ++ l) = l.drop (l.length - k) := by
  unfold lastk
  rw [← List.append_assoc, List.length_append, List.drop_append, List.drop_eq_nil_of_le (by simp; omega), List.nil_append]
  congr 1; simp; omega
theorem dist_lt {m k : Nat} (hm : 1 ≤ m) (hk : m ≤ k) {l : List Bool} (hl : l.length = k) : dist m l ≤ k := by
  have := dist_le hm l; omega
end Go.Proofs.Ytlnbpeaoidjinaa.Win
