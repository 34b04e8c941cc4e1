/- What the document's Right asks of a set: that it answers for each set, and what a right set's tasks are. -/
import Derived.Test.YtnidcoooenhebaaPCx3
import Derived.Test.YtnidcoooenhebaaPCx4
namespace Go.Proofs.Ytnidcoooenhebaa.PS
open Go.RowKit Go.Proofs.Ytnidcoooenhebaa.PC Go.Proofs.YtnidcoooenhebaaW.PrintWords Go.Proofs.YtnidcoooenhebaaW.PrintLast
set_option linter.unusedVariables false
def Tot {α : Type} (g : Nat → Option α) (P : α → Prop) : Prop := ∃ v, Ev g v ∧ P v
namespace Tot
variable {α β : Type} {f g : Nat → Option α} {P P' : α → Prop}
theorem succ (h : Tot (fun k => g (k + 1)) P) : Tot g P := by obtain ⟨v, h, p⟩ := h; exact ⟨v, Ev.step (fun k => rfl) h, p⟩
theorem now {v : α} (h : P v) : Tot (fun _ => some v) P := ⟨v, Ev.now _, h⟩
theorem mono (h : Tot g P) (m : ∀ v, P v → P' v) : Tot g P' := by obtain ⟨v, h, p⟩ := h; exact ⟨v, h, m v p⟩
theorem ite {c : Prop} [Decidable c] (h1 : c → Tot f P) (h2 : ¬ c → Tot g P) : Tot (fun k => if c then f k else g k) P := by
  by_cases h : c
  · simp only [if_pos h]; exact h1 h
  · simp only [if_neg h]; exact h2 h
theorem bind {g : Nat → Option β} {Q : β → Prop} {f : Nat → β → Option α} (h : Tot g Q) (m : ∀ v, Q v → Tot (fun k => f k v) P) : Tot (fun k => (g k).bind (f k)) P := by
  obtain ⟨v, h, q⟩ := h
  obtain ⟨u, h2, p⟩ := m v q
  exact ⟨u, Ev.bind h h2, p⟩
end Tot
theorem w64 {x : Int} (h0 : -9223372036854775808 ≤ x) (h1 : x ≤ 9223372036854775807) : wrap64 x = x := by unfold wrap64; omega
theorem w1 {n : Nat} (h : n ≤ 1000000000000000) : wrap64 ((n : Int) + 1) = ((n + 1 : Nat) : Int) := by rw [w64 (by omega) (by omega)]; rfl
theorem named_l0 (s : ByteArray) (hs : s.size ≤ 100) : ∀ (n i : Nat), s.size - i = n → Tot (fun k => pendulumref03_Named.l0 k s (i : Int)) (fun _ => True) := by
  intro n
  induction n with
  | zero =>
    intro i h
    refine Tot.succ ?_
    simp only [pendulumref03_Named.l0]
    exact Tot.ite (fun c => by omega) (fun _ => Tot.now trivial)
  | succ n ih =>
    intro i h
    refine Tot.succ ?_
    simp only [pendulumref03_Named.l0, w1 (n := i) (by omega)]
    have ih := ih (i + 1) (by omega)
    repeat' first
    | exact ih
    | exact Tot.now trivial
    | (exfalso; omega)
    | refine Tot.ite (fun _ => ?_) (fun _ => ?_)
theorem named_tot (s : ByteArray) : Tot (fun k => pendulumref03_Named.f k s) (fun _ => True) := by
  unfold pendulumref03_Named.f
  have hj : ∀ b, (b = false → (s.size : Int) ≤ 12) → Tot (fun k => pendulumref03_Named.j0 k s b) (fun _ => True) := by
    intro b hb
    refine Tot.succ ?_
    simp only [pendulumref03_Named.j0]
    exact Tot.ite (fun _ => Tot.now trivial) (fun c => named_l0 s (by have := hb (by simpa using c); omega) _ 1 rfl)
  repeat' first
  | (with_reducible refine hj _ (fun _ => ?_); first | omega | contradiction)
  | exact hj _ (fun h => by cases h)
  | (exfalso; omega)
  | refine Tot.ite (fun _ => ?_) (fun _ => ?_)
/-- A right task. -/
def OkT (t : S39) : Prop := (1 ≤ t.f3 ∧ t.f3 ≤ t.f2 ∧ t.f2 ≤ t.f1 ∧ t.f1 ≤ 1048576 ∧ 0 ≤ t.f6 ∧ t.f6 ≤ 1000) ∧ (t.f9 = 1 ∧ 1 ≤ t.f5 ∧ t.f5 ≤ t.f3 ∧ t.f4 = 0 ∨ (t.f9 = 2 ∨ t.f9 = 3) ∧ 1 ≤ t.f4 ∧ t.f4 ≤ t.f2 ∧ t.f5 = 0) ∧ (1 ≤ t.f7 ∧ t.f7 ≤ t.f8 ∧ t.f8 ≤ 64) ∧ 0 ≤ t.f10 ∧ t.f10 ≤ 255
def Uniq (l : List S39) (j : Nat) : Prop := ∀ m : Nat, m < j → (rd_T39 l m).f10 ≠ (rd_T39 l j).f10 ∧ (rd_T39 l m).f0.toList ≠ (rd_T39 l j).f0.toList
/-- A right set. -/
def OkS (B : Int) (l : List S39) : Prop := 1 ≤ B ∧ B ≤ 1000 ∧ 1 ≤ l.length ∧ l.length ≤ 16 ∧ ∀ j : Nat, j < l.length → OkT (rd_T39 l j) ∧ Uniq l j
variable {B : Int} {l : List S39} {i : Int} {Q : Prop} {t0 : ByteArray} {t1 t2 t3 t4 t5 t6 t7 t8 t9 t10 : Int}
theorem why_j7 (ih : Tot (fun k => pendulumref05_Why.l0 k (wrap64 (i + 1)) B l) (fun v => v.1 = 0 → Q)) (x7 x : Bool) : Tot (fun k => pendulumref05_Why.j7 k i x7 x B l) (fun v => v.1 = 0 → x7 = false ∧ x = false ∧ Q) := by
  refine Tot.succ ?_
  simp only [pendulumref05_Why.j7]
  exact Tot.ite (fun _ => Tot.now (fun h => by cases h)) (fun c => Tot.ite (fun _ => Tot.now (fun h => by cases h)) (fun d => ih.mono (fun v hv h => ⟨by simpa using d, by simpa using c, hv h⟩)))
theorem why_j6 (ih : Tot (fun k => pendulumref05_Why.l0 k (wrap64 (i + 1)) B l) (fun v => v.1 = 0 → Q)) (x7 x9 x : Bool) : Tot (fun k => pendulumref05_Why.j6 k i x7 x9 x B l t0 t1 t2 t3 t4 t5 t6 t7 t8 t9 t10) (fun v => v.1 = 0 → (x7 = false ∧ x9 = false ∧ x = false) ∧ (1 ≤ t7 ∧ t7 ≤ t8 ∧ t8 ≤ 64) ∧ Q) := by
  refine Tot.succ ?_
  simp only [pendulumref05_Why.j6]
  refine Tot.ite (fun _ => Tot.now (fun h => by cases h)) (fun c => Tot.ite (fun _ => Tot.now (fun h => by cases h)) (fun d => ?_))
  refine Tot.ite (fun _ => (why_j7 ih _ _).mono (fun v hv h => by cases (hv h).2.1)) (fun e1 => ?_)
  refine Tot.ite (fun _ => (why_j7 ih _ _).mono (fun v hv h => by cases (hv h).2.1)) (fun e2 => ?_)
  refine (why_j7 ih _ _).mono (fun v hv h => ?_)
  obtain ⟨h1, h2, h3⟩ := hv h
  have h2 := of_decide_eq_false h2
  exact ⟨⟨h1, by simpa using d, by simpa using c⟩, ⟨by omega, by omega, by omega⟩, h3⟩
theorem why_j5 (ih : Tot (fun k => pendulumref05_Why.l0 k (wrap64 (i + 1)) B l) (fun v => v.1 = 0 → Q)) (x6 x7 x9 : Bool) : Tot (fun k => pendulumref05_Why.j5 k i x6 x7 x9 B l t0 t1 t2 t3 t4 t5 t6 t7 t8 t9 t10) (fun v => v.1 = 0 → (x6 = false ∧ x7 = false ∧ x9 = false) ∧ (1 ≤ t3 ∧ t3 ≤ t2 ∧ t2 ≤ t1 ∧ t1 ≤ 1048576 ∧ 0 ≤ t6 ∧ t6 ≤ 1000) ∧ (1 ≤ t7 ∧ t7 ≤ t8 ∧ t8 ≤ 64) ∧ Q) := by
  refine Tot.succ ?_
  simp only [pendulumref05_Why.j5]
  refine Tot.ite (fun _ => Tot.now (fun h => by cases h)) (fun c => ?_)
  refine Tot.ite (fun _ => (why_j6 ih _ _ _).mono (fun v hv h => by cases (hv h).1.2.2)) (fun e1 => ?_)
  refine Tot.ite (fun _ => (why_j6 ih _ _ _).mono (fun v hv h => by cases (hv h).1.2.2)) (fun e2 => ?_)
  refine Tot.ite (fun _ => (why_j6 ih _ _ _).mono (fun v hv h => by cases (hv h).1.2.2)) (fun e3 => ?_)
  refine Tot.ite (fun _ => (why_j6 ih _ _ _).mono (fun v hv h => by cases (hv h).1.2.2)) (fun e4 => ?_)
  refine Tot.ite (fun _ => (why_j6 ih _ _ _).mono (fun v hv h => by cases (hv h).1.2.2)) (fun e5 => ?_)
  refine (why_j6 ih _ _ _).mono (fun v hv h => ?_)
  obtain ⟨⟨h1, h2, h3⟩, h4, h5⟩ := hv h
  have h3 := of_decide_eq_false h3
  exact ⟨⟨by simpa using c, h1, h2⟩, ⟨by omega, by omega, by omega, by omega, by omega, by omega⟩, h4, h5⟩
def ModeOk (t2 t3 t4 t5 t9 : Int) : Prop := t9 = 1 ∧ 1 ≤ t5 ∧ t5 ≤ t3 ∧ t4 = 0 ∨ (t9 = 2 ∨ t9 = 3) ∧ 1 ≤ t4 ∧ t4 ≤ t2 ∧ t5 = 0
theorem why_after (ih : Tot (fun k => pendulumref05_Why.l0 k (wrap64 (i + 1)) B l) (fun v => v.1 = 0 → Q)) (x6 x7 : Bool) {x : Int} (hx : ¬ x < i) : Tot (fun k => pendulumref05_Why.l1 k i x6 x7 x B l t0 t1 t2 t3 t4 t5 t6 t7 t8 t9 t10) (fun v => v.1 = 0 → (x6 = false ∧ x7 = false) ∧ ModeOk t2 t3 t4 t5 t9 ∧ (1 ≤ t3 ∧ t3 ≤ t2 ∧ t2 ≤ t1 ∧ t1 ≤ 1048576 ∧ 0 ≤ t6 ∧ t6 ≤ 1000) ∧ (1 ≤ t7 ∧ t7 ≤ t8 ∧ t8 ≤ 64) ∧ Q) := by
  refine Tot.succ ?_
  simp only [pendulumref05_Why.l1, if_neg hx]
  have h5 : ∀ y : Bool, (y = false → ModeOk t2 t3 t4 t5 t9) → Tot (fun k => pendulumref05_Why.j5 k i x6 x7 y B l t0 t1 t2 t3 t4 t5 t6 t7 t8 t9 t10) (fun v => v.1 = 0 → (x6 = false ∧ x7 = false) ∧ ModeOk t2 t3 t4 t5 t9 ∧ (1 ≤ t3 ∧ t3 ≤ t2 ∧ t2 ≤ t1 ∧ t1 ≤ 1048576 ∧ 0 ≤ t6 ∧ t6 ≤ 1000) ∧ (1 ≤ t7 ∧ t7 ≤ t8 ∧ t8 ≤ 64) ∧ Q) := by
    intro y hy
    refine (why_j5 ih _ _ _).mono (fun v hv h => ?_)
    obtain ⟨⟨a, b, c⟩, d⟩ := hv h
    exact ⟨⟨a, b⟩, hy c, d⟩
  repeat' first
  | exact h5 true (fun h => by cases h)
  | exact h5 _ (fun h => by unfold ModeOk; first | omega | (simp at h; omega))
  | refine Tot.ite (fun _ => ?_) (fun _ => ?_)
theorem why_l1 (hl : l.length ≤ 1000) {R : Int × Int → Prop} {F : Prop} (iN : Nat) (hi : iN < l.length)
    (H : ∀ x6 x7 : Bool, (x6 = false → ∀ m : Nat, m < iN → (rd_T39 l m).f0.toList ≠ t0.toList) → (x7 = false → F ∧ ∀ m : Nat, m < iN → (rd_T39 l m).f10 ≠ t10) → Tot (fun k => pendulumref05_Why.l1 k (iN : Int) x6 x7 (iN : Int) B l t0 t1 t2 t3 t4 t5 t6 t7 t8 t9 t10) R) :
    ∀ (n j : Nat) (x6 x7 : Bool), iN - j = n → j ≤ iN → (x6 = false → ∀ m : Nat, m < j → (rd_T39 l m).f0.toList ≠ t0.toList) → (x7 = false → F ∧ ∀ m : Nat, m < j → (rd_T39 l m).f10 ≠ t10) → Tot (fun k => pendulumref05_Why.l1 k (iN : Int) x6 x7 (j : Int) B l t0 t1 t2 t3 t4 t5 t6 t7 t8 t9 t10) R := by
  intro n
  induction n with
  | zero =>
    intro j x6 x7 h hj h6 h7
    obtain rfl : j = iN := by omega
    exact H x6 x7 h6 h7
  | succ n ih =>
    intro j x6 x7 h hj h6 h7
    refine Tot.succ ?_
    simp only [pendulumref05_Why.l1, w1 (n := j) (by omega), if_pos (show (j : Int) < (iN : Int) by omega), if_pos (show (0 : Int) ≤ (j : Int) by omega), if_pos (show (j : Int) < (l.length : Int) by omega)]
    have s6 : (((rd_T39 l j).f0).toList == t0.toList) = false → x6 = false → ∀ m : Nat, m < j + 1 → (rd_T39 l m).f0.toList ≠ t0.toList := by
      intro e1 e2 m hm
      by_cases c : m = j
      · subst c; simpa using e1
      · exact h6 e2 m (by omega)
    have s7 : ((rd_T39 l j).f10 == t10) = false → x7 = false → F ∧ ∀ m : Nat, m < j + 1 → (rd_T39 l m).f10 ≠ t10 := by
      intro e1 e2
      refine ⟨(h7 e2).1, fun m hm => ?_⟩
      by_cases c : m = j
      · subst c; simpa using e1
      · exact (h7 e2).2 m (by omega)
    refine Tot.ite (fun c6 => ?_) (fun c6 => ?_)
    · refine Tot.ite (fun c7 => ?_) (fun c7 => ?_)
      · exact ih (j + 1) true true (by omega) (by omega) (fun h => by cases h) (fun h => by cases h)
      · exact ih (j + 1) true _ (by omega) (by omega) (fun h => by cases h) (fun h => s7 h (by simpa using c7))
    · refine Tot.ite (fun c7 => ?_) (fun c7 => ?_)
      · exact ih (j + 1) _ true (by omega) (by omega) (fun h => s6 h (by simpa using c6)) (fun h => by cases h)
      · exact ih (j + 1) _ _ (by omega) (by omega) (fun h => s6 h (by simpa using c6)) (fun h => s7 h (by simpa using c7))
theorem why_l0 (B : Int) (l : List S39) (hl : l.length ≤ 1000) : ∀ (n i : Nat), l.length - i = n → Tot (fun k => pendulumref05_Why.l0 k (i : Int) B l) (fun v => v.1 = 0 → ∀ j : Nat, i ≤ j → j < l.length → OkT (rd_T39 l j) ∧ Uniq l j) := by
  intro n
  induction n with
  | zero =>
    intro i h
    refine Tot.succ ?_
    simp only [pendulumref05_Why.l0, if_neg (show ¬ (i : Int) < (l.length : Int) by omega)]
    exact Tot.now (fun _ j h1 h2 => by omega)
  | succ n ih =>
    intro i h
    refine Tot.succ ?_
    simp only [pendulumref05_Why.l0, if_pos (show (i : Int) < (l.length : Int) by omega), if_pos (show (0 : Int) ≤ (i : Int) by omega)]
    refine Tot.bind (named_tot _) (fun b _ => ?_)
    have ih := ih (i + 1) (by omega)
    rw [← w1 (n := i) (by omega)] at ih
    have go : ∀ x7 : Bool, (x7 = false → 0 ≤ (rd_T39 l i).f10 ∧ (rd_T39 l i).f10 ≤ 255) → Tot (fun k => pendulumref05_Why.j3 k (i : Int) (!b) x7 B l (rd_T39 l i).f0 (rd_T39 l i).f1 (rd_T39 l i).f2 (rd_T39 l i).f3 (rd_T39 l i).f4 (rd_T39 l i).f5 (rd_T39 l i).f6 (rd_T39 l i).f7 (rd_T39 l i).f8 (rd_T39 l i).f9 (rd_T39 l i).f10) (fun v => v.1 = 0 → ∀ j : Nat, i ≤ j → j < l.length → OkT (rd_T39 l j) ∧ Uniq l j) := by
      intro x7 h7
      refine Tot.succ ?_
      simp only [pendulumref05_Why.j3]
      refine why_l1 hl (F := 0 ≤ (rd_T39 l i).f10 ∧ (rd_T39 l i).f10 ≤ 255) i (by omega) ?_ i 0 _ _ (by omega) (by omega) (fun _ m hm => by omega) (fun h => ⟨h7 h, fun m hm => by omega⟩)
      intro y6 y7 e6 e7
      refine (why_after ih _ _ (by omega)).mono (fun v hv h => ?_)
      obtain ⟨⟨a, b⟩, c, d, e, q⟩ := hv h
      intro j h1 h2
      by_cases cj : j = i
      · subst cj
        exact ⟨⟨d, c, e, (e7 b).1⟩, fun m hm => ⟨(e7 b).2 m hm, e6 a m hm⟩⟩
      · exact q j (by omega) h2
    exact Tot.ite (fun _ => go _ (fun h => by cases h)) (fun c => go _ (fun h => by have := of_decide_eq_false h; omega))
theorem why_tot (B : Int) (l : List S39) : Tot (fun k => pendulumref05_Why.f k B l) (fun v => v.1 = 0 → OkS B l) := by
  unfold pendulumref05_Why.f
  have h1 : ∀ x : Bool, (x = false → 1 ≤ B ∧ B ≤ 1000 ∧ 1 ≤ l.length ∧ l.length ≤ 16) → Tot (fun k => pendulumref05_Why.j1 k x B l) (fun v => v.1 = 0 → OkS B l) := by
    intro x hx
    refine Tot.succ ?_
    simp only [pendulumref05_Why.j1]
    refine Tot.ite (fun _ => Tot.now (fun h => by cases h)) (fun c => ?_)
    obtain ⟨a, b, c, d⟩ := hx (by simpa using c)
    exact (why_l0 B l (by omega) l.length 0 (by omega)).mono (fun v hv h => ⟨a, b, c, d, fun j hj => hv h j (by omega) hj⟩)
  have h0 : ∀ x : Bool, (x = false → 1 ≤ B ∧ B ≤ 1000) → Tot (fun k => pendulumref05_Why.j0 k x B l) (fun v => v.1 = 0 → OkS B l) := by
    intro x hx
    refine Tot.succ ?_
    simp only [pendulumref05_Why.j0]
    refine Tot.ite (fun _ => Tot.now (fun h => by cases h)) (fun c => ?_)
    have hB := hx (by simpa using c)
    exact Tot.ite (fun _ => h1 _ (fun h => by cases h)) (fun d => h1 _ (fun h => by have := of_decide_eq_false h; omega))
  exact Tot.ite (fun _ => h0 _ (fun h => by cases h)) (fun d => h0 _ (fun h => by have := of_decide_eq_false h; omega))
theorem right_tot (B : Int) (l : List S39) : Tot (fun k => pendulumref05_Right.f k B l) (fun v => v = true → OkS B l) := by
  unfold pendulumref05_Right.f
  exact Tot.bind (why_tot B l) (fun v hv => Tot.now (fun h => hv (by simpa using h)))
end Go.Proofs.Ytnidcoooenhebaa.PS
