/- Sum, product and quotient of two numbers, or that it is over, are what the document says: for all numbers. No condition. -/
import Derived.Test.YtmfkhfnakjehkaaPTickSumsx3
namespace Go.Proofs.Ytmfkhfnakjehkaa.Pure
open Go.RowKit Go.Proofs.Ytmfkhfnakjehkaa.PTickSums Go.Proofs.YtmfkhfnakjehkaaW.PrintWords Go.Proofs.YtmfkhfnakjehkaaW.PrintLast

theorem w64 {x : Int} (h0 : -9223372036854775808 ≤ x) (h1 : x ≤ 9223372036854775807) : wrap64 x = x := by unfold wrap64; omega
theorem wf64 {n : Int} (h : (Lit.int .i64 n).wf = true) : -9223372036854775808 ≤ n ∧ n ≤ 9223372036854775807 := by
  simp [Lit.wf, IntKind.min, IntKind.max, IntKind.signed, IntKind.bits] at h
  omega
theorem wfu8 {n : Int} (h : (Lit.int .u8 n).wf = true) : 0 ≤ n ∧ n ≤ 255 := by
  simp [Lit.wf, IntKind.min, IntKind.max, IntKind.signed, IntKind.bits] at h
  omega
theorem wfu16 {n : Int} (h : (Lit.int .u16 n).wf = true) : 0 ≤ n ∧ n ≤ 65535 := by
  simp [Lit.wf, IntKind.min, IntKind.max, IntKind.signed, IntKind.bits] at h
  omega
theorem wfu32 {n : Int} (h : (Lit.int .u32 n).wf = true) : 0 ≤ n ∧ n ≤ 4294967295 := by
  simp [Lit.wf, IntKind.min, IntKind.max, IntKind.signed, IntKind.bits] at h
  omega
theorem wfu64 {n : Int} (h : (Lit.int .u64 n).wf = true) : 0 ≤ n ∧ n ≤ 18446744073709551615 := by
  simp [Lit.wf, IntKind.min, IntKind.max, IntKind.signed, IntKind.bits] at h
  omega
theorem ite_true' {α : Type} {c : Prop} [Decidable c] (h : c) (a b : α) : (if c then a else b) = a := if_pos h
theorem ite_false' {α : Type} {c : Prop} [Decidable c] (h : ¬ c) (a b : α) : (if c then a else b) = b := if_neg h
theorem drop_cons {l r : List Int} {i : Nat} {x : Int} (h : l.drop i = x :: r) : i < l.length ∧ rd l (i : Int) = x ∧ l.drop (i + 1) = r := by
  have hl : i < l.length := by
    apply Classical.byContradiction; intro hn
    rw [List.drop_eq_nil_of_le (by omega)] at h; cases h
  rw [List.drop_eq_getElem_cons hl] at h
  injection h with h1 h2
  refine ⟨hl, ?_, h2⟩
  simp [rd, List.getD_eq_getElem?_getD, hl, h1]
theorem drop_nil {l : List Int} {i : Nat} (h : l.drop i = []) : l.length ≤ i := by
  simpa using h
theorem w1 {n : Nat} (h : n ≤ 1000000000000000) : wrap64 ((n : Int) + 1) = ((n + 1 : Nat) : Int) := by rw [w64 (by omega) (by omega)]; rfl
theorem w2 {n : Nat} (h : n ≤ 1000000000000000) : wrap64 (((n + 1 : Nat) : Int) - 1) = (n : Int) := by rw [w64 (by omega) (by omega)]; omega

/-- The quotient, rounded up. -/
def cl (a b : Int) : Int := (a + b - 1) / b
theorem cl_of (a b q r : Int) (hb : 0 < b) (h : a = r + q * b) (h0 : 0 ≤ r) (h1 : r < b) : cl a b = if r = 0 then q else q + 1 := by
  unfold cl
  by_cases e : r = 0
  · rw [if_pos e, show a + b - 1 = (b - 1) + q * b by omega, Int.add_mul_ediv_right _ _ (by omega), Int.ediv_eq_zero_of_lt (by omega) (by omega)]; omega
  · rw [if_neg e, show a + b - 1 = (r - 1) + (q + 1) * b by rw [Int.add_mul]; omega, Int.add_mul_ediv_right _ _ (by omega), Int.ediv_eq_zero_of_lt (by omega) (by omega)]; omega
theorem time_eq (a : Int) : tick_time.f a = some (decide (0 ≤ a ∧ a ≤ 4611686018427387904)) := by
  unfold tick_time.f
  by_cases h : a ≥ 0
  · rw [if_pos h]; congr 1; simp; omega
  · rw [if_neg h]; congr 1; simp; omega
theorem ceil_ev (a b : Int) (h0 : 0 ≤ a) (h1 : a ≤ 4611686018427387904) (h2 : 1 ≤ b) (h3 : b ≤ 4611686018427387904) : Ev (fun k => tick_Ceil.f k a b) (cl a b, true) := by
  have hb : (b == 0) = false := by simp; omega
  have hr0 := Int.emod_nonneg a (show b ≠ 0 by omega)
  have hr1 := Int.emod_lt_of_pos a (show 0 < b by omega)
  have hq0 : 0 ≤ a / b := Int.ediv_nonneg h0 (by omega)
  have hq1 : a / b ≤ a := Int.ediv_le_self _ h0
  have hqb : a = a % b + a / b * b := by have := Int.emod_add_mul_ediv a b; rw [Int.mul_comm] at this; omega
  have hqb0 : 0 ≤ a / b * b := Int.mul_nonneg hq0 (by omega)
  refine Ev.step (f := fun _ => some (cl a b, true)) (fun k => ?_) (Ev.now _)
  unfold tick_Ceil.f
  rw [time_eq, time_eq]
  have e1 : decide (0 ≤ a ∧ a ≤ 4611686018427387904) = true := by simp; omega
  have e2 : decide (0 ≤ b ∧ b ≤ 4611686018427387904) = true := by simp; omega
  simp only [e1, e2, Option.bind_some, if_true, tick_Ceil.j0, hb]
  rw [if_neg (by simp), if_neg (by omega), Int.tdiv_eq_ediv_of_nonneg h0, w64 (x := a / b) (by omega) (by omega), w64 (x := a / b * b) (by omega) (by omega), w64 (x := a / b + 1) (by omega) (by omega)]
  rw [cl_of a b (a / b) (a % b) (by omega) hqb hr0 hr1]
  by_cases e : a % b = 0
  · rw [if_pos e, if_neg (by omega)]
  · rw [if_neg e, if_pos (by omega)]

/-- Is a number a time? -/
def T (a : Int) : Prop := 0 ≤ a ∧ a ≤ 4611686018427387904
instance (a : Int) : Decidable (T a) := inferInstanceAs (Decidable (0 ≤ a ∧ a ≤ 4611686018427387904))
/-- A checked number: it is one, or it is over. -/
def chk (c : Prop) [Decidable c] (n : Int) : Int × Bool := if c then (n, true) else (0, false)
theorem chk_pos {c : Prop} [Decidable c] {n : Int} (h : c) : chk c n = (n, true) := by unfold chk; rw [if_pos h]
theorem chk_neg {c : Prop} [Decidable c] {n : Int} (h : ¬ c) : chk c n = (0, false) := by unfold chk; rw [if_neg h]
def addS (a b : Int) : Int × Bool := chk (T a ∧ T b ∧ a + b ≤ 4611686018427387904) (a + b)
theorem time_T (a : Int) : tick_time.f a = some (decide (T a)) := time_eq a
theorem add_eq (a b : Int) : tick_Add.f a b = some (addS a b) := by
  unfold tick_Add.f addS chk
  rw [time_T, time_T]
  by_cases h1 : T a
  · by_cases h2 : T b
    · simp only [decide_eq_true h1, decide_eq_true h2, Option.bind_some, if_true]
      have h1' := h1
      have h2' := h2
      unfold T at h1' h2'
      rw [w64 (x := 4611686018427387904 - b) (by omega) (by omega)]
      by_cases h3 : a + b ≤ 4611686018427387904
      · rw [if_neg (by omega), if_pos ⟨h1, h2, h3⟩, w64 (x := a + b) (by omega) (by omega)]
      · rw [if_pos (by omega), if_neg (fun h => h3 h.2.2)]
    · simp only [decide_eq_true h1, decide_eq_false h2, Option.bind_some, if_true]
      rw [if_neg (by simp), if_neg (fun h => h2 h.2.1)]
  · simp only [decide_eq_false h1, Option.bind_some]
    rw [if_neg (by simp), if_neg (fun h => h1 h.1)]
/-- The sum of all. -/
def su : List Int → Int
  | [] => 0
  | x :: r => x + su r
def sumS (n : Int) (l : List Int) : Int × Bool := chk ((∀ x ∈ l, T x) ∧ n + su l ≤ 4611686018427387904) (n + su l)
theorem su_nonneg : ∀ {l : List Int}, (∀ x ∈ l, T x) → 0 ≤ su l := by
  intro l
  induction l with
  | nil => intro _; simp [su]
  | cons x r ih =>
    intro h
    have h1 : T x := h x (List.mem_cons_self ..)
    have h2 := ih (fun y hy => h y (List.mem_cons_of_mem _ hy))
    unfold T at h1
    simp only [su]; omega
theorem sumS_cons_ok {n x : Int} {r : List Int} (hn : T n) (h : (addS n x).2 = true) : sumS n (x :: r) = sumS (addS n x).1 r ∧ T (addS n x).1 := by
  unfold addS at *
  by_cases c : T n ∧ T x ∧ n + x ≤ 4611686018427387904
  · rw [chk_pos c]
    have c1 := c.2.1
    have c0 := c.2.2
    have cn := hn
    unfold T at c1 cn
    refine ⟨?_, by unfold T; simp only; omega⟩
    unfold sumS
    have e : su (x :: r) = x + su r := rfl
    by_cases d : (∀ y ∈ r, T y) ∧ n + x + su r ≤ 4611686018427387904
    · rw [chk_pos d, chk_pos ⟨fun y hy => (List.mem_cons.1 hy).elim (fun e => e ▸ c.2.1) (d.1 y), by omega⟩, e, Int.add_assoc]
    · rw [chk_neg d, chk_neg (fun e2 => d ⟨fun y hy => e2.1 y (List.mem_cons_of_mem _ hy), by have := e2.2; omega⟩)]
  · rw [chk_neg c] at h; cases h
theorem sumS_cons_no {n x : Int} {r : List Int} (hn : T n) (h : (addS n x).2 = false) : sumS n (x :: r) = (0, false) := by
  unfold addS at h
  by_cases c : T n ∧ T x ∧ n + x ≤ 4611686018427387904
  · rw [chk_pos c] at h; cases h
  · unfold sumS
    rw [chk_neg]
    intro e
    have h1 : T x := e.1 x (List.mem_cons_self ..)
    have h2 := su_nonneg (fun y hy => e.1 y (List.mem_cons_of_mem _ hy))
    have h3 := e.2
    simp only [su] at h3
    exact c ⟨hn, h1, by omega⟩
theorem sumS_nil {n : Int} (hn : T n) : sumS n [] = (n, true) := by
  unfold T at hn
  unfold sumS; rw [chk_pos ⟨fun x hx => (by cases hx), by simp only [su]; omega⟩]; simp [su]
theorem sum_l0 (l : List Int) (hl : l.length ≤ 1000000000000) : ∀ (r : List Int) (i : Nat) (n : Int), l.drop i = r → T n → Ev (fun k => tick_Sum.l0 k n l (l.length : Int) (i : Int)) (sumS n r) := by
  intro r
  induction r with
  | nil =>
    intro i n h hn
    have := drop_nil h
    rw [sumS_nil hn]
    refine Ev.step (f := fun _ => some _) (fun k => ?_) (Ev.now _)
    simp only [tick_Sum.l0]
    rw [if_neg (by omega)]
  | cons x r ih =>
    intro i n h hn
    obtain ⟨hi, hx, hd⟩ := drop_cons h
    cases hb : (addS n x).2 with
    | true =>
      obtain ⟨e1, e2⟩ := sumS_cons_ok (r := r) hn hb
      rw [e1]
      refine Ev.step (fun k => ?_) (ih (i + 1) _ hd e2)
      simp only [tick_Sum.l0]
      rw [if_pos (by omega), if_pos (by omega), if_pos (by omega), hx, add_eq]
      simp only [Option.bind_some, hb, if_true]
      rw [w1 (n := i) (by omega)]
    | false =>
      rw [sumS_cons_no hn hb]
      refine Ev.step (f := fun _ => some _) (fun k => ?_) (Ev.now _)
      simp only [tick_Sum.l0]
      rw [if_pos (by omega), if_pos (by omega), if_pos (by omega), hx, add_eq]
      simp only [Option.bind_some, hb]
      rw [if_neg (by simp)]
theorem sum_ev (l : List Int) (hl : l.length ≤ 1000000000000) : Ev (fun k => tick_Sum.f k l) (sumS 0 l) := by
  unfold tick_Sum.f
  exact sum_l0 l hl l 0 0 rfl ⟨by omega, by omega⟩

def mulS (a b : Int) : Int × Bool := chk (T a ∧ T b ∧ a * b ≤ 4611686018427387904) (a * b)
theorem mul_eq (a b : Int) : tick_Mul.f a b = some (mulS a b) := by
  unfold tick_Mul.f mulS chk
  rw [time_T, time_T]
  by_cases h1 : T a
  · by_cases h2 : T b
    · simp only [decide_eq_true h1, decide_eq_true h2, Option.bind_some, if_true]
      have h1' := h1
      have h2' := h2
      unfold T at h1' h2'
      by_cases h0 : b > 0
      · have hq : Int.tdiv 4611686018427387904 b = 4611686018427387904 / b := Int.tdiv_eq_ediv_of_nonneg (by omega)
        have hq0 : 0 ≤ (4611686018427387904 : Int) / b := Int.ediv_nonneg (by omega) (by omega)
        have hq1 : (4611686018427387904 : Int) / b ≤ 4611686018427387904 := Int.ediv_le_self _ (by omega)
        have hiff : a ≤ 4611686018427387904 / b ↔ a * b ≤ 4611686018427387904 := Int.le_ediv_iff_mul_le h0
        rw [if_pos h0, if_neg (by omega), hq, w64 (x := 4611686018427387904 / b) (by omega) (by omega)]
        by_cases h3 : a * b ≤ 4611686018427387904
        · have h4 := hiff.2 h3
          have h5 : 0 ≤ a * b := Int.mul_nonneg h1'.1 h2'.1
          rw [if_neg (by omega), if_pos ⟨h1, h2, h3⟩, w64 (x := a * b) (by omega) (by omega)]
        · have h4 : ¬ a ≤ 4611686018427387904 / b := fun h => h3 (hiff.1 h)
          rw [if_pos (by omega), if_neg (fun h => h3 h.2.2)]
      · obtain rfl : b = 0 := by omega
        rw [if_neg h0, if_pos ⟨h1, h2, by simp⟩, w64 (x := a * 0) (by simp) (by simp)]
    · simp only [decide_eq_true h1, decide_eq_false h2, Option.bind_some, if_true]
      rw [if_neg (by simp), if_neg (fun h => h2 h.2.1)]
  · simp only [decide_eq_false h1, Option.bind_some]
    rw [if_neg (by simp), if_neg (fun h => h1 h.1)]

theorem reftime_T (a : Int) : pendulumref01_Time.f a = some (decide (T a)) := time_eq a

theorem refadd_ev (a b : Int) : Ev (fun k => pendulumref01_Add.f k a b) (addS a b) := by
  refine Ev.step (f := fun _ => some (addS a b)) (fun k => ?_) (Ev.now _)
  unfold pendulumref01_Add.f addS chk
  rw [reftime_T, reftime_T]
  by_cases h1 : T a
  · by_cases h2 : T b
    · simp only [decide_eq_true h1, decide_eq_true h2, Option.bind_some, if_true, Bool.not_true, pendulumref01_Add.j0]
      have h1' := h1
      have h2' := h2
      unfold T at h1' h2'
      rw [if_neg (by simp), w64 (x := 4611686018427387904 - a) (by omega) (by omega)]
      by_cases h3 : a + b ≤ 4611686018427387904
      · rw [if_neg (by omega), if_pos ⟨h1, h2, h3⟩, w64 (x := a + b) (by omega) (by omega)]
      · rw [if_pos (by omega), if_neg (fun h => h3 h.2.2)]
    · simp only [decide_eq_true h1, decide_eq_false h2, Option.bind_some, if_true, Bool.not_false, pendulumref01_Add.j0]
      rw [if_neg (fun h => h2 h.2.1)]
  · simp only [decide_eq_false h1, Option.bind_some, pendulumref01_Add.j0]
    rw [if_neg (by simp), if_pos trivial, if_neg (fun h => h1 h.1)]

theorem halves (h l x y : Int) : (l + h * 2147483648) * (y + x * 2147483648) = h * x * 4611686018427387904 + (h * y + l * x) * 2147483648 + l * y := by
  rw [Int.add_mul, Int.mul_add, Int.mul_add, show h * 2147483648 * (x * 2147483648) = h * x * 4611686018427387904 by rw [Int.mul_assoc, Int.mul_left_comm 2147483648, ← Int.mul_assoc, show (2147483648 : Int) * 2147483648 = 4611686018427387904 from rfl], show h * 2147483648 * y = h * y * 2147483648 by rw [Int.mul_right_comm], show l * (x * 2147483648) = l * x * 2147483648 by rw [Int.mul_assoc], Int.add_mul]
  omega
theorem refmul_ev (a b : Int) : Ev (fun k => pendulumref01_Mul.f k a b) (mulS a b) := by
  by_cases h1 : T a
  · by_cases h2 : T b
    · have h1' := h1
      have h2' := h2
      unfold T at h1' h2'
      have ea := Int.emod_add_mul_ediv a 2147483648
      have eb := Int.emod_add_mul_ediv b 2147483648
      have ha0 := Int.emod_nonneg a (show (2147483648 : Int) ≠ 0 by omega)
      have ha1 := Int.emod_lt_of_pos a (show (0 : Int) < 2147483648 by omega)
      have hb0 := Int.emod_nonneg b (show (2147483648 : Int) ≠ 0 by omega)
      have hb1 := Int.emod_lt_of_pos b (show (0 : Int) < 2147483648 by omega)
      obtain ⟨h, eh⟩ : ∃ h, h = a / 2147483648 := ⟨_, rfl⟩
      obtain ⟨x, ex⟩ : ∃ x, x = b / 2147483648 := ⟨_, rfl⟩
      obtain ⟨l, el⟩ : ∃ l, l = a % 2147483648 := ⟨_, rfl⟩
      obtain ⟨y, ey⟩ : ∃ y, y = b % 2147483648 := ⟨_, rfl⟩
      rw [← eh, ← el] at ea
      rw [← ex, ← ey] at eb
      rw [← el] at ha0 ha1
      rw [← ey] at hb0 hb1
      have hh0 : 0 ≤ h := by omega
      have hh1 : h ≤ 2147483648 := by omega
      have hx0 : 0 ≤ x := by omega
      have hx1 : x ≤ 2147483648 := by omega
      have ab : a * b = h * x * 4611686018427387904 + (h * y + l * x) * 2147483648 + l * y := by
        rw [← halves, Int.mul_comm h, Int.mul_comm x, ea, eb]
      have p1 : 0 ≤ h * x := Int.mul_nonneg hh0 hx0
      have p2 : 0 ≤ h * y := Int.mul_nonneg hh0 hb0
      have p3 : 0 ≤ l * x := Int.mul_nonneg ha0 hx0
      have p4 : 0 ≤ l * y := Int.mul_nonneg ha0 hb0
      have q1 : h * x ≤ 2147483648 * 2147483648 := Int.mul_le_mul hh1 hx1 hx0 (by omega)
      have q2 : h * y ≤ 2147483648 * 2147483647 := Int.mul_le_mul hh1 (by omega) hb0 (by omega)
      have q3 : l * x ≤ 2147483647 * 2147483648 := Int.mul_le_mul (by omega) hx1 hx0 (by omega)
      have q4 : l * y ≤ 2147483647 * 2147483647 := Int.mul_le_mul (by omega) (by omega) hb0 (by omega)
      have ta : Int.tdiv a 2147483648 = h := by rw [eh, Int.tdiv_eq_ediv_of_nonneg h1'.1]
      have tb : Int.tdiv b 2147483648 = x := by rw [ex, Int.tdiv_eq_ediv_of_nonneg h2'.1]
      have ma : Int.tmod a 2147483648 = l := by rw [el, Int.tmod_eq_emod_of_nonneg h1'.1]
      have mb : Int.tmod b 2147483648 = y := by rw [ey, Int.tmod_eq_emod_of_nonneg h2'.1]
      -- what the second part answers
      have hj1 : ∀ v, v = decide (h > 0 ∧ x > 0) → Ev (fun k => pendulumref01_Mul.j1 k h l x y v) (mulS a b) := by
        intro v hv
        by_cases c : h > 0 ∧ x > 0
        · have hhx : 1 ≤ h * x := Int.mul_pos c.1 c.2
          rw [hv, decide_eq_true c]
          refine Ev.step (f := fun _ => some (mulS a b)) (fun k => ?_) (Ev.now _)
          simp only [pendulumref01_Mul.j1]
          rw [if_pos trivial, w64 (x := h * x) (by omega) (by omega), w64 (x := h * y) (by omega) (by omega), w64 (x := l * x) (by omega) (by omega), w64 (x := h * y + l * x) (by omega) (by omega), w64 (x := l * y) (by omega) (by omega)]
          unfold mulS chk
          by_cases d1 : h * x > 1
          · rw [if_pos d1, if_neg (fun e => by have := e.2.2; omega)]
          · rw [if_neg d1]
            by_cases d2 : h * y + l * x > 0
            · rw [if_pos d2, if_neg (fun e => by have := e.2.2; omega)]
            · rw [if_neg d2]
              by_cases d3 : l * y > 0
              · rw [if_pos d3, if_neg (fun e => by have := e.2.2; omega)]
              · rw [if_neg d3, if_pos ⟨h1, h2, by omega⟩, show a * b = 4611686018427387904 by omega]
        · have hhx : h * x = 0 := by
            rcases (show h = 0 ∨ x = 0 by omega) with e | e
            · rw [e]; simp
            · rw [e]; simp
          rw [hv, decide_eq_false c]
          have hj2 : h * y + l * x ≤ 2147483648 → ∀ u, u = decide (h * y + l * x = 2147483648 ∧ l * y > 0) → Ev (fun k => pendulumref01_Mul.j2 k (h * y + l * x) (l * y) u) (mulS a b) := by
            intro hm u hu
            refine Ev.step (f := fun _ => some (mulS a b)) (fun k => ?_) (Ev.now _)
            simp only [pendulumref01_Mul.j2]
            unfold mulS chk
            by_cases d : h * y + l * x = 2147483648 ∧ l * y > 0
            · rw [hu, decide_eq_true d, if_pos rfl, if_neg (fun e => by have := e.2.2; omega)]
            · rw [hu, decide_eq_false d, if_neg (by simp), w64 (x := (h * y + l * x) * 2147483648) (by omega) (by omega), w64 (x := 4611686018427387904 - (h * y + l * x) * 2147483648) (by omega) (by omega)]
              by_cases d2 : l * y > 4611686018427387904 - (h * y + l * x) * 2147483648
              · rw [if_pos d2, if_neg (fun e => by have := e.2.2; omega)]
              · rw [if_neg d2, if_pos ⟨h1, h2, by omega⟩, w64 (x := (h * y + l * x) * 2147483648 + l * y) (by omega) (by omega), show a * b = (h * y + l * x) * 2147483648 + l * y by omega]
          by_cases d1 : h * y + l * x > 2147483648
          · refine Ev.step (f := fun _ => some (mulS a b)) (fun k => ?_) (Ev.now _)
            simp only [pendulumref01_Mul.j1]
            rw [if_neg (by simp), w64 (x := h * y) (by omega) (by omega), w64 (x := l * x) (by omega) (by omega), w64 (x := h * y + l * x) (by omega) (by omega), if_pos d1]
            unfold mulS chk
            rw [if_neg (fun e => by have := e.2.2; omega)]
          · refine Ev.step (fun k => ?_) (hj2 (by omega) _ rfl)
            simp only [pendulumref01_Mul.j1]
            rw [if_neg (by simp), w64 (x := h * y) (by omega) (by omega), w64 (x := l * x) (by omega) (by omega), w64 (x := h * y + l * x) (by omega) (by omega), w64 (x := l * y) (by omega) (by omega), if_neg d1]
            by_cases d2 : h * y + l * x = 2147483648
            · rw [if_pos d2]; congr 1; exact decide_eq_decide.2 ⟨fun e => ⟨d2, e⟩, fun e => e.2⟩
            · rw [if_neg d2]; congr 1; exact (decide_eq_false (fun e => d2 e.1)).symm
      unfold pendulumref01_Mul.f
      rw [reftime_T, reftime_T]
      simp only [decide_eq_true h1, decide_eq_true h2, Option.bind_some, if_true, Bool.not_true]
      refine Ev.step (fun k => ?_) (hj1 _ rfl)
      simp only [pendulumref01_Mul.j0]
      rw [if_neg (by simp), ta, tb, ma, mb, w64 (x := h) (by omega) (by omega), w64 (x := x) (by omega) (by omega)]
      by_cases d : h > 0
      · rw [if_pos d]; congr 1; exact decide_eq_decide.2 ⟨fun e => ⟨d, e⟩, fun e => e.2⟩
      · rw [if_neg d]; congr 1; exact (decide_eq_false (fun e => d e.1)).symm
    · refine Ev.step (f := fun _ => some (mulS a b)) (fun k => ?_) (Ev.now _)
      unfold pendulumref01_Mul.f mulS chk
      rw [reftime_T, reftime_T]
      simp only [decide_eq_true h1, decide_eq_false h2, Option.bind_some, if_true, Bool.not_false, pendulumref01_Mul.j0]
      rw [if_neg (fun h => h2 h.2.1)]
  · refine Ev.step (f := fun _ => some (mulS a b)) (fun k => ?_) (Ev.now _)
    unfold pendulumref01_Mul.f mulS chk
    rw [reftime_T, reftime_T]
    simp only [decide_eq_false h1, Option.bind_some, pendulumref01_Mul.j0]
    rw [if_neg (by simp), if_pos trivial, if_neg (fun h => h1 h.1)]

theorem awake_ev : Ev (fun k => pendulumlaw01_awake.f k) true := Ev.of (k := 20) pendulumlaw01_awake.mono (by kernel_rfl)

def clS (a b : Int) : Int × Bool := chk (T a ∧ T b ∧ b ≠ 0) (cl a b)
theorem ceil_all (a b : Int) : Ev (fun k => tick_Ceil.f k a b) (clS a b) := by
  by_cases h : T a ∧ T b ∧ b ≠ 0
  · obtain ⟨h1, h2, h3⟩ := h
    unfold clS chk
    rw [if_pos ⟨h1, h2, h3⟩]
    unfold T at h1 h2
    exact ceil_ev a b h1.1 h1.2 (by omega) h2.2
  · refine Ev.step (f := fun _ => some (clS a b)) (fun k => ?_) (Ev.now _)
    unfold tick_Ceil.f clS chk
    rw [time_T, time_T, if_neg h]
    by_cases h1 : T a
    · by_cases h2 : T b
      · have h3 : (b == 0) = true := by simpa using fun e => h ⟨h1, h2, e⟩
        simp only [decide_eq_true h1, decide_eq_true h2, Option.bind_some, if_true, h3, tick_Ceil.j0]
      · simp only [decide_eq_true h1, decide_eq_false h2, Option.bind_some, if_true, tick_Ceil.j0]
        rw [if_neg (by simp)]
    · simp only [decide_eq_false h1, Option.bind_some, tick_Ceil.j0]
      rw [if_neg (by simp), if_pos trivial]
theorem refceil_all (a b : Int) : Ev (fun k => pendulumref01_Ceil.f k a b) (clS a b) := by
  refine Ev.step (f := fun _ => some (clS a b)) (fun k => ?_) (Ev.now _)
  unfold pendulumref01_Ceil.f clS
  rw [reftime_T, reftime_T]
  by_cases h1 : T a
  · by_cases h2 : T b
    · have h1' := h1
      have h2' := h2
      unfold T at h1' h2'
      simp only [decide_eq_true h1, decide_eq_true h2, Option.bind_some, if_true, pendulumref01_Ceil.j0]
      by_cases h3 : b = 0
      · rw [if_pos (by simpa using h3), chk_neg (fun e => e.2.2 h3)]
      · rw [if_neg (by simpa using h3), show chk (T a ∧ T b ∧ b ≠ 0) (cl a b) = (cl a b, true) from chk_pos ⟨h1, h2, h3⟩]
        unfold cl
        by_cases h4 : a = 0
        · rw [if_pos h4, h4, Int.ediv_eq_zero_of_lt (by omega) (by omega)]
        · have hq0 : 0 ≤ (a - 1) / b := Int.ediv_nonneg (by omega) (by omega)
          have hq1 : (a - 1) / b ≤ a - 1 := Int.ediv_le_self _ (by omega)
          rw [if_neg h4, if_neg h3, w64 (x := a - 1) (by omega) (by omega), Int.tdiv_eq_ediv_of_nonneg (by omega), w64 (x := (a - 1) / b) (by omega) (by omega), w64 (x := (a - 1) / b + 1) (by omega) (by omega), show a + b - 1 = (a - 1) + 1 * b by omega, Int.add_mul_ediv_right _ _ h3]
    · simp only [decide_eq_true h1, decide_eq_false h2, Option.bind_some, if_true, pendulumref01_Ceil.j0]
      rw [if_neg (by simp), chk_neg (fun h => h2 h.2.1)]
  · simp only [decide_eq_false h1, Option.bind_some, pendulumref01_Ceil.j0]
    rw [if_neg (by simp), if_pos trivial, chk_neg (fun h => h1 h.1)]
theorem TickSums : pendulumlaw01_TickSums.Pure := by
  intro a b _ _
  refine Ev.rounds ?_
  unfold pendulumlaw01_TickSums.f
  refine Ev.bind awake_ev ?_
  simp only [if_true, add_eq, mul_eq, Option.bind_some]
  refine Ev.bind (ceil_all a b) ?_
  refine Ev.bind (refadd_ev a b) ?_
  refine Ev.bind (refmul_ev a b) ?_
  refine Ev.bind (refceil_all a b) ?_
  simp only [BEq.rfl, if_true]
  exact Ev.now _

end Go.Proofs.Ytmfkhfnakjehkaa.Pure
