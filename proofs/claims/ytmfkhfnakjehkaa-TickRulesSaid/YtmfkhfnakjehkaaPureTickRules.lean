/- Sums and products do not hang on order; a quotient times its divisor is the number, or less than the divisor more; of small numbers nothing is over: for all numbers of 32 bits. No condition. -/
import Derived.Test.YtmfkhfnakjehkaaPTickRulesx2
namespace Go.Proofs.Ytmfkhfnakjehkaa.Pure
open Go.RowKit Go.Proofs.Ytmfkhfnakjehkaa.PTickRules Go.Proofs.YtmfkhfnakjehkaaW.PrintWords Go.Proofs.YtmfkhfnakjehkaaW.PrintLast

theorem w64 {x : Int} (h0 : -9223372036854775808 ≤ x) (h1 : x ≤ 9223372036854775807) : wrap64 x = x := by unfold wrap64; omega
theorem wf64 {n : Int} (h : (Lit.int .i64 n).wf = true) : -9223372036854775808 ≤ n ∧ n ≤ 9223372036854775807 := by
  simp [Lit.wf, IntKind.min, IntKind.max, IntKind.signed, IntKind.bits] at h
  omega
theorem wfu8 {n : Int} (h : (Lit.int .u8 n).wf = true) : 0 ≤ n ∧ n ≤ 255 := by
  simp [Lit.wf, IntKind.min, IntKind.max, IntKind.signed, IntKind.bits] at h
  omega
theorem wfu16 {n : Int} (h : (Lit.int .u16 n).wf = true) : 0 ≤ n ∧ n ≤ 65535 := by
  simp [Lit.wf, IntKind.min, IntKind.max, IntKind.signed, IntKind.bits] at h
  omega
theorem wfu32 {n : Int} (h : (Lit.int .u32 n).wf = true) : 0 ≤ n ∧ n ≤ 4294967295 := by
  simp [Lit.wf, IntKind.min, IntKind.max, IntKind.signed, IntKind.bits] at h
  omega
theorem wfu64 {n : Int} (h : (Lit.int .u64 n).wf = true) : 0 ≤ n ∧ n ≤ 18446744073709551615 := by
  simp [Lit.wf, IntKind.min, IntKind.max, IntKind.signed, IntKind.bits] at h
  omega
theorem ite_true' {α : Type} {c : Prop} [Decidable c] (h : c) (a b : α) : (if c then a else b) = a := if_pos h
theorem ite_false' {α : Type} {c : Prop} [Decidable c] (h : ¬ c) (a b : α) : (if c then a else b) = b := if_neg h
theorem drop_cons {l r : List Int} {i : Nat} {x : Int} (h : l.drop i = x :: r) : i < l.length ∧ rd l (i : Int) = x ∧ l.drop (i + 1) = r := by
  have hl : i < l.length := by
    apply Classical.byContradiction; intro hn
    rw [List.drop_eq_nil_of_le (by omega)] at h; cases h
  rw [List.drop_eq_getElem_cons hl] at h
  injection h with h1 h2
  refine ⟨hl, ?_, h2⟩
  simp [rd, List.getD_eq_getElem?_getD, hl, h1]
theorem drop_nil {l : List Int} {i : Nat} (h : l.drop i = []) : l.length ≤ i := by
  simpa using h
theorem w1 {n : Nat} (h : n ≤ 1000000000000000) : wrap64 ((n : Int) + 1) = ((n + 1 : Nat) : Int) := by rw [w64 (by omega) (by omega)]; rfl
theorem w2 {n : Nat} (h : n ≤ 1000000000000000) : wrap64 (((n + 1 : Nat) : Int) - 1) = (n : Int) := by rw [w64 (by omega) (by omega)]; omega

/-- The quotient, rounded up. -/
def cl (a b : Int) : Int := (a + b - 1) / b
theorem cl_of (a b q r : Int) (hb : 0 < b) (h : a = r + q * b) (h0 : 0 ≤ r) (h1 : r < b) : cl a b = if r = 0 then q else q + 1 := by
  unfold cl
  by_cases e : r = 0
  · rw [if_pos e, show a + b - 1 = (b - 1) + q * b by omega, Int.add_mul_ediv_right _ _ (by omega), Int.ediv_eq_zero_of_lt (by omega) (by omega)]; omega
  · rw [if_neg e, show a + b - 1 = (r - 1) + (q + 1) * b by rw [Int.add_mul]; omega, Int.add_mul_ediv_right _ _ (by omega), Int.ediv_eq_zero_of_lt (by omega) (by omega)]; omega
theorem time_eq (a : Int) : tick_time.f a = some (decide (0 ≤ a ∧ a ≤ 4611686018427387904)) := by
  unfold tick_time.f
  by_cases h : a ≥ 0
  · rw [if_pos h]; congr 1; simp; omega
  · rw [if_neg h]; congr 1; simp; omega
theorem ceil_ev (a b : Int) (h0 : 0 ≤ a) (h1 : a ≤ 4611686018427387904) (h2 : 1 ≤ b) (h3 : b ≤ 4611686018427387904) : Ev (fun k => tick_Ceil.f k a b) (cl a b, true) := by
  have hb : (b == 0) = false := by simp; omega
  have hr0 := Int.emod_nonneg a (show b ≠ 0 by omega)
  have hr1 := Int.emod_lt_of_pos a (show 0 < b by omega)
  have hq0 : 0 ≤ a / b := Int.ediv_nonneg h0 (by omega)
  have hq1 : a / b ≤ a := Int.ediv_le_self _ h0
  have hqb : a = a % b + a / b * b := by have := Int.emod_add_mul_ediv a b; rw [Int.mul_comm] at this; omega
  have hqb0 : 0 ≤ a / b * b := Int.mul_nonneg hq0 (by omega)
  refine Ev.step (f := fun _ => some (cl a b, true)) (fun k => ?_) (Ev.now _)
  unfold tick_Ceil.f
  rw [time_eq, time_eq]
  have e1 : decide (0 ≤ a ∧ a ≤ 4611686018427387904) = true := by simp; omega
  have e2 : decide (0 ≤ b ∧ b ≤ 4611686018427387904) = true := by simp; omega
  simp only [e1, e2, Option.bind_some, if_true, tick_Ceil.j0, hb]
  rw [if_neg (by simp), if_neg (by omega), Int.tdiv_eq_ediv_of_nonneg h0, w64 (x := a / b) (by omega) (by omega), w64 (x := a / b * b) (by omega) (by omega), w64 (x := a / b + 1) (by omega) (by omega)]
  rw [cl_of a b (a / b) (a % b) (by omega) hqb hr0 hr1]
  by_cases e : a % b = 0
  · rw [if_pos e, if_neg (by omega)]
  · rw [if_neg e, if_pos (by omega)]

/-- Is a number a time? -/
def T (a : Int) : Prop := 0 ≤ a ∧ a ≤ 4611686018427387904
instance (a : Int) : Decidable (T a) := inferInstanceAs (Decidable (0 ≤ a ∧ a ≤ 4611686018427387904))
/-- A checked number: it is one, or it is over. -/
def chk (c : Prop) [Decidable c] (n : Int) : Int × Bool := if c then (n, true) else (0, false)
theorem chk_pos {c : Prop} [Decidable c] {n : Int} (h : c) : chk c n = (n, true) := by unfold chk; rw [if_pos h]
theorem chk_neg {c : Prop} [Decidable c] {n : Int} (h : ¬ c) : chk c n = (0, false) := by unfold chk; rw [if_neg h]
def addS (a b : Int) : Int × Bool := chk (T a ∧ T b ∧ a + b ≤ 4611686018427387904) (a + b)
theorem time_T (a : Int) : tick_time.f a = some (decide (T a)) := time_eq a
theorem add_eq (a b : Int) : tick_Add.f a b = some (addS a b) := by
  unfold tick_Add.f addS chk
  rw [time_T, time_T]
  by_cases h1 : T a
  · by_cases h2 : T b
    · simp only [decide_eq_true h1, decide_eq_true h2, Option.bind_some, if_true]
      have h1' := h1
      have h2' := h2
      unfold T at h1' h2'
      rw [w64 (x := 4611686018427387904 - b) (by omega) (by omega)]
      by_cases h3 : a + b ≤ 4611686018427387904
      · rw [if_neg (by omega), if_pos ⟨h1, h2, h3⟩, w64 (x := a + b) (by omega) (by omega)]
      · rw [if_pos (by omega), if_neg (fun h => h3 h.2.2)]
    · simp only [decide_eq_true h1, decide_eq_false h2, Option.bind_some, if_true]
      rw [if_neg (by simp), if_neg (fun h => h2 h.2.1)]
  · simp only [decide_eq_false h1, Option.bind_some]
    rw [if_neg (by simp), if_neg (fun h => h1 h.1)]
/-- The sum of all. -/
def su : List Int → Int
  | [] => 0
  | x :: r => x + su r
def sumS (n : Int) (l : List Int) : Int × Bool := chk ((∀ x ∈ l, T x) ∧ n + su l ≤ 4611686018427387904) (n + su l)
theorem su_nonneg : ∀ {l : List Int}, (∀ x ∈ l, T x) → 0 ≤ su l := by
  intro l
  induction l with
  | nil => intro _; simp [su]
  | cons x r ih =>
    intro h
    have h1 : T x := h x (List.mem_cons_self ..)
    have h2 := ih (fun y hy => h y (List.mem_cons_of_mem _ hy))
    unfold T at h1
    simp only [su]; omega
theorem sumS_cons_ok {n x : Int} {r : List Int} (hn : T n) (h : (addS n x).2 = true) : sumS n (x :: r) = sumS (addS n x).1 r ∧ T (addS n x).1 := by
  unfold addS at *
  by_cases c : T n ∧ T x ∧ n + x ≤ 4611686018427387904
  · rw [chk_pos c]
    have c1 := c.2.1
    have c0 := c.2.2
    have cn := hn
    unfold T at c1 cn
    refine ⟨?_, by unfold T; simp only; omega⟩
    unfold sumS
    have e : su (x :: r) = x + su r := rfl
    by_cases d : (∀ y ∈ r, T y) ∧ n + x + su r ≤ 4611686018427387904
    · rw [chk_pos d, chk_pos ⟨fun y hy => (List.mem_cons.1 hy).elim (fun e => e ▸ c.2.1) (d.1 y), by omega⟩, e, Int.add_assoc]
    · rw [chk_neg d, chk_neg (fun e2 => d ⟨fun y hy => e2.1 y (List.mem_cons_of_mem _ hy), by have := e2.2; omega⟩)]
  · rw [chk_neg c] at h; cases h
theorem sumS_cons_no {n x : Int} {r : List Int} (hn : T n) (h : (addS n x).2 = false) : sumS n (x :: r) = (0, false) := by
  unfold addS at h
  by_cases c : T n ∧ T x ∧ n + x ≤ 4611686018427387904
  · rw [chk_pos c] at h; cases h
  · unfold sumS
    rw [chk_neg]
    intro e
    have h1 : T x := e.1 x (List.mem_cons_self ..)
    have h2 := su_nonneg (fun y hy => e.1 y (List.mem_cons_of_mem _ hy))
    have h3 := e.2
    simp only [su] at h3
    exact c ⟨hn, h1, by omega⟩
theorem sumS_nil {n : Int} (hn : T n) : sumS n [] = (n, true) := by
  unfold T at hn
  unfold sumS; rw [chk_pos ⟨fun x hx => (by cases hx), by simp only [su]; omega⟩]; simp [su]
theorem sum_l0 (l : List Int) (hl : l.length ≤ 1000000000000) : ∀ (r : List Int) (i : Nat) (n : Int), l.drop i = r → T n → Ev (fun k => tick_Sum.l0 k n l (l.length : Int) (i : Int)) (sumS n r) := by
  intro r
  induction r with
  | nil =>
    intro i n h hn
    have := drop_nil h
    rw [sumS_nil hn]
    refine Ev.step (f := fun _ => some _) (fun k => ?_) (Ev.now _)
    simp only [tick_Sum.l0]
    rw [if_neg (by omega)]
  | cons x r ih =>
    intro i n h hn
    obtain ⟨hi, hx, hd⟩ := drop_cons h
    cases hb : (addS n x).2 with
    | true =>
      obtain ⟨e1, e2⟩ := sumS_cons_ok (r := r) hn hb
      rw [e1]
      refine Ev.step (fun k => ?_) (ih (i + 1) _ hd e2)
      simp only [tick_Sum.l0]
      rw [if_pos (by omega), if_pos (by omega), if_pos (by omega), hx, add_eq]
      simp only [Option.bind_some, hb, if_true]
      rw [w1 (n := i) (by omega)]
    | false =>
      rw [sumS_cons_no hn hb]
      refine Ev.step (f := fun _ => some _) (fun k => ?_) (Ev.now _)
      simp only [tick_Sum.l0]
      rw [if_pos (by omega), if_pos (by omega), if_pos (by omega), hx, add_eq]
      simp only [Option.bind_some, hb]
      rw [if_neg (by simp)]
theorem sum_ev (l : List Int) (hl : l.length ≤ 1000000000000) : Ev (fun k => tick_Sum.f k l) (sumS 0 l) := by
  unfold tick_Sum.f
  exact sum_l0 l hl l 0 0 rfl ⟨by omega, by omega⟩

def mulS (a b : Int) : Int × Bool := chk (T a ∧ T b ∧ a * b ≤ 4611686018427387904) (a * b)
theorem mul_eq (a b : Int) : tick_Mul.f a b = some (mulS a b) := by
  unfold tick_Mul.f mulS chk
  rw [time_T, time_T]
  by_cases h1 : T a
  · by_cases h2 : T b
    · simp only [decide_eq_true h1, decide_eq_true h2, Option.bind_some, if_true]
      have h1' := h1
      have h2' := h2
      unfold T at h1' h2'
      by_cases h0 : b > 0
      · have hq : Int.tdiv 4611686018427387904 b = 4611686018427387904 / b := Int.tdiv_eq_ediv_of_nonneg (by omega)
        have hq0 : 0 ≤ (4611686018427387904 : Int) / b := Int.ediv_nonneg (by omega) (by omega)
        have hq1 : (4611686018427387904 : Int) / b ≤ 4611686018427387904 := Int.ediv_le_self _ (by omega)
        have hiff : a ≤ 4611686018427387904 / b ↔ a * b ≤ 4611686018427387904 := Int.le_ediv_iff_mul_le h0
        rw [if_pos h0, if_neg (by omega), hq, w64 (x := 4611686018427387904 / b) (by omega) (by omega)]
        by_cases h3 : a * b ≤ 4611686018427387904
        · have h4 := hiff.2 h3
          have h5 : 0 ≤ a * b := Int.mul_nonneg h1'.1 h2'.1
          rw [if_neg (by omega), if_pos ⟨h1, h2, h3⟩, w64 (x := a * b) (by omega) (by omega)]
        · have h4 : ¬ a ≤ 4611686018427387904 / b := fun h => h3 (hiff.1 h)
          rw [if_pos (by omega), if_neg (fun h => h3 h.2.2)]
      · obtain rfl : b = 0 := by omega
        rw [if_neg h0, if_pos ⟨h1, h2, by simp⟩, w64 (x := a * 0) (by simp) (by simp)]
    · simp only [decide_eq_true h1, decide_eq_false h2, Option.bind_some, if_true]
      rw [if_neg (by simp), if_neg (fun h => h2 h.2.1)]
  · simp only [decide_eq_false h1, Option.bind_some]
    rw [if_neg (by simp), if_neg (fun h => h1 h.1)]

theorem awake_ev : Ev (fun k => pendulumlaw01_awake.f k) true := Ev.of (k := 20) pendulumlaw01_awake.mono (by kernel_rfl)

theorem TickRules : pendulumlaw01_TickRules.Pure := by
  intro a b c ha hb hc
  have ha' := wfu32 ha
  have hb' := wfu32 hb
  have hc' := wfu32 hc
  refine Ev.rounds ?_
  unfold pendulumlaw01_TickRules.f
  refine Ev.bind awake_ev ?_
  simp only [if_true, add_eq, mul_eq, Option.bind_some]
  have hy0 : 0 ≤ Int.tmod b 1073741824 := by rw [Int.tmod_eq_emod_of_nonneg (by omega)]; omega
  have hy1 : Int.tmod b 1073741824 < 1073741824 := by rw [Int.tmod_eq_emod_of_nonneg (by omega)]; omega
  rw [w64 (x := a) (by omega) (by omega), w64 (x := Int.tmod b 1073741824) (by omega) (by omega)]
  generalize Int.tmod b 1073741824 = y at *
  have hm0 : 0 ≤ a * y := Int.mul_nonneg (by omega) hy0
  have hm1 : a * y ≤ 4294967295 * 1073741823 := Int.mul_le_mul (by omega) (by omega) hy0 (by omega)
  have ta : T a := ⟨by omega, by omega⟩
  have ty : T y := ⟨by omega, by omega⟩
  have e1 : mulS a y = (a * y, true) := chk_pos ⟨ta, ty, by omega⟩
  have e2 : mulS y a = (a * y, true) := by rw [← Int.mul_comm y a]; exact chk_pos ⟨ty, ta, by rw [Int.mul_comm]; omega⟩
  have e3 : addS a y = (a + y, true) := chk_pos ⟨ta, ty, by omega⟩
  have e4 : addS y a = (a + y, true) := by rw [← Int.add_comm y a]; exact chk_pos ⟨ty, ta, by omega⟩
  rw [e1, e2, e3, e4, w64 (x := a * y) (by omega) (by omega), w64 (x := a + y) (by omega) (by omega)]
  simp only [if_true, bne_self_eq_false]
  by_cases h0 : c = 0
  · have h5 : Ev (fun k => tick_Ceil.f k a 0) (0, false) := by
      refine Ev.step (f := fun _ => some (0, false)) (fun k => ?_) (Ev.now _)
      unfold tick_Ceil.f
      rw [time_T, time_T, decide_eq_true ta, decide_eq_true (show T 0 from ⟨by omega, by omega⟩)]
      simp only [Option.bind_some, if_true, tick_Ceil.j0, BEq.rfl]
    refine Ev.step (f := fun k => (tick_Ceil.f k a 0).bind fun bt139 => (if bt139.2 = true then (some false) else (some (bt139.1 == 0)))) (fun k => ?_) ?_
    · simp only [pendulumlaw01_TickRules.j0]
      rw [if_neg (by simp), w64 (x := c) (by omega) (by omega), h0]
      simp only [if_true]
    · refine Ev.bind h5 ?_
      simp only [if_neg (show ¬ (false = true) by simp), BEq.rfl]
      exact Ev.now _
  · refine Ev.step (f := fun k => (tick_Ceil.f k a c).bind fun bt139 => (if c = 0 then (if bt139.2 = true then (some false) else (some (bt139.1 == 0))) else (if bt139.2 = true then (if (wrap64 (bt139.1 * c)) ≥ a then (some (decide ((wrap64 ((wrap64 (bt139.1 * c)) - a)) < c))) else (some false)) else (some false)))) (fun k => ?_) ?_
    · simp only [pendulumlaw01_TickRules.j0]
      rw [if_neg (by simp), w64 (x := c) (by omega) (by omega)]
    · refine Ev.bind (ceil_ev a c (by omega) (by omega) (by omega) (by omega)) ?_
      have hr0 := Int.emod_nonneg a (show c ≠ 0 by omega)
      have hr1 := Int.emod_lt_of_pos a (show 0 < c by omega)
      have hqb : a = a % c + a / c * c := by have := Int.emod_add_mul_ediv a c; rw [Int.mul_comm] at this; omega
      have hcl := cl_of a c (a / c) (a % c) (by omega) hqb hr0 hr1
      have hb1 : a ≤ cl a c * c ∧ cl a c * c - a < c := by
        rw [hcl]
        split
        · omega
        · rw [Int.add_mul]; omega
      simp only [if_neg h0, if_true]
      rw [w64 (x := cl a c * c) (by omega) (by omega), w64 (x := cl a c * c - a) (by omega) (by omega), if_pos hb1.1, decide_eq_true hb1.2]
      exact Ev.now _

end Go.Proofs.Ytmfkhfnakjehkaa.Pure
