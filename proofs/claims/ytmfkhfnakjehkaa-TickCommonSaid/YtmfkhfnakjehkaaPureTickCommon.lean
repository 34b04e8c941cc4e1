/- The least common multiple of two numbers under a limit, or that it is over, is what the document says: for all numbers. No condition. -/
import Derived.Test.YtmfkhfnakjehkaaPTickCommonx3
namespace Go.Proofs.Ytmfkhfnakjehkaa.Pure
open Go.RowKit Go.Proofs.Ytmfkhfnakjehkaa.PTickCommon Go.Proofs.YtmfkhfnakjehkaaW.PrintWords Go.Proofs.YtmfkhfnakjehkaaW.PrintLast

theorem w64 {x : Int} (h0 : -9223372036854775808 ≤ x) (h1 : x ≤ 9223372036854775807) : wrap64 x = x := by unfold wrap64; omega
theorem wf64 {n : Int} (h : (Lit.int .i64 n).wf = true) : -9223372036854775808 ≤ n ∧ n ≤ 9223372036854775807 := by
  simp [Lit.wf, IntKind.min, IntKind.max, IntKind.signed, IntKind.bits] at h
  omega
theorem wfu8 {n : Int} (h : (Lit.int .u8 n).wf = true) : 0 ≤ n ∧ n ≤ 255 := by
  simp [Lit.wf, IntKind.min, IntKind.max, IntKind.signed, IntKind.bits] at h
  omega
theorem wfu16 {n : Int} (h : (Lit.int .u16 n).wf = true) : 0 ≤ n ∧ n ≤ 65535 := by
  simp [Lit.wf, IntKind.min, IntKind.max, IntKind.signed, IntKind.bits] at h
  omega
theorem wfu32 {n : Int} (h : (Lit.int .u32 n).wf = true) : 0 ≤ n ∧ n ≤ 4294967295 := by
  simp [Lit.wf, IntKind.min, IntKind.max, IntKind.signed, IntKind.bits] at h
  omega
theorem wfu64 {n : Int} (h : (Lit.int .u64 n).wf = true) : 0 ≤ n ∧ n ≤ 18446744073709551615 := by
  simp [Lit.wf, IntKind.min, IntKind.max, IntKind.signed, IntKind.bits] at h
  omega
theorem ite_true' {α : Type} {c : Prop} [Decidable c] (h : c) (a b : α) : (if c then a else b) = a := if_pos h
theorem ite_false' {α : Type} {c : Prop} [Decidable c] (h : ¬ c) (a b : α) : (if c then a else b) = b := if_neg h
theorem drop_cons {l r : List Int} {i : Nat} {x : Int} (h : l.drop i = x :: r) : i < l.length ∧ rd l (i : Int) = x ∧ l.drop (i + 1) = r := by
  have hl : i < l.length := by
    apply Classical.byContradiction; intro hn
    rw [List.drop_eq_nil_of_le (by omega)] at h; cases h
  rw [List.drop_eq_getElem_cons hl] at h
  injection h with h1 h2
  refine ⟨hl, ?_, h2⟩
  simp [rd, List.getD_eq_getElem?_getD, hl, h1]
theorem drop_nil {l : List Int} {i : Nat} (h : l.drop i = []) : l.length ≤ i := by
  simpa using h
theorem w1 {n : Nat} (h : n ≤ 1000000000000000) : wrap64 ((n : Int) + 1) = ((n + 1 : Nat) : Int) := by rw [w64 (by omega) (by omega)]; rfl
theorem w2 {n : Nat} (h : n ≤ 1000000000000000) : wrap64 (((n + 1 : Nat) : Int) - 1) = (n : Int) := by rw [w64 (by omega) (by omega)]; omega

/-- The quotient, rounded up. -/
def cl (a b : Int) : Int := (a + b - 1) / b
theorem cl_of (a b q r : Int) (hb : 0 < b) (h : a = r + q * b) (h0 : 0 ≤ r) (h1 : r < b) : cl a b = if r = 0 then q else q + 1 := by
  unfold cl
  by_cases e : r = 0
  · rw [if_pos e, show a + b - 1 = (b - 1) + q * b by omega, Int.add_mul_ediv_right _ _ (by omega), Int.ediv_eq_zero_of_lt (by omega) (by omega)]; omega
  · rw [if_neg e, show a + b - 1 = (r - 1) + (q + 1) * b by rw [Int.add_mul]; omega, Int.add_mul_ediv_right _ _ (by omega), Int.ediv_eq_zero_of_lt (by omega) (by omega)]; omega
theorem time_eq (a : Int) : tick_time.f a = some (decide (0 ≤ a ∧ a ≤ 4611686018427387904)) := by
  unfold tick_time.f
  by_cases h : a ≥ 0
  · rw [if_pos h]; congr 1; simp; omega
  · rw [if_neg h]; congr 1; simp; omega
theorem ceil_ev (a b : Int) (h0 : 0 ≤ a) (h1 : a ≤ 4611686018427387904) (h2 : 1 ≤ b) (h3 : b ≤ 4611686018427387904) : Ev (fun k => tick_Ceil.f k a b) (cl a b, true) := by
  have hb : (b == 0) = false := by simp; omega
  have hr0 := Int.emod_nonneg a (show b ≠ 0 by omega)
  have hr1 := Int.emod_lt_of_pos a (show 0 < b by omega)
  have hq0 : 0 ≤ a / b := Int.ediv_nonneg h0 (by omega)
  have hq1 : a / b ≤ a := Int.ediv_le_self _ h0
  have hqb : a = a % b + a / b * b := by have := Int.emod_add_mul_ediv a b; rw [Int.mul_comm] at this; omega
  have hqb0 : 0 ≤ a / b * b := Int.mul_nonneg hq0 (by omega)
  refine Ev.step (f := fun _ => some (cl a b, true)) (fun k => ?_) (Ev.now _)
  unfold tick_Ceil.f
  rw [time_eq, time_eq]
  have e1 : decide (0 ≤ a ∧ a ≤ 4611686018427387904) = true := by simp; omega
  have e2 : decide (0 ≤ b ∧ b ≤ 4611686018427387904) = true := by simp; omega
  simp only [e1, e2, Option.bind_some, if_true, tick_Ceil.j0, hb]
  rw [if_neg (by simp), if_neg (by omega), Int.tdiv_eq_ediv_of_nonneg h0, w64 (x := a / b) (by omega) (by omega), w64 (x := a / b * b) (by omega) (by omega), w64 (x := a / b + 1) (by omega) (by omega)]
  rw [cl_of a b (a / b) (a % b) (by omega) hqb hr0 hr1]
  by_cases e : a % b = 0
  · rw [if_pos e, if_neg (by omega)]
  · rw [if_neg e, if_pos (by omega)]

/-- Is a number a time? -/
def T (a : Int) : Prop := 0 ≤ a ∧ a ≤ 4611686018427387904
instance (a : Int) : Decidable (T a) := inferInstanceAs (Decidable (0 ≤ a ∧ a ≤ 4611686018427387904))
/-- A checked number: it is one, or it is over. -/
def chk (c : Prop) [Decidable c] (n : Int) : Int × Bool := if c then (n, true) else (0, false)
theorem chk_pos {c : Prop} [Decidable c] {n : Int} (h : c) : chk c n = (n, true) := by unfold chk; rw [if_pos h]
theorem chk_neg {c : Prop} [Decidable c] {n : Int} (h : ¬ c) : chk c n = (0, false) := by unfold chk; rw [if_neg h]
def addS (a b : Int) : Int × Bool := chk (T a ∧ T b ∧ a + b ≤ 4611686018427387904) (a + b)
theorem time_T (a : Int) : tick_time.f a = some (decide (T a)) := time_eq a
theorem add_eq (a b : Int) : tick_Add.f a b = some (addS a b) := by
  unfold tick_Add.f addS chk
  rw [time_T, time_T]
  by_cases h1 : T a
  · by_cases h2 : T b
    · simp only [decide_eq_true h1, decide_eq_true h2, Option.bind_some, if_true]
      have h1' := h1
      have h2' := h2
      unfold T at h1' h2'
      rw [w64 (x := 4611686018427387904 - b) (by omega) (by omega)]
      by_cases h3 : a + b ≤ 4611686018427387904
      · rw [if_neg (by omega), if_pos ⟨h1, h2, h3⟩, w64 (x := a + b) (by omega) (by omega)]
      · rw [if_pos (by omega), if_neg (fun h => h3 h.2.2)]
    · simp only [decide_eq_true h1, decide_eq_false h2, Option.bind_some, if_true]
      rw [if_neg (by simp), if_neg (fun h => h2 h.2.1)]
  · simp only [decide_eq_false h1, Option.bind_some]
    rw [if_neg (by simp), if_neg (fun h => h1 h.1)]
/-- The sum of all. -/
def su : List Int → Int
  | [] => 0
  | x :: r => x + su r
def sumS (n : Int) (l : List Int) : Int × Bool := chk ((∀ x ∈ l, T x) ∧ n + su l ≤ 4611686018427387904) (n + su l)
theorem su_nonneg : ∀ {l : List Int}, (∀ x ∈ l, T x) → 0 ≤ su l := by
  intro l
  induction l with
  | nil => intro _; simp [su]
  | cons x r ih =>
    intro h
    have h1 : T x := h x (List.mem_cons_self ..)
    have h2 := ih (fun y hy => h y (List.mem_cons_of_mem _ hy))
    unfold T at h1
    simp only [su]; omega
theorem sumS_cons_ok {n x : Int} {r : List Int} (hn : T n) (h : (addS n x).2 = true) : sumS n (x :: r) = sumS (addS n x).1 r ∧ T (addS n x).1 := by
  unfold addS at *
  by_cases c : T n ∧ T x ∧ n + x ≤ 4611686018427387904
  · rw [chk_pos c]
    have c1 := c.2.1
    have c0 := c.2.2
    have cn := hn
    unfold T at c1 cn
    refine ⟨?_, by unfold T; simp only; omega⟩
    unfold sumS
    have e : su (x :: r) = x + su r := rfl
    by_cases d : (∀ y ∈ r, T y) ∧ n + x + su r ≤ 4611686018427387904
    · rw [chk_pos d, chk_pos ⟨fun y hy => (List.mem_cons.1 hy).elim (fun e => e ▸ c.2.1) (d.1 y), by omega⟩, e, Int.add_assoc]
    · rw [chk_neg d, chk_neg (fun e2 => d ⟨fun y hy => e2.1 y (List.mem_cons_of_mem _ hy), by have := e2.2; omega⟩)]
  · rw [chk_neg c] at h; cases h
theorem sumS_cons_no {n x : Int} {r : List Int} (hn : T n) (h : (addS n x).2 = false) : sumS n (x :: r) = (0, false) := by
  unfold addS at h
  by_cases c : T n ∧ T x ∧ n + x ≤ 4611686018427387904
  · rw [chk_pos c] at h; cases h
  · unfold sumS
    rw [chk_neg]
    intro e
    have h1 : T x := e.1 x (List.mem_cons_self ..)
    have h2 := su_nonneg (fun y hy => e.1 y (List.mem_cons_of_mem _ hy))
    have h3 := e.2
    simp only [su] at h3
    exact c ⟨hn, h1, by omega⟩
theorem sumS_nil {n : Int} (hn : T n) : sumS n [] = (n, true) := by
  unfold T at hn
  unfold sumS; rw [chk_pos ⟨fun x hx => (by cases hx), by simp only [su]; omega⟩]; simp [su]
theorem sum_l0 (l : List Int) (hl : l.length ≤ 1000000000000) : ∀ (r : List Int) (i : Nat) (n : Int), l.drop i = r → T n → Ev (fun k => tick_Sum.l0 k n l (l.length : Int) (i : Int)) (sumS n r) := by
  intro r
  induction r with
  | nil =>
    intro i n h hn
    have := drop_nil h
    rw [sumS_nil hn]
    refine Ev.step (f := fun _ => some _) (fun k => ?_) (Ev.now _)
    simp only [tick_Sum.l0]
    rw [if_neg (by omega)]
  | cons x r ih =>
    intro i n h hn
    obtain ⟨hi, hx, hd⟩ := drop_cons h
    cases hb : (addS n x).2 with
    | true =>
      obtain ⟨e1, e2⟩ := sumS_cons_ok (r := r) hn hb
      rw [e1]
      refine Ev.step (fun k => ?_) (ih (i + 1) _ hd e2)
      simp only [tick_Sum.l0]
      rw [if_pos (by omega), if_pos (by omega), if_pos (by omega), hx, add_eq]
      simp only [Option.bind_some, hb, if_true]
      rw [w1 (n := i) (by omega)]
    | false =>
      rw [sumS_cons_no hn hb]
      refine Ev.step (f := fun _ => some _) (fun k => ?_) (Ev.now _)
      simp only [tick_Sum.l0]
      rw [if_pos (by omega), if_pos (by omega), if_pos (by omega), hx, add_eq]
      simp only [Option.bind_some, hb]
      rw [if_neg (by simp)]
theorem sum_ev (l : List Int) (hl : l.length ≤ 1000000000000) : Ev (fun k => tick_Sum.f k l) (sumS 0 l) := by
  unfold tick_Sum.f
  exact sum_l0 l hl l 0 0 rfl ⟨by omega, by omega⟩

def mulS (a b : Int) : Int × Bool := chk (T a ∧ T b ∧ a * b ≤ 4611686018427387904) (a * b)
theorem mul_eq (a b : Int) : tick_Mul.f a b = some (mulS a b) := by
  unfold tick_Mul.f mulS chk
  rw [time_T, time_T]
  by_cases h1 : T a
  · by_cases h2 : T b
    · simp only [decide_eq_true h1, decide_eq_true h2, Option.bind_some, if_true]
      have h1' := h1
      have h2' := h2
      unfold T at h1' h2'
      by_cases h0 : b > 0
      · have hq : Int.tdiv 4611686018427387904 b = 4611686018427387904 / b := Int.tdiv_eq_ediv_of_nonneg (by omega)
        have hq0 : 0 ≤ (4611686018427387904 : Int) / b := Int.ediv_nonneg (by omega) (by omega)
        have hq1 : (4611686018427387904 : Int) / b ≤ 4611686018427387904 := Int.ediv_le_self _ (by omega)
        have hiff : a ≤ 4611686018427387904 / b ↔ a * b ≤ 4611686018427387904 := Int.le_ediv_iff_mul_le h0
        rw [if_pos h0, if_neg (by omega), hq, w64 (x := 4611686018427387904 / b) (by omega) (by omega)]
        by_cases h3 : a * b ≤ 4611686018427387904
        · have h4 := hiff.2 h3
          have h5 : 0 ≤ a * b := Int.mul_nonneg h1'.1 h2'.1
          rw [if_neg (by omega), if_pos ⟨h1, h2, h3⟩, w64 (x := a * b) (by omega) (by omega)]
        · have h4 : ¬ a ≤ 4611686018427387904 / b := fun h => h3 (hiff.1 h)
          rw [if_pos (by omega), if_neg (fun h => h3 h.2.2)]
      · obtain rfl : b = 0 := by omega
        rw [if_neg h0, if_pos ⟨h1, h2, by simp⟩, w64 (x := a * 0) (by simp) (by simp)]
    · simp only [decide_eq_true h1, decide_eq_false h2, Option.bind_some, if_true]
      rw [if_neg (by simp), if_neg (fun h => h2 h.2.1)]
  · simp only [decide_eq_false h1, Option.bind_some]
    rw [if_neg (by simp), if_neg (fun h => h1 h.1)]

theorem gcd_ev : ∀ (b a : Nat), Ev (fun k => tick_gcd.l0 k (a : Int) (b : Int)) ((Nat.gcd a b : Nat) : Int) := by
  intro b
  induction b using Nat.strongRecOn with
  | _ b ih =>
    intro a
    by_cases h : b = 0
    · subst h
      refine Ev.step (f := fun _ => some _) (fun k => ?_) (Ev.now _)
      simp only [tick_gcd.l0]
      rw [if_neg (by simp)]; simp
    · have hlt : a % b < b := Nat.mod_lt _ (by omega)
      have e : Nat.gcd a b = Nat.gcd b (a % b) := by rw [Nat.gcd_comm a b, Nat.gcd_rec b a, Nat.gcd_comm]
      rw [e]
      refine Ev.step (fun k => ?_) (ih (a % b) hlt b)
      simp only [tick_gcd.l0]
      rw [if_pos (by omega), if_neg (by omega), Int.ofNat_tmod]
/-- The least common multiple of two numbers from 1 on, as far as it is no more than the limit. -/
def lcS (a b lim : Int) : Int × Bool := chk ((T a ∧ T b ∧ a ≠ 0 ∧ b ≠ 0) ∧ (Nat.lcm a.toNat b.toNat : Int) ≤ 4611686018427387904 ∧ (Nat.lcm a.toNat b.toNat : Int) ≤ lim) (Nat.lcm a.toNat b.toNat : Int)
theorem lcm_eq (a b : Nat) : a / Nat.gcd a b * b = Nat.lcm a b := by
  rw [Nat.lcm_eq_mul_div, Nat.mul_div_right_comm (Nat.gcd_dvd_left a b)]
theorem lcm_ev (a b lim : Int) : Ev (fun k => tick_Lcm.f k a b lim) (lcS a b lim) := by
  have hno : ¬ (T a ∧ T b ∧ a ≠ 0 ∧ b ≠ 0) → Ev (fun k => tick_Lcm.j0 k a b lim true) (lcS a b lim) := by
    intro h
    refine Ev.step (f := fun _ => some _) (fun k => ?_) (Ev.now _)
    simp only [tick_Lcm.j0]
    rw [if_pos trivial, show lcS a b lim = (0, false) from chk_neg (fun e => h e.1)]
  unfold tick_Lcm.f
  rw [time_T, time_T]
  by_cases h1 : T a
  · by_cases h2 : T b
    · simp only [decide_eq_true h1, decide_eq_true h2, Option.bind_some, if_true]
      by_cases h3 : a = 0
      · simp only [if_pos h3]; exact hno (fun e => e.2.2.1 h3)
      · simp only [if_neg h3]
        by_cases h4 : b = 0
        · rw [show (b == 0) = true by simpa using h4]; exact hno (fun e => e.2.2.2 h4)
        · rw [show (b == 0) = false by simpa using h4]
          obtain ⟨m, rfl⟩ : ∃ m : Nat, a = (m : Int) := ⟨a.toNat, by unfold T at h1; omega⟩
          obtain ⟨n, rfl⟩ : ∃ n : Nat, b = (n : Int) := ⟨b.toNat, by unfold T at h2; omega⟩
          have h1' := h1
          have h2' := h2
          unfold T at h1' h2'
          have hg : 0 < Nat.gcd m n := Nat.gcd_pos_of_pos_left _ (by omega)
          have hle : m / Nat.gcd m n ≤ m := Nat.div_le_self _ _
          have hq0 : (0 : Int) ≤ ((m / Nat.gcd m n : Nat) : Int) := Int.natCast_nonneg _
          refine Ev.step (f := fun k => (tick_gcd.f k (m : Int) (n : Int)).bind fun t112 => (if t112 = 0 then (none) else ((tick_Mul.f (wrap64 (Int.tdiv (m : Int) t112)) (n : Int)).bind fun bt113 => (if bt113.2 = true then (if bt113.1 > lim then (some (0, false)) else (some (bt113.1, true))) else (some (0, false)))))) (fun k => ?_) ?_
          · simp only [tick_Lcm.j0]
            rw [if_neg (by simp)]
          · refine Ev.bind (gcd_ev n m) ?_
            simp only [if_neg (show ¬ ((Nat.gcd m n : Nat) : Int) = 0 by omega)]
            rw [← Int.ofNat_tdiv, w64 (x := ((m / Nat.gcd m n : Nat) : Int)) (by omega) (by omega)]
            simp only [mul_eq, Option.bind_some]
            have e : ((m / Nat.gcd m n : Nat) : Int) * (n : Int) = ((Nat.lcm m n : Nat) : Int) := by rw [← Int.natCast_mul, lcm_eq]
            have ht : T ((m / Nat.gcd m n : Nat) : Int) := ⟨by omega, by omega⟩
            unfold mulS lcS
            rw [e]
            simp only [Int.toNat_natCast]
            by_cases c : ((Nat.lcm m n : Nat) : Int) ≤ 4611686018427387904
            · rw [chk_pos ⟨ht, h2, c⟩]
              simp only [if_true]
              by_cases d : ((Nat.lcm m n : Nat) : Int) > lim
              · rw [if_pos d, chk_neg (fun x => by have := x.2.2; omega)]; exact Ev.now _
              · rw [if_neg d, chk_pos ⟨⟨h1, h2, h3, h4⟩, c, by omega⟩]; exact Ev.now _
            · rw [chk_neg (fun x => c x.2.2), chk_neg (fun x => c x.2.1)]
              simp only [if_neg (show ¬ (false = true) by simp)]; exact Ev.now _
    · simp only [decide_eq_true h1, decide_eq_false h2, Option.bind_some, if_true, if_neg (show ¬ (false = true) by simp)]
      exact hno (fun e => h2 e.2.1)
  · simp only [decide_eq_false h1, Option.bind_some, if_neg (show ¬ (false = true) by simp)]
    exact hno (fun e => h1 e.1)

theorem reftime_T (a : Int) : pendulumref01_Time.f a = some (decide (T a)) := time_eq a

theorem halves (h l x y : Int) : (l + h * 2147483648) * (y + x * 2147483648) = h * x * 4611686018427387904 + (h * y + l * x) * 2147483648 + l * y := by
  rw [Int.add_mul, Int.mul_add, Int.mul_add, show h * 2147483648 * (x * 2147483648) = h * x * 4611686018427387904 by rw [Int.mul_assoc, Int.mul_left_comm 2147483648, ← Int.mul_assoc, show (2147483648 : Int) * 2147483648 = 4611686018427387904 from rfl], show h * 2147483648 * y = h * y * 2147483648 by rw [Int.mul_right_comm], show l * (x * 2147483648) = l * x * 2147483648 by rw [Int.mul_assoc], Int.add_mul]
  omega
theorem refmul_ev (a b : Int) : Ev (fun k => pendulumref01_Mul.f k a b) (mulS a b) := by
  by_cases h1 : T a
  · by_cases h2 : T b
    · have h1' := h1
      have h2' := h2
      unfold T at h1' h2'
      have ea := Int.emod_add_mul_ediv a 2147483648
      have eb := Int.emod_add_mul_ediv b 2147483648
      have ha0 := Int.emod_nonneg a (show (2147483648 : Int) ≠ 0 by omega)
      have ha1 := Int.emod_lt_of_pos a (show (0 : Int) < 2147483648 by omega)
      have hb0 := Int.emod_nonneg b (show (2147483648 : Int) ≠ 0 by omega)
      have hb1 := Int.emod_lt_of_pos b (show (0 : Int) < 2147483648 by omega)
      obtain ⟨h, eh⟩ : ∃ h, h = a / 2147483648 := ⟨_, rfl⟩
      obtain ⟨x, ex⟩ : ∃ x, x = b / 2147483648 := ⟨_, rfl⟩
      obtain ⟨l, el⟩ : ∃ l, l = a % 2147483648 := ⟨_, rfl⟩
      obtain ⟨y, ey⟩ : ∃ y, y = b % 2147483648 := ⟨_, rfl⟩
      rw [← eh, ← el] at ea
      rw [← ex, ← ey] at eb
      rw [← el] at ha0 ha1
      rw [← ey] at hb0 hb1
      have hh0 : 0 ≤ h := by omega
      have hh1 : h ≤ 2147483648 := by omega
      have hx0 : 0 ≤ x := by omega
      have hx1 : x ≤ 2147483648 := by omega
      have ab : a * b = h * x * 4611686018427387904 + (h * y + l * x) * 2147483648 + l * y := by
        rw [← halves, Int.mul_comm h, Int.mul_comm x, ea, eb]
      have p1 : 0 ≤ h * x := Int.mul_nonneg hh0 hx0
      have p2 : 0 ≤ h * y := Int.mul_nonneg hh0 hb0
      have p3 : 0 ≤ l * x := Int.mul_nonneg ha0 hx0
      have p4 : 0 ≤ l * y := Int.mul_nonneg ha0 hb0
      have q1 : h * x ≤ 2147483648 * 2147483648 := Int.mul_le_mul hh1 hx1 hx0 (by omega)
      have q2 : h * y ≤ 2147483648 * 2147483647 := Int.mul_le_mul hh1 (by omega) hb0 (by omega)
      have q3 : l * x ≤ 2147483647 * 2147483648 := Int.mul_le_mul (by omega) hx1 hx0 (by omega)
      have q4 : l * y ≤ 2147483647 * 2147483647 := Int.mul_le_mul (by omega) (by omega) hb0 (by omega)
      have ta : Int.tdiv a 2147483648 = h := by rw [eh, Int.tdiv_eq_ediv_of_nonneg h1'.1]
      have tb : Int.tdiv b 2147483648 = x := by rw [ex, Int.tdiv_eq_ediv_of_nonneg h2'.1]
      have ma : Int.tmod a 2147483648 = l := by rw [el, Int.tmod_eq_emod_of_nonneg h1'.1]
      have mb : Int.tmod b 2147483648 = y := by rw [ey, Int.tmod_eq_emod_of_nonneg h2'.1]
      -- what the second part answers
      have hj1 : ∀ v, v = decide (h > 0 ∧ x > 0) → Ev (fun k => pendulumref01_Mul.j1 k h l x y v) (mulS a b) := by
        intro v hv
        by_cases c : h > 0 ∧ x > 0
        · have hhx : 1 ≤ h * x := Int.mul_pos c.1 c.2
          rw [hv, decide_eq_true c]
          refine Ev.step (f := fun _ => some (mulS a b)) (fun k => ?_) (Ev.now _)
          simp only [pendulumref01_Mul.j1]
          rw [if_pos trivial, w64 (x := h * x) (by omega) (by omega), w64 (x := h * y) (by omega) (by omega), w64 (x := l * x) (by omega) (by omega), w64 (x := h * y + l * x) (by omega) (by omega), w64 (x := l * y) (by omega) (by omega)]
          unfold mulS chk
          by_cases d1 : h * x > 1
          · rw [if_pos d1, if_neg (fun e => by have := e.2.2; omega)]
          · rw [if_neg d1]
            by_cases d2 : h * y + l * x > 0
            · rw [if_pos d2, if_neg (fun e => by have := e.2.2; omega)]
            · rw [if_neg d2]
              by_cases d3 : l * y > 0
              · rw [if_pos d3, if_neg (fun e => by have := e.2.2; omega)]
              · rw [if_neg d3, if_pos ⟨h1, h2, by omega⟩, show a * b = 4611686018427387904 by omega]
        · have hhx : h * x = 0 := by
            rcases (show h = 0 ∨ x = 0 by omega) with e | e
            · rw [e]; simp
            · rw [e]; simp
          rw [hv, decide_eq_false c]
          have hj2 : h * y + l * x ≤ 2147483648 → ∀ u, u = decide (h * y + l * x = 2147483648 ∧ l * y > 0) → Ev (fun k => pendulumref01_Mul.j2 k (h * y + l * x) (l * y) u) (mulS a b) := by
            intro hm u hu
            refine Ev.step (f := fun _ => some (mulS a b)) (fun k => ?_) (Ev.now _)
            simp only [pendulumref01_Mul.j2]
            unfold mulS chk
            by_cases d : h * y + l * x = 2147483648 ∧ l * y > 0
            · rw [hu, decide_eq_true d, if_pos rfl, if_neg (fun e => by have := e.2.2; omega)]
            · rw [hu, decide_eq_false d, if_neg (by simp), w64 (x := (h * y + l * x) * 2147483648) (by omega) (by omega), w64 (x := 4611686018427387904 - (h * y + l * x) * 2147483648) (by omega) (by omega)]
              by_cases d2 : l * y > 4611686018427387904 - (h * y + l * x) * 2147483648
              · rw [if_pos d2, if_neg (fun e => by have := e.2.2; omega)]
              · rw [if_neg d2, if_pos ⟨h1, h2, by omega⟩, w64 (x := (h * y + l * x) * 2147483648 + l * y) (by omega) (by omega), show a * b = (h * y + l * x) * 2147483648 + l * y by omega]
          by_cases d1 : h * y + l * x > 2147483648
          · refine Ev.step (f := fun _ => some (mulS a b)) (fun k => ?_) (Ev.now _)
            simp only [pendulumref01_Mul.j1]
            rw [if_neg (by simp), w64 (x := h * y) (by omega) (by omega), w64 (x := l * x) (by omega) (by omega), w64 (x := h * y + l * x) (by omega) (by omega), if_pos d1]
            unfold mulS chk
            rw [if_neg (fun e => by have := e.2.2; omega)]
          · refine Ev.step (fun k => ?_) (hj2 (by omega) _ rfl)
            simp only [pendulumref01_Mul.j1]
            rw [if_neg (by simp), w64 (x := h * y) (by omega) (by omega), w64 (x := l * x) (by omega) (by omega), w64 (x := h * y + l * x) (by omega) (by omega), w64 (x := l * y) (by omega) (by omega), if_neg d1]
            by_cases d2 : h * y + l * x = 2147483648
            · rw [if_pos d2]; congr 1; exact decide_eq_decide.2 ⟨fun e => ⟨d2, e⟩, fun e => e.2⟩
            · rw [if_neg d2]; congr 1; exact (decide_eq_false (fun e => d2 e.1)).symm
      unfold pendulumref01_Mul.f
      rw [reftime_T, reftime_T]
      simp only [decide_eq_true h1, decide_eq_true h2, Option.bind_some, if_true, Bool.not_true]
      refine Ev.step (fun k => ?_) (hj1 _ rfl)
      simp only [pendulumref01_Mul.j0]
      rw [if_neg (by simp), ta, tb, ma, mb, w64 (x := h) (by omega) (by omega), w64 (x := x) (by omega) (by omega)]
      by_cases d : h > 0
      · rw [if_pos d]; congr 1; exact decide_eq_decide.2 ⟨fun e => ⟨d, e⟩, fun e => e.2⟩
      · rw [if_neg d]; congr 1; exact (decide_eq_false (fun e => d e.1)).symm
    · refine Ev.step (f := fun _ => some (mulS a b)) (fun k => ?_) (Ev.now _)
      unfold pendulumref01_Mul.f mulS chk
      rw [reftime_T, reftime_T]
      simp only [decide_eq_true h1, decide_eq_false h2, Option.bind_some, if_true, Bool.not_false, pendulumref01_Mul.j0]
      rw [if_neg (fun h => h2 h.2.1)]
  · refine Ev.step (f := fun _ => some (mulS a b)) (fun k => ?_) (Ev.now _)
    unfold pendulumref01_Mul.f mulS chk
    rw [reftime_T, reftime_T]
    simp only [decide_eq_false h1, Option.bind_some, pendulumref01_Mul.j0]
    rw [if_neg (by simp), if_pos trivial, if_neg (fun h => h1 h.1)]

theorem awake_ev : Ev (fun k => pendulumlaw01_awake.f k) true := Ev.of (k := 20) pendulumlaw01_awake.mono (by kernel_rfl)

theorem refgcd_l0 : ∀ (s a b two : Nat), a + b ≤ s → 1 ≤ a → 1 ≤ b → 1 ≤ two → a * two ≤ 4611686018427387904 → b * two ≤ 4611686018427387904 → Ev (fun k => pendulumref01_Gcd.l0 k (a : Int) (b : Int) (two : Int)) ((Nat.gcd a b * two : Nat) : Int) := by
  intro s
  induction s with
  | zero => intro a b two h h1 _ _ _ _; omega
  | succ s ih =>
    intro a b two h ha hb ht hat hbt
    have hale : a ≤ a * two := Nat.le_mul_of_pos_right _ ht
    have hble : b ≤ b * two := Nat.le_mul_of_pos_right _ ht
    have ea : Int.tmod (a : Int) 2 = ((a % 2 : Nat) : Int) := (Int.ofNat_tmod a 2).symm
    have eb : Int.tmod (b : Int) 2 = ((b % 2 : Nat) : Int) := (Int.ofNat_tmod b 2).symm
    have da : Int.tdiv (a : Int) 2 = ((a / 2 : Nat) : Int) := (Int.ofNat_tdiv a 2).symm
    have db : Int.tdiv (b : Int) 2 = ((b / 2 : Nat) : Int) := (Int.ofNat_tdiv b 2).symm
    by_cases e : a = b
    · subst e
      rw [Nat.gcd_self]
      refine Ev.step (f := fun _ => some _) (fun k => ?_) (Ev.now _)
      simp only [pendulumref01_Gcd.l0]
      rw [if_pos trivial, ← Int.natCast_mul, w64 (by omega) (by omega)]
    · by_cases h1 : a % 2 = 0
      · by_cases h2 : b % 2 = 0
        · have e1 : a = 2 * (a / 2) := by omega
          have e2 : b = 2 * (b / 2) := by omega
          have eg : Nat.gcd a b * two = Nat.gcd (a / 2) (b / 2) * (two * 2) := by
            have : Nat.gcd a b = 2 * Nat.gcd (a / 2) (b / 2) := by rw [← Nat.gcd_mul_left, ← e1, ← e2]
            rw [this, Nat.mul_comm two 2, ← Nat.mul_assoc, Nat.mul_comm _ 2]
          have m1 : a / 2 * (two * 2) = a * two := by rw [Nat.mul_comm two 2, ← Nat.mul_assoc, Nat.mul_comm _ 2, ← e1]
          have m2 : b / 2 * (two * 2) = b * two := by rw [Nat.mul_comm two 2, ← Nat.mul_assoc, Nat.mul_comm _ 2, ← e2]
          have m3 : two * 2 ≤ a / 2 * (two * 2) := Nat.le_mul_of_pos_left _ (by omega)
          rw [eg]
          refine Ev.step (f := fun k => pendulumref01_Gcd.j1 k (a : Int) (b : Int) (two : Int) true) (fun k => ?_) (Ev.step (fun k => ?_) (ih (a / 2) (b / 2) (two * 2) (by omega) (by omega) (by omega) (by omega) (by omega) (by omega)))
          · simp only [pendulumref01_Gcd.l0]
            rw [if_neg (by omega), ea, eb, h1, h2, if_pos (by simp)]; rfl
          · simp only [pendulumref01_Gcd.j1]
            rw [if_pos trivial, da, db, w64 (x := ((a / 2 : Nat) : Int)) (by omega) (by omega), w64 (x := ((b / 2 : Nat) : Int)) (by omega) (by omega), w64 (x := (two : Int) * 2) (by omega) (by omega)]; rfl
        · have e1 : a = 2 * (a / 2) := by omega
          have hc : Nat.Coprime 2 b := by unfold Nat.Coprime; rw [Nat.gcd_rec, show b % 2 = 1 by omega]; rfl
          have eg : Nat.gcd a b = Nat.gcd (a / 2) b := by
            have := Nat.Coprime.gcd_mul_left_cancel (a / 2) hc
            rw [← e1] at this; exact this
          have m1 : a / 2 * two ≤ a * two := Nat.mul_le_mul_right _ (by omega)
          rw [eg]
          refine Ev.step (f := fun k => pendulumref01_Gcd.j1 k (a : Int) (b : Int) (two : Int) false) (fun k => ?_) (Ev.step (fun k => ?_) (ih (a / 2) b two (by omega) (by omega) hb ht (by omega) hbt))
          · simp only [pendulumref01_Gcd.l0]
            rw [if_neg (by omega), ea, eb, h1, if_pos (by simp), show ((b % 2 : Nat) : Int) = 1 by omega]; rfl
          · simp only [pendulumref01_Gcd.j1]
            rw [if_neg (by simp), ea, h1, if_pos (by simp), da, w64 (x := ((a / 2 : Nat) : Int)) (by omega) (by omega)]
      · have hl0 : Ev (fun k => pendulumref01_Gcd.j1 k (a : Int) (b : Int) (two : Int) false) ((Nat.gcd a b * two : Nat) : Int) → Ev (fun k => pendulumref01_Gcd.l0 k (a : Int) (b : Int) (two : Int)) ((Nat.gcd a b * two : Nat) : Int) := by
          intro hj
          refine Ev.step (fun k => ?_) hj
          simp only [pendulumref01_Gcd.l0]
          rw [if_neg (by omega), ea, if_neg (by omega)]
        refine hl0 ?_
        by_cases h2 : b % 2 = 0
        · have e2 : b = 2 * (b / 2) := by omega
          have hc : Nat.Coprime 2 a := by unfold Nat.Coprime; rw [Nat.gcd_rec, show a % 2 = 1 by omega]; rfl
          have eg : Nat.gcd a b = Nat.gcd a (b / 2) := by
            have := Nat.Coprime.gcd_mul_left_cancel_right (b / 2) hc
            rw [← e2] at this; exact this
          have m1 : b / 2 * two ≤ b * two := Nat.mul_le_mul_right _ (by omega)
          rw [eg]
          refine Ev.step (fun k => ?_) (ih a (b / 2) two (by omega) ha (by omega) ht hat (by omega))
          simp only [pendulumref01_Gcd.j1]
          rw [if_neg (by simp), ea, if_neg (by omega), eb, h2, if_pos (by simp), db, w64 (x := ((b / 2 : Nat) : Int)) (by omega) (by omega)]
        · by_cases h3 : a > b
          · have eg : Nat.gcd a b = Nat.gcd (a - b) b := (Nat.gcd_sub_self_left (by omega)).symm
            have m1 : (a - b) * two ≤ a * two := Nat.mul_le_mul_right _ (by omega)
            rw [eg]
            refine Ev.step (fun k => ?_) (ih (a - b) b two (by omega) (by omega) hb ht (by omega) hbt)
            simp only [pendulumref01_Gcd.j1]
            rw [if_neg (by simp), ea, if_neg (by omega), eb, if_neg (by omega), if_pos (by omega), w64 (x := (a : Int) - (b : Int)) (by omega) (by omega), show (a : Int) - (b : Int) = ((a - b : Nat) : Int) by omega]
          · have eg : Nat.gcd a b = Nat.gcd a (b - a) := by rw [Nat.gcd_comm a b, Nat.gcd_comm a (b - a)]; exact (Nat.gcd_sub_self_left (by omega)).symm
            have m1 : (b - a) * two ≤ b * two := Nat.mul_le_mul_right _ (by omega)
            rw [eg]
            refine Ev.step (fun k => ?_) (ih a (b - a) two (by omega) ha (by omega) ht hat (by omega))
            simp only [pendulumref01_Gcd.j1]
            rw [if_neg (by simp), ea, if_neg (by omega), eb, if_neg (by omega), if_neg (by omega), w64 (x := (b : Int) - (a : Int)) (by omega) (by omega), show (b : Int) - (a : Int) = ((b - a : Nat) : Int) by omega]
theorem TickCommon : pendulumlaw01_TickCommon.Pure := by
  intro a b lim _ _ _
  refine Ev.rounds ?_
  unfold pendulumlaw01_TickCommon.f
  refine Ev.bind awake_ev ?_
  simp only [if_true]
  refine Ev.bind (lcm_ev a b lim) ?_
  have hno : ¬ (T a ∧ T b ∧ a ≠ 0 ∧ b ≠ 0) → Ev (fun k => pendulumlaw01_TickCommon.j0 k a b lim (lcS a b lim).1 (lcS a b lim).2 true) true := by
    intro h
    rw [show lcS a b lim = (0, false) from chk_neg (fun e => h e.1)]
    refine Ev.step (f := fun _ => some true) (fun k => ?_) (Ev.now _)
    simp only [pendulumlaw01_TickCommon.j0]
    rw [if_pos trivial, if_neg (by simp)]; rfl
  rw [show pendulumref01_Time.f a = some (decide (T a)) from time_eq a, show pendulumref01_Time.f b = some (decide (T b)) from time_eq b]
  by_cases h1 : T a
  · by_cases h2 : T b
    · simp only [decide_eq_true h1, decide_eq_true h2, Option.bind_some, if_true]
      by_cases h3 : a = 0
      · simp only [if_pos h3]; exact hno (fun e => e.2.2.1 h3)
      · simp only [if_neg h3]
        by_cases h4 : b = 0
        · rw [show (b == 0) = true by simpa using h4]; exact hno (fun e => e.2.2.2 h4)
        · rw [show (b == 0) = false by simpa using h4]
          obtain ⟨m, rfl⟩ : ∃ m : Nat, a = (m : Int) := ⟨a.toNat, by unfold T at h1; omega⟩
          obtain ⟨n, rfl⟩ : ∃ n : Nat, b = (n : Int) := ⟨b.toNat, by unfold T at h2; omega⟩
          have h1' := h1
          have h2' := h2
          unfold T at h1' h2'
          have hg : 0 < Nat.gcd m n := Nat.gcd_pos_of_pos_left _ (by omega)
          have hle : m / Nat.gcd m n ≤ m := Nat.div_le_self _ _
          have hq0 : (0 : Int) ≤ ((m / Nat.gcd m n : Nat) : Int) := Int.natCast_nonneg _
          obtain ⟨p, hp⟩ : ∃ p, p = lcS (m : Int) (n : Int) lim := ⟨_, rfl⟩
          rw [← hp]
          refine Ev.step (f := fun k => (pendulumref01_Gcd.f k (m : Int) (n : Int)).bind fun t137 => (if t137 = 0 then (none) else ((pendulumref01_Mul.f k (wrap64 (Int.tdiv (m : Int) t137)) (n : Int)).bind fun bt138 => (if bt138.2 = true then (if bt138.1 > lim then (if p.2 = true then (some false) else (some (p.1 == 0))) else (if p.2 = true then (if p.1 = bt138.1 then (if (m : Int) = 0 then (none) else (if (Int.tmod p.1 (m : Int)) = 0 then (if (n : Int) = 0 then (none) else (some ((Int.tmod p.1 (n : Int)) == 0))) else (some false))) else (some false)) else (some false))) else (if p.2 = true then (some false) else (some (p.1 == 0))))))) (fun k => ?_) ?_
          · simp only [pendulumlaw01_TickCommon.j0]
            rw [if_neg (by simp)]
          · have hgcd := refgcd_l0 (m + n) m n 1 (by omega) (by omega) (by omega) (by omega) (by omega) (by omega)
            rw [Nat.mul_one] at hgcd
            refine Ev.bind hgcd ?_
            simp only [if_neg (show ¬ ((Nat.gcd m n : Nat) : Int) = 0 by omega)]
            rw [← Int.ofNat_tdiv, w64 (x := ((m / Nat.gcd m n : Nat) : Int)) (by omega) (by omega)]
            refine Ev.bind (refmul_ev _ _) ?_
            have e : ((m / Nat.gcd m n : Nat) : Int) * (n : Int) = ((Nat.lcm m n : Nat) : Int) := by rw [← Int.natCast_mul, lcm_eq]
            have ht : T ((m / Nat.gcd m n : Nat) : Int) := ⟨by omega, by omega⟩
            unfold lcS at hp
            unfold mulS
            rw [e]
            simp only [Int.toNat_natCast] at hp
            by_cases c : ((Nat.lcm m n : Nat) : Int) ≤ 4611686018427387904
            · rw [chk_pos ⟨ht, h2, c⟩]
              simp only [if_true]
              by_cases d : ((Nat.lcm m n : Nat) : Int) > lim
              · rw [chk_neg (fun x => by have := x.2.2; omega)] at hp
                subst hp
                simp only [if_pos d]; exact Ev.now _
              · rw [chk_pos ⟨⟨h1, h2, h3, h4⟩, c, by omega⟩] at hp
                subst hp
                have d1 : Int.tmod ((Nat.lcm m n : Nat) : Int) (m : Int) = 0 := by rw [← Int.ofNat_tmod, Nat.mod_eq_zero_of_dvd (Nat.dvd_lcm_left m n)]; rfl
                have d2 : Int.tmod ((Nat.lcm m n : Nat) : Int) (n : Int) = 0 := by rw [← Int.ofNat_tmod, Nat.mod_eq_zero_of_dvd (Nat.dvd_lcm_right m n)]; rfl
                simp only [if_neg d, if_true, if_neg h3, if_neg h4, d1, d2]; exact Ev.now _
            · rw [chk_neg (fun x => c x.2.1)] at hp
              subst hp
              rw [chk_neg (fun x => c x.2.2)]
              simp only [if_neg (show ¬ (false = true) by simp)]; exact Ev.now _
    · simp only [decide_eq_true h1, decide_eq_false h2, Option.bind_some, if_true, if_neg (show ¬ (false = true) by simp)]
      exact hno (fun e => h2 e.2.1)
  · simp only [decide_eq_false h1, Option.bind_some, if_neg (show ¬ (false = true) by simp)]
    exact hno (fun e => h1 e.1)

end Go.Proofs.Ytmfkhfnakjehkaa.Pure
