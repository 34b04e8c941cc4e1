/- The least common multiple does not hang on order; with itself a number has itself; with a multiple of it that; a limit below it is too little: for all numbers of 32 and 16 bits. No condition. -/
import Derived.Test.YtmfkhfnakjehkaaPTickCommonsx2
namespace Go.Proofs.Ytmfkhfnakjehkaa.Pure
open Go.RowKit Go.Proofs.Ytmfkhfnakjehkaa.PTickCommons Go.Proofs.YtmfkhfnakjehkaaW.PrintWords Go.Proofs.YtmfkhfnakjehkaaW.PrintLast

theorem w64 {x : Int} (h0 : -9223372036854775808 ≤ x) (h1 : x ≤ 9223372036854775807) : wrap64 x = x := by unfold wrap64; omega
theorem wf64 {n : Int} (h : (Lit.int .i64 n).wf = true) : -9223372036854775808 ≤ n ∧ n ≤ 9223372036854775807 := by
  simp [Lit.wf, IntKind.min, IntKind.max, IntKind.signed, IntKind.bits] at h
  omega
theorem wfu8 {n : Int} (h : (Lit.int .u8 n).wf = true) : 0 ≤ n ∧ n ≤ 255 := by
  simp [Lit.wf, IntKind.min, IntKind.max, IntKind.signed, IntKind.bits] at h
  omega
theorem wfu16 {n : Int} (h : (Lit.int .u16 n).wf = true) : 0 ≤ n ∧ n ≤ 65535 := by
  simp [Lit.wf, IntKind.min, IntKind.max, IntKind.signed, IntKind.bits] at h
  omega
theorem wfu32 {n : Int} (h : (Lit.int .u32 n).wf = true) : 0 ≤ n ∧ n ≤ 4294967295 := by
  simp [Lit.wf, IntKind.min, IntKind.max, IntKind.signed, IntKind.bits] at h
  omega
theorem wfu64 {n : Int} (h : (Lit.int .u64 n).wf = true) : 0 ≤ n ∧ n ≤ 18446744073709551615 := by
  simp [Lit.wf, IntKind.min, IntKind.max, IntKind.signed, IntKind.bits] at h
  omega
theorem ite_true' {α : Type} {c : Prop} [Decidable c] (h : c) (a b : α) : (if c then a else b) = a := if_pos h
theorem ite_false' {α : Type} {c : Prop} [Decidable c] (h : ¬ c) (a b : α) : (if c then a else b) = b := if_neg h
theorem drop_cons {l r : List Int} {i : Nat} {x : Int} (h : l.drop i = x :: r) : i < l.length ∧ rd l (i : Int) = x ∧ l.drop (i + 1) = r := by
  have hl : i < l.length := by
    apply Classical.byContradiction; intro hn
    rw [List.drop_eq_nil_of_le (by omega)] at h; cases h
  rw [List.drop_eq_getElem_cons hl] at h
  injection h with h1 h2
  refine ⟨hl, ?_, h2⟩
  simp [rd, List.getD_eq_getElem?_getD, hl, h1]
theorem drop_nil {l : List Int} {i : Nat} (h : l.drop i = []) : l.length ≤ i := by
  simpa using h
theorem w1 {n : Nat} (h : n ≤ 1000000000000000) : wrap64 ((n : Int) + 1) = ((n + 1 : Nat) : Int) := by rw [w64 (by omega) (by omega)]; rfl
theorem w2 {n : Nat} (h : n ≤ 1000000000000000) : wrap64 (((n + 1 : Nat) : Int) - 1) = (n : Int) := by rw [w64 (by omega) (by omega)]; omega

/-- The quotient, rounded up. -/
def cl (a b : Int) : Int := (a + b - 1) / b
theorem cl_of (a b q r : Int) (hb : 0 < b) (h : a = r + q * b) (h0 : 0 ≤ r) (h1 : r < b) : cl a b = if r = 0 then q else q + 1 := by
  unfold cl
  by_cases e : r = 0
  · rw [if_pos e, show a + b - 1 = (b - 1) + q * b by omega, Int.add_mul_ediv_right _ _ (by omega), Int.ediv_eq_zero_of_lt (by omega) (by omega)]; omega
  · rw [if_neg e, show a + b - 1 = (r - 1) + (q + 1) * b by rw [Int.add_mul]; omega, Int.add_mul_ediv_right _ _ (by omega), Int.ediv_eq_zero_of_lt (by omega) (by omega)]; omega
theorem time_eq (a : Int) : tick_time.f a = some (decide (0 ≤ a ∧ a ≤ 4611686018427387904)) := by
  unfold tick_time.f
  by_cases h : a ≥ 0
  · rw [if_pos h]; congr 1; simp; omega
  · rw [if_neg h]; congr 1; simp; omega
theorem ceil_ev (a b : Int) (h0 : 0 ≤ a) (h1 : a ≤ 4611686018427387904) (h2 : 1 ≤ b) (h3 : b ≤ 4611686018427387904) : Ev (fun k => tick_Ceil.f k a b) (cl a b, true) := by
  have hb : (b == 0) = false := by simp; omega
  have hr0 := Int.emod_nonneg a (show b ≠ 0 by omega)
  have hr1 := Int.emod_lt_of_pos a (show 0 < b by omega)
  have hq0 : 0 ≤ a / b := Int.ediv_nonneg h0 (by omega)
  have hq1 : a / b ≤ a := Int.ediv_le_self _ h0
  have hqb : a = a % b + a / b * b := by have := Int.emod_add_mul_ediv a b; rw [Int.mul_comm] at this; omega
  have hqb0 : 0 ≤ a / b * b := Int.mul_nonneg hq0 (by omega)
  refine Ev.step (f := fun _ => some (cl a b, true)) (fun k => ?_) (Ev.now _)
  unfold tick_Ceil.f
  rw [time_eq, time_eq]
  have e1 : decide (0 ≤ a ∧ a ≤ 4611686018427387904) = true := by simp; omega
  have e2 : decide (0 ≤ b ∧ b ≤ 4611686018427387904) = true := by simp; omega
  simp only [e1, e2, Option.bind_some, if_true, tick_Ceil.j0, hb]
  rw [if_neg (by simp), if_neg (by omega), Int.tdiv_eq_ediv_of_nonneg h0, w64 (x := a / b) (by omega) (by omega), w64 (x := a / b * b) (by omega) (by omega), w64 (x := a / b + 1) (by omega) (by omega)]
  rw [cl_of a b (a / b) (a % b) (by omega) hqb hr0 hr1]
  by_cases e : a % b = 0
  · rw [if_pos e, if_neg (by omega)]
  · rw [if_neg e, if_pos (by omega)]

/-- Is a number a time? -/
def T (a : Int) : Prop := 0 ≤ a ∧ a ≤ 4611686018427387904
instance (a : Int) : Decidable (T a) := inferInstanceAs (Decidable (0 ≤ a ∧ a ≤ 4611686018427387904))
/-- A checked number: it is one, or it is over. -/
def chk (c : Prop) [Decidable c] (n : Int) : Int × Bool := if c then (n, true) else (0, false)
theorem chk_pos {c : Prop} [Decidable c] {n : Int} (h : c) : chk c n = (n, true) := by unfold chk; rw [if_pos h]
theorem chk_neg {c : Prop} [Decidable c] {n : Int} (h : ¬ c) : chk c n = (0, false) := by unfold chk; rw [if_neg h]
def addS (a b : Int) : Int × Bool := chk (T a ∧ T b ∧ a + b ≤ 4611686018427387904) (a + b)
theorem time_T (a : Int) : tick_time.f a = some (decide (T a)) := time_eq a
theorem add_eq (a b : Int) : tick_Add.f a b = some (addS a b) := by
  unfold tick_Add.f addS chk
  rw [time_T, time_T]
  by_cases h1 : T a
  · by_cases h2 : T b
    · simp only [decide_eq_true h1, decide_eq_true h2, Option.bind_some, if_true]
      have h1' := h1
      have h2' := h2
      unfold T at h1' h2'
      rw [w64 (x := 4611686018427387904 - b) (by omega) (by omega)]
      by_cases h3 : a + b ≤ 4611686018427387904
      · rw [if_neg (by omega), if_pos ⟨h1, h2, h3⟩, w64 (x := a + b) (by omega) (by omega)]
      · rw [if_pos (by omega), if_neg (fun h => h3 h.2.2)]
    · simp only [decide_eq_true h1, decide_eq_false h2, Option.bind_some, if_true]
      rw [if_neg (by simp), if_neg (fun h => h2 h.2.1)]
  · simp only [decide_eq_false h1, Option.bind_some]
    rw [if_neg (by simp), if_neg (fun h => h1 h.1)]
/-- The sum of all. -/
def su : List Int → Int
  | [] => 0
  | x :: r => x + su r
def sumS (n : Int) (l : List Int) : Int × Bool := chk ((∀ x ∈ l, T x) ∧ n + su l ≤ 4611686018427387904) (n + su l)
theorem su_nonneg : ∀ {l : List Int}, (∀ x ∈ l, T x) → 0 ≤ su l := by
  intro l
  induction l with
  | nil => intro _; simp [su]
  | cons x r ih =>
    intro h
    have h1 : T x := h x (List.mem_cons_self ..)
    have h2 := ih (fun y hy => h y (List.mem_cons_of_mem _ hy))
    unfold T at h1
    simp only [su]; omega
theorem sumS_cons_ok {n x : Int} {r : List Int} (hn : T n) (h : (addS n x).2 = true) : sumS n (x :: r) = sumS (addS n x).1 r ∧ T (addS n x).1 := by
  unfold addS at *
  by_cases c : T n ∧ T x ∧ n + x ≤ 4611686018427387904
  · rw [chk_pos c]
    have c1 := c.2.1
    have c0 := c.2.2
    have cn := hn
    unfold T at c1 cn
    refine ⟨?_, by unfold T; simp only; omega⟩
    unfold sumS
    have e : su (x :: r) = x + su r := rfl
    by_cases d : (∀ y ∈ r, T y) ∧ n + x + su r ≤ 4611686018427387904
    · rw [chk_pos d, chk_pos ⟨fun y hy => (List.mem_cons.1 hy).elim (fun e => e ▸ c.2.1) (d.1 y), by omega⟩, e, Int.add_assoc]
    · rw [chk_neg d, chk_neg (fun e2 => d ⟨fun y hy => e2.1 y (List.mem_cons_of_mem _ hy), by have := e2.2; omega⟩)]
  · rw [chk_neg c] at h; cases h
theorem sumS_cons_no {n x : Int} {r : List Int} (hn : T n) (h : (addS n x).2 = false) : sumS n (x :: r) = (0, false) := by
  unfold addS at h
  by_cases c : T n ∧ T x ∧ n + x ≤ 4611686018427387904
  · rw [chk_pos c] at h; cases h
  · unfold sumS
    rw [chk_neg]
    intro e
    have h1 : T x := e.1 x (List.mem_cons_self ..)
    have h2 := su_nonneg (fun y hy => e.1 y (List.mem_cons_of_mem _ hy))
    have h3 := e.2
    simp only [su] at h3
    exact c ⟨hn, h1, by omega⟩
theorem sumS_nil {n : Int} (hn : T n) : sumS n [] = (n, true) := by
  unfold T at hn
  unfold sumS; rw [chk_pos ⟨fun x hx => (by cases hx), by simp only [su]; omega⟩]; simp [su]
theorem sum_l0 (l : List Int) (hl : l.length ≤ 1000000000000) : ∀ (r : List Int) (i : Nat) (n : Int), l.drop i = r → T n → Ev (fun k => tick_Sum.l0 k n l (l.length : Int) (i : Int)) (sumS n r) := by
  intro r
  induction r with
  | nil =>
    intro i n h hn
    have := drop_nil h
    rw [sumS_nil hn]
    refine Ev.step (f := fun _ => some _) (fun k => ?_) (Ev.now _)
    simp only [tick_Sum.l0]
    rw [if_neg (by omega)]
  | cons x r ih =>
    intro i n h hn
    obtain ⟨hi, hx, hd⟩ := drop_cons h
    cases hb : (addS n x).2 with
    | true =>
      obtain ⟨e1, e2⟩ := sumS_cons_ok (r := r) hn hb
      rw [e1]
      refine Ev.step (fun k => ?_) (ih (i + 1) _ hd e2)
      simp only [tick_Sum.l0]
      rw [if_pos (by omega), if_pos (by omega), if_pos (by omega), hx, add_eq]
      simp only [Option.bind_some, hb, if_true]
      rw [w1 (n := i) (by omega)]
    | false =>
      rw [sumS_cons_no hn hb]
      refine Ev.step (f := fun _ => some _) (fun k => ?_) (Ev.now _)
      simp only [tick_Sum.l0]
      rw [if_pos (by omega), if_pos (by omega), if_pos (by omega), hx, add_eq]
      simp only [Option.bind_some, hb]
      rw [if_neg (by simp)]
theorem sum_ev (l : List Int) (hl : l.length ≤ 1000000000000) : Ev (fun k => tick_Sum.f k l) (sumS 0 l) := by
  unfold tick_Sum.f
  exact sum_l0 l hl l 0 0 rfl ⟨by omega, by omega⟩

def mulS (a b : Int) : Int × Bool := chk (T a ∧ T b ∧ a * b ≤ 4611686018427387904) (a * b)
theorem mul_eq (a b : Int) : tick_Mul.f a b = some (mulS a b) := by
  unfold tick_Mul.f mulS chk
  rw [time_T, time_T]
  by_cases h1 : T a
  · by_cases h2 : T b
    · simp only [decide_eq_true h1, decide_eq_true h2, Option.bind_some, if_true]
      have h1' := h1
      have h2' := h2
      unfold T at h1' h2'
      by_cases h0 : b > 0
      · have hq : Int.tdiv 4611686018427387904 b = 4611686018427387904 / b := Int.tdiv_eq_ediv_of_nonneg (by omega)
        have hq0 : 0 ≤ (4611686018427387904 : Int) / b := Int.ediv_nonneg (by omega) (by omega)
        have hq1 : (4611686018427387904 : Int) / b ≤ 4611686018427387904 := Int.ediv_le_self _ (by omega)
        have hiff : a ≤ 4611686018427387904 / b ↔ a * b ≤ 4611686018427387904 := Int.le_ediv_iff_mul_le h0
        rw [if_pos h0, if_neg (by omega), hq, w64 (x := 4611686018427387904 / b) (by omega) (by omega)]
        by_cases h3 : a * b ≤ 4611686018427387904
        · have h4 := hiff.2 h3
          have h5 : 0 ≤ a * b := Int.mul_nonneg h1'.1 h2'.1
          rw [if_neg (by omega), if_pos ⟨h1, h2, h3⟩, w64 (x := a * b) (by omega) (by omega)]
        · have h4 : ¬ a ≤ 4611686018427387904 / b := fun h => h3 (hiff.1 h)
          rw [if_pos (by omega), if_neg (fun h => h3 h.2.2)]
      · obtain rfl : b = 0 := by omega
        rw [if_neg h0, if_pos ⟨h1, h2, by simp⟩, w64 (x := a * 0) (by simp) (by simp)]
    · simp only [decide_eq_true h1, decide_eq_false h2, Option.bind_some, if_true]
      rw [if_neg (by simp), if_neg (fun h => h2 h.2.1)]
  · simp only [decide_eq_false h1, Option.bind_some]
    rw [if_neg (by simp), if_neg (fun h => h1 h.1)]

theorem gcd_ev : ∀ (b a : Nat), Ev (fun k => tick_gcd.l0 k (a : Int) (b : Int)) ((Nat.gcd a b : Nat) : Int) := by
  intro b
  induction b using Nat.strongRecOn with
  | _ b ih =>
    intro a
    by_cases h : b = 0
    · subst h
      refine Ev.step (f := fun _ => some _) (fun k => ?_) (Ev.now _)
      simp only [tick_gcd.l0]
      rw [if_neg (by simp)]; simp
    · have hlt : a % b < b := Nat.mod_lt _ (by omega)
      have e : Nat.gcd a b = Nat.gcd b (a % b) := by rw [Nat.gcd_comm a b, Nat.gcd_rec b a, Nat.gcd_comm]
      rw [e]
      refine Ev.step (fun k => ?_) (ih (a % b) hlt b)
      simp only [tick_gcd.l0]
      rw [if_pos (by omega), if_neg (by omega), Int.ofNat_tmod]
/-- The least common multiple of two numbers from 1 on, as far as it is no more than the limit. -/
def lcS (a b lim : Int) : Int × Bool := chk ((T a ∧ T b ∧ a ≠ 0 ∧ b ≠ 0) ∧ (Nat.lcm a.toNat b.toNat : Int) ≤ 4611686018427387904 ∧ (Nat.lcm a.toNat b.toNat : Int) ≤ lim) (Nat.lcm a.toNat b.toNat : Int)
theorem lcm_eq (a b : Nat) : a / Nat.gcd a b * b = Nat.lcm a b := by
  rw [Nat.lcm_eq_mul_div, Nat.mul_div_right_comm (Nat.gcd_dvd_left a b)]
theorem lcm_ev (a b lim : Int) : Ev (fun k => tick_Lcm.f k a b lim) (lcS a b lim) := by
  have hno : ¬ (T a ∧ T b ∧ a ≠ 0 ∧ b ≠ 0) → Ev (fun k => tick_Lcm.j0 k a b lim true) (lcS a b lim) := by
    intro h
    refine Ev.step (f := fun _ => some _) (fun k => ?_) (Ev.now _)
    simp only [tick_Lcm.j0]
    rw [if_pos trivial, show lcS a b lim = (0, false) from chk_neg (fun e => h e.1)]
  unfold tick_Lcm.f
  rw [time_T, time_T]
  by_cases h1 : T a
  · by_cases h2 : T b
    · simp only [decide_eq_true h1, decide_eq_true h2, Option.bind_some, if_true]
      by_cases h3 : a = 0
      · simp only [if_pos h3]; exact hno (fun e => e.2.2.1 h3)
      · simp only [if_neg h3]
        by_cases h4 : b = 0
        · rw [show (b == 0) = true by simpa using h4]; exact hno (fun e => e.2.2.2 h4)
        · rw [show (b == 0) = false by simpa using h4]
          obtain ⟨m, rfl⟩ : ∃ m : Nat, a = (m : Int) := ⟨a.toNat, by unfold T at h1; omega⟩
          obtain ⟨n, rfl⟩ : ∃ n : Nat, b = (n : Int) := ⟨b.toNat, by unfold T at h2; omega⟩
          have h1' := h1
          have h2' := h2
          unfold T at h1' h2'
          have hg : 0 < Nat.gcd m n := Nat.gcd_pos_of_pos_left _ (by omega)
          have hle : m / Nat.gcd m n ≤ m := Nat.div_le_self _ _
          have hq0 : (0 : Int) ≤ ((m / Nat.gcd m n : Nat) : Int) := Int.natCast_nonneg _
          refine Ev.step (f := fun k => (tick_gcd.f k (m : Int) (n : Int)).bind fun t112 => (if t112 = 0 then (none) else ((tick_Mul.f (wrap64 (Int.tdiv (m : Int) t112)) (n : Int)).bind fun bt113 => (if bt113.2 = true then (if bt113.1 > lim then (some (0, false)) else (some (bt113.1, true))) else (some (0, false)))))) (fun k => ?_) ?_
          · simp only [tick_Lcm.j0]
            rw [if_neg (by simp)]
          · refine Ev.bind (gcd_ev n m) ?_
            simp only [if_neg (show ¬ ((Nat.gcd m n : Nat) : Int) = 0 by omega)]
            rw [← Int.ofNat_tdiv, w64 (x := ((m / Nat.gcd m n : Nat) : Int)) (by omega) (by omega)]
            simp only [mul_eq, Option.bind_some]
            have e : ((m / Nat.gcd m n : Nat) : Int) * (n : Int) = ((Nat.lcm m n : Nat) : Int) := by rw [← Int.natCast_mul, lcm_eq]
            have ht : T ((m / Nat.gcd m n : Nat) : Int) := ⟨by omega, by omega⟩
            unfold mulS lcS
            rw [e]
            simp only [Int.toNat_natCast]
            by_cases c : ((Nat.lcm m n : Nat) : Int) ≤ 4611686018427387904
            · rw [chk_pos ⟨ht, h2, c⟩]
              simp only [if_true]
              by_cases d : ((Nat.lcm m n : Nat) : Int) > lim
              · rw [if_pos d, chk_neg (fun x => by have := x.2.2; omega)]; exact Ev.now _
              · rw [if_neg d, chk_pos ⟨⟨h1, h2, h3, h4⟩, c, by omega⟩]; exact Ev.now _
            · rw [chk_neg (fun x => c x.2.2), chk_neg (fun x => c x.2.1)]
              simp only [if_neg (show ¬ (false = true) by simp)]; exact Ev.now _
    · simp only [decide_eq_true h1, decide_eq_false h2, Option.bind_some, if_true, if_neg (show ¬ (false = true) by simp)]
      exact hno (fun e => h2 e.2.1)
  · simp only [decide_eq_false h1, Option.bind_some, if_neg (show ¬ (false = true) by simp)]
    exact hno (fun e => h1 e.1)

theorem awake_ev : Ev (fun k => pendulumlaw01_awake.f k) true := Ev.of (k := 20) pendulumlaw01_awake.mono (by kernel_rfl)

theorem TickCommons : pendulumlaw01_TickCommons.Pure := by
  intro a b ha hb
  have ha' := wfu32 ha
  have hb' := wfu16 hb
  refine Ev.rounds ?_
  unfold pendulumlaw01_TickCommons.f
  refine Ev.bind awake_ev ?_
  simp only [if_true]
  have hout : Ev (fun k => pendulumlaw01_TickCommons.j0 k a b true) true := by
    refine Ev.step (fun k => by simp only [pendulumlaw01_TickCommons.j0]; rw [if_pos trivial]) ?_
    exact Ev.bind awake_ev (Ev.now _)
  by_cases h0 : a = 0
  · simp only [if_pos h0]; exact hout
  · simp only [if_neg h0]
    by_cases h1 : b = 0
    · rw [show (b == 0) = true by simpa using h1]; exact hout
    · rw [show (b == 0) = false by simpa using h1]
      obtain ⟨m, rfl⟩ : ∃ m : Nat, a = (m : Int) := ⟨a.toNat, by omega⟩
      obtain ⟨n, rfl⟩ : ∃ n : Nat, b = (n : Int) := ⟨b.toNat, by omega⟩
      have hm : 0 < m := by omega
      have hn : 0 < n := by omega
      have hmn : m * n ≤ 4294967295 * 65535 := Nat.mul_le_mul (by omega) (by omega)
      have hl : Nat.lcm m n ≤ m * n := Nat.le_of_dvd (Nat.mul_pos hm hn) (Nat.lcm_dvd (Nat.dvd_mul_right _ _) (Nat.dvd_mul_left _ _))
      have hmul : (m : Int) * (n : Int) = ((m * n : Nat) : Int) := (Int.natCast_mul m n).symm
      have hp0 : 0 < m * n := Nat.mul_pos hm hn
      have tm : T (m : Int) := ⟨by omega, by omega⟩
      have tn : T (n : Int) := ⟨by omega, by omega⟩
      have tmn : T ((m * n : Nat) : Int) := ⟨by omega, by omega⟩
      have e1 : lcS (m : Int) (n : Int) 4611686018427387904 = (((Nat.lcm m n : Nat) : Int), true) := by
        unfold lcS; simp only [Int.toNat_natCast]; rw [chk_pos ⟨⟨tm, tn, by omega, by omega⟩, by omega, by omega⟩]
      have e2 : lcS (n : Int) (m : Int) 4611686018427387904 = (((Nat.lcm m n : Nat) : Int), true) := by
        unfold lcS; simp only [Int.toNat_natCast, Nat.lcm_comm n m]; rw [chk_pos ⟨⟨tn, tm, by omega, by omega⟩, by omega, by omega⟩]
      have e3 : lcS (m : Int) (m : Int) 4611686018427387904 = ((m : Int), true) := by
        unfold lcS; simp only [Int.toNat_natCast, Nat.lcm_self]; rw [chk_pos ⟨⟨tm, tm, by omega, by omega⟩, by omega, by omega⟩]
      have e4 : lcS (m : Int) ((m * n : Nat) : Int) 4611686018427387904 = (((m * n : Nat) : Int), true) := by
        unfold lcS; simp only [Int.toNat_natCast, Nat.lcm_eq_right_iff_dvd.2 (Nat.dvd_mul_right m n)]; rw [chk_pos ⟨⟨tm, tmn, by omega, by omega⟩, by omega, by omega⟩]
      have e5 : lcS (m : Int) (n : Int) (((Nat.lcm m n : Nat) : Int) - 1) = (0, false) := by
        unfold lcS; simp only [Int.toNat_natCast]; rw [chk_neg (fun x => by have := x.2.2; omega)]
      have d1 : Int.tmod ((Nat.lcm m n : Nat) : Int) (m : Int) = 0 := by rw [← Int.ofNat_tmod, Nat.mod_eq_zero_of_dvd (Nat.dvd_lcm_left m n)]; rfl
      have d2 : Int.tmod ((Nat.lcm m n : Nat) : Int) (n : Int) = 0 := by rw [← Int.ofNat_tmod, Nat.mod_eq_zero_of_dvd (Nat.dvd_lcm_right m n)]; rfl
      have hlp : 0 < Nat.lcm m n := Nat.lcm_pos hm hn
      refine Ev.step (f := fun k => ((tick_Lcm.f k (m : Int) (n : Int) 4611686018427387904).bind fun bt132 => ((tick_Lcm.f k (n : Int) (m : Int) 4611686018427387904).bind fun bt134 => ((tick_Lcm.f k (m : Int) (m : Int) 4611686018427387904).bind fun bt136 => ((tick_Lcm.f k (m : Int) ((m * n : Nat) : Int) 4611686018427387904).bind fun bt138 => ((tick_Lcm.f k (m : Int) (n : Int) (wrap64 (bt132.1 - 1))).bind fun bt140 => (if bt132.2 = true then (if bt134.2 = true then (if bt132.1 = bt134.1 then (if bt136.2 = true then (if bt136.1 = (m : Int) then (if bt138.2 = true then (if bt138.1 = ((m * n : Nat) : Int) then (if bt140.2 = true then (some false) else (if (m : Int) = 0 then (none) else (if (Int.tmod bt132.1 (m : Int)) = 0 then (if (n : Int) = 0 then (none) else (some ((Int.tmod bt132.1 (n : Int)) == 0))) else (some false)))) else (some false)) else (some false)) else (some false)) else (some false)) else (some false)) else (some false)) else (some false)))))))) (fun k => ?_) ?_
      · simp only [pendulumlaw01_TickCommons.j0]
        rw [if_neg (by simp), w64 (x := (m : Int)) (by omega) (by omega), w64 (x := (n : Int)) (by omega) (by omega), hmul, w64 (x := ((m * n : Nat) : Int)) (by omega) (by omega)]
      · refine Ev.bind (lcm_ev _ _ _) ?_
        refine Ev.bind (lcm_ev _ _ _) ?_
        refine Ev.bind (lcm_ev _ _ _) ?_
        refine Ev.bind (lcm_ev _ _ _) ?_
        rw [e1, e2, e3, e4]
        simp only []
        rw [w64 (x := ((Nat.lcm m n : Nat) : Int) - 1) (by omega) (by omega)]
        refine Ev.bind (lcm_ev _ _ _) ?_
        rw [e5]
        simp only [if_true, if_neg h0, if_neg h1, d1, d2, if_neg (show ¬ (false = true) by simp)]
        exact Ev.now _

end Go.Proofs.Ytmfkhfnakjehkaa.Pure
