/- The sum of two lists is that of both, one behind the other, as far as nothing is over: for all lists. No condition. -/
import Derived.Test.YtmfkhfnakjehkaaWSized
import Derived.Test.YtmfkhfnakjehkaaPTickPartsx2
namespace Go.Proofs.Ytmfkhfnakjehkaa
theorem PrintWords.sized_ints {H : Type} {enc : TypeId × Value → H} {P : Program} {W : World} {base : Nat} {spare : Nat → Bool} {held : Bool} {t e : TypeId} {k : IntKind} {a : Option Addr} {len cap : Nat} {d : DataW H} {ps : List MemPlace} {ts : List TypeId} {ds : List (DataW H)} {j : Nat}
    (hsz : (DataW.weightsEach P ts ds).all (· ≤ reachBytes) = true) (ht : ts[j]? = some t) (hd : ds[j]? = some d) (hu : P.underlying t = some (.slice e)) (he : P.underlying e = some (.int k)) (hc : P.cellsOf e = 1) {B : Nat} (hB : P.bytesOf e = B)
    (h : DataW.Trod enc P W base spare held t (.slice a len cap) d ps) : len * B ≤ 140737488351232 := Go.Proofs.YtmfkhfnakjehkaaW.PrintWords.sized_ints hsz ht hd hu he hc hB h
end Go.Proofs.Ytmfkhfnakjehkaa
namespace Go.Proofs.Ytmfkhfnakjehkaa.Pure
open Go.RowKit Go.Proofs.Ytmfkhfnakjehkaa.PTickParts Go.Proofs.YtmfkhfnakjehkaaW.PrintWords Go.Proofs.YtmfkhfnakjehkaaW.PrintLast

theorem w64 {x : Int} (h0 : -9223372036854775808 ≤ x) (h1 : x ≤ 9223372036854775807) : wrap64 x = x := by unfold wrap64; omega
theorem wf64 {n : Int} (h : (Lit.int .i64 n).wf = true) : -9223372036854775808 ≤ n ∧ n ≤ 9223372036854775807 := by
  simp [Lit.wf, IntKind.min, IntKind.max, IntKind.signed, IntKind.bits] at h
  omega
theorem wfu8 {n : Int} (h : (Lit.int .u8 n).wf = true) : 0 ≤ n ∧ n ≤ 255 := by
  simp [Lit.wf, IntKind.min, IntKind.max, IntKind.signed, IntKind.bits] at h
  omega
theorem wfu16 {n : Int} (h : (Lit.int .u16 n).wf = true) : 0 ≤ n ∧ n ≤ 65535 := by
  simp [Lit.wf, IntKind.min, IntKind.max, IntKind.signed, IntKind.bits] at h
  omega
theorem wfu32 {n : Int} (h : (Lit.int .u32 n).wf = true) : 0 ≤ n ∧ n ≤ 4294967295 := by
  simp [Lit.wf, IntKind.min, IntKind.max, IntKind.signed, IntKind.bits] at h
  omega
theorem wfu64 {n : Int} (h : (Lit.int .u64 n).wf = true) : 0 ≤ n ∧ n ≤ 18446744073709551615 := by
  simp [Lit.wf, IntKind.min, IntKind.max, IntKind.signed, IntKind.bits] at h
  omega
theorem ite_true' {α : Type} {c : Prop} [Decidable c] (h : c) (a b : α) : (if c then a else b) = a := if_pos h
theorem ite_false' {α : Type} {c : Prop} [Decidable c] (h : ¬ c) (a b : α) : (if c then a else b) = b := if_neg h
theorem drop_cons {l r : List Int} {i : Nat} {x : Int} (h : l.drop i = x :: r) : i < l.length ∧ rd l (i : Int) = x ∧ l.drop (i + 1) = r := by
  have hl : i < l.length := by
    apply Classical.byContradiction; intro hn
    rw [List.drop_eq_nil_of_le (by omega)] at h; cases h
  rw [List.drop_eq_getElem_cons hl] at h
  injection h with h1 h2
  refine ⟨hl, ?_, h2⟩
  simp [rd, List.getD_eq_getElem?_getD, hl, h1]
theorem drop_nil {l : List Int} {i : Nat} (h : l.drop i = []) : l.length ≤ i := by
  simpa using h
theorem w1 {n : Nat} (h : n ≤ 1000000000000000) : wrap64 ((n : Int) + 1) = ((n + 1 : Nat) : Int) := by rw [w64 (by omega) (by omega)]; rfl
theorem w2 {n : Nat} (h : n ≤ 1000000000000000) : wrap64 (((n + 1 : Nat) : Int) - 1) = (n : Int) := by rw [w64 (by omega) (by omega)]; omega

/-- The quotient, rounded up. -/
def cl (a b : Int) : Int := (a + b - 1) / b
theorem cl_of (a b q r : Int) (hb : 0 < b) (h : a = r + q * b) (h0 : 0 ≤ r) (h1 : r < b) : cl a b = if r = 0 then q else q + 1 := by
  unfold cl
  by_cases e : r = 0
  · rw [if_pos e, show a + b - 1 = (b - 1) + q * b by omega, Int.add_mul_ediv_right _ _ (by omega), Int.ediv_eq_zero_of_lt (by omega) (by omega)]; omega
  · rw [if_neg e, show a + b - 1 = (r - 1) + (q + 1) * b by rw [Int.add_mul]; omega, Int.add_mul_ediv_right _ _ (by omega), Int.ediv_eq_zero_of_lt (by omega) (by omega)]; omega
theorem time_eq (a : Int) : tick_time.f a = some (decide (0 ≤ a ∧ a ≤ 4611686018427387904)) := by
  unfold tick_time.f
  by_cases h : a ≥ 0
  · rw [if_pos h]; congr 1; simp; omega
  · rw [if_neg h]; congr 1; simp; omega
theorem ceil_ev (a b : Int) (h0 : 0 ≤ a) (h1 : a ≤ 4611686018427387904) (h2 : 1 ≤ b) (h3 : b ≤ 4611686018427387904) : Ev (fun k => tick_Ceil.f k a b) (cl a b, true) := by
  have hb : (b == 0) = false := by simp; omega
  have hr0 := Int.emod_nonneg a (show b ≠ 0 by omega)
  have hr1 := Int.emod_lt_of_pos a (show 0 < b by omega)
  have hq0 : 0 ≤ a / b := Int.ediv_nonneg h0 (by omega)
  have hq1 : a / b ≤ a := Int.ediv_le_self _ h0
  have hqb : a = a % b + a / b * b := by have := Int.emod_add_mul_ediv a b; rw [Int.mul_comm] at this; omega
  have hqb0 : 0 ≤ a / b * b := Int.mul_nonneg hq0 (by omega)
  refine Ev.step (f := fun _ => some (cl a b, true)) (fun k => ?_) (Ev.now _)
  unfold tick_Ceil.f
  rw [time_eq, time_eq]
  have e1 : decide (0 ≤ a ∧ a ≤ 4611686018427387904) = true := by simp; omega
  have e2 : decide (0 ≤ b ∧ b ≤ 4611686018427387904) = true := by simp; omega
  simp only [e1, e2, Option.bind_some, if_true, tick_Ceil.j0, hb]
  rw [if_neg (by simp), if_neg (by omega), Int.tdiv_eq_ediv_of_nonneg h0, w64 (x := a / b) (by omega) (by omega), w64 (x := a / b * b) (by omega) (by omega), w64 (x := a / b + 1) (by omega) (by omega)]
  rw [cl_of a b (a / b) (a % b) (by omega) hqb hr0 hr1]
  by_cases e : a % b = 0
  · rw [if_pos e, if_neg (by omega)]
  · rw [if_neg e, if_pos (by omega)]

/-- Is a number a time? -/
def T (a : Int) : Prop := 0 ≤ a ∧ a ≤ 4611686018427387904
instance (a : Int) : Decidable (T a) := inferInstanceAs (Decidable (0 ≤ a ∧ a ≤ 4611686018427387904))
/-- A checked number: it is one, or it is over. -/
def chk (c : Prop) [Decidable c] (n : Int) : Int × Bool := if c then (n, true) else (0, false)
theorem chk_pos {c : Prop} [Decidable c] {n : Int} (h : c) : chk c n = (n, true) := by unfold chk; rw [if_pos h]
theorem chk_neg {c : Prop} [Decidable c] {n : Int} (h : ¬ c) : chk c n = (0, false) := by unfold chk; rw [if_neg h]
def addS (a b : Int) : Int × Bool := chk (T a ∧ T b ∧ a + b ≤ 4611686018427387904) (a + b)
theorem time_T (a : Int) : tick_time.f a = some (decide (T a)) := time_eq a
theorem add_eq (a b : Int) : tick_Add.f a b = some (addS a b) := by
  unfold tick_Add.f addS chk
  rw [time_T, time_T]
  by_cases h1 : T a
  · by_cases h2 : T b
    · simp only [decide_eq_true h1, decide_eq_true h2, Option.bind_some, if_true]
      have h1' := h1
      have h2' := h2
      unfold T at h1' h2'
      rw [w64 (x := 4611686018427387904 - b) (by omega) (by omega)]
      by_cases h3 : a + b ≤ 4611686018427387904
      · rw [if_neg (by omega), if_pos ⟨h1, h2, h3⟩, w64 (x := a + b) (by omega) (by omega)]
      · rw [if_pos (by omega), if_neg (fun h => h3 h.2.2)]
    · simp only [decide_eq_true h1, decide_eq_false h2, Option.bind_some, if_true]
      rw [if_neg (by simp), if_neg (fun h => h2 h.2.1)]
  · simp only [decide_eq_false h1, Option.bind_some]
    rw [if_neg (by simp), if_neg (fun h => h1 h.1)]
/-- The sum of all. -/
def su : List Int → Int
  | [] => 0
  | x :: r => x + su r
def sumS (n : Int) (l : List Int) : Int × Bool := chk ((∀ x ∈ l, T x) ∧ n + su l ≤ 4611686018427387904) (n + su l)
theorem su_nonneg : ∀ {l : List Int}, (∀ x ∈ l, T x) → 0 ≤ su l := by
  intro l
  induction l with
  | nil => intro _; simp [su]
  | cons x r ih =>
    intro h
    have h1 : T x := h x (List.mem_cons_self ..)
    have h2 := ih (fun y hy => h y (List.mem_cons_of_mem _ hy))
    unfold T at h1
    simp only [su]; omega
theorem sumS_cons_ok {n x : Int} {r : List Int} (hn : T n) (h : (addS n x).2 = true) : sumS n (x :: r) = sumS (addS n x).1 r ∧ T (addS n x).1 := by
  unfold addS at *
  by_cases c : T n ∧ T x ∧ n + x ≤ 4611686018427387904
  · rw [chk_pos c]
    have c1 := c.2.1
    have c0 := c.2.2
    have cn := hn
    unfold T at c1 cn
    refine ⟨?_, by unfold T; simp only; omega⟩
    unfold sumS
    have e : su (x :: r) = x + su r := rfl
    by_cases d : (∀ y ∈ r, T y) ∧ n + x + su r ≤ 4611686018427387904
    · rw [chk_pos d, chk_pos ⟨fun y hy => (List.mem_cons.1 hy).elim (fun e => e ▸ c.2.1) (d.1 y), by omega⟩, e, Int.add_assoc]
    · rw [chk_neg d, chk_neg (fun e2 => d ⟨fun y hy => e2.1 y (List.mem_cons_of_mem _ hy), by have := e2.2; omega⟩)]
  · rw [chk_neg c] at h; cases h
theorem sumS_cons_no {n x : Int} {r : List Int} (hn : T n) (h : (addS n x).2 = false) : sumS n (x :: r) = (0, false) := by
  unfold addS at h
  by_cases c : T n ∧ T x ∧ n + x ≤ 4611686018427387904
  · rw [chk_pos c] at h; cases h
  · unfold sumS
    rw [chk_neg]
    intro e
    have h1 : T x := e.1 x (List.mem_cons_self ..)
    have h2 := su_nonneg (fun y hy => e.1 y (List.mem_cons_of_mem _ hy))
    have h3 := e.2
    simp only [su] at h3
    exact c ⟨hn, h1, by omega⟩
theorem sumS_nil {n : Int} (hn : T n) : sumS n [] = (n, true) := by
  unfold T at hn
  unfold sumS; rw [chk_pos ⟨fun x hx => (by cases hx), by simp only [su]; omega⟩]; simp [su]
theorem sum_l0 (l : List Int) (hl : l.length ≤ 1000000000000) : ∀ (r : List Int) (i : Nat) (n : Int), l.drop i = r → T n → Ev (fun k => tick_Sum.l0 k n l (l.length : Int) (i : Int)) (sumS n r) := by
  intro r
  induction r with
  | nil =>
    intro i n h hn
    have := drop_nil h
    rw [sumS_nil hn]
    refine Ev.step (f := fun _ => some _) (fun k => ?_) (Ev.now _)
    simp only [tick_Sum.l0]
    rw [if_neg (by omega)]
  | cons x r ih =>
    intro i n h hn
    obtain ⟨hi, hx, hd⟩ := drop_cons h
    cases hb : (addS n x).2 with
    | true =>
      obtain ⟨e1, e2⟩ := sumS_cons_ok (r := r) hn hb
      rw [e1]
      refine Ev.step (fun k => ?_) (ih (i + 1) _ hd e2)
      simp only [tick_Sum.l0]
      rw [if_pos (by omega), if_pos (by omega), if_pos (by omega), hx, add_eq]
      simp only [Option.bind_some, hb, if_true]
      rw [w1 (n := i) (by omega)]
    | false =>
      rw [sumS_cons_no hn hb]
      refine Ev.step (f := fun _ => some _) (fun k => ?_) (Ev.now _)
      simp only [tick_Sum.l0]
      rw [if_pos (by omega), if_pos (by omega), if_pos (by omega), hx, add_eq]
      simp only [Option.bind_some, hb]
      rw [if_neg (by simp)]
theorem sum_ev (l : List Int) (hl : l.length ≤ 1000000000000) : Ev (fun k => tick_Sum.f k l) (sumS 0 l) := by
  unfold tick_Sum.f
  exact sum_l0 l hl l 0 0 rfl ⟨by omega, by omega⟩

theorem awake_ev : Ev (fun k => pendulumlaw01_awake.f k) true := Ev.of (k := 20) pendulumlaw01_awake.mono (by kernel_rfl)

theorem su_append (a b : List Int) : su (a ++ b) = su a + su b := by
  induction a with
  | nil => simp [su]
  | cons x r ih => simp only [List.cons_append, su, ih]; omega
theorem TickParts : pendulumlaw01_TickParts.Pure := by
  intro a b _ ha2 _ _ hb2 _
  refine Ev.rounds ?_
  unfold pendulumlaw01_TickParts.f
  refine Ev.bind awake_ev ?_
  simp only [if_true]
  have hout : Ev (fun k => pendulumlaw01_TickParts.j0 k a b true) true := by
    refine Ev.step (fun k => by simp only [pendulumlaw01_TickParts.j0]; rw [if_pos trivial]) ?_
    exact Ev.bind awake_ev (Ev.now _)
  by_cases h1 : (a.length : Int) > 500
  · simp only [if_pos h1]; exact hout
  · simp only [if_neg h1]
    by_cases h2 : (b.length : Int) > 500
    · rw [decide_eq_true h2]; exact hout
    · rw [decide_eq_false h2]
      refine Ev.step (f := fun k => ((tick_Sum.f k a).bind fun bt132 => ((tick_Sum.f k b).bind fun bt134 => ((tick_Sum.f k (a ++ b)).bind fun bt145 => ((tick_Add.f bt132.1 bt134.1).bind fun bt147 => (if bt132.2 = true then (if bt134.2 = true then (if (bt145.2 == bt147.2) = true then (some (bt145.1 == bt147.1)) else (some false)) else (if bt145.2 = true then (some false) else (some (bt145.1 == 0)))) else (if bt145.2 = true then (some false) else (some (bt145.1 == 0))))))))) (fun k => ?_) ?_
      · simp only [pendulumlaw01_TickParts.j0]
        rw [if_neg (by simp)]
        simp only [Option.bind_some, List.nil_append, List.length_nil]
        simp only [if_pos (show 0 + a.length < 17592186044416 by omega), if_pos (show a.length + b.length < 17592186044416 by omega)]
      · refine Ev.bind (sum_ev a (by omega)) ?_
        refine Ev.bind (sum_ev b (by omega)) ?_
        refine Ev.bind (sum_ev (a ++ b) (by rw [List.length_append]; omega)) ?_
        simp only [add_eq, Option.bind_some]
        have hall : (∀ x ∈ a ++ b, T x) ↔ (∀ x ∈ a, T x) ∧ ∀ x ∈ b, T x := by
          constructor
          · exact fun h => ⟨fun x hx => h x (List.mem_append_left _ hx), fun x hx => h x (List.mem_append_right _ hx)⟩
          · exact fun h x hx => (List.mem_append.1 hx).elim (h.1 x) (h.2 x)
        by_cases c1 : (∀ x ∈ a, T x) ∧ 0 + su a ≤ 4611686018427387904
        · have n1 := su_nonneg c1.1
          have e1 : sumS 0 a = (su a, true) := by unfold sumS; rw [chk_pos c1, Int.zero_add]
          by_cases c2 : (∀ x ∈ b, T x) ∧ 0 + su b ≤ 4611686018427387904
          · have n2 := su_nonneg c2.1
            have e2 : sumS 0 b = (su b, true) := by unfold sumS; rw [chk_pos c2, Int.zero_add]
            rw [e1, e2]
            have e3 : addS (su a) (su b) = sumS 0 (a ++ b) := by
              unfold addS sumS
              rw [su_append]
              by_cases c3 : su a + su b ≤ 4611686018427387904
              · rw [chk_pos ⟨⟨n1, by have := c1.2; omega⟩, ⟨n2, by have := c2.2; omega⟩, c3⟩, chk_pos ⟨hall.2 ⟨c1.1, c2.1⟩, by omega⟩, Int.zero_add]
              · rw [chk_neg (fun e => c3 e.2.2), chk_neg (fun e => c3 (by have := e.2; omega))]
            rw [e3]
            simp only [if_true, BEq.rfl]; exact Ev.now _
          · have e2 : sumS 0 b = (0, false) := by unfold sumS; rw [chk_neg c2]
            have e3 : sumS 0 (a ++ b) = (0, false) := by
              unfold sumS; rw [su_append, chk_neg (fun e => c2 ⟨(hall.1 e.1).2, by have := e.2; omega⟩)]
            rw [e1, e2, e3]
            simp only [if_true, if_neg (show ¬ (false = true) by simp), BEq.rfl]; exact Ev.now _
        · have e1 : sumS 0 a = (0, false) := by unfold sumS; rw [chk_neg c1]
          have e3 : sumS 0 (a ++ b) = (0, false) := by
            unfold sumS; rw [su_append, chk_neg (fun e => c1 ⟨(hall.1 e.1).1, by have := e.2; have := su_nonneg (hall.1 e.1).2; omega⟩)]
          rw [e1, e3]
          simp only [if_neg (show ¬ (false = true) by simp), BEq.rfl]; exact Ev.now _

end Go.Proofs.Ytmfkhfnakjehkaa.Pure
