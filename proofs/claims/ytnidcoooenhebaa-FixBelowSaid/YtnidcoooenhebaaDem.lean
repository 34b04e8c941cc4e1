/- What the layer demand computes of a right task: its parts, its whole demand, what a failing part costs more. -/
import Derived.Test.YtnidcoooenhebaaSet
import Derived.Test.YtnidcoooenhebaaPCa
namespace Go.Proofs.Ytnidcoooenhebaa.PS
open Go.RowKit Go.Proofs.Ytnidcoooenhebaa.PC Go.Proofs.YtnidcoooenhebaaW.PrintWords Go.Proofs.YtnidcoooenhebaaW.PrintLast
set_option linter.unusedVariables false
/-- The quotient, rounded up. -/
def cl (a b : Int) : Int := (a + b - 1) / b
theorem cl_of (a b q r : Int) (hb : 0 < b) (h : a = r + q * b) (h0 : 0 ≤ r) (h1 : r < b) : cl a b = if r = 0 then q else q + 1 := by
  unfold cl
  by_cases e : r = 0
  · rw [if_pos e, show a + b - 1 = (b - 1) + q * b by omega, Int.add_mul_ediv_right _ _ (by omega), Int.ediv_eq_zero_of_lt (by omega) (by omega)]; omega
  · rw [if_neg e, show a + b - 1 = (r - 1) + (q + 1) * b by rw [Int.add_mul]; omega, Int.add_mul_ediv_right _ _ (by omega), Int.ediv_eq_zero_of_lt (by omega) (by omega)]; omega
theorem cl_nonneg {a b : Int} (h0 : 0 ≤ a) (h2 : 1 ≤ b) : 0 ≤ cl a b := Int.ediv_nonneg (by omega) (by omega)
theorem cl_le {a b : Int} (h0 : 0 ≤ a) (h2 : 1 ≤ b) : cl a b ≤ a := by
  unfold cl
  by_cases h : a = 0
  · subst h; rw [Int.ediv_eq_zero_of_lt (by omega) (by omega)]; omega
  · have : (a + b - 1) / b < a + 1 := Int.ediv_lt_of_lt_mul (by omega) (by
      rw [Int.add_mul]
      have : a * 1 ≤ a * b := Int.mul_le_mul_of_nonneg_left (by omega) (by omega)
      omega)
    omega
theorem cl_one_le {a b : Int} (h0 : 1 ≤ a) (h2 : 1 ≤ b) : 1 ≤ cl a b := by unfold cl; exact Int.le_ediv_of_mul_le (by omega) (by omega)
theorem cl_mono {a c b : Int} (h : a ≤ c) (h2 : 1 ≤ b) : cl a b ≤ cl c b := Int.ediv_le_ediv (by omega) (by omega)
theorem time_eq (a : Int) : tick_time.f a = some (decide (0 ≤ a ∧ a ≤ 4611686018427387904)) := by
  unfold tick_time.f
  by_cases h : a ≥ 0
  · rw [if_pos h]; congr 1; simp; omega
  · rw [if_neg h]; congr 1; simp; omega
theorem ceil_ev (a b : Int) (h0 : 0 ≤ a) (h1 : a ≤ 4611686018427387904) (h2 : 1 ≤ b) (h3 : b ≤ 4611686018427387904) : Ev (fun k => tick_Ceil.f k a b) (cl a b, true) := by
  have hb : (b == 0) = false := by simp; omega
  have hr0 := Int.emod_nonneg a (show b ≠ 0 by omega)
  have hr1 := Int.emod_lt_of_pos a (show 0 < b by omega)
  have hq0 : 0 ≤ a / b := Int.ediv_nonneg h0 (by omega)
  have hq1 : a / b ≤ a := Int.ediv_le_self _ h0
  have hqb : a = a % b + a / b * b := by have := Int.emod_add_mul_ediv a b; rw [Int.mul_comm] at this; omega
  have hqb0 : 0 ≤ a / b * b := Int.mul_nonneg hq0 (by omega)
  refine Ev.step (f := fun _ => some (cl a b, true)) (fun k => ?_) (Ev.now _)
  unfold tick_Ceil.f
  rw [time_eq, time_eq]
  have e1 : decide (0 ≤ a ∧ a ≤ 4611686018427387904) = true := by simp; omega
  have e2 : decide (0 ≤ b ∧ b ≤ 4611686018427387904) = true := by simp; omega
  simp only [e1, e2, Option.bind_some, if_true, tick_Ceil.j0, hb]
  rw [if_neg (by simp), if_neg (by omega), Int.tdiv_eq_ediv_of_nonneg h0, w64 (x := a / b) (by omega) (by omega), w64 (x := a / b * b) (by omega) (by omega), w64 (x := a / b + 1) (by omega) (by omega)]
  rw [cl_of a b (a / b) (a % b) (by omega) hqb hr0 hr1]
  by_cases e : a % b = 0
  · rw [if_pos e, if_neg (by omega)]
  · rw [if_neg e, if_pos (by omega)]
/-- The sum of all. -/
def su : List Int → Int
  | [] => 0
  | x :: r => x + su r
theorem su_nonneg : ∀ {l : List Int}, (∀ x ∈ l, 0 ≤ x) → 0 ≤ su l := by
  intro l
  induction l with
  | nil => intro _; simp [su]
  | cons x r ih =>
    intro h
    have h1 := h x (List.mem_cons_self ..)
    have h2 := ih (fun y hy => h y (List.mem_cons_of_mem _ hy))
    simp only [su]; omega
theorem drop_cons {l r : List Int} {i : Nat} {x : Int} (h : l.drop i = x :: r) : i < l.length ∧ rd l (i : Int) = x ∧ l.drop (i + 1) = r := by
  have hl : i < l.length := by
    apply Classical.byContradiction; intro hn
    rw [List.drop_eq_nil_of_le (by omega)] at h; cases h
  rw [List.drop_eq_getElem_cons hl] at h
  injection h with h1 h2
  refine ⟨hl, ?_, h2⟩
  simp [rd, List.getD_eq_getElem?_getD, hl, h1]
theorem drop_nil {l : List Int} {i : Nat} (h : l.drop i = []) : l.length ≤ i := by simpa using h
/-- A part's length: the demand in cuts of sg, and co to each. -/
def psF (sg co : Int) : Nat → Int → List Int
  | 0, _ => []
  | n + 1, d => if d > 0 then (mn d sg + co) :: psF sg co n (d - sg) else []
theorem psF_fuel {sg co : Int} (hs : 1 ≤ sg) : ∀ (n m : Nat) (d : Int), d ≤ n → d ≤ m → psF sg co n d = psF sg co m d := by
  intro n
  induction n with
  | zero => intro m d h _; cases m with
    | zero => rfl
    | succ m => simp only [psF]; rw [if_neg (by omega)]
  | succ n ih =>
    intro m d h h2
    cases m with
    | zero => simp only [psF]; rw [if_neg (by omega)]
    | succ m =>
      simp only [psF]
      by_cases c : d > 0
      · rw [if_pos c, if_pos c, ih m (d - sg) (by omega) (by omega)]
      · rw [if_neg c, if_neg c]
def ps (sg co d : Int) : List Int := psF sg co d.toNat d
theorem ps_neg {sg co d : Int} (h : d ≤ 0) : ps sg co d = [] := by
  unfold ps
  rw [show d.toNat = 0 by omega]; rfl
theorem ps_pos {sg co d : Int} (hs : 1 ≤ sg) (h : 0 < d) : ps sg co d = (mn d sg + co) :: ps sg co (d - sg) := by
  unfold ps
  obtain ⟨n, hn⟩ : ∃ n, d.toNat = n + 1 := ⟨d.toNat - 1, by omega⟩
  rw [hn]
  simp only [psF]
  rw [if_pos h, psF_fuel hs n (d - sg).toNat (d - sg) (by omega) (by omega)]
theorem ps_len {sg co : Int} (hs : 1 ≤ sg) : ∀ (n : Nat) (d : Int), d ≤ n → 0 ≤ d → ((ps sg co d).length : Int) = cl d sg := by
  intro n
  induction n with
  | zero => intro d h h0; rw [ps_neg (by omega), show d = 0 by omega]; unfold cl; rw [Int.ediv_eq_zero_of_lt (by omega) (by omega)]; rfl
  | succ n ih =>
    intro d h h0
    by_cases c : 0 < d
    · rw [ps_pos hs c]
      by_cases e : 0 ≤ d - sg
      · have := ih (d - sg) (by omega) e
        simp only [List.length_cons, Int.natCast_add, this]
        unfold cl
        rw [show d + sg - 1 = (d - sg + sg - 1) + 1 * sg by omega, Int.add_mul_ediv_right _ _ (by omega)]; rfl
      · rw [ps_neg (by omega)]
        unfold cl
        rw [show d + sg - 1 = (d - 1) + 1 * sg by omega, Int.add_mul_ediv_right _ _ (by omega), Int.ediv_eq_zero_of_lt (by omega) (by omega)]; rfl
    · rw [ps_neg (by omega), show d = 0 by omega]; unfold cl; rw [Int.ediv_eq_zero_of_lt (by omega) (by omega)]; rfl
theorem ps_su {sg co : Int} (hs : 1 ≤ sg) : ∀ (n : Nat) (d : Int), d ≤ n → 0 ≤ d → su (ps sg co d) = d + ((ps sg co d).length : Int) * co := by
  intro n
  induction n with
  | zero => intro d h h0; rw [ps_neg (by omega), show d = 0 by omega]; simp [su]
  | succ n ih =>
    intro d h h0
    by_cases c : 0 < d
    · rw [ps_pos hs c]
      have hm : mn d sg = if d < sg then d else sg := by unfold mn; split <;> split <;> omega
      by_cases e : 0 ≤ d - sg
      · have := ih (d - sg) (by omega) e
        simp only [List.length_cons, Int.natCast_add, su, this, Int.add_mul]
        rw [hm, if_neg (by omega)]; omega
      · rw [ps_neg (by omega), hm, if_pos (by omega)]
        simp [su]
    · rw [ps_neg (by omega), show d = 0 by omega]; simp [su]
theorem ps_mem {sg co : Int} (hs : 1 ≤ sg) : ∀ (n : Nat) (d : Int), d ≤ n → ∀ x ∈ ps sg co d, 1 + co ≤ x ∧ x ≤ sg + co := by
  intro n
  induction n with
  | zero => intro d h x hx; rw [ps_neg (by omega)] at hx; cases hx
  | succ n ih =>
    intro d h x hx
    by_cases c : 0 < d
    · rw [ps_pos hs c] at hx
      rcases List.mem_cons.1 hx with rfl | hx
      · unfold mn; split <;> omega
      · exact ih (d - sg) (by omega) x hx
    · rw [ps_neg (by omega)] at hx; cases hx
/-- A task's parts of a demand. -/
def pt (t : S39) (d : Int) : List Int := if t.f9 = 1 then ps t.f5 t.f6 d else [d + t.f6]
/-- A task's whole demand. -/
def wh (t : S39) : Int := if t.f9 = 1 then t.f3 + cl t.f3 t.f5 * t.f6 else t.f3 + t.f6
/-- What a failing part costs more. -/
def ex (t : S39) : Int := if t.f9 = 1 then t.f5 + t.f6 else t.f4 + t.f6
section
variable {t : S39} (ok : OkT t)
theorem OkT.seg {t : S39} (ok : OkT t) (h : t.f9 = 1) : 1 ≤ t.f5 ∧ t.f5 ≤ t.f3 ∧ t.f4 = 0 := by
  unfold OkT at ok; omega
theorem OkT.alt {t : S39} (ok : OkT t) (h : ¬ t.f9 = 1) : 1 ≤ t.f4 ∧ t.f4 ≤ t.f2 ∧ t.f5 = 0 := by
  unfold OkT at ok; omega
theorem OkT.nums {t : S39} (ok : OkT t) : 1 ≤ t.f3 ∧ t.f3 ≤ t.f2 ∧ t.f2 ≤ t.f1 ∧ t.f1 ≤ 1048576 ∧ 0 ≤ t.f6 ∧ t.f6 ≤ 1000 := ok.1
include ok in
theorem extra_eq : demand_Extra.f t.f0 t.f1 t.f2 t.f3 t.f4 t.f5 t.f6 t.f7 t.f8 t.f9 t.f10 = some (ex t) := by
  have hn := ok.nums
  unfold demand_Extra.f ex
  by_cases c : t.f9 = 1
  · have := ok.seg c
    rw [if_pos c, if_pos c, w64 (by omega) (by omega)]
  · have := ok.alt c
    rw [if_neg c, if_neg c, w64 (by omega) (by omega)]
include ok in
theorem wh_bd : t.f3 ≤ wh t ∧ wh t ≤ 1049624576 := by
  have hn := ok.nums
  unfold wh
  split
  · rename_i c
    have hs := ok.seg c
    have h1 := cl_nonneg (a := t.f3) (b := t.f5) (by omega) hs.1
    have h2 := cl_le (a := t.f3) (b := t.f5) (by omega) hs.1
    have h3 : 0 ≤ cl t.f3 t.f5 * t.f6 := Int.mul_nonneg h1 (by omega)
    have h4 : cl t.f3 t.f5 * t.f6 ≤ 1048576 * 1000 := Int.mul_le_mul (by omega) (by omega) (by omega) (by omega)
    omega
  · omega
include ok in
theorem whole_ev : Ev (fun k => demand_Whole.f k t.f0 t.f1 t.f2 t.f3 t.f4 t.f5 t.f6 t.f7 t.f8 t.f9 t.f10) (wh t) := by
  have hn := ok.nums
  have hb := wh_bd ok
  unfold demand_Whole.f
  by_cases c : t.f9 = 1
  · have hs := ok.seg c
    unfold wh at hb ⊢
    simp only [if_pos c] at hb ⊢
    refine Ev.bind (ceil_ev t.f3 t.f5 (by omega) (by omega) hs.1 (by omega)) ?_
    rw [w64 (x := cl t.f3 t.f5 * t.f6) (by omega) (by omega), w64 (x := t.f3 + cl t.f3 t.f5 * t.f6) (by omega) (by omega)]
    exact Ev.now _
  · unfold wh
    simp only [if_neg c]
    rw [w64 (x := t.f3 + t.f6) (by omega) (by omega)]
    exact Ev.now _
include ok in
theorem pt_whole : su (pt t t.f3) = wh t := by
  have hn := ok.nums
  unfold pt wh
  by_cases c : t.f9 = 1
  · have hs := ok.seg c
    rw [if_pos c, if_pos c, ps_su hs.1 t.f3.toNat _ (by omega) (by omega), ps_len hs.1 t.f3.toNat _ (by omega) (by omega)]
  · rw [if_neg c, if_neg c]; simp [su]
include ok in
theorem pt_mem (d : Int) (h1 : 1 ≤ d) : ∀ x ∈ pt t d, 1 ≤ x ∧ (t.f9 = 1 → x ≤ ex t) := by
  have hn := ok.nums
  intro x hx
  unfold pt at hx
  by_cases c : t.f9 = 1
  · have hs := ok.seg c
    rw [if_pos c] at hx
    have := ps_mem hs.1 d.toNat d (by omega) x hx
    unfold ex
    rw [if_pos c]
    omega
  · rw [if_neg c] at hx
    obtain rfl := List.mem_singleton.1 hx
    omega
include ok in
theorem pt_mono {x y : Int} (h1 : 1 ≤ x) (h2 : x ≤ y) : su (pt t x) ≤ su (pt t y) ∧ (pt t x).length ≤ (pt t y).length ∧ x ≤ su (pt t x) ∧ 0 < (pt t x).length := by
  have hn := ok.nums
  unfold pt
  by_cases c : t.f9 = 1
  · have hs := ok.seg c
    rw [if_pos c, if_pos c, ps_su hs.1 x.toNat x (by omega) (by omega), ps_su hs.1 y.toNat y (by omega) (by omega)]
    have hx := ps_len (co := t.f6) hs.1 x.toNat x (by omega) (by omega)
    have hy := ps_len (co := t.f6) hs.1 y.toNat y (by omega) (by omega)
    have hm := cl_mono (b := t.f5) h2 hs.1
    have h0 := cl_one_le (a := x) (b := t.f5) (by omega) hs.1
    rw [hx, hy]
    have h3 : 0 ≤ cl x t.f5 * t.f6 := Int.mul_nonneg (by omega) (by omega)
    have h4 : cl x t.f5 * t.f6 ≤ cl y t.f5 * t.f6 := Int.mul_le_mul_of_nonneg_right hm (by omega)
    omega
  · rw [if_neg c, if_neg c]; simp [su]; omega
include ok in
theorem pt_len (d : Int) (h1 : 1 ≤ d) (h2 : d ≤ t.f3) : (pt t d).length ≤ 1048576 := by
  have hn := ok.nums
  unfold pt
  by_cases c : t.f9 = 1
  · have hs := ok.seg c
    rw [if_pos c]
    have hx := ps_len (co := t.f6) hs.1 d.toNat d (by omega) (by omega)
    have h2 := cl_le (a := d) (b := t.f5) (by omega) hs.1
    omega
  · rw [if_neg c]; simp
end
end Go.Proofs.Ytnidcoooenhebaa.PS
