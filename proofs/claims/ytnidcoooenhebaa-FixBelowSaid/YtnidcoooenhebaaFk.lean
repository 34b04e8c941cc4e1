/- The numbers of seat 19: products, quotients, whole demands, bursts. -/
import Derived.Test.YtnidcoooenhebaaFb
import Derived.Test.YtnidcoooenhebaaPCk
import Derived.Test.YtnidcoooenhebaaPCx2
namespace Go.Proofs.Ytnidcoooenhebaa.PS
open Go.RowKit Go.Proofs.Ytnidcoooenhebaa.PC Go.Proofs.YtnidcoooenhebaaW.PrintWords Go.Proofs.YtnidcoooenhebaaW.PrintLast Go.Proofs.YtnidcoooenhebaaW.PrintMore
attribute [local go_sem] max2_int min2_int max_two min_two max_three min_three max_four min_four   -- for this text's walks alone
set_option linter.unusedVariables false
set_option linter.unusedSimpArgs false
theorem drawn_below {w w' : World} (h : Drawn0 w w') : Below w.heap.size w w' := by
  obtain ⟨n, rfl⟩ := h
  exact pw_below_drewN (Below.refl _ _) n
theorem mul_eq (a b : Int) (ha : 0 ≤ a) (ha2 : a ≤ 4611686018427387904) (hb : 0 ≤ b) (hb2 : b ≤ 4611686018427387904) (hab : a * b ≤ 4611686018427387904) : tick_Mul.f a b = some (a * b, true) := by
  unfold tick_Mul.f
  rw [time_eq, time_eq]
  simp only [decide_eq_true (show 0 ≤ a ∧ a ≤ 4611686018427387904 from ⟨ha, ha2⟩), decide_eq_true (show 0 ≤ b ∧ b ≤ 4611686018427387904 from ⟨hb, hb2⟩), Option.bind_some, if_true]
  have h5 : 0 ≤ a * b := Int.mul_nonneg ha hb
  by_cases h0 : b > 0
  · have hq : Int.tdiv 4611686018427387904 b = 4611686018427387904 / b := Int.tdiv_eq_ediv_of_nonneg (by omega)
    have hq0 : 0 ≤ (4611686018427387904 : Int) / b := Int.ediv_nonneg (by omega) (by omega)
    have hq1 : (4611686018427387904 : Int) / b ≤ 4611686018427387904 := Int.ediv_le_self _ (by omega)
    have h4 : a ≤ 4611686018427387904 / b := (Int.le_ediv_iff_mul_le h0).2 hab
    rw [if_pos h0, if_neg (by omega), hq, w64 (x := 4611686018427387904 / b) (by omega) (by omega), if_neg (by omega), w64 (x := a * b) (by omega) (by omega)]
  · obtain rfl : b = 0 := by omega
    rw [if_neg h0, w64 (x := a * 0) (by simp) (by simp)]
theorem mul_c (W : World) (a b : Int) (ha : 0 ≤ a) (ha2 : a ≤ 4611686018427387904) (hb : 0 ≤ b) (hb2 : b ≤ 4611686018427387904) (hab : a * b ≤ 4611686018427387904) (x : Int) (hx : x = a * b) : Calls Try.prog 26 #[.int .i64 a, .int .i64 b] W fun e w' => e = .returned (.tuple #[.int .i64 x, .bool true]) ∧ Below W.heap.size W w' := by
  subst hx
  exact (tick_Mul.calls _ _ _ _ W (mul_eq a b ha ha2 hb hb2 hab)).mono (fun e w' h => ⟨h.1, drawn_below h.2⟩)
theorem ceil_c (W : World) (a b : Int) (h0 : 0 ≤ a) (h1 : a ≤ 4611686018427387904) (h2 : 1 ≤ b) (h3 : b ≤ 4611686018427387904) (x : Int) (hx : x = cl a b) : Calls Try.prog 28 #[.int .i64 a, .int .i64 b] W fun e w' => e = .returned (.tuple #[.int .i64 x, .bool true]) ∧ Below W.heap.size W w' := by
  subst hx
  obtain ⟨k, h⟩ := (ceil_ev a b h0 h1 h2 h3).rounds
  exact (tick_Ceil.calls k _ _ _ _ W h).mono (fun e w' h => ⟨h.1, drawn_below h.2⟩)
theorem whole_c {t : S39} (ok : OkT t) (W : World) (A : Array Value) (hA : A = TA t) (x : Int) (hx : x = wh t) : Calls Try.prog 24 #[.agg A] W fun e w' => e = .returned (.int .i64 x) ∧ Below W.heap.size W w' := by
  subst hA hx
  obtain ⟨k, h⟩ := (whole_ev ok).rounds
  exact demand_Whole.calls k _ _ _ _ _ _ _ _ _ _ _ _ W h
theorem cl_bd {a b : Int} (h0 : 0 ≤ a) (h2 : 1 ≤ b) : 0 ≤ cl a b ∧ cl a b ≤ a := ⟨cl_nonneg h0 h2, cl_le h0 h2⟩
theorem rwhole_eq {t : S39} (ok : OkT t) : pendulumref19_Whole.f t.f0 t.f1 t.f2 t.f3 t.f4 t.f5 t.f6 t.f7 t.f8 t.f9 t.f10 = some (wh t) := by
  have hn := ok.nums
  have hb := wh_bd ok
  unfold pendulumref19_Whole.f
  by_cases c : t.f9 = 1
  · have hs := ok.seg c
    have hc := cl_bd (a := t.f3) (b := t.f5) (by omega) (by omega)
    have hm : 0 ≤ cl t.f3 t.f5 * t.f6 := Int.mul_nonneg hc.1 (by omega)
    have hw : wh t = t.f3 + cl t.f3 t.f5 * t.f6 := by unfold wh; rw [if_pos c]
    rw [if_pos c, if_neg (by omega), w64 (x := t.f3 + t.f5) (by omega) (by omega), w64 (x := t.f3 + t.f5 - 1) (by omega) (by omega), Int.tdiv_eq_ediv_of_nonneg (by omega)]
    change some (wrap64 (t.f3 + wrap64 (wrap64 (cl t.f3 t.f5) * t.f6))) = _
    rw [w64 (x := cl t.f3 t.f5) (by omega) (by omega), w64 (x := cl t.f3 t.f5 * t.f6) (by omega) (by omega), w64 (by omega) (by omega), hw]
  · have hw : wh t = t.f3 + t.f6 := by unfold wh; rw [if_neg c]
    rw [if_neg c, w64 (by omega) (by omega), hw]
theorem rwhole_c {t : S39} (ok : OkT t) (W : World) (A : Array Value) (hA : A = TA t) (x : Int) (hx : x = wh t) : Calls Try.prog 22 #[.agg A] W fun e w' => e = .returned (.int .i64 x) ∧ Below W.heap.size W w' := by
  subst hA hx
  exact pendulumref19_Whole.calls _ _ _ _ _ _ _ _ _ _ _ _ W (rwhole_eq ok)
/-- How many bursts strike at most. -/
def mst (w b g : Int) : Int := if w = 0 then 0 else cl (w + b - 1) g
theorem mst_bd {w b g : Int} (h0 : 0 ≤ w) (hb : 1 ≤ b) (hg : 1 ≤ g) : 0 ≤ mst w b g ∧ mst w b g ≤ w + b := by
  unfold mst
  by_cases c : w = 0
  · rw [if_pos c]; omega
  · rw [if_neg c]
    have := cl_bd (a := w + b - 1) (b := g) (by omega) hg
    omega
theorem most_c (W : World) (w b g : Int) (h0 : 0 ≤ w) (h1 : w ≤ 2000000) (hb : 1 ≤ b) (hb2 : b ≤ 2000000) (hg : 1 ≤ g) (hg2 : g ≤ 2000000) (x : Int) (hx : x = mst w b g) : Calls Try.prog 27 #[.int .i64 w, .int .i64 b, .int .i64 g] W fun e w' => e = .returned (.int .i64 x) ∧ Below W.heap.size W w' := by
  subst hx
  have hE : Ev (fun k => burst_Most.f k w b g) (mst w b g) := by
    unfold burst_Most.f mst
    by_cases c : w = 0
    · simp only [if_pos c]; exact Ev.now _
    · simp only [if_neg c]
      rw [w64 (x := w + b) (by omega) (by omega), w64 (x := w + b - 1) (by omega) (by omega)]
      exact Ev.bind (ceil_ev _ _ (by omega) (by omega) (by omega) (by omega)) (Ev.now _)
  obtain ⟨k, h⟩ := hE.rounds
  exact (burst_Most.calls k _ _ _ _ W h).mono (fun e w' h => ⟨h.1, drawn_below h.2⟩)
theorem rmost_c (W : World) (w b g : Int) (h0 : 0 ≤ w) (h1 : w ≤ 2000000) (hb : 1 ≤ b) (hb2 : b ≤ 2000000) (hg : 1 ≤ g) (hg2 : g ≤ 2000000) (x : Int) (hx : x = mst w b g) : Calls Try.prog 32 #[.int .i64 w, .int .i64 b, .int .i64 g] W fun e w' => e = .returned (.int .i64 x) ∧ Below W.heap.size W w' := by
  subst hx
  have hE : pendulumref18_Most.f w b g = some (mst w b g) := by
    unfold pendulumref18_Most.f mst
    by_cases c : w = 0
    · simp only [if_pos c]
    · simp only [if_neg c]
      have e : cl (w + b - 1) g = (w + b - 2) / g + 1 := by
        unfold cl
        rw [show w + b - 1 + g - 1 = (w + b - 2) + 1 * g by omega, Int.add_mul_ediv_right _ _ (by omega)]
      have hq : 0 ≤ (w + b - 2) / g := Int.ediv_nonneg (by omega) (by omega)
      have hq2 : (w + b - 2) / g ≤ w + b - 2 := Int.ediv_le_self _ (by omega)
      rw [if_neg (by omega), w64 (x := w + b) (by omega) (by omega), w64 (x := w + b - 2) (by omega) (by omega), Int.tdiv_eq_ediv_of_nonneg (by omega), w64 (x := (w + b - 2) / g) (by omega) (by omega), w64 (by omega) (by omega), e]
  exact (pendulumref18_Most.calls _ _ _ _ W hE).mono (fun e w' h => ⟨h.1, drawn_below h.2⟩)
/-- The sum of a list, as the program makes it. -/
theorem add_eq (a b : Int) (ha : 0 ≤ a) (hb : 0 ≤ b) (hab : a + b ≤ 4611686018427387904) : tick_Add.f a b = some (a + b, true) := by
  unfold tick_Add.f
  rw [time_eq, time_eq]
  simp only [decide_eq_true (show 0 ≤ a ∧ a ≤ 4611686018427387904 by omega), decide_eq_true (show 0 ≤ b ∧ b ≤ 4611686018427387904 by omega), Option.bind_some, if_true]
  rw [w64 (x := 4611686018427387904 - b) (by omega) (by omega), if_neg (by omega), w64 (by omega) (by omega)]
theorem sum_l0 (l : List Int) (hl : l.length ≤ 1000) (hp : ∀ x ∈ l, 0 ≤ x) : ∀ (r : List Int) (i : Nat) (n : Int), l.drop i = r → 0 ≤ n → n + su r ≤ 4611686018427387904 → Ev (fun k => tick_Sum.l0 k n l (l.length : Int) (i : Int)) (n + su r, true) := by
  intro r
  induction r with
  | nil =>
    intro i n h _ _
    have := drop_nil h
    refine Ev.step (f := fun _ => some _) (fun k => ?_) (Ev.now _)
    simp only [tick_Sum.l0]
    rw [if_neg (by omega)]; simp [su]
  | cons x r ih =>
    intro i n h h0 hb
    obtain ⟨hi, hx, hd⟩ := drop_cons h
    have hx0 := hp x (List.mem_of_mem_drop (h ▸ List.mem_cons_self ..))
    have hr0 : 0 ≤ su r := su_nonneg (fun y hy => hp y (List.mem_of_mem_drop (h ▸ List.mem_cons_of_mem _ hy)))
    simp only [su] at hb ⊢
    have := ih (i + 1) (n + x) hd (by omega) (by omega)
    refine Ev.step (f := fun k => (tick_Add.f n x).bind fun bt => (if bt.2 = true then (tick_Sum.l0 k bt.1 l (l.length : Int) (wrap64 ((i : Int) + 1))) else (some (0, false)))) (fun k => by simp only [tick_Sum.l0]; rw [if_pos (by omega), if_pos (by omega), if_pos (by omega), hx]) ?_
    rw [add_eq n x h0 hx0 (by omega)]
    simp only [Option.bind_some, if_true]
    rw [w1 (n := i) (by omega), show n + (x + su r) = n + x + su r by omega]
    exact this
theorem sum_c (W : World) (A : Option Addr) (c : Nat) (l : List Int) (hC : Kd.C (Kd.int .i64) W A l.length l) (hc : l.length ≤ c) (hl : l.length ≤ 1000) (hp : ∀ x ∈ l, 0 ≤ x) (hb : su l ≤ 4611686018427387904) (x : Int) (hx : x = su l) : Calls Try.prog 29 #[.slice A l.length c] W fun e w' => e = .returned (.tuple #[.int .i64 x, .bool true]) ∧ Below W.heap.size W w' := by
  subst hx
  obtain ⟨k, h⟩ := (sum_l0 l hl hp l 0 0 rfl (by omega) (by omega)).rounds
  rw [show (0 : Int) + su l = su l by omega] at h
  exact (tick_Sum.calls k A c l _ _ W hC hc h).mono (fun e w' h => ⟨h.1, drawn_below h.2⟩)
end Go.Proofs.Ytnidcoooenhebaa.PS
