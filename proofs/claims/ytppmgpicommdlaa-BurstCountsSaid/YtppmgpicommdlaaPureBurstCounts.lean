/- How many bursts strike at most is what the document says, and no fewer of more ticks or of a lesser gap: for every number of ticks, length and gap. No condition. -/
import Derived.Test.YtppmgpicommdlaaPBurstCountsx2
namespace Go.Proofs.Ytppmgpicommdlaa.Pure
open Go.RowKit Go.Proofs.Ytppmgpicommdlaa.PBurstCounts Go.Proofs.YtppmgpicommdlaaW.PrintWords Go.Proofs.YtppmgpicommdlaaW.PrintLast

theorem w64 {x : Int} (h0 : -9223372036854775808 ≤ x) (h1 : x ≤ 9223372036854775807) : wrap64 x = x := by unfold wrap64; omega
theorem wf64 {n : Int} (h : (Lit.int .i64 n).wf = true) : -9223372036854775808 ≤ n ∧ n ≤ 9223372036854775807 := by
  simp [Lit.wf, IntKind.min, IntKind.max, IntKind.signed, IntKind.bits] at h
  omega
theorem wfu8 {n : Int} (h : (Lit.int .u8 n).wf = true) : 0 ≤ n ∧ n ≤ 255 := by
  simp [Lit.wf, IntKind.min, IntKind.max, IntKind.signed, IntKind.bits] at h
  omega
theorem wfu16 {n : Int} (h : (Lit.int .u16 n).wf = true) : 0 ≤ n ∧ n ≤ 65535 := by
  simp [Lit.wf, IntKind.min, IntKind.max, IntKind.signed, IntKind.bits] at h
  omega
theorem wfu32 {n : Int} (h : (Lit.int .u32 n).wf = true) : 0 ≤ n ∧ n ≤ 4294967295 := by
  simp [Lit.wf, IntKind.min, IntKind.max, IntKind.signed, IntKind.bits] at h
  omega
theorem wfu64 {n : Int} (h : (Lit.int .u64 n).wf = true) : 0 ≤ n ∧ n ≤ 18446744073709551615 := by
  simp [Lit.wf, IntKind.min, IntKind.max, IntKind.signed, IntKind.bits] at h
  omega
theorem ite_true' {α : Type} {c : Prop} [Decidable c] (h : c) (a b : α) : (if c then a else b) = a := if_pos h
theorem ite_false' {α : Type} {c : Prop} [Decidable c] (h : ¬ c) (a b : α) : (if c then a else b) = b := if_neg h
theorem drop_cons {l r : List Int} {i : Nat} {x : Int} (h : l.drop i = x :: r) : i < l.length ∧ rd l (i : Int) = x ∧ l.drop (i + 1) = r := by
  have hl : i < l.length := by
    apply Classical.byContradiction; intro hn
    rw [List.drop_eq_nil_of_le (by omega)] at h; cases h
  rw [List.drop_eq_getElem_cons hl] at h
  injection h with h1 h2
  refine ⟨hl, ?_, h2⟩
  simp [rd, List.getD_eq_getElem?_getD, hl, h1]
theorem drop_nil {l : List Int} {i : Nat} (h : l.drop i = []) : l.length ≤ i := by
  simpa using h

/-- The quotient, rounded up. -/
def cl (a b : Int) : Int := (a + b - 1) / b
theorem cl_of (a b q r : Int) (hb : 0 < b) (h : a = r + q * b) (h0 : 0 ≤ r) (h1 : r < b) : cl a b = if r = 0 then q else q + 1 := by
  unfold cl
  by_cases e : r = 0
  · rw [if_pos e, show a + b - 1 = (b - 1) + q * b by omega, Int.add_mul_ediv_right _ _ (by omega), Int.ediv_eq_zero_of_lt (by omega) (by omega)]; omega
  · rw [if_neg e, show a + b - 1 = (r - 1) + (q + 1) * b by rw [Int.add_mul]; omega, Int.add_mul_ediv_right _ _ (by omega), Int.ediv_eq_zero_of_lt (by omega) (by omega)]; omega
theorem time_eq (a : Int) : tick_time.f a = some (decide (0 ≤ a ∧ a ≤ 4611686018427387904)) := by
  unfold tick_time.f
  by_cases h : a ≥ 0
  · rw [if_pos h]; congr 1; simp; omega
  · rw [if_neg h]; congr 1; simp; omega
theorem ceil_ev (a b : Int) (h0 : 0 ≤ a) (h1 : a ≤ 4611686018427387904) (h2 : 1 ≤ b) (h3 : b ≤ 4611686018427387904) : Ev (fun k => tick_Ceil.f k a b) (cl a b, true) := by
  have hb : (b == 0) = false := by simp; omega
  have hr0 := Int.emod_nonneg a (show b ≠ 0 by omega)
  have hr1 := Int.emod_lt_of_pos a (show 0 < b by omega)
  have hq0 : 0 ≤ a / b := Int.ediv_nonneg h0 (by omega)
  have hq1 : a / b ≤ a := Int.ediv_le_self _ h0
  have hqb : a = a % b + a / b * b := by have := Int.emod_add_mul_ediv a b; rw [Int.mul_comm] at this; omega
  have hqb0 : 0 ≤ a / b * b := Int.mul_nonneg hq0 (by omega)
  refine Ev.step (f := fun _ => some (cl a b, true)) (fun k => ?_) (Ev.now _)
  unfold tick_Ceil.f
  rw [time_eq, time_eq]
  have e1 : decide (0 ≤ a ∧ a ≤ 4611686018427387904) = true := by simp; omega
  have e2 : decide (0 ≤ b ∧ b ≤ 4611686018427387904) = true := by simp; omega
  simp only [e1, e2, Option.bind_some, if_true, tick_Ceil.j0, hb]
  rw [if_neg (by simp), if_neg (by omega), Int.tdiv_eq_ediv_of_nonneg h0, w64 (x := a / b) (by omega) (by omega), w64 (x := a / b * b) (by omega) (by omega), w64 (x := a / b + 1) (by omega) (by omega)]
  rw [cl_of a b (a / b) (a % b) (by omega) hqb hr0 hr1]
  by_cases e : a % b = 0
  · rw [if_pos e, if_neg (by omega)]
  · rw [if_neg e, if_pos (by omega)]

/-- How many bursts strike at most. -/
def mst (w b g : Int) : Int := if w = 0 then 0 else (w + b - 2) / g + 1
theorem most_ev (w b g : Int) (h0 : 0 ≤ w) (h1 : w ≤ 9000000000) (h2 : 1 ≤ b) (h3 : b ≤ 1000) (h4 : 1 ≤ g) (h5 : g ≤ 1049576) : Ev (fun k => burst_Most.f k w b g) (mst w b g) := by
  unfold burst_Most.f mst
  by_cases e : w = 0
  · simp only [if_pos e]; exact Ev.now _
  · simp only [if_neg e]
    rw [w64 (x := w + b) (by omega) (by omega), w64 (by omega) (by omega)]
    refine Ev.bind (ceil_ev _ _ (by omega) (by omega) (by omega) (by omega)) ?_
    have : cl (w + b - 1) g = (w + b - 2) / g + 1 := by
      unfold cl; rw [show w + b - 1 + g - 1 = (w + b - 2) + 1 * g by omega, Int.add_mul_ediv_right _ _ (by omega)]
    simp only [this]; exact Ev.now _
theorem mst_mono {w w' b g : Int} (h0 : 0 ≤ w) (h : w ≤ w') (hb : 1 ≤ b) (hg : 1 ≤ g) : mst w b g ≤ mst w' b g := by
  unfold mst
  by_cases e : w = 0
  · rw [if_pos e]; split
    · omega
    · have := Int.ediv_nonneg (a := w' + b - 2) (b := g) (by omega) (by omega); omega
  · rw [if_neg e, if_neg (by omega)]
    have := Int.ediv_le_ediv (a := w + b - 2) (b := w' + b - 2) (c := g) (by omega) (by omega); omega
theorem div_anti {x g g' : Int} (hx : 0 ≤ x) (h0 : 1 ≤ g') (h : g' ≤ g) : x / g ≤ x / g' := by
  refine Int.le_ediv_of_mul_le (by omega) ?_
  have h1 := Int.ediv_mul_le x (show g ≠ 0 by omega)
  have h2 : x / g * g' ≤ x / g * g := Int.mul_le_mul_of_nonneg_left h (Int.ediv_nonneg hx (by omega))
  omega
theorem mst_anti {w b g g' : Int} (h0 : 0 ≤ w) (hb : 1 ≤ b) (hg : 1 ≤ g') (h : g' ≤ g) : mst w b g ≤ mst w b g' := by
  unfold mst
  by_cases e : w = 0
  · rw [if_pos e, if_pos e]; omega
  · rw [if_neg e, if_neg e]
    have := div_anti (x := w + b - 2) (by omega) hg h; omega

theorem fine_eq (b g : Int) : pendulumlaw18_fine.f b g = some (decide (1 ≤ b ∧ b ≤ 1000 ∧ 1 ≤ g ∧ g ≤ 1049576)) := by
  unfold pendulumlaw18_fine.f
  by_cases h1 : b ≥ 1
  · by_cases h2 : b ≤ 1000
    · by_cases h3 : g ≥ 1
      · by_cases h4 : g ≤ 1049576
        · rw [if_pos h1, if_pos h2, if_pos h3, decide_eq_true h4, decide_eq_true ⟨h1, h2, h3, h4⟩]
        · rw [if_pos h1, if_pos h2, if_pos h3, decide_eq_false h4, decide_eq_false (fun h => h4 h.2.2.2)]
      · rw [if_pos h1, if_pos h2, if_neg h3, decide_eq_false (fun h => h3 h.2.2.1)]
    · rw [if_pos h1, if_neg h2, decide_eq_false (fun h => h2 h.2.1)]
  · rw [if_neg h1, decide_eq_false (fun h => h1 h.1)]
theorem awake_ev : Ev (fun k => pendulumlaw18_awake.f k) true := Ev.of (k := 20) pendulumlaw18_awake.mono (by kernel_rfl)

theorem refmost_eq (w b g : Int) (h0 : 0 ≤ w) (h1 : w ≤ 9000000000) (h2 : 1 ≤ b) (h3 : b ≤ 1000) (h4 : 1 ≤ g) (h5 : g ≤ 1049576) : pendulumref18_Most.f w b g = some (mst w b g) := by
  unfold pendulumref18_Most.f mst
  by_cases e : w = 0
  · rw [if_pos e, if_pos e]
  · rw [if_neg e, if_neg e, if_neg (by omega), w64 (x := w + b) (by omega) (by omega), w64 (x := w + b - 2) (by omega) (by omega), Int.tdiv_eq_ediv_of_nonneg (by omega)]
    have hq0 : 0 ≤ (w + b - 2) / g := Int.ediv_nonneg (by omega) (by omega)
    have hq1 : (w + b - 2) / g ≤ w + b - 2 := Int.ediv_le_self _ (by omega)
    rw [w64 (x := (w + b - 2) / g) (by omega) (by omega), w64 (by omega) (by omega)]

theorem BurstCounts : pendulumlaw18_BurstCounts.Pure := by
  intro w b g hw hb hg
  have hw' := wfu32 hw
  refine Ev.rounds ?_
  unfold pendulumlaw18_BurstCounts.f
  refine Ev.bind awake_ev ?_
  simp only [if_true, fine_eq, Option.bind_some]
  by_cases hf : 1 ≤ b ∧ b ≤ 1000 ∧ 1 ≤ g ∧ g ≤ 1049576
  · have hd : (!decide (1 ≤ b ∧ b ≤ 1000 ∧ 1 ≤ g ∧ g ≤ 1049576)) = false := by simp [hf]
    rw [hd]
    obtain ⟨h1, h2, h3, h4⟩ := hf
    have e0 : wrap64 w = w := w64 (by omega) (by omega)
    refine Ev.step (fun k => by simp only [pendulumlaw18_BurstCounts.j0]; rw [if_neg (by simp), e0]) ?_
    refine Ev.bind (most_ev w b g (by omega) (by omega) h1 h2 h3 h4) ?_
    rw [refmost_eq w b g (by omega) (by omega) h1 h2 h3 h4]
    simp only [Option.bind_some, if_true]
    rw [w64 (x := w + 1) (by omega) (by omega)]
    refine Ev.bind (most_ev (w + 1) b g (by omega) (by omega) h1 h2 h3 h4) ?_
    have m1 : mst w b g ≤ mst (w + 1) b g := mst_mono (by omega) (by omega) h1 h3
    simp only [if_neg (show ¬ mst (w + 1) b g < mst w b g by omega)]
    by_cases e : g = 1
    · simp only [if_pos e]; exact Ev.now _
    · simp only [if_neg e]
      rw [w64 (x := g - 1) (by omega) (by omega)]
      refine Ev.bind (most_ev w b (g - 1) (by omega) (by omega) h1 h2 (by omega) (by omega)) ?_
      have m2 : mst w b g ≤ mst w b (g - 1) := mst_anti (by omega) h1 (by omega) (by omega)
      simp only [show mst w b (g - 1) ≥ mst w b g from m2, decide_true]
      exact Ev.now _
  · have hd : (!decide (1 ≤ b ∧ b ≤ 1000 ∧ 1 ≤ g ∧ g ≤ 1049576)) = true := by simp [hf]
    rw [hd]
    refine Ev.step (fun k => by simp only [pendulumlaw18_BurstCounts.j0]; rw [if_pos trivial]) ?_
    exact Ev.bind awake_ev (Ev.now _)

end Go.Proofs.Ytppmgpicommdlaa.Pure
