/- The law BurstLess: faults that are legal are so of each lesser gap and with faults left out at the end; more ticks are struck by no fewer bursts. No condition. -/
import Derived.Test.YtppmgpicommdlaaLessCal
import Derived.Test.YtppmgpicommdlaaArgs
import Derived.Lib.Hide
namespace Go.Proofs.Ytppmgpicommdlaa.Less
open Go.RowKit Go.Proofs.Ytppmgpicommdlaa.PBurstLess Go.Proofs.YtppmgpicommdlaaW.PrintWords Go.Proofs.YtppmgpicommdlaaW.PrintLast Go.Proofs.Ytppmgpicommdlaa.Args
set_option linter.unusedSimpArgs false
set_option linter.unusedVariables false

theorem w64 {x : Int} (h0 : -9223372036854775808 ≤ x) (h1 : x ≤ 9223372036854775807) : wrap64 x = x := by unfold wrap64; omega
theorem wf64 {n : Int} (h : (Lit.int .i64 n).wf = true) : -9223372036854775808 ≤ n ∧ n ≤ 9223372036854775807 := by
  simp [Lit.wf, IntKind.min, IntKind.max, IntKind.signed, IntKind.bits] at h
  omega
theorem wfu8 {n : Int} (h : (Lit.int .u8 n).wf = true) : 0 ≤ n ∧ n ≤ 255 := by
  simp [Lit.wf, IntKind.min, IntKind.max, IntKind.signed, IntKind.bits] at h
  omega
theorem wfu16 {n : Int} (h : (Lit.int .u16 n).wf = true) : 0 ≤ n ∧ n ≤ 65535 := by
  simp [Lit.wf, IntKind.min, IntKind.max, IntKind.signed, IntKind.bits] at h
  omega
theorem wfu32 {n : Int} (h : (Lit.int .u32 n).wf = true) : 0 ≤ n ∧ n ≤ 4294967295 := by
  simp [Lit.wf, IntKind.min, IntKind.max, IntKind.signed, IntKind.bits] at h
  omega
theorem wfu64 {n : Int} (h : (Lit.int .u64 n).wf = true) : 0 ≤ n ∧ n ≤ 18446744073709551615 := by
  simp [Lit.wf, IntKind.min, IntKind.max, IntKind.signed, IntKind.bits] at h
  omega
theorem ite_true' {α : Type} {c : Prop} [Decidable c] (h : c) (a b : α) : (if c then a else b) = a := if_pos h
theorem ite_false' {α : Type} {c : Prop} [Decidable c] (h : ¬ c) (a b : α) : (if c then a else b) = b := if_neg h
theorem drop_cons {l r : List Int} {i : Nat} {x : Int} (h : l.drop i = x :: r) : i < l.length ∧ rd l (i : Int) = x ∧ l.drop (i + 1) = r := by
  have hl : i < l.length := by
    apply Classical.byContradiction; intro hn
    rw [List.drop_eq_nil_of_le (by omega)] at h; cases h
  rw [List.drop_eq_getElem_cons hl] at h
  injection h with h1 h2
  refine ⟨hl, ?_, h2⟩
  simp [rd, List.getD_eq_getElem?_getD, hl, h1]
theorem drop_nil {l : List Int} {i : Nat} (h : l.drop i = []) : l.length ≤ i := by
  simpa using h
theorem w1 {n : Nat} (h : n ≤ 1000000000000000) : wrap64 ((n : Int) + 1) = ((n + 1 : Nat) : Int) := by rw [w64 (by omega) (by omega)]; rfl
theorem w2 {n : Nat} (h : n ≤ 1000000000000000) : wrap64 (((n + 1 : Nat) : Int) - 1) = (n : Int) := by rw [w64 (by omega) (by omega)]; omega

/-- The beginnings, behind the beginning s (none: there is none yet). -/
def stt (b : Int) : Option Int → List Int → List Int
  | _, [] => []
  | none, x :: l => x :: stt b (some x) l
  | some s, x :: l => if x - s ≥ b then x :: stt b (some x) l else stt b (some s) l
/-- Times. -/
def Bnd (l : List Int) : Prop := ∀ x ∈ l, 0 ≤ x ∧ x ≤ 1099511627776
/-- Each is at least g behind the one ahead. -/
def lf (g : Int) : Option Int → List Int → Prop
  | _, [] => True
  | none, x :: l => lf g (some x) l
  | some v, x :: l => x - v ≥ g ∧ lf g (some x) l
theorem rd_last (pre : List Int) (v : Int) (h : pre.length < 1000000000000000) : rd (pre ++ [v]) (wrap64 (((pre ++ [v]).length : Int) - 1)) = v := by
  have e : wrap64 (((pre ++ [v]).length : Int) - 1) = pre.length := by rw [List.length_append, List.length_singleton, w64 (by omega) (by omega)]; omega
  rw [e]; simp [rd]
theorem Bnd.tail {x : Int} {l : List Int} (h : Bnd (x :: l)) : Bnd l := fun y hy => h y (List.mem_cons_of_mem _ hy)
theorem Bnd.head {x : Int} {l : List Int} (h : Bnd (x :: l)) : 0 ≤ x ∧ x ≤ 1099511627776 := h x (List.mem_cons_self ..)
theorem starts_l0 (b : Int) (l : List Int) (hn : l.length ≤ 1000000000000) : ∀ (r : List Int) (i : Nat) (pre : List Int) (v : Int), l.drop i = r → Bnd r → 0 ≤ v → v ≤ 1099511627776 → pre.length ≤ i →
    Ev (fun k => burst_Starts.l0 k b (pre ++ [v]) l (l.length : Int) (i : Int)) (pre ++ [v] ++ stt b (some v) r) := by
  intro r
  induction r with
  | nil =>
    intro i pre v h _ _ _ _
    have := drop_nil h
    refine Ev.step (f := fun _ => some _) (fun k => ?_) (Ev.now _)
    simp only [burst_Starts.l0]
    rw [if_neg (by omega)]; simp [stt]
  | cons x r ih =>
    intro i pre v h hB hv0 hv1 hp
    obtain ⟨hl, hx, hd⟩ := drop_cons h
    have hxb := hB.head
    have hw : wrap64 ((i : Int) + 1) = ((i + 1 : Nat) : Int) := by rw [w64 (by omega) (by omega)]; rfl
    have hlast := rd_last pre v (by omega)
    have hlen : wrap64 (((pre ++ [v]).length : Int) - 1) = pre.length := by rw [List.length_append, List.length_singleton, w64 (by omega) (by omega)]; omega
    by_cases hb : x - v ≥ b
    · have e : pre ++ [v] ++ stt b (some v) (x :: r) = (pre ++ [v]) ++ [x] ++ stt b (some x) r := by simp [stt, if_pos hb]
      rw [e]
      refine Ev.step (fun k => ?_) (ih (i + 1) (pre ++ [v]) x hd hB.tail hxb.1 hxb.2 (by simp; omega))
      simp only [burst_Starts.l0]
      rw [if_pos (by omega), if_pos (by omega), if_pos (by omega), if_neg (by simp; omega), hlast, hx, w64 (x := x - v) (by omega) (by omega), hw, hlen, if_pos (by omega), if_pos (by simp; omega), if_pos hb, if_pos (by simp; omega)]
    · have e : pre ++ [v] ++ stt b (some v) (x :: r) = pre ++ [v] ++ stt b (some v) r := by simp only [stt, if_neg hb]
      rw [e]
      refine Ev.step (fun k => ?_) (ih (i + 1) pre v hd hB.tail hv0 hv1 (by omega))
      simp only [burst_Starts.l0]
      rw [if_pos (by omega), if_pos (by omega), if_pos (by omega), if_neg (by simp; omega), hlast, hx, w64 (x := x - v) (by omega) (by omega), hw, hlen, if_pos (by omega), if_pos (by simp; omega), if_neg hb]
theorem starts_ev (b : Int) (l : List Int) (hn : l.length ≤ 1000000000000) (hB : Bnd l) : Ev (fun k => burst_Starts.f k l b) (stt b none l) := by
  unfold burst_Starts.f
  cases l with
  | nil =>
    refine Ev.step (f := fun _ => some _) (fun k => ?_) (Ev.now _)
    simp [burst_Starts.l0, stt]
  | cons x r =>
    have hl : (x :: r).length = r.length + 1 := rfl
    refine Ev.step (fun k => ?_) (starts_l0 b (x :: r) hn r 1 [] x rfl hB.tail hB.head.1 hB.head.2 (by simp))
    simp only [burst_Starts.l0]
    rw [if_pos (by omega), if_pos (by omega), if_pos (by omega), if_pos (by simp), if_pos (by simp), w64 (by omega) (by omega)]; rfl
theorem stt_mem {b : Int} : ∀ {l : List Int} {s : Option Int} {y : Int}, y ∈ stt b s l → y ∈ l := by
  intro l
  induction l with
  | nil => intro s y h; simp [stt] at h
  | cons x r ih =>
    intro s y h
    cases s with
    | none =>
      simp only [stt, List.mem_cons] at h ⊢
      exact h.imp_right ih
    | some v =>
      simp only [stt] at h
      split at h
      · simp only [List.mem_cons] at h ⊢; exact h.imp_right ih
      · exact List.mem_cons_of_mem _ (ih h)
theorem stt_bnd {b : Int} {l : List Int} {s : Option Int} (h : Bnd l) : Bnd (stt b s l) := fun y hy => h y (stt_mem hy)
theorem stt_len {b : Int} : ∀ (l : List Int) (s : Option Int), (stt b s l).length ≤ l.length := by
  intro l
  induction l with
  | nil => intro s; simp [stt]
  | cons x r ih =>
    intro s
    cases s with
    | none => simp only [stt, List.length_cons]; have := ih (some x); omega
    | some v =>
      simp only [stt]; split
      · simp only [List.length_cons]; have := ih (some x); omega
      · simp only [List.length_cons]; have := ih (some v); omega
theorem stt_lf {b : Int} : ∀ (l : List Int) (s : Option Int), lf b s (stt b s l) := by
  intro l
  induction l with
  | nil => intro s; simp [stt, lf]
  | cons x r ih =>
    intro s
    cases s with
    | none => simp only [stt, lf]; exact ih (some x)
    | some v =>
      simp only [stt]; split
      · exact ⟨by assumption, ih (some x)⟩
      · exact ih (some v)
theorem lf_mono {g g' : Int} (h : g' ≤ g) : ∀ {l : List Int} {s : Option Int}, lf g s l → lf g' s l := by
  intro l
  induction l with
  | nil => intro s _; simp [lf]
  | cons x r ih =>
    intro s hl
    cases s with
    | none => exact ih (s := some x) hl
    | some v => exact ⟨by have := hl.1; omega, ih (s := some x) hl.2⟩

/-- The least of m and of the distances behind v. -/
def gp : Int → Int → List Int → Int
  | m, _, [] => m
  | m, v, x :: l => gp (mn m (x - v)) x l
theorem mn_ge {a b c : Int} : mn a b ≥ c ↔ a ≥ c ∧ b ≥ c := by unfold mn; split <;> omega
theorem gp_ge {g : Int} : ∀ {l : List Int} {m v : Int}, gp m v l ≥ g ↔ m ≥ g ∧ lf g (some v) l := by
  intro l
  induction l with
  | nil => intro m v; simp [gp, lf]
  | cons x r ih =>
    intro m v
    simp only [gp, lf, ih, mn_ge]
    exact ⟨fun h => ⟨h.1.1, h.1.2, h.2⟩, fun h => ⟨⟨h.1, h.2.1⟩, h.2.2⟩⟩
theorem gp_le : ∀ (l : List Int) (m v : Int), gp m v l ≤ m := by
  intro l
  induction l with
  | nil => intro m v; simp [gp]
  | cons x r ih => intro m v; have := ih (mn m (x - v)) x; simp only [gp]; have h2 : mn m (x - v) ≤ m := by unfold mn; split <;> omega
                   omega
theorem gap_l0 (s : List Int) (hn : s.length ≤ 1000000000000) : ∀ (r : List Int) (i : Nat) (m v : Int), s.drop i = v :: r → Bnd (v :: r) → Ev (fun k => burst_Gap.l0 k m s ((s.length : Int) - 1) (i : Int)) (gp m v r) := by
  intro r
  induction r with
  | nil =>
    intro i m v h _
    obtain ⟨hl, hx, hd⟩ := drop_cons h
    have := drop_nil hd
    refine Ev.step (f := fun _ => some _) (fun k => ?_) (Ev.now _)
    simp only [burst_Gap.l0]
    rw [if_neg (by omega)]; rfl
  | cons x r ih =>
    intro i m v h hB
    obtain ⟨hl, hv, hd⟩ := drop_cons h
    obtain ⟨hl2, hx, hd2⟩ := drop_cons hd
    have hvb := hB.head
    have hxb := hB.tail.head
    have hw : wrap64 ((i : Int) + 1) = ((i + 1 : Nat) : Int) := by rw [w64 (by omega) (by omega)]; rfl
    refine Ev.step (fun k => ?_) (ih (i + 1) (mn m (x - v)) x hd hB.tail)
    simp only [burst_Gap.l0]
    rw [hw, hx, hv, w64 (x := x - v) (by omega) (by omega), if_pos (by omega), if_pos (by omega), if_pos (by omega), if_pos (by omega), if_pos (by omega)]
/-- The greatest gap of which faults are legal. -/
def gpa (b : Int) (l : List Int) : Int := match stt b none l with
  | [] => 1049576
  | v :: r => gp 1049576 v r
theorem gap_ev (b : Int) (l : List Int) (hn : l.length ≤ 1000000000000) (hB : Bnd l) : Ev (fun k => burst_Gap.f k l b) (gpa b l) := by
  unfold burst_Gap.f
  refine Ev.bind (starts_ev b l hn hB) ?_
  have hlen := stt_len (b := b) l none
  have hb := stt_bnd (b := b) (s := none) hB
  unfold gpa
  generalize stt b none l = s at *
  rw [w64 (by omega) (by omega)]
  cases s with
  | nil =>
    refine Ev.step (f := fun _ => some _) (fun k => ?_) (Ev.now _)
    simp [burst_Gap.l0]
  | cons v r => exact gap_l0 (v :: r) (by omega) r 0 1049576 v rfl hb
theorem gpa_ge (b g : Int) (l : List Int) : gpa b l ≥ g ↔ 1049576 ≥ g ∧ lf g none (stt b none l) := by
  unfold gpa
  cases stt b none l with
  | nil => simp [lf]
  | cons v r => exact gp_ge
theorem gpa_le (b : Int) (l : List Int) : gpa b l ≤ 1049576 := by
  unfold gpa
  cases stt b none l with
  | nil => simp
  | cons v r => exact gp_le _ _ _
theorem legal_ev (b g : Int) (l : List Int) (hn : l.length ≤ 1000000000000) (hB : Bnd l) : Ev (fun k => burst_Legal.f k l b g) (decide (gpa b l ≥ g)) := by
  unfold burst_Legal.f
  exact Ev.bind (gap_ev b l hn hB) (Ev.now _)

/-- The quotient, rounded up. -/
def cl (a b : Int) : Int := (a + b - 1) / b
theorem cl_of (a b q r : Int) (hb : 0 < b) (h : a = r + q * b) (h0 : 0 ≤ r) (h1 : r < b) : cl a b = if r = 0 then q else q + 1 := by
  unfold cl
  by_cases e : r = 0
  · rw [if_pos e, show a + b - 1 = (b - 1) + q * b by omega, Int.add_mul_ediv_right _ _ (by omega), Int.ediv_eq_zero_of_lt (by omega) (by omega)]; omega
  · rw [if_neg e, show a + b - 1 = (r - 1) + (q + 1) * b by rw [Int.add_mul]; omega, Int.add_mul_ediv_right _ _ (by omega), Int.ediv_eq_zero_of_lt (by omega) (by omega)]; omega
theorem time_eq (a : Int) : tick_time.f a = some (decide (0 ≤ a ∧ a ≤ 4611686018427387904)) := by
  unfold tick_time.f
  by_cases h : a ≥ 0
  · rw [if_pos h]; congr 1; simp; omega
  · rw [if_neg h]; congr 1; simp; omega
theorem ceil_ev (a b : Int) (h0 : 0 ≤ a) (h1 : a ≤ 4611686018427387904) (h2 : 1 ≤ b) (h3 : b ≤ 4611686018427387904) : Ev (fun k => tick_Ceil.f k a b) (cl a b, true) := by
  have hb : (b == 0) = false := by simp; omega
  have hr0 := Int.emod_nonneg a (show b ≠ 0 by omega)
  have hr1 := Int.emod_lt_of_pos a (show 0 < b by omega)
  have hq0 : 0 ≤ a / b := Int.ediv_nonneg h0 (by omega)
  have hq1 : a / b ≤ a := Int.ediv_le_self _ h0
  have hqb : a = a % b + a / b * b := by have := Int.emod_add_mul_ediv a b; rw [Int.mul_comm] at this; omega
  have hqb0 : 0 ≤ a / b * b := Int.mul_nonneg hq0 (by omega)
  refine Ev.step (f := fun _ => some (cl a b, true)) (fun k => ?_) (Ev.now _)
  unfold tick_Ceil.f
  rw [time_eq, time_eq]
  have e1 : decide (0 ≤ a ∧ a ≤ 4611686018427387904) = true := by simp; omega
  have e2 : decide (0 ≤ b ∧ b ≤ 4611686018427387904) = true := by simp; omega
  simp only [e1, e2, Option.bind_some, if_true, tick_Ceil.j0, hb]
  rw [if_neg (by simp), if_neg (by omega), Int.tdiv_eq_ediv_of_nonneg h0, w64 (x := a / b) (by omega) (by omega), w64 (x := a / b * b) (by omega) (by omega), w64 (x := a / b + 1) (by omega) (by omega)]
  rw [cl_of a b (a / b) (a % b) (by omega) hqb hr0 hr1]
  by_cases e : a % b = 0
  · rw [if_pos e, if_neg (by omega)]
  · rw [if_neg e, if_pos (by omega)]

/-- How many bursts strike at most. -/
def mst (w b g : Int) : Int := if w = 0 then 0 else (w + b - 2) / g + 1
theorem most_ev (w b g : Int) (h0 : 0 ≤ w) (h1 : w ≤ 9000000000) (h2 : 1 ≤ b) (h3 : b ≤ 1000) (h4 : 1 ≤ g) (h5 : g ≤ 1049576) : Ev (fun k => burst_Most.f k w b g) (mst w b g) := by
  unfold burst_Most.f mst
  by_cases e : w = 0
  · simp only [if_pos e]; exact Ev.now _
  · simp only [if_neg e]
    rw [w64 (x := w + b) (by omega) (by omega), w64 (by omega) (by omega)]
    refine Ev.bind (ceil_ev _ _ (by omega) (by omega) (by omega) (by omega)) ?_
    have : cl (w + b - 1) g = (w + b - 2) / g + 1 := by
      unfold cl; rw [show w + b - 1 + g - 1 = (w + b - 2) + 1 * g by omega, Int.add_mul_ediv_right _ _ (by omega)]
    simp only [this]; exact Ev.now _
theorem mst_mono {w w' b g : Int} (h0 : 0 ≤ w) (h : w ≤ w') (hb : 1 ≤ b) (hg : 1 ≤ g) : mst w b g ≤ mst w' b g := by
  unfold mst
  by_cases e : w = 0
  · rw [if_pos e]; split
    · omega
    · have := Int.ediv_nonneg (a := w' + b - 2) (b := g) (by omega) (by omega); omega
  · rw [if_neg e, if_neg (by omega)]
    have := Int.ediv_le_ediv (a := w + b - 2) (b := w' + b - 2) (c := g) (by omega) (by omega); omega
theorem div_anti {x g g' : Int} (hx : 0 ≤ x) (h0 : 1 ≤ g') (h : g' ≤ g) : x / g ≤ x / g' := by
  refine Int.le_ediv_of_mul_le (by omega) ?_
  have h1 := Int.ediv_mul_le x (show g ≠ 0 by omega)
  have h2 : x / g * g' ≤ x / g * g := Int.mul_le_mul_of_nonneg_left h (Int.ediv_nonneg hx (by omega))
  omega
theorem mst_anti {w b g g' : Int} (h0 : 0 ≤ w) (hb : 1 ≤ b) (hg : 1 ≤ g') (h : g' ≤ g) : mst w b g ≤ mst w b g' := by
  unfold mst
  by_cases e : w = 0
  · rw [if_pos e, if_pos e]; omega
  · rw [if_neg e, if_neg e]
    have := div_anti (x := w + b - 2) (by omega) hg h; omega

/-- How many lie from f on, ahead of t. -/
def cnt (f t : Int) (l : List Int) : Nat := (l.filter (fun x => decide (f ≤ x ∧ x < t))).length
theorem cnt_cons (f t x : Int) (l : List Int) : cnt f t (x :: l) = (if f ≤ x ∧ x < t then 1 else 0) + cnt f t l := by
  unfold cnt
  by_cases h : f ≤ x ∧ x < t
  · rw [if_pos h, List.filter_cons_of_pos (by simpa using h)]; simp; omega
  · rw [if_neg h, List.filter_cons_of_neg (by simpa using h)]; simp
theorem in_l0 (f t : Int) (l : List Int) (hn : l.length ≤ 1000000000000) : ∀ (r : List Int) (i c : Nat), l.drop i = r → c ≤ i → Ev (fun k => burst_In.l0 k f t (c : Int) l (l.length : Int) (i : Int)) ((c + cnt f t r : Nat) : Int) := by
  intro r
  induction r with
  | nil =>
    intro i c h _
    have := drop_nil h
    refine Ev.step (f := fun _ => some _) (fun k => ?_) (Ev.now _)
    simp only [burst_In.l0]
    rw [if_neg (by omega)]; rfl
  | cons x r ih =>
    intro i c h hc
    obtain ⟨hl, hx, hd⟩ := drop_cons h
    have hw : wrap64 ((i : Int) + 1) = ((i + 1 : Nat) : Int) := by rw [w64 (by omega) (by omega)]; rfl
    have hwc : wrap64 ((c : Int) + 1) = ((c + 1 : Nat) : Int) := by rw [w64 (by omega) (by omega)]; rfl
    rw [cnt_cons]
    by_cases hy : f ≤ x ∧ x < t
    · rw [if_pos hy, show c + (1 + cnt f t r) = (c + 1) + cnt f t r by omega]
      refine Ev.step (fun k => ?_) (ih (i + 1) (c + 1) hd (by omega))
      simp only [burst_In.l0]
      rw [hx, hw, hwc, if_pos (by omega), if_pos (by omega), if_pos (by omega), if_pos hy.1, if_pos hy.2]
    · rw [if_neg hy, Nat.zero_add]
      refine Ev.step (fun k => ?_) (ih (i + 1) c hd (by omega))
      simp only [burst_In.l0]
      rw [hx, hw, if_pos (by omega), if_pos (by omega), if_pos (by omega)]
      by_cases h1 : x ≥ f
      · rw [if_pos h1, if_neg (fun h2 => hy ⟨h1, h2⟩)]
      · rw [if_neg h1]
theorem in_ev (f t : Int) (l : List Int) (hn : l.length ≤ 1000000000000) : Ev (fun k => burst_In.f k l f t) (cnt f t l : Int) := by
  unfold burst_In.f
  have := in_l0 f t l hn l 0 0 rfl (by omega)
  simpa using this

theorem fine_eq (b g : Int) : pendulumlaw18_fine.f b g = some (decide (1 ≤ b ∧ b ≤ 1000 ∧ 1 ≤ g ∧ g ≤ 1049576)) := by
  unfold pendulumlaw18_fine.f
  by_cases h1 : b ≥ 1
  · by_cases h2 : b ≤ 1000
    · by_cases h3 : g ≥ 1
      · by_cases h4 : g ≤ 1049576
        · rw [if_pos h1, if_pos h2, if_pos h3, decide_eq_true h4, decide_eq_true ⟨h1, h2, h3, h4⟩]
        · rw [if_pos h1, if_pos h2, if_pos h3, decide_eq_false h4, decide_eq_false (fun h => h4 h.2.2.2)]
      · rw [if_pos h1, if_pos h2, if_neg h3, decide_eq_false (fun h => h3 h.2.2.1)]
    · rw [if_pos h1, if_neg h2, decide_eq_false (fun h => h2 h.2.1)]
  · rw [if_neg h1, decide_eq_false (fun h => h1 h.1)]

theorem right_l0 (l : List Int) (hn : l.length ≤ 1000000000000) : ∀ (r : List Int) (i : Nat) (v : Int), l.drop i = v :: r →
    ∃ t, Ev (fun k => pendulumref18_Right.l0 k l ((i + 1 : Nat) : Int)) t ∧ (t = true → Bnd r ∧ lf 1 (some v) r) := by
  intro r
  induction r with
  | nil =>
    intro i v h
    obtain ⟨hl, hv, hd⟩ := drop_cons h
    have := drop_nil hd
    refine ⟨true, Ev.step (f := fun _ => some _) (fun k => ?_) (Ev.now _), fun _ => ⟨fun y hy => (by cases hy), trivial⟩⟩
    simp only [pendulumref18_Right.l0]
    rw [if_neg (by omega)]
  | cons x r ih =>
    intro i v h
    obtain ⟨hl, hv, hd⟩ := drop_cons h
    obtain ⟨hl2, hx, hd2⟩ := drop_cons hd
    have hw : wrap64 (((i + 1 : Nat) : Int) + 1) = ((i + 1 + 1 : Nat) : Int) := by rw [w64 (by omega) (by omega)]; rfl
    have hw2 : wrap64 (((i + 1 : Nat) : Int) - 1) = (i : Int) := by rw [w64 (by omega) (by omega)]; omega
    by_cases h0 : x < 0
    · refine ⟨false, Ev.step (f := fun _ => some _) (fun k => ?_) (Ev.now _), fun h => by cases h⟩
      simp only [pendulumref18_Right.l0]
      rw [hx, if_pos (by omega), if_pos (by omega), if_pos h0]
    · by_cases h1 : x > 1099511627776
      · refine ⟨false, Ev.step (f := fun _ => some _) (fun k => ?_) (Ev.now _), fun h => by cases h⟩
        simp only [pendulumref18_Right.l0]
        rw [hx, if_pos (by omega), if_pos (by omega), if_neg h0, if_pos h1]
      · by_cases h2 : v ≥ x
        · refine ⟨false, Ev.step (f := fun _ => some _) (fun k => ?_) (Ev.now _), fun h => by cases h⟩
          simp only [pendulumref18_Right.l0]
          rw [hx, hw2, hv, if_pos (by omega), if_pos (by omega), if_neg h0, if_neg h1, if_pos (by omega), if_pos (by omega), if_pos (by omega), if_pos h2]
        · obtain ⟨t, ht, hp⟩ := ih (i + 1) x hd
          refine ⟨t, Ev.step (fun k => ?_) ht, fun e => ?_⟩
          · simp only [pendulumref18_Right.l0]
            rw [hx, hw2, hv, hw, if_pos (by omega), if_pos (by omega), if_neg h0, if_neg h1, if_pos (by omega), if_pos (by omega), if_pos (by omega), if_neg h2]
          · obtain ⟨p1, p2⟩ := hp e
            refine ⟨fun y hy => ?_, by omega, p2⟩
            rcases List.mem_cons.1 hy with rfl | hy
            · omega
            · exact p1 y hy
theorem right_ev (l : List Int) (hn : l.length ≤ 1000000000000) : ∃ t, Ev (fun k => pendulumref18_Right.f k l) t ∧ (t = true → Bnd l ∧ lf 1 none l) := by
  unfold pendulumref18_Right.f
  cases l with
  | nil =>
    refine ⟨true, Ev.step (f := fun _ => some _) (fun k => ?_) (Ev.now _), fun _ => ⟨fun y hy => (by cases hy), trivial⟩⟩
    simp [pendulumref18_Right.l0]
  | cons x r =>
    have hl : (x :: r).length = r.length + 1 := rfl
    have hx : rd (x :: r) 0 = x := rfl
    by_cases h0 : x < 0
    · refine ⟨false, Ev.step (f := fun _ => some _) (fun k => ?_) (Ev.now _), fun h => by cases h⟩
      simp only [pendulumref18_Right.l0]
      rw [hx, if_pos (by omega), if_pos (by omega), if_pos h0]
    · by_cases h1 : x > 1099511627776
      · refine ⟨false, Ev.step (f := fun _ => some _) (fun k => ?_) (Ev.now _), fun h => by cases h⟩
        simp only [pendulumref18_Right.l0]
        rw [hx, if_pos (by omega), if_pos (by omega), if_neg h0, if_pos h1]
      · obtain ⟨t, ht, hp⟩ := right_l0 (x :: r) hn r 0 x rfl
        refine ⟨t, Ev.step (fun k => ?_) ht, fun e => ?_⟩
        · simp only [pendulumref18_Right.l0]
          rw [hx, if_pos (by omega), if_pos (by omega), if_neg h0, if_neg h1, if_neg (by omega), w64 (by omega) (by omega)]; rfl
        · obtain ⟨p1, p2⟩ := hp e
          refine ⟨fun y hy => ?_, p2⟩
          rcases List.mem_cons.1 hy with rfl | hy
          · omega
          · exact p1 y hy

theorem awake_ev : Ev (fun k => pendulumlaw18_awake.f k) true := Ev.of (k := 20) pendulumlaw18_awake.mono (by kernel_rfl)

theorem stt_take {b : Int} : ∀ (l : List Int) (s : Option Int) (m : Nat), ∃ k, stt b s (l.take m) = (stt b s l).take k := by
  intro l
  induction l with
  | nil => intro s m; exact ⟨0, by simp [stt]⟩
  | cons x r ih =>
    intro s m
    cases m with
    | zero => exact ⟨0, by simp [stt]⟩
    | succ m =>
      cases s with
      | none =>
        obtain ⟨k, hk⟩ := ih (some x) m
        exact ⟨k + 1, by simp [stt, hk]⟩
      | some v =>
        by_cases h : x - v ≥ b
        · obtain ⟨k, hk⟩ := ih (some x) m
          exact ⟨k + 1, by simp [stt, hk, h]⟩
        · obtain ⟨k, hk⟩ := ih (some v) m
          exact ⟨k, by simp [stt, hk, h]⟩
theorem lf_take {g : Int} : ∀ (l : List Int) (s : Option Int) (m : Nat), lf g s l → lf g s (l.take m) := by
  intro l
  induction l with
  | nil => intro s m h; simpa using h
  | cons x r ih =>
    intro s m h
    cases m with
    | zero => cases s <;> simp [lf]
    | succ m =>
      cases s with
      | none => simpa [lf] using ih (some x) m (by simpa [lf] using h)
      | some v => exact ⟨h.1, ih (some x) m h.2⟩
theorem cnt_mono (f t t' : Int) (h : t ≤ t') (l : List Int) : cnt f t l ≤ cnt f t' l := by
  induction l with
  | nil => simp [cnt]
  | cons x r ih => rw [cnt_cons, cnt_cons]; split <;> split <;> omega
theorem ints_C {w : World} {A : Option Addr} {l : List Int} (hm : l.length ≤ maxLen) (h : Arg (Value.int .i64) w A l) (m : Nat) (hle : m ≤ l.length) : Kd.C (Kd.int .i64) w A m (l.take m) := by
  unfold maxLen at hm
  have hl : (l.take m).length = m := by rw [List.length_take]; omega
  refine ⟨hl, by omega, fun hp => ?_⟩
  obtain ⟨b, off, h1, h2, h3⟩ := h (by omega)
  refine ⟨_, h1, fun j p hj => ⟨[.int .i64 p], rfl, rfl, fun i u hu => ?_⟩⟩
  have hjm : j < m := by rw [← hl]; exact (List.getElem?_eq_some_iff.1 hj).1
  have hat := h3 j p (by rw [List.getElem?_take, if_pos hjm] at hj; exact hj)
  cases i with
  | zero =>
    obtain rfl := Option.some.inj hu
    rw [Go.WideShapes.add_plain]
    simpa [Kd.int, Kd.scalar] using hat
  | succ i => simp at hu
theorem ints_all {w : World} {A : Option Addr} {l : List Int} (hm : l.length ≤ maxLen) (h : Arg (Value.int .i64) w A l) : Kd.C (Kd.int .i64) w A l.length l := by
  have := ints_C hm h l.length (Nat.le_refl _)
  rwa [List.take_length] at this
section
variable {w : World} {A : Option Addr} {l : List Int} {cap : Nat}
theorem aw : ∀ W, Calls Try.prog 9 #[] W fun e w' => e = .returned (.bool true) ∧ Below W.heap.size W w' := fun W => by
  obtain ⟨k, h⟩ := awake_ev.rounds
  exact pendulumlaw18_awake.calls k _ W h
theorem lg (hl : l.length ≤ cap) (hm : cap ≤ maxLen) (h : Arg (Value.int .i64) w A l) (hB : Bnd l) (hn : l.length ≤ 300) (b g : Int) (r : Bool) (hr : decide (gpa b l ≥ g) = r) :
    ∀ W, Below w.heap.size w W → Calls Try.prog 16 #[.slice A l.length cap, .int .i64 b, .int .i64 g] W fun e w' => e = .returned (.bool r) ∧ Below W.heap.size W w' := fun W hW => by
  obtain ⟨k, hk⟩ := (legal_ev b g l (by omega) hB).rounds
  subst hr
  exact burst_Legal.calls k A cap l b g _ W (Kd.C_below (ints_all (by omega) h) hW) hl hk
theorem lgt (hl : l.length ≤ cap) (hm : cap ≤ maxLen) (h : Arg (Value.int .i64) w A l) (hB : Bnd l) (hn : l.length ≤ 300) (b g : Int) (m : Nat) (hle : m ≤ l.length) (hr : gpa b l ≥ g) :
    ∀ W, Below w.heap.size w W → Calls Try.prog 16 #[.slice A m cap, .int .i64 b, .int .i64 g] W fun e w' => e = .returned (.bool true) ∧ Below W.heap.size W w' := fun W hW => by
  have hBt : Bnd (l.take m) := fun x hx => hB x (List.mem_of_mem_take hx)
  have hlt : (l.take m).length = m := by rw [List.length_take]; omega
  obtain ⟨k, hk⟩ := (legal_ev b g (l.take m) (by omega) hBt).rounds
  have hd : decide (gpa b (l.take m) ≥ g) = true := by
    rw [decide_eq_true_iff, gpa_ge]
    rw [gpa_ge] at hr
    obtain ⟨j, hj⟩ := stt_take (b := b) l none m
    exact ⟨hr.1, by rw [hj]; exact lf_take _ _ _ hr.2⟩
  rw [hd] at hk
  have := burst_Legal.calls k A cap (l.take m) b g true W (by rw [hlt]; exact Kd.C_below (ints_C (by omega) h m hle) hW) (by omega) hk
  rwa [hlt] at this
theorem ms (x b g : Int) (h0 : 0 ≤ x) (h1 : x ≤ 9000000000) (h2 : 1 ≤ b) (h3 : b ≤ 1000) (h4 : 1 ≤ g) (h5 : g ≤ 1049576) : ∀ W, Calls Try.prog 19 #[.int .i64 x, .int .i64 b, .int .i64 g] W fun e w' => e = .returned (.int .i64 (mst x b g)) ∧ Drawn0 W w' := fun W => by
  obtain ⟨k, hk⟩ := (most_ev x b g h0 h1 h2 h3 h4 h5).rounds
  exact burst_Most.calls k x b g _ W hk
theorem inn (hl : l.length ≤ cap) (hm : cap ≤ maxLen) (h : Arg (Value.int .i64) w A l) (hn : l.length ≤ 300) (t : Int) :
    ∀ W, Below w.heap.size w W → Calls Try.prog 18 #[.slice A l.length cap, .int .i64 0, .int .i64 t] W fun e w' => e = .returned (.int .i64 (cnt 0 t l : Int)) ∧ Drawn0 W w' := fun W hW => by
  obtain ⟨k, hk⟩ := (in_ev 0 t l (by omega)).rounds
  exact burst_In.calls k A cap l 0 t _ W (Kd.C_below (ints_all (by omega) h) hW) hl hk
theorem rg (hl : l.length ≤ cap) (hm : cap ≤ maxLen) (h : Arg (Value.int .i64) w A l) (r : Bool) (hr : Ev (fun k => pendulumref18_Right.f k l) r) :
    ∀ W, Below w.heap.size w W → Calls Try.prog 10 #[.slice A l.length cap] W fun e w' => e = .returned (.bool r) ∧ Drawn0 W w' := fun W hW => by
  obtain ⟨k, hk⟩ := hr.rounds
  exact pendulumref18_Right.calls k A cap l _ W (Kd.C_below (ints_all (by omega) h) hW) hl hk
theorem fn (b g : Int) (r : Bool) (hr : decide (1 ≤ b ∧ b ≤ 1000 ∧ 1 ≤ g ∧ g ≤ 1049576) = r) :
    ∀ W, Calls Try.prog 11 #[.int .i64 b, .int .i64 g] W fun e w' => e = .returned (.bool r) ∧ Drawn0 W w' := fun W =>
  pendulumlaw18_fine.calls b g r W (by rw [fine_eq, hr])
end
theorem dr {B : Nat} {w W W' : World} (h : Below B w W) (d : Drawn0 W W') (hB : B ≤ W.heap.size) : Below B w W' := h.trans (d.below.mono hB)
theorem bt {B : Nat} {w W W' : World} (h : Below B w W) (d : Below W.heap.size W W') (hB : B ≤ W.heap.size) : Below B w W' := h.trans (d.mono hB)
set_option maxRecDepth 100000 in
set_option maxHeartbeats 2000000 in
theorem less_main (w : World) (A : Option Addr) (l : List Int) (cap : Nat) (hl : l.length ≤ cap) (hm : cap ≤ maxLen) (ha : Arg (Value.int .i64) w A l) (b g less n : Int) (h1 : 0 ≤ less) (h2 : less ≤ 65535) (h3 : 0 ≤ n) (h4 : n ≤ 255)
    (hn : l.length ≤ 300) (hR : Ev (fun k => pendulumref18_Right.f k l) true) (hB : Bnd l) (hf : 1 ≤ b ∧ b ≤ 1000 ∧ 1 ≤ g ∧ g ≤ 1049576) (hg : gpa b l ≥ g) :
    Calls Try.prog 8 #[.slice A l.length cap, .int .i64 b, .int .i64 g, .int .u16 less, .int .u8 n] w fun e w' => e = .returned (.bool true) ∧ Below w.heap.size w w' := by
  obtain ⟨b1, b2, g1, g2⟩ := hf
  have m0 := Int.emod_nonneg less (show g ≠ 0 by omega)
  have m1 := Int.emod_lt_of_pos less (show 0 < g by omega)
  obtain ⟨q, hq⟩ : ∃ q, less % g = q := ⟨_, rfl⟩
  rw [hq] at m0 m1
  have hqt : Int.tmod less g = q := by rw [Int.tmod_eq_emod_of_nonneg h1]; exact hq
  have p0 := Int.emod_nonneg n (show (l.length : Int) + 1 ≠ 0 by omega)
  have p1 := Int.emod_lt_of_pos n (show 0 < (l.length : Int) + 1 by omega)
  obtain ⟨m, hmm⟩ : ∃ m : Nat, n % ((l.length : Int) + 1) = (m : Int) := ⟨(n % ((l.length : Int) + 1)).toNat, by omega⟩
  rw [hmm] at p0 p1
  have hmt : Int.tmod n ((l.length : Int) + 1) = (m : Int) := by rw [Int.tmod_eq_emod_of_nonneg h3]; exact hmm
  have HA := Lib.hid aw
  have HR := Lib.hid (rg hl hm ha true hR)
  have HF := Lib.hid (fn b g true (by simpa using ⟨b1, b2, g1, g2⟩))
  have HL := Lib.hid (lg hl hm ha hB hn b g true (by simpa using hg))
  have HL2 := Lib.hid (lg hl hm ha hB hn b (1 + q) true (by simp; omega))
  have HL3 := Lib.hid (lgt hl hm ha hB hn b g m (by omega) hg)
  have k1 := mst_anti (w := n) (b := b) (g := g) (g' := 1 + q) h3 b1 (by omega) (by omega)
  have k2 := mst_mono (w := n) (w' := n + 1) (b := b) (g := g) h3 (by omega) b1 g1
  have HM1 := Lib.hid (ms n b g h3 (by omega) b1 b2 g1 g2)
  have HM2 := Lib.hid (ms n b (1 + q) h3 (by omega) b1 b2 (by omega) (by omega))
  have HM3 := Lib.hid (ms (n + 1) b g (by omega) (by omega) b1 b2 g1 g2)
  have k3 := cnt_mono 0 n (n + 1) (by omega) l
  have HI1 := Lib.hid (inn hl hm ha hn n)
  have HI2 := Lib.hid (inn hl hm ha hn (n + 1))
  obtain ⟨x1, hx1⟩ : ∃ x, x = mst n b g := ⟨_, rfl⟩
  obtain ⟨x2, hx2⟩ : ∃ x, x = mst n b (1 + q) := ⟨_, rfl⟩
  obtain ⟨x3, hx3⟩ : ∃ x, x = mst (n + 1) b g := ⟨_, rfl⟩
  obtain ⟨c1, hc1⟩ : ∃ x, x = cnt 0 n l := ⟨_, rfl⟩
  obtain ⟨c2, hc2⟩ : ∃ x, x = cnt 0 (n + 1) l := ⟨_, rfl⟩
  rw [← hx1] at k1 k2 HM1
  rw [← hx2] at k1 HM2
  rw [← hx3] at k2 HM3
  rw [← hc1] at k3 HI1
  rw [← hc2] at k3 HI2
  have k4 : (c1 : Int) ≤ (c2 : Int) := by omega
  have i1 : (l.length : Int) ≤ 300 := by omega
  have i2 : (m : Int) ≤ (l.length : Int) := by omega
  have i3 : m ≤ cap := by omega
  have i4 : (m : Int) ≤ (cap : Int) := by omega
  have i5 : 0 ≤ (m : Int) := by omega
  have gz : (g == 0) = false := by rw [beq_eq_false_iff_ne]; omega
  have lz : ((l.length : Int) + 1 == 0) = false := by rw [beq_eq_false_iff_ne]; omega
  have cm : (cap : Int) ≤ 9223372036854775807 := by unfold maxLen at hm; omega
  clear hg hB hR ha k3 hx1 hx2 hx3 hc1 hc2
  go_enter Try.func8, Try.ntmps8
  go_wp2_with fail
  refine (HA.out _).mono ?_; rintro e w1 ⟨rfl, hb1⟩
  replace hb1 := Lib.hid hb1
  go_wp2_with fail
  refine (HR.out _ hb1.out).mono ?_; rintro e w2 ⟨rfl, hd⟩
  have hb2 := Lib.hid (dr hb1.out hd hb1.out.size)
  clear hd hb1
  go_wp2_with fail
  refine (HF.out _).mono ?_; rintro e w3 ⟨rfl, hd⟩
  have hb3 := Lib.hid (dr hb2.out hd hb2.out.size)
  clear hd hb2
  go_wp2_with fail
  refine (HL.out _ hb3.out).mono ?_; rintro e w4 ⟨rfl, hd⟩
  have hb4 := Lib.hid (bt hb3.out hd hb3.out.size)
  clear hd hb3
  go_wp2_with fail
  refine (HL2.out _ hb4.out).mono ?_; rintro e w5 ⟨rfl, hd⟩
  have hb5 := Lib.hid (bt hb4.out hd hb4.out.size)
  clear hd hb4
  go_wp2_with fail
  refine (HL3.out _ hb5.out).mono ?_; rintro e w6 ⟨rfl, hd⟩
  have hb6 := Lib.hid (bt hb5.out hd hb5.out.size)
  clear hd hb5
  go_wp2_with fail
  refine (HM1.out _).mono ?_; rintro e w7 ⟨rfl, hd⟩
  have hb7 := Lib.hid (dr hb6.out hd hb6.out.size)
  clear hd hb6
  go_wp2_with fail
  refine (HM2.out _).mono ?_; rintro e w8 ⟨rfl, hd⟩
  have hb8 := Lib.hid (dr hb7.out hd hb7.out.size)
  clear hd hb7
  go_wp2_with fail
  refine (HM1.out _).mono ?_; rintro e w9 ⟨rfl, hd⟩
  have hb9 := Lib.hid (dr hb8.out hd hb8.out.size)
  clear hd hb8
  go_wp2_with fail
  refine (HM3.out _).mono ?_; rintro e w10 ⟨rfl, hd⟩
  have hb10 := Lib.hid (dr hb9.out hd hb9.out.size)
  clear hd hb9
  go_wp2_with fail
  refine (HI1.out _ hb10.out).mono ?_; rintro e w11 ⟨rfl, hd⟩
  have hb11 := Lib.hid (dr hb10.out hd hb10.out.size)
  clear hd hb10
  go_wp2_with fail
  refine (HI2.out _ hb11.out).mono ?_; rintro e w12 ⟨rfl, hd⟩
  have hb12 := Lib.hid (dr hb11.out hd hb11.out.size)
  clear hd hb11
  go_wp2
  go_ret
  exact ⟨rfl, hb12.out⟩
set_option maxRecDepth 100000 in
set_option maxHeartbeats 2000000 in
/-- One of the tests ahead fails. -/
theorem less_out (w : World) (A : Option Addr) (l : List Int) (cap : Nat) (b g less n : Int) (p1 p2 p3 p4 : Bool) (hp : (p1 && p2 && p3 && p4) = false)
    (h1 : decide ((300 : Int) < (l.length : Int)) = !p1)
    (HR : p1 = true → ∀ W, Below w.heap.size w W → Calls Try.prog 10 #[.slice A l.length cap] W fun e w' => e = .returned (.bool p2) ∧ Drawn0 W w')
    (HF : p1 = true → ∀ W, Calls Try.prog 11 #[.int .i64 b, .int .i64 g] W fun e w' => e = .returned (.bool p3) ∧ Drawn0 W w')
    (HL : p1 = true → p2 = true → ∀ W, Below w.heap.size w W → Calls Try.prog 16 #[.slice A l.length cap, .int .i64 b, .int .i64 g] W fun e w' => e = .returned (.bool p4) ∧ Below W.heap.size W w')
    (hx : l.length ≤ 9223372036854775807) :
    Calls Try.prog 8 #[.slice A l.length cap, .int .i64 b, .int .i64 g, .int .u16 less, .int .u8 n] w fun e w' => e = .returned (.bool true) ∧ Below w.heap.size w w' := by
  have HA := Lib.hid aw
  cases p1 with
  | false =>
    have h1 : (300 : Int) < (l.length : Int) := by simpa using h1
    clear HR HF HL hp
    go_enter Try.func8, Try.ntmps8
    go_wp2_with fail
    refine (HA.out _).mono ?_; rintro e w1 ⟨rfl, hb1⟩
    replace hb1 := Lib.hid hb1
    go_wp2_with fail
    refine (HA.out _).mono ?_; rintro e w2 ⟨rfl, hb2⟩
    have hb3 := Lib.hid (bt hb1.out hb2 hb1.out.size)
    go_wp2
    go_ret
    exact ⟨rfl, hb3.out⟩
  | true =>
    have h1 : (l.length : Int) ≤ 300 := by have := of_decide_eq_false h1; omega
    replace HR := Lib.hid (HR rfl)
    replace HF := Lib.hid (HF rfl)
    replace HL := Lib.hid (HL rfl)
    cases p2 with
    | false =>
      clear hp
      go_enter Try.func8, Try.ntmps8
      go_wp2_with fail
      refine (HA.out _).mono ?_; rintro e w1 ⟨rfl, hb1⟩
      replace hb1 := Lib.hid hb1
      go_wp2_with fail
      refine (HR.out _ hb1.out).mono ?_; rintro e w2 ⟨rfl, hd⟩
      have hb2 := Lib.hid (dr hb1.out hd hb1.out.size)
      go_wp2_with fail
      refine (HA.out _).mono ?_; rintro e w3 ⟨rfl, hb3⟩
      have hb4 := Lib.hid (bt hb2.out hb3 hb2.out.size)
      go_wp2
      go_ret
      exact ⟨rfl, hb4.out⟩
    | true =>
      replace HL := Lib.hid (HL.out rfl)
      cases p3 with
      | false =>
        clear hp
        go_enter Try.func8, Try.ntmps8
        go_wp2_with fail
        refine (HA.out _).mono ?_; rintro e w1 ⟨rfl, hb1⟩
        replace hb1 := Lib.hid hb1
        go_wp2_with fail
        refine (HR.out _ hb1.out).mono ?_; rintro e w2 ⟨rfl, hd⟩
        have hb2 := Lib.hid (dr hb1.out hd hb1.out.size)
        go_wp2_with fail
        refine (HF.out _).mono ?_; rintro e w3 ⟨rfl, hd3⟩
        have hb3 := Lib.hid (dr hb2.out hd3 hb2.out.size)
        go_wp2_with fail
        refine (HA.out _).mono ?_; rintro e w4 ⟨rfl, hb4⟩
        have hb5 := Lib.hid (bt hb3.out hb4 hb3.out.size)
        go_wp2
        go_ret
        exact ⟨rfl, hb5.out⟩
      | true =>
        cases p4 with
        | true => simp at hp
        | false =>
          clear hp
          go_enter Try.func8, Try.ntmps8
          go_wp2_with fail
          refine (HA.out _).mono ?_; rintro e w1 ⟨rfl, hb1⟩
          replace hb1 := Lib.hid hb1
          go_wp2_with fail
          refine (HR.out _ hb1.out).mono ?_; rintro e w2 ⟨rfl, hd⟩
          have hb2 := Lib.hid (dr hb1.out hd hb1.out.size)
          go_wp2_with fail
          refine (HF.out _).mono ?_; rintro e w3 ⟨rfl, hd3⟩
          have hb3 := Lib.hid (dr hb2.out hd3 hb2.out.size)
          go_wp2_with fail
          refine (HL.out _ hb3.out).mono ?_; rintro e w4 ⟨rfl, hd4⟩
          have hb4 := Lib.hid (bt hb3.out hd4 hb3.out.size)
          go_wp2_with fail
          refine (HA.out _).mono ?_; rintro e w5 ⟨rfl, hb5⟩
          have hb6 := Lib.hid (bt hb4.out hb5 hb4.out.size)
          go_wp2
          go_ret
          exact ⟨rfl, hb6.out⟩
theorem less_walk (w : World) (A : Option Addr) (l : List Int) (cap : Nat) (hl : l.length ≤ cap) (hm : cap ≤ maxLen) (ha : Arg (Value.int .i64) w A l) (b : Int) (wb : (Lit.int .i64 b).wf = true) (g : Int) (wg : (Lit.int .i64 g).wf = true) (less : Int) (wl : (Lit.int .u16 less).wf = true) (n : Int) (wn : (Lit.int .u8 n).wf = true) :
    Calls Try.prog 8 #[.slice A l.length cap, .int .i64 b, .int .i64 g, .int .u16 less, .int .u8 n] w fun e w' => e = .returned (.bool true) ∧ Below w.heap.size w w' := by
  have hx : l.length ≤ 9223372036854775807 := by unfold maxLen at hm; omega
  have hl' := wfu16 wl
  have hn' := wfu8 wn
  by_cases hn : l.length ≤ 300
  · obtain ⟨t, hR, ht⟩ := right_ev l (by omega)
    obtain ⟨f, hf⟩ : ∃ f, decide (1 ≤ b ∧ b ≤ 1000 ∧ 1 ≤ g ∧ g ≤ 1049576) = f := ⟨_, rfl⟩
    obtain ⟨p4, hp4⟩ : ∃ f, decide (gpa b l ≥ g) = f := ⟨_, rfl⟩
    by_cases hall : (true && t && f && p4) = true
    · simp only [Bool.and_eq_true] at hall
      obtain ⟨⟨⟨_, rfl⟩, rfl⟩, rfl⟩ := hall
      exact less_main w A l cap hl hm ha b g less n hl'.1 hl'.2 hn'.1 hn'.2 hn hR (ht rfl).1 (of_decide_eq_true hf) (of_decide_eq_true hp4)
    · exact less_out w A l cap b g less n true t f p4 (by simpa using hall) (by simp; omega) (fun _ => rg hl hm ha t hR) (fun _ => fn b g f hf) (fun _ ht' => lg hl hm ha (ht ht').1 hn b g p4 hp4) hx
  · exact less_out w A l cap b g less n false true true true rfl (by simp; omega) (fun h => by cases h) (fun h => by cases h) (fun h => by cases h) hx
end Go.Proofs.Ytppmgpicommdlaa.Less
