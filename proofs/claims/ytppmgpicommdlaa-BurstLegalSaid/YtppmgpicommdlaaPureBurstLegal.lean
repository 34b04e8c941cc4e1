/- The bursts, whether they are legal, the greatest gap and how many faults lie between two times are what the document says: for every list of faults, length, gap and times. No condition. -/
import Derived.Test.YtppmgpicommdlaaWSized
import Derived.Test.YtppmgpicommdlaaPBurstLegalx3
namespace Go.Proofs.Ytppmgpicommdlaa
theorem PrintWords.sized_ints {H : Type} {enc : TypeId × Value → H} {P : Program} {W : World} {base : Nat} {spare : Nat → Bool} {held : Bool} {t e : TypeId} {k : IntKind} {a : Option Addr} {len cap : Nat} {d : DataW H} {ps : List MemPlace} {ts : List TypeId} {ds : List (DataW H)} {j : Nat}
    (hsz : (DataW.weightsEach P ts ds).all (· ≤ reachBytes) = true) (ht : ts[j]? = some t) (hd : ds[j]? = some d) (hu : P.underlying t = some (.slice e)) (he : P.underlying e = some (.int k)) (hc : P.cellsOf e = 1) {B : Nat} (hB : P.bytesOf e = B)
    (h : DataW.Trod enc P W base spare held t (.slice a len cap) d ps) : len * B ≤ 140737488351232 := Go.Proofs.YtppmgpicommdlaaW.PrintWords.sized_ints hsz ht hd hu he hc hB h
end Go.Proofs.Ytppmgpicommdlaa
namespace Go.Proofs.Ytppmgpicommdlaa.Pure
open Go.RowKit Go.Proofs.Ytppmgpicommdlaa.PBurstLegal Go.Proofs.YtppmgpicommdlaaW.PrintWords Go.Proofs.YtppmgpicommdlaaW.PrintLast

theorem w64 {x : Int} (h0 : -9223372036854775808 ≤ x) (h1 : x ≤ 9223372036854775807) : wrap64 x = x := by unfold wrap64; omega
theorem wf64 {n : Int} (h : (Lit.int .i64 n).wf = true) : -9223372036854775808 ≤ n ∧ n ≤ 9223372036854775807 := by
  simp [Lit.wf, IntKind.min, IntKind.max, IntKind.signed, IntKind.bits] at h
  omega
theorem wfu8 {n : Int} (h : (Lit.int .u8 n).wf = true) : 0 ≤ n ∧ n ≤ 255 := by
  simp [Lit.wf, IntKind.min, IntKind.max, IntKind.signed, IntKind.bits] at h
  omega
theorem wfu16 {n : Int} (h : (Lit.int .u16 n).wf = true) : 0 ≤ n ∧ n ≤ 65535 := by
  simp [Lit.wf, IntKind.min, IntKind.max, IntKind.signed, IntKind.bits] at h
  omega
theorem wfu32 {n : Int} (h : (Lit.int .u32 n).wf = true) : 0 ≤ n ∧ n ≤ 4294967295 := by
  simp [Lit.wf, IntKind.min, IntKind.max, IntKind.signed, IntKind.bits] at h
  omega
theorem wfu64 {n : Int} (h : (Lit.int .u64 n).wf = true) : 0 ≤ n ∧ n ≤ 18446744073709551615 := by
  simp [Lit.wf, IntKind.min, IntKind.max, IntKind.signed, IntKind.bits] at h
  omega
theorem ite_true' {α : Type} {c : Prop} [Decidable c] (h : c) (a b : α) : (if c then a else b) = a := if_pos h
theorem ite_false' {α : Type} {c : Prop} [Decidable c] (h : ¬ c) (a b : α) : (if c then a else b) = b := if_neg h
theorem drop_cons {l r : List Int} {i : Nat} {x : Int} (h : l.drop i = x :: r) : i < l.length ∧ rd l (i : Int) = x ∧ l.drop (i + 1) = r := by
  have hl : i < l.length := by
    apply Classical.byContradiction; intro hn
    rw [List.drop_eq_nil_of_le (by omega)] at h; cases h
  rw [List.drop_eq_getElem_cons hl] at h
  injection h with h1 h2
  refine ⟨hl, ?_, h2⟩
  simp [rd, List.getD_eq_getElem?_getD, hl, h1]
theorem drop_nil {l : List Int} {i : Nat} (h : l.drop i = []) : l.length ≤ i := by
  simpa using h
theorem w1 {n : Nat} (h : n ≤ 1000000000000000) : wrap64 ((n : Int) + 1) = ((n + 1 : Nat) : Int) := by rw [w64 (by omega) (by omega)]; rfl
theorem w2 {n : Nat} (h : n ≤ 1000000000000000) : wrap64 (((n + 1 : Nat) : Int) - 1) = (n : Int) := by rw [w64 (by omega) (by omega)]; omega

/-- The beginnings, behind the beginning s (none: there is none yet). -/
def stt (b : Int) : Option Int → List Int → List Int
  | _, [] => []
  | none, x :: l => x :: stt b (some x) l
  | some s, x :: l => if x - s ≥ b then x :: stt b (some x) l else stt b (some s) l
/-- Times. -/
def Bnd (l : List Int) : Prop := ∀ x ∈ l, 0 ≤ x ∧ x ≤ 1099511627776
/-- Each is at least g behind the one ahead. -/
def lf (g : Int) : Option Int → List Int → Prop
  | _, [] => True
  | none, x :: l => lf g (some x) l
  | some v, x :: l => x - v ≥ g ∧ lf g (some x) l
theorem rd_last (pre : List Int) (v : Int) (h : pre.length < 1000000000000000) : rd (pre ++ [v]) (wrap64 (((pre ++ [v]).length : Int) - 1)) = v := by
  have e : wrap64 (((pre ++ [v]).length : Int) - 1) = pre.length := by rw [List.length_append, List.length_singleton, w64 (by omega) (by omega)]; omega
  rw [e]; simp [rd]
theorem Bnd.tail {x : Int} {l : List Int} (h : Bnd (x :: l)) : Bnd l := fun y hy => h y (List.mem_cons_of_mem _ hy)
theorem Bnd.head {x : Int} {l : List Int} (h : Bnd (x :: l)) : 0 ≤ x ∧ x ≤ 1099511627776 := h x (List.mem_cons_self ..)
theorem starts_l0 (b : Int) (l : List Int) (hn : l.length ≤ 1000000000000) : ∀ (r : List Int) (i : Nat) (pre : List Int) (v : Int), l.drop i = r → Bnd r → 0 ≤ v → v ≤ 1099511627776 → pre.length ≤ i →
    Ev (fun k => burst_Starts.l0 k b (pre ++ [v]) l (l.length : Int) (i : Int)) (pre ++ [v] ++ stt b (some v) r) := by
  intro r
  induction r with
  | nil =>
    intro i pre v h _ _ _ _
    have := drop_nil h
    refine Ev.step (f := fun _ => some _) (fun k => ?_) (Ev.now _)
    simp only [burst_Starts.l0]
    rw [if_neg (by omega)]; simp [stt]
  | cons x r ih =>
    intro i pre v h hB hv0 hv1 hp
    obtain ⟨hl, hx, hd⟩ := drop_cons h
    have hxb := hB.head
    have hw : wrap64 ((i : Int) + 1) = ((i + 1 : Nat) : Int) := by rw [w64 (by omega) (by omega)]; rfl
    have hlast := rd_last pre v (by omega)
    have hlen : wrap64 (((pre ++ [v]).length : Int) - 1) = pre.length := by rw [List.length_append, List.length_singleton, w64 (by omega) (by omega)]; omega
    by_cases hb : x - v ≥ b
    · have e : pre ++ [v] ++ stt b (some v) (x :: r) = (pre ++ [v]) ++ [x] ++ stt b (some x) r := by simp [stt, if_pos hb]
      rw [e]
      refine Ev.step (fun k => ?_) (ih (i + 1) (pre ++ [v]) x hd hB.tail hxb.1 hxb.2 (by simp; omega))
      simp only [burst_Starts.l0]
      rw [if_pos (by omega), if_pos (by omega), if_pos (by omega), if_neg (by simp; omega), hlast, hx, w64 (x := x - v) (by omega) (by omega), hw, hlen, if_pos (by omega), if_pos (by simp; omega), if_pos hb, if_pos (by simp; omega)]
    · have e : pre ++ [v] ++ stt b (some v) (x :: r) = pre ++ [v] ++ stt b (some v) r := by simp only [stt, if_neg hb]
      rw [e]
      refine Ev.step (fun k => ?_) (ih (i + 1) pre v hd hB.tail hv0 hv1 (by omega))
      simp only [burst_Starts.l0]
      rw [if_pos (by omega), if_pos (by omega), if_pos (by omega), if_neg (by simp; omega), hlast, hx, w64 (x := x - v) (by omega) (by omega), hw, hlen, if_pos (by omega), if_pos (by simp; omega), if_neg hb]
theorem starts_ev (b : Int) (l : List Int) (hn : l.length ≤ 1000000000000) (hB : Bnd l) : Ev (fun k => burst_Starts.f k l b) (stt b none l) := by
  unfold burst_Starts.f
  cases l with
  | nil =>
    refine Ev.step (f := fun _ => some _) (fun k => ?_) (Ev.now _)
    simp [burst_Starts.l0, stt]
  | cons x r =>
    have hl : (x :: r).length = r.length + 1 := rfl
    refine Ev.step (fun k => ?_) (starts_l0 b (x :: r) hn r 1 [] x rfl hB.tail hB.head.1 hB.head.2 (by simp))
    simp only [burst_Starts.l0]
    rw [if_pos (by omega), if_pos (by omega), if_pos (by omega), if_pos (by simp), if_pos (by simp), w64 (by omega) (by omega)]; rfl
theorem stt_mem {b : Int} : ∀ {l : List Int} {s : Option Int} {y : Int}, y ∈ stt b s l → y ∈ l := by
  intro l
  induction l with
  | nil => intro s y h; simp [stt] at h
  | cons x r ih =>
    intro s y h
    cases s with
    | none =>
      simp only [stt, List.mem_cons] at h ⊢
      exact h.imp_right ih
    | some v =>
      simp only [stt] at h
      split at h
      · simp only [List.mem_cons] at h ⊢; exact h.imp_right ih
      · exact List.mem_cons_of_mem _ (ih h)
theorem stt_bnd {b : Int} {l : List Int} {s : Option Int} (h : Bnd l) : Bnd (stt b s l) := fun y hy => h y (stt_mem hy)
theorem stt_len {b : Int} : ∀ (l : List Int) (s : Option Int), (stt b s l).length ≤ l.length := by
  intro l
  induction l with
  | nil => intro s; simp [stt]
  | cons x r ih =>
    intro s
    cases s with
    | none => simp only [stt, List.length_cons]; have := ih (some x); omega
    | some v =>
      simp only [stt]; split
      · simp only [List.length_cons]; have := ih (some x); omega
      · simp only [List.length_cons]; have := ih (some v); omega
theorem stt_lf {b : Int} : ∀ (l : List Int) (s : Option Int), lf b s (stt b s l) := by
  intro l
  induction l with
  | nil => intro s; simp [stt, lf]
  | cons x r ih =>
    intro s
    cases s with
    | none => simp only [stt, lf]; exact ih (some x)
    | some v =>
      simp only [stt]; split
      · exact ⟨by assumption, ih (some x)⟩
      · exact ih (some v)
theorem lf_mono {g g' : Int} (h : g' ≤ g) : ∀ {l : List Int} {s : Option Int}, lf g s l → lf g' s l := by
  intro l
  induction l with
  | nil => intro s _; simp [lf]
  | cons x r ih =>
    intro s hl
    cases s with
    | none => exact ih (s := some x) hl
    | some v => exact ⟨by have := hl.1; omega, ih (s := some x) hl.2⟩

/-- The least of m and of the distances behind v. -/
def gp : Int → Int → List Int → Int
  | m, _, [] => m
  | m, v, x :: l => gp (mn m (x - v)) x l
theorem mn_ge {a b c : Int} : mn a b ≥ c ↔ a ≥ c ∧ b ≥ c := by unfold mn; split <;> omega
theorem gp_ge {g : Int} : ∀ {l : List Int} {m v : Int}, gp m v l ≥ g ↔ m ≥ g ∧ lf g (some v) l := by
  intro l
  induction l with
  | nil => intro m v; simp [gp, lf]
  | cons x r ih =>
    intro m v
    simp only [gp, lf, ih, mn_ge]
    exact ⟨fun h => ⟨h.1.1, h.1.2, h.2⟩, fun h => ⟨⟨h.1, h.2.1⟩, h.2.2⟩⟩
theorem gp_le : ∀ (l : List Int) (m v : Int), gp m v l ≤ m := by
  intro l
  induction l with
  | nil => intro m v; simp [gp]
  | cons x r ih => intro m v; have := ih (mn m (x - v)) x; simp only [gp]; have h2 : mn m (x - v) ≤ m := by unfold mn; split <;> omega
                   omega
theorem gap_l0 (s : List Int) (hn : s.length ≤ 1000000000000) : ∀ (r : List Int) (i : Nat) (m v : Int), s.drop i = v :: r → Bnd (v :: r) → Ev (fun k => burst_Gap.l0 k m s ((s.length : Int) - 1) (i : Int)) (gp m v r) := by
  intro r
  induction r with
  | nil =>
    intro i m v h _
    obtain ⟨hl, hx, hd⟩ := drop_cons h
    have := drop_nil hd
    refine Ev.step (f := fun _ => some _) (fun k => ?_) (Ev.now _)
    simp only [burst_Gap.l0]
    rw [if_neg (by omega)]; rfl
  | cons x r ih =>
    intro i m v h hB
    obtain ⟨hl, hv, hd⟩ := drop_cons h
    obtain ⟨hl2, hx, hd2⟩ := drop_cons hd
    have hvb := hB.head
    have hxb := hB.tail.head
    have hw : wrap64 ((i : Int) + 1) = ((i + 1 : Nat) : Int) := by rw [w64 (by omega) (by omega)]; rfl
    refine Ev.step (fun k => ?_) (ih (i + 1) (mn m (x - v)) x hd hB.tail)
    simp only [burst_Gap.l0]
    rw [hw, hx, hv, w64 (x := x - v) (by omega) (by omega), if_pos (by omega), if_pos (by omega), if_pos (by omega), if_pos (by omega), if_pos (by omega)]
/-- The greatest gap of which faults are legal. -/
def gpa (b : Int) (l : List Int) : Int := match stt b none l with
  | [] => 1049576
  | v :: r => gp 1049576 v r
theorem gap_ev (b : Int) (l : List Int) (hn : l.length ≤ 1000000000000) (hB : Bnd l) : Ev (fun k => burst_Gap.f k l b) (gpa b l) := by
  unfold burst_Gap.f
  refine Ev.bind (starts_ev b l hn hB) ?_
  have hlen := stt_len (b := b) l none
  have hb := stt_bnd (b := b) (s := none) hB
  unfold gpa
  generalize stt b none l = s at *
  rw [w64 (by omega) (by omega)]
  cases s with
  | nil =>
    refine Ev.step (f := fun _ => some _) (fun k => ?_) (Ev.now _)
    simp [burst_Gap.l0]
  | cons v r => exact gap_l0 (v :: r) (by omega) r 0 1049576 v rfl hb
theorem gpa_ge (b g : Int) (l : List Int) : gpa b l ≥ g ↔ 1049576 ≥ g ∧ lf g none (stt b none l) := by
  unfold gpa
  cases stt b none l with
  | nil => simp [lf]
  | cons v r => exact gp_ge
theorem gpa_le (b : Int) (l : List Int) : gpa b l ≤ 1049576 := by
  unfold gpa
  cases stt b none l with
  | nil => simp
  | cons v r => exact gp_le _ _ _
theorem legal_ev (b g : Int) (l : List Int) (hn : l.length ≤ 1000000000000) (hB : Bnd l) : Ev (fun k => burst_Legal.f k l b g) (decide (gpa b l ≥ g)) := by
  unfold burst_Legal.f
  exact Ev.bind (gap_ev b l hn hB) (Ev.now _)

theorem right_l0 (l : List Int) (hn : l.length ≤ 1000000000000) : ∀ (r : List Int) (i : Nat) (v : Int), l.drop i = v :: r →
    ∃ t, Ev (fun k => pendulumref18_Right.l0 k l ((i + 1 : Nat) : Int)) t ∧ (t = true → Bnd r ∧ lf 1 (some v) r) := by
  intro r
  induction r with
  | nil =>
    intro i v h
    obtain ⟨hl, hv, hd⟩ := drop_cons h
    have := drop_nil hd
    refine ⟨true, Ev.step (f := fun _ => some _) (fun k => ?_) (Ev.now _), fun _ => ⟨fun y hy => (by cases hy), trivial⟩⟩
    simp only [pendulumref18_Right.l0]
    rw [if_neg (by omega)]
  | cons x r ih =>
    intro i v h
    obtain ⟨hl, hv, hd⟩ := drop_cons h
    obtain ⟨hl2, hx, hd2⟩ := drop_cons hd
    have hw : wrap64 (((i + 1 : Nat) : Int) + 1) = ((i + 1 + 1 : Nat) : Int) := by rw [w64 (by omega) (by omega)]; rfl
    have hw2 : wrap64 (((i + 1 : Nat) : Int) - 1) = (i : Int) := by rw [w64 (by omega) (by omega)]; omega
    by_cases h0 : x < 0
    · refine ⟨false, Ev.step (f := fun _ => some _) (fun k => ?_) (Ev.now _), fun h => by cases h⟩
      simp only [pendulumref18_Right.l0]
      rw [hx, if_pos (by omega), if_pos (by omega), if_pos h0]
    · by_cases h1 : x > 1099511627776
      · refine ⟨false, Ev.step (f := fun _ => some _) (fun k => ?_) (Ev.now _), fun h => by cases h⟩
        simp only [pendulumref18_Right.l0]
        rw [hx, if_pos (by omega), if_pos (by omega), if_neg h0, if_pos h1]
      · by_cases h2 : v ≥ x
        · refine ⟨false, Ev.step (f := fun _ => some _) (fun k => ?_) (Ev.now _), fun h => by cases h⟩
          simp only [pendulumref18_Right.l0]
          rw [hx, hw2, hv, if_pos (by omega), if_pos (by omega), if_neg h0, if_neg h1, if_pos (by omega), if_pos (by omega), if_pos (by omega), if_pos h2]
        · obtain ⟨t, ht, hp⟩ := ih (i + 1) x hd
          refine ⟨t, Ev.step (fun k => ?_) ht, fun e => ?_⟩
          · simp only [pendulumref18_Right.l0]
            rw [hx, hw2, hv, hw, if_pos (by omega), if_pos (by omega), if_neg h0, if_neg h1, if_pos (by omega), if_pos (by omega), if_pos (by omega), if_neg h2]
          · obtain ⟨p1, p2⟩ := hp e
            refine ⟨fun y hy => ?_, by omega, p2⟩
            rcases List.mem_cons.1 hy with rfl | hy
            · omega
            · exact p1 y hy
theorem right_ev (l : List Int) (hn : l.length ≤ 1000000000000) : ∃ t, Ev (fun k => pendulumref18_Right.f k l) t ∧ (t = true → Bnd l ∧ lf 1 none l) := by
  unfold pendulumref18_Right.f
  cases l with
  | nil =>
    refine ⟨true, Ev.step (f := fun _ => some _) (fun k => ?_) (Ev.now _), fun _ => ⟨fun y hy => (by cases hy), trivial⟩⟩
    simp [pendulumref18_Right.l0]
  | cons x r =>
    have hl : (x :: r).length = r.length + 1 := rfl
    have hx : rd (x :: r) 0 = x := rfl
    by_cases h0 : x < 0
    · refine ⟨false, Ev.step (f := fun _ => some _) (fun k => ?_) (Ev.now _), fun h => by cases h⟩
      simp only [pendulumref18_Right.l0]
      rw [hx, if_pos (by omega), if_pos (by omega), if_pos h0]
    · by_cases h1 : x > 1099511627776
      · refine ⟨false, Ev.step (f := fun _ => some _) (fun k => ?_) (Ev.now _), fun h => by cases h⟩
        simp only [pendulumref18_Right.l0]
        rw [hx, if_pos (by omega), if_pos (by omega), if_neg h0, if_pos h1]
      · obtain ⟨t, ht, hp⟩ := right_l0 (x :: r) hn r 0 x rfl
        refine ⟨t, Ev.step (fun k => ?_) ht, fun e => ?_⟩
        · simp only [pendulumref18_Right.l0]
          rw [hx, if_pos (by omega), if_pos (by omega), if_neg h0, if_neg h1, if_neg (by omega), w64 (by omega) (by omega)]; rfl
        · obtain ⟨p1, p2⟩ := hp e
          refine ⟨fun y hy => ?_, p2⟩
          rcases List.mem_cons.1 hy with rfl | hy
          · omega
          · exact p1 y hy

theorem refstarts_l1 (b : Int) (l : List Int) (hb : 1 ≤ b) (hb2 : b ≤ 1000000) (hn : l.length ≤ 1000000000000) : ∀ (r : List Int) (i : Nat) (out : List Int) (v : Int), l.drop i = r → Bnd r → 0 ≤ v → v ≤ 1099511627776 → out.length ≤ i →
    Ev (fun k => pendulumref18_Starts.l1 k l b out (i : Int) v) (out ++ stt b (some v) r) := by
  intro r
  induction r with
  | nil =>
    intro i out v h _ _ _ _
    have := drop_nil h
    have e0 : Ev (fun k => pendulumref18_Starts.l0 k l b out (i : Int)) out := by
      refine Ev.step (f := fun _ => some _) (fun k => ?_) (Ev.now _)
      simp only [pendulumref18_Starts.l0]
      rw [if_neg (by omega)]
    rw [show out ++ stt b (some v) [] = out by simp [stt]]
    refine Ev.step (fun k => ?_) e0
    simp only [pendulumref18_Starts.l1]
    rw [if_neg (by omega)]
  | cons x r ih =>
    intro i out v h hB hv0 hv1 hp
    obtain ⟨hl, hx, hd⟩ := drop_cons h
    have hxb := hB.head
    have hw : wrap64 ((i : Int) + 1) = ((i + 1 : Nat) : Int) := by rw [w64 (by omega) (by omega)]; rfl
    by_cases hy : x - v ≥ b
    · rw [show out ++ stt b (some v) (x :: r) = (out ++ [x]) ++ stt b (some x) r by simp only [stt, if_pos hy]; simp]
      refine Ev.step (f := fun k => pendulumref18_Starts.l0 k l b out (i : Int)) (fun k => ?_) ?_
      · simp only [pendulumref18_Starts.l1]
        rw [hx, w64 (x := v + b) (by omega) (by omega), if_pos (by omega), if_pos (by omega), if_neg (by omega)]
      · refine Ev.step (f := fun k => pendulumref18_Starts.l1 k l b (out ++ [x]) (i : Int) x) (fun k => ?_) ?_
        · simp only [pendulumref18_Starts.l0]
          rw [hx, if_pos (by omega), if_pos (by omega), if_pos (by omega)]
        · refine Ev.step (fun k => ?_) (ih (i + 1) (out ++ [x]) x hd hB.tail hxb.1 hxb.2 (by simp; omega))
          simp only [pendulumref18_Starts.l1]
          rw [hx, w64 (x := x + b) (by omega) (by omega), hw, if_pos (by omega), if_pos (by omega), if_pos (by omega)]
    · rw [show out ++ stt b (some v) (x :: r) = out ++ stt b (some v) r by simp only [stt, if_neg hy]]
      refine Ev.step (fun k => ?_) (ih (i + 1) out v hd hB.tail hv0 hv1 (by omega))
      simp only [pendulumref18_Starts.l1]
      rw [hx, w64 (x := v + b) (by omega) (by omega), hw, if_pos (by omega), if_pos (by omega), if_pos (by omega)]
theorem refstarts_ev (b : Int) (l : List Int) (hb : 1 ≤ b) (hb2 : b ≤ 1000000) (hn : l.length ≤ 1000000000000) (hB : Bnd l) : Ev (fun k => pendulumref18_Starts.f k l b) (stt b none l) := by
  unfold pendulumref18_Starts.f
  cases l with
  | nil =>
    refine Ev.step (f := fun _ => some _) (fun k => ?_) (Ev.now _)
    simp [pendulumref18_Starts.l0, stt]
  | cons x r =>
    have hl : (x :: r).length = r.length + 1 := rfl
    have hx : rd (x :: r) 0 = x := rfl
    have hxb := hB.head
    refine Ev.step (f := fun k => pendulumref18_Starts.l1 k (x :: r) b [x] 0 x) (fun k => ?_) ?_
    · simp only [pendulumref18_Starts.l0]
      rw [hx, if_pos (by omega), if_pos (by omega), if_pos (by simp)]; rfl
    · refine Ev.step (fun k => ?_) (refstarts_l1 b (x :: r) hb hb2 hn r 1 [x] x rfl hB.tail hxb.1 hxb.2 (by simp))
      simp only [pendulumref18_Starts.l1]
      rw [hx, w64 (x := x + b) (by omega) (by omega), if_pos (by omega), if_pos (by omega), if_pos (by omega), w64 (by omega) (by omega)]; rfl

instance lfDec (g : Int) : (s : Option Int) → (l : List Int) → Decidable (lf g s l)
  | none, [] => isTrue trivial
  | some _, [] => isTrue trivial
  | none, x :: l => lfDec g (some x) l
  | some v, x :: l => match lfDec g (some x) l with
    | isTrue h => if h2 : x - v ≥ g then isTrue ⟨h2, h⟩ else isFalse (fun e => h2 e.1)
    | isFalse h => isFalse (fun e => h e.2)
theorem reflegal_l0 (g : Int) (s : List Int) (hn : s.length ≤ 1000000000000) : ∀ (r : List Int) (i : Nat) (v : Int), s.drop i = v :: r → Bnd (v :: r) → Ev (fun k => pendulumref18_Legal.l0 k g s ((i + 1 : Nat) : Int)) (decide (lf g (some v) r)) := by
  intro r
  induction r with
  | nil =>
    intro i v h _
    obtain ⟨hl, hv, hd⟩ := drop_cons h
    have := drop_nil hd
    refine Ev.step (f := fun _ => some _) (fun k => ?_) (Ev.now _)
    simp only [pendulumref18_Legal.l0]
    rw [if_neg (by omega), decide_eq_true (show lf g (some v) [] from trivial)]
  | cons x r ih =>
    intro i v h hB
    obtain ⟨hl, hv, hd⟩ := drop_cons h
    obtain ⟨hl2, hx, hd2⟩ := drop_cons hd
    have hvb := hB.head
    have hxb := hB.tail.head
    have hw : wrap64 (((i + 1 : Nat) : Int) + 1) = ((i + 1 + 1 : Nat) : Int) := by rw [w64 (by omega) (by omega)]; rfl
    have hw2 : wrap64 (((i + 1 : Nat) : Int) - 1) = (i : Int) := by rw [w64 (by omega) (by omega)]; omega
    by_cases hy : x - v < g
    · rw [decide_eq_false (show ¬ lf g (some v) (x :: r) from fun e => by have := e.1; omega)]
      refine Ev.step (f := fun _ => some _) (fun k => ?_) (Ev.now _)
      simp only [pendulumref18_Legal.l0]
      rw [hw2, hx, hv, w64 (x := x - v) (by omega) (by omega), if_pos (by omega), if_pos (by omega), if_pos (by omega), if_pos (by omega), if_pos hy]
    · rw [show decide (lf g (some v) (x :: r)) = decide (lf g (some x) r) from decide_eq_decide.2 ⟨fun e => e.2, fun e => ⟨by omega, e⟩⟩]
      refine Ev.step (fun k => ?_) (ih (i + 1) x hd hB.tail)
      simp only [pendulumref18_Legal.l0]
      rw [hw2, hx, hv, hw, w64 (x := x - v) (by omega) (by omega), if_pos (by omega), if_pos (by omega), if_pos (by omega), if_pos (by omega), if_neg hy]
theorem reflegal_ev (b g : Int) (l : List Int) (hb : 1 ≤ b) (hb2 : b ≤ 1000000) (hn : l.length ≤ 1000000000000) (hB : Bnd l) : Ev (fun k => pendulumref18_Legal.f k l b g) (decide (lf g none (stt b none l))) := by
  unfold pendulumref18_Legal.f
  refine Ev.bind (refstarts_ev b l hb hb2 hn hB) ?_
  have hlen := stt_len (b := b) l none
  have hbs := stt_bnd (b := b) (s := none) hB
  generalize stt b none l = s at *
  cases s with
  | nil =>
    refine Ev.step (f := fun _ => some _) (fun k => ?_) (Ev.now _)
    simp only [pendulumref18_Legal.l0]
    rw [if_neg (by simp), decide_eq_true (show lf g none [] from trivial)]
  | cons v r => exact reflegal_l0 g (v :: r) (by omega) r 0 v rfl hbs

theorem same_l0 (l : List Int) (hn : l.length ≤ 1000000000000) : ∀ (r : List Int) (i : Nat), l.drop i = r → Ev (fun k => pendulumref18_Same.l0 k l l (i : Int)) true := by
  intro r
  induction r with
  | nil =>
    intro i h
    have := drop_nil h
    refine Ev.step (f := fun _ => some _) (fun k => ?_) (Ev.now _)
    simp only [pendulumref18_Same.l0]
    rw [if_neg (by omega)]
  | cons x r ih =>
    intro i h
    obtain ⟨hl, hx, hd⟩ := drop_cons h
    refine Ev.step (fun k => ?_) (ih (i + 1) hd)
    simp only [pendulumref18_Same.l0]
    rw [if_pos (by omega), if_pos (by omega), if_pos (by omega), if_pos trivial, w64 (by omega) (by omega)]; rfl
theorem same_ev (l : List Int) (hn : l.length ≤ 1000000000000) : Ev (fun k => pendulumref18_Same.f k l l) true := by
  unfold pendulumref18_Same.f
  simp only [if_true]
  exact same_l0 l hn l 0 rfl

/-- How many lie from f on, ahead of t. -/
def cnt (f t : Int) (l : List Int) : Nat := (l.filter (fun x => decide (f ≤ x ∧ x < t))).length
theorem cnt_cons (f t x : Int) (l : List Int) : cnt f t (x :: l) = (if f ≤ x ∧ x < t then 1 else 0) + cnt f t l := by
  unfold cnt
  by_cases h : f ≤ x ∧ x < t
  · rw [if_pos h, List.filter_cons_of_pos (by simpa using h)]; simp; omega
  · rw [if_neg h, List.filter_cons_of_neg (by simpa using h)]; simp
theorem in_l0 (f t : Int) (l : List Int) (hn : l.length ≤ 1000000000000) : ∀ (r : List Int) (i c : Nat), l.drop i = r → c ≤ i → Ev (fun k => burst_In.l0 k f t (c : Int) l (l.length : Int) (i : Int)) ((c + cnt f t r : Nat) : Int) := by
  intro r
  induction r with
  | nil =>
    intro i c h _
    have := drop_nil h
    refine Ev.step (f := fun _ => some _) (fun k => ?_) (Ev.now _)
    simp only [burst_In.l0]
    rw [if_neg (by omega)]; rfl
  | cons x r ih =>
    intro i c h hc
    obtain ⟨hl, hx, hd⟩ := drop_cons h
    have hw : wrap64 ((i : Int) + 1) = ((i + 1 : Nat) : Int) := by rw [w64 (by omega) (by omega)]; rfl
    have hwc : wrap64 ((c : Int) + 1) = ((c + 1 : Nat) : Int) := by rw [w64 (by omega) (by omega)]; rfl
    rw [cnt_cons]
    by_cases hy : f ≤ x ∧ x < t
    · rw [if_pos hy, show c + (1 + cnt f t r) = (c + 1) + cnt f t r by omega]
      refine Ev.step (fun k => ?_) (ih (i + 1) (c + 1) hd (by omega))
      simp only [burst_In.l0]
      rw [hx, hw, hwc, if_pos (by omega), if_pos (by omega), if_pos (by omega), if_pos hy.1, if_pos hy.2]
    · rw [if_neg hy, Nat.zero_add]
      refine Ev.step (fun k => ?_) (ih (i + 1) c hd (by omega))
      simp only [burst_In.l0]
      rw [hx, hw, if_pos (by omega), if_pos (by omega), if_pos (by omega)]
      by_cases h1 : x ≥ f
      · rw [if_pos h1, if_neg (fun h2 => hy ⟨h1, h2⟩)]
      · rw [if_neg h1]
theorem in_ev (f t : Int) (l : List Int) (hn : l.length ≤ 1000000000000) : Ev (fun k => burst_In.f k l f t) (cnt f t l : Int) := by
  unfold burst_In.f
  have := in_l0 f t l hn l 0 0 rfl (by omega)
  simpa using this

theorem fine_eq (b g : Int) : pendulumlaw18_fine.f b g = some (decide (1 ≤ b ∧ b ≤ 1000 ∧ 1 ≤ g ∧ g ≤ 1049576)) := by
  unfold pendulumlaw18_fine.f
  by_cases h1 : b ≥ 1
  · by_cases h2 : b ≤ 1000
    · by_cases h3 : g ≥ 1
      · by_cases h4 : g ≤ 1049576
        · rw [if_pos h1, if_pos h2, if_pos h3, decide_eq_true h4, decide_eq_true ⟨h1, h2, h3, h4⟩]
        · rw [if_pos h1, if_pos h2, if_pos h3, decide_eq_false h4, decide_eq_false (fun h => h4 h.2.2.2)]
      · rw [if_pos h1, if_pos h2, if_neg h3, decide_eq_false (fun h => h3 h.2.2.1)]
    · rw [if_pos h1, if_neg h2, decide_eq_false (fun h => h2 h.2.1)]
  · rw [if_neg h1, decide_eq_false (fun h => h1 h.1)]

theorem awake_ev : Ev (fun k => pendulumlaw18_awake.f k) true := Ev.of (k := 20) pendulumlaw18_awake.mono (by kernel_rfl)

theorem law_l0 (l : List Int) (f t : Int) (hn : l.length ≤ 1000000000000) : ∀ (r : List Int) (i c : Nat), l.drop i = r → c ≤ i → c + cnt f t r = cnt f t l → Ev (fun k => pendulumlaw18_BurstLegal.l0 k l f t (c : Int) (i : Int)) true := by
  intro r
  induction r with
  | nil =>
    intro i c h _ hc
    have := drop_nil h
    have hc' : c = cnt f t l := by simpa [cnt] using hc
    refine Ev.step (f := fun k => (burst_In.f k l f t).bind fun x => some (x == (c : Int))) (fun k => ?_) (Ev.bind (in_ev f t l hn) ?_)
    · simp only [pendulumlaw18_BurstLegal.l0]
      rw [if_neg (by omega)]
    · rw [hc']; simp only [BEq.rfl]; exact Ev.now _
  | cons x r ih =>
    intro i c h hc he
    obtain ⟨hl, hx, hd⟩ := drop_cons h
    have hw : wrap64 ((i : Int) + 1) = ((i + 1 : Nat) : Int) := by rw [w64 (by omega) (by omega)]; rfl
    have hwc : wrap64 ((c : Int) + 1) = ((c + 1 : Nat) : Int) := by rw [w64 (by omega) (by omega)]; rfl
    rw [cnt_cons] at he
    by_cases hy : f ≤ x ∧ x < t
    · rw [if_pos hy] at he
      refine Ev.step (fun k => ?_) (ih (i + 1) (c + 1) hd (by omega) (by omega))
      simp only [pendulumlaw18_BurstLegal.l0]
      rw [hx, hw, hwc, if_pos (by omega), if_pos (by omega), if_pos hy.1, if_pos hy.2]
    · rw [if_neg hy] at he
      refine Ev.step (fun k => ?_) (ih (i + 1) c hd (by omega) (by omega))
      simp only [pendulumlaw18_BurstLegal.l0]
      rw [hx, hw, if_pos (by omega), if_pos (by omega)]
      by_cases h1 : x ≥ f
      · rw [if_pos h1, if_neg (fun h2 => hy ⟨h1, h2⟩)]
      · rw [if_neg h1]
theorem BurstLegal : pendulumlaw18_BurstLegal.Pure := by
  intro l b g f t _ hl2 _ _ _ _ _
  refine Ev.rounds ?_
  unfold pendulumlaw18_BurstLegal.f
  refine Ev.bind awake_ev ?_
  simp only [if_true]
  have hout : Ev (fun k => pendulumlaw18_BurstLegal.j0 k l b g f t true) true := by
    refine Ev.step (fun k => by simp only [pendulumlaw18_BurstLegal.j0]; rw [if_pos trivial]) ?_
    exact Ev.bind awake_ev (Ev.now _)
  by_cases h3 : (l.length : Int) > 300
  · simp only [if_pos h3]; exact hout
  · simp only [if_neg h3]
    have hn : l.length ≤ 1000000000000 := by omega
    obtain ⟨q, ht, hp⟩ := right_ev l hn
    refine Ev.bind ht ?_
    cases q with
    | false => exact hout
    | true =>
      obtain ⟨hB, _⟩ := hp rfl
      simp only [if_true, fine_eq, Option.bind_some]
      by_cases hf : 1 ≤ b ∧ b ≤ 1000 ∧ 1 ≤ g ∧ g ≤ 1049576
      · rw [decide_eq_true hf]
        obtain ⟨h1, h2, h3, h4⟩ := hf
        have hs := stt_len (b := b) l none
        have hle := gpa_le b l
        have hge : gpa b l ≥ 1 := (gpa_ge b 1 l).2 ⟨by omega, lf_mono h1 (stt_lf l none)⟩
        have hself := ((gpa_ge b (gpa b l) l).1 (by omega)).2
        have hnext : gpa b l < 1049576 → ¬ lf (gpa b l + 1) none (stt b none l) := fun hlt he => by
          have := (gpa_ge b (gpa b l + 1) l).2 ⟨by omega, he⟩; omega
        have heq : decide (gpa b l ≥ g) = decide (lf g none (stt b none l)) := decide_eq_decide.2 ⟨fun e => ((gpa_ge b g l).1 e).2, fun e => (gpa_ge b g l).2 ⟨by omega, e⟩⟩
        have hend : Ev (fun k => pendulumlaw18_BurstLegal.j1 k l f t false) true := by
          refine Ev.step (fun k => ?_) (law_l0 l f t hn l 0 0 rfl (by omega) (by omega))
          simp only [pendulumlaw18_BurstLegal.j1]
          rw [if_neg (by simp)]; rfl
        refine Ev.step (fun k => by simp only [pendulumlaw18_BurstLegal.j0]; rw [if_neg (by simp)]) ?_
        refine Ev.bind (gap_ev b l hn hB) ?_
        refine Ev.bind (starts_ev b l hn hB) ?_
        refine Ev.bind (refstarts_ev b l h1 (by omega) hn hB) ?_
        refine Ev.bind (same_ev _ (by omega)) ?_
        simp only [if_true]
        refine Ev.bind (legal_ev b g l hn hB) ?_
        refine Ev.bind (reflegal_ev b g l h1 (by omega) hn hB) ?_
        simp only [heq, bne_self_eq_false, if_neg (show ¬ (false = true) by simp), if_neg (show ¬ gpa b l < 1 by omega), if_neg (show ¬ gpa b l > 1049576 by omega)]
        refine Ev.bind (reflegal_ev b (gpa b l) l h1 (by omega) hn hB) ?_
        simp only [decide_eq_true hself, if_true]
        by_cases hlt : gpa b l < 1049576
        · simp only [if_pos hlt]
          rw [w64 (x := gpa b l + 1) (by omega) (by omega)]
          refine Ev.bind (reflegal_ev b (gpa b l + 1) l h1 (by omega) hn hB) ?_
          rw [decide_eq_false (hnext hlt)]
          exact hend
        · simp only [if_neg hlt]; exact hend
      · rw [decide_eq_false hf]; exact hout

end Go.Proofs.Ytppmgpicommdlaa.Pure
