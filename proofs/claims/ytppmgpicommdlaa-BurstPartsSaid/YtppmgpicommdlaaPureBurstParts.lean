/- Each fault lies in one burst, less than the length behind its beginning; a beginning is the first fault behind the burst ahead; of a length that is great enough there is one burst: for every list of faults and every length. No condition. -/
import Derived.Test.YtppmgpicommdlaaWSized
import Derived.Test.YtppmgpicommdlaaPBurstPartsx3
namespace Go.Proofs.Ytppmgpicommdlaa
theorem PrintWords.sized_ints {H : Type} {enc : TypeId × Value → H} {P : Program} {W : World} {base : Nat} {spare : Nat → Bool} {held : Bool} {t e : TypeId} {k : IntKind} {a : Option Addr} {len cap : Nat} {d : DataW H} {ps : List MemPlace} {ts : List TypeId} {ds : List (DataW H)} {j : Nat}
    (hsz : (DataW.weightsEach P ts ds).all (· ≤ reachBytes) = true) (ht : ts[j]? = some t) (hd : ds[j]? = some d) (hu : P.underlying t = some (.slice e)) (he : P.underlying e = some (.int k)) (hc : P.cellsOf e = 1) {B : Nat} (hB : P.bytesOf e = B)
    (h : DataW.Trod enc P W base spare held t (.slice a len cap) d ps) : len * B ≤ 140737488351232 := Go.Proofs.YtppmgpicommdlaaW.PrintWords.sized_ints hsz ht hd hu he hc hB h
end Go.Proofs.Ytppmgpicommdlaa
namespace Go.Proofs.Ytppmgpicommdlaa.Pure
open Go.RowKit Go.Proofs.Ytppmgpicommdlaa.PBurstParts Go.Proofs.YtppmgpicommdlaaW.PrintWords Go.Proofs.YtppmgpicommdlaaW.PrintLast

theorem w64 {x : Int} (h0 : -9223372036854775808 ≤ x) (h1 : x ≤ 9223372036854775807) : wrap64 x = x := by unfold wrap64; omega
theorem wf64 {n : Int} (h : (Lit.int .i64 n).wf = true) : -9223372036854775808 ≤ n ∧ n ≤ 9223372036854775807 := by
  simp [Lit.wf, IntKind.min, IntKind.max, IntKind.signed, IntKind.bits] at h
  omega
theorem wfu8 {n : Int} (h : (Lit.int .u8 n).wf = true) : 0 ≤ n ∧ n ≤ 255 := by
  simp [Lit.wf, IntKind.min, IntKind.max, IntKind.signed, IntKind.bits] at h
  omega
theorem wfu16 {n : Int} (h : (Lit.int .u16 n).wf = true) : 0 ≤ n ∧ n ≤ 65535 := by
  simp [Lit.wf, IntKind.min, IntKind.max, IntKind.signed, IntKind.bits] at h
  omega
theorem wfu32 {n : Int} (h : (Lit.int .u32 n).wf = true) : 0 ≤ n ∧ n ≤ 4294967295 := by
  simp [Lit.wf, IntKind.min, IntKind.max, IntKind.signed, IntKind.bits] at h
  omega
theorem wfu64 {n : Int} (h : (Lit.int .u64 n).wf = true) : 0 ≤ n ∧ n ≤ 18446744073709551615 := by
  simp [Lit.wf, IntKind.min, IntKind.max, IntKind.signed, IntKind.bits] at h
  omega
theorem ite_true' {α : Type} {c : Prop} [Decidable c] (h : c) (a b : α) : (if c then a else b) = a := if_pos h
theorem ite_false' {α : Type} {c : Prop} [Decidable c] (h : ¬ c) (a b : α) : (if c then a else b) = b := if_neg h
theorem drop_cons {l r : List Int} {i : Nat} {x : Int} (h : l.drop i = x :: r) : i < l.length ∧ rd l (i : Int) = x ∧ l.drop (i + 1) = r := by
  have hl : i < l.length := by
    apply Classical.byContradiction; intro hn
    rw [List.drop_eq_nil_of_le (by omega)] at h; cases h
  rw [List.drop_eq_getElem_cons hl] at h
  injection h with h1 h2
  refine ⟨hl, ?_, h2⟩
  simp [rd, List.getD_eq_getElem?_getD, hl, h1]
theorem drop_nil {l : List Int} {i : Nat} (h : l.drop i = []) : l.length ≤ i := by
  simpa using h
theorem w1 {n : Nat} (h : n ≤ 1000000000000000) : wrap64 ((n : Int) + 1) = ((n + 1 : Nat) : Int) := by rw [w64 (by omega) (by omega)]; rfl
theorem w2 {n : Nat} (h : n ≤ 1000000000000000) : wrap64 (((n + 1 : Nat) : Int) - 1) = (n : Int) := by rw [w64 (by omega) (by omega)]; omega

/-- The beginnings, behind the beginning s (none: there is none yet). -/
def stt (b : Int) : Option Int → List Int → List Int
  | _, [] => []
  | none, x :: l => x :: stt b (some x) l
  | some s, x :: l => if x - s ≥ b then x :: stt b (some x) l else stt b (some s) l
/-- Times. -/
def Bnd (l : List Int) : Prop := ∀ x ∈ l, 0 ≤ x ∧ x ≤ 1099511627776
/-- Each is at least g behind the one ahead. -/
def lf (g : Int) : Option Int → List Int → Prop
  | _, [] => True
  | none, x :: l => lf g (some x) l
  | some v, x :: l => x - v ≥ g ∧ lf g (some x) l
theorem rd_last (pre : List Int) (v : Int) (h : pre.length < 1000000000000000) : rd (pre ++ [v]) (wrap64 (((pre ++ [v]).length : Int) - 1)) = v := by
  have e : wrap64 (((pre ++ [v]).length : Int) - 1) = pre.length := by rw [List.length_append, List.length_singleton, w64 (by omega) (by omega)]; omega
  rw [e]; simp [rd]
theorem Bnd.tail {x : Int} {l : List Int} (h : Bnd (x :: l)) : Bnd l := fun y hy => h y (List.mem_cons_of_mem _ hy)
theorem Bnd.head {x : Int} {l : List Int} (h : Bnd (x :: l)) : 0 ≤ x ∧ x ≤ 1099511627776 := h x (List.mem_cons_self ..)
theorem starts_l0 (b : Int) (l : List Int) (hn : l.length ≤ 1000000000000) : ∀ (r : List Int) (i : Nat) (pre : List Int) (v : Int), l.drop i = r → Bnd r → 0 ≤ v → v ≤ 1099511627776 → pre.length ≤ i →
    Ev (fun k => burst_Starts.l0 k b (pre ++ [v]) l (l.length : Int) (i : Int)) (pre ++ [v] ++ stt b (some v) r) := by
  intro r
  induction r with
  | nil =>
    intro i pre v h _ _ _ _
    have := drop_nil h
    refine Ev.step (f := fun _ => some _) (fun k => ?_) (Ev.now _)
    simp only [burst_Starts.l0]
    rw [if_neg (by omega)]; simp [stt]
  | cons x r ih =>
    intro i pre v h hB hv0 hv1 hp
    obtain ⟨hl, hx, hd⟩ := drop_cons h
    have hxb := hB.head
    have hw : wrap64 ((i : Int) + 1) = ((i + 1 : Nat) : Int) := by rw [w64 (by omega) (by omega)]; rfl
    have hlast := rd_last pre v (by omega)
    have hlen : wrap64 (((pre ++ [v]).length : Int) - 1) = pre.length := by rw [List.length_append, List.length_singleton, w64 (by omega) (by omega)]; omega
    by_cases hb : x - v ≥ b
    · have e : pre ++ [v] ++ stt b (some v) (x :: r) = (pre ++ [v]) ++ [x] ++ stt b (some x) r := by simp [stt, if_pos hb]
      rw [e]
      refine Ev.step (fun k => ?_) (ih (i + 1) (pre ++ [v]) x hd hB.tail hxb.1 hxb.2 (by simp; omega))
      simp only [burst_Starts.l0]
      rw [if_pos (by omega), if_pos (by omega), if_pos (by omega), if_neg (by simp; omega), hlast, hx, w64 (x := x - v) (by omega) (by omega), hw, hlen, if_pos (by omega), if_pos (by simp; omega), if_pos hb, if_pos (by simp; omega)]
    · have e : pre ++ [v] ++ stt b (some v) (x :: r) = pre ++ [v] ++ stt b (some v) r := by simp only [stt, if_neg hb]
      rw [e]
      refine Ev.step (fun k => ?_) (ih (i + 1) pre v hd hB.tail hv0 hv1 (by omega))
      simp only [burst_Starts.l0]
      rw [if_pos (by omega), if_pos (by omega), if_pos (by omega), if_neg (by simp; omega), hlast, hx, w64 (x := x - v) (by omega) (by omega), hw, hlen, if_pos (by omega), if_pos (by simp; omega), if_neg hb]
theorem starts_ev (b : Int) (l : List Int) (hn : l.length ≤ 1000000000000) (hB : Bnd l) : Ev (fun k => burst_Starts.f k l b) (stt b none l) := by
  unfold burst_Starts.f
  cases l with
  | nil =>
    refine Ev.step (f := fun _ => some _) (fun k => ?_) (Ev.now _)
    simp [burst_Starts.l0, stt]
  | cons x r =>
    have hl : (x :: r).length = r.length + 1 := rfl
    refine Ev.step (fun k => ?_) (starts_l0 b (x :: r) hn r 1 [] x rfl hB.tail hB.head.1 hB.head.2 (by simp))
    simp only [burst_Starts.l0]
    rw [if_pos (by omega), if_pos (by omega), if_pos (by omega), if_pos (by simp), if_pos (by simp), w64 (by omega) (by omega)]; rfl
theorem stt_mem {b : Int} : ∀ {l : List Int} {s : Option Int} {y : Int}, y ∈ stt b s l → y ∈ l := by
  intro l
  induction l with
  | nil => intro s y h; simp [stt] at h
  | cons x r ih =>
    intro s y h
    cases s with
    | none =>
      simp only [stt, List.mem_cons] at h ⊢
      exact h.imp_right ih
    | some v =>
      simp only [stt] at h
      split at h
      · simp only [List.mem_cons] at h ⊢; exact h.imp_right ih
      · exact List.mem_cons_of_mem _ (ih h)
theorem stt_bnd {b : Int} {l : List Int} {s : Option Int} (h : Bnd l) : Bnd (stt b s l) := fun y hy => h y (stt_mem hy)
theorem stt_len {b : Int} : ∀ (l : List Int) (s : Option Int), (stt b s l).length ≤ l.length := by
  intro l
  induction l with
  | nil => intro s; simp [stt]
  | cons x r ih =>
    intro s
    cases s with
    | none => simp only [stt, List.length_cons]; have := ih (some x); omega
    | some v =>
      simp only [stt]; split
      · simp only [List.length_cons]; have := ih (some x); omega
      · simp only [List.length_cons]; have := ih (some v); omega
theorem stt_lf {b : Int} : ∀ (l : List Int) (s : Option Int), lf b s (stt b s l) := by
  intro l
  induction l with
  | nil => intro s; simp [stt, lf]
  | cons x r ih =>
    intro s
    cases s with
    | none => simp only [stt, lf]; exact ih (some x)
    | some v =>
      simp only [stt]; split
      · exact ⟨by assumption, ih (some x)⟩
      · exact ih (some v)
theorem lf_mono {g g' : Int} (h : g' ≤ g) : ∀ {l : List Int} {s : Option Int}, lf g s l → lf g' s l := by
  intro l
  induction l with
  | nil => intro s _; simp [lf]
  | cons x r ih =>
    intro s hl
    cases s with
    | none => exact ih (s := some x) hl
    | some v => exact ⟨by have := hl.1; omega, ih (s := some x) hl.2⟩

theorem right_l0 (l : List Int) (hn : l.length ≤ 1000000000000) : ∀ (r : List Int) (i : Nat) (v : Int), l.drop i = v :: r →
    ∃ t, Ev (fun k => pendulumref18_Right.l0 k l ((i + 1 : Nat) : Int)) t ∧ (t = true → Bnd r ∧ lf 1 (some v) r) := by
  intro r
  induction r with
  | nil =>
    intro i v h
    obtain ⟨hl, hv, hd⟩ := drop_cons h
    have := drop_nil hd
    refine ⟨true, Ev.step (f := fun _ => some _) (fun k => ?_) (Ev.now _), fun _ => ⟨fun y hy => (by cases hy), trivial⟩⟩
    simp only [pendulumref18_Right.l0]
    rw [if_neg (by omega)]
  | cons x r ih =>
    intro i v h
    obtain ⟨hl, hv, hd⟩ := drop_cons h
    obtain ⟨hl2, hx, hd2⟩ := drop_cons hd
    have hw : wrap64 (((i + 1 : Nat) : Int) + 1) = ((i + 1 + 1 : Nat) : Int) := by rw [w64 (by omega) (by omega)]; rfl
    have hw2 : wrap64 (((i + 1 : Nat) : Int) - 1) = (i : Int) := by rw [w64 (by omega) (by omega)]; omega
    by_cases h0 : x < 0
    · refine ⟨false, Ev.step (f := fun _ => some _) (fun k => ?_) (Ev.now _), fun h => by cases h⟩
      simp only [pendulumref18_Right.l0]
      rw [hx, if_pos (by omega), if_pos (by omega), if_pos h0]
    · by_cases h1 : x > 1099511627776
      · refine ⟨false, Ev.step (f := fun _ => some _) (fun k => ?_) (Ev.now _), fun h => by cases h⟩
        simp only [pendulumref18_Right.l0]
        rw [hx, if_pos (by omega), if_pos (by omega), if_neg h0, if_pos h1]
      · by_cases h2 : v ≥ x
        · refine ⟨false, Ev.step (f := fun _ => some _) (fun k => ?_) (Ev.now _), fun h => by cases h⟩
          simp only [pendulumref18_Right.l0]
          rw [hx, hw2, hv, if_pos (by omega), if_pos (by omega), if_neg h0, if_neg h1, if_pos (by omega), if_pos (by omega), if_pos (by omega), if_pos h2]
        · obtain ⟨t, ht, hp⟩ := ih (i + 1) x hd
          refine ⟨t, Ev.step (fun k => ?_) ht, fun e => ?_⟩
          · simp only [pendulumref18_Right.l0]
            rw [hx, hw2, hv, hw, if_pos (by omega), if_pos (by omega), if_neg h0, if_neg h1, if_pos (by omega), if_pos (by omega), if_pos (by omega), if_neg h2]
          · obtain ⟨p1, p2⟩ := hp e
            refine ⟨fun y hy => ?_, by omega, p2⟩
            rcases List.mem_cons.1 hy with rfl | hy
            · omega
            · exact p1 y hy
theorem right_ev (l : List Int) (hn : l.length ≤ 1000000000000) : ∃ t, Ev (fun k => pendulumref18_Right.f k l) t ∧ (t = true → Bnd l ∧ lf 1 none l) := by
  unfold pendulumref18_Right.f
  cases l with
  | nil =>
    refine ⟨true, Ev.step (f := fun _ => some _) (fun k => ?_) (Ev.now _), fun _ => ⟨fun y hy => (by cases hy), trivial⟩⟩
    simp [pendulumref18_Right.l0]
  | cons x r =>
    have hl : (x :: r).length = r.length + 1 := rfl
    have hx : rd (x :: r) 0 = x := rfl
    by_cases h0 : x < 0
    · refine ⟨false, Ev.step (f := fun _ => some _) (fun k => ?_) (Ev.now _), fun h => by cases h⟩
      simp only [pendulumref18_Right.l0]
      rw [hx, if_pos (by omega), if_pos (by omega), if_pos h0]
    · by_cases h1 : x > 1099511627776
      · refine ⟨false, Ev.step (f := fun _ => some _) (fun k => ?_) (Ev.now _), fun h => by cases h⟩
        simp only [pendulumref18_Right.l0]
        rw [hx, if_pos (by omega), if_pos (by omega), if_neg h0, if_pos h1]
      · obtain ⟨t, ht, hp⟩ := right_l0 (x :: r) hn r 0 x rfl
        refine ⟨t, Ev.step (fun k => ?_) ht, fun e => ?_⟩
        · simp only [pendulumref18_Right.l0]
          rw [hx, if_pos (by omega), if_pos (by omega), if_neg h0, if_neg h1, if_neg (by omega), w64 (by omega) (by omega)]; rfl
        · obtain ⟨p1, p2⟩ := hp e
          refine ⟨fun y hy => ?_, p2⟩
          rcases List.mem_cons.1 hy with rfl | hy
          · omega
          · exact p1 y hy

theorem awake_ev : Ev (fun k => pendulumlaw18_awake.f k) true := Ev.of (k := 20) pendulumlaw18_awake.mono (by kernel_rfl)

theorem stt_one {b v : Int} : ∀ (l : List Int), (∀ x ∈ l, x - v < b) → stt b (some v) l = [] := by
  intro l
  induction l with
  | nil => intro _; simp [stt]
  | cons x r ih =>
    intro h
    have hx := h x (List.mem_cons_self ..)
    simp only [stt]
    rw [if_neg (by omega)]
    exact ih (fun y hy => h y (List.mem_cons_of_mem _ hy))
theorem lf_last : ∀ (l : List Int) (v : Int), lf 1 (some v) l → ∀ x ∈ l, v ≤ x ∧ x ≤ (v :: l).getLast (by simp) := by
  intro l
  induction l with
  | nil => intro v _ x hx; cases hx
  | cons y r ih =>
    intro v h x hx
    have h1 := h.1
    have h2 := ih y h.2
    have hl : (v :: y :: r).getLast (by simp) = (y :: r).getLast (by simp) := by simp
    rw [hl]
    have hy : y ≤ (y :: r).getLast (by simp) := by
      cases r with
      | nil => simp
      | cons z q => have := h2 z (List.mem_cons_self ..); have h3 := (h2 ((y :: z :: q).getLast (by simp)) (by simp)); omega
    rcases List.mem_cons.1 hx with rfl | hx
    · exact ⟨by omega, hy⟩
    · have := h2 x hx; omega
theorem rd_end (x : Int) (r : List Int) : rd (x :: r) ((r.length : Int)) = (x :: r).getLast (by simp) := by
  simp [rd, List.getLast_eq_getElem, List.getD_eq_getElem?_getD]
theorem parts_end (l : List Int) (b : Int) (hn : l.length ≤ 1000000000000) (hB : Bnd l) (hs : lf 1 none l) (s : List Int) (i : Nat) (hi : l.length ≤ i) (c : Nat) (hc : c = s.length) : Ev (fun k => pendulumlaw18_BurstParts.l0 k l b s (c : Int) (i : Int)) true := by
  subst hc
  cases l with
  | nil =>
    refine Ev.step (f := fun _ => some _) (fun k => ?_) (Ev.now _)
    simp only [pendulumlaw18_BurstParts.l0]
    rw [if_neg (by simp), if_pos trivial, if_pos (by simp)]
  | cons x r =>
    have hl : (x :: r).length = r.length + 1 := rfl
    have hl1 : wrap64 (((x :: r).length : Int) - 1) = (r.length : Int) := by rw [hl, w64 (by omega) (by omega)]; omega
    have hx0 : rd (x :: r) 0 = x := rfl
    have hxb := hB.head
    have hlb := hB ((x :: r).getLast (by simp)) (List.getLast_mem _)
    by_cases hg : (x :: r).getLast (by simp) - x ≥ 1000
    · refine Ev.step (f := fun _ => some _) (fun k => ?_) (Ev.now _)
      simp only [pendulumlaw18_BurstParts.l0]
      rw [if_neg (by omega), if_pos trivial, hl1, rd_end, hx0, if_neg (by omega), if_pos (by omega), if_pos (by omega), if_pos (by omega), w64 (x := (x :: r).getLast (by simp) - x) (by omega) (by omega), if_pos hg]
    · have h1 : stt 1000 none (x :: r) = [x] := by
        simp only [stt]
        rw [stt_one r (fun y hy => by have := (lf_last r x hs y hy).2; omega)]
      refine Ev.step (f := fun k => (burst_Starts.f k (x :: r) 1000).bind fun t => some ((t.length : Int) == 1)) (fun k => ?_) (Ev.bind (starts_ev 1000 (x :: r) hn hB) ?_)
      · simp only [pendulumlaw18_BurstParts.l0]
        rw [if_neg (by omega), if_pos trivial, hl1, rd_end, hx0, if_neg (by omega), if_pos (by omega), if_pos (by omega), if_pos (by omega), w64 (x := (x :: r).getLast (by simp) - x) (by omega) (by omega), if_neg hg]
      · rw [h1]; exact Ev.now _
/-- Behind the beginning v: the part of the list that is left, and the beginnings that are left. -/
theorem parts_l0 (l : List Int) (b : Int) (hn : l.length ≤ 1000000000000) (hB : Bnd l) (hs : lf 1 none l) (s : List Int) (hsb : Bnd s) (hsn : s.length ≤ 1000000000000) : ∀ (r : List Int) (i : Nat) (v : Int) (c : Nat), l.drop i = r → lf 1 (some v) r → s.drop c = v :: stt b (some v) r →
    Ev (fun k => pendulumlaw18_BurstParts.l0 k l b s ((c + 1 : Nat) : Int) (i : Int)) true := by
  intro r
  induction r with
  | nil =>
    intro i v c h _ hc
    obtain ⟨hl, hv, hd⟩ := drop_cons hc
    have hd' := drop_nil hd
    exact parts_end l b hn hB hs s i (drop_nil h) (c + 1) (by omega)
  | cons x r ih =>
    intro i v c h hlf hc
    obtain ⟨hl, hx, hd⟩ := drop_cons h
    obtain ⟨hcl, hcv, hcd⟩ := drop_cons hc
    have hxb : 0 ≤ x ∧ x ≤ 1099511627776 := hB x (List.mem_of_mem_drop (by rw [h]; exact List.mem_cons_self ..))
    have hvb : 0 ≤ v ∧ v ≤ 1099511627776 := hsb v (List.mem_of_mem_drop (by rw [hc]; exact List.mem_cons_self ..))
    by_cases hy : x - v ≥ b
    · simp only [stt, if_pos hy] at hcd
      obtain ⟨hcl2, hcx, hcd2⟩ := drop_cons hcd
      refine Ev.step (f := fun k => pendulumlaw18_BurstParts.j2 k l b s ((c + 1 : Nat) : Int) (i : Int) true) (fun k => ?_) ?_
      · simp only [pendulumlaw18_BurstParts.l0]
        rw [if_pos (by omega), if_pos (by omega), if_pos (by omega), if_pos (by omega), hx, hcx]; simp
      · refine Ev.step (f := fun k => pendulumlaw18_BurstParts.j3 k l b s ((c + 1 : Nat) : Int) (i : Int) false) (fun k => ?_) ?_
        · simp only [pendulumlaw18_BurstParts.j2]
          rw [if_pos trivial, w2 (n := c) (by omega), hx, hcv, w64 (x := x - v) (by omega) (by omega), if_pos (by omega), if_pos (by omega), if_pos (by omega), if_pos (by omega), if_pos (by omega), decide_eq_false (show ¬ x - v < b by omega)]
        · refine Ev.step (fun k => ?_) (ih (i + 1) x (c + 1) hd hlf.2 hcd)
          simp only [pendulumlaw18_BurstParts.j3]
          rw [if_neg (by simp), w1 (n := i) (by omega), w1 (n := c + 1) (by omega)]
    · simp only [stt, if_neg hy] at hc hcd
      have hne : ∀ (h : ((c + 1 : Nat) : Int) < (s.length : Int)), rd s ((c + 1 : Nat) : Int) ≠ x := by
        intro hlt
        obtain ⟨y, q, hq⟩ : ∃ y q, stt b (some v) r = y :: q := by
          cases hq : stt b (some v) r with
          | nil => rw [hq] at hcd; have := drop_nil hcd; omega
          | cons y q => exact ⟨y, q, rfl⟩
        rw [hq] at hcd
        obtain ⟨_, hy2, _⟩ := drop_cons hcd
        rw [hy2]
        have hm : y ∈ r := stt_mem (b := b) (s := some v) (by rw [hq]; exact List.mem_cons_self ..)
        have hlt2 : ∀ (q : List Int) (x : Int), lf 1 (some x) q → ∀ y ∈ q, x < y := by
          intro q
          induction q with
          | nil => intro x _ y hy; cases hy
          | cons z q ih2 =>
            intro x h y hy
            have h1 := h.1
            rcases List.mem_cons.1 hy with rfl | hy
            · omega
            · have := ih2 z h.2 y hy; omega
        have := hlt2 r x hlf.2 y hm
        omega
      have hj : Ev (fun k => pendulumlaw18_BurstParts.j2 k l b s ((c + 1 : Nat) : Int) (i : Int) false) true := by
        have hlf' : lf 1 (some v) r := by
          have h1 := hlf.1
          have h2 := hlf.2
          cases r with
          | nil => trivial
          | cons z q => exact ⟨by have := h2.1; omega, h2.2⟩
        refine Ev.step (fun k => ?_) (ih (i + 1) v c hd hlf' hc)
        simp only [pendulumlaw18_BurstParts.j2]
        rw [if_neg (by simp), w2 (n := c) (by omega), hx, hcv, w1 (n := i) (by omega), w64 (x := x - v) (by omega) (by omega), if_neg (by omega), if_pos (by omega), if_pos (by omega), if_pos (by omega), if_pos (by omega), if_neg hy]
      refine Ev.step (fun k => ?_) hj
      simp only [pendulumlaw18_BurstParts.l0]
      rw [if_pos (by omega)]
      by_cases hlt : ((c + 1 : Nat) : Int) < (s.length : Int)
      · have := hne hlt
        rw [if_pos hlt, if_pos (by omega), if_pos (by omega), hx, show (rd s ((c + 1 : Nat) : Int) == x) = false by simpa using this]
      · rw [if_neg hlt]
theorem BurstParts : pendulumlaw18_BurstParts.Pure := by
  intro l b _ hl2 _ _
  refine Ev.rounds ?_
  unfold pendulumlaw18_BurstParts.f
  refine Ev.bind awake_ev ?_
  simp only [if_true]
  have hout : Ev (fun k => pendulumlaw18_BurstParts.j0 k l b true) true := by
    refine Ev.step (fun k => by simp only [pendulumlaw18_BurstParts.j0]; rw [if_pos trivial]) ?_
    exact Ev.bind awake_ev (Ev.now _)
  by_cases h3 : (l.length : Int) > 300
  · simp only [if_pos h3]; exact hout
  · simp only [if_neg h3]
    have hn : l.length ≤ 1000000000000 := by omega
    obtain ⟨q, ht, hp⟩ := right_ev l hn
    refine Ev.bind ht ?_
    cases q with
    | false => exact hout
    | true =>
      obtain ⟨hB, hs⟩ := hp rfl
      simp only [if_true]
      by_cases h1 : b < 1
      · simp only [if_pos h1]; exact hout
      · simp only [if_neg h1]
        by_cases h2 : b > 1000
        · rw [decide_eq_true h2]; exact hout
        · rw [decide_eq_false h2]
          refine Ev.step (fun k => by simp only [pendulumlaw18_BurstParts.j0]; rw [if_neg (by simp)]) ?_
          refine Ev.bind (starts_ev b l hn hB) ?_
          have hlen := stt_len (b := b) l none
          have hbs := stt_bnd (b := b) (s := none) hB
          cases l with
          | nil => exact parts_end [] b hn hB hs _ 0 (by simp) 0 (by simp [stt])
          | cons x r =>
            have hl : (x :: r).length = r.length + 1 := rfl
            have hx : rd (x :: r) 0 = x := rfl
            have hs1 : stt b none (x :: r) = x :: stt b (some x) r := rfl
            have hx2 : rd (x :: stt b (some x) r) 0 = x := rfl
            have hlen2 : ((x :: stt b (some x) r).length : Int) > 0 := by rw [List.length_cons]; omega
            refine Ev.step (f := fun k => pendulumlaw18_BurstParts.j2 k (x :: r) b (x :: stt b (some x) r) 0 0 true) (fun k => ?_) ?_
            · simp only [pendulumlaw18_BurstParts.l0, hs1]
              rw [if_pos (by omega), if_pos (by omega), if_pos (by omega), if_pos (by omega), hx, hx2]; simp
            · refine Ev.step (f := fun k => pendulumlaw18_BurstParts.j3 k (x :: r) b (x :: stt b (some x) r) 0 0 false) (fun k => ?_) ?_
              · simp only [pendulumlaw18_BurstParts.j2]
                rw [if_pos trivial, if_neg (by omega)]
              · refine Ev.step (fun k => ?_) (parts_l0 (x :: r) b hn hB hs (stt b none (x :: r)) hbs (by omega) r 1 x 0 rfl hs rfl)
                simp only [pendulumlaw18_BurstParts.j3]
                rw [if_neg (by simp), w64 (by omega) (by omega)]; rfl

end Go.Proofs.Ytppmgpicommdlaa.Pure
