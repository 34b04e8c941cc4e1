/- What is handed in stays, and what is answered is new memory: for every list of faults and every length. No condition. -/
import Derived.Test.YtppmgpicommdlaaWSized
import Derived.Test.YtppmgpicommdlaaPBurstKeepsx2
namespace Go.Proofs.Ytppmgpicommdlaa
theorem PrintWords.sized_ints {H : Type} {enc : TypeId × Value → H} {P : Program} {W : World} {base : Nat} {spare : Nat → Bool} {held : Bool} {t e : TypeId} {k : IntKind} {a : Option Addr} {len cap : Nat} {d : DataW H} {ps : List MemPlace} {ts : List TypeId} {ds : List (DataW H)} {j : Nat}
    (hsz : (DataW.weightsEach P ts ds).all (· ≤ reachBytes) = true) (ht : ts[j]? = some t) (hd : ds[j]? = some d) (hu : P.underlying t = some (.slice e)) (he : P.underlying e = some (.int k)) (hc : P.cellsOf e = 1) {B : Nat} (hB : P.bytesOf e = B)
    (h : DataW.Trod enc P W base spare held t (.slice a len cap) d ps) : len * B ≤ 140737488351232 := Go.Proofs.YtppmgpicommdlaaW.PrintWords.sized_ints hsz ht hd hu he hc hB h
end Go.Proofs.Ytppmgpicommdlaa
namespace Go.Proofs.Ytppmgpicommdlaa.Pure
open Go.RowKit Go.Proofs.Ytppmgpicommdlaa.PBurstKeeps Go.Proofs.YtppmgpicommdlaaW.PrintWords Go.Proofs.YtppmgpicommdlaaW.PrintLast

theorem w64 {x : Int} (h0 : -9223372036854775808 ≤ x) (h1 : x ≤ 9223372036854775807) : wrap64 x = x := by unfold wrap64; omega
theorem wf64 {n : Int} (h : (Lit.int .i64 n).wf = true) : -9223372036854775808 ≤ n ∧ n ≤ 9223372036854775807 := by
  simp [Lit.wf, IntKind.min, IntKind.max, IntKind.signed, IntKind.bits] at h
  omega
theorem wfu8 {n : Int} (h : (Lit.int .u8 n).wf = true) : 0 ≤ n ∧ n ≤ 255 := by
  simp [Lit.wf, IntKind.min, IntKind.max, IntKind.signed, IntKind.bits] at h
  omega
theorem wfu16 {n : Int} (h : (Lit.int .u16 n).wf = true) : 0 ≤ n ∧ n ≤ 65535 := by
  simp [Lit.wf, IntKind.min, IntKind.max, IntKind.signed, IntKind.bits] at h
  omega
theorem wfu32 {n : Int} (h : (Lit.int .u32 n).wf = true) : 0 ≤ n ∧ n ≤ 4294967295 := by
  simp [Lit.wf, IntKind.min, IntKind.max, IntKind.signed, IntKind.bits] at h
  omega
theorem wfu64 {n : Int} (h : (Lit.int .u64 n).wf = true) : 0 ≤ n ∧ n ≤ 18446744073709551615 := by
  simp [Lit.wf, IntKind.min, IntKind.max, IntKind.signed, IntKind.bits] at h
  omega
theorem ite_true' {α : Type} {c : Prop} [Decidable c] (h : c) (a b : α) : (if c then a else b) = a := if_pos h
theorem ite_false' {α : Type} {c : Prop} [Decidable c] (h : ¬ c) (a b : α) : (if c then a else b) = b := if_neg h
theorem drop_cons {l r : List Int} {i : Nat} {x : Int} (h : l.drop i = x :: r) : i < l.length ∧ rd l (i : Int) = x ∧ l.drop (i + 1) = r := by
  have hl : i < l.length := by
    apply Classical.byContradiction; intro hn
    rw [List.drop_eq_nil_of_le (by omega)] at h; cases h
  rw [List.drop_eq_getElem_cons hl] at h
  injection h with h1 h2
  refine ⟨hl, ?_, h2⟩
  simp [rd, List.getD_eq_getElem?_getD, hl, h1]
theorem drop_nil {l : List Int} {i : Nat} (h : l.drop i = []) : l.length ≤ i := by
  simpa using h
theorem w1 {n : Nat} (h : n ≤ 1000000000000000) : wrap64 ((n : Int) + 1) = ((n + 1 : Nat) : Int) := by rw [w64 (by omega) (by omega)]; rfl
theorem w2 {n : Nat} (h : n ≤ 1000000000000000) : wrap64 (((n + 1 : Nat) : Int) - 1) = (n : Int) := by rw [w64 (by omega) (by omega)]; omega

/-- The beginnings, behind the beginning s (none: there is none yet). -/
def stt (b : Int) : Option Int → List Int → List Int
  | _, [] => []
  | none, x :: l => x :: stt b (some x) l
  | some s, x :: l => if x - s ≥ b then x :: stt b (some x) l else stt b (some s) l
/-- Times. -/
def Bnd (l : List Int) : Prop := ∀ x ∈ l, 0 ≤ x ∧ x ≤ 1099511627776
/-- Each is at least g behind the one ahead. -/
def lf (g : Int) : Option Int → List Int → Prop
  | _, [] => True
  | none, x :: l => lf g (some x) l
  | some v, x :: l => x - v ≥ g ∧ lf g (some x) l
theorem rd_last (pre : List Int) (v : Int) (h : pre.length < 1000000000000000) : rd (pre ++ [v]) (wrap64 (((pre ++ [v]).length : Int) - 1)) = v := by
  have e : wrap64 (((pre ++ [v]).length : Int) - 1) = pre.length := by rw [List.length_append, List.length_singleton, w64 (by omega) (by omega)]; omega
  rw [e]; simp [rd]
theorem Bnd.tail {x : Int} {l : List Int} (h : Bnd (x :: l)) : Bnd l := fun y hy => h y (List.mem_cons_of_mem _ hy)
theorem Bnd.head {x : Int} {l : List Int} (h : Bnd (x :: l)) : 0 ≤ x ∧ x ≤ 1099511627776 := h x (List.mem_cons_self ..)
theorem starts_l0 (b : Int) (l : List Int) (hn : l.length ≤ 1000000000000) : ∀ (r : List Int) (i : Nat) (pre : List Int) (v : Int), l.drop i = r → Bnd r → 0 ≤ v → v ≤ 1099511627776 → pre.length ≤ i →
    Ev (fun k => burst_Starts.l0 k b (pre ++ [v]) l (l.length : Int) (i : Int)) (pre ++ [v] ++ stt b (some v) r) := by
  intro r
  induction r with
  | nil =>
    intro i pre v h _ _ _ _
    have := drop_nil h
    refine Ev.step (f := fun _ => some _) (fun k => ?_) (Ev.now _)
    simp only [burst_Starts.l0]
    rw [if_neg (by omega)]; simp [stt]
  | cons x r ih =>
    intro i pre v h hB hv0 hv1 hp
    obtain ⟨hl, hx, hd⟩ := drop_cons h
    have hxb := hB.head
    have hw : wrap64 ((i : Int) + 1) = ((i + 1 : Nat) : Int) := by rw [w64 (by omega) (by omega)]; rfl
    have hlast := rd_last pre v (by omega)
    have hlen : wrap64 (((pre ++ [v]).length : Int) - 1) = pre.length := by rw [List.length_append, List.length_singleton, w64 (by omega) (by omega)]; omega
    by_cases hb : x - v ≥ b
    · have e : pre ++ [v] ++ stt b (some v) (x :: r) = (pre ++ [v]) ++ [x] ++ stt b (some x) r := by simp [stt, if_pos hb]
      rw [e]
      refine Ev.step (fun k => ?_) (ih (i + 1) (pre ++ [v]) x hd hB.tail hxb.1 hxb.2 (by simp; omega))
      simp only [burst_Starts.l0]
      rw [if_pos (by omega), if_pos (by omega), if_pos (by omega), if_neg (by simp; omega), hlast, hx, w64 (x := x - v) (by omega) (by omega), hw, hlen, if_pos (by omega), if_pos (by simp; omega), if_pos hb, if_pos (by simp; omega)]
    · have e : pre ++ [v] ++ stt b (some v) (x :: r) = pre ++ [v] ++ stt b (some v) r := by simp only [stt, if_neg hb]
      rw [e]
      refine Ev.step (fun k => ?_) (ih (i + 1) pre v hd hB.tail hv0 hv1 (by omega))
      simp only [burst_Starts.l0]
      rw [if_pos (by omega), if_pos (by omega), if_pos (by omega), if_neg (by simp; omega), hlast, hx, w64 (x := x - v) (by omega) (by omega), hw, hlen, if_pos (by omega), if_pos (by simp; omega), if_neg hb]
theorem starts_ev (b : Int) (l : List Int) (hn : l.length ≤ 1000000000000) (hB : Bnd l) : Ev (fun k => burst_Starts.f k l b) (stt b none l) := by
  unfold burst_Starts.f
  cases l with
  | nil =>
    refine Ev.step (f := fun _ => some _) (fun k => ?_) (Ev.now _)
    simp [burst_Starts.l0, stt]
  | cons x r =>
    have hl : (x :: r).length = r.length + 1 := rfl
    refine Ev.step (fun k => ?_) (starts_l0 b (x :: r) hn r 1 [] x rfl hB.tail hB.head.1 hB.head.2 (by simp))
    simp only [burst_Starts.l0]
    rw [if_pos (by omega), if_pos (by omega), if_pos (by omega), if_pos (by simp), if_pos (by simp), w64 (by omega) (by omega)]; rfl
theorem stt_mem {b : Int} : ∀ {l : List Int} {s : Option Int} {y : Int}, y ∈ stt b s l → y ∈ l := by
  intro l
  induction l with
  | nil => intro s y h; simp [stt] at h
  | cons x r ih =>
    intro s y h
    cases s with
    | none =>
      simp only [stt, List.mem_cons] at h ⊢
      exact h.imp_right ih
    | some v =>
      simp only [stt] at h
      split at h
      · simp only [List.mem_cons] at h ⊢; exact h.imp_right ih
      · exact List.mem_cons_of_mem _ (ih h)
theorem stt_bnd {b : Int} {l : List Int} {s : Option Int} (h : Bnd l) : Bnd (stt b s l) := fun y hy => h y (stt_mem hy)
theorem stt_len {b : Int} : ∀ (l : List Int) (s : Option Int), (stt b s l).length ≤ l.length := by
  intro l
  induction l with
  | nil => intro s; simp [stt]
  | cons x r ih =>
    intro s
    cases s with
    | none => simp only [stt, List.length_cons]; have := ih (some x); omega
    | some v =>
      simp only [stt]; split
      · simp only [List.length_cons]; have := ih (some x); omega
      · simp only [List.length_cons]; have := ih (some v); omega
theorem stt_lf {b : Int} : ∀ (l : List Int) (s : Option Int), lf b s (stt b s l) := by
  intro l
  induction l with
  | nil => intro s; simp [stt, lf]
  | cons x r ih =>
    intro s
    cases s with
    | none => simp only [stt, lf]; exact ih (some x)
    | some v =>
      simp only [stt]; split
      · exact ⟨by assumption, ih (some x)⟩
      · exact ih (some v)
theorem lf_mono {g g' : Int} (h : g' ≤ g) : ∀ {l : List Int} {s : Option Int}, lf g s l → lf g' s l := by
  intro l
  induction l with
  | nil => intro s _; simp [lf]
  | cons x r ih =>
    intro s hl
    cases s with
    | none => exact ih (s := some x) hl
    | some v => exact ⟨by have := hl.1; omega, ih (s := some x) hl.2⟩

theorem right_l0 (l : List Int) (hn : l.length ≤ 1000000000000) : ∀ (r : List Int) (i : Nat) (v : Int), l.drop i = v :: r →
    ∃ t, Ev (fun k => pendulumref18_Right.l0 k l ((i + 1 : Nat) : Int)) t ∧ (t = true → Bnd r ∧ lf 1 (some v) r) := by
  intro r
  induction r with
  | nil =>
    intro i v h
    obtain ⟨hl, hv, hd⟩ := drop_cons h
    have := drop_nil hd
    refine ⟨true, Ev.step (f := fun _ => some _) (fun k => ?_) (Ev.now _), fun _ => ⟨fun y hy => (by cases hy), trivial⟩⟩
    simp only [pendulumref18_Right.l0]
    rw [if_neg (by omega)]
  | cons x r ih =>
    intro i v h
    obtain ⟨hl, hv, hd⟩ := drop_cons h
    obtain ⟨hl2, hx, hd2⟩ := drop_cons hd
    have hw : wrap64 (((i + 1 : Nat) : Int) + 1) = ((i + 1 + 1 : Nat) : Int) := by rw [w64 (by omega) (by omega)]; rfl
    have hw2 : wrap64 (((i + 1 : Nat) : Int) - 1) = (i : Int) := by rw [w64 (by omega) (by omega)]; omega
    by_cases h0 : x < 0
    · refine ⟨false, Ev.step (f := fun _ => some _) (fun k => ?_) (Ev.now _), fun h => by cases h⟩
      simp only [pendulumref18_Right.l0]
      rw [hx, if_pos (by omega), if_pos (by omega), if_pos h0]
    · by_cases h1 : x > 1099511627776
      · refine ⟨false, Ev.step (f := fun _ => some _) (fun k => ?_) (Ev.now _), fun h => by cases h⟩
        simp only [pendulumref18_Right.l0]
        rw [hx, if_pos (by omega), if_pos (by omega), if_neg h0, if_pos h1]
      · by_cases h2 : v ≥ x
        · refine ⟨false, Ev.step (f := fun _ => some _) (fun k => ?_) (Ev.now _), fun h => by cases h⟩
          simp only [pendulumref18_Right.l0]
          rw [hx, hw2, hv, if_pos (by omega), if_pos (by omega), if_neg h0, if_neg h1, if_pos (by omega), if_pos (by omega), if_pos (by omega), if_pos h2]
        · obtain ⟨t, ht, hp⟩ := ih (i + 1) x hd
          refine ⟨t, Ev.step (fun k => ?_) ht, fun e => ?_⟩
          · simp only [pendulumref18_Right.l0]
            rw [hx, hw2, hv, hw, if_pos (by omega), if_pos (by omega), if_neg h0, if_neg h1, if_pos (by omega), if_pos (by omega), if_pos (by omega), if_neg h2]
          · obtain ⟨p1, p2⟩ := hp e
            refine ⟨fun y hy => ?_, by omega, p2⟩
            rcases List.mem_cons.1 hy with rfl | hy
            · omega
            · exact p1 y hy
theorem right_ev (l : List Int) (hn : l.length ≤ 1000000000000) : ∃ t, Ev (fun k => pendulumref18_Right.f k l) t ∧ (t = true → Bnd l ∧ lf 1 none l) := by
  unfold pendulumref18_Right.f
  cases l with
  | nil =>
    refine ⟨true, Ev.step (f := fun _ => some _) (fun k => ?_) (Ev.now _), fun _ => ⟨fun y hy => (by cases hy), trivial⟩⟩
    simp [pendulumref18_Right.l0]
  | cons x r =>
    have hl : (x :: r).length = r.length + 1 := rfl
    have hx : rd (x :: r) 0 = x := rfl
    by_cases h0 : x < 0
    · refine ⟨false, Ev.step (f := fun _ => some _) (fun k => ?_) (Ev.now _), fun h => by cases h⟩
      simp only [pendulumref18_Right.l0]
      rw [hx, if_pos (by omega), if_pos (by omega), if_pos h0]
    · by_cases h1 : x > 1099511627776
      · refine ⟨false, Ev.step (f := fun _ => some _) (fun k => ?_) (Ev.now _), fun h => by cases h⟩
        simp only [pendulumref18_Right.l0]
        rw [hx, if_pos (by omega), if_pos (by omega), if_neg h0, if_pos h1]
      · obtain ⟨t, ht, hp⟩ := right_l0 (x :: r) hn r 0 x rfl
        refine ⟨t, Ev.step (fun k => ?_) ht, fun e => ?_⟩
        · simp only [pendulumref18_Right.l0]
          rw [hx, if_pos (by omega), if_pos (by omega), if_neg h0, if_neg h1, if_neg (by omega), w64 (by omega) (by omega)]; rfl
        · obtain ⟨p1, p2⟩ := hp e
          refine ⟨fun y hy => ?_, p2⟩
          rcases List.mem_cons.1 hy with rfl | hy
          · omega
          · exact p1 y hy

theorem same_l0 (l : List Int) (hn : l.length ≤ 1000000000000) : ∀ (r : List Int) (i : Nat), l.drop i = r → Ev (fun k => pendulumref18_Same.l0 k l l (i : Int)) true := by
  intro r
  induction r with
  | nil =>
    intro i h
    have := drop_nil h
    refine Ev.step (f := fun _ => some _) (fun k => ?_) (Ev.now _)
    simp only [pendulumref18_Same.l0]
    rw [if_neg (by omega)]
  | cons x r ih =>
    intro i h
    obtain ⟨hl, hx, hd⟩ := drop_cons h
    refine Ev.step (fun k => ?_) (ih (i + 1) hd)
    simp only [pendulumref18_Same.l0]
    rw [if_pos (by omega), if_pos (by omega), if_pos (by omega), if_pos trivial, w64 (by omega) (by omega)]; rfl
theorem same_ev (l : List Int) (hn : l.length ≤ 1000000000000) : Ev (fun k => pendulumref18_Same.f k l l) true := by
  unfold pendulumref18_Same.f
  simp only [if_true]
  exact same_l0 l hn l 0 rfl

theorem awake_ev : Ev (fun k => pendulumlaw18_awake.f k) true := Ev.of (k := 20) pendulumlaw18_awake.mono (by kernel_rfl)

theorem keeps_l0 (l w : List Int) (h : Ev (fun k => pendulumref18_Same.f k l w) true) : ∀ (d : Nat) (s : List Int) (i : Nat), s.length = i + d → s.length ≤ 1000000000000 → Ev (fun k => pendulumlaw18_BurstKeeps.l0 k l w s (i : Int)) true := by
  intro d
  induction d with
  | zero =>
    intro s i hs _
    refine Ev.step (fun k => ?_) (Ev.bind h (Ev.now true))
    simp only [pendulumlaw18_BurstKeeps.l0]
    rw [if_neg (by omega)]
  | succ d ih =>
    intro s i hs hs2
    refine Ev.step (fun k => ?_) (ih (s.set i (-1)) (i + 1) (by simp; omega) (by simp; omega))
    simp only [pendulumlaw18_BurstKeeps.l0]
    rw [if_pos (by omega), if_pos (by omega), w64 (by omega) (by omega)]; rfl
theorem BurstKeeps : pendulumlaw18_BurstKeeps.Pure := by
  intro l b hl hl2 hwf hb
  have hb' := wfu8 hb
  refine Ev.rounds ?_
  unfold pendulumlaw18_BurstKeeps.f
  refine Ev.bind awake_ev ?_
  simp only [if_true]
  have hout : Ev (fun k => pendulumlaw18_BurstKeeps.j0 k l b true) true := by
    refine Ev.step (fun k => by simp only [pendulumlaw18_BurstKeeps.j0]; rw [if_pos trivial]) ?_
    exact Ev.bind awake_ev (Ev.now _)
  by_cases h3 : (l.length : Int) > 300
  · simp only [if_pos h3]; exact hout
  · simp only [if_neg h3]
    obtain ⟨t, ht, hp⟩ := right_ev l (by omega)
    refine Ev.bind ht ?_
    cases t with
    | false => exact hout
    | true =>
      obtain ⟨hB, _⟩ := hp rfl
      refine Ev.step (f := fun k => (burst_Starts.f k l (1 + b)).bind fun t => pendulumlaw18_BurstKeeps.l0 k l l t 0) (fun k => ?_) ?_
      · simp only [pendulumlaw18_BurstKeeps.j0]
        rw [if_neg (by simp), w64 (x := b) (by omega) (by omega), w64 (by omega) (by omega)]
        simp only [Option.bind_some, List.nil_append, List.length_nil]
        rw [if_pos (by omega)]
      refine Ev.bind (starts_ev (1 + b) l (by omega) hB) ?_
      have := stt_len (b := 1 + b) l none
      exact keeps_l0 l l (same_ev l (by omega)) (stt (1 + b) none l).length _ 0 (by omega) (by omega)

end Go.Proofs.Ytppmgpicommdlaa.Pure
