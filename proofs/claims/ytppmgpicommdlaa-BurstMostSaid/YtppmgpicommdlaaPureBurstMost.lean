/- Of legal faults, in any ticks no more bursts have a fault than are told, and no more faults are there than the length times that: for every list of distances and bits, length, gap and ticks. No condition. -/
import Derived.Test.YtppmgpicommdlaaWSized
import Derived.Test.YtppmgpicommdlaaPBurstMostx4
namespace Go.Proofs.Ytppmgpicommdlaa
theorem PrintWords.sized_ints {H : Type} {enc : TypeId × Value → H} {P : Program} {W : World} {base : Nat} {spare : Nat → Bool} {held : Bool} {t e : TypeId} {k : IntKind} {a : Option Addr} {len cap : Nat} {d : DataW H} {ps : List MemPlace} {ts : List TypeId} {ds : List (DataW H)} {j : Nat}
    (hsz : (DataW.weightsEach P ts ds).all (· ≤ reachBytes) = true) (ht : ts[j]? = some t) (hd : ds[j]? = some d) (hu : P.underlying t = some (.slice e)) (he : P.underlying e = some (.int k)) (hc : P.cellsOf e = 1) {B : Nat} (hB : P.bytesOf e = B)
    (h : DataW.Trod enc P W base spare held t (.slice a len cap) d ps) : len * B ≤ 140737488351232 := Go.Proofs.YtppmgpicommdlaaW.PrintWords.sized_ints hsz ht hd hu he hc hB h
end Go.Proofs.Ytppmgpicommdlaa
namespace Go.Proofs.Ytppmgpicommdlaa.Pure
open Go.RowKit Go.Proofs.Ytppmgpicommdlaa.PBurstMost Go.Proofs.YtppmgpicommdlaaW.PrintWords Go.Proofs.YtppmgpicommdlaaW.PrintLast

theorem w64 {x : Int} (h0 : -9223372036854775808 ≤ x) (h1 : x ≤ 9223372036854775807) : wrap64 x = x := by unfold wrap64; omega
theorem wf64 {n : Int} (h : (Lit.int .i64 n).wf = true) : -9223372036854775808 ≤ n ∧ n ≤ 9223372036854775807 := by
  simp [Lit.wf, IntKind.min, IntKind.max, IntKind.signed, IntKind.bits] at h
  omega
theorem wfu8 {n : Int} (h : (Lit.int .u8 n).wf = true) : 0 ≤ n ∧ n ≤ 255 := by
  simp [Lit.wf, IntKind.min, IntKind.max, IntKind.signed, IntKind.bits] at h
  omega
theorem wfu16 {n : Int} (h : (Lit.int .u16 n).wf = true) : 0 ≤ n ∧ n ≤ 65535 := by
  simp [Lit.wf, IntKind.min, IntKind.max, IntKind.signed, IntKind.bits] at h
  omega
theorem wfu32 {n : Int} (h : (Lit.int .u32 n).wf = true) : 0 ≤ n ∧ n ≤ 4294967295 := by
  simp [Lit.wf, IntKind.min, IntKind.max, IntKind.signed, IntKind.bits] at h
  omega
theorem wfu64 {n : Int} (h : (Lit.int .u64 n).wf = true) : 0 ≤ n ∧ n ≤ 18446744073709551615 := by
  simp [Lit.wf, IntKind.min, IntKind.max, IntKind.signed, IntKind.bits] at h
  omega
theorem ite_true' {α : Type} {c : Prop} [Decidable c] (h : c) (a b : α) : (if c then a else b) = a := if_pos h
theorem ite_false' {α : Type} {c : Prop} [Decidable c] (h : ¬ c) (a b : α) : (if c then a else b) = b := if_neg h
theorem drop_cons {l r : List Int} {i : Nat} {x : Int} (h : l.drop i = x :: r) : i < l.length ∧ rd l (i : Int) = x ∧ l.drop (i + 1) = r := by
  have hl : i < l.length := by
    apply Classical.byContradiction; intro hn
    rw [List.drop_eq_nil_of_le (by omega)] at h; cases h
  rw [List.drop_eq_getElem_cons hl] at h
  injection h with h1 h2
  refine ⟨hl, ?_, h2⟩
  simp [rd, List.getD_eq_getElem?_getD, hl, h1]
theorem drop_nil {l : List Int} {i : Nat} (h : l.drop i = []) : l.length ≤ i := by
  simpa using h
theorem w1 {n : Nat} (h : n ≤ 1000000000000000) : wrap64 ((n : Int) + 1) = ((n + 1 : Nat) : Int) := by rw [w64 (by omega) (by omega)]; rfl
theorem w2 {n : Nat} (h : n ≤ 1000000000000000) : wrap64 (((n + 1 : Nat) : Int) - 1) = (n : Int) := by rw [w64 (by omega) (by omega)]; omega

/-- The beginnings, behind the beginning s (none: there is none yet). -/
def stt (b : Int) : Option Int → List Int → List Int
  | _, [] => []
  | none, x :: l => x :: stt b (some x) l
  | some s, x :: l => if x - s ≥ b then x :: stt b (some x) l else stt b (some s) l
/-- Times. -/
def Bnd (l : List Int) : Prop := ∀ x ∈ l, 0 ≤ x ∧ x ≤ 1099511627776
/-- Each is at least g behind the one ahead. -/
def lf (g : Int) : Option Int → List Int → Prop
  | _, [] => True
  | none, x :: l => lf g (some x) l
  | some v, x :: l => x - v ≥ g ∧ lf g (some x) l
theorem rd_last (pre : List Int) (v : Int) (h : pre.length < 1000000000000000) : rd (pre ++ [v]) (wrap64 (((pre ++ [v]).length : Int) - 1)) = v := by
  have e : wrap64 (((pre ++ [v]).length : Int) - 1) = pre.length := by rw [List.length_append, List.length_singleton, w64 (by omega) (by omega)]; omega
  rw [e]; simp [rd]
theorem Bnd.tail {x : Int} {l : List Int} (h : Bnd (x :: l)) : Bnd l := fun y hy => h y (List.mem_cons_of_mem _ hy)
theorem Bnd.head {x : Int} {l : List Int} (h : Bnd (x :: l)) : 0 ≤ x ∧ x ≤ 1099511627776 := h x (List.mem_cons_self ..)
theorem starts_l0 (b : Int) (l : List Int) (hn : l.length ≤ 1000000000000) : ∀ (r : List Int) (i : Nat) (pre : List Int) (v : Int), l.drop i = r → Bnd r → 0 ≤ v → v ≤ 1099511627776 → pre.length ≤ i →
    Ev (fun k => burst_Starts.l0 k b (pre ++ [v]) l (l.length : Int) (i : Int)) (pre ++ [v] ++ stt b (some v) r) := by
  intro r
  induction r with
  | nil =>
    intro i pre v h _ _ _ _
    have := drop_nil h
    refine Ev.step (f := fun _ => some _) (fun k => ?_) (Ev.now _)
    simp only [burst_Starts.l0]
    rw [if_neg (by omega)]; simp [stt]
  | cons x r ih =>
    intro i pre v h hB hv0 hv1 hp
    obtain ⟨hl, hx, hd⟩ := drop_cons h
    have hxb := hB.head
    have hw : wrap64 ((i : Int) + 1) = ((i + 1 : Nat) : Int) := by rw [w64 (by omega) (by omega)]; rfl
    have hlast := rd_last pre v (by omega)
    have hlen : wrap64 (((pre ++ [v]).length : Int) - 1) = pre.length := by rw [List.length_append, List.length_singleton, w64 (by omega) (by omega)]; omega
    by_cases hb : x - v ≥ b
    · have e : pre ++ [v] ++ stt b (some v) (x :: r) = (pre ++ [v]) ++ [x] ++ stt b (some x) r := by simp [stt, if_pos hb]
      rw [e]
      refine Ev.step (fun k => ?_) (ih (i + 1) (pre ++ [v]) x hd hB.tail hxb.1 hxb.2 (by simp; omega))
      simp only [burst_Starts.l0]
      rw [if_pos (by omega), if_pos (by omega), if_pos (by omega), if_neg (by simp; omega), hlast, hx, w64 (x := x - v) (by omega) (by omega), hw, hlen, if_pos (by omega), if_pos (by simp; omega), if_pos hb, if_pos (by simp; omega)]
    · have e : pre ++ [v] ++ stt b (some v) (x :: r) = pre ++ [v] ++ stt b (some v) r := by simp only [stt, if_neg hb]
      rw [e]
      refine Ev.step (fun k => ?_) (ih (i + 1) pre v hd hB.tail hv0 hv1 (by omega))
      simp only [burst_Starts.l0]
      rw [if_pos (by omega), if_pos (by omega), if_pos (by omega), if_neg (by simp; omega), hlast, hx, w64 (x := x - v) (by omega) (by omega), hw, hlen, if_pos (by omega), if_pos (by simp; omega), if_neg hb]
theorem starts_ev (b : Int) (l : List Int) (hn : l.length ≤ 1000000000000) (hB : Bnd l) : Ev (fun k => burst_Starts.f k l b) (stt b none l) := by
  unfold burst_Starts.f
  cases l with
  | nil =>
    refine Ev.step (f := fun _ => some _) (fun k => ?_) (Ev.now _)
    simp [burst_Starts.l0, stt]
  | cons x r =>
    have hl : (x :: r).length = r.length + 1 := rfl
    refine Ev.step (fun k => ?_) (starts_l0 b (x :: r) hn r 1 [] x rfl hB.tail hB.head.1 hB.head.2 (by simp))
    simp only [burst_Starts.l0]
    rw [if_pos (by omega), if_pos (by omega), if_pos (by omega), if_pos (by simp), if_pos (by simp), w64 (by omega) (by omega)]; rfl
theorem stt_mem {b : Int} : ∀ {l : List Int} {s : Option Int} {y : Int}, y ∈ stt b s l → y ∈ l := by
  intro l
  induction l with
  | nil => intro s y h; simp [stt] at h
  | cons x r ih =>
    intro s y h
    cases s with
    | none =>
      simp only [stt, List.mem_cons] at h ⊢
      exact h.imp_right ih
    | some v =>
      simp only [stt] at h
      split at h
      · simp only [List.mem_cons] at h ⊢; exact h.imp_right ih
      · exact List.mem_cons_of_mem _ (ih h)
theorem stt_bnd {b : Int} {l : List Int} {s : Option Int} (h : Bnd l) : Bnd (stt b s l) := fun y hy => h y (stt_mem hy)
theorem stt_len {b : Int} : ∀ (l : List Int) (s : Option Int), (stt b s l).length ≤ l.length := by
  intro l
  induction l with
  | nil => intro s; simp [stt]
  | cons x r ih =>
    intro s
    cases s with
    | none => simp only [stt, List.length_cons]; have := ih (some x); omega
    | some v =>
      simp only [stt]; split
      · simp only [List.length_cons]; have := ih (some x); omega
      · simp only [List.length_cons]; have := ih (some v); omega
theorem stt_lf {b : Int} : ∀ (l : List Int) (s : Option Int), lf b s (stt b s l) := by
  intro l
  induction l with
  | nil => intro s; simp [stt, lf]
  | cons x r ih =>
    intro s
    cases s with
    | none => simp only [stt, lf]; exact ih (some x)
    | some v =>
      simp only [stt]; split
      · exact ⟨by assumption, ih (some x)⟩
      · exact ih (some v)
theorem lf_mono {g g' : Int} (h : g' ≤ g) : ∀ {l : List Int} {s : Option Int}, lf g s l → lf g' s l := by
  intro l
  induction l with
  | nil => intro s _; simp [lf]
  | cons x r ih =>
    intro s hl
    cases s with
    | none => exact ih (s := some x) hl
    | some v => exact ⟨by have := hl.1; omega, ih (s := some x) hl.2⟩

theorem wrapu64 {x : Int} (h0 : 0 ≤ x) (h1 : x < 18446744073709551616) : IntKind.u64.wrap x = x := by
  simp [IntKind.wrap, IntKind.signed, IntKind.bits]; omega
/-- What a list of faults that are made is: times, and not many. -/
def Few (m : Nat) (o : List Int) : Prop := Bnd o ∧ o.length ≤ m
theorem Few.snoc {m : Nat} {o : List Int} {y : Int} (h : Few m o) (h0 : 0 ≤ y) (h1 : y ≤ 1000000000) : Few (m + 1) (o ++ [y]) := by
  refine ⟨fun z hz => ?_, by have := h.2; simp; omega⟩
  rcases List.mem_append.1 hz with hz | hz
  · exact h.1 z hz
  · simp at hz; omega
theorem Few.mono {m m' : Nat} {o : List Int} (h : Few m o) (hm : m ≤ m') : Few m' o := ⟨h.1, Nat.le_trans h.2 hm⟩
/-- The ticks of one burst. -/
theorem made_l1 (ap bi : List Int) (n g : Int) (i : Nat) (x : Int) (hi : i ≤ 60) (hx0 : 0 ≤ x) (hx1 : x ≤ 1000000)
    (hnext : ∀ o, Few (10 * (i + 1)) o → ∃ r, Ev (fun k => pendulumref18_Made.l0 k ap bi n g o x ((i + 1 : Nat) : Int)) r ∧ Few 1000 r) :
    ∀ (d c : Nat) (o : List Int), c + d = 8 → Few (10 * i + 1 + c) o → ∃ r, Ev (fun k => pendulumref18_Made.l1 k ap bi n g o x (i : Int) (c : Int)) r ∧ Few 1000 r := by
  intro d
  induction d with
  | zero =>
    intro c o hc ho
    obtain ⟨r, hr, hf⟩ := hnext o (ho.mono (by omega))
    refine ⟨r, ?_, hf⟩
    refine Ev.step (f := fun k => pendulumref18_Made.j3 k ap bi n g o x (i : Int) (c : Int) false) (fun k => ?_) (Ev.step (fun k => ?_) hr)
    · simp only [pendulumref18_Made.l1]
      rw [if_neg (show ¬ (c : Int) < 8 by omega)]; simp
    · simp only [pendulumref18_Made.j3]
      rw [if_neg (by simp), w1 (n := i) (by omega)]
  | succ d ih =>
    intro c o hc ho
    have hstop : ∃ r, Ev (fun k => pendulumref18_Made.j3 k ap bi n g o x (i : Int) (c : Int) false) r ∧ Few 1000 r := by
      obtain ⟨r, hr, hf⟩ := hnext o (ho.mono (by omega))
      refine ⟨r, Ev.step (fun k => ?_) hr, hf⟩
      simp only [pendulumref18_Made.j3]
      rw [if_neg (by simp), w1 (n := i) (by omega)]
    have hgo : ∃ r, Ev (fun k => pendulumref18_Made.j3 k ap bi n g o x (i : Int) (c : Int) true) r ∧ Few 1000 r := by
      have hskip : ∃ r, Ev (fun k => pendulumref18_Made.l1 k ap bi n g o x (i : Int) ((c + 1 : Nat) : Int)) r ∧ Few 1000 r := ih (c + 1) o (by omega) (ho.mono (by omega))
      by_cases hib : (i : Int) < (bi.length : Int)
      · by_cases hbit : Go.bits .and .u8 (shr .u8 (rd bi (i : Int)) (IntKind.u64.wrap (c : Int))) 1 = 1
        · obtain ⟨r, hr, hf⟩ := ih (c + 1) (o ++ [x + (c : Int)]) (by omega) ((ho.snoc (by omega) (by omega)).mono (by omega))
          refine ⟨r, Ev.step (fun k => ?_) hr, hf⟩
          have hlen := ho.2
          simp only [pendulumref18_Made.j3]
          rw [if_pos trivial, if_pos hib, if_pos (show (0 : Int) ≤ (i : Int) by omega), if_pos (show 0 ≤ IntKind.u64.wrap (c : Int) by rw [wrapu64 (by omega) (by omega)]; omega), if_pos hbit, if_pos (by omega), w64 (x := x + (c : Int)) (by omega) (by omega), w1 (n := c) (by omega)]
        · obtain ⟨r, hr, hf⟩ := hskip
          refine ⟨r, Ev.step (fun k => ?_) hr, hf⟩
          simp only [pendulumref18_Made.j3]
          rw [if_pos trivial, if_pos hib, if_pos (show (0 : Int) ≤ (i : Int) by omega), if_pos (show 0 ≤ IntKind.u64.wrap (c : Int) by rw [wrapu64 (by omega) (by omega)]; omega), if_neg hbit, w1 (n := c) (by omega)]
      · obtain ⟨r, hr, hf⟩ := hskip
        refine ⟨r, Ev.step (fun k => ?_) hr, hf⟩
        simp only [pendulumref18_Made.j3]
        rw [if_pos trivial, if_neg hib, w1 (n := c) (by omega)]
    by_cases h1 : (c : Int) < n
    · by_cases h2 : (c : Int) < g
      · obtain ⟨r, hr, hf⟩ := hgo
        refine ⟨r, Ev.step (fun k => ?_) hr, hf⟩
        simp only [pendulumref18_Made.l1]
        rw [if_pos h1, if_pos (by omega), decide_eq_true h2]
      · obtain ⟨r, hr, hf⟩ := hstop
        refine ⟨r, Ev.step (fun k => ?_) hr, hf⟩
        simp only [pendulumref18_Made.l1]
        rw [if_pos h1, if_pos (by omega), decide_eq_false h2]
    · obtain ⟨r, hr, hf⟩ := hstop
      refine ⟨r, Ev.step (fun k => ?_) hr, hf⟩
      simp only [pendulumref18_Made.l1]
      rw [if_neg h1]
theorem made_l0 (ap bi : List Int) (n g : Int) (hap : ap.length ≤ 60) (hab : ∀ x ∈ ap, 0 ≤ x ∧ x ≤ 255) (hg0 : 0 ≤ g) (hg1 : g ≤ 256) :
    ∀ (q : List Int) (i : Nat) (o : List Int) (x : Int), ap.drop i = q → i ≤ 60 → Few (10 * i) o → 0 ≤ x → x ≤ 1000 * i → ∃ r, Ev (fun k => pendulumref18_Made.l0 k ap bi n g o x (i : Int)) r ∧ Few 1000 r := by
  intro q
  induction q with
  | nil =>
    intro i o x h hi ho _ _
    have := drop_nil h
    refine ⟨o, Ev.step (f := fun _ => some _) (fun k => ?_) (Ev.now _), ho.mono (by omega)⟩
    simp only [pendulumref18_Made.l0]
    rw [if_neg (by omega)]
  | cons y q ih =>
    intro i o x h hi ho hx0 hx1
    obtain ⟨hl, hy, hd⟩ := drop_cons h
    have hyb := hab y (List.mem_of_mem_drop (by rw [h]; exact List.mem_cons_self ..))
    have hlen := ho.2
    have hmain : ∀ z, 0 ≤ z → z ≤ 1000 * ((i + 1 : Nat) : Int) → ∃ r, Ev (fun k => pendulumref18_Made.j1 k ap bi n g o z (i : Int)) r ∧ Few 1000 r := by
      intro z hz0 hz1
      obtain ⟨r, hr, hf⟩ := made_l1 ap bi n g i z (by omega) hz0 (by omega) (fun o2 ho2 => ih (i + 1) o2 z hd (by omega) ho2 hz0 hz1) 7 1 (o ++ [z]) rfl ((ho.snoc hz0 (by omega)).mono (by omega))
      refine ⟨r, Ev.step (fun k => ?_) hr, hf⟩
      simp only [pendulumref18_Made.j1]
      rw [if_pos (by omega)]; rfl
    by_cases h0 : (i : Int) > 0
    · obtain ⟨r, hr, hf⟩ := hmain (x + y + g) (by omega) (by omega)
      refine ⟨r, Ev.step (fun k => ?_) hr, hf⟩
      simp only [pendulumref18_Made.l0]
      rw [if_pos (by omega), if_pos (by omega), if_pos h0, hy, w64 (x := y) (by omega) (by omega), w64 (x := x + y) (by omega) (by omega), w64 (x := x + y + g) (by omega) (by omega)]
    · obtain ⟨r, hr, hf⟩ := hmain (x + y) (by omega) (by omega)
      refine ⟨r, Ev.step (fun k => ?_) hr, hf⟩
      simp only [pendulumref18_Made.l0]
      rw [if_pos (by omega), if_pos (by omega), if_neg h0, hy, w64 (x := y) (by omega) (by omega), w64 (x := x + y) (by omega) (by omega)]

/-- The least of m and of the distances behind v. -/
def gp : Int → Int → List Int → Int
  | m, _, [] => m
  | m, v, x :: l => gp (mn m (x - v)) x l
theorem mn_ge {a b c : Int} : mn a b ≥ c ↔ a ≥ c ∧ b ≥ c := by unfold mn; split <;> omega
theorem gp_ge {g : Int} : ∀ {l : List Int} {m v : Int}, gp m v l ≥ g ↔ m ≥ g ∧ lf g (some v) l := by
  intro l
  induction l with
  | nil => intro m v; simp [gp, lf]
  | cons x r ih =>
    intro m v
    simp only [gp, lf, ih, mn_ge]
    exact ⟨fun h => ⟨h.1.1, h.1.2, h.2⟩, fun h => ⟨⟨h.1, h.2.1⟩, h.2.2⟩⟩
theorem gp_le : ∀ (l : List Int) (m v : Int), gp m v l ≤ m := by
  intro l
  induction l with
  | nil => intro m v; simp [gp]
  | cons x r ih => intro m v; have := ih (mn m (x - v)) x; simp only [gp]; have h2 : mn m (x - v) ≤ m := by unfold mn; split <;> omega
                   omega
theorem gap_l0 (s : List Int) (hn : s.length ≤ 1000000000000) : ∀ (r : List Int) (i : Nat) (m v : Int), s.drop i = v :: r → Bnd (v :: r) → Ev (fun k => burst_Gap.l0 k m s ((s.length : Int) - 1) (i : Int)) (gp m v r) := by
  intro r
  induction r with
  | nil =>
    intro i m v h _
    obtain ⟨hl, hx, hd⟩ := drop_cons h
    have := drop_nil hd
    refine Ev.step (f := fun _ => some _) (fun k => ?_) (Ev.now _)
    simp only [burst_Gap.l0]
    rw [if_neg (by omega)]; rfl
  | cons x r ih =>
    intro i m v h hB
    obtain ⟨hl, hv, hd⟩ := drop_cons h
    obtain ⟨hl2, hx, hd2⟩ := drop_cons hd
    have hvb := hB.head
    have hxb := hB.tail.head
    have hw : wrap64 ((i : Int) + 1) = ((i + 1 : Nat) : Int) := by rw [w64 (by omega) (by omega)]; rfl
    refine Ev.step (fun k => ?_) (ih (i + 1) (mn m (x - v)) x hd hB.tail)
    simp only [burst_Gap.l0]
    rw [hw, hx, hv, w64 (x := x - v) (by omega) (by omega), if_pos (by omega), if_pos (by omega), if_pos (by omega), if_pos (by omega), if_pos (by omega)]
/-- The greatest gap of which faults are legal. -/
def gpa (b : Int) (l : List Int) : Int := match stt b none l with
  | [] => 1049576
  | v :: r => gp 1049576 v r
theorem gap_ev (b : Int) (l : List Int) (hn : l.length ≤ 1000000000000) (hB : Bnd l) : Ev (fun k => burst_Gap.f k l b) (gpa b l) := by
  unfold burst_Gap.f
  refine Ev.bind (starts_ev b l hn hB) ?_
  have hlen := stt_len (b := b) l none
  have hb := stt_bnd (b := b) (s := none) hB
  unfold gpa
  generalize stt b none l = s at *
  rw [w64 (by omega) (by omega)]
  cases s with
  | nil =>
    refine Ev.step (f := fun _ => some _) (fun k => ?_) (Ev.now _)
    simp [burst_Gap.l0]
  | cons v r => exact gap_l0 (v :: r) (by omega) r 0 1049576 v rfl hb
theorem gpa_ge (b g : Int) (l : List Int) : gpa b l ≥ g ↔ 1049576 ≥ g ∧ lf g none (stt b none l) := by
  unfold gpa
  cases stt b none l with
  | nil => simp [lf]
  | cons v r => exact gp_ge
theorem gpa_le (b : Int) (l : List Int) : gpa b l ≤ 1049576 := by
  unfold gpa
  cases stt b none l with
  | nil => simp
  | cons v r => exact gp_le _ _ _
theorem legal_ev (b g : Int) (l : List Int) (hn : l.length ≤ 1000000000000) (hB : Bnd l) : Ev (fun k => burst_Legal.f k l b g) (decide (gpa b l ≥ g)) := by
  unfold burst_Legal.f
  exact Ev.bind (gap_ev b l hn hB) (Ev.now _)

theorem refstarts_l1 (b : Int) (l : List Int) (hb : 1 ≤ b) (hb2 : b ≤ 1000000) (hn : l.length ≤ 1000000000000) : ∀ (r : List Int) (i : Nat) (out : List Int) (v : Int), l.drop i = r → Bnd r → 0 ≤ v → v ≤ 1099511627776 → out.length ≤ i →
    Ev (fun k => pendulumref18_Starts.l1 k l b out (i : Int) v) (out ++ stt b (some v) r) := by
  intro r
  induction r with
  | nil =>
    intro i out v h _ _ _ _
    have := drop_nil h
    have e0 : Ev (fun k => pendulumref18_Starts.l0 k l b out (i : Int)) out := by
      refine Ev.step (f := fun _ => some _) (fun k => ?_) (Ev.now _)
      simp only [pendulumref18_Starts.l0]
      rw [if_neg (by omega)]
    rw [show out ++ stt b (some v) [] = out by simp [stt]]
    refine Ev.step (fun k => ?_) e0
    simp only [pendulumref18_Starts.l1]
    rw [if_neg (by omega)]
  | cons x r ih =>
    intro i out v h hB hv0 hv1 hp
    obtain ⟨hl, hx, hd⟩ := drop_cons h
    have hxb := hB.head
    have hw : wrap64 ((i : Int) + 1) = ((i + 1 : Nat) : Int) := by rw [w64 (by omega) (by omega)]; rfl
    by_cases hy : x - v ≥ b
    · rw [show out ++ stt b (some v) (x :: r) = (out ++ [x]) ++ stt b (some x) r by simp only [stt, if_pos hy]; simp]
      refine Ev.step (f := fun k => pendulumref18_Starts.l0 k l b out (i : Int)) (fun k => ?_) ?_
      · simp only [pendulumref18_Starts.l1]
        rw [hx, w64 (x := v + b) (by omega) (by omega), if_pos (by omega), if_pos (by omega), if_neg (by omega)]
      · refine Ev.step (f := fun k => pendulumref18_Starts.l1 k l b (out ++ [x]) (i : Int) x) (fun k => ?_) ?_
        · simp only [pendulumref18_Starts.l0]
          rw [hx, if_pos (by omega), if_pos (by omega), if_pos (by omega)]
        · refine Ev.step (fun k => ?_) (ih (i + 1) (out ++ [x]) x hd hB.tail hxb.1 hxb.2 (by simp; omega))
          simp only [pendulumref18_Starts.l1]
          rw [hx, w64 (x := x + b) (by omega) (by omega), hw, if_pos (by omega), if_pos (by omega), if_pos (by omega)]
    · rw [show out ++ stt b (some v) (x :: r) = out ++ stt b (some v) r by simp only [stt, if_neg hy]]
      refine Ev.step (fun k => ?_) (ih (i + 1) out v hd hB.tail hv0 hv1 (by omega))
      simp only [pendulumref18_Starts.l1]
      rw [hx, w64 (x := v + b) (by omega) (by omega), hw, if_pos (by omega), if_pos (by omega), if_pos (by omega)]
theorem refstarts_ev (b : Int) (l : List Int) (hb : 1 ≤ b) (hb2 : b ≤ 1000000) (hn : l.length ≤ 1000000000000) (hB : Bnd l) : Ev (fun k => pendulumref18_Starts.f k l b) (stt b none l) := by
  unfold pendulumref18_Starts.f
  cases l with
  | nil =>
    refine Ev.step (f := fun _ => some _) (fun k => ?_) (Ev.now _)
    simp [pendulumref18_Starts.l0, stt]
  | cons x r =>
    have hl : (x :: r).length = r.length + 1 := rfl
    have hx : rd (x :: r) 0 = x := rfl
    have hxb := hB.head
    refine Ev.step (f := fun k => pendulumref18_Starts.l1 k (x :: r) b [x] 0 x) (fun k => ?_) ?_
    · simp only [pendulumref18_Starts.l0]
      rw [hx, if_pos (by omega), if_pos (by omega), if_pos (by simp)]; rfl
    · refine Ev.step (fun k => ?_) (refstarts_l1 b (x :: r) hb hb2 hn r 1 [x] x rfl hB.tail hxb.1 hxb.2 (by simp))
      simp only [pendulumref18_Starts.l1]
      rw [hx, w64 (x := x + b) (by omega) (by omega), if_pos (by omega), if_pos (by omega), if_pos (by omega), w64 (by omega) (by omega)]; rfl

instance lfDec (g : Int) : (s : Option Int) → (l : List Int) → Decidable (lf g s l)
  | none, [] => isTrue trivial
  | some _, [] => isTrue trivial
  | none, x :: l => lfDec g (some x) l
  | some v, x :: l => match lfDec g (some x) l with
    | isTrue h => if h2 : x - v ≥ g then isTrue ⟨h2, h⟩ else isFalse (fun e => h2 e.1)
    | isFalse h => isFalse (fun e => h e.2)
theorem reflegal_l0 (g : Int) (s : List Int) (hn : s.length ≤ 1000000000000) : ∀ (r : List Int) (i : Nat) (v : Int), s.drop i = v :: r → Bnd (v :: r) → Ev (fun k => pendulumref18_Legal.l0 k g s ((i + 1 : Nat) : Int)) (decide (lf g (some v) r)) := by
  intro r
  induction r with
  | nil =>
    intro i v h _
    obtain ⟨hl, hv, hd⟩ := drop_cons h
    have := drop_nil hd
    refine Ev.step (f := fun _ => some _) (fun k => ?_) (Ev.now _)
    simp only [pendulumref18_Legal.l0]
    rw [if_neg (by omega), decide_eq_true (show lf g (some v) [] from trivial)]
  | cons x r ih =>
    intro i v h hB
    obtain ⟨hl, hv, hd⟩ := drop_cons h
    obtain ⟨hl2, hx, hd2⟩ := drop_cons hd
    have hvb := hB.head
    have hxb := hB.tail.head
    have hw : wrap64 (((i + 1 : Nat) : Int) + 1) = ((i + 1 + 1 : Nat) : Int) := by rw [w64 (by omega) (by omega)]; rfl
    have hw2 : wrap64 (((i + 1 : Nat) : Int) - 1) = (i : Int) := by rw [w64 (by omega) (by omega)]; omega
    by_cases hy : x - v < g
    · rw [decide_eq_false (show ¬ lf g (some v) (x :: r) from fun e => by have := e.1; omega)]
      refine Ev.step (f := fun _ => some _) (fun k => ?_) (Ev.now _)
      simp only [pendulumref18_Legal.l0]
      rw [hw2, hx, hv, w64 (x := x - v) (by omega) (by omega), if_pos (by omega), if_pos (by omega), if_pos (by omega), if_pos (by omega), if_pos hy]
    · rw [show decide (lf g (some v) (x :: r)) = decide (lf g (some x) r) from decide_eq_decide.2 ⟨fun e => e.2, fun e => ⟨by omega, e⟩⟩]
      refine Ev.step (fun k => ?_) (ih (i + 1) x hd hB.tail)
      simp only [pendulumref18_Legal.l0]
      rw [hw2, hx, hv, hw, w64 (x := x - v) (by omega) (by omega), if_pos (by omega), if_pos (by omega), if_pos (by omega), if_pos (by omega), if_neg hy]
theorem reflegal_ev (b g : Int) (l : List Int) (hb : 1 ≤ b) (hb2 : b ≤ 1000000) (hn : l.length ≤ 1000000000000) (hB : Bnd l) : Ev (fun k => pendulumref18_Legal.f k l b g) (decide (lf g none (stt b none l))) := by
  unfold pendulumref18_Legal.f
  refine Ev.bind (refstarts_ev b l hb hb2 hn hB) ?_
  have hlen := stt_len (b := b) l none
  have hbs := stt_bnd (b := b) (s := none) hB
  generalize stt b none l = s at *
  cases s with
  | nil =>
    refine Ev.step (f := fun _ => some _) (fun k => ?_) (Ev.now _)
    simp only [pendulumref18_Legal.l0]
    rw [if_neg (by simp), decide_eq_true (show lf g none [] from trivial)]
  | cons v r => exact reflegal_l0 g (v :: r) (by omega) r 0 v rfl hbs

/-- How many lie from f on, ahead of t. -/
def cnt (f t : Int) (l : List Int) : Nat := (l.filter (fun x => decide (f ≤ x ∧ x < t))).length
theorem cnt_cons (f t x : Int) (l : List Int) : cnt f t (x :: l) = (if f ≤ x ∧ x < t then 1 else 0) + cnt f t l := by
  unfold cnt
  by_cases h : f ≤ x ∧ x < t
  · rw [if_pos h, List.filter_cons_of_pos (by simpa using h)]; simp; omega
  · rw [if_neg h, List.filter_cons_of_neg (by simpa using h)]; simp
theorem in_l0 (f t : Int) (l : List Int) (hn : l.length ≤ 1000000000000) : ∀ (r : List Int) (i c : Nat), l.drop i = r → c ≤ i → Ev (fun k => burst_In.l0 k f t (c : Int) l (l.length : Int) (i : Int)) ((c + cnt f t r : Nat) : Int) := by
  intro r
  induction r with
  | nil =>
    intro i c h _
    have := drop_nil h
    refine Ev.step (f := fun _ => some _) (fun k => ?_) (Ev.now _)
    simp only [burst_In.l0]
    rw [if_neg (by omega)]; rfl
  | cons x r ih =>
    intro i c h hc
    obtain ⟨hl, hx, hd⟩ := drop_cons h
    have hw : wrap64 ((i : Int) + 1) = ((i + 1 : Nat) : Int) := by rw [w64 (by omega) (by omega)]; rfl
    have hwc : wrap64 ((c : Int) + 1) = ((c + 1 : Nat) : Int) := by rw [w64 (by omega) (by omega)]; rfl
    rw [cnt_cons]
    by_cases hy : f ≤ x ∧ x < t
    · rw [if_pos hy, show c + (1 + cnt f t r) = (c + 1) + cnt f t r by omega]
      refine Ev.step (fun k => ?_) (ih (i + 1) (c + 1) hd (by omega))
      simp only [burst_In.l0]
      rw [hx, hw, hwc, if_pos (by omega), if_pos (by omega), if_pos (by omega), if_pos hy.1, if_pos hy.2]
    · rw [if_neg hy, Nat.zero_add]
      refine Ev.step (fun k => ?_) (ih (i + 1) c hd (by omega))
      simp only [burst_In.l0]
      rw [hx, hw, if_pos (by omega), if_pos (by omega), if_pos (by omega)]
      by_cases h1 : x ≥ f
      · rw [if_pos h1, if_neg (fun h2 => hy ⟨h1, h2⟩)]
      · rw [if_neg h1]
theorem in_ev (f t : Int) (l : List Int) (hn : l.length ≤ 1000000000000) : Ev (fun k => burst_In.f k l f t) (cnt f t l : Int) := by
  unfold burst_In.f
  have := in_l0 f t l hn l 0 0 rfl (by omega)
  simpa using this

/-- The quotient, rounded up. -/
def cl (a b : Int) : Int := (a + b - 1) / b
theorem cl_of (a b q r : Int) (hb : 0 < b) (h : a = r + q * b) (h0 : 0 ≤ r) (h1 : r < b) : cl a b = if r = 0 then q else q + 1 := by
  unfold cl
  by_cases e : r = 0
  · rw [if_pos e, show a + b - 1 = (b - 1) + q * b by omega, Int.add_mul_ediv_right _ _ (by omega), Int.ediv_eq_zero_of_lt (by omega) (by omega)]; omega
  · rw [if_neg e, show a + b - 1 = (r - 1) + (q + 1) * b by rw [Int.add_mul]; omega, Int.add_mul_ediv_right _ _ (by omega), Int.ediv_eq_zero_of_lt (by omega) (by omega)]; omega
theorem time_eq (a : Int) : tick_time.f a = some (decide (0 ≤ a ∧ a ≤ 4611686018427387904)) := by
  unfold tick_time.f
  by_cases h : a ≥ 0
  · rw [if_pos h]; congr 1; simp; omega
  · rw [if_neg h]; congr 1; simp; omega
theorem ceil_ev (a b : Int) (h0 : 0 ≤ a) (h1 : a ≤ 4611686018427387904) (h2 : 1 ≤ b) (h3 : b ≤ 4611686018427387904) : Ev (fun k => tick_Ceil.f k a b) (cl a b, true) := by
  have hb : (b == 0) = false := by simp; omega
  have hr0 := Int.emod_nonneg a (show b ≠ 0 by omega)
  have hr1 := Int.emod_lt_of_pos a (show 0 < b by omega)
  have hq0 : 0 ≤ a / b := Int.ediv_nonneg h0 (by omega)
  have hq1 : a / b ≤ a := Int.ediv_le_self _ h0
  have hqb : a = a % b + a / b * b := by have := Int.emod_add_mul_ediv a b; rw [Int.mul_comm] at this; omega
  have hqb0 : 0 ≤ a / b * b := Int.mul_nonneg hq0 (by omega)
  refine Ev.step (f := fun _ => some (cl a b, true)) (fun k => ?_) (Ev.now _)
  unfold tick_Ceil.f
  rw [time_eq, time_eq]
  have e1 : decide (0 ≤ a ∧ a ≤ 4611686018427387904) = true := by simp; omega
  have e2 : decide (0 ≤ b ∧ b ≤ 4611686018427387904) = true := by simp; omega
  simp only [e1, e2, Option.bind_some, if_true, tick_Ceil.j0, hb]
  rw [if_neg (by simp), if_neg (by omega), Int.tdiv_eq_ediv_of_nonneg h0, w64 (x := a / b) (by omega) (by omega), w64 (x := a / b * b) (by omega) (by omega), w64 (x := a / b + 1) (by omega) (by omega)]
  rw [cl_of a b (a / b) (a % b) (by omega) hqb hr0 hr1]
  by_cases e : a % b = 0
  · rw [if_pos e, if_neg (by omega)]
  · rw [if_neg e, if_pos (by omega)]

/-- How many bursts strike at most. -/
def mst (w b g : Int) : Int := if w = 0 then 0 else (w + b - 2) / g + 1
theorem most_ev (w b g : Int) (h0 : 0 ≤ w) (h1 : w ≤ 9000000000) (h2 : 1 ≤ b) (h3 : b ≤ 1000) (h4 : 1 ≤ g) (h5 : g ≤ 1049576) : Ev (fun k => burst_Most.f k w b g) (mst w b g) := by
  unfold burst_Most.f mst
  by_cases e : w = 0
  · simp only [if_pos e]; exact Ev.now _
  · simp only [if_neg e]
    rw [w64 (x := w + b) (by omega) (by omega), w64 (by omega) (by omega)]
    refine Ev.bind (ceil_ev _ _ (by omega) (by omega) (by omega) (by omega)) ?_
    have : cl (w + b - 1) g = (w + b - 2) / g + 1 := by
      unfold cl; rw [show w + b - 1 + g - 1 = (w + b - 2) + 1 * g by omega, Int.add_mul_ediv_right _ _ (by omega)]
    simp only [this]; exact Ev.now _
theorem mst_mono {w w' b g : Int} (h0 : 0 ≤ w) (h : w ≤ w') (hb : 1 ≤ b) (hg : 1 ≤ g) : mst w b g ≤ mst w' b g := by
  unfold mst
  by_cases e : w = 0
  · rw [if_pos e]; split
    · omega
    · have := Int.ediv_nonneg (a := w' + b - 2) (b := g) (by omega) (by omega); omega
  · rw [if_neg e, if_neg (by omega)]
    have := Int.ediv_le_ediv (a := w + b - 2) (b := w' + b - 2) (c := g) (by omega) (by omega); omega
theorem div_anti {x g g' : Int} (hx : 0 ≤ x) (h0 : 1 ≤ g') (h : g' ≤ g) : x / g ≤ x / g' := by
  refine Int.le_ediv_of_mul_le (by omega) ?_
  have h1 := Int.ediv_mul_le x (show g ≠ 0 by omega)
  have h2 : x / g * g' ≤ x / g * g := Int.mul_le_mul_of_nonneg_left h (Int.ediv_nonneg hx (by omega))
  omega
theorem mst_anti {w b g g' : Int} (h0 : 0 ≤ w) (hb : 1 ≤ b) (hg : 1 ≤ g') (h : g' ≤ g) : mst w b g ≤ mst w b g' := by
  unfold mst
  by_cases e : w = 0
  · rw [if_pos e, if_pos e]; omega
  · rw [if_neg e, if_neg e]
    have := div_anti (x := w + b - 2) (by omega) hg h; omega

theorem awake_ev : Ev (fun k => pendulumlaw18_awake.f k) true := Ev.of (k := 20) pendulumlaw18_awake.mono (by kernel_rfl)

theorem lf_weak {g v v' : Int} (h : v' ≤ v) : ∀ {l : List Int}, lf g (some v) l → lf g (some v') l := by
  intro l hl
  cases l with
  | nil => trivial
  | cons x r => exact ⟨by have := hl.1; omega, hl.2⟩
theorem lf_ge {g : Int} (hg : 0 ≤ g) : ∀ {l : List Int} {v : Int}, lf g (some v) l → ∀ x ∈ l, v + g ≤ x := by
  intro l
  induction l with
  | nil => intro v _ x hx; cases hx
  | cons y r ih =>
    intro v h x hx
    have h1 := h.1
    rcases List.mem_cons.1 hx with rfl | hx
    · omega
    · have := ih h.2 x hx; omega
theorem cnt_zero {f t : Int} : ∀ {l : List Int}, (∀ x ∈ l, ¬ (f ≤ x ∧ x < t)) → cnt f t l = 0 := by
  intro l
  induction l with
  | nil => intro _; rfl
  | cons x r ih =>
    intro h
    rw [cnt_cons, if_neg (h x (List.mem_cons_self ..)), ih (fun y hy => h y (List.mem_cons_of_mem _ hy))]
theorem cnt_add {f t f1 t1 f2 t2 : Int} : ∀ {l : List Int}, (∀ x ∈ l, f ≤ x ∧ x < t → (f1 ≤ x ∧ x < t1) ∨ (f2 ≤ x ∧ x < t2)) → cnt f t l ≤ cnt f1 t1 l + cnt f2 t2 l := by
  intro l
  induction l with
  | nil => intro _; simp [cnt]
  | cons x r ih =>
    intro h
    have h1 := ih (fun y hy => h y (List.mem_cons_of_mem _ hy))
    have h2 := h x (List.mem_cons_self ..)
    simp only [cnt_cons]
    by_cases e : f ≤ x ∧ x < t
    · rw [if_pos e]
      rcases h2 e with e2 | e2
      · rw [if_pos e2]; omega
      · rw [if_pos e2]; omega
    · rw [if_neg e]; omega
/-- Points that are a gap apart: how many lie in a stretch. -/
theorem cnt_gap {g t : Int} (hg : 1 ≤ g) : ∀ {l : List Int} {f : Int}, lf g none l → f ≤ t → (cnt f t l : Int) * g ≤ t - f + g - 1 := by
  intro l
  induction l with
  | nil => intro f _ h; simp [cnt]; omega
  | cons v r ih =>
    intro f h hft
    have hr : lf g none r := by
      cases r with
      | nil => trivial
      | cons y q => exact h.2
    have hge := lf_ge (by omega) (show lf g (some v) r from h)
    rw [cnt_cons]
    by_cases e : f ≤ v ∧ v < t
    · rw [if_pos e]
      by_cases e2 : v + g ≤ t
      · have h1 := ih hr e2
        have h2 : cnt f t r ≤ cnt (v + g) t r + cnt 0 0 r := cnt_add (fun x hx hb => .inl ⟨hge x hx, hb.2⟩)
        have h3 : cnt 0 0 r = 0 := cnt_zero (fun x _ hb => by omega)
        have h4 : ((1 + cnt f t r : Nat) : Int) * g ≤ ((1 + cnt (v + g) t r : Nat) : Int) * g := Int.mul_le_mul_of_nonneg_right (by omega) (by omega)
        have h5 : ((1 + cnt (v + g) t r : Nat) : Int) * g = g + (cnt (v + g) t r : Int) * g := by rw [Int.natCast_add, Int.add_mul]; simp
        omega
      · have h3 : cnt f t r = 0 := cnt_zero (fun x hx hb => by have := hge x hx; omega)
        rw [h3]; simp; omega
    · rw [if_neg e, Nat.zero_add]
      exact ih hr hft
/-- Behind the beginning v each fault lies in a burst. -/
def cov (n : Int) (l : List Int) : Int → List Int → Prop
  | v, [] => ∀ x ∈ l, v ≤ x → x < v + n
  | v, v' :: r => (∀ x ∈ l, v ≤ x → x < v' → x < v + n) ∧ cov n l v' r
theorem cov_stt {n : Int} (hn : 1 ≤ n) {l : List Int} : ∀ {r : List Int} {v : Int}, (∀ x ∈ l, v ≤ x → x < v + n ∨ x ∈ r) → lf 1 (some v) r → cov n l v (stt n (some v) r) := by
  intro r
  induction r with
  | nil =>
    intro v h _
    simp only [stt, cov]
    intro x hx hv
    rcases h x hx hv with h | h
    · exact h
    · cases h
  | cons y r ih =>
    intro v h hs
    have hy := hs.1
    have hge := lf_ge (by omega) (show lf 1 (some y) r from hs.2)
    by_cases e : y - v ≥ n
    · simp only [stt, if_pos e, cov]
      refine ⟨fun x hx hv hxy => ?_, ih (fun x hx hyx => ?_) hs.2⟩
      · rcases h x hx hv with h | h
        · exact h
        · rcases List.mem_cons.1 h with rfl | h
          · omega
          · have := hge x h; omega
      · rcases h x hx (by omega) with h | h
        · omega
        · rcases List.mem_cons.1 h with rfl | h
          · left; omega
          · exact .inr h
    · simp only [stt, if_neg e]
      refine ih (fun x hx hv => ?_) (lf_weak (by omega) hs.2)
      rcases h x hx hv with h | h
      · exact .inl h
      · rcases List.mem_cons.1 h with rfl | h
        · left; omega
        · exact .inr h
/-- Whether a burst that begins at v has a fault in the ticks from a on, ahead of z. -/
def hitv (n : Int) (l : List Int) (a z v : Int) : Nat := if mx v a < mn (v + n) z then (if 0 < cnt (mx v a) (mn (v + n) z) l then 1 else 0) else 0
theorem l1_step (l s : List Int) (n g w a z : Int) (hl : l.length ≤ 1000000000000) (hs : s.length ≤ 1000000000000) (j h : Nat) (v : Int) (r : List Int) (hd : s.drop j = v :: r) (hb : Bnd s) (hn0 : 1 ≤ n) (hn1 : n ≤ 1000) (hh : h ≤ j)
    (hlf : lf n (some v) r) (hnext : Ev (fun k => pendulumlaw18_BurstMost.l1 k w n g l a z s ((h + hitv n l a z v : Nat) : Int) ((j + 1 : Nat) : Int)) true) :
    Ev (fun k => pendulumlaw18_BurstMost.l1 k w n g l a z s (h : Int) (j : Int)) true := by
  obtain ⟨hj, hv, hd2⟩ := drop_cons hd
  have hvb := hb v (List.mem_of_mem_drop (by rw [hd]; exact List.mem_cons_self ..))
  have h5 : ∀ lo hi, lo = mx v a → hi = mn (v + n) z → Ev (fun k => if lo < hi then ((burst_In.f k l lo hi).bind fun t => (if t > 0 then (pendulumlaw18_BurstMost.l1 k w n g l a z s (wrap64 ((h : Int) + 1)) (wrap64 ((j : Int) + 1))) else (pendulumlaw18_BurstMost.l1 k w n g l a z s (h : Int) (wrap64 ((j : Int) + 1))))) else (pendulumlaw18_BurstMost.l1 k w n g l a z s (h : Int) (wrap64 ((j : Int) + 1)))) true := by
    intro lo hi hlo hhi
    rw [w1 (n := j) (by omega)]
    unfold hitv at hnext
    rw [← hlo, ← hhi] at hnext
    by_cases e : lo < hi
    · simp only [if_pos e] at hnext ⊢
      refine Ev.bind (in_ev lo hi l hl) ?_
      by_cases e2 : 0 < cnt lo hi l
      · simp only [if_pos e2] at hnext
        simp only [if_pos (show ((cnt lo hi l : Nat) : Int) > 0 by omega)]
        rw [w1 (n := h) (by omega)]; exact hnext
      · simp only [if_neg e2] at hnext
        simp only [if_neg (show ¬ ((cnt lo hi l : Nat) : Int) > 0 by omega)]
        exact hnext
    · simp only [if_neg e] at hnext ⊢
      exact hnext
  have hj5 : ∀ lo, lo = mx v a → Ev (fun k => pendulumlaw18_BurstMost.j5 k w n g l a z s (h : Int) (j : Int) (v + n) lo) true := by
    intro lo hlo
    refine Ev.step (fun k => ?_) (h5 lo (mn (v + n) z) hlo rfl)
    simp only [pendulumlaw18_BurstMost.j5]
    by_cases e : z < v + n
    · rw [if_pos e, show mn (v + n) z = z by unfold mn; rw [if_pos e]]
    · rw [if_neg e, show mn (v + n) z = v + n by unfold mn; rw [if_neg e]]
  have hj4 : Ev (fun k => pendulumlaw18_BurstMost.j4 k w n g l a z s (h : Int) (j : Int) (v + n)) true := by
    refine Ev.step (fun k => ?_) (hj5 (mx v a) rfl)
    simp only [pendulumlaw18_BurstMost.j4]
    rw [if_pos (by omega), if_pos (by omega), hv]
    by_cases e : a > v
    · rw [if_pos e, show mx v a = a by unfold mx; rw [if_pos e]]
    · rw [if_neg e, show mx v a = v by unfold mx; rw [if_neg e]]
  have hj3 : Ev (fun k => pendulumlaw18_BurstMost.j3 k w n g l a z s (h : Int) (j : Int) (v + n) false) true := by
    refine Ev.step (fun k => ?_) hj4
    simp only [pendulumlaw18_BurstMost.j3]
    rw [if_neg (by simp)]
  refine Ev.step (fun k => ?_) hj3
  simp only [pendulumlaw18_BurstMost.l1]
  rw [if_pos (by omega), if_pos (by omega), hv, w64 (x := v + n) (by omega) (by omega), w1 (n := j) (by omega)]
  by_cases e : ((j + 1 : Nat) : Int) < (s.length : Int)
  · rw [if_pos e, if_pos (by omega)]
    have : ¬ rd s ((j + 1 : Nat) : Int) < v + n := by
      cases r with
      | nil => have := drop_nil hd2; omega
      | cons y q =>
        obtain ⟨_, hy, _⟩ := drop_cons hd2
        rw [hy]; have := hlf.1; omega
    rw [decide_eq_false this]
  · rw [if_neg e]
theorem hit_le (n : Int) (l : List Int) (a z v : Int) : hitv n l a z v ≤ if a - n + 1 ≤ v ∧ v < z ∧ a < z then 1 else 0 := by
  unfold hitv mx mn
  (repeat' split) <;> omega
theorem hit_ge (n : Int) (l : List Int) (hl : lf 1 none l) (a z v : Int) : (cnt (mx v a) (mn (v + n) z) l : Int) ≤ n * (hitv n l a z v : Int) := by
  unfold hitv
  by_cases e : mx v a < mn (v + n) z
  · rw [if_pos e]
    by_cases e2 : 0 < cnt (mx v a) (mn (v + n) z) l
    · rw [if_pos e2]
      have h1 := cnt_gap (g := 1) (by omega) hl (show mx v a ≤ mn (v + n) z by omega)
      have h2 : v ≤ mx v a := by unfold mx; split <;> omega
      have h3 : mn (v + n) z ≤ v + n := by unfold mn; split <;> omega
      simp; omega
    · rw [if_neg e2]; simp; omega
  · rw [if_neg e, cnt_zero (fun x _ hb => by omega)]; simp
/-- How many bursts may be hit. -/
def may (n a z : Int) (s : List Int) : Nat := if a < z then cnt (a - n + 1) z s else 0
theorem l1_ev (l s : List Int) (n g w a z : Int) (hl : l.length ≤ 1000000000) (hs : s.length ≤ 1000000000) (hb : Bnd s) (hn0 : 1 ≤ n) (hn1 : n ≤ 1000) (hg0 : 1 ≤ g) (hg1 : g ≤ 1049576) (hw0 : 0 ≤ w) (hw1 : w ≤ 65535) (hlf1 : lf 1 none l) :
    ∀ (r : List Int) (j h : Nat) (v : Int), s.drop j = v :: r → h ≤ j → lf n (some v) r → cov n l v r → (h : Int) + (may n a z (v :: r) : Int) ≤ mst w n g → (cnt a z l : Int) ≤ n * (h : Int) + (cnt (mx v a) z l : Int) →
      Ev (fun k => pendulumlaw18_BurstMost.l1 k w n g l a z s (h : Int) (j : Int)) true := by
  have hend : ∀ (j h : Nat), s.length ≤ j → (h : Int) ≤ mst w n g → (cnt a z l : Int) ≤ n * (h : Int) → Ev (fun k => pendulumlaw18_BurstMost.l1 k w n g l a z s (h : Int) (j : Int)) true := by
    intro j h hj h1 h2
    refine Ev.step (f := fun k => (burst_Most.f k (wrap64 w) n g).bind fun t => if (h : Int) ≤ t then ((burst_In.f k l a z).bind fun u => some (decide (u ≤ wrap64 (n * t)))) else some false) (fun k => ?_) ?_
    · simp only [pendulumlaw18_BurstMost.l1]
      rw [if_neg (by omega)]
    · rw [w64 (x := w) (by omega) (by omega)]
      refine Ev.bind (most_ev w n g hw0 (by omega) hn0 hn1 hg0 hg1) ?_
      simp only [if_pos h1]
      refine Ev.bind (in_ev a z l (by omega)) ?_
      have hm0 : mst w n g ≤ 1000000 := by
        unfold mst
        split
        · omega
        · have : (w + n - 2) / g ≤ w + n - 2 := Int.ediv_le_self _ (by omega)
          omega
      have h3 : n * (h : Int) ≤ n * mst w n g := Int.mul_le_mul_of_nonneg_left h1 (by omega)
      have h4 : n * mst w n g ≤ 1000 * 1000000 := Int.mul_le_mul hn1 hm0 (by omega) (by omega)
      have h5 : 0 ≤ n * (h : Int) := Int.mul_nonneg (by omega) (by omega)
      rw [w64 (x := n * mst w n g) (by omega) (by omega), decide_eq_true (show (cnt a z l : Int) ≤ n * mst w n g by omega)]
      exact Ev.now _
  intro r
  induction r with
  | nil =>
    intro j h v hd hh hlf hc hb1 hb2
    obtain ⟨hj, hv, hd2⟩ := drop_cons hd
    refine l1_step l s n g w a z (by omega) (by omega) j h v [] hd hb hn0 hn1 hh hlf ?_
    have h1 := hit_le n l a z v
    have h2 := hit_ge n l hlf1 a z v
    refine hend (j + 1) _ (drop_nil hd2) ?_ ?_
    · have h3 : (if a - n + 1 ≤ v ∧ v < z ∧ a < z then 1 else 0) ≤ may n a z [v] := by
        unfold may
        by_cases e : a < z
        · rw [if_pos e, cnt_cons]
          by_cases e2 : a - n + 1 ≤ v ∧ v < z
          · rw [if_pos e2, if_pos ⟨e2.1, e2.2, e⟩]; omega
          · rw [if_neg (fun e3 => e2 ⟨e3.1, e3.2.1⟩)]; omega
        · rw [if_neg (fun e3 => e e3.2.2)]; omega
      omega
    · have h3 : cnt (mx v a) z l ≤ cnt (mx v a) (mn (v + n) z) l + cnt 0 0 l := cnt_add (fun x hx hb => .inl ⟨hb.1, by
        have h4 := hc x hx (by have : v ≤ mx v a := by unfold mx; split <;> omega
                               omega)
        unfold mn; split <;> omega⟩)
      have h4 : cnt 0 0 l = 0 := cnt_zero (fun x _ hb => by omega)
      rw [Int.natCast_add, Int.mul_add]; omega
  | cons v' r ih =>
    intro j h v hd hh hlf hc hb1 hb2
    obtain ⟨hj, hv, hd2⟩ := drop_cons hd
    refine l1_step l s n g w a z (by omega) (by omega) j h v (v' :: r) hd hb hn0 hn1 hh hlf ?_
    have h1 := hit_le n l a z v
    have h2 := hit_ge n l hlf1 a z v
    have h7 : hitv n l a z v ≤ 1 := by unfold hitv; (repeat' split) <;> omega
    refine ih (j + 1) _ v' hd2 (by omega) hlf.2 hc.2 ?_ ?_
    · have h3 : (if a - n + 1 ≤ v ∧ v < z ∧ a < z then 1 else 0) + may n a z (v' :: r) ≤ may n a z (v :: v' :: r) := by
        unfold may
        by_cases e : a < z
        · rw [if_pos e, if_pos e, cnt_cons _ _ v]
          by_cases e2 : a - n + 1 ≤ v ∧ v < z
          · rw [if_pos e2, if_pos ⟨e2.1, e2.2, e⟩]; omega
          · rw [if_neg (fun e3 => e2 ⟨e3.1, e3.2.1⟩)]; omega
        · rw [if_neg (fun e3 => e e3.2.2), if_neg e, if_neg e]; omega
      omega
    · have h3 : cnt (mx v a) z l ≤ cnt (mx v a) (mn (v + n) z) l + cnt (mx v' a) z l := cnt_add (fun x hx hb => by
        by_cases e : x < v'
        · left
          have h4 := hc.1 x hx (by have : v ≤ mx v a := by unfold mx; split <;> omega
                                   omega) e
          refine ⟨hb.1, ?_⟩
          unfold mn; split <;> omega
        · right
          refine ⟨?_, hb.2⟩
          have h4 : a ≤ mx v a := by unfold mx; split <;> omega
          unfold mx; split <;> omega)
      rw [Int.natCast_add, Int.mul_add]; omega
theorem l0_ev (l : List Int) (n g from_ w : Int) (hl : l.length ≤ 1000) (hB : Bnd l) (hn0 : 1 ≤ n) (hn1 : n ≤ 9) (hg0 : 1 ≤ g) (hg1 : g ≤ 256) (hf0 : 0 ≤ from_) (hf1 : from_ ≤ 65535) (hw0 : 0 ≤ w) (hw1 : w ≤ 65535) :
    Ev (fun k => pendulumlaw18_BurstMost.l0 k from_ w n g l 1) true := by
  have hfin : ∀ (i : Nat), l.length ≤ i → lf 1 none l → Ev (fun k => pendulumlaw18_BurstMost.l0 k from_ w n g l (i : Int)) true := by
    intro i hi hs
    refine Ev.step (f := fun k => (burst_Legal.f k l n g).bind fun t163 => (if t163 = true then ((burst_Starts.f k l n).bind fun t165 => (pendulumlaw18_BurstMost.l1 k w n g l (wrap64 (from_)) (wrap64 ((wrap64 (from_)) + (wrap64 (w)))) t165 0 0)) else ((pendulumref18_Legal.f k l n g).bind fun t164 => (some (!t164))))) (fun k => ?_) ?_
    · simp only [pendulumlaw18_BurstMost.l0]
      rw [if_neg (by omega)]
    · refine Ev.bind (legal_ev n g l (by omega) hB) ?_
      have heq : decide (gpa n l ≥ g) = decide (lf g none (stt n none l)) := decide_eq_decide.2 ⟨fun e => ((gpa_ge n g l).1 e).2, fun e => (gpa_ge n g l).2 ⟨by omega, e⟩⟩
      rw [heq]
      by_cases e : lf g none (stt n none l)
      · simp only [decide_eq_true e, if_true]
        refine Ev.bind (starts_ev n l (by omega) hB) ?_
        rw [w64 (x := from_) (by omega) (by omega), w64 (x := w) (by omega) (by omega), w64 (x := from_ + w) (by omega) (by omega)]
        have hbs := stt_bnd (b := n) (s := none) hB
        have hlen := stt_len (b := n) l none
        cases l with
        | nil =>
          refine Ev.step (f := fun k => (burst_Most.f k (wrap64 w) n g).bind fun t => if (0 : Int) ≤ t then ((burst_In.f k [] from_ (from_ + w)).bind fun u => some (decide (u ≤ wrap64 (n * t)))) else some false) (fun k => ?_) ?_
          · have es : stt n none ([] : List Int) = [] := by simp [stt]
            rw [es]
            simp only [pendulumlaw18_BurstMost.l1]
            rw [if_neg (show ¬ (0 : Int) < (([] : List Int).length : Int) by simp)]
          · rw [w64 (x := w) (by omega) (by omega)]
            refine Ev.bind (most_ev w n g hw0 (by omega) hn0 (by omega) hg0 (by omega)) ?_
            have hm0 : 0 ≤ mst w n g := by
              unfold mst
              split
              · omega
              · have := Int.ediv_nonneg (a := w + n - 2) (b := g) (by omega) (by omega); omega
            have hm1 : mst w n g ≤ 1000000 := by
              unfold mst
              split
              · omega
              · have : (w + n - 2) / g ≤ w + n - 2 := Int.ediv_le_self _ (by omega)
                omega
            have h4 : n * mst w n g ≤ 9 * 1000000 := Int.mul_le_mul hn1 hm1 (by omega) (by omega)
            have h5 : 0 ≤ n * mst w n g := Int.mul_nonneg (by omega) (by omega)
            simp only [if_pos hm0]
            refine Ev.bind (in_ev from_ (from_ + w) [] (by simp)) ?_
            rw [w64 (x := n * mst w n g) (by omega) (by omega), decide_eq_true (show (cnt from_ (from_ + w) [] : Int) ≤ n * mst w n g from h5)]
            exact Ev.now _
        | cons v r =>
          have hs0 : lf 1 (some v) r := hs
          have hlfn : lf n (some v) (stt n (some v) r) := stt_lf r (some v)
          have hcov : cov n (v :: r) v (stt n (some v) r) := cov_stt hn0 (fun x hx _ => by
            rcases List.mem_cons.1 hx with rfl | hx
            · left; omega
            · exact .inr hx) hs0
          have hmay : (may n from_ (from_ + w) (stt n none (v :: r)) : Int) ≤ mst w n g := by
            unfold may mst
            by_cases e0 : w = 0
            · rw [if_pos e0, if_neg (by omega)]; simp
            · rw [if_neg e0, if_pos (by omega)]
              have h1 := cnt_gap hg0 e (show from_ - n + 1 ≤ from_ + w by omega)
              have h2 : (cnt (from_ - n + 1) (from_ + w) (stt n none (v :: r)) : Int) ≤ (from_ + w - (from_ - n + 1) + g - 1) / g := Int.le_ediv_of_mul_le (by omega) h1
              rw [show from_ + w - (from_ - n + 1) + g - 1 = (w + n - 2) + 1 * g by omega, Int.add_mul_ediv_right _ _ (by omega)] at h2
              exact h2
          have hge : ∀ x ∈ v :: r, v ≤ x := fun x hx => by
            rcases List.mem_cons.1 hx with rfl | hx
            · omega
            · have := lf_ge (by omega) hs0 x hx; omega
          have hcnt : cnt from_ (from_ + w) (v :: r) ≤ cnt (mx v from_) (from_ + w) (v :: r) + cnt 0 0 (v :: r) := cnt_add (fun x hx hb => .inl ⟨by
            have := hge x hx
            unfold mx; split <;> omega, hb.2⟩)
          have h4 : cnt 0 0 (v :: r) = 0 := cnt_zero (fun x _ hb => by omega)
          have := l1_ev (v :: r) (stt n none (v :: r)) n g w from_ (from_ + w) (by omega) (by omega) hbs hn0 (by omega) hg0 (by omega) hw0 hw1 hs (stt n (some v) r) 0 0 v rfl (by omega) hlfn hcov (by
            have : stt n none (v :: r) = v :: stt n (some v) r := rfl
            rw [this] at hmay; simpa using hmay) (by simp; omega)
          simpa using this
      · simp only [decide_eq_false e, if_neg (show ¬ (false = true) by simp)]
        refine Ev.bind (reflegal_ev n g l hn0 (by omega) (by omega) hB) ?_
        rw [decide_eq_false e]
        exact Ev.now _
  have hchk : ∀ (r : List Int) (i : Nat) (v : Int), l.drop i = v :: r → (lf 1 (some v) r → lf 1 none l) → Ev (fun k => pendulumlaw18_BurstMost.l0 k from_ w n g l ((i + 1 : Nat) : Int)) true := by
    intro r
    induction r with
    | nil =>
      intro i v h hs
      obtain ⟨_, _, hd⟩ := drop_cons h
      exact hfin (i + 1) (drop_nil hd) (hs trivial)
    | cons x r ih =>
      intro i v h hs
      obtain ⟨hi, hv, hd⟩ := drop_cons h
      obtain ⟨hi2, hx, hd2⟩ := drop_cons hd
      by_cases e : v ≥ x
      · refine Ev.step (f := fun _ => some true) (fun k => ?_) (Ev.now _)
        simp only [pendulumlaw18_BurstMost.l0]
        rw [w2 (n := i) (by omega), hv, hx, if_pos (by omega), if_pos (by omega), if_pos (by omega), if_pos (by omega), if_pos e]
      · refine Ev.step (fun k => ?_) (ih (i + 1) x hd (fun h2 => hs ⟨by omega, h2⟩))
        simp only [pendulumlaw18_BurstMost.l0]
        rw [w2 (n := i) (by omega), hv, hx, w1 (n := i + 1) (by omega), if_pos (by omega), if_pos (by omega), if_pos (by omega), if_pos (by omega), if_neg e]
  cases l with
  | nil => exact hfin 1 (by simp) trivial
  | cons v r => exact hchk r 0 v rfl (fun h => h)
theorem BurstMost : pendulumlaw18_BurstMost.Pure := by
  intro ap bi b gap from_ w _ _ hap _ _ _ hb hg hf hw
  have hb' := wfu8 hb
  have hg' := wfu8 hg
  have hf' := wfu16 hf
  have hw' := wfu16 hw
  refine Ev.rounds ?_
  unfold pendulumlaw18_BurstMost.f
  refine Ev.bind awake_ev ?_
  simp only [if_true]
  by_cases h60 : (ap.length : Int) > 60
  · rw [decide_eq_true h60]
    refine Ev.step (fun k => by simp only [pendulumlaw18_BurstMost.j0]; rw [if_pos trivial]) ?_
    exact Ev.bind awake_ev (Ev.now _)
  · rw [decide_eq_false h60]
    have hm0 : 0 ≤ Int.tmod b 9 := by rw [Int.tmod_eq_emod_of_nonneg (by omega)]; omega
    have hm1 : Int.tmod b 9 ≤ 8 := by rw [Int.tmod_eq_emod_of_nonneg (by omega)]; omega
    obtain ⟨l, hl, hfew⟩ := made_l0 ap bi (1 + Int.tmod b 9) (1 + gap) (by omega) (fun x hx => wfu8 (hap x hx)) (by omega) (by omega) ap 0 [] 0 rfl (by omega) ⟨fun x hx => (by cases hx), by simp⟩ (by omega) (by omega)
    refine Ev.step (f := fun k => (pendulumref18_Made.f k ap bi (1 + Int.tmod b 9) (1 + gap)).bind fun t => pendulumlaw18_BurstMost.l0 k from_ w (1 + Int.tmod b 9) (1 + gap) t 1) (fun k => ?_) ?_
    · simp only [pendulumlaw18_BurstMost.j0]
      rw [if_neg (by simp), w64 (x := gap) (by omega) (by omega), w64 (x := 1 + gap) (by omega) (by omega), w64 (x := Int.tmod b 9) (by omega) (by omega), w64 (x := 1 + Int.tmod b 9) (by omega) (by omega)]
    · refine Ev.bind hl ?_
      exact l0_ev l _ _ from_ w hfew.2 hfew.1 (by omega) (by omega) (by omega) (by omega) hf'.1 hf'.2 hw'.1 hw'.2

end Go.Proofs.Ytppmgpicommdlaa.Pure
