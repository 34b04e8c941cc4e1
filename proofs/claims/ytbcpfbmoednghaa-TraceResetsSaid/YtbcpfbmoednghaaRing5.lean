/- Contracts of ring.Ring's methods at an element of five cells (api.Event). -/
import Derived.Test.YtbcpfbmoednghaaRing
namespace Go.Proofs.Ytbcpfbmoednghaa.Ring5
open Go.RowKit Go.Proofs.YtbcpfbmoednghaaW.PrintWords Go.Proofs.YtbcpfbmoednghaaW.PrintLast Go.Proofs.YtbcpfbmoednghaaW.PrintMore Go.Proofs.Ytbcpfbmoednghaa.Ring
set_option linter.unusedSimpArgs false
set_option linter.unusedVariables false

/-- An event. -/
structure Ev where
  a : Int
  b : Int
  c : Int
  d : Int
  e : Int
def z5 : Ev := ⟨0, 0, 0, 0, 0⟩
/-- An event's cells. -/
def l5 (x : Ev) : List Value := [.int .i64 x.a, .int .i64 x.b, .int .i64 x.c, .int .i64 x.d, .int .i64 x.e]
/-- The cells of all. -/
def flat (cs : List Ev) : List Value := cs.flatMap l5
theorem flat_len (cs : List Ev) : (flat cs).length = cs.length * 5 := by
  induction cs with
  | nil => rfl
  | cons x t ih => unfold flat at *; rw [List.flatMap_cons, List.length_append, ih, List.length_cons]; simp [l5]; omega
theorem flat_get {cs : List Ev} {q : Nat} {x : Ev} (h : cs[q]? = some x) (j : Nat) (hj : j < 5) : (flat cs)[q * 5 + j]? = (l5 x)[j]? := by
  induction cs generalizing q with
  | nil => simp at h
  | cons y t ih =>
    unfold flat
    rw [List.flatMap_cons]
    cases q with
    | zero =>
      simp at h; subst h
      rw [List.getElem?_append_left (by simp [l5]; omega)]; simp
    | succ q =>
      rw [List.getElem?_append_right (by simp [l5]; omega)]
      have e : (q + 1) * 5 + j - (l5 y).length = q * 5 + j := by simp [l5]; omega
      rw [e]
      exact ih (by simpa using h)
theorem flat_set (cs : List Ev) (q : Nat) (x : Ev) (hq : q < cs.length) :
    (((((flat cs).toArray.setIfInBounds (q * 5) (.int .i64 x.a)).setIfInBounds (q * 5 + 1) (.int .i64 x.b)).setIfInBounds (q * 5 + 2) (.int .i64 x.c)).setIfInBounds (q * 5 + 3) (.int .i64 x.d)).setIfInBounds (q * 5 + 4) (.int .i64 x.e) = (flat (cs.set q x)).toArray := by
  apply Array.ext'
  simp only [List.setIfInBounds_toArray]
  induction cs generalizing q with
  | nil => simp at hq
  | cons y t ih =>
    cases q with
    | zero => simp [flat, l5]
    | succ q =>
      have h2 := ih q (by simpa using hq)
      simp only [List.set_cons_succ]
      have e1 : flat (y :: t) = l5 y ++ flat t := by simp [flat]
      have e2 : flat (y :: t.set q x) = l5 y ++ flat (t.set q x) := by simp [flat]
      rw [e1, e2, ← h2]
      have hl : (l5 y).length = 5 := rfl
      have hs : ∀ (L : List Value) (k : Nat) (v : Value), (l5 y ++ L).set ((q + 1) * 5 + k) v = l5 y ++ L.set (q * 5 + k) v := fun L k v => by
        rw [List.set_append_right _ _ (by rw [hl]; omega), hl, show (q + 1) * 5 + k - 5 = q * 5 + k by omega]
      have h0 := hs (flat t) 0 (.int .i64 x.a)
      simp only [Nat.add_zero] at h0
      rw [h0, hs, hs, hs, hs]
theorem flat_snoc (cs : List Ev) (x : Ev) : flat (cs ++ [x]) = flat cs ++ l5 x := by simp [flat]

/-- A ring at block p, its places in block g. -/
def RS (w : World) (p g f n : Nat) (cs : List Ev) : Prop :=
  w.heap[p]? = some (.cells #[.slice (some ⟨g, 0, none⟩) cs.length cs.length, .int .i64 (f : Int), .int .i64 (n : Int)] 58 (0, 0)) ∧ w.heap[g]? = some (.cells (flat cs).toArray 30 (0, 0))
section
variable {w : World} {p g f n : Nat} {cs : List Ev}
/-- Five stores: an element. -/
def put5 (w : World) (g o : Nat) (x : Ev) : World := ((((w.setCell ⟨g, o, none⟩ (.int .i64 x.a)).setCell ⟨g, o + 1, none⟩ (.int .i64 x.b)).setCell ⟨g, o + 2, none⟩ (.int .i64 x.c)).setCell ⟨g, o + 3, none⟩ (.int .i64 x.d)).setCell ⟨g, o + 4, none⟩ (.int .i64 x.e)
theorem put5_below {B o : Nat} {a : World} (h : Below B a w) (hB : B ≤ g) (x : Ev) : Below B a (put5 w g o x) :=
  ((((h.setCell hB _).setCell hB _).setCell hB _).setCell hB _).setCell hB _
theorem put5_kept {o : Nat} {a : World} {S : Nat → Prop} (h : Kept a w S) (hS : S g ∨ a.heap.size ≤ g) (x : Ev) : Kept a (put5 w g o x) S :=
  ((((h.setCell (p := ⟨g, _, none⟩) hS _).setCell (p := ⟨g, _, none⟩) hS _).setCell (p := ⟨g, _, none⟩) hS _).setCell (p := ⟨g, _, none⟩) hS _).setCell (p := ⟨g, _, none⟩) hS _
theorem RS.row (h : RS w p g f n cs) (hne : p ≠ g) (q : Nat) (hq : q < cs.length) (x : Ev) : RS (put5 w g (q * 5) x) p g f n (cs.set q x) := by
  refine ⟨?_, ?_⟩
  · rw [List.length_set]; exact blk_far (blk_far (blk_far (blk_far (blk_far h.1 hne _) hne _) hne _) hne _) hne _
  · rw [← flat_set cs q x hq]; exact blk_set (blk_set (blk_set (blk_set (blk_set h.2 _ _) _ _) _ _) _ _) _ _
theorem RS.cnt (h : RS w p g f n cs) (hne : p ≠ g) (m : Nat) : RS (w.setCell ⟨p, 2, none⟩ (.int .i64 (m : Int))) p g f m cs :=
  ⟨blk_put h.1 2 _ rfl, blk_far h.2 (Ne.symm hne) _⟩
theorem RS.fst (h : RS w p g f n cs) (hne : p ≠ g) (m : Nat) : RS (w.setCell ⟨p, 1, none⟩ (.int .i64 (m : Int))) p g m n cs :=
  ⟨blk_put h.1 1 _ rfl, blk_far h.2 (Ne.symm hne) _⟩
theorem RS.same (h : RS w p g f n cs) {W : World} (h1 : W.heap[p]? = w.heap[p]?) (h2 : W.heap[g]? = w.heap[g]?) : RS W p g f n cs := ⟨h1.trans h.1, h2.trans h.2⟩
theorem RS.alloc (h : RS w p g f n cs) (o : Obj) : RS (w.alloc o) p g f n cs := ⟨blk_alloc h.1 o, blk_alloc h.2 o⟩
theorem RS.below (h : RS w p g f n cs) {W : World} (hb : Below w.heap.size w W) : RS W p g f n cs := ⟨blk_below h.1 hb, blk_below h.2 hb⟩
theorem RS.lt (h : RS w p g f n cs) : p < w.heap.size ∧ g < w.heap.size := ⟨blk_lt h.1, blk_lt h.2⟩
theorem RS.cell (h : RS w p g f n cs) {q : Nat} {x : Ev} (hx : cs[q]? = some x) (j : Nat) (hj : j < 5) : w.cell? ⟨g, q * 5 + j, none⟩ = (l5 x)[j]? := by
  rw [blk_cell h.2 _, ← flat_get hx j hj]; simp
/-- What a call of a ring's leaves. -/
def Left (w w' : World) (p g f n : Nat) (cs : List Ev) : Prop := RS w' p g f n cs ∧ Kept w w' (Own p g) ∧ ∀ B, B ≤ p → B ≤ g → Below B w w'
theorem Left.refl (h : RS w p g f n cs) : Left w w p g f n cs := ⟨h, Kept.refl _ _, fun B _ _ => Below.refl B w⟩
theorem Left.trans {W W2 : World} {f' n' f2 n2 : Nat} {cs' cs2 : List Ev} (h : Left w W p g f' n' cs') (k : Left W W2 p g f2 n2 cs2) : Left w W2 p g f2 n2 cs2 :=
  ⟨k.1, h.2.1.then_ k.2.1 (fun _ x => .inl x), fun B h1 h2 => (h.2.2 B h1 h2).trans (k.2.2 B h1 h2)⟩
theorem Left.drewN {W : World} (h : Left w W p g f n cs) (k : Nat) : Left w (W.drewN k) p g f n cs := ⟨h.1, h.2.1.drewN k, fun B h1 h2 => pw_below_drewN (h.2.2 B h1 h2) k⟩
theorem Left.drew {W : World} (h : Left w W p g f n cs) : Left w W.drew p g f n cs := ⟨h.1, h.2.1, fun B h1 h2 => (h.2.2 B h1 h2).drew⟩
theorem Left.alloc {W : World} (h : Left w W p g f n cs) (o : Obj) : Left w (W.alloc o) p g f n cs := ⟨h.1.alloc o, h.2.1.alloc o, fun B h1 h2 => (h.2.2 B h1 h2).alloc (by have := h.1.lt; omega) o⟩
theorem Left.row {W : World} (h : Left w W p g f n cs) (hne : p ≠ g) (q : Nat) (hq : q < cs.length) (x : Ev) : Left w (put5 W g (q * 5) x) p g f n (cs.set q x) :=
  ⟨h.1.row hne q hq x, put5_kept h.2.1 (.inl (.inr rfl)) x, fun B h1 h2 => put5_below (h.2.2 B h1 h2) h2 x⟩
theorem Left.cnt {W : World} (h : Left w W p g f n cs) (hne : p ≠ g) (m : Nat) : Left w (W.setCell ⟨p, 2, none⟩ (.int .i64 (m : Int))) p g f m cs :=
  ⟨h.1.cnt hne m, h.2.1.setCell (.inl (.inl rfl)) _, fun B h1 h2 => (h.2.2 B h1 h2).setCell h1 _⟩
theorem Left.fst {W : World} (h : Left w W p g f n cs) (hne : p ≠ g) (m : Nat) : Left w (W.setCell ⟨p, 1, none⟩ (.int .i64 (m : Int))) p g m n cs :=
  ⟨h.1.fst hne m, h.2.1.setCell (.inl (.inl rfl)) _, fun B h1 h2 => (h.2.2 B h1 h2).setCell h1 _⟩
end
theorem Left.far {w W : World} {p g f n : Nat} {cs : List Ev} (h : Left w W p g f n cs) {a : Addr} (h1 : a.block ≠ p) (h2 : a.block ≠ g) (h3 : w.heap.size ≤ a.block) (h4 : p < a.block) (v : Value) : Left w (W.setCell a v) p g f n cs :=
  ⟨⟨blk_far h.1.1 (Ne.symm h1) _, blk_far h.1.2 (Ne.symm h2) _⟩, h.2.1.setCell (.inr h3) _, fun B hp hg => (h.2.2 B hp hg).setCell (by omega) _⟩
theorem at_any {w : World} {p g f n : Nat} {cs : List Ev} (h : RS w p g f n cs) (i : Nat) (hc : 1 ≤ cs.length) (hb : cs.length ≤ 4096) (hf : f < cs.length) (hi : i ≤ cs.length) :
    Calls Try.prog 27 #[.pointer (some ⟨p, 0, none⟩), .int .i64 (i : Int)] w fun e w' => e = .returned (.int .i64 (((f + i) % cs.length : Nat) : Int)) ∧ ∃ nd, w' = w.drewN nd := by
  have c0 : w.cell? ⟨p, 0, none⟩ = some (.slice (some ⟨g, 0, none⟩) cs.length cs.length) := blk_cell h.1 0
  have c1 : w.cell? ⟨p, 1, none⟩ = some (.int .i64 (f : Int)) := blk_cell h.1 1
  have hw := wadd (a := f) (b := i) (by omega)
  have hm := modn (a := f + i) (c := cs.length)
  have hne : ((cs.length : Int) == 0) = false := by rw [beq_eq_false_iff_ne]; omega
  have hne2 : ¬ ((cs.length : Int) = 0) := by omega
  clear h
  go_enter Try.func27, Try.ntmps27
  go_wp2
  go_quiet (fail)
  go_wp2
  go_ret
  exact ⟨rfl, _, rfl⟩
/-- The world behind the box of an event that is handed in. -/
theorem boxed (w : World) (x : Ev) {W : World} (hW : W = w.alloc (.cells (l5 x).toArray 30)) : Below w.heap.size w W ∧ W.heap.size = w.heap.size + 1 ∧
    W.cell? ⟨w.heap.size, 0, none⟩ = some (.int .i64 x.a) ∧ W.cell? ⟨w.heap.size, 1, none⟩ = some (.int .i64 x.b) ∧ W.cell? ⟨w.heap.size, 2, none⟩ = some (.int .i64 x.c) ∧ W.cell? ⟨w.heap.size, 3, none⟩ = some (.int .i64 x.d) ∧ W.cell? ⟨w.heap.size, 4, none⟩ = some (.int .i64 x.e) := by
  subst hW
  have hb := blk_new w (.cells (l5 x).toArray 30)
  exact ⟨(Below.refl _ _).alloc (Nat.le_refl _) _, by simp, (blk_cell hb 0).trans rfl, (blk_cell hb 1).trans rfl, (blk_cell hb 2).trans rfl, (blk_cell hb 3).trans rfl, (blk_cell hb 4).trans rfl⟩
theorem put_full {w : World} {p g f n : Nat} {cs : List Ev} (h : RS w p g f n cs) (x : Ev) (hn : n = cs.length) :
    Calls Try.prog 25 #[.pointer (some ⟨p, 0, none⟩), .agg (l5 x).toArray] w fun e w' => e = .returned (.int .i64 3) ∧ Below w.heap.size w w' := by
  obtain ⟨W, hW⟩ : ∃ W, W = w.alloc (.cells (l5 x).toArray 30) := ⟨_, rfl⟩
  have hb := (boxed w x hW).1
  have h2 := h.below hb
  have c0 : W.cell? ⟨p, 0, none⟩ = some (.slice (some ⟨g, 0, none⟩) cs.length cs.length) := blk_cell h2.1 0
  have c2 : W.cell? ⟨p, 2, none⟩ = some (.int .i64 (n : Int)) := blk_cell h2.1 2
  have he : ((n : Int) == (cs.length : Int)) = true := by rw [beq_iff_eq]; omega
  have he2 : (n == cs.length) = true := by rw [beq_iff_eq]; omega
  replace hb := Lib.hid hb
  replace hW := Lib.hid hW
  clear h h2 hn
  go_enter Try.func25, Try.ntmps25
  go_wp2_with fail
  rw [← hW.out]
  go_quiet (fail)
  go_wp2
  go_ret
  exact ⟨rfl, pw_below_drewN hb.out _⟩
set_option maxHeartbeats 1600000 in
theorem put_room {w : World} {p g f n : Nat} {cs : List Ev} (h : RS w p g f n cs) (x : Ev) (hc : 1 ≤ cs.length) (hb : cs.length ≤ 4096) (hf : f < cs.length) (hn : n < cs.length) (q : Nat) (hq : (f + n) % cs.length = q) :
    Calls Try.prog 25 #[.pointer (some ⟨p, 0, none⟩), .agg (l5 x).toArray] w fun e w' => e = .returned (.int .i64 0) ∧ Left w w' p g f (n + 1) (cs.set q x) := by
  have hlt : q < cs.length := hq ▸ Nat.mod_lt _ (by omega)
  obtain ⟨W, hW⟩ : ∃ W, W = w.alloc (.cells (l5 x).toArray 30) := ⟨_, rfl⟩
  obtain ⟨hbW, hsW, b0, b1, b2, b3, b4⟩ := boxed w x hW
  have hne := blk_ne h.1 h.2 (by decide)
  have hgb : g ≠ w.heap.size := by have := h.lt; omega
  have hpb : p ≠ w.heap.size := by have := h.lt; omega
  have hL0 : Hid (Left w W p g f n cs) := Lib.hid (by rw [hW]; exact (Left.refl h).alloc _)
  have h2 := h.below hbW
  obtain ⟨B, hB⟩ : ∃ B, B = w.heap.size := ⟨_, rfl⟩
  rw [← hB] at b0 b1 b2 b3 b4 hgb hpb
  have hlt2 : (q : Int) < (cs.length : Int) := by omega
  have c0 : W.cell? ⟨p, 0, none⟩ = some (.slice (some ⟨g, 0, none⟩) cs.length cs.length) := blk_cell h2.1 0
  have c2 : W.cell? ⟨p, 2, none⟩ = some (.int .i64 (n : Int)) := blk_cell h2.1 2
  obtain ⟨y, hy⟩ : ∃ y, cs[q]? = some y := ⟨cs[q], by simp [hlt]⟩
  have d0 : W.cell? ⟨g, q * 5, none⟩ = some (.int .i64 y.a) := h2.cell hy 0 (by omega)
  have d1 : W.cell? ⟨g, q * 5 + 1, none⟩ = some (.int .i64 y.b) := h2.cell hy 1 (by omega)
  have d2 : W.cell? ⟨g, q * 5 + 2, none⟩ = some (.int .i64 y.c) := h2.cell hy 2 (by omega)
  have d3 : W.cell? ⟨g, q * 5 + 3, none⟩ = some (.int .i64 y.d) := h2.cell hy 3 (by omega)
  have d4 : W.cell? ⟨g, q * 5 + 4, none⟩ = some (.int .i64 y.e) := h2.cell hy 4 (by omega)
  have z0 := blk_frozen h2.2 (q * 5)
  have z1 := blk_frozen h2.2 (q * 5 + 1)
  have z2 := blk_frozen h2.2 (q * 5 + 2)
  have z3 := blk_frozen h2.2 (q * 5 + 3)
  have z4 := blk_frozen h2.2 (q * 5 + 4)
  have f2 := blk_frozen h2.1 2
  have he : ((n : Int) == (cs.length : Int)) = false := by rw [beq_eq_false_iff_ne]; omega
  have he2 : (n == cs.length) = false := by rw [beq_eq_false_iff_ne]; omega
  have HF : ∀ W' : World, W'.heap = W.heap → Calls Try.prog 27 #[.pointer (some ⟨p, 0, none⟩), .int .i64 (n : Int)] W' fun e w' => e = .returned (.int .i64 (q : Int)) ∧ ∃ nd, w' = W'.drewN nd := fun W' hW' => by
    have := at_any (w := W') (h2.same (by rw [hW']) (by rw [hW'])) n hc hb hf (by omega)
    rw [hq] at this; exact this
  have HX : ∀ W' : World, W'.heap = W.heap → W'.cell? ⟨p, 0, none⟩ = some (.slice (some ⟨g, 0, none⟩) cs.length cs.length) ∧ W'.cell? ⟨p, 2, none⟩ = some (.int .i64 (n : Int)) ∧ W'.cell? ⟨B, 0, none⟩ = some (.int .i64 x.a) ∧ W'.cell? ⟨B, 1, none⟩ = some (.int .i64 x.b) ∧ W'.cell? ⟨B, 2, none⟩ = some (.int .i64 x.c) ∧ W'.cell? ⟨B, 3, none⟩ = some (.int .i64 x.d) ∧ W'.cell? ⟨B, 4, none⟩ = some (.int .i64 x.e) ∧
      W'.cell? ⟨g, q * 5, none⟩ = some (.int .i64 y.a) ∧ W'.cell? ⟨g, q * 5 + 1, none⟩ = some (.int .i64 y.b) ∧ W'.cell? ⟨g, q * 5 + 2, none⟩ = some (.int .i64 y.c) ∧ W'.cell? ⟨g, q * 5 + 3, none⟩ = some (.int .i64 y.d) ∧ W'.cell? ⟨g, q * 5 + 4, none⟩ = some (.int .i64 y.e) ∧
      W'.frozen? ⟨g, q * 5, none⟩ = false ∧ W'.frozen? ⟨g, q * 5 + 1, none⟩ = false ∧ W'.frozen? ⟨g, q * 5 + 2, none⟩ = false ∧ W'.frozen? ⟨g, q * 5 + 3, none⟩ = false ∧ W'.frozen? ⟨g, q * 5 + 4, none⟩ = false := by
    intro W' hW'
    have k : ∀ a, W'.cell? a = W.cell? a := fun a => by rw [World.cell?, World.cell?, hW']
    have kz : ∀ a, W'.frozen? a = W.frozen? a := fun a => by rw [World.frozen?, World.frozen?, hW']
    exact ⟨(k _).trans c0, (k _).trans c2, (k _).trans b0, (k _).trans b1, (k _).trans b2, (k _).trans b3, (k _).trans b4, (k _).trans d0, (k _).trans d1, (k _).trans d2, (k _).trans d3, (k _).trans d4, (kz _).trans z0, (kz _).trans z1, (kz _).trans z2, (kz _).trans z3, (kz _).trans z4⟩
  replace hW := Lib.hid hW
  replace hB := Lib.hid hB
  replace HF := Lib.hid HF
  replace HX := Lib.hid HX
  clear h h2 hq hy hbW hsW
  go_enter Try.func25, Try.ntmps25
  go_wp2_with fail
  rw [← hW.out, ← hB.out]
  go_quiet (fail)
  go_wp2_with fail
  refine start_ (n := 13) (S := fun w' => w'.cell? ⟨p, 0, none⟩ = some (.slice (some ⟨g, 0, none⟩) cs.length cs.length) ∧ w'.cell? ⟨p, 2, none⟩ = some (.int .i64 (n : Int)) ∧ w'.cell? ⟨B, 0, none⟩ = some (.int .i64 x.a) ∧ w'.cell? ⟨B, 1, none⟩ = some (.int .i64 x.b) ∧ w'.cell? ⟨B, 2, none⟩ = some (.int .i64 x.c) ∧ w'.cell? ⟨B, 3, none⟩ = some (.int .i64 x.d) ∧ w'.cell? ⟨B, 4, none⟩ = some (.int .i64 x.e)) (ds := [12]) #[false, false, false, false, false, false, false, false, false, false, false, false, false] (by kernel_rfl) rfl rfl ⟨c0, c2, b0, b1, b2, b3, b4⟩ (fun hHeld => ?_)
  refine pure_ (i := 0) (N := (some 15)) (v := ?_) (a' := ?_) #[true, false, false, false, false, false, false, false, false, false, false, false, false] rfl rfl (by kernel_rfl) (fun _ _ _ h => h) (Or.inl ⟨by rfl, ?_⟩) ?_ ?_
  rotate_left
  · intro w'
    go_simp
    with_reducible rfl
  rotate_left
  · simp only [Act.put, List.setIfInBounds_toArray, List.set_cons_zero, List.set_cons_succ, i64_w, i32_w]
    rfl
  refine pure_ (i := 1) (N := (some 16)) (v := ?_) (a' := ?_) #[true, true, false, false, false, false, false, false, false, false, false, false, false] rfl rfl (by kernel_rfl) (fun _ _ _ h => h) (Or.inl ⟨by rfl, ?_⟩) ?_ ?_
  rotate_left
  · intro w'
    go_simp
    with_reducible rfl
  rotate_left
  · simp only [Act.put, List.setIfInBounds_toArray, List.set_cons_zero, List.set_cons_succ, i64_w, i32_w]
    rfl
  refine pure_ (i := 2) (N := (some 17)) (v := ?_) (a' := ?_) #[true, true, true, false, false, false, false, false, false, false, false, false, false] rfl rfl (by kernel_rfl) (fun _ _ _ h => h) (Or.inl ⟨by rfl, ?_⟩) ?_ ?_
  rotate_left
  · intro w'
    go_simp
    with_reducible rfl
  rotate_left
  · simp only [Act.put, List.setIfInBounds_toArray, List.set_cons_zero, List.set_cons_succ, i64_w, i32_w]
    rfl
  refine take_ (i := 3) (N := (some 18)) (v := ?_) (a' := ?_) #[true, true, true, true, false, false, false, false, false, false, false, false, false] rfl rfl (by kernel_rfl) (fun _ _ _ h => h) (Or.inl ⟨by rfl, ?_⟩) hHeld ?_ ?_
  rotate_left
  · rintro w' ⟨s0, s1, s2, s3, s4, s5, s6⟩
    go_simp
    with_reducible rfl
  rotate_left
  · simp only [Act.put, List.setIfInBounds_toArray, List.set_cons_zero, List.set_cons_succ, i64_w, i32_w]
    rfl
  refine pure_ (i := 4) (N := (some 19)) (v := ?_) (a' := ?_) #[true, true, true, true, true, false, false, false, false, false, false, false, false] rfl rfl (by kernel_rfl) (fun _ _ _ h => h) (Or.inl ⟨by rfl, ?_⟩) ?_ ?_
  rotate_left
  · intro w'
    go_simp
    with_reducible rfl
  rotate_left
  · simp only [Act.put, List.setIfInBounds_toArray, List.set_cons_zero, List.set_cons_succ, i64_w, i32_w]
    rfl
  refine pure_ (i := 5) (N := (some 20)) (v := ?_) (a' := ?_) #[true, true, true, true, true, true, false, false, false, false, false, false, false] rfl rfl (by kernel_rfl) (fun _ _ _ h => h) (Or.inl ⟨by rfl, ?_⟩) ?_ ?_
  rotate_left
  · intro w'
    go_simp
    with_reducible rfl
  rotate_left
  · simp only [Act.put, List.setIfInBounds_toArray, List.set_cons_zero, List.set_cons_succ, i64_w, i32_w]
    rfl
  refine pure_ (i := 6) (N := (some 21)) (v := ?_) (a' := ?_) #[true, true, true, true, true, true, true, false, false, false, false, false, false] rfl rfl (by kernel_rfl) (fun _ _ _ h => h) (Or.inl ⟨by rfl, ?_⟩) ?_ ?_
  rotate_left
  · intro w'
    go_simp
    with_reducible rfl
  rotate_left
  · simp only [Act.put, List.setIfInBounds_toArray, List.set_cons_zero, List.set_cons_succ, i64_w, i32_w]
    rfl
  refine pure_ (i := 7) (N := (some 22)) (v := ?_) (a' := ?_) #[true, true, true, true, true, true, true, true, false, false, false, false, false] rfl rfl (by kernel_rfl) (fun _ _ _ h => h) (Or.inl ⟨by rfl, ?_⟩) ?_ ?_
  rotate_left
  · intro w'
    go_simp
    with_reducible rfl
  rotate_left
  · simp only [Act.put, List.setIfInBounds_toArray, List.set_cons_zero, List.set_cons_succ, i64_w, i32_w]
    rfl
  refine take_ (i := 8) (N := (some 23)) (v := ?_) (a' := ?_) #[true, true, true, true, true, true, true, true, true, false, false, false, false] rfl rfl (by kernel_rfl) (fun _ _ _ h => h) (Or.inl ⟨by rfl, ?_⟩) hHeld ?_ ?_
  rotate_left
  · rintro w' ⟨s0, s1, s2, s3, s4, s5, s6⟩
    go_simp
    with_reducible rfl
  rotate_left
  · simp only [Act.put, List.setIfInBounds_toArray, List.set_cons_zero, List.set_cons_succ, i64_w, i32_w]
    rfl
  refine take_ (i := 10) (N := (some 25)) (v := ?_) (a' := ?_) #[true, true, true, true, true, true, true, true, true, false, true, false, false] rfl rfl (by kernel_rfl) (fun _ _ _ h => h) (Or.inl ⟨by rfl, ?_⟩) hHeld ?_ ?_
  rotate_left
  · rintro w' ⟨s0, s1, s2, s3, s4, s5, s6⟩
    go_simp
    with_reducible rfl
  rotate_left
  · simp only [Act.put, List.setIfInBounds_toArray, List.set_cons_zero, List.set_cons_succ, i64_w, i32_w]
    rfl
  refine one_ (i := 9) (N := (some 24)) #[true, true, true, true, true, true, true, true, true, true, true, false, false] rfl rfl (by kernel_rfl) (by decide) (fun K hK => ?_)
  refine goes_ Try.func27 (by kernel_rfl) rfl #[.pointer (some ⟨p, 0, none⟩), .int .i64 (n : Int)] (by rfl) rfl rfl (by (try simp only [List.map_toArray, List.map_cons, List.map_nil]); first | done | rfl) ?_
  refine (HF.out (W.drewN nq).drew rfl).mono ?_
  rintro e w4 ⟨rfl, n1, hw4⟩
  have hh : w4.heap = W.heap := by rw [hw4]; rfl
  obtain ⟨g0, g1, g2, g3, g4, g5, g6, y0, y1, y2, y3, y4, e0, e1, e2, e3, e4⟩ := HX.out w4 hh
  have hLL := Lib.hid (show Left w w4 p g f n cs by rw [hw4]; exact ((hL0.out.drewN nq).drew).drewN n1)
  clear hw4 hh
  refine ⟨_, rfl, ?_⟩
  refine hK.out _ _ ⟨g0, g1, g2, g3, g4, g5, g6⟩ (fun hHeld => ?_)
  clear hK K
  refine norm_ (a' := ?_) ?_ ?_
  rotate_left
  · show Act.put _ (some 24) _ = _
    simp only [Act.put, List.setIfInBounds_toArray, List.set_cons_zero, List.set_cons_succ, i64_w, i32_w]
    rfl
  refine pure_ (i := 11) (N := (some 26)) (v := ?_) (a' := ?_) #[true, true, true, true, true, true, true, true, true, true, true, true, false] rfl rfl (by kernel_rfl) (fun _ _ _ h => h) (Or.inl ⟨by rfl, ?_⟩) ?_ ?_
  rotate_left
  · intro w'
    go_simp
    with_reducible rfl
  rotate_left
  · simp only [Act.put, List.setIfInBounds_toArray, List.set_cons_zero, List.set_cons_succ, i64_w, i32_w]
    rfl
  refine last_ (i := 12) (N := none) #[true, true, true, true, true, true, true, true, true, true, true, true, true] rfl rfl (by kernel_rfl) (by decide) (fun K hK => ?_)
  refine skip_ (w1 := put5 w4 g (q * 5) x) rfl rfl (by unfold put5; go_simp) ?_
  refine hK.out _ _ ?_
  clear hK K
  refine done_ (by kernel_rfl) ?_
  have hL5 := Lib.hid (hLL.out.row hne q hlt x)
  have hp2 : (put5 w4 g (q * 5) x).cell? ⟨p, 2, none⟩ = some (.int .i64 (n : Int)) := blk_cell hL5.out.1.1 2
  have hf2 : (put5 w4 g (q * 5) x).frozen? ⟨p, 2, none⟩ = false := blk_frozen hL5.out.1.1 2
  generalize put5 w4 g (q * 5) x = w5 at hL5 hp2 hf2 ⊢
  go_wp2
  go_ret
  exact ⟨rfl, hL5.out.cnt hne (n + 1)⟩
theorem zero_ev (w : World) : (zeroValue 30).run Try.prog w = .ok (.agg (l5 z5).toArray) w := by kernel_rfl
set_option maxHeartbeats 1600000 in
theorem take_some {w : World} {p g f n : Nat} {cs : List Ev} (h : RS w p g f n cs) (hc : 1 ≤ cs.length) (hb : cs.length ≤ 4096) (hf : f < cs.length) (hn : 1 ≤ n) (hn2 : n ≤ cs.length) (x : Ev) (hx : cs[f]? = some x) :
    Calls Try.prog 23 #[.pointer (some ⟨p, 0, none⟩)] w fun e w' => ∃ v, e = .returned v ∧ Left w w' p g ((f + 1) % cs.length) (n - 1) (cs.set f z5) := by
  obtain ⟨W, hW⟩ : ∃ W, W = (w.alloc (.cells (l5 z5).toArray 30)).alloc (.cells (l5 z5).toArray 30) := ⟨_, rfl⟩
  obtain ⟨B, hB⟩ : ∃ B, B = w.heap.size := ⟨_, rfl⟩
  have hne := blk_ne h.1 h.2 (by decide)
  have hL0 : Hid (Left w W p g f n cs) := Lib.hid (by rw [hW]; exact ((Left.refl h).alloc _).alloc _)
  have hR0 : W.heap[B]? = some (.cells (l5 z5).toArray 30 (0, 0)) := by rw [hW, hB]; exact blk_alloc (blk_new _ _) _
  have hR1 : W.heap[B + 1]? = some (.cells (l5 z5).toArray 30 (0, 0)) := by
    have := blk_new (w.alloc (.cells (l5 z5).toArray 30)) (.cells (l5 z5).toArray 30)
    rw [show (w.alloc (.cells (l5 z5).toArray 30)).heap.size = B + 1 by rw [hB]; simp] at this
    rw [hW]; exact this
  have hlt := h.lt
  have hsW : W.heap.size = B + 2 := by rw [hW, hB]; simp
  rw [← hB] at hlt
  have c0 : W.cell? ⟨p, 0, none⟩ = some (.slice (some ⟨g, 0, none⟩) cs.length cs.length) := blk_cell hL0.out.1.1 0
  have c1 : W.cell? ⟨p, 1, none⟩ = some (.int .i64 (f : Int)) := blk_cell hL0.out.1.1 1
  have c2 : W.cell? ⟨p, 2, none⟩ = some (.int .i64 (n : Int)) := blk_cell hL0.out.1.1 2
  have b0 : W.cell? ⟨g, f * 5, none⟩ = some (.int .i64 x.a) := hL0.out.1.cell hx 0 (by omega)
  have b1 : W.cell? ⟨g, f * 5 + 1, none⟩ = some (.int .i64 x.b) := hL0.out.1.cell hx 1 (by omega)
  have b2 : W.cell? ⟨g, f * 5 + 2, none⟩ = some (.int .i64 x.c) := hL0.out.1.cell hx 2 (by omega)
  have b3 : W.cell? ⟨g, f * 5 + 3, none⟩ = some (.int .i64 x.d) := hL0.out.1.cell hx 3 (by omega)
  have b4 : W.cell? ⟨g, f * 5 + 4, none⟩ = some (.int .i64 x.e) := hL0.out.1.cell hx 4 (by omega)
  have e0 := (World.cell?_alloc_past (w := W) (.cells (l5 z5).toArray 30) p (0) (World.block_lt_of_cell? W _ c0)).trans c0
  have e1 := (World.cell?_alloc_past (w := W) (.cells (l5 z5).toArray 30) p (1) (World.block_lt_of_cell? W _ c1)).trans c1
  have a0 := (World.cell?_alloc_past (w := W) (.cells (l5 z5).toArray 30) g (f * 5) (World.block_lt_of_cell? W _ b0)).trans b0
  have a1 := (World.cell?_alloc_past (w := W) (.cells (l5 z5).toArray 30) g (f * 5 + 1) (World.block_lt_of_cell? W _ b1)).trans b1
  have a2 := (World.cell?_alloc_past (w := W) (.cells (l5 z5).toArray 30) g (f * 5 + 2) (World.block_lt_of_cell? W _ b2)).trans b2
  have a3 := (World.cell?_alloc_past (w := W) (.cells (l5 z5).toArray 30) g (f * 5 + 3) (World.block_lt_of_cell? W _ b3)).trans b3
  have a4 := (World.cell?_alloc_past (w := W) (.cells (l5 z5).toArray 30) g (f * 5 + 4) (World.block_lt_of_cell? W _ b4)).trans b4
  have hn3 : (1 : Int) ≤ (n : Int) := by omega
  have hn4 : ((n : Int) == 0) = false := by rw [beq_eq_false_iff_ne]; omega
  have hn5 : ¬ n = 0 := by omega
  have hfi : (f : Int) < (cs.length : Int) := by omega
  have hz := zero_ev
  replace hW := Lib.hid hW
  replace hB := Lib.hid hB
  replace hsW := Lib.hid hsW
  replace hR0 := Lib.hid hR0
  replace hR1 := Lib.hid hR1
  replace hx := Lib.hid hx
  clear h
  go_enter Try.func23, Try.ntmps23
  go_upto_region 2 with (fail)
  rw [← hW.out, ← hB.out]
  go_wp2_with fail
  refine start_ (n := 12) (S := fun w' => w'.cell? ⟨p, 0, none⟩ = some (.slice (some ⟨g, 0, none⟩) cs.length cs.length) ∧ w'.cell? ⟨p, 1, none⟩ = some (.int .i64 (f : Int)) ∧ w'.cell? ⟨g, f * 5, none⟩ = some (.int .i64 x.a) ∧ w'.cell? ⟨g, f * 5 + 1, none⟩ = some (.int .i64 x.b) ∧ w'.cell? ⟨g, f * 5 + 2, none⟩ = some (.int .i64 x.c) ∧ w'.cell? ⟨g, f * 5 + 3, none⟩ = some (.int .i64 x.d) ∧ w'.cell? ⟨g, f * 5 + 4, none⟩ = some (.int .i64 x.e)) (ds := [11]) #[false, false, false, false, false, false, false, false, false, false, false, false] (by kernel_rfl) rfl rfl ⟨c0, c1, b0, b1, b2, b3, b4⟩ (fun hHeld => ?_)
  refine pure_ (i := 0) (N := (some 12)) (v := ?_) (a' := ?_) #[true, false, false, false, false, false, false, false, false, false, false, false] rfl rfl (by kernel_rfl) (fun _ _ _ h => h) (Or.inl ⟨by rfl, ?_⟩) ?_ ?_
  rotate_left
  · intro w'
    go_simp
    with_reducible rfl
  rotate_left
  · simp only [Act.put, List.setIfInBounds_toArray, List.set_cons_zero, List.set_cons_succ, i64_w, i32_w]
    rfl
  refine pure_ (i := 1) (N := (some 13)) (v := ?_) (a' := ?_) #[true, true, false, false, false, false, false, false, false, false, false, false] rfl rfl (by kernel_rfl) (fun _ _ _ h => h) (Or.inl ⟨by rfl, ?_⟩) ?_ ?_
  rotate_left
  · intro w'
    go_simp
    with_reducible rfl
  rotate_left
  · simp only [Act.put, List.setIfInBounds_toArray, List.set_cons_zero, List.set_cons_succ, i64_w, i32_w]
    rfl
  refine pure_ (i := 2) (N := (some 14)) (v := ?_) (a' := ?_) #[true, true, true, false, false, false, false, false, false, false, false, false] rfl rfl (by kernel_rfl) (fun _ _ _ h => h) (Or.inl ⟨by rfl, ?_⟩) ?_ ?_
  rotate_left
  · intro w'
    go_simp
    with_reducible rfl
  rotate_left
  · simp only [Act.put, List.setIfInBounds_toArray, List.set_cons_zero, List.set_cons_succ, i64_w, i32_w]
    rfl
  refine take_ (i := 3) (N := (some 15)) (v := ?_) (a' := ?_) #[true, true, true, true, false, false, false, false, false, false, false, false] rfl rfl (by kernel_rfl) (fun _ _ _ h => h) (Or.inl ⟨by rfl, ?_⟩) hHeld ?_ ?_
  rotate_left
  · rintro w' ⟨s0, s1, s2, s3, s4, s5, s6⟩
    go_simp
    with_reducible rfl
  rotate_left
  · simp only [Act.put, List.setIfInBounds_toArray, List.set_cons_zero, List.set_cons_succ, i64_w, i32_w]
    rfl
  refine pure_ (i := 4) (N := (some 16)) (v := ?_) (a' := ?_) #[true, true, true, true, true, false, false, false, false, false, false, false] rfl rfl (by kernel_rfl) (fun _ _ _ h => h) (Or.inl ⟨by rfl, ?_⟩) ?_ ?_
  rotate_left
  · intro w'
    go_simp
    with_reducible rfl
  rotate_left
  · simp only [Act.put, List.setIfInBounds_toArray, List.set_cons_zero, List.set_cons_succ, i64_w, i32_w]
    rfl
  refine pure_ (i := 5) (N := (some 17)) (v := ?_) (a' := ?_) #[true, true, true, true, true, true, false, false, false, false, false, false] rfl rfl (by kernel_rfl) (fun _ _ _ h => h) (Or.inl ⟨by rfl, ?_⟩) ?_ ?_
  rotate_left
  · intro w'
    go_simp
    with_reducible rfl
  rotate_left
  · simp only [Act.put, List.setIfInBounds_toArray, List.set_cons_zero, List.set_cons_succ, i64_w, i32_w]
    rfl
  refine pure_ (i := 6) (N := (some 18)) (v := ?_) (a' := ?_) #[true, true, true, true, true, true, true, false, false, false, false, false] rfl rfl (by kernel_rfl) (fun _ _ _ h => h) (Or.inl ⟨by rfl, ?_⟩) ?_ ?_
  rotate_left
  · intro w'
    go_simp
    with_reducible rfl
  rotate_left
  · simp only [Act.put, List.setIfInBounds_toArray, List.set_cons_zero, List.set_cons_succ, i64_w, i32_w]
    rfl
  refine take_ (i := 7) (N := (some 19)) (v := ?_) (a' := ?_) #[true, true, true, true, true, true, true, true, false, false, false, false] rfl rfl (by kernel_rfl) (fun _ _ _ h => h) (Or.inl ⟨by rfl, ?_⟩) hHeld ?_ ?_
  rotate_left
  · rintro w' ⟨s0, s1, s2, s3, s4, s5, s6⟩
    go_simp
    with_reducible rfl
  rotate_left
  · simp only [Act.put, List.setIfInBounds_toArray, List.set_cons_zero, List.set_cons_succ, i64_w, i32_w]
    rfl
  refine pure_ (i := 8) (N := (some 20)) (v := ?_) (a' := ?_) #[true, true, true, true, true, true, true, true, true, false, false, false] rfl rfl (by kernel_rfl) (fun _ _ _ h => h) (Or.inl ⟨by rfl, ?_⟩) ?_ ?_
  rotate_left
  · intro w'
    go_simp
    with_reducible rfl
  rotate_left
  · simp only [Act.put, List.setIfInBounds_toArray, List.set_cons_zero, List.set_cons_succ, i64_w, i32_w]
    rfl
  refine take_ (i := 9) (N := (some 21)) (v := ?_) (a' := ?_) #[true, true, true, true, true, true, true, true, true, true, false, false] rfl rfl (by kernel_rfl) (fun _ _ _ h => h) (Or.inl ⟨by rfl, ?_⟩) hHeld ?_ ?_
  rotate_left
  · rintro w' ⟨s0, s1, s2, s3, s4, s5, s6⟩
    go_simp
    with_reducible rfl
  rotate_left
  · simp only [Act.put, List.setIfInBounds_toArray, List.set_cons_zero, List.set_cons_succ, i64_w, i32_w]
    rfl
  refine one_ (i := 10) (N := (some 5)) #[true, true, true, true, true, true, true, true, true, true, true, false] rfl rfl (by kernel_rfl) (by decide) (fun K hK => ?_)
  refine value_ (v := .pointer (some ⟨W.heap.size, 0, none⟩)) (w1 := (W.alloc (.cells (l5 z5).toArray 30)).drew) rfl rfl (by go_simp) ?_
  refine hK.out _ _ ⟨e0, e1, a0, a1, a2, a3, a4⟩ (fun hHeld => ?_)
  clear hK K
  refine norm_ (a' := ?_) ?_ ?_
  rotate_left
  · show Act.put _ (some 5) _ = _
    simp only [Act.put, List.setIfInBounds_toArray, List.set_cons_zero, List.set_cons_succ, i64_w, i32_w]
    rfl
  refine last_ (i := 11) (N := none) #[true, true, true, true, true, true, true, true, true, true, true, true] rfl rfl (by kernel_rfl) (by decide) (fun K hK => ?_)
  refine skip_ (w1 := (W.alloc (.cells (l5 x).toArray 30)).drew) rfl rfl (by unfold l5; go_simp) ?_
  refine hK.out _ _ ?_
  clear hK K
  refine done_ (by kernel_rfl) ?_
  obtain ⟨T, hT⟩ : ∃ T, T = W.heap.size := ⟨_, rfl⟩
  have hTB : T = B + 2 := hT.trans hsW.out
  have hT2 : (W.alloc (.cells (l5 x).toArray 30)).drew.heap[T]? = some (.cells (l5 x).toArray 30 (0, 0)) := by rw [hT]; exact blk_new _ _
  have hL2 := Lib.hid ((hL0.out.alloc (.cells (l5 x).toArray 30)).drew)
  have hr0 : (W.alloc (.cells (l5 x).toArray 30)).drew.heap[B]? = some (.cells (l5 z5).toArray 30 (0, 0)) := blk_alloc hR0.out _
  have hr1 : (W.alloc (.cells (l5 x).toArray 30)).drew.heap[B + 1]? = some (.cells (l5 z5).toArray 30 (0, 0)) := blk_alloc hR1.out _
  rw [← hT]
  clear c0 c1 c2 b0 b1 b2 b3 b4 e0 e1 a0 a1 a2 a3 a4 hT
  generalize (W.alloc (.cells (l5 x).toArray 30)).drew = W2 at hT2 hL2 hr0 hr1 ⊢
  have c0 : W2.cell? ⟨p, 0, none⟩ = some (.slice (some ⟨g, 0, none⟩) cs.length cs.length) := blk_cell hL2.out.1.1 0
  have c1 : W2.cell? ⟨p, 1, none⟩ = some (.int .i64 (f : Int)) := blk_cell hL2.out.1.1 1
  have q0 : W2.cell? ⟨B + 1, 0, none⟩ = some (.int .i64 0) := blk_cell hr1 0
  have q1 : W2.cell? ⟨B + 1, 1, none⟩ = some (.int .i64 0) := blk_cell hr1 1
  have q2 : W2.cell? ⟨B + 1, 2, none⟩ = some (.int .i64 0) := blk_cell hr1 2
  have q3 : W2.cell? ⟨B + 1, 3, none⟩ = some (.int .i64 0) := blk_cell hr1 3
  have q4 : W2.cell? ⟨B + 1, 4, none⟩ = some (.int .i64 0) := blk_cell hr1 4
  have b0 : W2.cell? ⟨g, f * 5, none⟩ = some (.int .i64 x.a) := hL2.out.1.cell hx.out 0 (by omega)
  have b1 : W2.cell? ⟨g, f * 5 + 1, none⟩ = some (.int .i64 x.b) := hL2.out.1.cell hx.out 1 (by omega)
  have b2 : W2.cell? ⟨g, f * 5 + 2, none⟩ = some (.int .i64 x.c) := hL2.out.1.cell hx.out 2 (by omega)
  have b3 : W2.cell? ⟨g, f * 5 + 3, none⟩ = some (.int .i64 x.d) := hL2.out.1.cell hx.out 3 (by omega)
  have b4 : W2.cell? ⟨g, f * 5 + 4, none⟩ = some (.int .i64 x.e) := hL2.out.1.cell hx.out 4 (by omega)
  have z0 := blk_frozen hL2.out.1.2 (f * 5)
  have z1 := blk_frozen hL2.out.1.2 (f * 5 + 1)
  have z2 := blk_frozen hL2.out.1.2 (f * 5 + 2)
  have z3 := blk_frozen hL2.out.1.2 (f * 5 + 3)
  have z4 := blk_frozen hL2.out.1.2 (f * 5 + 4)
  replace hT2 := Lib.hid hT2
  replace hr0 := Lib.hid hr0
  replace hr1 := Lib.hid hr1
  replace hTB := Lib.hid hTB
  go_wp2_with fail
  refine start_ (n := 11) (S := fun w' => w'.cell? ⟨p, 0, none⟩ = some (.slice (some ⟨g, 0, none⟩) cs.length cs.length) ∧ w'.cell? ⟨p, 1, none⟩ = some (.int .i64 (f : Int)) ∧ w'.cell? ⟨B + 1, 0, none⟩ = some (.int .i64 0) ∧ w'.cell? ⟨B + 1, 1, none⟩ = some (.int .i64 0) ∧ w'.cell? ⟨B + 1, 2, none⟩ = some (.int .i64 0) ∧ w'.cell? ⟨B + 1, 3, none⟩ = some (.int .i64 0) ∧ w'.cell? ⟨B + 1, 4, none⟩ = some (.int .i64 0)) (ds := [10]) #[false, false, false, false, false, false, false, false, false, false, false] (by kernel_rfl) rfl rfl ⟨c0, c1, q0, q1, q2, q3, q4⟩ (fun hHeld => ?_)
  refine pure_ (i := 0) (N := (some 22)) (v := ?_) (a' := ?_) #[true, false, false, false, false, false, false, false, false, false, false] rfl rfl (by kernel_rfl) (fun _ _ _ h => h) (Or.inl ⟨by rfl, ?_⟩) ?_ ?_
  rotate_left
  · intro w'
    go_simp
    with_reducible rfl
  rotate_left
  · simp only [Act.put, List.setIfInBounds_toArray, List.set_cons_zero, List.set_cons_succ, i64_w, i32_w]
    rfl
  refine pure_ (i := 1) (N := (some 23)) (v := ?_) (a' := ?_) #[true, true, false, false, false, false, false, false, false, false, false] rfl rfl (by kernel_rfl) (fun _ _ _ h => h) (Or.inl ⟨by rfl, ?_⟩) ?_ ?_
  rotate_left
  · intro w'
    go_simp
    with_reducible rfl
  rotate_left
  · simp only [Act.put, List.setIfInBounds_toArray, List.set_cons_zero, List.set_cons_succ, i64_w, i32_w]
    rfl
  refine pure_ (i := 2) (N := (some 24)) (v := ?_) (a' := ?_) #[true, true, true, false, false, false, false, false, false, false, false] rfl rfl (by kernel_rfl) (fun _ _ _ h => h) (Or.inl ⟨by rfl, ?_⟩) ?_ ?_
  rotate_left
  · intro w'
    go_simp
    with_reducible rfl
  rotate_left
  · simp only [Act.put, List.setIfInBounds_toArray, List.set_cons_zero, List.set_cons_succ, i64_w, i32_w]
    rfl
  refine take_ (i := 3) (N := (some 25)) (v := ?_) (a' := ?_) #[true, true, true, true, false, false, false, false, false, false, false] rfl rfl (by kernel_rfl) (fun _ _ _ h => h) (Or.inl ⟨by rfl, ?_⟩) hHeld ?_ ?_
  rotate_left
  · rintro w' ⟨s0, s1, s2, s3, s4, s5, s6⟩
    go_simp
    with_reducible rfl
  rotate_left
  · simp only [Act.put, List.setIfInBounds_toArray, List.set_cons_zero, List.set_cons_succ, i64_w, i32_w]
    rfl
  refine pure_ (i := 4) (N := (some 26)) (v := ?_) (a' := ?_) #[true, true, true, true, true, false, false, false, false, false, false] rfl rfl (by kernel_rfl) (fun _ _ _ h => h) (Or.inl ⟨by rfl, ?_⟩) ?_ ?_
  rotate_left
  · intro w'
    go_simp
    with_reducible rfl
  rotate_left
  · simp only [Act.put, List.setIfInBounds_toArray, List.set_cons_zero, List.set_cons_succ, i64_w, i32_w]
    rfl
  refine pure_ (i := 5) (N := (some 27)) (v := ?_) (a' := ?_) #[true, true, true, true, true, true, false, false, false, false, false] rfl rfl (by kernel_rfl) (fun _ _ _ h => h) (Or.inl ⟨by rfl, ?_⟩) ?_ ?_
  rotate_left
  · intro w'
    go_simp
    with_reducible rfl
  rotate_left
  · simp only [Act.put, List.setIfInBounds_toArray, List.set_cons_zero, List.set_cons_succ, i64_w, i32_w]
    rfl
  refine pure_ (i := 6) (N := (some 28)) (v := ?_) (a' := ?_) #[true, true, true, true, true, true, true, false, false, false, false] rfl rfl (by kernel_rfl) (fun _ _ _ h => h) (Or.inl ⟨by rfl, ?_⟩) ?_ ?_
  rotate_left
  · intro w'
    go_simp
    with_reducible rfl
  rotate_left
  · simp only [Act.put, List.setIfInBounds_toArray, List.set_cons_zero, List.set_cons_succ, i64_w, i32_w]
    rfl
  refine take_ (i := 7) (N := (some 29)) (v := ?_) (a' := ?_) #[true, true, true, true, true, true, true, true, false, false, false] rfl rfl (by kernel_rfl) (fun _ _ _ h => h) (Or.inl ⟨by rfl, ?_⟩) hHeld ?_ ?_
  rotate_left
  · rintro w' ⟨s0, s1, s2, s3, s4, s5, s6⟩
    go_simp
    with_reducible rfl
  rotate_left
  · simp only [Act.put, List.setIfInBounds_toArray, List.set_cons_zero, List.set_cons_succ, i64_w, i32_w]
    rfl
  refine take_ (i := 8) (N := (some 30)) (v := ?_) (a' := ?_) #[true, true, true, true, true, true, true, true, true, false, false] rfl rfl (by kernel_rfl) (fun _ _ _ h => h) (Or.inl ⟨by rfl, ?_⟩) hHeld ?_ ?_
  rotate_left
  · rintro w' ⟨s0, s1, s2, s3, s4, s5, s6⟩
    go_simp
    with_reducible rfl
  rotate_left
  · simp only [Act.put, List.setIfInBounds_toArray, List.set_cons_zero, List.set_cons_succ, i64_w, i32_w]
    rfl
  refine pure_ (i := 9) (N := (some 31)) (v := ?_) (a' := ?_) #[true, true, true, true, true, true, true, true, true, true, false] rfl rfl (by kernel_rfl) (fun _ _ _ h => h) (Or.inl ⟨by rfl, ?_⟩) ?_ ?_
  rotate_left
  · intro w'
    go_simp
    with_reducible rfl
  rotate_left
  · simp only [Act.put, List.setIfInBounds_toArray, List.set_cons_zero, List.set_cons_succ, i64_w, i32_w]
    rfl
  refine last_ (i := 10) (N := none) #[true, true, true, true, true, true, true, true, true, true, true] rfl rfl (by kernel_rfl) (by decide) (fun K hK => ?_)
  refine skip_ (w1 := (put5 W2 g (f * 5) z5).drew) rfl rfl (by unfold put5 z5; go_simp) ?_
  refine hK.out _ _ ?_
  clear hK K
  refine done_ (by kernel_rfl) ?_
  have hL3 := Lib.hid ((hL2.out.row hne f hf z5).drew)
  have hgB : B ≠ g := by omega
  have hgT : T ≠ g := by have := hTB.out; omega
  have hr3 : (put5 W2 g (f * 5) z5).drew.heap[B]? = some (.cells (l5 z5).toArray 30 (0, 0)) := blk_far (blk_far (blk_far (blk_far (blk_far hr0.out hgB _) hgB _) hgB _) hgB _) hgB _
  have hT3 : (put5 W2 g (f * 5) z5).drew.heap[T]? = some (.cells (l5 x).toArray 30 (0, 0)) := blk_far (blk_far (blk_far (blk_far (blk_far hT2.out hgT _) hgT _) hgT _) hgT _) hgT _
  clear c0 c1 q0 q1 q2 q3 q4 b0 b1 b2 b3 b4 z0 z1 z2 z3 z4
  generalize (put5 W2 g (f * 5) z5).drew = W3 at hL3 hr3 hT3 ⊢
  have HF : ∀ W', W'.heap = W3.heap → Calls Try.prog 27 #[.pointer (some ⟨p, 0, none⟩), .int .i64 1] W' fun e w' => e = .returned (.int .i64 (((f + 1) % cs.length : Nat) : Int)) ∧ ∃ nd, w' = W'.drewN nd := fun W' hW' => by
    have := at_any (w := W') (hL3.out.1.same (by rw [hW']) (by rw [hW'])) 1 (by simp; omega) (by simp; omega) (by simp; omega) (by simp; omega)
    rw [List.length_set] at this; exact this
  obtain ⟨q, hq⟩ : ∃ q, q = (f + 1) % cs.length := ⟨_, rfl⟩
  rw [← hq] at HF
  have hq2 := Lib.hid hq
  replace HF := Lib.hid HF
  clear hq
  have c0 : W3.cell? ⟨p, 1, none⟩ = some (.int .i64 (f : Int)) := blk_cell hL3.out.1.1 1
  have c2 : W3.cell? ⟨p, 2, none⟩ = some (.int .i64 (n : Int)) := blk_cell hL3.out.1.1 2
  have f1 := blk_frozen hL3.out.1.1 1
  have f2 := blk_frozen hL3.out.1.1 2
  have t0 : W3.cell? ⟨T, 0, none⟩ = some (.int .i64 x.a) := blk_cell hT3 0
  have t1 : W3.cell? ⟨T, 1, none⟩ = some (.int .i64 x.b) := blk_cell hT3 1
  have t2 : W3.cell? ⟨T, 2, none⟩ = some (.int .i64 x.c) := blk_cell hT3 2
  have t3 : W3.cell? ⟨T, 3, none⟩ = some (.int .i64 x.d) := blk_cell hT3 3
  have t4 : W3.cell? ⟨T, 4, none⟩ = some (.int .i64 x.e) := blk_cell hT3 4
  have r0 : W3.cell? ⟨B, 0, none⟩ = some (.int .i64 0) := blk_cell hr3 0
  have r1 : W3.cell? ⟨B, 1, none⟩ = some (.int .i64 0) := blk_cell hr3 1
  have r2 : W3.cell? ⟨B, 2, none⟩ = some (.int .i64 0) := blk_cell hr3 2
  have r3 : W3.cell? ⟨B, 3, none⟩ = some (.int .i64 0) := blk_cell hr3 3
  have r4 : W3.cell? ⟨B, 4, none⟩ = some (.int .i64 0) := blk_cell hr3 4
  have y0 := blk_frozen hr3 0
  have y1 := blk_frozen hr3 1
  have y2 := blk_frozen hr3 2
  have y3 := blk_frozen hr3 3
  have y4 := blk_frozen hr3 4
  have n1 : B ≠ p := by omega
  have n2 : T ≠ p := by have := hTB.out; omega
  have n3 : T ≠ B := by have := hTB.out; omega
  have n1' : p ≠ B := by omega
  have n2' : p ≠ T := by have := hTB.out; omega
  have n3' : B ≠ T := by have := hTB.out; omega
  replace hT3 := Lib.hid hT3
  replace hr3 := Lib.hid hr3
  go_wp2_with (go_at_call 27; (refine (HF.out _ (by rfl)).mono ?_; rintro e w1 ⟨rfl, nd, rfl⟩))
  rw [show (n : Int) - 1 = ((n - 1 : Nat) : Int) by omega]
  have hBw : w.heap.size ≤ B := by have := hB.out; omega
  have hL4 := ((((((hL3.out.drewN nd).fst hne q).cnt hne (n - 1)).far (a := ⟨B, 0, none⟩) n1 hgB hBw hlt.1 (.int .i64 x.a)).far (a := ⟨B, 1, none⟩) n1 hgB hBw hlt.1 (.int .i64 x.b)).far (a := ⟨B, 2, none⟩) n1 hgB hBw hlt.1 (.int .i64 x.c)).far (a := ⟨B, 3, none⟩) n1 hgB hBw hlt.1 (.int .i64 x.d) |>.far (a := ⟨B, 4, none⟩) n1 hgB hBw hlt.1 (.int .i64 x.e)
  have hB9 := blk_set (blk_set (blk_set (blk_set (blk_set (blk_far (blk_far (show (W3.drewN nd).heap[B]? = _ from hr3.out) (p := ⟨p, 1, none⟩) n1 (.int .i64 (q : Int))) (p := ⟨p, 2, none⟩) n1 (.int .i64 ((n - 1 : Nat) : Int))) 0 (.int .i64 x.a)) 1 (.int .i64 x.b)) 2 (.int .i64 x.c)) 3 (.int .i64 x.d)) 4 (.int .i64 x.e)
  rw [hq2.out] at hL4 hB9 ⊢
  generalize hW9 : (((((((W3.drewN nd).setCell ⟨p, 1, none⟩ (.int .i64 (((f + 1) % cs.length : Nat) : Int))).setCell ⟨p, 2, none⟩ (.int .i64 ((n - 1 : Nat) : Int))).setCell ⟨B, 0, none⟩ (.int .i64 x.a)).setCell ⟨B, 1, none⟩ (.int .i64 x.b)).setCell ⟨B, 2, none⟩ (.int .i64 x.c)).setCell ⟨B, 3, none⟩ (.int .i64 x.d)).setCell ⟨B, 4, none⟩ (.int .i64 x.e) = W9 at hL4 hB9 ⊢
  have k0 : W9.cell? ⟨B, 0, none⟩ = some (.int .i64 x.a) := (blk_cell hB9 0).trans rfl
  have k1 : W9.cell? ⟨B, 1, none⟩ = some (.int .i64 x.b) := (blk_cell hB9 1).trans rfl
  have k2 : W9.cell? ⟨B, 2, none⟩ = some (.int .i64 x.c) := (blk_cell hB9 2).trans rfl
  have k3 : W9.cell? ⟨B, 3, none⟩ = some (.int .i64 x.d) := (blk_cell hB9 3).trans rfl
  have k4 : W9.cell? ⟨B, 4, none⟩ = some (.int .i64 x.e) := (blk_cell hB9 4).trans rfl
  exact bodyPost_ret (v := .tuple #[.agg (l5 x).toArray, .bool true]) (by simp [results, Try.results23, go_sem, k0, k1, k2, k3, k4, l5]) rfl ⟨_, rfl, hL4⟩
theorem len_any {w : World} {p g f n : Nat} {cs : List Ev} (h : RS w p g f n cs) :
    Calls Try.prog 22 #[.pointer (some ⟨p, 0, none⟩)] w fun e w' => e = .returned (.int .i64 (n : Int)) ∧ w' = w := by
  have c2 : w.cell? ⟨p, 2, none⟩ = some (.int .i64 (n : Int)) := blk_cell h.1 2
  clear h
  go_enter Try.func22, Try.ntmps22
  go_wp2
  go_ret
  exact ⟨rfl, rfl⟩
theorem new_no (w : World) (c : Int) (h : c < 1 ∨ 4096 < c) :
    Calls Try.prog 16 #[.int .i64 c] w fun e w' => e = .returned (.tuple #[.pointer none, .int .i64 1]) ∧ w' = w := by
  by_cases h0 : c < 1
  · clear h
    go_enter Try.func16, Try.ntmps16
    go_wp2
    go_ret2
    exact ⟨rfl, rfl⟩
  · have h1 : 4096 < c := by omega
    have h2 : (1 : Int) ≤ c := by omega
    clear h h0
    go_enter Try.func16, Try.ntmps16
    go_wp2
    go_ret2
    exact ⟨rfl, rfl⟩
set_option maxHeartbeats 800000 in
theorem push_room {w : World} {p g f n : Nat} {cs : List Ev} (h : RS w p g f n cs) (x : Ev) (hc : 1 ≤ cs.length) (hb : cs.length ≤ 4096) (hf : f < cs.length) (hn : n < cs.length) (q : Nat) (hq : (f + n) % cs.length = q) :
    Calls Try.prog 18 #[.pointer (some ⟨p, 0, none⟩), .agg (l5 x).toArray] w fun e w' => e = .returned (.bool false) ∧ Left w w' p g f (n + 1) (cs.set q x) := by
  obtain ⟨W, hW⟩ : ∃ W, W = w.alloc (.cells (l5 x).toArray 30) := ⟨_, rfl⟩
  obtain ⟨hbW, hsW, b0, b1, b2, b3, b4⟩ := boxed w x hW
  have h2 := h.below hbW
  have hL0 : Hid (Left w W p g f n cs) := Lib.hid (by rw [hW]; exact (Left.refl h).alloc _)
  obtain ⟨B, hB⟩ : ∃ B, B = w.heap.size := ⟨_, rfl⟩
  rw [← hB] at b0 b1 b2 b3 b4
  have c0 : W.cell? ⟨p, 0, none⟩ = some (.slice (some ⟨g, 0, none⟩) cs.length cs.length) := blk_cell h2.1 0
  have c2 : W.cell? ⟨p, 2, none⟩ = some (.int .i64 (n : Int)) := blk_cell h2.1 2
  have he : ((n : Int) == (cs.length : Int)) = false := by rw [beq_eq_false_iff_ne]; omega
  have he2 : (n == cs.length) = false := by rw [beq_eq_false_iff_ne]; omega
  have HP : ∀ m : Nat, Calls Try.prog 25 #[.pointer (some ⟨p, 0, none⟩), .agg (l5 x).toArray] (W.drewN m) fun e w' => e = .returned (.int .i64 0) ∧ Left w w' p g f (n + 1) (cs.set q x) := fun m =>
    (put_room (w := W.drewN m) h2 x hc hb hf hn q hq).mono fun _ _ ⟨he, hl⟩ => ⟨he, (hL0.out.drewN m).trans hl⟩
  replace hW := Lib.hid hW
  replace hB := Lib.hid hB
  replace HP := Lib.hid HP
  clear h h2 hq hbW hsW
  go_enter Try.func18, Try.ntmps18
  go_upto_region 1 with (fail)
  rw [← hW.out, ← hB.out]
  go_quiet (fail)
  go_wp2_with (go_at_call 25; (refine (HP.out _).mono ?_; rintro e w1 ⟨rfl, hl⟩; replace hl := Lib.hid hl))
  go_ret
  exact ⟨rfl, hl.out⟩
set_option maxHeartbeats 800000 in
theorem push_full {w : World} {p g f n : Nat} {cs : List Ev} (h : RS w p g f n cs) (x : Ev) (hc : 1 ≤ cs.length) (hb : cs.length ≤ 4096) (hf : f < cs.length) (hn : n = cs.length) :
    Calls Try.prog 18 #[.pointer (some ⟨p, 0, none⟩), .agg (l5 x).toArray] w fun e w' => e = .returned (.bool true) ∧ Left w w' p g ((f + 1) % cs.length) n (cs.set f x) := by
  obtain ⟨W, hW⟩ : ∃ W, W = w.alloc (.cells (l5 x).toArray 30) := ⟨_, rfl⟩
  obtain ⟨hbW, hsW, b0, b1, b2, b3, b4⟩ := boxed w x hW
  have h2 := h.below hbW
  have hlt := h.lt
  have hL0 : Hid (Left w W p g f n cs) := Lib.hid (by rw [hW]; exact (Left.refl h).alloc _)
  obtain ⟨B, hB⟩ : ∃ B, B = w.heap.size := ⟨_, rfl⟩
  have hRB : Hid (W.heap[B]? = some (.cells (l5 x).toArray 30 (0, 0))) := Lib.hid (by rw [hW, hB]; exact blk_new _ _)
  rw [← hB] at b0 b1 b2 b3 b4 hlt
  have c0 : W.cell? ⟨p, 0, none⟩ = some (.slice (some ⟨g, 0, none⟩) cs.length cs.length) := blk_cell h2.1 0
  have c2 : W.cell? ⟨p, 2, none⟩ = some (.int .i64 (n : Int)) := blk_cell h2.1 2
  have he : ((n : Int) == (cs.length : Int)) = true := by rw [beq_iff_eq]; omega
  have he2 : (n == cs.length) = true := by rw [beq_iff_eq]; omega
  obtain ⟨y, hy⟩ : ∃ y, cs[f]? = some y := ⟨cs[f], by simp [hf]⟩
  have HT : ∀ m : Nat, Calls Try.prog 23 #[.pointer (some ⟨p, 0, none⟩)] (W.drewN m) fun e w' => ∃ v, e = .returned v ∧ Left w w' p g ((f + 1) % cs.length) (n - 1) (cs.set f z5) ∧ w'.heap[B]? = some (.cells (l5 x).toArray 30 (0, 0)) := fun m =>
    (take_some (w := W.drewN m) h2 hc hb hf (by omega) (by omega) y hy).mono fun _ _ ⟨v, he, hl⟩ => ⟨v, he, (hL0.out.drewN m).trans hl, (hl.2.1.2 B (by show B < W.heap.size; omega) (by rintro (h | h) <;> omega)).trans hRB.out⟩
  have hq : ((f + 1) % cs.length + (n - 1)) % cs.length = f := by
    rw [hn, Nat.mod_add_mod, show f + 1 + (cs.length - 1) = f + cs.length by omega, Nat.add_mod_right, Nat.mod_eq_of_lt hf]
  have hf1 : (f + 1) % cs.length < cs.length := Nat.mod_lt _ (by omega)
  have HP : ∀ W' : World, Left w W' p g ((f + 1) % cs.length) (n - 1) (cs.set f z5) → Calls Try.prog 25 #[.pointer (some ⟨p, 0, none⟩), .agg (l5 x).toArray] W' fun e w' => e = .returned (.int .i64 0) ∧ Left w w' p g ((f + 1) % cs.length) n (cs.set f x) := fun W' hW' =>
    (put_room (w := W') hW'.1 x (by simp; omega) (by simp; omega) (by simpa using hf1) (by simp; omega) f (by simpa using hq)).mono fun _ _ ⟨he, hl⟩ => ⟨he, by
      have := hW'.trans hl
      rw [List.set_set, show n - 1 + 1 = n by omega] at this; exact this⟩
  replace hW := Lib.hid hW
  replace hB := Lib.hid hB
  replace HP := Lib.hid HP
  replace HT := Lib.hid HT
  clear h h2 hq hbW hsW hn hy hf1
  go_enter Try.func18, Try.ntmps18
  go_upto_region 1 with (fail)
  rw [← hW.out, ← hB.out]
  go_quiet (fail)
  go_wp2_with fail
  refine (HT.out _).mono ?_; rintro e w1 ⟨v, rfl, hl, hR⟩
  have d0 : w1.cell? ⟨B, 0, none⟩ = some (.int .i64 x.a) := (blk_cell hR 0).trans rfl
  have d1 : w1.cell? ⟨B, 1, none⟩ = some (.int .i64 x.b) := (blk_cell hR 1).trans rfl
  have d2 : w1.cell? ⟨B, 2, none⟩ = some (.int .i64 x.c) := (blk_cell hR 2).trans rfl
  have d3 : w1.cell? ⟨B, 3, none⟩ = some (.int .i64 x.d) := (blk_cell hR 3).trans rfl
  have d4 : w1.cell? ⟨B, 4, none⟩ = some (.int .i64 x.e) := (blk_cell hR 4).trans rfl
  replace hl := Lib.hid hl
  clear hR
  go_wp2_with (go_at_call 25; refine (HP.out _ hl.out).mono ?_; rintro e w2 ⟨rfl, hl2⟩; replace hl2 := Lib.hid hl2)
  go_ret
  exact ⟨rfl, hl2.out⟩
end Go.Proofs.Ytbcpfbmoednghaa.Ring5
