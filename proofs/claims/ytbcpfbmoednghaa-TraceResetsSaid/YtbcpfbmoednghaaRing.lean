import Derived.Test.YtbcpfbmoednghaaProg
import Derived.Below
import Derived.Deep.Draws
import Derived.Deep.AppendLies
import Derived.OwnWalk
import Derived.Laws.MakeOwn
import Derived.Laws.OwnMore
import Derived.Deep.OwnRows
import Derived.Tactics
import Derived.Laws.Slices
import Derived.WalkKit
import Derived.KernelRfl
import Derived.RowKit3
import Derived.Deep.LoopGhost
import Derived.Deep.QuietTactic
import Derived.BigQuiet
import Derived.Deep.DeepCutAuto
import Derived.Deep.CutBlock
import Derived.Deep.RegionHeld3
import Derived.Deep.RegionLaw
import Derived.Laws.Rows
import Derived.ArgAppend
import Derived.RowKit
import Derived.IntWalk
import Derived.WalkSpells
import Derived.Lib.Hide
import Derived.StillTailTactics
import Derived.Test.YtbcpfbmoednghaaWMore
namespace Go.Proofs.Ytbcpfbmoednghaa.Ring
open Go.RowKit Go.Proofs.YtbcpfbmoednghaaW.PrintWords Go.Proofs.YtbcpfbmoednghaaW.PrintLast Go.Proofs.YtbcpfbmoednghaaW.PrintMore

/-- A ring at block p, its places in block g: the slice's cells cs, the first, how many. -/
def RS {α : Type} (enc : α → Value) (te ts : Nat) (w : World) (p g f n : Nat) (cs : List α) : Prop :=
  w.heap[p]? = some (.cells #[.slice (some ⟨g, 0, none⟩) cs.length cs.length, .int .i64 (f : Int), .int .i64 (n : Int)] ts (0, 0)) ∧ w.heap[g]? = some (.cells (cs.map enc).toArray te (0, 0))
theorem wadd {a b : Nat} (h : a + b ≤ 1000000) : IntKind.i64.wrap ((a : Int) + (b : Int)) = ((a + b : Nat) : Int) := by
  rw [IntWalk.i64_in _ (by omega)]; omega
theorem modn {a c : Nat} : (((a : Nat) : Int)).tmod (c : Int) = ((a % c : Nat) : Int) := (Int.ofNat_tmod a c).symm

/-- What a ring's call keeps: all but the ring's two blocks. -/
def Own (p g : Nat) (k : Nat) : Prop := k = p ∨ k = g

section
variable {α : Type} {enc : α → Value} {te ts : Nat} {w : World} {p g f n : Nat} {cs : List α}
theorem map_set (cs : List α) (q : Nat) (x : α) : ((cs.map enc).toArray.setIfInBounds q (enc x)) = ((cs.set q x).map enc).toArray := by
  apply Array.ext'
  simp [List.map_set]
theorem RS.row (h : RS enc te ts w p g f n cs) (hne : p ≠ g) (q : Nat) (x : α) : RS enc te ts (w.setCell ⟨g, q, none⟩ (enc x)) p g f n (cs.set q x) := by
  refine ⟨?_, ?_⟩
  · rw [List.length_set]; exact blk_far h.1 hne _
  · rw [← map_set]; exact blk_set h.2 q _
theorem RS.cnt (h : RS enc te ts w p g f n cs) (hne : p ≠ g) (m : Nat) : RS enc te ts (w.setCell ⟨p, 2, none⟩ (.int .i64 (m : Int))) p g f m cs :=
  ⟨blk_put h.1 2 _ rfl, blk_far h.2 (Ne.symm hne) _⟩
theorem RS.fst (h : RS enc te ts w p g f n cs) (hne : p ≠ g) (m : Nat) : RS enc te ts (w.setCell ⟨p, 1, none⟩ (.int .i64 (m : Int))) p g m n cs :=
  ⟨blk_put h.1 1 _ rfl, blk_far h.2 (Ne.symm hne) _⟩
theorem RS.made (w : World) (c : Nat) (z : α) : RS enc te ts ((w.alloc (.cells (madeCells #[enc z] c) te)).alloc (.cells #[.slice (some ⟨w.heap.size, 0, none⟩) c c, .int .i64 0, .int .i64 0] ts)) (w.heap.size + 1) w.heap.size 0 0 (List.replicate c z) := by
  have e : ((List.replicate c z).map enc).toArray = madeCells #[enc z] c := by
    apply Array.ext'
    rw [toList_madeCells_one]; simp
  refine ⟨?_, ?_⟩
  · have := blk_new (w.alloc (.cells (madeCells #[enc z] c) te)) (.cells #[.slice (some ⟨w.heap.size, 0, none⟩) c c, .int .i64 0, .int .i64 0] ts)
    rw [show (w.alloc (.cells (madeCells #[enc z] c) te)).heap.size = w.heap.size + 1 by simp] at this
    rw [this, List.length_replicate]; rfl
  · rw [e]; exact blk_alloc (blk_new w _) _
/-- What a call of a ring's leaves: the ring, and all else as it was. -/
def Left (enc : α → Value) (te ts : Nat) (w w' : World) (p g f n : Nat) (cs : List α) : Prop := RS enc te ts w' p g f n cs ∧ Kept w w' (Own p g) ∧ ∀ B, B ≤ p → B ≤ g → Below B w w'
theorem Left.refl (h : RS enc te ts w p g f n cs) : Left enc te ts w w p g f n cs := ⟨h, Kept.refl _ _, fun B _ _ => Below.refl B w⟩
theorem Left.trans {W W2 : World} {f' n' f2 n2 : Nat} {cs' cs2 : List α} (h : Left enc te ts w W p g f' n' cs') (k : Left enc te ts W W2 p g f2 n2 cs2) : Left enc te ts w W2 p g f2 n2 cs2 :=
  ⟨k.1, h.2.1.then_ k.2.1 (fun _ x => .inl x), fun B h1 h2 => (h.2.2 B h1 h2).trans (k.2.2 B h1 h2)⟩
theorem Left.drewN {W : World} (h : Left enc te ts w W p g f n cs) (k : Nat) : Left enc te ts w (W.drewN k) p g f n cs := ⟨h.1, h.2.1.drewN k, fun B h1 h2 => pw_below_drewN (h.2.2 B h1 h2) k⟩
theorem Left.row {W : World} (h : Left enc te ts w W p g f n cs) (hne : p ≠ g) (q : Nat) (x : α) : Left enc te ts w (W.setCell ⟨g, q, none⟩ (enc x)) p g f n (cs.set q x) :=
  ⟨h.1.row hne q x, h.2.1.setCell (.inl (.inr rfl)) _, fun B h1 h2 => (h.2.2 B h1 h2).setCell h2 _⟩
theorem Left.cnt {W : World} (h : Left enc te ts w W p g f n cs) (hne : p ≠ g) (m : Nat) : Left enc te ts w (W.setCell ⟨p, 2, none⟩ (.int .i64 (m : Int))) p g f m cs :=
  ⟨h.1.cnt hne m, h.2.1.setCell (.inl (.inl rfl)) _, fun B h1 h2 => (h.2.2 B h1 h2).setCell h1 _⟩
theorem Left.fst {W : World} (h : Left enc te ts w W p g f n cs) (hne : p ≠ g) (m : Nat) : Left enc te ts w (W.setCell ⟨p, 1, none⟩ (.int .i64 (m : Int))) p g m n cs :=
  ⟨h.1.fst hne m, h.2.1.setCell (.inl (.inl rfl)) _, fun B h1 h2 => (h.2.2 B h1 h2).setCell h1 _⟩
end
/-- The list that the ring's places hold. -/
def View {α : Type} (cs : List α) (f n : Nat) (L : List α) : Prop := L.length = n ∧ ∀ i, i < n → cs[(f + i) % cs.length]? = L[i]?
theorem mod_two {f i c : Nat} (hf : f < c) (hi : i ≤ c) : (f + i) % c = if f + i < c then f + i else f + i - c := by
  split
  · exact Nat.mod_eq_of_lt (by assumption)
  · rw [Nat.mod_eq_sub_mod (by omega), Nat.mod_eq_of_lt (by omega)]
section
variable {α : Type} {cs L : List α} {f n : Nat}
theorem View.get (h : View cs f n L) {i : Nat} (hi : i < n) : cs[(f + i) % cs.length]? = L[i]? := h.2 i hi
theorem View.put (h : View cs f n L) (hf : f < cs.length) (hn : n < cs.length) (x : α) : View (cs.set ((f + n) % cs.length) x) f (n + 1) (L ++ [x]) := by
  refine ⟨by rw [List.length_append, h.1]; rfl, fun i hi => ?_⟩
  rw [List.length_set]
  have h1 := mod_two hf (show n ≤ cs.length by omega)
  have h2 := mod_two hf (show i ≤ cs.length by omega)
  have hlt : (f + n) % cs.length < cs.length := Nat.mod_lt _ (by omega)
  by_cases e : i = n
  · subst e
    rw [List.getElem?_set_self hlt, List.getElem?_append_right (by rw [h.1]; omega), h.1]; simp
  · have hne : (f + n) % cs.length ≠ (f + i) % cs.length := by
      rw [h1, h2]; split <;> split <;> omega
    rw [List.getElem?_set_ne hne, h.2 i (by omega), List.getElem?_append_left (by rw [h.1]; omega)]
theorem View.take (h : View cs f n L) (hf : f < cs.length) (hn : n ≤ cs.length) (z : α) : View (cs.set f z) ((f + 1) % cs.length) (n - 1) L.tail := by
  refine ⟨by rw [List.length_tail, h.1], fun i hi => ?_⟩
  rw [List.length_set, Nat.mod_add_mod, Nat.add_assoc]
  have h2 := mod_two hf (show 1 + i ≤ cs.length by omega)
  have hne : f ≠ (f + (1 + i)) % cs.length := by rw [h2]; split <;> omega
  rw [List.getElem?_set_ne hne, h.2 (1 + i) (by omega), List.getElem?_tail, Nat.add_comm]
theorem View.turn (h : View cs f n L) (hf : f < cs.length) (hn : n = cs.length) (x : α) : View (cs.set f x) ((f + 1) % cs.length) n (L.tail ++ [x]) := by
  have h1 := h.take hf (by omega) x
  have hf1 : (f + 1) % cs.length < cs.length := Nat.mod_lt _ (by omega)
  have h2 := h1.put (by rw [List.length_set]; exact hf1) (by rw [List.length_set]; omega) x
  have e : ((f + 1) % cs.length + (n - 1)) % (cs.set f x).length = f := by
    rw [List.length_set, hn, Nat.mod_add_mod, show f + 1 + (cs.length - 1) = f + cs.length by omega, Nat.add_mod_right, Nat.mod_eq_of_lt hf]
  rw [e, List.set_set, show n - 1 + 1 = n by omega] at h2
  exact h2
end
section
variable {α : Type} {enc : α → Value} {te ts : Nat} {w : World} {p g c : Nat} {L : List α}
/-- A ring of c places that holds the list L. -/
def RQ (enc : α → Value) (te ts : Nat) (w : World) (p g c : Nat) (L : List α) : Prop :=
  ∃ f cs, RS enc te ts w p g f L.length cs ∧ cs.length = c ∧ 1 ≤ c ∧ c ≤ 4096 ∧ f < c ∧ L.length ≤ c ∧ View cs f L.length L
theorem RQ.le (h : RQ enc te ts w p g c L) : L.length ≤ c := by
  obtain ⟨_, _, _, _, _, _, _, h, _⟩ := h
  exact h
theorem RQ.lt (h : RQ enc te ts w p g c L) : p < w.heap.size ∧ g < w.heap.size := by
  obtain ⟨_, _, h, _⟩ := h
  exact ⟨blk_lt h.1, blk_lt h.2⟩
/-- The ring's blocks are as they were. -/
theorem RQ.same (h : RQ enc te ts w p g c L) {W : World} (h1 : W.heap[p]? = w.heap[p]?) (h2 : W.heap[g]? = w.heap[g]?) : RQ enc te ts W p g c L := by
  obtain ⟨f, cs, h, r⟩ := h
  exact ⟨f, cs, ⟨h1.trans h.1, h2.trans h.2⟩, r⟩
theorem RQ.below (h : RQ enc te ts w p g c L) {W : World} (hb : Below w.heap.size w W) : RQ enc te ts W p g c L := h.same (hb.block p h.lt.1) (hb.block g h.lt.2)
theorem RQ.kept (h : RQ enc te ts w p g c L) {W : World} {S : Nat → Prop} (hk : Kept w W S) (h1 : ¬ S p) (h2 : ¬ S g) : RQ enc te ts W p g c L := h.same (hk.2 p h.lt.1 h1) (hk.2 g h.lt.2 h2)
/-- What a call of a ring's leaves: the ring with the list L, and all else as it was. -/
def LQ (enc : α → Value) (te ts : Nat) (w w' : World) (p g c : Nat) (L : List α) : Prop := RQ enc te ts w' p g c L ∧ Kept w w' (Own p g) ∧ ∀ B, B ≤ p → B ≤ g → Below B w w'
theorem LQ.refl (h : RQ enc te ts w p g c L) : LQ enc te ts w w p g c L := ⟨h, Kept.refl _ _, fun B _ _ => Below.refl B w⟩
theorem LQ.trans {W W2 : World} {L' L2 : List α} (h : LQ enc te ts w W p g c L') (k : LQ enc te ts W W2 p g c L2) : LQ enc te ts w W2 p g c L2 :=
  ⟨k.1, h.2.1.then_ k.2.1 (fun _ x => .inl x), fun B h1 h2 => (h.2.2 B h1 h2).trans (k.2.2 B h1 h2)⟩
theorem LQ.drewN {W : World} (h : LQ enc te ts w W p g c L) (k : Nat) : LQ enc te ts w (W.drewN k) p g c L := ⟨h.1, h.2.1.drewN k, fun B h1 h2 => pw_below_drewN (h.2.2 B h1 h2) k⟩
theorem LQ.below {W W2 : World} (h : LQ enc te ts w W p g c L) (hb : Below W.heap.size W W2) : LQ enc te ts w W2 p g c L :=
  ⟨h.1.below hb, h.2.1.below hb, fun B h1 h2 => (h.2.2 B h1 h2).trans (hb.mono (by have := h.1.lt; omega))⟩
theorem LQ.of {W : World} {f n : Nat} {cs : List α} (h : Left enc te ts w W p g f n cs) (hL : L.length = n) (hc : cs.length = c) (h1 : 1 ≤ c) (h2 : c ≤ 4096) (h3 : f < c) (h4 : n ≤ c) (hv : View cs f n L) : LQ enc te ts w W p g c L := by
  subst hL
  exact ⟨⟨f, cs, h.1, hc, h1, h2, h3, h4, hv⟩, h.2.1, h.2.2⟩
end
/-- A slice of the call's own: its shape, and its cells (one an element). -/
theorem own_shape {α : Type} {enc : α → Value} {w : World} {base : Nat} {e : TypeId} {v : Value} {L : List α} (h : w.ownsRow base e 1 v L.length (L.map enc)) :
    ∃ A cap, v = .slice A L.length cap ∧ (0 < L.length → ∃ g, A = some ⟨g, 0, none⟩ ∧ base ≤ g ∧ g < w.heap.size ∧ (∀ i, w.frozen? ⟨g, i, none⟩ = false) ∧ ∀ i x, L[i]? = some x → w.cell? ⟨g, i, none⟩ = some (enc x)) := by
  obtain ⟨h1, h2⟩ := h
  rcases h2 with ⟨rfl, h2⟩ | ⟨g, cap, cur, rfl, hg, hh, h3, h4, h5, h6⟩
  · exact ⟨none, 0, by rw [h2], fun hp => by omega⟩
  · refine ⟨_, cap, rfl, fun _ => ⟨g, rfl, hg, blk_lt hh, fun i => blk_frozen hh i, fun i x hx => ?_⟩⟩
    have hi : i < L.length := (List.getElem?_eq_some_iff.1 hx).1
    have h7 : (L.map enc)[i]? = some (enc x) := by rw [List.getElem?_map, hx]; rfl
    rw [← h6, List.getElem?_take, if_pos (by omega)] at h7
    rw [blk_cell hh i, ← h7]; simp
/-- The last n of the first i. -/
def lastN {α : Type} (n i : Nat) (l : List α) : List α := (l.take i).drop (i - n)
theorem lastN_len {α : Type} {n i : Nat} {l : List α} (hi : i ≤ l.length) : (lastN n i l).length = if i < n then i else n := by
  unfold lastN
  rw [List.length_drop, List.length_take]; split <;> omega
theorem lastN_room {α : Type} {n i : Nat} {l : List α} {x : α} (hx : l[i]? = some x) (h : i < n) : lastN n i l ++ [x] = lastN n (i + 1) l := by
  unfold lastN
  rw [List.take_add_one, hx, show i + 1 - n = 0 by omega, show i - n = 0 by omega]; simp
theorem lastN_full {α : Type} {n i : Nat} {l : List α} {x : α} (hx : l[i]? = some x) (h : n ≤ i) (hn : 1 ≤ n) : (lastN n i l).tail ++ [x] = lastN n (i + 1) l := by
  have hi : i < l.length := (List.getElem?_eq_some_iff.1 hx).1
  unfold lastN
  rw [List.take_add_one, hx, List.tail_drop, show i + 1 - n = i - n + 1 by omega, Option.toList_some, List.drop_append_of_le_length (by rw [List.length_take]; omega)]
theorem lastN_get {α : Type} {n i j : Nat} {l : List α} : (lastN n i l)[j]? = if i - n + j < i then l[i - n + j]? else none := by
  unfold lastN
  rw [List.getElem?_drop, List.getElem?_take]
end Go.Proofs.Ytbcpfbmoednghaa.Ring
