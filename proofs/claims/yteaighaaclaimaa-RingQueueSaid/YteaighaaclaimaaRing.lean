import Derived.Test.YteaighaaclaimaaProg
import Derived.Below
import Derived.Deep.Draws
import Derived.Deep.AppendLies
import Derived.OwnWalk
import Derived.Laws.MakeOwn
import Derived.Laws.OwnMore
import Derived.Deep.OwnRows
import Derived.Tactics
import Derived.Laws.Slices
import Derived.WalkKit
import Derived.KernelRfl
import Derived.RowKit3
import Derived.Deep.LoopGhost
import Derived.Deep.QuietTactic
import Derived.BigQuiet
import Derived.Deep.DeepCutAuto
import Derived.Deep.CutBlock
import Derived.Deep.RegionHeld3
import Derived.Deep.RegionLaw
import Derived.Laws.Rows
import Derived.ArgAppend
import Derived.RowKit
import Derived.IntWalk
import Derived.WalkSpells
import Derived.Lib.Hide
import Derived.StillTailTactics
import Derived.Test.YteaighaaclaimaaWMore
namespace Go.Proofs.Yteaighaaclaimaa.Ring
open Go.RowKit Go.Proofs.YteaighaaclaimaaW.PrintWords Go.Proofs.YteaighaaclaimaaW.PrintLast Go.Proofs.YteaighaaclaimaaW.PrintMore

/-- A ring at block p, its places in block g: the slice's cells cs, the first, how many. -/
def RS {α : Type} (enc : α → Value) (te ts : Nat) (w : World) (p g f n : Nat) (cs : List α) : Prop :=
  w.heap[p]? = some (.cells #[.slice (some ⟨g, 0, none⟩) cs.length cs.length, .int .i64 (f : Int), .int .i64 (n : Int)] ts (0, 0)) ∧ w.heap[g]? = some (.cells (cs.map enc).toArray te (0, 0))
theorem wadd {a b : Nat} (h : a + b ≤ 1000000) : IntKind.i64.wrap ((a : Int) + (b : Int)) = ((a + b : Nat) : Int) := by
  rw [IntWalk.i64_in _ (by omega)]; omega
theorem modn {a c : Nat} : (((a : Nat) : Int)).tmod (c : Int) = ((a % c : Nat) : Int) := (Int.ofNat_tmod a c).symm

/-- What a ring's call keeps: all but the ring's two blocks. -/
def Own (p g : Nat) (k : Nat) : Prop := k = p ∨ k = g

section
variable {α : Type} {enc : α → Value} {te ts : Nat} {w : World} {p g f n : Nat} {cs : List α}
theorem map_set (cs : List α) (q : Nat) (x : α) : ((cs.map enc).toArray.setIfInBounds q (enc x)) = ((cs.set q x).map enc).toArray := by
  apply Array.ext'
  simp [List.map_set]
theorem RS.row (h : RS enc te ts w p g f n cs) (hne : p ≠ g) (q : Nat) (x : α) : RS enc te ts (w.setCell ⟨g, q, none⟩ (enc x)) p g f n (cs.set q x) := by
  refine ⟨?_, ?_⟩
  · rw [List.length_set]; exact blk_far h.1 hne _
  · rw [← map_set]; exact blk_set h.2 q _
theorem RS.cnt (h : RS enc te ts w p g f n cs) (hne : p ≠ g) (m : Nat) : RS enc te ts (w.setCell ⟨p, 2, none⟩ (.int .i64 (m : Int))) p g f m cs :=
  ⟨blk_put h.1 2 _ rfl, blk_far h.2 (Ne.symm hne) _⟩
theorem RS.fst (h : RS enc te ts w p g f n cs) (hne : p ≠ g) (m : Nat) : RS enc te ts (w.setCell ⟨p, 1, none⟩ (.int .i64 (m : Int))) p g m n cs :=
  ⟨blk_put h.1 1 _ rfl, blk_far h.2 (Ne.symm hne) _⟩
theorem RS.made (w : World) (c : Nat) (z : α) : RS enc te ts ((w.alloc (.cells (madeCells #[enc z] c) te)).alloc (.cells #[.slice (some ⟨w.heap.size, 0, none⟩) c c, .int .i64 0, .int .i64 0] ts)) (w.heap.size + 1) w.heap.size 0 0 (List.replicate c z) := by
  have e : ((List.replicate c z).map enc).toArray = madeCells #[enc z] c := by
    apply Array.ext'
    rw [toList_madeCells_one]; simp
  refine ⟨?_, ?_⟩
  · have := blk_new (w.alloc (.cells (madeCells #[enc z] c) te)) (.cells #[.slice (some ⟨w.heap.size, 0, none⟩) c c, .int .i64 0, .int .i64 0] ts)
    rw [show (w.alloc (.cells (madeCells #[enc z] c) te)).heap.size = w.heap.size + 1 by simp] at this
    rw [this, List.length_replicate]; rfl
  · rw [e]; exact blk_alloc (blk_new w _) _
/-- What a call of a ring's leaves: the ring, and all else as it was. -/
def Left (enc : α → Value) (te ts : Nat) (w w' : World) (p g f n : Nat) (cs : List α) : Prop := RS enc te ts w' p g f n cs ∧ Kept w w' (Own p g) ∧ ∀ B, B ≤ p → B ≤ g → Below B w w'
theorem Left.refl (h : RS enc te ts w p g f n cs) : Left enc te ts w w p g f n cs := ⟨h, Kept.refl _ _, fun B _ _ => Below.refl B w⟩
theorem Left.trans {W W2 : World} {f' n' f2 n2 : Nat} {cs' cs2 : List α} (h : Left enc te ts w W p g f' n' cs') (k : Left enc te ts W W2 p g f2 n2 cs2) : Left enc te ts w W2 p g f2 n2 cs2 :=
  ⟨k.1, h.2.1.then_ k.2.1 (fun _ x => .inl x), fun B h1 h2 => (h.2.2 B h1 h2).trans (k.2.2 B h1 h2)⟩
theorem Left.drewN {W : World} (h : Left enc te ts w W p g f n cs) (k : Nat) : Left enc te ts w (W.drewN k) p g f n cs := ⟨h.1, h.2.1.drewN k, fun B h1 h2 => pw_below_drewN (h.2.2 B h1 h2) k⟩
theorem Left.row {W : World} (h : Left enc te ts w W p g f n cs) (hne : p ≠ g) (q : Nat) (x : α) : Left enc te ts w (W.setCell ⟨g, q, none⟩ (enc x)) p g f n (cs.set q x) :=
  ⟨h.1.row hne q x, h.2.1.setCell (.inl (.inr rfl)) _, fun B h1 h2 => (h.2.2 B h1 h2).setCell h2 _⟩
theorem Left.cnt {W : World} (h : Left enc te ts w W p g f n cs) (hne : p ≠ g) (m : Nat) : Left enc te ts w (W.setCell ⟨p, 2, none⟩ (.int .i64 (m : Int))) p g f m cs :=
  ⟨h.1.cnt hne m, h.2.1.setCell (.inl (.inl rfl)) _, fun B h1 h2 => (h.2.2 B h1 h2).setCell h1 _⟩
theorem Left.fst {W : World} (h : Left enc te ts w W p g f n cs) (hne : p ≠ g) (m : Nat) : Left enc te ts w (W.setCell ⟨p, 1, none⟩ (.int .i64 (m : Int))) p g m n cs :=
  ⟨h.1.fst hne m, h.2.1.setCell (.inl (.inl rfl)) _, fun B h1 h2 => (h.2.2 B h1 h2).setCell h1 _⟩
end
/-- The list that the ring's places hold. -/
def View {α : Type} (cs : List α) (f n : Nat) (L : List α) : Prop := L.length = n ∧ ∀ i, i < n → cs[(f + i) % cs.length]? = L[i]?
end Go.Proofs.Yteaighaaclaimaa.Ring
