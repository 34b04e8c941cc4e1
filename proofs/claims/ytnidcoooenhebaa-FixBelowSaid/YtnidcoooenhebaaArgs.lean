import Derived.Deep.Slices
import Derived.Deep.Fields
import Derived.ChangeSame
import Derived.ProofKit
import Derived.Below
namespace Go.Proofs.Ytnidcoooenhebaa.Args
open Go.ChangeShapes Go.WideShapes Go.Deep Go.RowKit

/-- A slice that came in: for each element its cells. -/
def ArgN {α : Type} (R : List Value → α → Prop) (sz : Nat) (w : World) (A : Option Addr) (l : List α) : Prop :=
  0 < l.length → ∃ b off, A = some ⟨b, off, none⟩ ∧ b < w.heap.size ∧ ∀ i x, l[i]? = some x → ∃ cs, cs.length = sz ∧ R cs x ∧ ∀ j u, cs[j]? = some u → w.cell? ⟨b, off + i * sz + j, none⟩ = some u
section
variable {H : Type} {enc : TypeId × Value → H} {P : Program} {w : World} {held : Bool}
theorem open_arg {α : Type} [Inhabited α] {R : List Value → α → Prop} {sz : Nat} {t e : TypeId} (ht : P.underlying t = some (.slice e)) (hsz : P.cellsOf e = sz) (h0 : 0 < sz)
    (hR : ∀ n cs y, DataW.trod enc P w 0 (fun _ => true) held n e cs = some y → ∃ x, R cs x) {A : Option Addr} {len cap fuel : Nat} {y : DataW H × List MemPlace}
    (h : DataW.trod enc P w 0 (fun _ => true) held fuel t [.slice A len cap] = some y) : ∃ l : List α, l.length = len ∧ len ≤ cap ∧ cap ≤ maxLen ∧ ArgN R sz w A l := by
  rcases open_slice ht h with ⟨hcs, _⟩ | ⟨a, len', cap', m, n, D, Pl, hcs, hb, hl, hm, hmm, _, hx⟩
  · simp at hcs
    obtain ⟨rfl, rfl, rfl⟩ := hcs
    exact ⟨[], rfl, Nat.le_refl _, by unfold maxLen; omega, fun h => absurd h (by simp)⟩
  · simp at hcs
    obtain ⟨rfl, rfl, rfl⟩ := hcs
    rw [if_pos rfl] at hmm
    subst hmm
    rw [hsz] at hx
    have hi : ∀ i, i < len → ∃ p : List Value × α, p.1.length = sz ∧ R p.1 p.2 ∧ ∀ j u, p.1[j]? = some u → w.cell? (a.add (i * sz + j)) = some u := by
      intro i hi
      obtain ⟨cs', h1, h2⟩ := hx i (by omega)
      obtain ⟨_, hcl, hat⟩ := World.cells?_some h1
      obtain ⟨x, hx⟩ := hR _ _ _ h2
      refine ⟨(cs', x), hcl, hx, fun j u hu => ?_⟩
      have hj : j < sz := by rw [← hcl]; exact (List.getElem?_eq_some_iff.1 hu).1
      rw [← Go.Deep.add_add, hat j hj]; exact hu
    obtain ⟨F, hF⟩ := choose_lt hi
    refine ⟨(List.range len).map fun i => (F i).2, by simp, hl, hm, fun hpos => ?_⟩
    have hlen : 0 < len := by simpa using hpos
    obtain ⟨b, off, spot⟩ := a
    obtain ⟨hc0, _, hcell0⟩ := hF 0 hlen
    obtain ⟨u0, hu0⟩ : ∃ u, (F 0).1[0]? = some u := ⟨(F 0).1[0]'(by omega), by simp⟩
    have hc := hcell0 0 u0 hu0
    have hspot : spot = none := by simpa [Addr.add] using World.cell?_spot hc
    subst hspot
    refine ⟨b, off, rfl, by
      have := World.block_lt_of_cell? w _ hc
      simpa [Addr.add] using this, fun i x hix => ?_⟩
    have hil : i < len := by
      have := (List.getElem?_eq_some_iff.1 hix).1
      simpa using this
    have hxe : x = (F i).2 := by
      rw [List.getElem?_map, List.getElem?_range hil] at hix
      simpa using hix.symm
    obtain ⟨g1, g2, g3⟩ := hF i hil
    refine ⟨(F i).1, g1, hxe ▸ g2, fun j u hu => ?_⟩
    have := g3 j u hu
    rwa [Go.WideShapes.add_plain, ← Nat.add_assoc] at this
/-- A struct's cells, each with its own reading. -/
theorem open_cells {t : TypeId} {fs : Array Field} {n : Nat} {cs : List Value} {y : DataW H × List MemPlace} (ht : P.underlying t = some (.struct fs)) (hone : oneCellFields P fs = true) (hC : P.cellsOf t = fs.size)
    (h : DataW.trod enc P w 0 (fun _ => true) held n t cs = some y) : cs.length = fs.size ∧ ∀ (j : Nat) (f : Field), fs[j]? = some f → ∃ v y m, cs[j]? = some v ∧ DataW.trod enc P w 0 (fun _ => true) held m f.type [v] = some y := by
  obtain ⟨ys, n', hn', hy, hlen, hyl, hf⟩ := DataW.trod_struct ht h
  rw [hC] at hlen
  refine ⟨hlen, fun j f hj => ?_⟩
  obtain ⟨ho, hk⟩ := hone_of hone j f hj
  have hjl : j < fs.size := (Array.getElem?_eq_some_iff.1 hj).1
  have h1 := hf j f hj
  rw [ho, hk, List.drop_eq_getElem_cons (by omega)] at h1
  have hys : ys[j]? = some (ys[j]'(by omega)) := List.getElem?_eq_getElem (by omega)
  have h2 : DataW.trod enc P w 0 (fun _ => true) held n' f.type [cs[j]'(by omega)] = ys[j]? := h1
  exact ⟨_, _, n', List.getElem?_eq_getElem (by omega), h2.trans hys⟩
def RInt (k : IntKind) (cs : List Value) (x : Int) : Prop := cs = [.int k x] ∧ (Lit.int k x).wf = true
def RStr (cs : List Value) (x : ByteArray) : Prop := cs = [.string x] ∧ x.size ≤ maxLen
def RBool (cs : List Value) (x : Bool) : Prop := cs = [.bool x]
theorem rInt {e : TypeId} {k : IntKind} (he : P.underlying e = some (.int k)) : ∀ n cs y, DataW.trod enc P w 0 (fun _ => true) held n e cs = some y → ∃ x, RInt k cs x :=
  fun _ _ _ h => by
    obtain ⟨x, h1, _, h2⟩ := DataW.trod_int he h
    exact ⟨x, h1, h2⟩
theorem rStr {e : TypeId} (he : P.underlying e = some .string) : ∀ n cs y, DataW.trod enc P w 0 (fun _ => true) held n e cs = some y → ∃ x, RStr cs x :=
  fun _ _ _ h => by
    obtain ⟨x, h1, _, h2⟩ := DataW.trod_string he h
    exact ⟨x, h1, h2⟩
theorem rBool {e : TypeId} (he : P.underlying e = some .bool) : ∀ n cs y, DataW.trod enc P w 0 (fun _ => true) held n e cs = some y → ∃ x, RBool cs x :=
  fun _ _ _ h => by
    obtain ⟨x, h1, _⟩ := DataW.trod_bool he h
    exact ⟨x, h1⟩
/-- Elements of one cell. -/
def Arg {α : Type} (en : α → Value) (w : World) (A : Option Addr) (l : List α) : Prop := 0 < l.length → ∃ b off, A = some ⟨b, off, none⟩ ∧ b < w.heap.size ∧ ∀ i x, l[i]? = some x → w.cell? ⟨b, off + i, none⟩ = some (en x)
theorem arg_one {α : Type} {R : List Value → α → Prop} {en : α → Value} {A : Option Addr} {l : List α} (hR : ∀ cs x, R cs x → cs = [en x]) (h : ArgN R 1 w A l) : Arg en w A l := fun hp => by
  obtain ⟨b, off, h1, h2, h3⟩ := h hp
  refine ⟨b, off, h1, h2, fun i x hx => ?_⟩
  obtain ⟨cs, _, hr, hc⟩ := h3 i x hx
  have := hc 0 (en x) (by rw [hR cs x hr]; rfl)
  simpa using this
end
theorem bd_u8 {n : Int} (h : (Lit.int .u8 n).wf = true) : 0 ≤ n ∧ n ≤ 255 := by
  simp [Lit.wf, IntKind.min, IntKind.max, IntKind.signed, IntKind.bits] at h
  omega
theorem bd_u16 {n : Int} (h : (Lit.int .u16 n).wf = true) : 0 ≤ n ∧ n ≤ 65535 := by
  simp [Lit.wf, IntKind.min, IntKind.max, IntKind.signed, IntKind.bits] at h
  omega
theorem bd_u32 {n : Int} (h : (Lit.int .u32 n).wf = true) : 0 ≤ n ∧ n ≤ 4294967295 := by
  simp [Lit.wf, IntKind.min, IntKind.max, IntKind.signed, IntKind.bits] at h
  omega
theorem bd_u64 {n : Int} (h : (Lit.int .u64 n).wf = true) : 0 ≤ n ∧ n ≤ 18446744073709551615 := by
  simp [Lit.wf, IntKind.min, IntKind.max, IntKind.signed, IntKind.bits] at h
  omega
theorem bd_i64 {n : Int} (h : (Lit.int .i64 n).wf = true) : -9223372036854775808 ≤ n ∧ n ≤ 9223372036854775807 := by
  simp [Lit.wf, IntKind.min, IntKind.max, IntKind.signed, IntKind.bits] at h
  omega
end Go.Proofs.Ytnidcoooenhebaa.Args
