/- A struct inside a struct: loads and stores in the middle of a block. -/
import Derived.Test.YtpjehbcchanmhaaPCx0
import Derived.Lib.Hide
import Derived.Laws.CopyOwn
import Derived.Laws.Tables
import Derived.Deep.MidRow
import Derived.Laws.ResultCell
namespace Go.Proofs.Ytpjehbcchanmhaa.PC
open Go.RowKit Go.Proofs.YtpjehbcchanmhaaW.PrintWords Go.Proofs.YtpjehbcchanmhaaW.PrintLast Go.Proofs.YtpjehbcchanmhaaW.PrintMore
set_option linter.unusedVariables false
set_option linter.unusedSimpArgs false
theorem ld_any {w : World} {g n : Nat} {T' : TypeId} {A : Array Value} (hg : w.heap[g]? = some (.cells A T' (0, 0))) (hA : A.size = n) :
    (loadCellsFrom ⟨g, 0, none⟩ 0 n #[]).run Try.prog w = .ok A w := by
  subst hA
  have := run_loadCells_list (P := Try.prog) w ⟨g, 0, none⟩ A.toList (fun j v hv => by
    rw [Addr.add_mid, Nat.zero_add, blk_cell hg]; simpa using hv)
  simpa [loadCells] using this
theorem wpl_ld {ops : Array Oper} {rest : List Oper} {o : Oper} {a : Act} {w : World} {Q : Exit → Act → World → Prop} (T : TypeId) (x : Operand) (ho : o.op = .load T x) (hw : Region.wanted o (yielded ops a.tmps) = true) (g : Nat) (hx : a.eval x = .pointer (some ⟨g, 0, none⟩)) {A : Array Value} {T' : TypeId} {n : Nat} {d : TypeDesc}
    (hg : w.heap[g]? = some (.cells A T' (0, 0))) (hu : Try.prog.underlying T = some d) (hd : d.isRow = true) (hi : (Try.prog.info? T).map (·.size) = some n) (hA : A.size = n) (h : wpList Try.prog ops Q rest (a.put o.dst (.agg A)) w) : wpList Try.prog ops Q (o :: rest) a w := by
  unfold wpList
  rw [if_pos hw]
  refine Or.inl (wp_load_mid T x ho g 0 hx A.toList d (fun j v hv => by rw [Nat.zero_add, blk_cell hg]; simpa using hv) hu hd (by rw [hi, ← hA]; simp) ?_)
  simpa using h
theorem st_any {w : World} {g n : Nat} {T' : TypeId} {A B : Array Value} (hg : w.heap[g]? = some (.cells A T' (0, 0))) (hA : A.size = n) (hB : B.size = n) (h1 : B.all (·.oneCell') = true) :
    ∃ W, (storeCells ⟨g, 0, none⟩ B.toList).run Try.prog w = .ok () W ∧ W.heap[g]? = some (.cells B T' (0, 0)) ∧ (∀ k, k ≠ g → W.heap[k]? = w.heap[k]?) ∧ ∀ b a, b ≤ g → Below b a w → Below b a W := by
  refine ⟨w.setRow g B, ?_, setRow_heap w g A B T' (0, 0) hg, fun k hk => setRow_other w g k B hk, fun b a hb h => below_setRow h hb B⟩
  have := run_storeCells_from (P := Try.prog) g T' B.toList 0 A w hg (by simp; omega) (fun v hv => (Array.all_eq_true_iff_forall_mem.1 h1) v (by simpa using hv))
  simpa using this
theorem st_new {w : World} {X n : Nat} {T : TypeId} {Z B : Array Value} (hX : w.heap.size = X) (hZ : Z.size = n) (hB : B.size = n) (h1 : B.all (·.oneCell') = true) :
    ∃ W, (storeCells ⟨X, 0, none⟩ B.toList).run Try.prog (w.alloc (.cells Z T)) = .ok () W ∧ W.heap[X]? = some (.cells B T (0, 0)) ∧ (∀ k, k < X → W.heap[k]? = w.heap[k]?) ∧ ∀ b a, b ≤ X → Below b a w → Below b a W := by
  subst hX
  have hn := blk_new w (.cells Z T)
  obtain ⟨W, h1', h2, h3, h4⟩ := st_any hn hZ hB h1
  exact ⟨W, h1', h2, fun k hk => (h3 k (by omega)).trans (Below.heap_alloc w _ k hk), fun b a hb h => h4 b a hb (h.alloc hb _)⟩
theorem sz_le {a b c : Nat} (h : a = b) (k : a ≤ c) : b ≤ c := h ▸ k
theorem box_new {w : World} {X : Nat} {T : TypeId} {B : Array Value} (hX : w.heap.size = X) : (w.alloc (.cells B T)).heap[X]? = some (.cells B T (0, 0)) ∧ (∀ k, k < X → (w.alloc (.cells B T)).heap[k]? = w.heap[k]?) := by
  subst hX
  exact ⟨blk_new w _, fun k hk => Below.heap_alloc w _ k hk⟩
theorem wpl_ldm {ops : Array Oper} {rest : List Oper} {o : Oper} {a : Act} {w : World} {Q : Exit → Act → World → Prop} (T : TypeId) (x : Operand) (ho : o.op = .load T x) (hw : Region.wanted o (yielded ops a.tmps) = true) (g f : Nat) (hx : a.eval x = .pointer (some ⟨g, f, none⟩)) {P A : Array Value} {T' : TypeId} {n : Nat} {d : TypeDesc}
    (hg : w.heap[g]? = some (.cells (P ++ A) T' (0, 0))) (hP : P.size = f) (hu : Try.prog.underlying T = some d) (hd : d.isRow = true) (hi : (Try.prog.info? T).map (·.size) = some n) (hA : A.size = n) (h : wpList Try.prog ops Q rest (a.put o.dst (.agg A)) w) : wpList Try.prog ops Q (o :: rest) a w := by
  unfold wpList
  rw [if_pos hw]
  refine Or.inl (wp_load_mid T x ho g f hx A.toList d (fun j v hv => by
    rw [blk_cell hg, ← hP, Array.getElem?_append_right (by omega)]
    simpa using hv) hu hd (by rw [hi, ← hA]; simp) ?_)
  simpa using h
theorem setCells_row {g : Nat} {T' : TypeId} : ∀ (l : List Value) (o : Nat) (w : World) (A : Array Value), w.heap[g]? = some (.cells A T' (0, 0)) → o + l.length ≤ A.size → ∃ C : Array Value, (w.setCells g o l).heap[g]? = some (.cells C T' (0, 0)) ∧ C.size = A.size ∧ ∀ i, C[i]? = if o ≤ i ∧ i < o + l.length then l[i - o]? else A[i]? := by
  intro l
  induction l with
  | nil => intro o w A h _; exact ⟨A, h, rfl, fun i => by rw [if_neg (by simp)]⟩
  | cons v r ih =>
    intro o w A h hl
    rw [List.length_cons] at hl
    obtain ⟨C, c1, c2, c3⟩ := ih (o + 1) (w.setCell ⟨g, o, none⟩ v) (A.setIfInBounds o v) (blk_set h o v) (by simp; omega)
    refine ⟨C, c1, by rw [c2]; simp, fun i => ?_⟩
    rw [c3 i, List.length_cons]
    by_cases h1 : o + 1 ≤ i ∧ i < o + 1 + r.length
    · rw [if_pos h1, if_pos (by omega), show i - o = (i - (o + 1)) + 1 by omega, List.getElem?_cons_succ]
    · rw [if_neg h1]
      by_cases h2 : i = o
      · subst h2; rw [if_pos (by omega), Nat.sub_self, Array.getElem?_setIfInBounds_self_of_lt (by omega)]; rfl
      · rw [if_neg (by omega), Array.getElem?_setIfInBounds_ne (by omega)]
theorem setCells_far {g : Nat} : ∀ (l : List Value) (o : Nat) (w : World) (k : Nat), k ≠ g → (w.setCells g o l).heap[k]? = w.heap[k]? := by
  intro l
  induction l with
  | nil => intro o w k _; rfl
  | cons v r ih => intro o w k hk; exact (ih _ _ k hk).trans (Below.heap_setCell w ⟨g, o, none⟩ v k hk)
theorem setCells_below {g b : Nat} {a : World} (hb : b ≤ g) : ∀ (l : List Value) (o : Nat) (w : World), Below b a w → Below b a (w.setCells g o l) := by
  intro l
  induction l with
  | nil => intro o w h; exact h
  | cons v r ih => intro o w h; exact ih _ _ (h.setCell (p := ⟨g, o, none⟩) hb v)
theorem st_mid {w : World} {g f n : Nat} {T' : TypeId} {P A B : Array Value} (hg : w.heap[g]? = some (.cells (P ++ A) T' (0, 0))) (hP : P.size = f) (hA : A.size = n) (hB : B.size = n) (h1 : B.all (·.oneCell') = true) :
    ∃ W, (storeCells ⟨g, f, none⟩ B.toList).run Try.prog w = .ok () W ∧ W.heap[g]? = some (.cells (P ++ B) T' (0, 0)) ∧ (∀ k, k ≠ g → W.heap[k]? = w.heap[k]?) ∧ ∀ b a, b ≤ g → Below b a w → Below b a W := by
  have hsz : f + n ≤ (P ++ A).size := by simp; omega
  refine ⟨w.setCells g f B.toList, ?_, ?_, fun k hk => setCells_far _ _ _ k hk, fun b a hb h => setCells_below hb _ _ _ h⟩
  · have := run_storeCells_cells (P := Try.prog) g f B.toList 0 w (fun j hj => by
      rw [Nat.add_zero, blk_cell hg]
      have : f + j < (P ++ A).size := by simp at hj; omega
      rw [Array.getElem?_eq_getElem this]; rfl) (fun j hj => by rw [Nat.add_zero]; exact blk_frozen hg _) (fun v hv => (Array.all_eq_true_iff_forall_mem.1 h1) v (by simpa using hv))
    simpa using this
  · obtain ⟨C, c1, c2, c3⟩ := setCells_row B.toList f w (P ++ A) hg (by simp; omega)
    rw [c1]
    have : C = P ++ B := by
      apply Array.ext (by rw [c2]; simp; omega)
      intro i h1 h2
      have e := c3 i
      rw [Array.getElem?_eq_getElem h1] at e
      by_cases k : i < f
      · rw [if_neg (by omega), Array.getElem?_append_left (by omega)] at e
        rw [Array.getElem_append_left (by omega)]
        have : P[i]? = some P[i] := Array.getElem?_eq_getElem (by omega)
        rw [this] at e
        exact Option.some.inj e
      · have hi2 : i < f + n := by rw [c2] at h1; simp at h1; omega
        rw [if_pos ⟨by omega, by simp; omega⟩] at e
        rw [Array.getElem_append_right (by omega)]
        have : B.toList[i - f]? = some (B[i - P.size]'(by omega)) := by rw [List.getElem?_eq_getElem (by simp; omega)]; simp [hP]
        rw [this] at e
        exact Option.some.inj e
    rw [this]
theorem rc2 {fn : Func} {p u : Tmp} {ty : TypeId} {d : TypeDesc} {n : Nat} (h : fn.results = #[.cell p ty, .tmp u]) (tmps : Array Value) (w : World) (g : Nat) {A : Array Value} {T' : TypeId} (hp : tmps.getD p undef = .pointer (some ⟨g, 0, none⟩))
    (hg : w.heap[g]? = some (.cells A T' (0, 0))) (hu : Try.prog.underlying ty = some d) (hd : d.isRow = true) (hi : (Try.prog.info? ty).map (·.size) = some n) (hA : A.size = n) : (results fn tmps).run Try.prog w = .ok (.tuple #[.agg A, tmps.getD u undef]) w := by
  have := run_loadVar_mid (P := Try.prog) w g 0 ty A.toList d (fun j v hv => by rw [Nat.zero_add, blk_cell hg]; simpa using hv) hu hd (by rw [hi, ← hA]; simp)
  rw [results_cell_tmp h, hp]
  simp [asAddr, this, Result.andThen]
end Go.Proofs.Ytpjehbcchanmhaa.PC
