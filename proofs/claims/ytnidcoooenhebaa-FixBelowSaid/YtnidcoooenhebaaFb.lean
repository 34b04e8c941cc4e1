/- What seat 19's walks share. -/
import Derived.Test.YtnidcoooenhebaaSet
import Derived.Test.YtnidcoooenhebaaDem
import Derived.Test.YtnidcoooenhebaaSetArgs
import Derived.Test.YtnidcoooenhebaaPCx4
import Derived.Test.YtnidcoooenhebaaPCx7
import Derived.Test.YtnidcoooenhebaaPCm
import Derived.Lib.Hide
import Derived.Laws.CopyOwn
import Derived.Laws.Tables
import Derived.Deep.MidRow
import Derived.Laws.ResultCell
import Derived.Laws.StructEq
namespace Go.Proofs.Ytnidcoooenhebaa.PS
open Go.RowKit Go.Proofs.Ytnidcoooenhebaa.PC Go.Proofs.YtnidcoooenhebaaW.PrintWords Go.Proofs.YtnidcoooenhebaaW.PrintLast Go.Proofs.YtnidcoooenhebaaW.PrintMore
attribute [local go_sem] max2_int min2_int max_two min_two max_three min_three max_four min_four   -- for this text's walks alone
set_option linter.unusedVariables false
set_option linter.unusedSimpArgs false
theorem ld_any {w : World} {g n : Nat} {T' : TypeId} {A : Array Value} (hg : w.heap[g]? = some (.cells A T' (0, 0))) (hA : A.size = n) :
    (loadCellsFrom ⟨g, 0, none⟩ 0 n #[]).run Try.prog w = .ok A w := by
  subst hA
  have := run_loadCells_list (P := Try.prog) w ⟨g, 0, none⟩ A.toList (fun j v hv => by
    rw [Addr.add_mid, Nat.zero_add, blk_cell hg]; simpa using hv)
  simpa [loadCells] using this
theorem wpl_ld {ops : Array Oper} {rest : List Oper} {o : Oper} {a : Act} {w : World} {Q : Exit → Act → World → Prop} (T : TypeId) (x : Operand) (ho : o.op = .load T x) (hw : Region.wanted o (yielded ops a.tmps) = true) (g : Nat) (hx : a.eval x = .pointer (some ⟨g, 0, none⟩)) {A : Array Value} {T' : TypeId} {n : Nat} {d : TypeDesc}
    (hg : w.heap[g]? = some (.cells A T' (0, 0))) (hu : Try.prog.underlying T = some d) (hd : d.isRow = true) (hi : (Try.prog.info? T).map (·.size) = some n) (hA : A.size = n) (h : wpList Try.prog ops Q rest (a.put o.dst (.agg A)) w) : wpList Try.prog ops Q (o :: rest) a w := by
  unfold wpList
  rw [if_pos hw]
  refine Or.inl (wp_load_mid T x ho g 0 hx A.toList d (fun j v hv => by rw [Nat.zero_add, blk_cell hg]; simpa using hv) hu hd (by rw [hi, ← hA]; simp) ?_)
  simpa using h
theorem st_any {w : World} {g n : Nat} {T' : TypeId} {A B : Array Value} (hg : w.heap[g]? = some (.cells A T' (0, 0))) (hA : A.size = n) (hB : B.size = n) (h1 : B.all (·.oneCell') = true) :
    ∃ W, (storeCells ⟨g, 0, none⟩ B.toList).run Try.prog w = .ok () W ∧ W.heap[g]? = some (.cells B T' (0, 0)) ∧ (∀ k, k ≠ g → W.heap[k]? = w.heap[k]?) ∧ ∀ b a, b ≤ g → Below b a w → Below b a W := by
  refine ⟨w.setRow g B, ?_, setRow_heap w g A B T' (0, 0) hg, fun k hk => setRow_other w g k B hk, fun b a hb h => below_setRow h hb B⟩
  have := run_storeCells_from (P := Try.prog) g T' B.toList 0 A w hg (by simp; omega) (fun v hv => (Array.all_eq_true_iff_forall_mem.1 h1) v (by simpa using hv))
  simpa using this
theorem st_new {w : World} {X n : Nat} {T : TypeId} {Z B : Array Value} (hX : w.heap.size = X) (hZ : Z.size = n) (hB : B.size = n) (h1 : B.all (·.oneCell') = true) :
    ∃ W, (storeCells ⟨X, 0, none⟩ B.toList).run Try.prog (w.alloc (.cells Z T)) = .ok () W ∧ W.heap[X]? = some (.cells B T (0, 0)) ∧ (∀ k, k < X → W.heap[k]? = w.heap[k]?) ∧ ∀ b a, b ≤ X → Below b a w → Below b a W := by
  subst hX
  have hn := blk_new w (.cells Z T)
  obtain ⟨W, h1', h2, h3, h4⟩ := st_any hn hZ hB h1
  exact ⟨W, h1', h2, fun k hk => (h3 k (by omega)).trans (Below.heap_alloc w _ k hk), fun b a hb h => h4 b a hb (h.alloc hb _)⟩
theorem sz_le {a b c : Nat} (h : a = b) (k : a ≤ c) : b ≤ c := h ▸ k
theorem box_new {w : World} {X : Nat} {T : TypeId} {B : Array Value} (hX : w.heap.size = X) : (w.alloc (.cells B T)).heap[X]? = some (.cells B T (0, 0)) ∧ (∀ k, k < X → (w.alloc (.cells B T)).heap[k]? = w.heap[k]?) := by
  subst hX
  exact ⟨blk_new w _, fun k hk => Below.heap_alloc w _ k hk⟩
theorem wpl_gate {P : Program} {ops : Array Oper} {Q : Exit → Act → World → Prop} {o : Oper} {rest : List Oper} {a : Act} {w : World} {T : TypeId} {x : Operand} (_ho : o.op = .load T x) (h : wpList P ops Q (o :: rest) a w) : wpList P ops Q (o :: rest) a w := h
theorem wpl_gateb {P : Program} {ops : Array Oper} {Q : Exit → Act → World → Prop} {o : Oper} {rest : List Oper} {a : Act} {w : World} {T : TypeId} {x : Array (Nat × Operand)} (_ho : o.op = .build T x) (h : wpList P ops Q (o :: rest) a w) : wpList P ops Q (o :: rest) a w := h
theorem ld_op {o : Oper} {a : Act} {w : World} (T : TypeId) (x : Operand) (ho : o.op = .load T x) (g : Nat) (hx : a.eval x = .pointer (some ⟨g, 0, none⟩)) {A : Array Value} {T' : TypeId} {n : Nat} {d : TypeDesc}
    (hg : w.heap[g]? = some (.cells A T' (0, 0))) (hu : Try.prog.underlying T = some d) (hd : d.isRow = true) (hi : (Try.prog.info? T).map (·.size) = some n) (hA : A.size = n) : (execOp a.eval o).run Try.prog w = .ok (.value (.agg A)) w := by
  have := run_loadVar_mid (P := Try.prog) w g 0 T A.toList d (fun j v hv => by rw [Nat.zero_add, blk_cell hg]; simpa using hv) hu hd (by rw [hi, ← hA]; simp)
  unfold execOp
  simp only [ho, hx, Instr.loadAt, Instr.sureAddr, Sem.run_bind, Sem.run_pure, Result.andThen_ok, this]
theorem wpl_ldr {ops : Array Oper} {rest : List Oper} {o : Oper} {a : Act} {w : World} {Q : Exit → Act → World → Prop} (T : TypeId) (x : Operand) (ho : o.op = .load T x) (hw : Region.wanted o (yielded ops a.tmps) = true) (p : Addr) (hx : a.eval x = .pointer (some p)) {A : Array Value} {n : Nat} {d : TypeDesc}
    (hg : ∀ (j : Nat) (v : Value), A.toList[j]? = some v → w.cell? (p.add j) = some v) (hu : Try.prog.underlying T = some d) (hd : d.isRow = true) (hi : (Try.prog.info? T).map (·.size) = some n) (hA : A.size = n) (h : wpList Try.prog ops Q rest (a.put o.dst (.agg A)) w) : wpList Try.prog ops Q (o :: rest) a w := by
  have hl : (loadCells p A.toList.length).run Try.prog w = .ok A.toList.toArray w := run_loadCells_list (P := Try.prog) w p A.toList hg
  have hv : (loadVar T p).run Try.prog w = .ok (.agg A) w := by
    cases hq : Try.prog.info? T with
    | none => simp [hq] at hi
    | some i =>
      have hs : i.size = A.toList.length := by simpa [hq, hA] using hi
      have hagg : (isAgg T).run Try.prog w = .ok true w := by
        unfold isAgg
        rw [Sem.run_bind, run_underlying hu w]
        cases d <;> simp_all
      rw [← hs] at hl
      simp only [loadVar, Sem.run_bind, hagg, Result.andThen_ok, if_true, sizeOf, typeInfo, hq, hl, Sem.run_pure]
      simp [hq, hl]
  unfold wpList
  rw [if_pos hw]
  refine Or.inl ?_
  unfold Oper.wp execOp
  simp only [ho, hx, Instr.loadAt, Instr.sureAddr, Sem.run_bind, Sem.run_pure, Result.andThen_ok, hv]
  exact h
/-- A task's cells. -/
def TA (t : S39) : Array Value := #[.string t.f0, .int .i64 t.f1, .int .i64 t.f2, .int .i64 t.f3, .int .i64 t.f4, .int .i64 t.f5, .int .i64 t.f6, .int .i64 t.f7, .int .i64 t.f8, .int .i64 t.f9, .int .i64 t.f10]
theorem TA_one (t : S39) : (TA t).all (·.oneCell') = true := by unfold TA; simp [Value.oneCell']
theorem row_at {W : World} {A : Option Addr} {l : List S39} (hC : Kd.C k39 W A l.length l) {i : Int} (h0 : 0 ≤ i) (h1 : i < (l.length : Int)) : ∃ ad, A = some ad ∧ ∀ (j : Nat) (v : Value), (TA (rd_T39 l i)).toList[j]? = some v → W.cell? ((ad.add (i.toNat * 11)).add j) = some v := by
  obtain ⟨ad, c, e, _, hK, hc⟩ := Kd.C_get hC z39 i h0 h1
  refine ⟨ad, e, fun j v hv => ?_⟩
  obtain rfl := k39_open hK
  rw [Addr.add_add]
  exact hc j v hv
theorem row_c {w W : World} {ad : Addr} {l : List S39} {B0 : Nat} (hC : Kd.C k39 w (some ad) l.length l) (h0 : w.heap.size = B0) (hW : Below B0 w W) {i : Int} (hi : 0 ≤ i) (hi1 : i < (l.length : Int)) {j : Nat} {v : Value} (hv : (TA (rd_T39 l i)).toList[j]? = some v) : W.cell? ((ad.add (i.toNat * 11)).add j) = some v := by
  subst h0
  obtain ⟨ad', e, h⟩ := row_at (Kd.C_below hC hW) hi hi1
  injection e with e
  subst e
  exact h j v hv
theorem row_a {W w : World} {ad : Addr} {l : List S39} {B0 : Nat} (hC : Kd.C k39 w (some ad) l.length l) (h0 : w.heap.size = B0) (hW : Below B0 w W) {i : Int} (hi : 0 ≤ i) (hi1 : i < (l.length : Int)) (A : Array Value) (hA : A = TA (rd_T39 l i)) : ∀ (j : Nat) (v : Value), A.toList[j]? = some v → W.cell? ((ad.add (i.toNat * 11)).add j) = some v := fun j v hv => row_c hC h0 hW hi hi1 (by rw [← hA]; exact hv)
theorem below_to {B0 : Nat} {w W : World} (h0 : w.heap.size = B0) (h : Below B0 w W) : Below w.heap.size w W := h0 ▸ h
theorem extra_c {t : S39} (ok : OkT t) (W : World) (A : Array Value) (hA : A = TA t) (x : Int) (hx : x = ex t) : Calls Try.prog 30 #[.agg A] W fun e w' => e = .returned (.int .i64 x) ∧ Below W.heap.size W w' := by
  subst hA hx
  exact demand_Extra.calls _ _ _ _ _ _ _ _ _ _ _ _ W (extra_eq ok)
theorem rextra_eq {t : S39} (ok : OkT t) : pendulumref14_Extra.f t.f0 t.f1 t.f2 t.f3 t.f4 t.f5 t.f6 t.f7 t.f8 t.f9 t.f10 = some (ex t) := by
  have hn := ok.nums
  unfold pendulumref14_Extra.f ex
  by_cases c : t.f9 = 1
  · have := ok.seg c; simp only [if_pos c]; rw [w64 (by omega) (by omega)]
  · have := ok.alt c; simp only [if_neg c]; rw [w64 (by omega) (by omega)]
theorem rextra_c {t : S39} (ok : OkT t) (W : World) (A : Array Value) (hA : A = TA t) (x : Int) (hx : x = ex t) : Calls Try.prog 31 #[.agg A] W fun e w' => e = .returned (.int .i64 x) ∧ Below W.heap.size W w' := by
  subst hA hx
  exact pendulumref14_Extra.calls _ _ _ _ _ _ _ _ _ _ _ _ W (rextra_eq ok)
/-- The greatest cost of those that f takes. -/
def mxs (f : S39 → Bool) : List S39 → Int → Int
  | [], m => m
  | t :: r, m => mxs f r (if f t = true then mx m (ex t) else m)
theorem mxs_snoc (f : S39 → Bool) (t : S39) : ∀ (l : List S39) (m : Int), mxs f (l ++ [t]) m = if f t = true then mx (mxs f l m) (ex t) else mxs f l m := by
  intro l
  induction l with
  | nil => intro m; rfl
  | cons x r ih => intro m; exact ih _
theorem rd_take {l : List S39} {k : Nat} (h : k < l.length) : l.take (k + 1) = l.take k ++ [rd_T39 l k] := by
  rw [List.take_succ_eq_append_getElem h]; simp [rd_T39, List.getD_eq_getElem?_getD, h]
theorem mxs_take (f : S39 → Bool) {l : List S39} {k : Nat} (h : k < l.length) : mxs f (l.take (k + 1)) 0 = if f (rd_T39 l k) = true then mx (mxs f (l.take k) 0) (ex (rd_T39 l k)) else mxs f (l.take k) 0 := by
  rw [rd_take h, mxs_snoc]
def fD (p : Int) (t : S39) : Bool := decide (t.f10 ≤ p) || t.f9 == 3
def fA (p : Int) (t : S39) : Bool := decide (p ≤ t.f10) && t.f9 == 3
end Go.Proofs.Ytnidcoooenhebaa.PS
