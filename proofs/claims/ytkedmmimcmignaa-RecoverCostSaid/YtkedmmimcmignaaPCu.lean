/- recover.Urgent (out of the print); many stores into one block. -/
import Derived.Test.YtkedmmimcmignaaPCs
import Derived.Test.YtkedmmimcmignaaPCr
import Derived.Lib.Hide
import Derived.Laws.CopyOwn
import Derived.Laws.Tables
import Derived.Deep.MidRow
namespace Go.Proofs.Ytkedmmimcmignaa.PC
open Go.RowKit Go.Proofs.YtkedmmimcmignaaW.PrintWords Go.Proofs.YtkedmmimcmignaaW.PrintLast Go.Proofs.YtkedmmimcmignaaW.PrintMore
set_option linter.unusedVariables false
set_option linter.unusedSimpArgs false
/-! ### recover_Urgent: function 15 -/
def recover_Urgent.f (a0_0 : ByteArray) (a0_1 : Int) (a0_2 : Int) (a0_3 : Int) (a0_4 : Int) (a0_5 : Int) (a0_6 : Int) (a0_7 : Int) (a0_8 : Int) (a0_9 : Int) (a0_10 : Int) (a0_11 : Int) (a0_12 : Int) (a0_13 : Int) (a0_14 : Bool) (a0_15 : Int) : Option (Bool) := if a0_9 = 3 then (some (a0_12 == 1)) else (some false)
set_option maxHeartbeats 8000000 in
set_option maxRecDepth 100000 in
theorem recover_Urgent.calls (a0_0 : ByteArray) (a0_1 : Int) (a0_2 : Int) (a0_3 : Int) (a0_4 : Int) (a0_5 : Int) (a0_6 : Int) (a0_7 : Int) (a0_8 : Int) (a0_9 : Int) (a0_10 : Int) (a0_11 : Int) (a0_12 : Int) (a0_13 : Int) (a0_14 : Bool) (a0_15 : Int) (r : Bool) (w : World) (h : recover_Urgent.f a0_0 a0_1 a0_2 a0_3 a0_4 a0_5 a0_6 a0_7 a0_8 a0_9 a0_10 a0_11 a0_12 a0_13 a0_14 a0_15 = some r) :
    Calls Try.prog 15 #[.agg #[.string a0_0, .int .i64 a0_1, .int .i64 a0_2, .int .i64 a0_3, .int .i64 a0_4, .int .i64 a0_5, .int .i64 a0_6, .int .i64 a0_7, .int .i64 a0_8, .int .i64 a0_9, .int .i64 a0_10, .int .i64 a0_11, .int .i64 a0_12, .int .i64 a0_13, .bool a0_14, .int .i64 a0_15]] w fun e w' => e = .returned (.bool r) ∧ Below w.heap.size w w' := by
  have hu28 := Try.underlying28
  have HB := Aside0.mk (Below.refl w.heap.size w)
  have H : (if a0_9 = 3 then (some (a0_12 == 1)) else (some false)) = some r := h
  clear h
  by_cases c2 : a0_9 = 3
  · rw [if_pos c2] at H
    have c2b0 : (a0_9 == 3) = true := beq_iff_eq.mpr c2
    have c2b1 : (a0_9 != 3) = false := bne_eq_false_iff_eq.mpr c2
    clear c2
    obtain rfl := Option.some.inj H
    go_enter Try.func15, Try.ntmps15
    go_wp2_with (first | ((with_reducible refine gate_dst (N := 1) rfl ?_); refine box_event ?hg (N := 1) ?hd (cs := #[.string a0_0, .int .i64 a0_1, .int .i64 a0_2, .int .i64 a0_3, .int .i64 a0_4, .int .i64 a0_5, .int .i64 a0_6, .int .i64 a0_7, .int .i64 a0_8, .int .i64 a0_9, .int .i64 a0_10, .int .i64 a0_11, .int .i64 a0_12, .int .i64 a0_13, .bool a0_14, .int .i64 a0_15]) (t := 28) ?hr ?_; (case hd => rfl); (case hg => rfl); (case hr => first | (go_simp; done) | (go_simp; rfl)); intro gb152 hg w3 hbox hb; have n0_ := Aside0.mk (below_step (by repeat (first | (with_reducible first | exact HB.out | apply below_alloc | apply pw_below_drewN | apply below_drew1) | exact HB.out)) hb); have n1_ := Aside0.mk (hbox); have n2_ := Aside0.mk ((by rw [hg]; exact (below_size (by repeat (first | (with_reducible first | exact HB.out | apply below_alloc | apply pw_below_drewN | apply below_drew1) | exact HB.out))) : w.heap.size ≤ gb152)); have n3_ := Aside0.mk ((by rw [hg]; exact (below_size (by repeat (first | (with_reducible first | exact HB.out | apply below_alloc | apply pw_below_drewN | apply below_drew1) | exact HB.out))) : w.heap.size ≤ gb152)); clear HB; have HB := n0_; have BK152 := n1_; have GW152 := n2_; have GE152 := n3_; clear n0_ n1_ n2_ n3_; clear hb hbox hg; have hcz4_0 : w3.cell? ⟨gb152, 0, none⟩ = some (.string a0_0) := (blk_cell BK152.out 0).trans rfl; have hcz4_1 : w3.cell? ⟨gb152, 1, none⟩ = some (.int .i64 a0_1) := (blk_cell BK152.out 1).trans rfl; have hcz4_2 : w3.cell? ⟨gb152, 2, none⟩ = some (.int .i64 a0_2) := (blk_cell BK152.out 2).trans rfl; have hcz4_3 : w3.cell? ⟨gb152, 3, none⟩ = some (.int .i64 a0_3) := (blk_cell BK152.out 3).trans rfl; have hcz4_4 : w3.cell? ⟨gb152, 4, none⟩ = some (.int .i64 a0_4) := (blk_cell BK152.out 4).trans rfl; have hcz4_5 : w3.cell? ⟨gb152, 5, none⟩ = some (.int .i64 a0_5) := (blk_cell BK152.out 5).trans rfl; have hcz4_6 : w3.cell? ⟨gb152, 6, none⟩ = some (.int .i64 a0_6) := (blk_cell BK152.out 6).trans rfl; have hcz4_7 : w3.cell? ⟨gb152, 7, none⟩ = some (.int .i64 a0_7) := (blk_cell BK152.out 7).trans rfl; have hcz4_8 : w3.cell? ⟨gb152, 8, none⟩ = some (.int .i64 a0_8) := (blk_cell BK152.out 8).trans rfl; have hcz4_9 : w3.cell? ⟨gb152, 9, none⟩ = some (.int .i64 a0_9) := (blk_cell BK152.out 9).trans rfl; have hcz4_10 : w3.cell? ⟨gb152, 10, none⟩ = some (.int .i64 a0_10) := (blk_cell BK152.out 10).trans rfl; have hcz4_11 : w3.cell? ⟨gb152, 11, none⟩ = some (.int .i64 a0_11) := (blk_cell BK152.out 11).trans rfl; have hcz4_12 : w3.cell? ⟨gb152, 12, none⟩ = some (.int .i64 a0_12) := (blk_cell BK152.out 12).trans rfl; have hcz4_13 : w3.cell? ⟨gb152, 13, none⟩ = some (.int .i64 a0_13) := (blk_cell BK152.out 13).trans rfl; have hcz4_14 : w3.cell? ⟨gb152, 14, none⟩ = some (.bool a0_14) := (blk_cell BK152.out 14).trans rfl; have hcz4_15 : w3.cell? ⟨gb152, 15, none⟩ = some (.int .i64 a0_15) := (blk_cell BK152.out 15).trans rfl; have hfz4_0 := blk_frozen BK152.out 0; have hfz4_1 := blk_frozen BK152.out 1; have hfz4_2 := blk_frozen BK152.out 2; have hfz4_3 := blk_frozen BK152.out 3; have hfz4_4 := blk_frozen BK152.out 4; have hfz4_5 := blk_frozen BK152.out 5; have hfz4_6 := blk_frozen BK152.out 6; have hfz4_7 := blk_frozen BK152.out 7; have hfz4_8 := blk_frozen BK152.out 8; have hfz4_9 := blk_frozen BK152.out 9; have hfz4_10 := blk_frozen BK152.out 10; have hfz4_11 := blk_frozen BK152.out 11; have hfz4_12 := blk_frozen BK152.out 12; have hfz4_13 := blk_frozen BK152.out 13; have hfz4_14 := blk_frozen BK152.out 14; have hfz4_15 := blk_frozen BK152.out 15))
    go_ret
    exact ⟨by first | rfl | (simp [errW_none, errW_some] <;> rfl) | (simp [*, errW_none, errW_some] <;> rfl), by repeat (first | (with_reducible first | exact HB.out | apply below_alloc | apply pw_below_drewN | apply below_drew1 | refine below_set ?_ GE152.out) | exact HB.out)⟩
  · rw [if_neg c2] at H
    have c2b0 : (a0_9 == 3) = false := beq_eq_false_iff_ne.mpr c2
    have c2b1 : (a0_9 != 3) = true := bne_iff_ne.mpr c2
    obtain rfl := Option.some.inj H
    go_enter Try.func15, Try.ntmps15
    go_wp2_with (first | ((with_reducible refine gate_dst (N := 1) rfl ?_); refine box_event ?hg (N := 1) ?hd (cs := #[.string a0_0, .int .i64 a0_1, .int .i64 a0_2, .int .i64 a0_3, .int .i64 a0_4, .int .i64 a0_5, .int .i64 a0_6, .int .i64 a0_7, .int .i64 a0_8, .int .i64 a0_9, .int .i64 a0_10, .int .i64 a0_11, .int .i64 a0_12, .int .i64 a0_13, .bool a0_14, .int .i64 a0_15]) (t := 28) ?hr ?_; (case hd => rfl); (case hg => rfl); (case hr => first | (go_simp; done) | (go_simp; rfl)); intro gb152 hg w5 hbox hb; have n0_ := Aside0.mk (below_step (by repeat (first | (with_reducible first | exact HB.out | apply below_alloc | apply pw_below_drewN | apply below_drew1) | exact HB.out)) hb); have n1_ := Aside0.mk (hbox); have n2_ := Aside0.mk ((by rw [hg]; exact (below_size (by repeat (first | (with_reducible first | exact HB.out | apply below_alloc | apply pw_below_drewN | apply below_drew1) | exact HB.out))) : w.heap.size ≤ gb152)); have n3_ := Aside0.mk ((by rw [hg]; exact (below_size (by repeat (first | (with_reducible first | exact HB.out | apply below_alloc | apply pw_below_drewN | apply below_drew1) | exact HB.out))) : w.heap.size ≤ gb152)); clear HB; have HB := n0_; have BK152 := n1_; have GW152 := n2_; have GE152 := n3_; clear n0_ n1_ n2_ n3_; clear hb hbox hg; have hcz6_0 : w5.cell? ⟨gb152, 0, none⟩ = some (.string a0_0) := (blk_cell BK152.out 0).trans rfl; have hcz6_1 : w5.cell? ⟨gb152, 1, none⟩ = some (.int .i64 a0_1) := (blk_cell BK152.out 1).trans rfl; have hcz6_2 : w5.cell? ⟨gb152, 2, none⟩ = some (.int .i64 a0_2) := (blk_cell BK152.out 2).trans rfl; have hcz6_3 : w5.cell? ⟨gb152, 3, none⟩ = some (.int .i64 a0_3) := (blk_cell BK152.out 3).trans rfl; have hcz6_4 : w5.cell? ⟨gb152, 4, none⟩ = some (.int .i64 a0_4) := (blk_cell BK152.out 4).trans rfl; have hcz6_5 : w5.cell? ⟨gb152, 5, none⟩ = some (.int .i64 a0_5) := (blk_cell BK152.out 5).trans rfl; have hcz6_6 : w5.cell? ⟨gb152, 6, none⟩ = some (.int .i64 a0_6) := (blk_cell BK152.out 6).trans rfl; have hcz6_7 : w5.cell? ⟨gb152, 7, none⟩ = some (.int .i64 a0_7) := (blk_cell BK152.out 7).trans rfl; have hcz6_8 : w5.cell? ⟨gb152, 8, none⟩ = some (.int .i64 a0_8) := (blk_cell BK152.out 8).trans rfl; have hcz6_9 : w5.cell? ⟨gb152, 9, none⟩ = some (.int .i64 a0_9) := (blk_cell BK152.out 9).trans rfl; have hcz6_10 : w5.cell? ⟨gb152, 10, none⟩ = some (.int .i64 a0_10) := (blk_cell BK152.out 10).trans rfl; have hcz6_11 : w5.cell? ⟨gb152, 11, none⟩ = some (.int .i64 a0_11) := (blk_cell BK152.out 11).trans rfl; have hcz6_12 : w5.cell? ⟨gb152, 12, none⟩ = some (.int .i64 a0_12) := (blk_cell BK152.out 12).trans rfl; have hcz6_13 : w5.cell? ⟨gb152, 13, none⟩ = some (.int .i64 a0_13) := (blk_cell BK152.out 13).trans rfl; have hcz6_14 : w5.cell? ⟨gb152, 14, none⟩ = some (.bool a0_14) := (blk_cell BK152.out 14).trans rfl; have hcz6_15 : w5.cell? ⟨gb152, 15, none⟩ = some (.int .i64 a0_15) := (blk_cell BK152.out 15).trans rfl; have hfz6_0 := blk_frozen BK152.out 0; have hfz6_1 := blk_frozen BK152.out 1; have hfz6_2 := blk_frozen BK152.out 2; have hfz6_3 := blk_frozen BK152.out 3; have hfz6_4 := blk_frozen BK152.out 4; have hfz6_5 := blk_frozen BK152.out 5; have hfz6_6 := blk_frozen BK152.out 6; have hfz6_7 := blk_frozen BK152.out 7; have hfz6_8 := blk_frozen BK152.out 8; have hfz6_9 := blk_frozen BK152.out 9; have hfz6_10 := blk_frozen BK152.out 10; have hfz6_11 := blk_frozen BK152.out 11; have hfz6_12 := blk_frozen BK152.out 12; have hfz6_13 := blk_frozen BK152.out 13; have hfz6_14 := blk_frozen BK152.out 14; have hfz6_15 := blk_frozen BK152.out 15))
    go_ret
    exact ⟨by first | rfl | (simp [errW_none, errW_some] <;> rfl) | (simp [*, errW_none, errW_some] <;> rfl), by repeat (first | (with_reducible first | exact HB.out | apply below_alloc | apply pw_below_drewN | apply below_drew1 | refine below_set ?_ GE152.out) | exact HB.out)⟩
theorem ld_any {w : World} {g n : Nat} {T' : TypeId} {A : Array Value} (hg : w.heap[g]? = some (.cells A T' (0, 0))) (hA : A.size = n) :
    (loadCellsFrom ⟨g, 0, none⟩ 0 n #[]).run Try.prog w = .ok A w := by
  subst hA
  have := run_loadCells_list (P := Try.prog) w ⟨g, 0, none⟩ A.toList (fun j v hv => by
    rw [Addr.add_mid, Nat.zero_add, blk_cell hg]; simpa using hv)
  simpa [loadCells] using this
theorem wpl_ld {ops : Array Oper} {rest : List Oper} {o : Oper} {a : Act} {w : World} {Q : Exit → Act → World → Prop} (T : TypeId) (x : Operand) (ho : o.op = .load T x) (hw : Region.wanted o (yielded ops a.tmps) = true) (g : Nat) (hx : a.eval x = .pointer (some ⟨g, 0, none⟩)) {A : Array Value} {T' : TypeId} {n : Nat} {d : TypeDesc}
    (hg : w.heap[g]? = some (.cells A T' (0, 0))) (hu : Try.prog.underlying T = some d) (hd : d.isRow = true) (hi : (Try.prog.info? T).map (·.size) = some n) (hA : A.size = n) (h : wpList Try.prog ops Q rest (a.put o.dst (.agg A)) w) : wpList Try.prog ops Q (o :: rest) a w := by
  unfold wpList
  rw [if_pos hw]
  refine Or.inl (wp_load_mid T x ho g 0 hx A.toList d (fun j v hv => by rw [Nat.zero_add, blk_cell hg]; simpa using hv) hu hd (by rw [hi, ← hA]; simp) ?_)
  simpa using h
theorem st_any {w : World} {g n : Nat} {T' : TypeId} {A B : Array Value} (hg : w.heap[g]? = some (.cells A T' (0, 0))) (hA : A.size = n) (hB : B.size = n) (h1 : B.all (·.oneCell') = true) :
    ∃ W, (storeCells ⟨g, 0, none⟩ B.toList).run Try.prog w = .ok () W ∧ W.heap[g]? = some (.cells B T' (0, 0)) ∧ (∀ k, k ≠ g → W.heap[k]? = w.heap[k]?) ∧ ∀ b a, b ≤ g → Below b a w → Below b a W := by
  refine ⟨w.setRow g B, ?_, setRow_heap w g A B T' (0, 0) hg, fun k hk => setRow_other w g k B hk, fun b a hb h => below_setRow h hb B⟩
  have := run_storeCells_from (P := Try.prog) g T' B.toList 0 A w hg (by simp; omega) (fun v hv => (Array.all_eq_true_iff_forall_mem.1 h1) v (by simpa using hv))
  simpa using this
theorem st_new {w : World} {X n : Nat} {T : TypeId} {Z B : Array Value} (hX : w.heap.size = X) (hZ : Z.size = n) (hB : B.size = n) (h1 : B.all (·.oneCell') = true) :
    ∃ W, (storeCells ⟨X, 0, none⟩ B.toList).run Try.prog (w.alloc (.cells Z T)) = .ok () W ∧ W.heap[X]? = some (.cells B T (0, 0)) ∧ (∀ k, k < X → W.heap[k]? = w.heap[k]?) ∧ ∀ b a, b ≤ X → Below b a w → Below b a W := by
  subst hX
  have hn := blk_new w (.cells Z T)
  obtain ⟨W, h1', h2, h3, h4⟩ := st_any hn hZ hB h1
  exact ⟨W, h1', h2, fun k hk => (h3 k (by omega)).trans (Below.heap_alloc w _ k hk), fun b a hb h => h4 b a hb (h.alloc hb _)⟩
theorem sz_le {a b c : Nat} (h : a = b) (k : a ≤ c) : b ≤ c := h ▸ k
theorem box_new {w : World} {X : Nat} {T : TypeId} {B : Array Value} (hX : w.heap.size = X) : (w.alloc (.cells B T)).heap[X]? = some (.cells B T (0, 0)) ∧ (∀ k, k < X → (w.alloc (.cells B T)).heap[k]? = w.heap[k]?) := by
  subst hX
  exact ⟨blk_new w _, fun k hk => Below.heap_alloc w _ k hk⟩
end Go.Proofs.Ytkedmmimcmignaa.PC
