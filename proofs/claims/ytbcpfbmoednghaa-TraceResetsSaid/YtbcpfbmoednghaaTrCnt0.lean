/- What TraceCounts needs: an append of one event, counts of a list. -/
import Derived.Test.YtbcpfbmoednghaaTrKeeps
namespace Go.Proofs.Ytbcpfbmoednghaa.Tr
open Go.RowKit Go.Proofs.YtbcpfbmoednghaaW.PrintWords Go.Proofs.YtbcpfbmoednghaaW.PrintLast Go.Proofs.YtbcpfbmoednghaaW.PrintMore Go.Proofs.Ytbcpfbmoednghaa.Ring Go.Proofs.Ytbcpfbmoednghaa.Ring5 Go.Proofs.Ytbcpfbmoednghaa.Args
set_option linter.unusedSimpArgs false
set_option linter.unusedVariables false
def cntN (a : Int) (l : List Ev) : Nat := (kept l).countP fun x => decide (x.b = a)
def cntB (a b : Int) (l : List Ev) : Nat := (kept l).countP fun x => decide (x.b = a ∧ x.c = b)
theorem cntN_le (a : Int) (l : List Ev) : cntN a l ≤ l.length := Nat.le_trans List.countP_le_length (kept_le l)
theorem cntB_le (a b : Int) (l : List Ev) : cntB a b l ≤ l.length := Nat.le_trans List.countP_le_length (kept_le l)
theorem cntN_no {a : Int} {l : List Ev} {x : Ev} (h : ctd x = false) : cntN a (l ++ [x]) = cntN a l := by unfold cntN; rw [kept_snoc, h]; rfl
theorem cntB_no {a b : Int} {l : List Ev} {x : Ev} (h : ctd x = false) : cntB a b (l ++ [x]) = cntB a b l := by unfold cntB; rw [kept_snoc, h]; rfl
theorem cntN_up {a : Int} {l : List Ev} {x : Ev} (h : ctd x = true) (ha : x.b = a) : cntN a (l ++ [x]) = cntN a l + 1 := by
  unfold cntN; rw [kept_snoc, if_pos h, List.countP_append]; simp [ha]
theorem cntN_on {a : Int} {l : List Ev} {x : Ev} (ha : ¬ x.b = a) : cntN a (l ++ [x]) = cntN a l := by
  unfold cntN; rw [kept_snoc]; split
  · rw [List.countP_append]; simp [ha]
  · rfl
theorem cntB_up {a b : Int} {l : List Ev} {x : Ev} (h : ctd x = true) (ha : x.b = a) (hb : x.c = b) : cntB a b (l ++ [x]) = cntB a b l + 1 := by
  unfold cntB; rw [kept_snoc, if_pos h, List.countP_append]; simp [ha, hb]
theorem cntB_on {a b : Int} {l : List Ev} {x : Ev} (ha : ¬ (x.b = a ∧ x.c = b)) : cntB a b (l ++ [x]) = cntB a b l := by
  unfold cntB; rw [kept_snoc]; split
  · rw [List.countP_append]; simp [ha]
  · rfl
theorem kept_no {l : List Ev} {x : Ev} (h : ctd x = false) : kept (l ++ [x]) = kept l := by rw [kept_snoc, h]; rfl
theorem kept_up {l : List Ev} {x : Ev} (h : ctd x = true) : kept (l ++ [x]) = kept l ++ [x] := by rw [kept_snoc, if_pos h]
theorem kindn_cnl (l : List Ev) (a : Int) : kindn (cnl l) a = cntN a l := by
  have := kindn_take l a l.length (Nat.le_refl _)
  rwa [List.take_length] at this
theorem ofn_take (l : List Ev) (a b : Int) (n : Nat) (hn : n ≤ l.length) : ofn (cnl (l.take n)) a b = cntB a b (l.take n) := by
  induction n with
  | zero => rw [List.take_zero, cnl_nil]; unfold ofn cntB; split <;> rfl
  | succ n ih =>
    obtain ⟨x, hx⟩ : ∃ x, l[n]? = some x := ⟨l[n], by simp⟩
    rw [List.take_add_one, hx, Option.toList_some, cnl_snoc]
    have := ih (by omega)
    unfold bump
    cases hc : ctd x with
    | true =>
      rw [if_pos rfl, ofn_up _ x hc, this]
      by_cases h : a = x.b ∧ b = x.c
      · rw [if_pos h, cntB_up hc h.1.symm h.2.symm]
      · rw [if_neg h, cntB_on (fun e => h ⟨e.1.symm, e.2.symm⟩)]
    | false => rw [if_neg (by simp), cntB_no hc, this]
theorem ofn_cnl (l : List Ev) (a b : Int) : ofn (cnl l) a b = cntB a b l := by
  have := ofn_take l a b l.length (Nat.le_refl _)
  rwa [List.take_length] at this
theorem own_low {w : World} {base n : Nat} {v : Value} {xs : List Value} (h : w.ownsRow base 30 5 v n xs) : ∀ k, v.ownBlock = some k → base ≤ k := by
  intro k hk
  rcases h.2 with ⟨h1, _⟩ | ⟨g, cap, cur, h1, h2, _⟩
  · rw [h1] at hk; simp [Value.ownBlock] at hk
  · rw [h1] at hk; simp [Value.ownBlock] at hk; omega
/-- One event behind an own row. -/
theorem app_one {w : World} {ops : Array Oper} {rest : List Oper} {o : Oper} {a : Act} {Q : Exit → Act → World → Prop} (hgd : o.guard = none) (s x : Operand)
    (ho : o.op = .call { callee := .builtin .append, args := #[s, x], argTypes := #[22, 22] })
    (base : Nat) (v : Value) (n : Nat) (M : List Ev) (hs : a.eval s = v) (hown : w.ownsRow base 30 5 v n (flat M))
    (g : Nat) (y : Ev) (hx : a.eval x = .slice (some ⟨g, 0, none⟩) 1 1) (hg : w.heap[g]? = some (.cells (l5 y).toArray 30 (0, 0))) (hn : n ≤ 100000) (hbase : base ≤ w.heap.size)
    (h : ∀ v' w', w'.ownsRow base 30 5 v' (n + 1) (flat (M ++ [y])) → Below base w w' → wpList Try.prog ops Q rest (a.put o.dst v') w') : wpList Try.prog ops Q (o :: rest) a w := by
  have h1 : ∀ u ∈ l5 y, u.oneCell' = true := fun u hu => by
    simp only [l5, List.mem_cons, List.not_mem_nil, or_false] at hu
    rcases hu with rfl | rfl | rfl | rfl | rfl <;> rfl
  obtain ⟨i, hi, hz, hsize, hby⟩ := info_parts info30
  refine Go.wpList_append_own w hgd s x 22 ho base 30 i (.agg (l5 z5).toArray) 5 40 Try.underlying22 hi hz hsize hby (by rfl) (by omega) v n (flat M) hs hown ⟨g, 0, none⟩ 1 1 (l5 y) hx (by rfl) ?_ h1 (by unfold maxLen; omega) (by omega) hbase ?_
  · intro j u hu
    rw [Go.WideShapes.add_plain, Nat.zero_add, blk_cell hg j, ← hu]; simp
  · intro v' w' ho' hg' _
    rw [← flat_snoc] at ho'
    exact h v' w' ho' ((Below.refl base w).grown hg' hbase (own_low hown))
theorem own_pos {w : World} {base n : Nat} {v : Value} {xs : List Value} (h : w.ownsRow base 30 5 v n xs) (hb : base ≤ w.heap.size) {W : World} (hk : ∀ k, base ≤ k → k < w.heap.size → W.heap[k]? = w.heap[k]?) : W.ownsRow base 30 5 v n xs := own_same h hk
theorem own_view2 {w : World} {base n : Nat} {v : Value} {L : List Ev} (h : w.ownsRow base 30 5 v n (flat L)) (hn : n = L.length) :
    ∃ A cap, v = .slice A n cap ∧ n ≤ cap ∧ (0 < n → ∃ g, A = some ⟨g, 0, none⟩ ∧ base ≤ g ∧ g < w.heap.size ∧ ∀ i x, L[i]? = some x → ∀ j, j < 5 → w.cell? ⟨g, i * 5 + j, none⟩ = (l5 x)[j]?) := by
  subst hn
  obtain ⟨A, cap, h1, h2, h3⟩ := own_view h rfl
  exact ⟨A, cap, h1, h2, fun hp => by obtain ⟨g, cur, k1, k2, k3, k4, k5, k6⟩ := h3 hp; exact ⟨g, k1, k2, k3, k6⟩⟩
end Go.Proofs.Ytbcpfbmoednghaa.Tr
