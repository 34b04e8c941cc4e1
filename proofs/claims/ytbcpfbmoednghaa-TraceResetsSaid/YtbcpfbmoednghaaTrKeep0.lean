/- Counts' sums against lists; an append of events. -/
import Derived.Test.YtbcpfbmoednghaaTrLaw
import Derived.Laws.AppendOwnNone
namespace Go.Proofs.Ytbcpfbmoednghaa.Tr
open Go.RowKit Go.Proofs.YtbcpfbmoednghaaW.PrintWords Go.Proofs.YtbcpfbmoednghaaW.PrintLast Go.Proofs.YtbcpfbmoednghaaW.PrintMore Go.Proofs.Ytbcpfbmoednghaa.Ring Go.Proofs.Ytbcpfbmoednghaa.Ring5 Go.Proofs.Ytbcpfbmoednghaa.Args
set_option linter.unusedSimpArgs false
set_option linter.unusedVariables false
theorem sumk_z (f : Nat → Nat) (hf : ∀ i, f i = 0) (n : Nat) : sumn f n = 0 := by
  induction n with
  | zero => rfl
  | succ n ih => rw [sumn, ih, hf]
theorem sum_same (f g : Nat → Nat) (n : Nat) (h : ∀ i, i < n → g i = f i) : sumn g n = sumn f n := by
  induction n with
  | zero => rfl
  | succ n ih => rw [sumn, sumn, ih (fun i hi => h i (by omega)), h n (by omega)]
theorem sum_up (f g : Nat → Nat) (i0 n : Nat) (hi : i0 < n) (h0 : g i0 = f i0 + 1) (h : ∀ i, i ≠ i0 → g i = f i) : sumn g n = sumn f n + 1 := by
  induction n with
  | zero => omega
  | succ n ih =>
    rw [sumn, sumn]
    by_cases hn : i0 = n
    · subst hn; rw [sum_same f g i0 (fun i hi => h i (by omega)), h0]; omega
    · rw [ih (by omega), h n (fun e => hn e.symm)]; omega
theorem ofn_up (cn : Nat → Nat) (x : Ev) (hc : ctd x = true) (a b : Int) : ofn (up1 cn (idx x)) a b = if a = x.b ∧ b = x.c then ofn cn a b + 1 else ofn cn a b := by
  have hx : 1 ≤ x.b ∧ x.b < 12 ∧ 0 ≤ x.c ∧ x.c < 16 := by simpa [ctd] using hc
  unfold ofn up1 idx
  by_cases h1 : 1 ≤ a ∧ a < 12 ∧ 0 ≤ b ∧ b < 16
  · rw [if_pos h1]
    by_cases h2 : a = x.b ∧ b = x.c
    · rw [if_pos h2, if_pos (by rw [h2.1, h2.2]), if_pos h1]
    · rw [if_neg h2, if_neg (fun e => h2 (by omega)), if_pos h1]
  · rw [if_neg h1, if_neg (fun e => h1 (by rw [e.1, e.2]; exact hx)), if_neg h1]
theorem kindn_up (cn : Nat → Nat) (x : Ev) (hc : ctd x = true) (a : Int) : kindn (up1 cn (idx x)) a = if a = x.b then kindn cn a + 1 else kindn cn a := by
  have hx : 1 ≤ x.b ∧ x.b < 12 ∧ 0 ≤ x.c ∧ x.c < 16 := by simpa [ctd] using hc
  unfold kindn
  by_cases h : a = x.b
  · rw [if_pos h]
    exact sum_up _ _ x.c.toNat 16 (by omega) (by rw [ofn_up cn x hc, if_pos ⟨h, by omega⟩]) (fun i hi => by rw [ofn_up cn x hc, if_neg (fun e => hi (by omega))])
  · rw [if_neg h]
    exact sum_same _ _ 16 (fun i _ => by rw [ofn_up cn x hc, if_neg (fun e => h e.1)])
theorem alln_up (cn : Nat → Nat) (x : Ev) (hc : ctd x = true) : alln (up1 cn (idx x)) = alln cn + 1 := by
  have hx : 1 ≤ x.b ∧ x.b < 12 ∧ 0 ≤ x.c ∧ x.c < 16 := by simpa [ctd] using hc
  unfold alln
  exact sum_up _ _ x.b.toNat 12 (by omega) (by rw [kindn_up cn x hc, if_pos (by omega)]) (fun i hi => by rw [kindn_up cn x hc, if_neg (fun e => hi (by omega))])
theorem alln_zero : alln (fun _ => 0) = 0 := by decide +kernel
theorem alln_take (l : List Ev) (n : Nat) (hn : n ≤ l.length) : alln (cnl (l.take n)) = (kept (l.take n)).length := by
  induction n with
  | zero => rw [List.take_zero, cnl_nil]; exact alln_zero
  | succ n ih =>
    obtain ⟨x, hx⟩ : ∃ x, l[n]? = some x := ⟨l[n], by simp⟩
    rw [List.take_add_one, hx, Option.toList_some, cnl_snoc, kept_snoc]
    have := ih (by omega)
    unfold bump
    by_cases hc : ctd x = true
    · rw [if_pos hc, if_pos hc, alln_up _ x hc, this, List.length_append]; rfl
    · rw [if_neg hc, if_neg hc, this]
theorem alln_cnl (l : List Ev) : alln (cnl l) = (kept l).length := by
  have := alln_take l l.length (Nat.le_refl _)
  rwa [List.take_length] at this
theorem kept_le (l : List Ev) : (kept l).length ≤ l.length := List.length_filter_le _ _
theorem kindn_take (l : List Ev) (a : Int) (n : Nat) (hn : n ≤ l.length) : kindn (cnl (l.take n)) a = (kept (l.take n)).countP fun x => decide (x.b = a) := by
  induction n with
  | zero => rw [List.take_zero, cnl_nil]; exact sumk_z _ (fun b => by unfold ofn; split <;> rfl) 16
  | succ n ih =>
    obtain ⟨x, hx⟩ : ∃ x, l[n]? = some x := ⟨l[n], by simp⟩
    rw [List.take_add_one, hx, Option.toList_some, cnl_snoc, kept_snoc]
    have := ih (by omega)
    unfold bump
    by_cases hc : ctd x = true
    · rw [if_pos hc, if_pos hc, kindn_up _ x hc, this, List.countP_append]
      by_cases ha : a = x.b
      · rw [if_pos ha]; simp [ha]
      · rw [if_neg ha]; simp [show ¬ x.b = a from fun e => ha e.symm]
    · rw [if_neg hc, if_neg hc, this]
theorem lastc_all {c : Nat} {M : List Ev} (h : M.length ≤ c) : lastc c M = M := by unfold lastc; rw [show M.length - c = 0 by omega]; rfl
/-- Rows of events: their cells. -/
theorem own_view {w : World} {base n : Nat} {v : Value} {L : List Ev} (h : w.ownsRow base 30 5 v n (flat L)) (hn : n = L.length) :
    ∃ A cap, v = .slice A L.length cap ∧ L.length ≤ cap ∧ (0 < L.length → ∃ g cur, A = some ⟨g, 0, none⟩ ∧ base ≤ g ∧ g < w.heap.size ∧ w.heap[g]? = some (.cells cur 30 (0, 0)) ∧ cur.size = cap * 5 ∧ ∀ i x, L[i]? = some x → ∀ j, j < 5 → w.cell? ⟨g, i * 5 + j, none⟩ = (l5 x)[j]?) := by
  subst hn
  rcases h.2 with ⟨h1, h2⟩ | ⟨g, cap, cur, h1, h2, h3, h4, h5, h6, h7⟩
  · exact ⟨none, 0, by rw [h1, h2], by omega, fun hp => by omega⟩
  · refine ⟨_, cap, h1, h4, fun _ => ⟨g, cur, rfl, h2, blk_lt h3, h3, h6, fun i x hx j hj => ?_⟩⟩
    have hi : i < L.length := by
      rcases Nat.lt_or_ge i L.length with h | h
      · exact h
      · rw [List.getElem?_eq_none h] at hx; cases hx
    rw [blk_cell h3 _, ← flat_get hx j hj, ← h7, List.getElem?_take, if_pos (by omega)]; simp
/-- The copy of a row of events onto a new row. -/
theorem app_ev {w : World} {ops : Array Oper} {rest : List Oper} {o : Oper} {a : Act} {Q : Exit → Act → World → Prop} (hgd : o.guard = none) (s x : Operand)
    (ho : o.op = .call { callee := .builtin .append, args := #[s, x], argTypes := #[22, 22] })
    (base : Nat) (v : Value) (hs : a.eval s = v) (hown : w.ownsRow base 30 5 v 0 []) (hbl : ∀ k, v.ownBlock = some k → base ≤ k)
    (vx : Value) (L : List Ev) (base2 : Nat) (hx : a.eval x = vx) (hox : w.ownsRow base2 30 5 vx L.length (flat L)) (hL : L.length ≤ 100000) (hbase : base ≤ w.heap.size)
    (h : ∀ v' w', w'.ownsRow base 30 5 v' L.length (flat L) → Below base w w' → wpList Try.prog ops Q rest (a.put o.dst v') w') : wpList Try.prog ops Q (o :: rest) a w := by
  have h1 : ∀ u ∈ flat L, u.oneCell' = true := fun u hu => by
    unfold flat at hu
    obtain ⟨e, _, he⟩ := List.mem_flatMap.mp hu
    simp only [l5, List.mem_cons, List.not_mem_nil, or_false] at he
    rcases he with rfl | rfl | rfl | rfl | rfl <;> rfl
  obtain ⟨i, hi, hz, hsize, hby⟩ := info_parts info30
  rcases hox.2 with ⟨hv, hl⟩ | ⟨g, cap, cur, hv, h2, h3, h4, h5, h6, h7⟩
  · have hL0 : L = [] := List.length_eq_zero_iff.mp hl
    subst hL0
    refine Go.wpList_append_own_none hgd s x 22 ho base 30 i 5 Try.underlying22 hi v 0 [] hs hown (by rw [hx, hv]) (h v w hown (Below.refl _ _))
  · refine Go.wpList_append_own w hgd s x 22 ho base 30 i (.agg (l5 z5).toArray) 5 40 Try.underlying22 hi hz hsize hby (by rfl) (by omega) v 0 [] hs hown ⟨g, 0, none⟩ L.length cap (flat L) (by rw [hx, hv]) (flat_len L) ?_ h1 (by unfold maxLen; omega) (by omega) hbase ?_
    · intro j u hu
      have hj : j < L.length * 5 := by
        rcases Nat.lt_or_ge j (L.length * 5) with h | h
        · exact h
        · rw [List.getElem?_eq_none (by rw [flat_len]; exact h)] at hu; cases hu
      rw [Go.WideShapes.add_plain, Nat.zero_add, blk_cell h3 j, ← hu, ← h7, List.getElem?_take, if_pos hj]; simp
    · intro v' w' ho' hg _
      rw [Nat.zero_add, List.nil_append] at ho'
      exact h v' w' ho' ((Below.refl base w).grown hg hbase hbl)
end Go.Proofs.Ytbcpfbmoednghaa.Tr
