/- What seat 19's laws ask first: few tasks, short deadlines, a place and a gap. -/
import Derived.Test.YtnidcoooenhebaaFs
namespace Go.Proofs.Ytnidcoooenhebaa.PS
open Go.RowKit Go.Proofs.Ytnidcoooenhebaa.PC Go.Proofs.YtnidcoooenhebaaW.PrintWords Go.Proofs.YtnidcoooenhebaaW.PrintLast Go.Proofs.YtnidcoooenhebaaW.PrintMore
attribute [local go_sem] max2_int min2_int max_two min_two max_three min_three max_four min_four   -- for this text's walks alone
set_option linter.unusedVariables false
set_option linter.unusedSimpArgs false
theorem few_l0 (B : Int) (l : List S39) : ∀ (n i : Nat), i ≤ 41 → 41 - i = n → Tot (fun k => pendulumref05_Few.l0 k (i : Int) B l) (fun b => b = true → l.length ≤ 30) := by
  intro n
  induction n with
  | zero =>
    intro i _ h
    have hj : Tot (fun k => pendulumref05_Few.j1 k (i : Int) false B l) (fun b => b = true → l.length ≤ 30) := by
      refine Tot.succ ?_
      simp only [pendulumref05_Few.j1]
      exact Tot.now (fun h => by have := of_decide_eq_true h; omega)
    refine Tot.succ ?_
    simp only [pendulumref05_Few.l0, show decide ((i : Int) < 40) = false by simp; omega]
    exact Tot.ite (fun _ => hj) (fun _ => hj)
  | succ n ih =>
    intro i hi h
    have hj : Tot (fun k => pendulumref05_Few.j1 k (i : Int) false B l) (fun b => b = true → l.length ≤ 30) := by
      refine Tot.succ ?_
      simp only [pendulumref05_Few.j1]
      exact Tot.now (fun h => by have := of_decide_eq_true h; omega)
    refine Tot.succ ?_
    simp only [pendulumref05_Few.l0]
    refine Tot.ite (fun c => ?_) (fun _ => hj)
    by_cases d : (i : Int) < 40
    · rw [decide_eq_true d]
      refine Tot.succ ?_
      simp only [pendulumref05_Few.j1, w1 (n := i) (by omega)]
      refine Tot.ite (fun _ => ?_) (fun e => (e trivial).elim)
      refine Tot.ite (fun _ => ?_) (fun e => by omega)
      refine Tot.ite (fun _ => ?_) (fun e => (e c).elim)
      exact Tot.ite (fun _ => Tot.now (fun h => by cases h)) (fun _ => ih (i + 1) (by omega) (by omega))
    · rw [decide_eq_false d]; exact hj
theorem few_tot (B : Int) (l : List S39) : Tot (fun k => pendulumref05_Few.f k B l) (fun b => b = true → l.length ≤ 30) := few_l0 B l 41 0 (by omega) rfl
theorem small_l0 (B : Int) (l : List S39) : ∀ (n i : Nat), i ≤ 20 → 20 - i = n → Tot (fun k => pendulumref19_Small.l0 k (i : Int) B l) (fun b => b = true → l.length ≤ 16 ∧ ∀ j : Nat, i ≤ j → j < l.length → (rd_T39 l j).f2 ≤ 3000) := by
  intro n
  induction n with
  | zero =>
    intro i hi h
    obtain rfl : i = 20 := by omega
    have hj : Tot (fun k => pendulumref19_Small.j1 k ((20 : Nat) : Int) false B l) (fun b => b = true → l.length ≤ 16 ∧ ∀ j : Nat, 20 ≤ j → j < l.length → (rd_T39 l j).f2 ≤ 3000) := by
      refine Tot.succ ?_
      simp only [pendulumref19_Small.j1]
      exact Tot.now (fun h => by have := of_decide_eq_true h; exact ⟨by omega, fun j h1 h2 => by omega⟩)
    refine Tot.succ ?_
    simp only [pendulumref19_Small.l0]
    refine Tot.ite (fun c => ?_) (fun _ => hj)
    rw [show decide (((20 : Nat) : Int) < 20) = false by decide]
    exact hj
  | succ n ih =>
    intro i hi h
    refine Tot.succ ?_
    simp only [pendulumref19_Small.l0]
    refine Tot.ite (fun c => ?_) (fun c => ?_)
    · rw [decide_eq_true (show (i : Int) < 20 by omega)]
      refine Tot.succ ?_
      simp only [pendulumref19_Small.j1, w1 (n := i) (by omega)]
      have ih := ih (i + 1) (by omega) (by omega)
      refine Tot.ite (fun _ => ?_) (fun e => (e trivial).elim)
      refine Tot.ite (fun _ => ?_) (fun e => by omega)
      refine Tot.ite (fun _ => ?_) (fun e => (e c).elim)
      refine Tot.ite (fun _ => Tot.now (fun h => by cases h)) (fun e3 => ?_)
      refine Tot.ite (fun _ => Tot.now (fun h => by cases h)) (fun _ => ?_)
      refine ih.mono (fun v hv h => ⟨(hv h).1, fun j h1 h2 => ?_⟩)
      by_cases e : j = i
      · subst e; omega
      · exact (hv h).2 j (by omega) h2
    · refine Tot.succ ?_
      simp only [pendulumref19_Small.j1]
      exact Tot.now (fun h => by have := of_decide_eq_true h; exact ⟨by omega, fun j h1 h2 => by omega⟩)
theorem small_tot (B : Int) (l : List S39) : Tot (fun k => pendulumref19_Small.f k B l) (fun b => b = true → l.length ≤ 16 ∧ ∀ j : Nat, j < l.length → (rd_T39 l j).f2 ≤ 3000) :=
  (small_l0 B l 20 0 (by omega) rfl).mono (fun v hv h => ⟨(hv h).1, fun j hj => (hv h).2 j (by omega) hj⟩)
end Go.Proofs.Ytnidcoooenhebaa.PS
