/- Seat 15's contracts, a struct's cells as one array. -/
import Derived.Test.YtkedmmimcmignaaRec15
import Derived.Test.YtkedmmimcmignaaSetArgs
import Derived.Test.YtkedmmimcmignaaPCw
import Derived.Test.YtkedmmimcmignaaPCx6
import Derived.Test.YtkedmmimcmignaaPCx9
import Derived.Test.YtkedmmimcmignaaPCx11
namespace Go.Proofs.Ytkedmmimcmignaa.PS
open Go.RowKit Go.Proofs.Ytkedmmimcmignaa.PC Go.Proofs.YtkedmmimcmignaaW.PrintWords Go.Proofs.YtkedmmimcmignaaW.PrintLast
set_option linter.unusedVariables false
/-- A task's cells; a run's. -/
def TA (t : S23) : Array Value := #[.string t.f0, .int .i64 t.f1, .int .i64 t.f2, .int .i64 t.f3, .int .i64 t.f4, .int .i64 t.f5, .int .i64 t.f6, .int .i64 t.f7, .int .i64 t.f8, .int .i64 t.f9, .int .i64 t.f10]
def RA (t : S23) (d : Int) (s : St) : Array Value := #[.string t.f0, .int .i64 t.f1, .int .i64 t.f2, .int .i64 t.f3, .int .i64 t.f4, .int .i64 t.f5, .int .i64 t.f6, .int .i64 t.f7, .int .i64 t.f8, .int .i64 t.f9, .int .i64 t.f10, .int .i64 d, .int .i64 (s.p : Int), .int .i64 s.left, .bool s.str, .int .i64 s.fl]
theorem TA_size (t : S23) : (TA t).size = 11 := rfl
theorem RA_size (t : S23) (d : Int) (s : St) : (RA t d s).size = 16 := rfl
theorem TA_one (t : S23) : (TA t).all (·.oneCell') = true := by unfold TA; simp [Value.oneCell']
theorem RA_one (t : S23) (d : Int) (s : St) : (RA t d s).all (·.oneCell') = true := by unfold RA; simp [Value.oneCell']
theorem aw_c (W : World) : Calls Try.prog 7 #[] W fun e w' => e = .returned (.bool true) ∧ Below W.heap.size W w' := awake_walk W
theorem small_c {t : S23} {d : Int} {b : Bool} (hb : Ev (fun k => pendulumref15_Small.f k t.f0 t.f1 t.f2 t.f3 t.f4 t.f5 t.f6 t.f7 t.f8 t.f9 t.f10 d) b) (W : World) (A : Array Value) (hA : A = TA t) : Calls Try.prog 8 #[.agg A, .int .i64 d] W fun e w' => e = .returned (.bool b) ∧ Below W.heap.size W w' := by
  subst hA
  obtain ⟨k, h⟩ := hb.rounds
  exact pendulumref15_Small.calls k _ _ _ _ _ _ _ _ _ _ _ _ b W h
section
variable {t : S23} {d : Int} (od : Okd t d)
include od in
theorem begin_c (W : World) (A R : Array Value) (hA : A = TA t) (hR : R = RA t d (ini t d)) : Calls Try.prog 9 #[.agg A, .int .i64 d] W fun e w' => e = .returned (.tuple #[.agg R, .int .i64 0]) ∧ Below W.heap.size W w' := by
  subst hA hR
  obtain ⟨k, h⟩ := (begin_ev od).rounds
  exact recover_Begin.calls k _ _ _ _ _ _ _ _ _ _ _ _ _ _ _ _ _ _ _ _ _ _ _ _ _ _ _ _ _ W h
include od in
theorem step_c {s s' : St} {e' : Int} (I : Inv t d s) (hit : Bool) (hf : 0 ≤ s.fl) (hf2 : s.fl ≤ 1000000000000) (hq : nx t d s hit = (s', e')) (W : World) (A A' : Array Value) (hA : A = RA t d s) (hA' : A' = RA t d s') :
    Calls Try.prog 10 #[.agg A, .bool hit] W fun e w' => e = .returned (.tuple #[.agg A', .int .i64 e']) ∧ Below W.heap.size W w' := by
  subst hA hA'
  obtain ⟨k, h⟩ := (step_ev od.1 od.2.2.2.2.1 od.2.2.2.2.2 I hit hf hf2).rounds
  rw [hq] at h
  exact recover_Step.calls k _ _ _ _ _ _ _ _ _ _ _ _ _ _ _ _ _ _ _ _ _ _ _ _ _ _ _ _ _ _ _ _ _ _ W h
/-- A row of numbers in memory. -/
def Nums (w : World) (g : Nat) (cur : Array Value) (L : List Int) : Prop := w.heap[g]? = some (.cells cur 3 (0, 0)) ∧ ∀ p : Nat, p < L.length → cur[p]? = some (.int .i64 (rd L (p : Int)))
include od in
theorem parts_c (W : World) (A : Array Value) (hA : A = TA t) : Calls Try.prog 12 #[.agg A, .int .i64 d] W fun e w' => ∃ g c cur, e = .returned (.slice (some ⟨g, 0, none⟩) (pt t d).length c) ∧ W.heap.size ≤ g ∧ Nums w' g cur (pt t d) ∧ (pt t d).length ≤ c ∧ Below W.heap.size W w' := by
  subst hA
  have hl := len_pos od
  obtain ⟨k, h⟩ := (parts_ev od.1 d od.2.2.2.2.1 od.2.2.2.2.2).rounds
  refine (demand_Parts.calls k _ _ _ _ _ _ _ _ _ _ _ _ _ W h).mono ?_
  rintro e w' ⟨v, rfl, hv, hb⟩
  obtain ⟨A, c, he, hlc, hC⟩ := Kd.R_reads hv
  obtain ⟨inner, ho⟩ := Kd.R_own hv
  rcases ho.2 with ⟨_, h0⟩ | ⟨g, cap, cur, hv', hg, hblk, _⟩
  · omega
  · rw [hv'] at he
    injection he with e1 e2 e3
    subst e1 e3
    refine ⟨g, cap, cur, by rw [hv'], hg, ⟨hblk, fun p hp => ?_⟩, hlc, hb⟩
    obtain ⟨ad, e4, hc⟩ := Kd.at_int hC (p : Int) (by omega) (by omega)
    injection e4 with e4
    subst e4
    rw [Go.WideShapes.add_plain, blk_cell hblk] at hc
    simpa using hc
end
theorem nx_hit {t : S23} {d : Int} (od : Okd t d) {u : St} (I : Inv t d u) : ∃ u' e', nx t d u true = (u', e') ∧ Inv t d u' ∧ (e' == 4) = false ∧ (e' == 1) = false ∧ u.fl ≤ u'.fl ∧ u'.fl ≤ u.fl + 1 := by
  have T := nx_tick od.1 od.2.2.2.2.1 od.2.2.2.2.2 I true
  revert T
  generalize nx t d u true = q
  intro T
  cases T with
  | runs u' e1 e2 e3 e4 e5 e6 e7 => exact ⟨u', 0, rfl, e2, rfl, rfl, by omega, by omega⟩
  | passed u' e1 e0 e2 e3 e4 e5 e6 e7 e8 e9 => simp at e2
  | failed u' e e1 e2 e3 e4 e5 e6 e7 e8 e9 => exact ⟨u', e, rfl, e4, beq_eq_false_iff_ne.mpr (by omega), beq_eq_false_iff_ne.mpr (by omega), by omega, by omega⟩
  | done u' e1 e2 e3 e4 e5 e6 e7 e8 => simp at e2
end Go.Proofs.Ytkedmmimcmignaa.PS
