/- Seat 22's contracts, a struct's cells as one array. -/
import Derived.Test.YtpjehbcchanmhaaRec
import Derived.Test.YtpjehbcchanmhaaSetArgs
import Derived.Test.YtpjehbcchanmhaaPCw
import Derived.Test.YtpjehbcchanmhaaPCe
namespace Go.Proofs.Ytpjehbcchanmhaa.PS
open Go.RowKit Go.Proofs.Ytpjehbcchanmhaa.PC Go.Proofs.YtpjehbcchanmhaaW.PrintWords Go.Proofs.YtpjehbcchanmhaaW.PrintLast
set_option linter.unusedVariables false
/-- A task's cells; a run's; a job's first seven. -/
def TA (t : S28) : Array Value := #[.string t.f0, .int .i64 t.f1, .int .i64 t.f2, .int .i64 t.f3, .int .i64 t.f4, .int .i64 t.f5, .int .i64 t.f6, .int .i64 t.f7, .int .i64 t.f8, .int .i64 t.f9, .int .i64 t.f10]
def RA (t : S28) (d : Int) (s : St) : Array Value := TA t ++ #[.int .i64 d, .int .i64 (s.p : Int), .int .i64 s.left, .bool s.str, .int .i64 s.fl]
def JP (a no rel dl : Int) (must over bg : Bool) : Array Value := #[.int .i64 a, .int .i64 no, .int .i64 rel, .int .i64 dl, .bool must, .bool over, .bool bg]
theorem TA_one (t : S28) : (TA t).all (·.oneCell') = true := by unfold TA; simp [Value.oneCell']
theorem RA_one (t : S28) (d : Int) (s : St) : (RA t d s).all (·.oneCell') = true := by unfold RA TA; simp [Value.oneCell']
theorem aw_c (W : World) : Calls Try.prog 8 #[] W fun e w' => e = .returned (.bool true) ∧ Below W.heap.size W w' := awake_walk W
/-- How a run begins. -/
def ini (t : S28) (d : Int) : St := ⟨0, rd (pt t d) (0 : Nat), false, 0⟩
section
variable {t : S28} {d : Int} (ok : OkT t) (h1 : 1 ≤ d) (h2 : d ≤ t.f3)
include ok h1 in
theorem len_pos : 0 < (pt t d).length := (pt_mono ok h1 (Int.le_refl d)).2.2.2
include ok h1 h2 in
theorem begin_ev : Ev (fun k => recover_Begin.f k t.f0 t.f1 t.f2 t.f3 t.f4 t.f5 t.f6 t.f7 t.f8 t.f9 t.f10 d) (tup t d (ini t d) 0) := by
  have hl := len_pos ok h1
  unfold recover_Begin.f
  refine Ev.bind (parts_ev ok d h1 h2) ?_
  rw [if_neg (by omega), if_pos (by omega)]
  exact Ev.now _
include ok h1 h2 in
theorem begin_c (W : World) (A R : Array Value) (hA : A = TA t) (hR : R = RA t d (ini t d)) : Calls Try.prog 21 #[.agg A, .int .i64 d] W fun e w' => e = .returned (.tuple #[.agg R, .int .i64 0]) ∧ Below W.heap.size W w' := by
  subst hA hR
  obtain ⟨k, h⟩ := (begin_ev ok h1 h2).rounds
  exact recover_Begin.calls k _ _ _ _ _ _ _ _ _ _ _ _ _ _ _ _ _ _ _ _ _ _ _ _ _ _ _ _ _ W h
end
theorem cut_c (t : S28) (x : Int) (W : World) (A : Array Value) (hA : A = TA t) : Calls Try.prog 20 #[.agg A, .int .i64 x] W fun e w' => e = .returned (.tuple #[.int .i64 (mn (mx x 1) t.f3), .bool (decide (x > t.f3))]) ∧ Below W.heap.size W w' := by
  subst hA
  exact demand_Cut.calls _ _ _ _ _ _ _ _ _ _ _ _ _ _ W rfl
/-- A right set's task in memory. -/
theorem row_at {W : World} {A : Option Addr} {l : List S28} (hC : Kd.C k28 W A l.length l) {i : Int} (h0 : 0 ≤ i) (h1 : i < (l.length : Int)) : ∃ ad, A = some ad ∧ ∀ j v, (TA (rd_T28 l i)).toList[j]? = some v → W.cell? ((ad.add (i.toNat * 11)).add j) = some v := by
  obtain ⟨ad, c, e, _, hK, hc⟩ := Kd.C_get hC z28 i h0 h1
  refine ⟨ad, e, fun j v hv => ?_⟩
  obtain rfl := k28_open hK
  rw [Addr.add_add]
  exact hc j v hv
/-- A job of a right set. -/
theorem new_c {W : World} {A : Option Addr} {l : List S28} {cap : Nat} {B : Int} (hC : Kd.C k28 W A l.length l) {i no rel x n : Int} {must : Bool} (h0 : 0 ≤ i) (h1 : i < (l.length : Int)) (hno : 0 ≤ no) (hr : 0 ≤ rel) (hr2 : rel ≤ 1099511627776) (ok : OkT (rd_T28 l i)) (hn : mn (mx x 1) (rd_T28 l i).f3 = n)
    (S J : Array Value) (hS : S = #[.int .i64 B, .slice A l.length cap]) (hJ : J = JP i no rel (rel + (rd_T28 l i).f2) must (decide (x > (rd_T28 l i).f3)) false ++ RA (rd_T28 l i) n (ini (rd_T28 l i) n)) :
    Calls Try.prog 11 #[.agg S, .int .i64 i, .int .i64 no, .int .i64 rel, .int .i64 x, .bool must] W fun e w' => e = .returned (.tuple #[.agg J, .int .i64 0]) ∧ Below W.heap.size W w' := by
  subst hS hJ
  obtain ⟨ad, rfl, hrow⟩ := row_at hC h0 h1
  have hnums := ok.nums
  have n1 : 1 ≤ n := by rw [← hn]; unfold mn mx; split <;> split <;> omega
  have n2 : n ≤ (rd_T28 l i).f3 := by rw [← hn]; unfold mn mx; split <;> split <;> omega
  have hw : rel + (rd_T28 l i).f2 = wrap64 (rel + (rd_T28 l i).f2) := by rw [w64 (by omega) (by omega)]
  rw [hw]
  refine (new_ok W B ad l.length cap i no rel x must (by omega) (by omega) (by omega) (by omega) (by omega) (TA (rd_T28 l i)) (RA (rd_T28 l i) n (ini (rd_T28 l i) n)) (rd_T28 l i).f2 n (decide (x > (rd_T28 l i).f3)) hrow rfl (TA_one _) rfl rfl (RA_one _ _ _) (fun W => ?_) (fun W => begin_c ok n1 n2 W _ _ rfl rfl)).mono ?_
  · have := cut_c (rd_T28 l i) x W _ rfl
    rwa [hn] at this
  · rintro e w' ⟨rfl, hb⟩
    exact ⟨rfl, hb⟩
end Go.Proofs.Ytpjehbcchanmhaa.PS
