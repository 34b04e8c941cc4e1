/- What seat 22's laws share: Few, Right of a set in memory. -/
import Derived.Laws.StructEq
import Derived.Test.YtpjehbcchanmhaaLB
namespace Go.Proofs.Ytpjehbcchanmhaa.PS
open Go.RowKit Go.Proofs.Ytpjehbcchanmhaa.PC Go.Proofs.YtpjehbcchanmhaaW.PrintWords Go.Proofs.YtpjehbcchanmhaaW.PrintLast Go.Proofs.YtpjehbcchanmhaaW.PrintMore
set_option linter.unusedVariables false
set_option linter.unusedSimpArgs false
theorem few_l0 (B : Int) (l : List S28) : ∀ (n i : Nat), i ≤ 41 → 41 - i = n → Tot (fun k => pendulumref05_Few.l0 k (i : Int) B l) (fun b => b = true → l.length ≤ 30) := by
  intro n
  induction n with
  | zero =>
    intro i _ h
    have hj : Tot (fun k => pendulumref05_Few.j1 k (i : Int) false B l) (fun b => b = true → l.length ≤ 30) := by
      refine Tot.succ ?_
      simp only [pendulumref05_Few.j1]
      exact Tot.now (fun h => by have := of_decide_eq_true h; omega)
    refine Tot.succ ?_
    simp only [pendulumref05_Few.l0, show decide ((i : Int) < 40) = false by simp; omega]
    exact Tot.ite (fun _ => hj) (fun _ => hj)
  | succ n ih =>
    intro i hi h
    have hj : Tot (fun k => pendulumref05_Few.j1 k (i : Int) false B l) (fun b => b = true → l.length ≤ 30) := by
      refine Tot.succ ?_
      simp only [pendulumref05_Few.j1]
      exact Tot.now (fun h => by have := of_decide_eq_true h; omega)
    refine Tot.succ ?_
    simp only [pendulumref05_Few.l0]
    refine Tot.ite (fun c => ?_) (fun _ => hj)
    by_cases d : (i : Int) < 40
    · rw [decide_eq_true d]
      refine Tot.succ ?_
      simp only [pendulumref05_Few.j1, w1 (n := i) (by omega)]
      refine Tot.ite (fun _ => ?_) (fun e => (e trivial).elim)
      refine Tot.ite (fun _ => ?_) (fun e => by omega)
      refine Tot.ite (fun _ => ?_) (fun e => (e c).elim)
      exact Tot.ite (fun _ => Tot.now (fun h => by cases h)) (fun _ => ih (i + 1) (by omega) (by omega))
    · rw [decide_eq_false d]; exact hj
theorem few_tot (B : Int) (l : List S28) : Tot (fun k => pendulumref05_Few.f k B l) (fun b => b = true → l.length ≤ 30) := few_l0 B l 41 0 (by omega) rfl
theorem few_c {B : Int} {l : List S28} {b : Bool} (hb : Ev (fun k => pendulumref05_Few.f k B l) b) {w : World} {A : Option Addr} {cap : Nat} (hC : Kd.C k28 w A l.length l) (hc : l.length ≤ cap) {B0 : Nat} {W : World} (h0 : w.heap.size = B0) (hW : Below B0 w W) (S : Array Value) (hS : S = #[.int .i64 B, .slice A l.length cap]) :
    Calls Try.prog 9 #[.agg S] W fun e w' => e = .returned (.bool b) ∧ Below W.heap.size W w' := by
  subst hS h0
  obtain ⟨k, h⟩ := hb.rounds
  exact pendulumref05_Few.calls k _ _ _ _ b W (Kd.C_below hC hW) hc h
theorem right_c {B : Int} {l : List S28} {b : Bool} (hb : Ev (fun k => pendulumref05_Right.f k B l) b) {w : World} {A : Option Addr} {cap : Nat} (hC : Kd.C k28 w A l.length l) (hc : l.length ≤ cap) {B0 : Nat} {W : World} (h0 : w.heap.size = B0) (hW : Below B0 w W) (S : Array Value) (hS : S = #[.int .i64 B, .slice A l.length cap]) :
    Calls Try.prog 10 #[.agg S] W fun e w' => e = .returned (.bool b) ∧ Below W.heap.size W w' := by
  subst hS h0
  obtain ⟨k, h⟩ := hb.rounds
  exact pendulumref05_Right.calls k _ _ _ _ b W (Kd.C_below hC hW) hc h
theorem JP_size (a no rel dl : Int) (must over bg : Bool) : (JP a no rel dl must over bg).size = 7 := rfl
theorem JP_one (a no rel dl : Int) (must over bg : Bool) : (JP a no rel dl must over bg).all (·.oneCell') = true := by unfold JP; simp [Value.oneCell']
theorem JJ_size (a no rel dl : Int) (must over bg : Bool) (t : S28) (d : Int) (s : St) : (JP a no rel dl must over bg ++ RA t d s).size = 23 := by simp [JP, RA, TA]
theorem JJ_one (a no rel dl : Int) (must over bg : Bool) (t : S28) (d : Int) (s : St) : (JP a no rel dl must over bg ++ RA t d s).all (·.oneCell') = true := by
  rw [Array.all_append, JP_one, RA_one]; rfl
theorem JJ_at (a no rel dl : Int) (must over bg : Bool) (t : S28) (d : Int) (s : St) (i : Nat) (h : i < 7) : (JP a no rel dl must over bg ++ RA t d s)[i]? = (JP a no rel dl must over bg)[i]? := Array.getElem?_append_left (by simpa [JP] using h)
theorem JJ_run (a no rel dl : Int) (must over bg : Bool) (t : S28) (d : Int) (s : St) (i : Nat) : (JP a no rel dl must over bg ++ RA t d s)[7 + i]? = (RA t d s)[i]? := by
  rw [Array.getElem?_append_right (by simp [JP]), show 7 + i - (JP a no rel dl must over bg).size = i by simp [JP]]
theorem row_c {w W : World} {ad : Addr} {l : List S28} {B0 : Nat} (hC : Kd.C k28 w (some ad) l.length l) (h0 : w.heap.size = B0) (hW : Below B0 w W) {i : Int} (hi : 0 ≤ i) (hi1 : i < (l.length : Int)) {j : Nat} {v : Value} (hv : (TA (rd_T28 l i)).toList[j]? = some v) : W.cell? ((ad.add (i.toNat * 11)).add j) = some v := by
  subst h0
  obtain ⟨ad', e, h⟩ := row_at (Kd.C_below hC hW) hi hi1
  injection e with e
  subst e
  exact h j v hv
theorem late_b (W : World) (J : Array Value) (dl x : Int) (b : Bool) (h3 : J[3]? = some (.int .i64 dl)) (hb : decide (dl ≤ x) = b) : Calls Try.prog 14 #[.agg J, .int .i64 x] W fun e w' => e = .returned (.bool b) ∧ Below W.heap.size W w' := by
  subst hb
  exact late_c W J dl x h3
/-- A job's band. -/
def bnd (t : S28) (must : Bool) (s : St) : Int := if must = true then (if t.f9 = 3 ∧ (s.p : Int) = 1 then 0 else 1) else 2
theorem bnd_ini (t : S28) (must : Bool) (d : Int) : bnd t must (ini t d) = if must = true then 1 else 2 := by
  unfold bnd ini; simp
theorem urg_c (W : World) (R : Array Value) (t : S28) (d : Int) (s : St) (hR : R = RA t d s) (b : Bool) (hb : b = decide (t.f9 = 3 ∧ (s.p : Int) = 1)) : Calls Try.prog 24 #[.agg R] W fun e w' => e = .returned (.bool b) ∧ Below W.heap.size W w' := by
  subst hR hb
  refine recover_Urgent.calls _ _ _ _ _ _ _ _ _ _ _ _ _ _ _ _ _ W ?_
  unfold recover_Urgent.f
  by_cases h : t.f9 = 3
  · rw [if_pos h]
    by_cases h2 : (s.p : Int) = 1
    · simp [h, h2]
    · simp [h, h2]
  · rw [if_neg h]; simp [h]
theorem band_any (W : World) (J : Array Value) (a no rel dl : Int) (must over bg : Bool) (t : S28) (d : Int) (s : St) (hJ : J = JP a no rel dl must over bg ++ RA t d s) (b : Int) (hb : b = bnd t must s) : Calls Try.prog 18 #[.agg J] W fun e w' => e = .returned (.int .i64 b) ∧ Below W.heap.size W w' := by
  subst hJ hb
  have h4 : (JP a no rel dl must over bg ++ RA t d s)[4]? = some (.bool must) := JJ_at _ _ _ _ _ _ _ _ _ _ 4 (by decide)
  have zP : (JP a no rel dl must over bg).size = 7 := rfl
  have zR : (RA t d s).size = 16 := by unfold RA TA; simp
  unfold bnd
  cases must with
  | false => exact band_no W _ h4
  | true =>
    rw [if_pos rfl]
    by_cases h : t.f9 = 3 ∧ (s.p : Int) = 1
    · rw [if_pos h]; exact band_urg W _ _ zP zR h4 (fun W => urg_c W _ t d s rfl true (by simp [h]))
    · rw [if_neg h]; exact band_must W _ _ zP zR h4 (fun W => urg_c W _ t d s rfl false (by simp [h]))
theorem keyj_c (W : World) (J K : Array Value) (a no rel dl : Int) (must over bg : Bool) (t : S28) (d : Int) (s : St) (hJ : J = JP a no rel dl must over bg ++ RA t d s) (hK : K = #[.int .i64 (bnd t must s), .int .i64 t.f10, .int .i64 rel, .int .i64 a]) : Calls Try.prog 13 #[.agg J] W fun e w' => e = .returned (.agg K) ∧ Below W.heap.size W w' := by
  subst hK
  exact key_c W J _ _ _ _ (by rw [hJ, JJ_size]) (by rw [hJ]; exact JJ_run _ _ _ _ _ _ _ _ _ _ 10) (by rw [hJ]; exact JJ_at _ _ _ _ _ _ _ _ _ _ 2 (by decide)) (by rw [hJ]; exact JJ_at _ _ _ _ _ _ _ _ _ _ 0 (by decide)) (fun W => band_any W J a no rel dl must over bg t d s hJ _ rfl)
theorem key_cmp (W : World) (b p r i p' r' i' : Int) : (binOp .eql 38 (.agg #[.int .i64 b, .int .i64 p, .int .i64 r, .int .i64 i]) (.agg #[.int .i64 b, .int .i64 p', .int .i64 r', .int .i64 i'])).run Try.prog W = .ok (.bool (p == p' && (r == r' && i == i'))) W := by
  have hi : ∀ (a a' : Int) (W : World), (Op.equalIn 9999 3 (.int .i64 a) (.int .i64 a')).run Try.prog W = .ok (a == a') W := fun a a' W => by
    rw [run_equalIn_int (k' := .i64) (d := 9998) (h := Try.underlying3)]
  rw [run_eql_struct, run_equalIn_agg (d := 9999) (ht := by kernel_rfl) (hp := by kernel_rfl)]
  unfold Program.fieldsOf
  rw [Try.underlying38]
  cases h1 : (p == p') <;> cases h2 : (r == r') <;> cases h3 : (i == i') <;> simp [Op.eqFields, go_sem, hi, h1, h2, h3]
theorem below_to {B0 : Nat} {w W : World} (h0 : w.heap.size = B0) (h : Below B0 w W) : Below w.heap.size w W := h0 ▸ h
end Go.Proofs.Ytpjehbcchanmhaa.PS
