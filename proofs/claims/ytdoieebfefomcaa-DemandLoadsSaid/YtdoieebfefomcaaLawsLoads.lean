/- Of the laws of seat 14: what the printed functions compute is true. -/
import Derived.Test.YtdoieebfefomcaaLawsH
import Derived.Test.YtdoieebfefomcaaSetArgs
import Derived.Test.YtdoieebfefomcaaPCx9
namespace Go.Proofs.Ytdoieebfefomcaa.PS
open Go.RowKit Go.Proofs.Ytdoieebfefomcaa.PC Go.Proofs.YtdoieebfefomcaaW.PrintWords Go.Proofs.YtdoieebfefomcaaW.PrintLast
set_option linter.unusedVariables false
theorem dropT_cons {l r : List S23} {i : Nat} {x : S23} (h : l.drop i = x :: r) : i < l.length ∧ rd_T23 l (i : Int) = x ∧ l.drop (i + 1) = r := by
  have hl : i < l.length := by
    apply Classical.byContradiction; intro hn
    rw [List.drop_eq_nil_of_le (by omega)] at h; cases h
  rw [List.drop_eq_getElem_cons hl] at h
  injection h with h1 h2
  refine ⟨hl, ?_, h2⟩
  simp [rd_T23, List.getD_eq_getElem?_getD, hl, h1]
theorem dropT_nil {l : List S23} {i : Nat} (h : l.drop i = []) : l.length ≤ i := by simpa using h
theorem few_l0 (B : Int) (l : List S23) : ∀ (n i : Nat), i ≤ 41 → 41 - i = n → Tot (fun k => pendulumref05_Few.l0 k (i : Int) B l) (fun b => b = true → l.length ≤ 30) := by
  intro n
  induction n with
  | zero =>
    intro i _ h
    have hj : Tot (fun k => pendulumref05_Few.j1 k (i : Int) false B l) (fun b => b = true → l.length ≤ 30) := by
      refine Tot.succ ?_
      simp only [pendulumref05_Few.j1]
      exact Tot.now (fun h => by have := of_decide_eq_true h; omega)
    refine Tot.succ ?_
    simp only [pendulumref05_Few.l0, show decide ((i : Int) < 40) = false by simp; omega]
    exact Tot.ite (fun _ => hj) (fun _ => hj)
  | succ n ih =>
    intro i hi h
    have hj : Tot (fun k => pendulumref05_Few.j1 k (i : Int) false B l) (fun b => b = true → l.length ≤ 30) := by
      refine Tot.succ ?_
      simp only [pendulumref05_Few.j1]
      exact Tot.now (fun h => by have := of_decide_eq_true h; omega)
    refine Tot.succ ?_
    simp only [pendulumref05_Few.l0]
    refine Tot.ite (fun c => ?_) (fun _ => hj)
    by_cases d : (i : Int) < 40
    · rw [decide_eq_true d]
      refine Tot.succ ?_
      simp only [pendulumref05_Few.j1, w1 (n := i) (by omega)]
      refine Tot.ite (fun _ => ?_) (fun e => (e trivial).elim)
      refine Tot.ite (fun _ => ?_) (fun e => by omega)
      refine Tot.ite (fun _ => ?_) (fun e => (e c).elim)
      exact Tot.ite (fun _ => Tot.now (fun h => by cases h)) (fun _ => ih (i + 1) (by omega) (by omega))
    · rw [decide_eq_false d]; exact hj
theorem few_tot (B : Int) (l : List S23) : Tot (fun k => pendulumref05_Few.f k B l) (fun b => b = true → l.length ≤ 30) := few_l0 B l 41 0 (by omega) rfl
/-- A task's load. -/
def ld (t : S23) : Int := cl (1000 * wh t) t.f1
theorem ld_bd {t : S23} (ok : OkT t) : 0 ≤ ld t ∧ ld t ≤ 1049624576000 := by
  have hn := ok.nums
  have hw := wh_bd ok
  have h1 := cl_nonneg (a := 1000 * wh t) (b := t.f1) (by omega) (by omega)
  have h2 := cl_le (a := 1000 * wh t) (b := t.f1) (by omega) (by omega)
  unfold ld; omega
theorem load_l0 (B : Int) (l : List S23) (hl : l.length ≤ 16) (ok : ∀ x ∈ l, OkT x) : ∀ (r : List S23) (i : Nat) (n : Int), l.drop i = r → 0 ≤ n → n ≤ 1049624576000 * i → Ev (fun k => demand_Load.l0 k n l (l.length : Int) (i : Int) B l) (n + su (r.map ld), (l.length : Int)) := by
  intro r
  induction r with
  | nil =>
    intro i n h _ _
    have := dropT_nil h
    refine Ev.step (f := fun _ => some _) (fun k => ?_) (Ev.now _)
    simp only [demand_Load.l0]
    rw [if_neg (by omega)]; simp [su]
  | cons x r ih =>
    intro i n h h0 hb
    obtain ⟨hi, hx, hd⟩ := dropT_cons h
    have okx := ok x (List.mem_of_mem_drop (h ▸ List.mem_cons_self ..))
    have hn := okx.nums
    have hw := wh_bd okx
    have hld := ld_bd okx
    have := ih (i + 1) (n + ld x) hd (by omega) (by omega)
    rw [show n + su ((x :: r).map ld) = n + ld x + su (r.map ld) by simp only [List.map_cons, su]; omega]
    refine Ev.step (f := fun k => (demand_Whole.f k x.f0 x.f1 x.f2 x.f3 x.f4 x.f5 x.f6 x.f7 x.f8 x.f9 x.f10).bind _) (fun k => by simp only [demand_Load.l0]; rw [if_pos (by omega), if_pos (by omega), if_pos (by omega), hx]) ?_
    refine Ev.bind (whole_ev okx) ?_
    rw [w64 (x := 1000 * wh x) (by omega) (by omega)]
    refine Ev.bind (ceil_ev (1000 * wh x) x.f1 (by omega) (by omega) (by omega) (by omega)) ?_
    rw [w1 (n := i) (by omega), w64 (x := n + cl (1000 * wh x) x.f1) (by unfold ld at hld; omega) (by unfold ld at hld; omega)]
    exact this
theorem loads_l0 (B : Int) (l : List S23) (hl : l.length ≤ 16) (ok : ∀ x ∈ l, OkT x) : ∀ (r : List S23) (i : Nat) (n : Int), l.drop i = r → 0 ≤ n → n ≤ 1049624576000 * i → n + su (r.map ld) = su (l.map ld) → Ev (fun k => pendulumlaw14_DemandLoads.l0 k n (i : Int) B l) true := by
  intro r
  induction r with
  | nil =>
    intro i n h _ _ hs
    have := dropT_nil h
    refine Ev.step (f := fun k => (demand_Load.f k B l).bind _) (fun k => by simp only [pendulumlaw14_DemandLoads.l0]; rw [if_neg (by omega)]) ?_
    refine Ev.bind (a := (su (l.map ld), (l.length : Int))) ?_ ?_
    · unfold demand_Load.f
      have := load_l0 B l hl ok l 0 0 rfl (by omega) (by omega)
      simpa using this
    · simp only [List.map_nil, su, Int.add_zero] at hs
      simp only [hs, if_true, BEq.rfl]
      exact Ev.now _
  | cons x r ih =>
    intro i n h h0 hb hs
    obtain ⟨hi, hx, hd⟩ := dropT_cons h
    have okx := ok x (List.mem_of_mem_drop (h ▸ List.mem_cons_self ..))
    have hn := okx.nums
    have hw := wh_bd okx
    have hld := ld_bd okx
    have hih := ih (i + 1) (n + ld x) hd (by omega) (by omega) (by rw [← hs]; simp only [List.map_cons, su]; omega)
    have hlw : wrap64 (n + wrap64 (Int.tdiv (wrap64 (wrap64 (wrap64 (1000 * wh x) + x.f1) - 1)) x.f1)) = n + ld x := by
      have e : Int.tdiv (1000 * wh x + x.f1 - 1) x.f1 = ld x := by rw [Int.tdiv_eq_ediv_of_nonneg (by omega)]; rfl
      rw [w64 (x := 1000 * wh x) (by omega) (by omega), w64 (x := 1000 * wh x + x.f1) (by omega) (by omega), w64 (x := 1000 * wh x + x.f1 - 1) (by omega) (by omega), e, w64 (x := ld x) (by omega) (by omega), w64 (x := n + ld x) (by omega) (by omega)]
    by_cases c : x.f9 = 1
    · have hsg := okx.seg c
      have hc0 := cl_nonneg (a := x.f3) (b := x.f5) (by omega) hsg.1
      have hc1 := cl_le (a := x.f3) (b := x.f5) (by omega) hsg.1
      have h3 : 0 ≤ cl x.f3 x.f5 * x.f6 := Int.mul_nonneg hc0 (by omega)
      have h4 : cl x.f3 x.f5 * x.f6 ≤ 1048576 * 1000 := Int.mul_le_mul (by omega) (by omega) (by omega) (by omega)
      have hww : wrap64 (x.f3 + wrap64 (wrap64 (Int.tdiv (wrap64 (wrap64 (x.f3 + x.f5) - 1)) x.f5) * x.f6)) = wh x := by
        have e : Int.tdiv (x.f3 + x.f5 - 1) x.f5 = cl x.f3 x.f5 := by rw [Int.tdiv_eq_ediv_of_nonneg (by omega)]; rfl
        rw [w64 (x := x.f3 + x.f5) (by omega) (by omega), w64 (x := x.f3 + x.f5 - 1) (by omega) (by omega), e, w64 (x := cl x.f3 x.f5) (by omega) (by omega), w64 (x := cl x.f3 x.f5 * x.f6) (by omega) (by omega), w64 (x := x.f3 + cl x.f3 x.f5 * x.f6) (by omega) (by omega)]
        unfold wh; rw [if_pos c]
      refine Ev.step (f := fun k => (demand_Whole.f k x.f0 x.f1 x.f2 x.f3 x.f4 x.f5 x.f6 x.f7 x.f8 x.f9 x.f10).bind fun t238 => if t238 = wh x then (pendulumlaw14_DemandLoads.l0 k (n + ld x) ((i + 1 : Nat) : Int) B l) else some false) (fun k => ?_) ?_
      · simp only [pendulumlaw14_DemandLoads.l0, hx, hww, hlw, w1 (n := i) (show i ≤ 1000000000000000 by omega)]
        rw [if_pos (by omega), if_pos (by omega), if_pos c, if_neg (by omega)]
        simp only [if_neg (show ¬ x.f1 = 0 by omega)]
      · refine Ev.bind (whole_ev okx) ?_
        simp only [if_true]
        exact hih
    · have hww : wrap64 (x.f3 + x.f6) = wh x := by
        rw [w64 (x := x.f3 + x.f6) (by omega) (by omega)]
        unfold wh; rw [if_neg c]
      refine Ev.step (f := fun k => (demand_Whole.f k x.f0 x.f1 x.f2 x.f3 x.f4 x.f5 x.f6 x.f7 x.f8 x.f9 x.f10).bind fun t238 => if t238 = wh x then (pendulumlaw14_DemandLoads.l0 k (n + ld x) ((i + 1 : Nat) : Int) B l) else some false) (fun k => ?_) ?_
      · simp only [pendulumlaw14_DemandLoads.l0, hx, hww, hlw, w1 (n := i) (show i ≤ 1000000000000000 by omega)]
        rw [if_pos (by omega), if_pos (by omega), if_neg c]
        simp only [if_neg (show ¬ x.f1 = 0 by omega)]
      · refine Ev.bind (whole_ev okx) ?_
        simp only [if_true]
        exact hih
theorem mem_ok {B : Int} {l : List S23} (h : OkS B l) : ∀ x ∈ l, OkT x := by
  intro x hx
  obtain ⟨i, hi, rfl⟩ := List.mem_iff_getElem.1 hx
  have := (h.2.2.2.2 i hi).1
  simpa [rd_T23, List.getD_eq_getElem?_getD, hi] using this
theorem DemandLoads (B : Int) (l : List S23) : Ev (fun k => pendulumlaw14_DemandLoads.f k B l) true := by
  unfold pendulumlaw14_DemandLoads.f
  have hT : Ev (fun k => pendulumlaw14_DemandLoads.j0 k true B l) true := by
    refine Ev.step (f := fun k => (pendulumlaw14_awake.f k).bind fun x => some x) (fun k => ?_) (Ev.bind awake_ev (Ev.now _))
    simp only [pendulumlaw14_DemandLoads.j0]; rfl
  refine Ev.bind awake_ev ?_
  simp only [if_true]
  obtain ⟨b, hb, hp⟩ := few_tot B l
  refine Ev.bind hb ?_
  by_cases d : b = true
  · simp only [if_pos d]
    obtain ⟨c, hc, hq⟩ := right_tot B l
    refine Ev.bind hc ?_
    cases c with
    | false => exact hT
    | true =>
      have ok := hq rfl
      refine Ev.step (fun k => ?_) (loads_l0 B l ok.2.2.2.1 (mem_ok ok) l 0 0 rfl (by omega) (by omega) (by omega))
      simp only [pendulumlaw14_DemandLoads.j0]; rfl
  · simp only [if_neg d]; exact hT
theorem loads_walk (w : World) (B : Int) (A : Option Addr) (l : List S23) (cap : Nat) (hc : l.length ≤ cap) (hr : Kd.C k23 w A l.length l) : Calls Try.prog 5 #[.agg #[.int .i64 B, .slice A l.length cap]] w fun e w' => e = .returned (.bool true) ∧ Below w.heap.size w w' := by
  obtain ⟨k, h⟩ := Ev.rounds (DemandLoads B l)
  exact pendulumlaw14_DemandLoads.calls k _ _ _ _ true w hr hc h
end Go.Proofs.Ytdoieebfefomcaa.PS
