/- The plain law of a task alone: its response time. -/
import Derived.Test.YtnidcoooenhebaaGp
namespace Go.Proofs.Ytnidcoooenhebaa.PS
open Go.RowKit Go.Proofs.Ytnidcoooenhebaa.PC Go.Proofs.YtnidcoooenhebaaW.PrintWords Go.Proofs.YtnidcoooenhebaaW.PrintLast Go.Proofs.YtnidcoooenhebaaW.PrintMore
attribute [local go_sem] max2_int min2_int max_two min_two max_three min_three max_four min_four   -- for this text's walks alone
set_option linter.unusedVariables false
set_option linter.unusedSimpArgs false
theorem ex_nn {t : S39} (ok : OkT t) : 0 ≤ ex t ∧ ex t ≤ 1049576 := by
  have hn := ok.nums
  unfold ex
  by_cases c : t.f9 = 1
  · have := ok.seg c; rw [if_pos c]; omega
  · have := ok.alt c; rw [if_neg c]; omega
theorem OkS.one {B : Int} {t : S39} (h0 : 1 ≤ B) (h1 : B ≤ 1000) (ok : OkT t) : OkS B [t] := by
  refine ⟨h0, h1, by simp, by simp, fun j hj => ?_⟩
  obtain rfl : j = 0 := by simp at hj; exact hj
  exact ⟨ok, fun m hm => by omega⟩
/-- What may be called ahead of a task that is alone. -/
def cd (t : S39) : Int := if t.f9 = 3 then ex t else 0
def want (B : Int) (t : S39) : Int := wh t + cd t + B * ex t
theorem cd_nn {t : S39} (ok : OkT t) : 0 ≤ cd t ∧ cd t ≤ 1049576 := by
  have := ex_nn ok
  unfold cd; split <;> omega
theorem want_bd {B : Int} {t : S39} (h0 : 1 ≤ B) (h1 : B ≤ 1000) (ok : OkT t) : (0 ≤ B * ex t ∧ B * ex t ≤ 1049576000) ∧ 1 ≤ want B t := by
  have he := ex_nn ok
  have hc := cd_nn ok
  have hw := wh_bd ok
  have hn := ok.nums
  have := mul_bd (a := B) (b := ex t) (c := 1000) (d := 1049576) (by omega) h1 he.1 he.2
  refine ⟨⟨this.1, by omega⟩, ?_⟩
  unfold want; omega
theorem alone_nxt {B : Int} {t : S39} (h0 : 1 ≤ B) (h1 : B ≤ 1000) (ok : OkT t) {w : Int} (hw : 1 ≤ w) (hw2 : w ≤ 1048576) : nxt B 1049576 [t] 0 w = want B t := by
  have he := ex_nn ok
  have hr : rd_T39 [t] 0 = t := rfl
  have hfd : fD t.f10 t = true := by unfold fD; simp
  have hfa : fA t.f10 t = (t.f9 == 3) := by unfold fA; simp
  have hd : dr [t] 0 = ex t := by
    unfold dr; rw [hr]; simp only [mxs, hfd, if_true]; unfold mx; split <;> omega
  have ha : ah [t] 0 = cd t := by
    unfold ah cd; rw [hr]; simp only [mxs, hfa]
    by_cases c : t.f9 = 3
    · have hb : (t.f9 == 3) = true := by simpa using c
      rw [if_pos hb, if_pos c]; unfold mx; split <;> omega
    · have hb : (t.f9 == 3) = false := by simpa using c
      rw [hb, if_neg c]; rfl
  have hp : pl w t.f10 [t] = [] := by simp [pl]
  have hm : mst w B 1049576 = 1 := by
    unfold mst; rw [if_neg (by omega)]; unfold cl; omega
  unfold nxt want
  rw [hd, ha, hr, hp, hm]; simp only [su]; omega
theorem alone {B : Int} {t : S39} (h0 : 1 ≤ B) (h1 : B ≤ 1000) (ok : OkT t) : rsp B 1049576 [t] 0 = if want B t ≤ t.f2 then (want B t, true) else (0, false) := by
  have hn := ok.nums
  have hw := want_bd h0 h1 ok
  have hr : rd_T39 [t] 0 = t := rfl
  rcases rsp_sum (OkS.one h0 h1 ok) (show (1 : Int) ≤ 1049576 by omega) (i := 0) (by omega) (by simp) with ⟨r, e, b1, b2, b3, _⟩ | ⟨e, b⟩
  · rw [hr] at b2
    rw [alone_nxt h0 h1 ok b1 (by omega)] at b3
    rw [e, b3, if_pos b2]
  · rw [hr] at b
    rw [e, if_neg]
    intro c
    have := b (want B t) (by omega) c
    rw [alone_nxt h0 h1 ok hw.2 (by omega)] at this
    omega
theorem eqg_int (n : Nat) (a : Int) (W : World) : (Op.equalIn (n + 1) 3 (.int .i64 a) (.int .i64 a)).run Try.prog W = .ok true W := by
  rw [run_equalIn_int (k' := .i64) (d := n) (h := Try.underlying3)]; simp
theorem eqg_str (n : Nat) (a : ByteArray) (W : World) : (Op.equalIn (n + 1) 9 (.string a) (.string a)).run Try.prog W = .ok true W := by
  rw [run_equalIn_string (d := n) (h := Try.underlying9)]; simp
theorem eq_task (W : World) (t : S39) (A : Array Value) (hA : A = TA t) : (binOp .eql 39 (.agg A) (.agg A)).run Try.prog W = .ok (.bool true) W := by
  have hi := eqg_int 9998
  have hs := eqg_str 9998
  rw [hA, run_eql_struct, run_equalIn_agg (d := 9999) (ht := by kernel_rfl) (hp := by kernel_rfl)]
  unfold Program.fieldsOf
  rw [Try.underlying39]
  simp [Op.eqFields, go_sem, TA, hi, hs]
theorem eq_op {o : Oper} {a : Act} {w : World} (x y : Operand) {t : S39} {A : Array Value} (ho : o.op = .binOp .eql 39 x y 39) (hx : a.eval x = .agg A) (hy : a.eval y = .agg A) (hA : A = TA t) : (execOp a.eval o).run Try.prog w = .ok (.value (.bool true)) w := by
  have h := eq_task w t A hA
  have hg : (eqGuard .eql 39 x y (.agg A) (.agg A)).run Try.prog w = .ok () w := run_eqGuard_agg w .eql 39 x y _ _ (by kernel_rfl)
  unfold execOp
  simp only [ho, hx, hy, Sem.run_bind, hg, h, Result.andThen_ok, Sem.run_pure]
theorem one_C {w : World} {g : Nat} {A : Array Value} (h : w.heap[g]? = some (.cells A 39 (0, 0))) (x : S39) (hA : A = TA x) : Kd.C k39 w (some ⟨g, 0, none⟩) [x].length [x] := by
  refine ⟨rfl, by simp, fun _ => ⟨_, rfl, fun j p hj => ?_⟩⟩
  match j, hj with
  | 0, hj =>
    obtain rfl := Option.some.inj hj
    refine ⟨_, rfl, k39_mk w x, fun i u hu => ?_⟩
    have hs : k39.sz = 11 := rfl
    rw [Go.WideShapes.add_plain, hs, blk_cell h, hA]
    rw [show 0 + (0 * 11 + i) = i by omega]
    simpa [TA] using hu
  | j + 1, hj => simp at hj
end Go.Proofs.Ytnidcoooenhebaa.PS
