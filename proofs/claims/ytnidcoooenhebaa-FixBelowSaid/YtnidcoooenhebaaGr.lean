/- What a task below that isn't Backup changes: nothing. -/
import Derived.Test.YtnidcoooenhebaaGq
import Derived.Maps.AppendAt
import Derived.Great.BuildSlice
namespace Go.Proofs.Ytnidcoooenhebaa.PS
open Go.RowKit Go.Proofs.Ytnidcoooenhebaa.PC Go.Proofs.YtnidcoooenhebaaW.PrintWords Go.Proofs.YtnidcoooenhebaaW.PrintLast Go.Proofs.YtnidcoooenhebaaW.PrintMore
attribute [local go_sem] max2_int min2_int max_two min_two max_three min_three max_four min_four   -- for this text's walks alone
set_option linter.unusedVariables false
set_option linter.unusedSimpArgs false
def fl (l : List S39) : List Value := l.flatMap (fun t => (TA t).toList)
theorem TA_len (t : S39) : (TA t).toList.length = 11 := rfl
theorem fl_len : ∀ l : List S39, (fl l).length = l.length * 11 := by
  intro l
  induction l with
  | nil => rfl
  | cons t r ih => show ((TA t).toList ++ fl r).length = _; rw [List.length_append, TA_len, ih, List.length_cons]; omega
theorem fl_snoc (l : List S39) (t : S39) : fl (l ++ [t]) = fl l ++ (TA t).toList := by unfold fl; simp
theorem fl_get : ∀ (l : List S39) (i j : Nat) (t : S39), j < 11 → l[i]? = some t → (fl l)[i * 11 + j]? = (TA t).toList[j]? := by
  intro l
  induction l with
  | nil => intro i j t _ h; simp at h
  | cons x r ih =>
    intro i j t hj h
    show ((TA x).toList ++ fl r)[i * 11 + j]? = _
    cases i with
    | zero =>
      obtain rfl : x = t := by simpa using h
      rw [List.getElem?_append_left (by rw [TA_len]; omega)]; congr 1; omega
    | succ i =>
      rw [List.getElem?_append_right (by rw [TA_len]; omega), TA_len, show (i + 1) * 11 + j - 11 = i * 11 + j by omega]
      exact ih i j t hj (by simpa using h)
theorem fl_one (l : List S39) : ∀ u ∈ fl l, u.oneCell' = true := by
  intro u hu
  obtain ⟨t, _, ht⟩ := List.mem_flatMap.1 hu
  exact (Array.all_eq_true_iff_forall_mem.1 (TA_one t)) u (by simpa using ht)
theorem fl_cells {W : World} {ad : Addr} {l : List S39} (hC : Kd.C k39 W (some ad) l.length l) : ∀ (j : Nat) (u : Value), (fl l)[j]? = some u → W.cell? (ad.add j) = some u := by
  intro j u hu
  have hj : j < l.length * 11 := by rw [← fl_len]; exact (List.getElem?_eq_some_iff.1 hu).1
  have hi : j / 11 < l.length := Nat.div_lt_of_lt_mul (by omega)
  have hdm : j / 11 * 11 + j % 11 = j := by omega
  have hl : l[j / 11]? = some (rd_T39 l ((j / 11 : Nat) : Int)) := by
    unfold rd_T39
    rw [show (((j / 11 : Nat) : Int)).toNat = j / 11 from Int.toNat_natCast _, List.getD_eq_getElem?_getD, List.getElem?_eq_getElem hi]; rfl
  have hg := fl_get l (j / 11) (j % 11) _ (by omega) hl
  rw [hdm, hu] at hg
  obtain ⟨ad', e, h⟩ := row_at hC (i := ((j / 11 : Nat) : Int)) (by omega) (by omega)
  injection e with e
  subst e
  have := h (j % 11) u hg.symm
  rw [Addr.add_add] at this
  rwa [show (((j / 11 : Nat) : Int)).toNat * 11 + j % 11 = j by omega] at this
theorem fl_C {W : World} {base g n c : Nat} {l : List S39} (hn : n = l.length) (hl : n ≤ 1000) (h : W.ownsRow base 39 11 (.slice (some ⟨g, 0, none⟩) n c) n (fl l)) : Kd.C k39 W (some ⟨g, 0, none⟩) l.length l := by
  subst hn
  refine ⟨rfl, by omega, fun _ => ⟨_, rfl, fun j p hj => ?_⟩⟩
  refine ⟨_, rfl, k39_mk W p, fun i u hu => ?_⟩
  have hi : i < 11 := by have := (List.getElem?_eq_some_iff.1 hu).1; simpa using this
  have hg := fl_get l j i p hi hj
  have hs : k39.sz = 11 := rfl
  rw [hs]
  refine h.cells (g := g) rfl (j * 11 + i) u ?_
  rw [hg]; simpa [TA] using hu
theorem app_t (w : World) (N : Nat) (v : Value) (n : Nat) (xs : List Value) (hown : w.ownsRow N 39 11 v n xs) (ad : Addr) (m c : Nat) (news : List Value) (hl : news.length = m * 11) (hnews : ∀ j u, news[j]? = some u → w.cell? (ad.add j) = some u) (h1 : ∀ u ∈ news, u.oneCell' = true) (hnm : n + m ≤ 1000) (hbase : N ≤ w.heap.size) :
    ∃ v' w', (Builtin.append_ #[22, 22] 22 #[v, .slice (some ad) m c]).run Try.prog w = .ok v' w' ∧ w'.ownsRow N 39 11 v' (n + m) (xs ++ news) ∧ w.grownBy w' v.ownBlock ∧ (v'.ownBlock = v.ownBlock ∨ v'.ownBlock = some w.heap.size) := by
  have hinfo : (Try.prog.info? 39).map (fun i => (i.zero, i.size, i.bytes)) = some (some (.agg #[.string ⟨#[]⟩, .int .i64 0, .int .i64 0, .int .i64 0, .int .i64 0, .int .i64 0, .int .i64 0, .int .i64 0, .int .i64 0, .int .i64 0, .int .i64 0]), 11, 96) := by kernel_rfl
  obtain ⟨i0, hi, hzz⟩ := Option.map_eq_some_iff.1 hinfo
  simp only [Prod.mk.injEq] at hzz
  obtain ⟨hz0, hz1, hz2⟩ := hzz
  obtain ⟨v', w', hr, h2, h3, _, h5⟩ := run_append_own_at (P := Try.prog) w N 22 22 39 i0 _ 11 96 Try.underlying22 hi hz0 hz1 hz2 rfl (by omega) v n xs hown ad m c news hl hnews h1 (by simp only [maxLen]; omega) (by omega) hbase
  exact ⟨v', w', hr, h2, h3, h5⟩
theorem app_op {o : Oper} {a : Act} {w w1 : World} {v x v1 : Value} (s1 s2 : Operand) (ho : o.op = .call { callee := .builtin .append, args := #[s1, s2], argTypes := #[22, 22] }) (hty : o.type = 22) (hs : a.eval s1 = v) (hx : a.eval s2 = x) (hr : (Builtin.append_ #[22, 22] 22 #[v, x]).run Try.prog w = .ok v1 w1) : (execOp a.eval o).run Try.prog w = .ok (.value v1) w1 := by
  unfold execOp
  simp only [ho, hty, resolve, invoke, builtin, Sem.run_bind, Sem.run_pure, Result.andThen_ok, List.map_toArray, List.map_cons, List.map_nil, hs, hx, hr]
theorem bld_op {o : Oper} {a : Act} {w : World} (T : TypeId) (parts : Array (Nat × Operand)) (ho : o.op = .build T parts) {A : Array Value} (hb : Try.prog.built T (parts.map fun (i, x) => (i, a.eval x)).toList = some A) : (execOp a.eval o).run Try.prog w = .ok (.value (.agg A)) w := by
  unfold execOp
  simp only [ho, Sem.run_bind, run_build w T _ A hb, Result.andThen_ok, Sem.run_pure]
/-- The task below. -/
def lo : S39 := ⟨⟨#[122, 122, 122]⟩, 9, 9, 9, 9, 0, 7, 1, 1, 2, 255⟩
def NoLow (l : List S39) (n : Nat) : Prop := ∀ m : Nat, m < n → ¬ (rd_T39 l m).f10 = 255 ∧ (rd_T39 l m).f0 ≠ ⟨#[122, 122, 122]⟩
theorem rd_app {l : List S39} (r : List S39) {j : Nat} (h : j < l.length) : rd_T39 (l ++ r) j = rd_T39 l j := by
  simp [rd_T39, List.getD_eq_getElem?_getD, List.getElem?_append_left h]
theorem rd_app' {l : List S39} (r : List S39) {k : Int} (h0 : 0 ≤ k) (h : k < (l.length : Int)) : rd_T39 (l ++ r) k = rd_T39 l k := by
  have := rd_app r (l := l) (j := k.toNat) (by omega)
  rwa [show ((k.toNat : Nat) : Int) = k by omega] at this
theorem lo_ok : OkT lo := by unfold OkT lo; simp
theorem low_ok {B : Int} {l : List S39} (ok : OkS B l) (h15 : l.length ≤ 15) (hN : NoLow l l.length) : OkS B (l ++ [lo]) := by
  obtain ⟨o1, o2, o3, o4, o5⟩ := ok
  refine ⟨o1, o2, by simp, by simp; omega, fun j hj => ?_⟩
  have hj' : j < l.length + 1 := by simpa using hj
  by_cases c : j < l.length
  · obtain ⟨h1, h2⟩ := o5 j c
    refine ⟨by rw [rd_app _ c]; exact h1, fun m hm => ?_⟩
    rw [rd_app _ c, rd_app _ (by omega)]; exact h2 m hm
  · obtain rfl : j = l.length := by omega
    have e : rd_T39 (l ++ [lo]) ((l.length : Nat) : Int) = lo := by simp [rd_T39, List.getD_eq_getElem?_getD]
    refine ⟨by rw [e]; exact lo_ok, fun m hm => ?_⟩
    rw [e, rd_app _ hm]
    obtain ⟨h1, h2⟩ := hN m hm
    exact ⟨h1, fun h => h2 (by rw [ByteArray.toList_eq, ByteArray.toList_eq] at h; cases hq : (rd_T39 l m).f0 with | mk d => rw [hq] at h; congr 1; exact Array.toList_inj.1 h)⟩
section
variable {B g : Int} {l : List S39} {k : Int} (ok : OkS B l) (hN : NoLow l l.length) (h0 : 0 ≤ k) (h1 : k < (l.length : Int))
include ok hN h0 h1
theorem low_prio : (rd_T39 l k).f10 < 255 := by
  have oki := (dl_bd ok h0 h1).1
  have hn := (hN k.toNat (by omega)).1
  rw [show ((k.toNat : Nat) : Int) = k by omega] at hn
  unfold OkT at oki; omega
theorem low_dr : mxs (fD (rd_T39 (l ++ [lo]) k).f10) (l ++ [lo]) 0 = mxs (fD (rd_T39 l k).f10) l 0 := by
  have hp := low_prio ok hN h0 h1
  rw [rd_app' _ h0 h1, mxs_snoc]
  have hf : fD (rd_T39 l k).f10 lo = false := by unfold fD lo; simp; omega
  rw [hf]; rfl
omit ok hN in
theorem low_ah : mxs (fA (rd_T39 (l ++ [lo]) k).f10) (l ++ [lo]) 0 = mxs (fA (rd_T39 l k).f10) l 0 := by
  rw [rd_app' _ h0 h1, mxs_snoc]
  have hf : fA (rd_T39 l k).f10 lo = false := by unfold fA lo; simp
  rw [hf]; rfl
theorem low_rsp : rsp B g (l ++ [lo]) k = rsp B g l k := by
  have hp := low_prio ok hN h0 h1
  have e : nxt B g (l ++ [lo]) k = nxt B g l k := by
    funext w
    unfold nxt dr ah
    rw [low_dr ok hN h0 h1, low_ah h0 h1, rd_app' _ h0 h1, pl_snoc, if_neg (show ¬ lo.f10 < (rd_T39 l k).f10 by unfold lo; simp; omega)]
  unfold rsp
  rw [e, rd_app' _ h0 h1]
end
end Go.Proofs.Ytnidcoooenhebaa.PS
