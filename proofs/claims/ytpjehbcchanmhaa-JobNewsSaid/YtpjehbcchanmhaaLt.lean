/- What seat 22's laws over a task share. -/
import Derived.Test.YtpjehbcchanmhaaLc
import Derived.Test.YtpjehbcchanmhaaPCd
namespace Go.Proofs.Ytpjehbcchanmhaa.PS
open Go.RowKit Go.Proofs.Ytpjehbcchanmhaa.PC Go.Proofs.YtpjehbcchanmhaaW.PrintWords Go.Proofs.YtpjehbcchanmhaaW.PrintLast Go.Proofs.YtpjehbcchanmhaaW.PrintMore
set_option linter.unusedVariables false
set_option linter.unusedSimpArgs false
theorem right14_tot (t : S28) : Tot (fun k => pendulumref14_Right.f k t.f0 t.f1 t.f2 t.f3 t.f4 t.f5 t.f6 t.f7 t.f8 t.f9 t.f10) (fun b => b = true → OkT t) := by
  unfold pendulumref14_Right.f
  exact Tot.bind (right_tot 1 [t]) (fun v hv => Tot.now (fun h => ((hv h).2.2.2.2 0 (by simp)).1))
theorem right14_c {t : S28} {b : Bool} (hb : Ev (fun k => pendulumref14_Right.f k t.f0 t.f1 t.f2 t.f3 t.f4 t.f5 t.f6 t.f7 t.f8 t.f9 t.f10) b) (W : World) (A : Array Value) (hA : A = TA t) : Calls Try.prog 15 #[.agg A] W fun e w' => e = .returned (.bool b) ∧ Below W.heap.size W w' := by
  subst hA
  obtain ⟨k, h⟩ := hb.rounds
  exact pendulumref14_Right.calls k _ _ _ _ _ _ _ _ _ _ _ b W h
section
variable {t : S28} {d : Int} (ok : OkT t) (h1 : 1 ≤ d) (h2 : d ≤ t.f3)
include ok h1 in
theorem ini_inv : Inv t d (ini t d) := by
  have hl := len_pos ok h1
  have h0 := (pt_mem ok d h1 _ (rd_mem hl)).1
  have hd := su_drop hl; rw [Nat.zero_add] at hd
  have hg := su_nonneg (l := (pt t d).drop 1) (fun x hx => pt_nonneg ok h1 x (List.mem_of_mem_drop hx))
  have he := ex_bd ok
  simp only [List.drop_zero] at hd
  exact ⟨fun _ => ⟨hl, by simp [ini]⟩, fun _ => ⟨by simp [ini], by simp only [ini]; omega⟩, by simp only [ini]; omega⟩
include ok h1 h2 in
theorem step_c {s s' : St} {e' : Int} (I : Inv t d s) (hit : Bool) (hf : 0 ≤ s.fl) (hf2 : s.fl ≤ 1000000000000) (hq : nx t d s hit = (s', e')) (W : World) (A A' : Array Value) (hA : A = RA t d s) (hA' : A' = RA t d s') :
    Calls Try.prog 23 #[.agg A, .bool hit] W fun e w' => e = .returned (.tuple #[.agg A', .int .i64 e']) ∧ Below W.heap.size W w' := by
  subst hA hA'
  obtain ⟨k, h⟩ := (step_ev ok h1 h2 I hit hf hf2).rounds
  rw [hq] at h
  exact recover_Step.calls k _ _ _ _ _ _ _ _ _ _ _ _ _ _ _ _ _ _ _ _ _ _ _ _ _ _ _ _ _ _ _ _ _ _ W h
/-- What a job's tick makes of its run's. -/
def jx (must over : Bool) (u : St) (e : Int) : St × Int :=
  if e = 4 ∧ over = true then (⟨u.p, u.left, true, u.fl⟩, 2) else if (e = 2 ∨ e = 3) ∧ must = false then (⟨u.p, 0, u.str, u.fl⟩, 2) else (u, e)
theorem RA_size (t : S28) (d : Int) (s : St) : (RA t d s).size = 16 := by simp [RA, TA]
theorem RA_str (t : S28) (d : Int) (s : St) : (RA t d s).setIfInBounds 14 (.bool true) = RA t d ⟨s.p, s.left, true, s.fl⟩ := by simp [RA, TA]
theorem RA_left (t : S28) (d : Int) (s : St) (x : Int) : (RA t d s).setIfInBounds 13 (.int .i64 x) = RA t d ⟨s.p, x, s.str, s.fl⟩ := by simp [RA, TA]
theorem RA_13 (t : S28) (d : Int) (s : St) : (RA t d s)[13]? = some (.int .i64 s.left) := by simp [RA, TA]
theorem RA_14 (t : S28) (d : Int) (s : St) : (RA t d s)[14]? = some (.bool s.str) := by simp [RA, TA]
include ok h1 h2 in
theorem jstep_c {s u v : St} {e f : Int} (I : Inv t d s) (hit : Bool) (hf : 0 ≤ s.fl) (hf2 : s.fl ≤ 1000000000000) (hq : nx t d s hit = (u, e)) (a no rel dl : Int) (must over bg : Bool) (hv : jx must over u e = (v, f)) (W : World) (J J' : Array Value)
    (hJ : J = JP a no rel dl must over bg ++ RA t d s) (hJ' : J' = JP a no rel dl must over true ++ RA t d v) : Calls Try.prog 16 #[.agg J, .bool hit] W fun e w' => e = .returned (.tuple #[.agg J', .int .i64 f]) ∧ Below W.heap.size W w' := by
  subst hJ hJ'
  have HS := fun W => step_c ok h1 h2 I hit hf hf2 hq W _ _ rfl rfl
  have z := RA_size t d s
  have z1 := RA_size t d u
  have o1 := RA_one t d u
  unfold jx at hv
  unfold JP
  by_cases c4 : e = 4
  · cases over with
    | true =>
      rw [if_pos ⟨c4, rfl⟩] at hv
      injection hv with e1 e2
      subst e1 e2
      exact js_over W a no rel dl must true bg hit _ _ z z1 o1 e HS _ _ (RA_14 t d u) (RA_str t d u) (RA_size _ _ _) (RA_one _ _ _) c4 rfl
    | false =>
      rw [if_neg (by simp), if_neg (by omega)] at hv
      injection hv with e1 e2
      subst e1 e2
      exact js_done W a no rel dl must false bg hit _ _ z z1 o1 e HS trivial c4 rfl
  · rw [if_neg (fun h => c4 h.1)] at hv
    by_cases c2 : e = 2
    · cases must with
      | false =>
        rw [if_pos ⟨.inl c2, rfl⟩] at hv
        injection hv with e1 e2
        subst e1 e2
        exact js_drop2 W a no rel dl false over bg hit _ _ z z1 o1 e HS _ _ (RA_13 t d u) (RA_left t d u 0) (RA_size _ _ _) (RA_one _ _ _) c2 rfl
      | true =>
        rw [if_neg (by simp)] at hv
        injection hv with e1 e2
        subst e1 e2
        exact js_fail2 W a no rel dl true over bg hit _ _ z z1 o1 e HS trivial c2 rfl
    · by_cases c3 : e = 3
      · cases must with
        | false =>
          rw [if_pos ⟨.inr c3, rfl⟩] at hv
          injection hv with e1 e2
          subst e1 e2
          exact js_drop3 W a no rel dl false over bg hit _ _ z z1 o1 e HS _ _ (RA_13 t d u) (RA_left t d u 0) (RA_size _ _ _) (RA_one _ _ _) c3 rfl
        | true =>
          rw [if_neg (by simp)] at hv
          injection hv with e1 e2
          subst e1 e2
          exact js_fail3 W a no rel dl true over bg hit _ _ z z1 o1 e HS trivial c3 rfl
      · rw [if_neg (fun h => by omega)] at hv
        injection hv with e1 e2
        subst e1 e2
        exact js_runs W a no rel dl must over bg hit _ _ z z1 o1 e HS trivial c4 c2 c3
end
theorem mn_cap {x C : Int} (h1 : 1 ≤ C) (h : C ≤ x) : mn (mx x 1) C = C := by
  unfold mn mx; split <;> (try split) <;> omega
theorem new1_l {W : World} {A : Option Addr} {l : List S28} (hl : l.length = 1) (hC : Kd.C k28 W A l.length l) {t : S28} (e : rd_T28 l 0 = t) (ok : OkT t) {no rel x n : Int} {must ov : Bool} (hno : 0 ≤ no) (hr : 0 ≤ rel) (hr2 : rel ≤ 1099511627776) (hn : mn (mx x 1) t.f3 = n) (hov : decide (x > t.f3) = ov)
    (S J : Array Value) (hS : S = #[.int .i64 1, .slice A 1 1]) (hJ : J = JP 0 no rel (rel + t.f2) must ov false ++ RA t n (ini t n)) : Calls Try.prog 11 #[.agg S, .int .i64 0, .int .i64 no, .int .i64 rel, .int .i64 x, .bool must] W fun e w' => e = .returned (.tuple #[.agg J, .int .i64 0]) ∧ Below W.heap.size W w' := by
  subst e hov
  exact new_c (cap := 1) (B := 1) hC (Int.le_refl 0) (by omega) hno hr hr2 ok hn S J (by rw [hS, hl]) hJ
theorem new1_c {W : World} {g : Nat} {T : Array Value} {t : S28} (hk : W.heap[g]? = some (.cells T 28 (0, 0))) (hT : T = TA t) (ok : OkT t) {no rel x n : Int} {must ov : Bool} (hno : 0 ≤ no) (hr : 0 ≤ rel) (hr2 : rel ≤ 1099511627776) (hn : mn (mx x 1) t.f3 = n) (hov : decide (x > t.f3) = ov)
    (S J : Array Value) (hS : S = #[.int .i64 1, .slice (some ⟨g, 0, none⟩) 1 1]) (hJ : J = JP 0 no rel (rel + t.f2) must ov false ++ RA t n (ini t n)) : Calls Try.prog 11 #[.agg S, .int .i64 0, .int .i64 no, .int .i64 rel, .int .i64 x, .bool must] W fun e w' => e = .returned (.tuple #[.agg J, .int .i64 0]) ∧ Below W.heap.size W w' :=
  new1_l (l := [t]) rfl (task_C hk t hT) rfl ok hno hr hr2 hn hov S J hS hJ
theorem eq_task (t : S28) (W : World) : (Op.equalIn 9999 28 (.agg (TA t)) (.agg (TA t))).run Try.prog W = .ok true W := by
  have hi : ∀ (a : Int) (W : World), (Op.equalIn 9998 3 (.int .i64 a) (.int .i64 a)).run Try.prog W = .ok true W := fun a W => by
    rw [run_equalIn_int (k' := .i64) (d := 9997) (h := Try.underlying3)]; simp
  have hs : ∀ (a : ByteArray) (W : World), (Op.equalIn 9998 9 (.string a) (.string a)).run Try.prog W = .ok true W := fun a W => by
    rw [run_equalIn_string (d := 9997) (h := Try.underlying9)]; simp
  rw [run_equalIn_agg (d := 9998) (ht := by kernel_rfl) (hp := by kernel_rfl)]
  unfold Program.fieldsOf
  rw [Try.underlying28]
  simp [Op.eqFields, go_sem, TA, hi, hs]
theorem eq_run (t : S28) (d : Int) (s : St) (W : World) : (Op.equalIn 10000 30 (.agg (RA t d s)) (.agg (RA t d s))).run Try.prog W = .ok true W := by
  have hi : ∀ (a : Int) (W : World), (Op.equalIn 9999 3 (.int .i64 a) (.int .i64 a)).run Try.prog W = .ok true W := fun a W => by
    rw [run_equalIn_int (k' := .i64) (d := 9998) (h := Try.underlying3)]; simp
  have hb : ∀ (a : Bool) (W : World), (Op.equalIn 9999 4 (.bool a) (.bool a)).run Try.prog W = .ok true W := fun a W => by
    rw [run_equalIn_bool' (d := 9998) (h := Try.underlying4)]; simp
  have ht := eq_task t
  unfold TA at ht
  rw [run_equalIn_agg (d := 9999) (ht := by kernel_rfl) (hp := by kernel_rfl)]
  unfold Program.fieldsOf
  rw [Try.underlying30]
  simp [Op.eqFields, go_sem, RA, TA, hi, hb, ht]
theorem run_same (R : Array Value) (t : S28) (d : Int) (s : St) (hR : R = RA t d s) (W : World) : (binOp .neq 30 (.agg R) (.agg R)).run Try.prog W = .ok (.bool false) W := by
  rw [hR, run_neq_struct, eq_run]; rfl
theorem run_guard (R : Array Value) (a b : Operand) (W : World) : (eqGuard .neq 30 a b (.agg R) (.agg R)).run Try.prog W = .ok () W := run_eqGuard_agg W .neq 30 a b _ _ (by kernel_rfl)
end Go.Proofs.Ytpjehbcchanmhaa.PS
