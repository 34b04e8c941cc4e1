/- The law RecoverCost, walked. -/
import Derived.Test.YtkedmmimcmignaaHitsL
namespace Go.Proofs.Ytkedmmimcmignaa.PS
open Go.RowKit Go.Proofs.Ytkedmmimcmignaa.PC Go.Proofs.YtkedmmimcmignaaW.PrintWords Go.Proofs.YtkedmmimcmignaaW.PrintLast Go.Proofs.YtkedmmimcmignaaW.PrintMore
set_option linter.unusedVariables false
set_option linter.unusedSimpArgs false
theorem ld_op {o : Oper} {a : Act} {w : World} (T : TypeId) (x : Operand) (ho : o.op = .load T x) (g : Nat) (hx : a.eval x = .pointer (some ⟨g, 0, none⟩)) {A : Array Value} {T' : TypeId} {n : Nat} {d : TypeDesc}
    (hg : w.heap[g]? = some (.cells A T' (0, 0))) (hu : Try.prog.underlying T = some d) (hd : d.isRow = true) (hi : (Try.prog.info? T).map (·.size) = some n) (hA : A.size = n) : (execOp a.eval o).run Try.prog w = .ok (.value (.agg A)) w := by
  have := run_loadVar_mid (P := Try.prog) w g 0 T A.toList d (fun j v hv => by rw [Nat.zero_add, blk_cell hg]; simpa using hv) hu hd (by rw [hi, ← hA]; simp)
  unfold execOp
  simp only [ho, hx, Instr.loadAt, Instr.sureAddr, Sem.run_bind, Sem.run_pure, Result.andThen_ok, this]
theorem extra_c {t : S23} {d : Int} (od : Okd t d) (W : World) (A : Array Value) (hA : A = TA t) (x : Int) (hx : x = ex t) : Calls Try.prog 14 #[.agg A] W fun e w' => e = .returned (.int .i64 x) ∧ Below W.heap.size W w' := by
  subst hA hx
  exact demand_Extra.calls _ _ _ _ _ _ _ _ _ _ _ _ W (extra_eq od.1)
def CBd (s : St) (σ τ : Int) : Prop := s.fl ≤ 300 ∧ σ ≤ 300 ∧ τ ≤ 560000 ∧ 0 ≤ τ
def LeM (x : Int) : Prop := x ≤ 600000
/-- What holds ahead of each tick. -/
def CI' (t : S23) (d σ τ : Int) (n : Int) (s : St) : Prop := Inv t d s ∧ 0 ≤ s.fl ∧ s.fl + (if s.str = true then 1 else 0) ≤ σ ∧ σ ≤ τ ∧ τ + rem t d s ≤ su (pt t d) + s.fl * ex t ∧ (s.fl = 0 → τ + rem t d s = su (pt t d)) ∧ σ ≤ n ∧ 0 ≤ σ
section
variable {t : S23} {d : Int} (od : Okd t d)
include od in
theorem ci_bd {σ τ n : Int} {s : St} (C : CI' t d σ τ n s) (hn : n ≤ 300) : CBd s σ τ := by
  unfold CBd
  obtain ⟨I, h1, h2, h3, h4, h5, h6, h7⟩ := C
  have hx := sx_bd od
  have he := ex_bd od.1
  have hr := rem_bd od.1 od.2.2.2.2.1 I
  have hf : s.fl ≤ 300 := by
    have : (0 : Int) ≤ (if s.str = true then 1 else 0) := by split <;> omega
    omega
  have hm : s.fl * ex t ≤ 300 * 1000 := Int.mul_le_mul hf hx.2 (by omega) (by omega)
  omega
include od in
theorem ci_step {σ τ n : Int} {s u : St} {hit : Bool} {e : Int} (C : CI' t d σ τ n s) (T : Tick t d s hit (u, e)) (σ' : Int) (hσ : σ' = if hit = true then σ + 1 else σ) (hn : σ' ≤ n) :
    (e = 4 ∧ hit = false ∧ s.str = false ∧ u.fl = s.fl ∧ s.fl ≤ σ ∧ τ + 1 ≤ su (pt t d) + s.fl * ex t ∧ (s.fl = 0 → τ + 1 = su (pt t d))) ∨ (¬ e = 4 ∧ CI' t d σ' (τ + 1) n u ∧ ((e = 0 ∧ u.str = (s.str || hit)) ∨ (¬ e = 0 ∧ u.str = false))) := by
  obtain ⟨I1, I2, I3, I4, I5, I6, I7, I8⟩ := C
  have hx := sx_bd od
  have he := ex_bd od.1
  have hr := rem_bd od.1 od.2.2.2.2.1 I1
  have hσ2 : s.fl + (if (s.str || hit) = true then 1 else 0) ≤ σ' ∧ σ' ≤ τ + 1 ∧ 0 ≤ σ' := by
    subst hσ
    cases hh : hit <;> cases hb : s.str <;> rw [hb] at I3 <;> simp at I3 ⊢ <;> omega
  cases T with
  | runs _ e1 e2 e3 e4 e5 e6 e7 =>
    exact .inr ⟨by omega, ⟨e2, by omega, by rw [e6, e7]; exact hσ2.1, hσ2.2.1, by rw [e7, e5]; omega, fun h => by rw [e5]; have := I6 (by omega); omega, hn, hσ2.2.2⟩, .inl ⟨rfl, e6⟩⟩
  | passed _ e1 e0 e2 e3 e4 e5 e6 e7 e8 e9 =>
    exact .inr ⟨by omega, ⟨e3, by omega, by rw [e8, e9]; have := hσ2.1; simp at *; split at this <;> omega, hσ2.2.1, by rw [e9, e7]; omega, fun h => by rw [e7]; have := I6 (by omega); omega, hn, hσ2.2.2⟩, .inr ⟨by omega, e8⟩⟩
  | failed _ _ e1 e2 e3 e4 e5 e6 e7 e8 e9 =>
    have hm : (s.fl + 1) * ex t = s.fl * ex t + ex t := by rw [Int.add_mul, Int.one_mul]
    exact .inr ⟨by omega, ⟨e4, by omega, by rw [e8, e9]; have := hσ2.1; rw [if_pos e3] at this; simp; omega, hσ2.2.1, by rw [e9, hm]; omega, fun h => by omega, hn, hσ2.2.2⟩, .inr ⟨by omega, e8⟩⟩
  | done _ e1 e2 e3 e4 e5 e6 e7 e8 =>
    rw [Bool.or_eq_false_iff] at e2
    rw [e2.1] at I3
    simp at I3
    exact .inl ⟨rfl, e2.2, e2.1, e7, by omega, by omega, fun h => by have := I6 h; omega⟩
end
set_option maxRecDepth 100000 in
set_option maxHeartbeats 6000000 in
theorem cost_long (w : World) (t : S23) (d : Int) (A : Option Addr) (l : List Bool) (cap : Nat) (hcm : l.length ≤ 9223372036854775807) (hn : (300 : Int) < (l.length : Int)) : Calls Try.prog 6 #[.agg (TA t), .int .i64 d, .slice A l.length cap] w fun e w' => e = .returned (.bool true) ∧ Below w.heap.size w w' := by
  have hx : l.length ≤ 9223372036854775807 := hcm
  clear hcm
  obtain ⟨A0, eA0⟩ : ∃ A, A = TA t := ⟨_, rfl⟩
  rw [← eA0]
  have zA0 : Hid (A0.size = 11) := Lib.hid (by rw [eA0]; rfl)
  replace eA0 := Lib.hid eA0
  obtain ⟨Z, eZ⟩ : ∃ A : Array Value, A = #[.string ⟨#[]⟩, .int .i64 0, .int .i64 0, .int .i64 0, .int .i64 0, .int .i64 0, .int .i64 0, .int .i64 0, .int .i64 0, .int .i64 0, .int .i64 0, .int .i64 0, .int .i64 0, .int .i64 0, .bool false, .int .i64 0] := ⟨_, rfl⟩
  have zZ : Hid (Z.size = 16) := Lib.hid (by rw [eZ]; rfl)
  have hz : ∀ V : World, (zeroValue 28).run Try.prog V = .ok (.agg Z) V := fun V => by rw [eZ]; kernel_rfl
  replace eZ := Lib.hid eZ
  obtain ⟨B0, hB0⟩ : ∃ B, w.heap.size = B := ⟨_, rfl⟩
  rw [hB0]
  obtain ⟨V0, hV0⟩ : ∃ V, w.alloc (.cells A0 23) = V := ⟨_, rfl⟩
  have Ht : Hid (V0.heap[B0]? = some (.cells A0 23 (0, 0))) := Lib.hid (by rw [← hV0]; exact (box_new hB0).1)
  have HE : Hid (Below B0 w V0) := Lib.hid (by rw [← hV0, ← hB0]; exact (Below.refl _ _).alloc (Nat.le_refl _) _)
  go_enter Try.func6, Try.ntmps6
  go_upto_region 1 with (fail)
  replace hB0 := Lib.hid hB0
  replace hV0 := Lib.hid hV0
  go_wp2_with fail
  refine (aw_c _).mono ?_; rintro e V_1 ⟨rfl, hb_2⟩
  have H_3 : Hid (V_1.heap[B0]? = some (.cells A0 23 (0, 0))) := Lib.hid ((hb_2.block B0 (blk_lt Ht.out)).trans Ht.out)
  have HE_4 : Hid (Below B0 w V_1) := Lib.hid (HE.out.trans (hb_2.mono (sz_le hB0.out HE.out.size)))
  clear HE Ht
  clear hb_2
  go_wp2_with fail
  refine (aw_c _).mono ?_; rintro e V_5 ⟨rfl, hb_6⟩
  have H_7 : Hid (V_5.heap[B0]? = some (.cells A0 23 (0, 0))) := Lib.hid ((hb_6.block B0 (blk_lt H_3.out)).trans H_3.out)
  have HE_8 : Hid (Below B0 w V_5) := Lib.hid (HE_4.out.trans (hb_6.mono (sz_le hB0.out HE_4.out.size)))
  clear HE_4 H_3
  clear hb_6
  go_wp2
  go_ret
  exact ⟨rfl, HE_8.out⟩
set_option maxRecDepth 100000 in
set_option maxHeartbeats 6000000 in
theorem cost_out (w : World) (t : S23) (d : Int) (A : Option Addr) (l : List Bool) (cap : Nat) (hn : (l.length : Int) ≤ 300) (hb : Ev (fun k => pendulumref15_Small.f k t.f0 t.f1 t.f2 t.f3 t.f4 t.f5 t.f6 t.f7 t.f8 t.f9 t.f10 d) false) : Calls Try.prog 6 #[.agg (TA t), .int .i64 d, .slice A l.length cap] w fun e w' => e = .returned (.bool true) ∧ Below w.heap.size w w' := by
  have hnd : decide ((300 : Int) < (l.length : Int)) = false := by simp; omega
  obtain ⟨A0, eA0⟩ : ∃ A, A = TA t := ⟨_, rfl⟩
  rw [← eA0]
  have zA0 : Hid (A0.size = 11) := Lib.hid (by rw [eA0]; rfl)
  replace eA0 := Lib.hid eA0
  obtain ⟨Z, eZ⟩ : ∃ A : Array Value, A = #[.string ⟨#[]⟩, .int .i64 0, .int .i64 0, .int .i64 0, .int .i64 0, .int .i64 0, .int .i64 0, .int .i64 0, .int .i64 0, .int .i64 0, .int .i64 0, .int .i64 0, .int .i64 0, .int .i64 0, .bool false, .int .i64 0] := ⟨_, rfl⟩
  have zZ : Hid (Z.size = 16) := Lib.hid (by rw [eZ]; rfl)
  have hz : ∀ V : World, (zeroValue 28).run Try.prog V = .ok (.agg Z) V := fun V => by rw [eZ]; kernel_rfl
  replace eZ := Lib.hid eZ
  obtain ⟨B0, hB0⟩ : ∃ B, w.heap.size = B := ⟨_, rfl⟩
  rw [hB0]
  obtain ⟨V0, hV0⟩ : ∃ V, w.alloc (.cells A0 23) = V := ⟨_, rfl⟩
  have Ht : Hid (V0.heap[B0]? = some (.cells A0 23 (0, 0))) := Lib.hid (by rw [← hV0]; exact (box_new hB0).1)
  have HE : Hid (Below B0 w V0) := Lib.hid (by rw [← hV0, ← hB0]; exact (Below.refl _ _).alloc (Nat.le_refl _) _)
  go_enter Try.func6, Try.ntmps6
  go_upto_region 1 with (fail)
  replace hB0 := Lib.hid hB0
  replace hV0 := Lib.hid hV0
  go_wp2_with fail
  refine (aw_c _).mono ?_; rintro e V_9 ⟨rfl, hb_10⟩
  have H_11 : Hid (V_9.heap[B0]? = some (.cells A0 23 (0, 0))) := Lib.hid ((hb_10.block B0 (blk_lt Ht.out)).trans Ht.out)
  have HE_12 : Hid (Below B0 w V_9) := Lib.hid (HE.out.trans (hb_10.mono (sz_le hB0.out HE.out.size)))
  clear HE Ht
  clear hb_10
  go_wp2_with (first | (refine wpl_ld _ _ rfl (by rfl) B0 rfl H_11.out Try.underlying23 rfl (by kernel_rfl) zA0.out ?_))
  refine (small_c hb _ _ eA0.out).mono ?_; rintro e V_13 ⟨rfl, hb_14⟩
  have H_15 : Hid (V_13.heap[B0]? = some (.cells A0 23 (0, 0))) := Lib.hid ((hb_14.block B0 (blk_lt H_11.out)).trans H_11.out)
  have HE_16 : Hid (Below B0 w V_13) := Lib.hid (HE_12.out.trans (hb_14.mono (sz_le hB0.out HE_12.out.size)))
  clear HE_12 H_11
  clear hb_14
  go_wp2_with fail
  refine (aw_c _).mono ?_; rintro e V_17 ⟨rfl, hb_18⟩
  have H_19 : Hid (V_17.heap[B0]? = some (.cells A0 23 (0, 0))) := Lib.hid ((hb_18.block B0 (blk_lt H_15.out)).trans H_15.out)
  have HE_20 : Hid (Below B0 w V_17) := Lib.hid (HE_16.out.trans (hb_18.mono (sz_le hB0.out HE_16.out.size)))
  clear HE_16 H_15
  clear hb_18
  go_wp2
  go_ret
  exact ⟨rfl, HE_20.out⟩
def CR (t : S23) (d : Int) (w : World) (B0 Xr : Nat) (A0 : Array Value) (σ τ n : Int) (c : Bool) (wr : World) : Prop := ∃ s R, R = RA t d s ∧ wr.heap[Xr]? = some (.cells R 28 (0, 0)) ∧ wr.heap[B0]? = some (.cells A0 23 (0, 0)) ∧ Below B0 w wr ∧ CI' t d σ τ n s ∧ c = !s.str
set_option maxRecDepth 100000 in
set_option maxHeartbeats 6000000 in
theorem cost_main (w : World) (t : S23) (d : Int) (A : Option Addr) (l : List Bool) (cap : Nat) (ha : Args.Arg Value.bool w A l) (hn : (l.length : Int) ≤ 300) (hb : Ev (fun k => pendulumref15_Small.f k t.f0 t.f1 t.f2 t.f3 t.f4 t.f5 t.f6 t.f7 t.f8 t.f9 t.f10 d) true) (od : Okd t d) : Calls Try.prog 6 #[.agg (TA t), .int .i64 d, .slice A l.length cap] w fun e w' => e = .returned (.bool true) ∧ Below w.heap.size w w' := by
  have hfa := Lib.hid ha
  clear ha
  have hnd : decide ((300 : Int) < (l.length : Int)) = false := by simp; omega
  obtain ⟨A0, eA0⟩ : ∃ A, A = TA t := ⟨_, rfl⟩
  rw [← eA0]
  have zA0 : Hid (A0.size = 11) := Lib.hid (by rw [eA0]; rfl)
  replace eA0 := Lib.hid eA0
  obtain ⟨Z, eZ⟩ : ∃ A : Array Value, A = #[.string ⟨#[]⟩, .int .i64 0, .int .i64 0, .int .i64 0, .int .i64 0, .int .i64 0, .int .i64 0, .int .i64 0, .int .i64 0, .int .i64 0, .int .i64 0, .int .i64 0, .int .i64 0, .int .i64 0, .bool false, .int .i64 0] := ⟨_, rfl⟩
  have zZ : Hid (Z.size = 16) := Lib.hid (by rw [eZ]; rfl)
  have hz : ∀ V : World, (zeroValue 28).run Try.prog V = .ok (.agg Z) V := fun V => by rw [eZ]; kernel_rfl
  replace eZ := Lib.hid eZ
  obtain ⟨B0, hB0⟩ : ∃ B, w.heap.size = B := ⟨_, rfl⟩
  rw [hB0]
  obtain ⟨V0, hV0⟩ : ∃ V, w.alloc (.cells A0 23) = V := ⟨_, rfl⟩
  have Ht : Hid (V0.heap[B0]? = some (.cells A0 23 (0, 0))) := Lib.hid (by rw [← hV0]; exact (box_new hB0).1)
  have HE : Hid (Below B0 w V0) := Lib.hid (by rw [← hV0, ← hB0]; exact (Below.refl _ _).alloc (Nat.le_refl _) _)
  go_enter Try.func6, Try.ntmps6
  go_upto_region 1 with (fail)
  replace hB0 := Lib.hid hB0
  replace hV0 := Lib.hid hV0
  go_wp2_with fail
  refine (aw_c _).mono ?_; rintro e V_21 ⟨rfl, hb_22⟩
  have H_23 : Hid (V_21.heap[B0]? = some (.cells A0 23 (0, 0))) := Lib.hid ((hb_22.block B0 (blk_lt Ht.out)).trans Ht.out)
  have HE_24 : Hid (Below B0 w V_21) := Lib.hid (HE.out.trans (hb_22.mono (sz_le hB0.out HE.out.size)))
  clear HE Ht
  clear hb_22
  go_wp2_with (first | (refine wpl_ld _ _ rfl (by rfl) B0 rfl H_23.out Try.underlying23 rfl (by kernel_rfl) zA0.out ?_))
  refine (small_c hb _ _ eA0.out).mono ?_; rintro e V_25 ⟨rfl, hb_26⟩
  have H_27 : Hid (V_25.heap[B0]? = some (.cells A0 23 (0, 0))) := Lib.hid ((hb_26.block B0 (blk_lt H_23.out)).trans H_23.out)
  have HE_28 : Hid (Below B0 w V_25) := Lib.hid (HE_24.out.trans (hb_26.mono (sz_le hB0.out HE_24.out.size)))
  clear HE_24 H_23
  clear hb_26
  obtain ⟨R0, eR0⟩ : ∃ A, A = RA t d (ini t d) := ⟨_, rfl⟩
  have zR0 : Hid (R0.size = 16) := Lib.hid (by rw [eR0]; rfl)
  have oR0 : Hid (R0.all (·.oneCell') = true) := Lib.hid (by rw [eR0]; exact RA_one _ _ _)
  replace eR0 := Lib.hid eR0
  go_wp2_with (first | (refine wpl_ld _ _ rfl (by rfl) B0 rfl H_27.out Try.underlying23 rfl (by kernel_rfl) zA0.out ?_))
  refine (begin_c od _ _ _ eA0.out eR0.out).mono ?_; rintro e V_29 ⟨rfl, hb_30⟩
  have H_31 : Hid (V_29.heap[B0]? = some (.cells A0 23 (0, 0))) := Lib.hid ((hb_30.block B0 (blk_lt H_27.out)).trans H_27.out)
  have HE_32 : Hid (Below B0 w V_29) := Lib.hid (HE_28.out.trans (hb_30.mono (sz_le hB0.out HE_28.out.size)))
  clear HE_28 H_27
  clear hb_30
  obtain ⟨X_33, hX_35⟩ : ∃ X, V_29.heap.size = X := ⟨_, rfl⟩
  obtain ⟨V_34, q_36_0, q_36_1, q_36_2, q_36_3⟩ := st_new (w := V_29) (T := 28) hX_35 zZ.out zR0.out oR0.out
  have ne_38 : B0 < X_33 := hX_35 ▸ blk_lt H_31.out
  have H_37 : Hid (V_34.heap[B0]? = some (.cells A0 23 (0, 0))) := Lib.hid ((q_36_2 _ ne_38).trans H_31.out)
  have ge_39 : B0 ≤ X_33 := hX_35 ▸ (sz_le hB0.out HE_32.out.size)
  have HE_40 : Hid (Below B0 w V_34) := Lib.hid (q_36_3 _ _ ge_39 HE_32.out)
  have H_41 := Lib.hid q_36_1
  clear q_36_1 q_36_2 q_36_3
  go_upto_region 4 with (fail)
  clear q_36_0 hX_35
  clear HE_32 H_31
  have tr : B0 ≠ X_33 := (Nat.ne_of_lt ne_38)
  have hI : Hid (CR t d w B0 X_33 A0 0 ((0 : Nat) : Int) (l.length : Int) true V_34) := Lib.hid ⟨ini t d, R0, eR0.out, H_41.out, H_37.out, HE_40.out, ⟨(ini_inv od).1, by simp [ini], by simp [ini], by simp, by rw [(ini_inv od).2]; simp [ini], fun _ => by rw [(ini_inv od).2]; simp, by omega, by omega⟩, rfl⟩
  clear H_41 H_37 HE_40
  go_wp2_with fail
  go_loopw [9, 10, 11] (fun a b c wr => ∃ (σ : Int) (k : Nat) (cl : Bool), a = .int .i64 σ ∧ b = .int .i64 (k : Int) ∧ c = .bool cl ∧ CR t d w B0 X_33 A0 σ (k : Int) (l.length : Int) cl wr) (fun _ b _ _ => 600000 - (intOf b).toNat)
  case atStart => exact ⟨0, 0, true, rfl, rfl, rfl, hI.out⟩
  case round =>
    obtain ⟨σ, k, cl, rfl, rfl, rfl, s, R, eR, HR, HT, HE, C, hcl⟩ := hrel
    have hbd := Lib.hid (ci_bd od C (by omega))
    have zR : Hid (R.size = 16) := Lib.hid (by rw [eR]; rfl)
    have oR : Hid (R.all (·.oneCell') = true) := Lib.hid (by rw [eR]; exact RA_one _ _ _)
    have hI9 : 0 ≤ σ := C.2.2.2.2.2.2.2
    replace eR := Lib.hid eR
    replace HR := Lib.hid HR
    replace HT := Lib.hid HT
    replace HE := Lib.hid HE
    clear hI
    have hhe : ∃ hit : Bool, (k < l.length ∧ l[k]? = some hit) ∨ (l.length ≤ k ∧ hit = false) := by
      rcases Nat.lt_or_ge k l.length with h | h
      · exact ⟨l[k], .inl ⟨h, by simp⟩⟩
      · exact ⟨false, .inr ⟨h, rfl⟩⟩
    obtain ⟨hit, hh⟩ := hhe
    have hkl : hit = true → k < l.length := fun h => by rcases hh with ⟨h1, _⟩ | ⟨_, h2⟩ <;> simp_all
    go_upto_region 9 with (fail)
    go_cut [12] from 38 to 65 (fun s wx => s = .bool hit ∧ wx = wr)
    case first =>
      rcases hh with ⟨hlt, hh⟩ | ⟨hge, rfl⟩
      · obtain ⟨b, off, rfl, hbw, hcell⟩ := hfa.out (by omega)
        have hil : (k : Int) < (l.length : Int) := by omega
        have hild : decide (k < l.length) = true := by simpa using hlt
        have cx : wr.cell? ⟨b, off + k, none⟩ = some (.bool hit) := (HE.out.cell (p := ⟨b, off + k, none⟩) (by rw [← hB0.out]; exact hbw)).trans (hcell k hit hh)
        clear hcell hh hkl C hcl
        go_wp2_with fail
        go_meet
        exact ⟨rfl, rfl⟩
      · have hil : (l.length : Int) ≤ (k : Int) := by omega
        have hild : decide (k < l.length) = false := by simp; omega
        clear hkl C hcl
        go_wp2_with fail
        go_meet
        exact ⟨rfl, rfl⟩
    case rest =>
      obtain ⟨rfl, hwx⟩ := hcut
      subst hwx
      clear hh
      cases hit with
      | true =>
        have hσ1 : σ + 1 ≤ 301 := by have := hbd.out; unfold CBd at this; omega
        obtain ⟨q, hq⟩ : ∃ q, nx t d s true = q := ⟨_, rfl⟩
        have TK := nx_tick od.1 od.2.2.2.2.1 od.2.2.2.2.2 C.1 true
        rw [hq] at TK
        obtain ⟨u, e'⟩ := q
        have SC := Lib.hid (step_c od C.1 true C.2.1 (by have := hbd.out; unfold CBd at this; omega) hq)
        have NX := ci_step od C TK (σ + 1) rfl (by have := C.2.2.2.1; have := hkl rfl; omega)
        obtain ⟨U, eU⟩ : ∃ A, A = RA t d u := ⟨_, rfl⟩
        have zU : Hid (U.size = 16) := Lib.hid (by rw [eU]; rfl)
        have oU : Hid (U.all (·.oneCell') = true) := Lib.hid (by rw [eU]; exact RA_one _ _ _)
        replace eU := Lib.hid eU
        have hC := Lib.hid C
        clear TK hq C
        rcases NX with ⟨_, k1, _⟩ | ⟨k1, k2, k3⟩
        · cases k1
        · have b1 : (e' == 4) = false := by rw [beq_eq_false_iff_ne]; exact k1
          have k1' := Lib.hid k1
          replace k2 := Lib.hid k2
          replace hcl := Lib.hid hcl
          clear k1
          rcases k3 with ⟨j1, j2⟩ | ⟨j1, j2⟩
          · have b2 : (e' != 0) = false := by rw [j1]; rfl
            replace j1 := Lib.hid j1
            replace j2 := Lib.hid j2
            go_wp2_with (first | (refine wpl_ld _ _ rfl (by rfl) X_33 rfl HR.out Try.underlying28 rfl (by kernel_rfl) zR.out ?_))
            refine (SC.out _ _ _ eR.out eU.out).mono ?_; rintro e V_42 ⟨rfl, hb_43⟩
            have H_44 : Hid (V_42.heap[B0]? = some (.cells A0 23 (0, 0))) := Lib.hid ((hb_43.block B0 (blk_lt HT.out)).trans HT.out)
            have H_45 : Hid (V_42.heap[X_33]? = some (.cells R 28 (0, 0))) := Lib.hid ((hb_43.block X_33 (blk_lt HR.out)).trans HR.out)
            have HE_46 : Hid (Below B0 w V_42) := Lib.hid (HE.out.trans (hb_43.mono (sz_le hB0.out HE.out.size)))
            clear HE HT HR
            clear hb_43
            obtain ⟨X_47, hX_49⟩ : ∃ X, V_42.heap.size = X := ⟨_, rfl⟩
            obtain ⟨V_48, q_50_0, q_50_1, q_50_2, q_50_3⟩ := st_new (w := V_42) (T := 28) hX_49 zZ.out zU.out oU.out
            have ne_52 : B0 < X_47 := hX_49 ▸ blk_lt H_44.out
            have H_51 : Hid (V_48.heap[B0]? = some (.cells A0 23 (0, 0))) := Lib.hid ((q_50_2 _ ne_52).trans H_44.out)
            have ne_54 : X_33 < X_47 := hX_49 ▸ blk_lt H_45.out
            have H_53 : Hid (V_48.heap[X_33]? = some (.cells R 28 (0, 0))) := Lib.hid ((q_50_2 _ ne_54).trans H_45.out)
            have ge_55 : B0 ≤ X_47 := hX_49 ▸ (sz_le hB0.out HE_46.out.size)
            have HE_56 : Hid (Below B0 w V_48) := Lib.hid (q_50_3 _ _ ge_55 HE_46.out)
            have H_57 := Lib.hid q_50_1
            clear q_50_1 q_50_2 q_50_3
            go_upto_region 14 with (fail)
            clear q_50_0 hX_49
            clear HE_46 H_44 H_45
            obtain ⟨V_58, q_59_0, q_59_1, q_59_2, q_59_3⟩ := st_any H_53.out zR.out zU.out oU.out
            have H_60 : Hid (V_58.heap[B0]? = some (.cells A0 23 (0, 0))) := Lib.hid ((q_59_2 _ tr).trans H_51.out)
            have H_61 : Hid (V_58.heap[X_47]? = some (.cells U 28 (0, 0))) := Lib.hid ((q_59_2 _ (Nat.ne_of_gt ne_54)).trans H_57.out)
            have HE_62 : Hid (Below B0 w V_58) := Lib.hid (q_59_3 _ _ ge_39 HE_56.out)
            have H_63 := Lib.hid q_59_1
            clear q_59_1 q_59_2 q_59_3
            go_upto_region 15 with (first | (refine wpl_ld _ _ rfl (by rfl) X_47 rfl H_57.out Try.underlying28 rfl (by kernel_rfl) zU.out ?_))
            clear q_59_0
            clear HE_56 H_51 H_57 H_53
            have hτd : decide ((1000000 : Int) < (k : Int) + 1) = false := by have := hbd.out; unfold CBd at this; simp; omega
            have hkw : wrap64 ((k : Int) + 1) = (k : Int) + 1 := by have := hbd.out; unfold CBd at this; exact w64 (by omega) (by omega)
            go_wp2
            skip
            go_roundw
            case rel => exact ⟨_, k + 1, _, rfl, by go_num, rfl, u, U, eU.out, H_63.out, H_60.out, HE_62.out, by push_cast; exact k2.out, by rw [j2.out]; simp⟩
            case measure => (try simp only [hkw]); clear hkw; have := hbd.out; unfold CBd at this; simp [intOf] <;> omega
          · have b2 : (e' != 0) = true := by simpa using j1
            have j1' := Lib.hid j1
            replace j2 := Lib.hid j2
            clear j1
            go_wp2_with (first | (refine wpl_ld _ _ rfl (by rfl) X_33 rfl HR.out Try.underlying28 rfl (by kernel_rfl) zR.out ?_))
            refine (SC.out _ _ _ eR.out eU.out).mono ?_; rintro e V_64 ⟨rfl, hb_65⟩
            have H_66 : Hid (V_64.heap[B0]? = some (.cells A0 23 (0, 0))) := Lib.hid ((hb_65.block B0 (blk_lt HT.out)).trans HT.out)
            have H_67 : Hid (V_64.heap[X_33]? = some (.cells R 28 (0, 0))) := Lib.hid ((hb_65.block X_33 (blk_lt HR.out)).trans HR.out)
            have HE_68 : Hid (Below B0 w V_64) := Lib.hid (HE.out.trans (hb_65.mono (sz_le hB0.out HE.out.size)))
            clear HE HT HR
            clear hb_65
            obtain ⟨X_69, hX_71⟩ : ∃ X, V_64.heap.size = X := ⟨_, rfl⟩
            obtain ⟨V_70, q_72_0, q_72_1, q_72_2, q_72_3⟩ := st_new (w := V_64) (T := 28) hX_71 zZ.out zU.out oU.out
            have ne_74 : B0 < X_69 := hX_71 ▸ blk_lt H_66.out
            have H_73 : Hid (V_70.heap[B0]? = some (.cells A0 23 (0, 0))) := Lib.hid ((q_72_2 _ ne_74).trans H_66.out)
            have ne_76 : X_33 < X_69 := hX_71 ▸ blk_lt H_67.out
            have H_75 : Hid (V_70.heap[X_33]? = some (.cells R 28 (0, 0))) := Lib.hid ((q_72_2 _ ne_76).trans H_67.out)
            have ge_77 : B0 ≤ X_69 := hX_71 ▸ (sz_le hB0.out HE_68.out.size)
            have HE_78 : Hid (Below B0 w V_70) := Lib.hid (q_72_3 _ _ ge_77 HE_68.out)
            have H_79 := Lib.hid q_72_1
            clear q_72_1 q_72_2 q_72_3
            go_upto_region 14 with (fail)
            clear q_72_0 hX_71
            clear HE_68 H_66 H_67
            obtain ⟨V_80, q_81_0, q_81_1, q_81_2, q_81_3⟩ := st_any H_75.out zR.out zU.out oU.out
            have H_82 : Hid (V_80.heap[B0]? = some (.cells A0 23 (0, 0))) := Lib.hid ((q_81_2 _ tr).trans H_73.out)
            have H_83 : Hid (V_80.heap[X_69]? = some (.cells U 28 (0, 0))) := Lib.hid ((q_81_2 _ (Nat.ne_of_gt ne_76)).trans H_79.out)
            have HE_84 : Hid (Below B0 w V_80) := Lib.hid (q_81_3 _ _ ge_39 HE_78.out)
            have H_85 := Lib.hid q_81_1
            clear q_81_1 q_81_2 q_81_3
            go_upto_region 15 with (first | (refine wpl_ld _ _ rfl (by rfl) X_69 rfl H_79.out Try.underlying28 rfl (by kernel_rfl) zU.out ?_))
            clear q_81_0
            clear HE_78 H_73 H_79 H_75
            have hτd : decide ((1000000 : Int) < (k : Int) + 1) = false := by have := hbd.out; unfold CBd at this; simp; omega
            have hkw : wrap64 ((k : Int) + 1) = (k : Int) + 1 := by have := hbd.out; unfold CBd at this; exact w64 (by omega) (by omega)
            go_wp2
            skip
            go_roundw
            case rel => exact ⟨_, k + 1, _, rfl, by go_num, rfl, u, U, eU.out, H_85.out, H_82.out, HE_84.out, by push_cast; exact k2.out, by rw [j2.out]; rfl⟩
            case measure => (try simp only [hkw]); clear hkw; have := hbd.out; unfold CBd at this; simp [intOf] <;> omega
      | false =>
        clear hkl
        obtain ⟨q, hq⟩ : ∃ q, nx t d s false = q := ⟨_, rfl⟩
        have TK := nx_tick od.1 od.2.2.2.2.1 od.2.2.2.2.2 C.1 false
        rw [hq] at TK
        obtain ⟨u, e'⟩ := q
        have SC := Lib.hid (step_c od C.1 false C.2.1 (by have := hbd.out; unfold CBd at this; omega) hq)
        have NX := ci_step od C TK (σ) rfl (C.2.2.2.2.2.2.1)
        obtain ⟨U, eU⟩ : ∃ A, A = RA t d u := ⟨_, rfl⟩
        have zU : Hid (U.size = 16) := Lib.hid (by rw [eU]; rfl)
        have oU : Hid (U.all (·.oneCell') = true) := Lib.hid (by rw [eU]; exact RA_one _ _ _)
        replace eU := Lib.hid eU
        have hC := Lib.hid C
        clear TK hq C
        rcases NX with ⟨k1, _, k2, k3, k4, k5, k6⟩ | ⟨k1, k2, k3⟩
        · have b1 : (e' == 4) = true := by rw [k1]; rfl
          obtain rfl : cl = true := by rw [hcl, k2]; rfl
          replace k1 := Lib.hid k1
          replace k2 := Lib.hid k2
          replace k3 := Lib.hid k3
          replace hcl := Lib.hid hcl
          go_wp2_with (first | (refine wpl_ld _ _ rfl (by rfl) X_33 rfl HR.out Try.underlying28 rfl (by kernel_rfl) zR.out ?_))
          refine (SC.out _ _ _ eR.out eU.out).mono ?_; rintro e V_86 ⟨rfl, hb_87⟩
          have H_88 : Hid (V_86.heap[B0]? = some (.cells A0 23 (0, 0))) := Lib.hid ((hb_87.block B0 (blk_lt HT.out)).trans HT.out)
          have H_89 : Hid (V_86.heap[X_33]? = some (.cells R 28 (0, 0))) := Lib.hid ((hb_87.block X_33 (blk_lt HR.out)).trans HR.out)
          have HE_90 : Hid (Below B0 w V_86) := Lib.hid (HE.out.trans (hb_87.mono (sz_le hB0.out HE.out.size)))
          clear HE HT HR
          clear hb_87
          obtain ⟨X_91, hX_93⟩ : ∃ X, V_86.heap.size = X := ⟨_, rfl⟩
          obtain ⟨V_92, q_94_0, q_94_1, q_94_2, q_94_3⟩ := st_new (w := V_86) (T := 28) hX_93 zZ.out zU.out oU.out
          have ne_96 : B0 < X_91 := hX_93 ▸ blk_lt H_88.out
          have H_95 : Hid (V_92.heap[B0]? = some (.cells A0 23 (0, 0))) := Lib.hid ((q_94_2 _ ne_96).trans H_88.out)
          have ne_98 : X_33 < X_91 := hX_93 ▸ blk_lt H_89.out
          have H_97 : Hid (V_92.heap[X_33]? = some (.cells R 28 (0, 0))) := Lib.hid ((q_94_2 _ ne_98).trans H_89.out)
          have ge_99 : B0 ≤ X_91 := hX_93 ▸ (sz_le hB0.out HE_90.out.size)
          have HE_100 : Hid (Below B0 w V_92) := Lib.hid (q_94_3 _ _ ge_99 HE_90.out)
          have H_101 := Lib.hid q_94_1
          clear q_94_1 q_94_2 q_94_3
          go_upto_region 14 with (fail)
          clear q_94_0 hX_93
          clear HE_90 H_88 H_89
          obtain ⟨V_102, q_103_0, q_103_1, q_103_2, q_103_3⟩ := st_any H_97.out zR.out zU.out oU.out
          have H_104 : Hid (V_102.heap[B0]? = some (.cells A0 23 (0, 0))) := Lib.hid ((q_103_2 _ tr).trans H_95.out)
          have H_105 : Hid (V_102.heap[X_91]? = some (.cells U 28 (0, 0))) := Lib.hid ((q_103_2 _ (Nat.ne_of_gt ne_98)).trans H_101.out)
          have HE_106 : Hid (Below B0 w V_102) := Lib.hid (q_103_3 _ _ ge_39 HE_100.out)
          have H_107 := Lib.hid q_103_1
          clear q_103_1 q_103_2 q_103_3
          go_upto_region 15 with (first | (refine wpl_ld _ _ rfl (by rfl) X_91 rfl H_101.out Try.underlying28 rfl (by kernel_rfl) zU.out ?_))
          clear q_103_0
          clear HE_100 H_95 H_101 H_97
          obtain ⟨S, hS⟩ : ∃ S, S = su (pt t d) := ⟨_, rfl⟩
          obtain ⟨x, hx⟩ : ∃ x, x = ex t := ⟨_, rfl⟩
          rw [← hS, ← hx] at k5
          rw [← hS] at k6
          have hsx := sx_bd od
          have hex := ex_bd od.1
          have hsu := su_bd od.1 od.2.2.2.2.1 od.2.2.2.2.2
          rw [← hS, ← hx] at hsx
          rw [← hS] at hsu
          rw [← hx] at hex
          obtain ⟨fl, hfl⟩ : ∃ f, f = s.fl := ⟨_, rfl⟩
          rw [← hfl] at k4 k5 k6
          have hfl0 : 0 ≤ fl := by rw [hfl]; exact hC.out.2.1
          have hfl1 : fl ≤ 300 := by rw [hfl]; exact (show _ ∧ _ from hbd.out).1
          have hmul0 : 0 ≤ fl * x := Int.mul_nonneg hfl0 (by omega)
          have hmul1 : fl * x ≤ 300 * 1000 := Int.mul_le_mul hfl1 hsx.2 (by omega) (by omega)
          obtain ⟨y, hy⟩ : ∃ y, fl * x = y := ⟨_, rfl⟩
          rw [hy] at hmul0 hmul1 k5
          replace hS := Lib.hid hS
          replace hx := Lib.hid hx
          replace hfl := Lib.hid hfl
          clear hbd
          go_wp2_with (first | (refine wpl_ld _ _ rfl (by rfl) B0 rfl H_104.out Try.underlying23 rfl (by kernel_rfl) zA0.out ?_))
          refine (parts_c od _ _ eA0.out).mono ?_; rintro e V_108 ⟨g, cp, cur, rfl, hgr, hrow, hcp, hb_109⟩
          have H_110 : Hid (V_108.heap[B0]? = some (.cells A0 23 (0, 0))) := Lib.hid ((hb_109.block B0 (blk_lt H_104.out)).trans H_104.out)
          have H_111 : Hid (V_108.heap[X_33]? = some (.cells U 28 (0, 0))) := Lib.hid ((hb_109.block X_33 (blk_lt H_107.out)).trans H_107.out)
          have H_112 : Hid (V_108.heap[X_91]? = some (.cells U 28 (0, 0))) := Lib.hid ((hb_109.block X_91 (blk_lt H_105.out)).trans H_105.out)
          have HE_113 : Hid (Below B0 w V_108) := Lib.hid (HE_106.out.trans (hb_109.mono (sz_le hB0.out HE_106.out.size)))
          clear HE_106 H_104 H_107 H_105
          clear hb_109
          clear hgr
          have hcur := Lib.hid hrow.2
          replace hrow := Lib.hid hrow.1
          obtain ⟨len, hlen⟩ : ∃ n, n = (pt t d).length := ⟨_, rfl⟩
          rw [← hlen] at hcp ⊢
          replace hlen := Lib.hid hlen
          go_wp2_with fail
          refine (sum_c od _ g cp cur len hlen.out hcp S hS.out ⟨hrow.out, hcur.out⟩).mono ?_; rintro e V_114 ⟨rfl, hb_115⟩
          have H_116 : Hid (V_114.heap[B0]? = some (.cells A0 23 (0, 0))) := Lib.hid ((hb_115.block B0 (blk_lt H_110.out)).trans H_110.out)
          have H_117 : Hid (V_114.heap[X_33]? = some (.cells U 28 (0, 0))) := Lib.hid ((hb_115.block X_33 (blk_lt H_111.out)).trans H_111.out)
          have H_118 : Hid (V_114.heap[X_91]? = some (.cells U 28 (0, 0))) := Lib.hid ((hb_115.block X_91 (blk_lt H_112.out)).trans H_112.out)
          have H_119 : Hid (V_114.heap[g]? = some (.cells cur 3 (0, 0))) := Lib.hid ((hb_115.block g (blk_lt hrow.out)).trans hrow.out)
          have HE_120 : Hid (Below B0 w V_114) := Lib.hid (HE_113.out.trans (hb_115.mono (sz_le hB0.out HE_113.out.size)))
          clear HE_113 H_110 H_111 H_112 hrow
          clear hb_115
          have cf : V_114.cell? ⟨X_33, 15, none⟩ = some (.int .i64 fl) := by rw [blk_cell H_117.out, eU.out, hfl.out, ← k3.out]; rfl
          have EX := Lib.hid (extra_c od (hA := eA0.out) (x := x) (hx := hx.out))
          go_wp2_with fail
          have hw1 : wrap64 (fl * x) = y := by rw [hy]; exact w64 (by omega) (by omega)
          have hw2 : IntKind.i64.wrap (fl * x) = y := by rw [i64_w]; exact hw1
          have hw3 : IntKind.i64.wrap (S + y) = S + y := by rw [i64_w]; exact w64 (by clear hw1 hw2; omega) (by clear hw1 hw2; omega)
          have k4' : decide (fl ≤ σ) = true := by simpa using k4
          have k5' : decide ((k : Int) + 1 ≤ S + y) = true := by simpa using k5
          replace hy := Lib.hid hy
          replace k6 := Lib.hid k6
          replace hcur := Lib.hid hcur
          by_cases hz0 : 0 < fl
          · have hzd : decide (0 < fl) = true := by simpa using hz0
            refine start_ (n := 29) (S := fun w' => w'.cell? ⟨X_33, 15, none⟩ = some (.int .i64 fl) ∧ w'.heap[B0]? = some (.cells A0 23 (0, 0))) (ds := []) #[false, false, false, false, false, false, false, false, false, false, false, false, false, false, false, false, false, false, false, false, false, false, false, false, false, false, false, false, false] (by kernel_rfl) rfl rfl ⟨cf, H_116.out⟩ (fun hHeld => ?_)
            refine pure_ (i := 0) (N := (some 70)) (v := ?_) (a' := ?_) #[true, false, false, false, false, false, false, false, false, false, false, false, false, false, false, false, false, false, false, false, false, false, false, false, false, false, false, false, false] rfl rfl (by kernel_rfl) (fun _ _ _ h => h) (Or.inl ⟨by rfl, ?_⟩) ?_ ?_
            rotate_left
            · intro w'
              go_simp
              with_reducible rfl
            rotate_left
            · simp only [Act.put, List.setIfInBounds_toArray, List.set_cons_zero, List.set_cons_succ, i64_w, i32_w]
              rfl
            refine pure_ (i := 1) (N := (some 71)) (v := ?_) (a' := ?_) #[true, true, false, false, false, false, false, false, false, false, false, false, false, false, false, false, false, false, false, false, false, false, false, false, false, false, false, false, false] rfl rfl (by kernel_rfl) (fun _ _ _ h => h) (Or.inl ⟨by rfl, ?_⟩) ?_ ?_
            rotate_left
            · intro w'
              go_simp
              with_reducible rfl
            rotate_left
            · simp only [Act.put, List.setIfInBounds_toArray, List.set_cons_zero, List.set_cons_succ, i64_w, i32_w]
              rfl
            refine pure_ (i := 2) (N := (some 72)) (v := ?_) (a' := ?_) #[true, true, true, false, false, false, false, false, false, false, false, false, false, false, false, false, false, false, false, false, false, false, false, false, false, false, false, false, false] rfl rfl (by kernel_rfl) (fun _ _ _ h => h) (Or.inl ⟨by rfl, ?_⟩) ?_ ?_
            rotate_left
            · intro w'
              go_simp
              with_reducible rfl
            rotate_left
            · simp only [Act.put, List.setIfInBounds_toArray, List.set_cons_zero, List.set_cons_succ, i64_w, i32_w]
              rfl
            refine take_ (i := 3) (N := (some 73)) (v := ?_) (a' := ?_) #[true, true, true, true, false, false, false, false, false, false, false, false, false, false, false, false, false, false, false, false, false, false, false, false, false, false, false, false, false] rfl rfl (by kernel_rfl) (fun _ _ _ h => h) (Or.inl ⟨by rfl, ?_⟩) hHeld ?_ ?_
            rotate_left
            · rintro w' ⟨s0, s1⟩
              go_simp
              with_reducible rfl
            rotate_left
            · simp only [Act.put, List.setIfInBounds_toArray, List.set_cons_zero, List.set_cons_succ, i64_w, i32_w]
              rfl
            refine pure_ (i := 4) (N := (some 74)) (v := ?_) (a' := ?_) #[true, true, true, true, true, false, false, false, false, false, false, false, false, false, false, false, false, false, false, false, false, false, false, false, false, false, false, false, false] rfl rfl (by kernel_rfl) (fun _ _ _ h => h) (Or.inl ⟨by rfl, ?_⟩) ?_ ?_
            rotate_left
            · intro w'
              go_simp
              with_reducible rfl
            rotate_left
            · simp only [Act.put, List.setIfInBounds_toArray, List.set_cons_zero, List.set_cons_succ, i64_w, i32_w]
              rfl
            refine pure_ (i := 5) (N := (some 75)) (v := ?_) (a' := ?_) #[true, true, true, true, true, true, false, false, false, false, false, false, false, false, false, false, false, false, false, false, false, false, false, false, false, false, false, false, false] rfl rfl (by kernel_rfl) (fun _ _ _ h => h) (Or.inl ⟨by rfl, ?_⟩) ?_ ?_
            rotate_left
            · intro w'
              go_simp
              with_reducible rfl
            rotate_left
            · simp only [Act.put, List.setIfInBounds_toArray, List.set_cons_zero, List.set_cons_succ, i64_w, i32_w]
              rfl
            refine pure_ (i := 6) (N := (some 76)) (v := ?_) (a' := ?_) #[true, true, true, true, true, true, true, false, false, false, false, false, false, false, false, false, false, false, false, false, false, false, false, false, false, false, false, false, false] rfl rfl (by kernel_rfl) (fun _ _ _ h => h) (Or.inl ⟨by rfl, ?_⟩) ?_ ?_
            rotate_left
            · intro w'
              go_simp
              with_reducible rfl
            rotate_left
            · simp only [Act.put, List.setIfInBounds_toArray, List.set_cons_zero, List.set_cons_succ, i64_w, i32_w]
              rfl
            refine pure_ (i := 7) (N := (some 77)) (v := ?_) (a' := ?_) #[true, true, true, true, true, true, true, true, false, false, false, false, false, false, false, false, false, false, false, false, false, false, false, false, false, false, false, false, false] rfl rfl (by kernel_rfl) (fun _ _ _ h => h) (Or.inl ⟨by rfl, ?_⟩) ?_ ?_
            rotate_left
            · intro w'
              go_simp
              with_reducible rfl
            rotate_left
            · simp only [Act.put, List.setIfInBounds_toArray, List.set_cons_zero, List.set_cons_succ, i64_w, i32_w]
              rfl
            refine pure_ (i := 8) (N := (some 78)) (v := ?_) (a' := ?_) #[true, true, true, true, true, true, true, true, true, false, false, false, false, false, false, false, false, false, false, false, false, false, false, false, false, false, false, false, false] rfl rfl (by kernel_rfl) (fun _ _ _ h => h) (Or.inl ⟨by rfl, ?_⟩) ?_ ?_
            rotate_left
            · intro w'
              go_simp
              with_reducible rfl
            rotate_left
            · simp only [Act.put, List.setIfInBounds_toArray, List.set_cons_zero, List.set_cons_succ, i64_w, i32_w]
              rfl
            refine pure_ (i := 9) (N := (some 79)) (v := ?_) (a' := ?_) #[true, true, true, true, true, true, true, true, true, true, false, false, false, false, false, false, false, false, false, false, false, false, false, false, false, false, false, false, false] rfl rfl (by kernel_rfl) (fun _ _ _ h => h) (Or.inl ⟨by rfl, ?_⟩) ?_ ?_
            rotate_left
            · intro w'
              go_simp
              with_reducible rfl
            rotate_left
            · simp only [Act.put, List.setIfInBounds_toArray, List.set_cons_zero, List.set_cons_succ, i64_w, i32_w]
              rfl
            refine pure_ (i := 10) (N := (some 80)) (v := ?_) (a' := ?_) #[true, true, true, true, true, true, true, true, true, true, true, false, false, false, false, false, false, false, false, false, false, false, false, false, false, false, false, false, false] rfl rfl (by kernel_rfl) (fun _ _ _ h => h) (Or.inl ⟨by rfl, ?_⟩) ?_ ?_
            rotate_left
            · intro w'
              go_simp
              with_reducible rfl
            rotate_left
            · simp only [Act.put, List.setIfInBounds_toArray, List.set_cons_zero, List.set_cons_succ, i64_w, i32_w]
              rfl
            refine take_ (i := 11) (N := (some 81)) (v := ?_) (a' := ?_) #[true, true, true, true, true, true, true, true, true, true, true, true, false, false, false, false, false, false, false, false, false, false, false, false, false, false, false, false, false] rfl rfl (by kernel_rfl) (fun _ _ _ h => h) (Or.inl ⟨by rfl, ?_⟩) hHeld ?_ ?_
            rotate_left
            · rintro w' ⟨s0, s1⟩
              go_simp
              with_reducible rfl
            rotate_left
            · simp only [Act.put, List.setIfInBounds_toArray, List.set_cons_zero, List.set_cons_succ, i64_w, i32_w]
              rfl
            refine take_ (i := 12) (N := (some 82)) (v := .agg A0) (a' := ?_) #[true, true, true, true, true, true, true, true, true, true, true, true, true, false, false, false, false, false, false, false, false, false, false, false, false, false, false, false, false] rfl rfl (by kernel_rfl) (fun _ _ _ h => h) (Or.inl ⟨by rfl, ?_⟩) hHeld ?_ ?_
            · rintro w' ⟨s0, s1⟩
              exact ld_op 23 _ rfl B0 rfl s1 Try.underlying23 rfl (by kernel_rfl) zA0.out
            rotate_left
            · simp only [Act.put, List.setIfInBounds_toArray, List.set_cons_zero, List.set_cons_succ, i64_w, i32_w]
              rfl
            refine one_ (i := 13) (N := (some 83)) #[true, true, true, true, true, true, true, true, true, true, true, true, true, true, false, false, false, false, false, false, false, false, false, false, false, false, false, false, false] rfl rfl (by kernel_rfl) (by decide) (fun K hK => ?_)
            refine goes_ Try.func14 (by kernel_rfl) rfl #[.agg A0] (by rfl) rfl rfl (by (try simp only [List.map_toArray, List.map_cons, List.map_nil]); first | done | rfl) ?_
            refine (EX.out _).mono ?_
            rintro e V9 ⟨rfl, hb9⟩
            have HE9 := Lib.hid ((HE_120.out.drew).trans (hb9.mono (sz_le hB0.out HE_120.out.size)))
            refine ⟨_, rfl, ?_⟩
            refine hK.out _ _ ⟨(hb9.cell (p := ⟨X_33, 15, none⟩) (blk_lt H_117.out)).trans cf, (hb9.block B0 (blk_lt H_116.out)).trans H_116.out⟩ (fun hHeld => ?_)
            clear hK K
            refine norm_ (a' := ?_) ?_ ?_
            rotate_left
            · show Act.put _ (some 83) _ = _
              simp only [Act.put, List.setIfInBounds_toArray, List.set_cons_zero, List.set_cons_succ, i64_w, i32_w]
              rfl
            refine pure_ (i := 14) (N := (some 84)) (v := ?_) (a' := ?_) #[true, true, true, true, true, true, true, true, true, true, true, true, true, true, true, false, false, false, false, false, false, false, false, false, false, false, false, false, false] rfl rfl (by kernel_rfl) (fun _ _ _ h => h) (Or.inl ⟨by rfl, ?_⟩) ?_ ?_
            rotate_left
            · intro w'
              go_simp
              with_reducible rfl
            rotate_left
            · simp only [Act.put, List.setIfInBounds_toArray, List.set_cons_zero, List.set_cons_succ, i64_w, i32_w]
              rfl
            refine pure_ (i := 15) (N := (some 85)) (v := ?_) (a' := ?_) #[true, true, true, true, true, true, true, true, true, true, true, true, true, true, true, true, false, false, false, false, false, false, false, false, false, false, false, false, false] rfl rfl (by kernel_rfl) (fun _ _ _ h => h) (Or.inl ⟨by rfl, ?_⟩) ?_ ?_
            rotate_left
            · intro w'
              go_simp
              with_reducible rfl
            rotate_left
            · simp only [Act.put, List.setIfInBounds_toArray, List.set_cons_zero, List.set_cons_succ, i64_w, i32_w]
              rfl
            refine pure_ (i := 16) (N := (some 86)) (v := ?_) (a' := ?_) #[true, true, true, true, true, true, true, true, true, true, true, true, true, true, true, true, true, false, false, false, false, false, false, false, false, false, false, false, false] rfl rfl (by kernel_rfl) (fun _ _ _ h => h) (Or.inl ⟨by rfl, ?_⟩) ?_ ?_
            rotate_left
            · intro w'
              go_simp
              with_reducible rfl
            rotate_left
            · simp only [Act.put, List.setIfInBounds_toArray, List.set_cons_zero, List.set_cons_succ, i64_w, i32_w]
              rfl
            refine pure_ (i := 17) (N := (some 87)) (v := ?_) (a' := ?_) #[true, true, true, true, true, true, true, true, true, true, true, true, true, true, true, true, true, true, false, false, false, false, false, false, false, false, false, false, false] rfl rfl (by kernel_rfl) (fun _ _ _ h => h) (Or.inl ⟨by rfl, ?_⟩) ?_ ?_
            rotate_left
            · intro w'
              go_simp
              with_reducible rfl
            rotate_left
            · simp only [Act.put, List.setIfInBounds_toArray, List.set_cons_zero, List.set_cons_succ, i64_w, i32_w]
              rfl
            refine pure_ (i := 18) (N := (some 88)) (v := ?_) (a' := ?_) #[true, true, true, true, true, true, true, true, true, true, true, true, true, true, true, true, true, true, true, false, false, false, false, false, false, false, false, false, false] rfl rfl (by kernel_rfl) (fun _ _ _ h => h) (Or.inl ⟨by rfl, ?_⟩) ?_ ?_
            rotate_left
            · intro w'
              go_simp
              with_reducible rfl
            rotate_left
            · simp only [Act.put, List.setIfInBounds_toArray, List.set_cons_zero, List.set_cons_succ, i64_w, i32_w]
              rfl
            refine pure_ (i := 19) (N := (some 89)) (v := ?_) (a' := ?_) #[true, true, true, true, true, true, true, true, true, true, true, true, true, true, true, true, true, true, true, true, false, false, false, false, false, false, false, false, false] rfl rfl (by kernel_rfl) (fun _ _ _ h => h) (Or.inl ⟨by rfl, ?_⟩) ?_ ?_
            rotate_left
            · intro w'
              go_simp
              with_reducible rfl
            rotate_left
            · simp only [Act.put, List.setIfInBounds_toArray, List.set_cons_zero, List.set_cons_succ, i64_w, i32_w]
              rfl
            refine take_ (i := 20) (N := (some 90)) (v := ?_) (a' := ?_) #[true, true, true, true, true, true, true, true, true, true, true, true, true, true, true, true, true, true, true, true, true, false, false, false, false, false, false, false, false] rfl rfl (by kernel_rfl) (fun _ _ _ h => h) (Or.inl ⟨by rfl, ?_⟩) hHeld ?_ ?_
            rotate_left
            · rintro w' ⟨s0, s1⟩
              go_simp
              with_reducible rfl
            rotate_left
            · simp only [Act.put, List.setIfInBounds_toArray, List.set_cons_zero, List.set_cons_succ, i64_w, i32_w]
              rfl
            refine pure_ (i := 21) (N := (some 91)) (v := ?_) (a' := ?_) #[true, true, true, true, true, true, true, true, true, true, true, true, true, true, true, true, true, true, true, true, true, true, false, false, false, false, false, false, false] rfl rfl (by kernel_rfl) (fun _ _ _ h => h) (Or.inl ⟨by rfl, ?_⟩) ?_ ?_
            rotate_left
            · intro w'
              go_simp
              with_reducible rfl
            rotate_left
            · simp only [Act.put, List.setIfInBounds_toArray, List.set_cons_zero, List.set_cons_succ, i64_w, i32_w]
              rfl
            refine pure_ (i := 22) (N := (some 92)) (v := ?_) (a' := ?_) #[true, true, true, true, true, true, true, true, true, true, true, true, true, true, true, true, true, true, true, true, true, true, true, false, false, false, false, false, false] rfl rfl (by kernel_rfl) (fun _ _ _ h => h) (Or.inl ⟨by rfl, ?_⟩) ?_ ?_
            rotate_left
            · intro w'
              go_simp
              with_reducible rfl
            rotate_left
            · simp only [Act.put, List.setIfInBounds_toArray, List.set_cons_zero, List.set_cons_succ, i64_w, i32_w]
              rfl
            refine pure_ (i := 23) (N := (some 93)) (v := undef) (a' := ?_) #[true, true, true, true, true, true, true, true, true, true, true, true, true, true, true, true, true, true, true, true, true, true, true, true, false, false, false, false, false] rfl rfl (by kernel_rfl) (fun _ _ _ h => h) (Or.inr ⟨by rfl, rfl⟩) ?_ ?_
            rotate_left
            · simp only [Act.put, List.setIfInBounds_toArray, List.set_cons_zero, List.set_cons_succ, i64_w, i32_w]
              rfl
            refine pure_ (i := 24) (N := (some 94)) (v := undef) (a' := ?_) #[true, true, true, true, true, true, true, true, true, true, true, true, true, true, true, true, true, true, true, true, true, true, true, true, true, false, false, false, false] rfl rfl (by kernel_rfl) (fun _ _ _ h => h) (Or.inr ⟨by rfl, rfl⟩) ?_ ?_
            rotate_left
            · simp only [Act.put, List.setIfInBounds_toArray, List.set_cons_zero, List.set_cons_succ, i64_w, i32_w]
              rfl
            refine pure_ (i := 25) (N := (some 95)) (v := undef) (a' := ?_) #[true, true, true, true, true, true, true, true, true, true, true, true, true, true, true, true, true, true, true, true, true, true, true, true, true, true, false, false, false] rfl rfl (by kernel_rfl) (fun _ _ _ h => h) (Or.inr ⟨by rfl, rfl⟩) ?_ ?_
            rotate_left
            · simp only [Act.put, List.setIfInBounds_toArray, List.set_cons_zero, List.set_cons_succ, i64_w, i32_w]
              rfl
            refine pure_ (i := 26) (N := (some 96)) (v := ?_) (a' := ?_) #[true, true, true, true, true, true, true, true, true, true, true, true, true, true, true, true, true, true, true, true, true, true, true, true, true, true, true, false, false] rfl rfl (by kernel_rfl) (fun _ _ _ h => h) (Or.inl ⟨by rfl, ?_⟩) ?_ ?_
            rotate_left
            · intro w'
              go_simp
              with_reducible rfl
            rotate_left
            · simp only [Act.put, List.setIfInBounds_toArray, List.set_cons_zero, List.set_cons_succ, i64_w, i32_w]
              rfl
            refine pure_ (i := 27) (N := (some 97)) (v := ?_) (a' := ?_) #[true, true, true, true, true, true, true, true, true, true, true, true, true, true, true, true, true, true, true, true, true, true, true, true, true, true, true, true, false] rfl rfl (by kernel_rfl) (fun _ _ _ h => h) (Or.inl ⟨by rfl, ?_⟩) ?_ ?_
            rotate_left
            · intro w'
              go_simp
              with_reducible rfl
            rotate_left
            · simp only [Act.put, List.setIfInBounds_toArray, List.set_cons_zero, List.set_cons_succ, i64_w, i32_w]
              rfl
            refine pure_ (i := 28) (N := (some 6)) (v := ?_) (a' := ?_) #[true, true, true, true, true, true, true, true, true, true, true, true, true, true, true, true, true, true, true, true, true, true, true, true, true, true, true, true, true] rfl rfl (by kernel_rfl) (fun _ _ _ h => h) (Or.inl ⟨by rfl, ?_⟩) ?_ ?_
            rotate_left
            · intro w'
              go_simp
              with_reducible rfl
            rotate_left
            · simp only [Act.put, List.setIfInBounds_toArray, List.set_cons_zero, List.set_cons_succ, i64_w, i32_w]
              rfl
            refine done_ (by kernel_rfl) ?_
            clear hw1 hw2 hw3
            go_wp2
            go_ret
            exact ⟨rfl, by first | exact HE9.out | exact HE9.out.drew | exact pw_below_drewN HE9.out _⟩
          · have hzd : decide (0 < fl) = false := by simpa using hz0
            have hk7 : (k : Int) + 1 = S := k6.out (by clear hw1 hw2 hw3; omega)
            have hzb : ((k : Int) + 1 == S) = true := by rw [beq_iff_eq]; exact hk7
            have hk7' := Lib.hid hk7
            clear hk7
            refine start_ (n := 29) (S := fun w' => w'.cell? ⟨X_33, 15, none⟩ = some (.int .i64 fl) ∧ w'.heap[B0]? = some (.cells A0 23 (0, 0))) (ds := []) #[false, false, false, false, false, false, false, false, false, false, false, false, false, false, false, false, false, false, false, false, false, false, false, false, false, false, false, false, false] (by kernel_rfl) rfl rfl ⟨cf, H_116.out⟩ (fun hHeld => ?_)
            refine pure_ (i := 0) (N := (some 70)) (v := ?_) (a' := ?_) #[true, false, false, false, false, false, false, false, false, false, false, false, false, false, false, false, false, false, false, false, false, false, false, false, false, false, false, false, false] rfl rfl (by kernel_rfl) (fun _ _ _ h => h) (Or.inl ⟨by rfl, ?_⟩) ?_ ?_
            rotate_left
            · intro w'
              go_simp
              with_reducible rfl
            rotate_left
            · simp only [Act.put, List.setIfInBounds_toArray, List.set_cons_zero, List.set_cons_succ, i64_w, i32_w]
              rfl
            refine pure_ (i := 1) (N := (some 71)) (v := ?_) (a' := ?_) #[true, true, false, false, false, false, false, false, false, false, false, false, false, false, false, false, false, false, false, false, false, false, false, false, false, false, false, false, false] rfl rfl (by kernel_rfl) (fun _ _ _ h => h) (Or.inl ⟨by rfl, ?_⟩) ?_ ?_
            rotate_left
            · intro w'
              go_simp
              with_reducible rfl
            rotate_left
            · simp only [Act.put, List.setIfInBounds_toArray, List.set_cons_zero, List.set_cons_succ, i64_w, i32_w]
              rfl
            refine pure_ (i := 2) (N := (some 72)) (v := ?_) (a' := ?_) #[true, true, true, false, false, false, false, false, false, false, false, false, false, false, false, false, false, false, false, false, false, false, false, false, false, false, false, false, false] rfl rfl (by kernel_rfl) (fun _ _ _ h => h) (Or.inl ⟨by rfl, ?_⟩) ?_ ?_
            rotate_left
            · intro w'
              go_simp
              with_reducible rfl
            rotate_left
            · simp only [Act.put, List.setIfInBounds_toArray, List.set_cons_zero, List.set_cons_succ, i64_w, i32_w]
              rfl
            refine take_ (i := 3) (N := (some 73)) (v := ?_) (a' := ?_) #[true, true, true, true, false, false, false, false, false, false, false, false, false, false, false, false, false, false, false, false, false, false, false, false, false, false, false, false, false] rfl rfl (by kernel_rfl) (fun _ _ _ h => h) (Or.inl ⟨by rfl, ?_⟩) hHeld ?_ ?_
            rotate_left
            · rintro w' ⟨s0, s1⟩
              go_simp
              with_reducible rfl
            rotate_left
            · simp only [Act.put, List.setIfInBounds_toArray, List.set_cons_zero, List.set_cons_succ, i64_w, i32_w]
              rfl
            refine pure_ (i := 4) (N := (some 74)) (v := ?_) (a' := ?_) #[true, true, true, true, true, false, false, false, false, false, false, false, false, false, false, false, false, false, false, false, false, false, false, false, false, false, false, false, false] rfl rfl (by kernel_rfl) (fun _ _ _ h => h) (Or.inl ⟨by rfl, ?_⟩) ?_ ?_
            rotate_left
            · intro w'
              go_simp
              with_reducible rfl
            rotate_left
            · simp only [Act.put, List.setIfInBounds_toArray, List.set_cons_zero, List.set_cons_succ, i64_w, i32_w]
              rfl
            refine pure_ (i := 5) (N := (some 75)) (v := ?_) (a' := ?_) #[true, true, true, true, true, true, false, false, false, false, false, false, false, false, false, false, false, false, false, false, false, false, false, false, false, false, false, false, false] rfl rfl (by kernel_rfl) (fun _ _ _ h => h) (Or.inl ⟨by rfl, ?_⟩) ?_ ?_
            rotate_left
            · intro w'
              go_simp
              with_reducible rfl
            rotate_left
            · simp only [Act.put, List.setIfInBounds_toArray, List.set_cons_zero, List.set_cons_succ, i64_w, i32_w]
              rfl
            refine pure_ (i := 6) (N := (some 76)) (v := ?_) (a' := ?_) #[true, true, true, true, true, true, true, false, false, false, false, false, false, false, false, false, false, false, false, false, false, false, false, false, false, false, false, false, false] rfl rfl (by kernel_rfl) (fun _ _ _ h => h) (Or.inl ⟨by rfl, ?_⟩) ?_ ?_
            rotate_left
            · intro w'
              go_simp
              with_reducible rfl
            rotate_left
            · simp only [Act.put, List.setIfInBounds_toArray, List.set_cons_zero, List.set_cons_succ, i64_w, i32_w]
              rfl
            refine pure_ (i := 7) (N := (some 77)) (v := ?_) (a' := ?_) #[true, true, true, true, true, true, true, true, false, false, false, false, false, false, false, false, false, false, false, false, false, false, false, false, false, false, false, false, false] rfl rfl (by kernel_rfl) (fun _ _ _ h => h) (Or.inl ⟨by rfl, ?_⟩) ?_ ?_
            rotate_left
            · intro w'
              go_simp
              with_reducible rfl
            rotate_left
            · simp only [Act.put, List.setIfInBounds_toArray, List.set_cons_zero, List.set_cons_succ, i64_w, i32_w]
              rfl
            refine pure_ (i := 8) (N := (some 78)) (v := ?_) (a' := ?_) #[true, true, true, true, true, true, true, true, true, false, false, false, false, false, false, false, false, false, false, false, false, false, false, false, false, false, false, false, false] rfl rfl (by kernel_rfl) (fun _ _ _ h => h) (Or.inl ⟨by rfl, ?_⟩) ?_ ?_
            rotate_left
            · intro w'
              go_simp
              with_reducible rfl
            rotate_left
            · simp only [Act.put, List.setIfInBounds_toArray, List.set_cons_zero, List.set_cons_succ, i64_w, i32_w]
              rfl
            refine pure_ (i := 9) (N := (some 79)) (v := ?_) (a' := ?_) #[true, true, true, true, true, true, true, true, true, true, false, false, false, false, false, false, false, false, false, false, false, false, false, false, false, false, false, false, false] rfl rfl (by kernel_rfl) (fun _ _ _ h => h) (Or.inl ⟨by rfl, ?_⟩) ?_ ?_
            rotate_left
            · intro w'
              go_simp
              with_reducible rfl
            rotate_left
            · simp only [Act.put, List.setIfInBounds_toArray, List.set_cons_zero, List.set_cons_succ, i64_w, i32_w]
              rfl
            refine pure_ (i := 10) (N := (some 80)) (v := ?_) (a' := ?_) #[true, true, true, true, true, true, true, true, true, true, true, false, false, false, false, false, false, false, false, false, false, false, false, false, false, false, false, false, false] rfl rfl (by kernel_rfl) (fun _ _ _ h => h) (Or.inl ⟨by rfl, ?_⟩) ?_ ?_
            rotate_left
            · intro w'
              go_simp
              with_reducible rfl
            rotate_left
            · simp only [Act.put, List.setIfInBounds_toArray, List.set_cons_zero, List.set_cons_succ, i64_w, i32_w]
              rfl
            refine take_ (i := 11) (N := (some 81)) (v := ?_) (a' := ?_) #[true, true, true, true, true, true, true, true, true, true, true, true, false, false, false, false, false, false, false, false, false, false, false, false, false, false, false, false, false] rfl rfl (by kernel_rfl) (fun _ _ _ h => h) (Or.inl ⟨by rfl, ?_⟩) hHeld ?_ ?_
            rotate_left
            · rintro w' ⟨s0, s1⟩
              go_simp
              with_reducible rfl
            rotate_left
            · simp only [Act.put, List.setIfInBounds_toArray, List.set_cons_zero, List.set_cons_succ, i64_w, i32_w]
              rfl
            refine take_ (i := 12) (N := (some 82)) (v := .agg A0) (a' := ?_) #[true, true, true, true, true, true, true, true, true, true, true, true, true, false, false, false, false, false, false, false, false, false, false, false, false, false, false, false, false] rfl rfl (by kernel_rfl) (fun _ _ _ h => h) (Or.inl ⟨by rfl, ?_⟩) hHeld ?_ ?_
            · rintro w' ⟨s0, s1⟩
              exact ld_op 23 _ rfl B0 rfl s1 Try.underlying23 rfl (by kernel_rfl) zA0.out
            rotate_left
            · simp only [Act.put, List.setIfInBounds_toArray, List.set_cons_zero, List.set_cons_succ, i64_w, i32_w]
              rfl
            refine one_ (i := 13) (N := (some 83)) #[true, true, true, true, true, true, true, true, true, true, true, true, true, true, false, false, false, false, false, false, false, false, false, false, false, false, false, false, false] rfl rfl (by kernel_rfl) (by decide) (fun K hK => ?_)
            refine goes_ Try.func14 (by kernel_rfl) rfl #[.agg A0] (by rfl) rfl rfl (by (try simp only [List.map_toArray, List.map_cons, List.map_nil]); first | done | rfl) ?_
            refine (EX.out _).mono ?_
            rintro e V9 ⟨rfl, hb9⟩
            have HE9 := Lib.hid ((HE_120.out.drew).trans (hb9.mono (sz_le hB0.out HE_120.out.size)))
            refine ⟨_, rfl, ?_⟩
            refine hK.out _ _ ⟨(hb9.cell (p := ⟨X_33, 15, none⟩) (blk_lt H_117.out)).trans cf, (hb9.block B0 (blk_lt H_116.out)).trans H_116.out⟩ (fun hHeld => ?_)
            clear hK K
            refine norm_ (a' := ?_) ?_ ?_
            rotate_left
            · show Act.put _ (some 83) _ = _
              simp only [Act.put, List.setIfInBounds_toArray, List.set_cons_zero, List.set_cons_succ, i64_w, i32_w]
              rfl
            refine pure_ (i := 14) (N := (some 84)) (v := ?_) (a' := ?_) #[true, true, true, true, true, true, true, true, true, true, true, true, true, true, true, false, false, false, false, false, false, false, false, false, false, false, false, false, false] rfl rfl (by kernel_rfl) (fun _ _ _ h => h) (Or.inl ⟨by rfl, ?_⟩) ?_ ?_
            rotate_left
            · intro w'
              go_simp
              with_reducible rfl
            rotate_left
            · simp only [Act.put, List.setIfInBounds_toArray, List.set_cons_zero, List.set_cons_succ, i64_w, i32_w]
              rfl
            refine pure_ (i := 15) (N := (some 85)) (v := ?_) (a' := ?_) #[true, true, true, true, true, true, true, true, true, true, true, true, true, true, true, true, false, false, false, false, false, false, false, false, false, false, false, false, false] rfl rfl (by kernel_rfl) (fun _ _ _ h => h) (Or.inl ⟨by rfl, ?_⟩) ?_ ?_
            rotate_left
            · intro w'
              go_simp
              with_reducible rfl
            rotate_left
            · simp only [Act.put, List.setIfInBounds_toArray, List.set_cons_zero, List.set_cons_succ, i64_w, i32_w]
              rfl
            refine pure_ (i := 16) (N := (some 86)) (v := ?_) (a' := ?_) #[true, true, true, true, true, true, true, true, true, true, true, true, true, true, true, true, true, false, false, false, false, false, false, false, false, false, false, false, false] rfl rfl (by kernel_rfl) (fun _ _ _ h => h) (Or.inl ⟨by rfl, ?_⟩) ?_ ?_
            rotate_left
            · intro w'
              go_simp
              with_reducible rfl
            rotate_left
            · simp only [Act.put, List.setIfInBounds_toArray, List.set_cons_zero, List.set_cons_succ, i64_w, i32_w]
              rfl
            refine pure_ (i := 17) (N := (some 87)) (v := ?_) (a' := ?_) #[true, true, true, true, true, true, true, true, true, true, true, true, true, true, true, true, true, true, false, false, false, false, false, false, false, false, false, false, false] rfl rfl (by kernel_rfl) (fun _ _ _ h => h) (Or.inl ⟨by rfl, ?_⟩) ?_ ?_
            rotate_left
            · intro w'
              go_simp
              with_reducible rfl
            rotate_left
            · simp only [Act.put, List.setIfInBounds_toArray, List.set_cons_zero, List.set_cons_succ, i64_w, i32_w]
              rfl
            refine pure_ (i := 18) (N := (some 88)) (v := ?_) (a' := ?_) #[true, true, true, true, true, true, true, true, true, true, true, true, true, true, true, true, true, true, true, false, false, false, false, false, false, false, false, false, false] rfl rfl (by kernel_rfl) (fun _ _ _ h => h) (Or.inl ⟨by rfl, ?_⟩) ?_ ?_
            rotate_left
            · intro w'
              go_simp
              with_reducible rfl
            rotate_left
            · simp only [Act.put, List.setIfInBounds_toArray, List.set_cons_zero, List.set_cons_succ, i64_w, i32_w]
              rfl
            refine pure_ (i := 19) (N := (some 89)) (v := ?_) (a' := ?_) #[true, true, true, true, true, true, true, true, true, true, true, true, true, true, true, true, true, true, true, true, false, false, false, false, false, false, false, false, false] rfl rfl (by kernel_rfl) (fun _ _ _ h => h) (Or.inl ⟨by rfl, ?_⟩) ?_ ?_
            rotate_left
            · intro w'
              go_simp
              with_reducible rfl
            rotate_left
            · simp only [Act.put, List.setIfInBounds_toArray, List.set_cons_zero, List.set_cons_succ, i64_w, i32_w]
              rfl
            refine take_ (i := 20) (N := (some 90)) (v := ?_) (a' := ?_) #[true, true, true, true, true, true, true, true, true, true, true, true, true, true, true, true, true, true, true, true, true, false, false, false, false, false, false, false, false] rfl rfl (by kernel_rfl) (fun _ _ _ h => h) (Or.inl ⟨by rfl, ?_⟩) hHeld ?_ ?_
            rotate_left
            · rintro w' ⟨s0, s1⟩
              go_simp
              with_reducible rfl
            rotate_left
            · simp only [Act.put, List.setIfInBounds_toArray, List.set_cons_zero, List.set_cons_succ, i64_w, i32_w]
              rfl
            refine pure_ (i := 21) (N := (some 91)) (v := ?_) (a' := ?_) #[true, true, true, true, true, true, true, true, true, true, true, true, true, true, true, true, true, true, true, true, true, true, false, false, false, false, false, false, false] rfl rfl (by kernel_rfl) (fun _ _ _ h => h) (Or.inl ⟨by rfl, ?_⟩) ?_ ?_
            rotate_left
            · intro w'
              go_simp
              with_reducible rfl
            rotate_left
            · simp only [Act.put, List.setIfInBounds_toArray, List.set_cons_zero, List.set_cons_succ, i64_w, i32_w]
              rfl
            refine pure_ (i := 22) (N := (some 92)) (v := ?_) (a' := ?_) #[true, true, true, true, true, true, true, true, true, true, true, true, true, true, true, true, true, true, true, true, true, true, true, false, false, false, false, false, false] rfl rfl (by kernel_rfl) (fun _ _ _ h => h) (Or.inl ⟨by rfl, ?_⟩) ?_ ?_
            rotate_left
            · intro w'
              go_simp
              with_reducible rfl
            rotate_left
            · simp only [Act.put, List.setIfInBounds_toArray, List.set_cons_zero, List.set_cons_succ, i64_w, i32_w]
              rfl
            refine pure_ (i := 23) (N := (some 93)) (v := ?_) (a' := ?_) #[true, true, true, true, true, true, true, true, true, true, true, true, true, true, true, true, true, true, true, true, true, true, true, true, false, false, false, false, false] rfl rfl (by kernel_rfl) (fun _ _ _ h => h) (Or.inl ⟨by rfl, ?_⟩) ?_ ?_
            rotate_left
            · intro w'
              go_simp
              with_reducible rfl
            rotate_left
            · simp only [Act.put, List.setIfInBounds_toArray, List.set_cons_zero, List.set_cons_succ, i64_w, i32_w]
              rfl
            refine pure_ (i := 24) (N := (some 94)) (v := ?_) (a' := ?_) #[true, true, true, true, true, true, true, true, true, true, true, true, true, true, true, true, true, true, true, true, true, true, true, true, true, false, false, false, false] rfl rfl (by kernel_rfl) (fun _ _ _ h => h) (Or.inl ⟨by rfl, ?_⟩) ?_ ?_
            rotate_left
            · intro w'
              go_simp
              with_reducible rfl
            rotate_left
            · simp only [Act.put, List.setIfInBounds_toArray, List.set_cons_zero, List.set_cons_succ, i64_w, i32_w]
              rfl
            refine pure_ (i := 25) (N := (some 95)) (v := ?_) (a' := ?_) #[true, true, true, true, true, true, true, true, true, true, true, true, true, true, true, true, true, true, true, true, true, true, true, true, true, true, false, false, false] rfl rfl (by kernel_rfl) (fun _ _ _ h => h) (Or.inl ⟨by rfl, ?_⟩) ?_ ?_
            rotate_left
            · intro w'
              go_simp
              with_reducible rfl
            rotate_left
            · simp only [Act.put, List.setIfInBounds_toArray, List.set_cons_zero, List.set_cons_succ, i64_w, i32_w]
              rfl
            refine pure_ (i := 26) (N := (some 96)) (v := ?_) (a' := ?_) #[true, true, true, true, true, true, true, true, true, true, true, true, true, true, true, true, true, true, true, true, true, true, true, true, true, true, true, false, false] rfl rfl (by kernel_rfl) (fun _ _ _ h => h) (Or.inl ⟨by rfl, ?_⟩) ?_ ?_
            rotate_left
            · intro w'
              go_simp
              with_reducible rfl
            rotate_left
            · simp only [Act.put, List.setIfInBounds_toArray, List.set_cons_zero, List.set_cons_succ, i64_w, i32_w]
              rfl
            refine pure_ (i := 27) (N := (some 97)) (v := ?_) (a' := ?_) #[true, true, true, true, true, true, true, true, true, true, true, true, true, true, true, true, true, true, true, true, true, true, true, true, true, true, true, true, false] rfl rfl (by kernel_rfl) (fun _ _ _ h => h) (Or.inl ⟨by rfl, ?_⟩) ?_ ?_
            rotate_left
            · intro w'
              go_simp
              with_reducible rfl
            rotate_left
            · simp only [Act.put, List.setIfInBounds_toArray, List.set_cons_zero, List.set_cons_succ, i64_w, i32_w]
              rfl
            refine pure_ (i := 28) (N := (some 6)) (v := ?_) (a' := ?_) #[true, true, true, true, true, true, true, true, true, true, true, true, true, true, true, true, true, true, true, true, true, true, true, true, true, true, true, true, true] rfl rfl (by kernel_rfl) (fun _ _ _ h => h) (Or.inl ⟨by rfl, ?_⟩) ?_ ?_
            rotate_left
            · intro w'
              go_simp
              with_reducible rfl
            rotate_left
            · simp only [Act.put, List.setIfInBounds_toArray, List.set_cons_zero, List.set_cons_succ, i64_w, i32_w]
              rfl
            refine done_ (by kernel_rfl) ?_
            clear hw1 hw2 hw3
            go_wp2
            go_ret
            exact ⟨rfl, by first | exact HE9.out | exact HE9.out.drew | exact pw_below_drewN HE9.out _⟩
        · have b1 : (e' == 4) = false := by rw [beq_eq_false_iff_ne]; exact k1
          have k1' := Lib.hid k1
          replace k2 := Lib.hid k2
          replace hcl := Lib.hid hcl
          clear k1
          rcases k3 with ⟨j1, j2⟩ | ⟨j1, j2⟩
          · have b2 : (e' != 0) = false := by rw [j1]; rfl
            replace j1 := Lib.hid j1
            replace j2 := Lib.hid j2
            go_wp2_with (first | (refine wpl_ld _ _ rfl (by rfl) X_33 rfl HR.out Try.underlying28 rfl (by kernel_rfl) zR.out ?_))
            refine (SC.out _ _ _ eR.out eU.out).mono ?_; rintro e V_121 ⟨rfl, hb_122⟩
            have H_123 : Hid (V_121.heap[B0]? = some (.cells A0 23 (0, 0))) := Lib.hid ((hb_122.block B0 (blk_lt HT.out)).trans HT.out)
            have H_124 : Hid (V_121.heap[X_33]? = some (.cells R 28 (0, 0))) := Lib.hid ((hb_122.block X_33 (blk_lt HR.out)).trans HR.out)
            have HE_125 : Hid (Below B0 w V_121) := Lib.hid (HE.out.trans (hb_122.mono (sz_le hB0.out HE.out.size)))
            clear HE HT HR
            clear hb_122
            obtain ⟨X_126, hX_128⟩ : ∃ X, V_121.heap.size = X := ⟨_, rfl⟩
            obtain ⟨V_127, q_129_0, q_129_1, q_129_2, q_129_3⟩ := st_new (w := V_121) (T := 28) hX_128 zZ.out zU.out oU.out
            have ne_131 : B0 < X_126 := hX_128 ▸ blk_lt H_123.out
            have H_130 : Hid (V_127.heap[B0]? = some (.cells A0 23 (0, 0))) := Lib.hid ((q_129_2 _ ne_131).trans H_123.out)
            have ne_133 : X_33 < X_126 := hX_128 ▸ blk_lt H_124.out
            have H_132 : Hid (V_127.heap[X_33]? = some (.cells R 28 (0, 0))) := Lib.hid ((q_129_2 _ ne_133).trans H_124.out)
            have ge_134 : B0 ≤ X_126 := hX_128 ▸ (sz_le hB0.out HE_125.out.size)
            have HE_135 : Hid (Below B0 w V_127) := Lib.hid (q_129_3 _ _ ge_134 HE_125.out)
            have H_136 := Lib.hid q_129_1
            clear q_129_1 q_129_2 q_129_3
            go_upto_region 14 with (fail)
            clear q_129_0 hX_128
            clear HE_125 H_123 H_124
            obtain ⟨V_137, q_138_0, q_138_1, q_138_2, q_138_3⟩ := st_any H_132.out zR.out zU.out oU.out
            have H_139 : Hid (V_137.heap[B0]? = some (.cells A0 23 (0, 0))) := Lib.hid ((q_138_2 _ tr).trans H_130.out)
            have H_140 : Hid (V_137.heap[X_126]? = some (.cells U 28 (0, 0))) := Lib.hid ((q_138_2 _ (Nat.ne_of_gt ne_133)).trans H_136.out)
            have HE_141 : Hid (Below B0 w V_137) := Lib.hid (q_138_3 _ _ ge_39 HE_135.out)
            have H_142 := Lib.hid q_138_1
            clear q_138_1 q_138_2 q_138_3
            go_upto_region 15 with (first | (refine wpl_ld _ _ rfl (by rfl) X_126 rfl H_136.out Try.underlying28 rfl (by kernel_rfl) zU.out ?_))
            clear q_138_0
            clear HE_135 H_130 H_136 H_132
            have hτd : decide ((1000000 : Int) < (k : Int) + 1) = false := by have := hbd.out; unfold CBd at this; simp; omega
            have hkw : wrap64 ((k : Int) + 1) = (k : Int) + 1 := by have := hbd.out; unfold CBd at this; exact w64 (by omega) (by omega)
            go_wp2
            skip
            go_roundw
            case rel => exact ⟨_, k + 1, _, rfl, by go_num, rfl, u, U, eU.out, H_142.out, H_139.out, HE_141.out, by push_cast; exact k2.out, by rw [j2.out, hcl.out]; simp⟩
            case measure => (try simp only [hkw]); clear hkw; have := hbd.out; unfold CBd at this; simp [intOf] <;> omega
          · have b2 : (e' != 0) = true := by simpa using j1
            have j1' := Lib.hid j1
            replace j2 := Lib.hid j2
            clear j1
            go_wp2_with (first | (refine wpl_ld _ _ rfl (by rfl) X_33 rfl HR.out Try.underlying28 rfl (by kernel_rfl) zR.out ?_))
            refine (SC.out _ _ _ eR.out eU.out).mono ?_; rintro e V_143 ⟨rfl, hb_144⟩
            have H_145 : Hid (V_143.heap[B0]? = some (.cells A0 23 (0, 0))) := Lib.hid ((hb_144.block B0 (blk_lt HT.out)).trans HT.out)
            have H_146 : Hid (V_143.heap[X_33]? = some (.cells R 28 (0, 0))) := Lib.hid ((hb_144.block X_33 (blk_lt HR.out)).trans HR.out)
            have HE_147 : Hid (Below B0 w V_143) := Lib.hid (HE.out.trans (hb_144.mono (sz_le hB0.out HE.out.size)))
            clear HE HT HR
            clear hb_144
            obtain ⟨X_148, hX_150⟩ : ∃ X, V_143.heap.size = X := ⟨_, rfl⟩
            obtain ⟨V_149, q_151_0, q_151_1, q_151_2, q_151_3⟩ := st_new (w := V_143) (T := 28) hX_150 zZ.out zU.out oU.out
            have ne_153 : B0 < X_148 := hX_150 ▸ blk_lt H_145.out
            have H_152 : Hid (V_149.heap[B0]? = some (.cells A0 23 (0, 0))) := Lib.hid ((q_151_2 _ ne_153).trans H_145.out)
            have ne_155 : X_33 < X_148 := hX_150 ▸ blk_lt H_146.out
            have H_154 : Hid (V_149.heap[X_33]? = some (.cells R 28 (0, 0))) := Lib.hid ((q_151_2 _ ne_155).trans H_146.out)
            have ge_156 : B0 ≤ X_148 := hX_150 ▸ (sz_le hB0.out HE_147.out.size)
            have HE_157 : Hid (Below B0 w V_149) := Lib.hid (q_151_3 _ _ ge_156 HE_147.out)
            have H_158 := Lib.hid q_151_1
            clear q_151_1 q_151_2 q_151_3
            go_upto_region 14 with (fail)
            clear q_151_0 hX_150
            clear HE_147 H_145 H_146
            obtain ⟨V_159, q_160_0, q_160_1, q_160_2, q_160_3⟩ := st_any H_154.out zR.out zU.out oU.out
            have H_161 : Hid (V_159.heap[B0]? = some (.cells A0 23 (0, 0))) := Lib.hid ((q_160_2 _ tr).trans H_152.out)
            have H_162 : Hid (V_159.heap[X_148]? = some (.cells U 28 (0, 0))) := Lib.hid ((q_160_2 _ (Nat.ne_of_gt ne_155)).trans H_158.out)
            have HE_163 : Hid (Below B0 w V_159) := Lib.hid (q_160_3 _ _ ge_39 HE_157.out)
            have H_164 := Lib.hid q_160_1
            clear q_160_1 q_160_2 q_160_3
            go_upto_region 15 with (first | (refine wpl_ld _ _ rfl (by rfl) X_148 rfl H_158.out Try.underlying28 rfl (by kernel_rfl) zU.out ?_))
            clear q_160_0
            clear HE_157 H_152 H_158 H_154
            have hτd : decide ((1000000 : Int) < (k : Int) + 1) = false := by have := hbd.out; unfold CBd at this; simp; omega
            have hkw : wrap64 ((k : Int) + 1) = (k : Int) + 1 := by have := hbd.out; unfold CBd at this; exact w64 (by omega) (by omega)
            go_wp2
            skip
            go_roundw
            case rel => exact ⟨_, k + 1, _, rfl, by go_num, rfl, u, U, eU.out, H_164.out, H_161.out, HE_163.out, by push_cast; exact k2.out, by rw [j2.out]; rfl⟩
            case measure => (try simp only [hkw]); clear hkw; have := hbd.out; unfold CBd at this; simp [intOf] <;> omega
theorem costl_walk (w : World) (x : S23) (d : Int) (_ : (Lit.int .i64 d).wf = true) (A : Option Addr) (l : List Bool) (cap : Nat) (hc : l.length ≤ cap) (hm : cap ≤ maxLen) (ha : Args.Arg Value.bool w A l) : Calls Try.prog 6 #[.agg #[.string x.f0, .int .i64 x.f1, .int .i64 x.f2, .int .i64 x.f3, .int .i64 x.f4, .int .i64 x.f5, .int .i64 x.f6, .int .i64 x.f7, .int .i64 x.f8, .int .i64 x.f9, .int .i64 x.f10], .int .i64 d, .slice A l.length cap] w fun e w' => e = .returned (.bool true) ∧ Below w.heap.size w w' := by
  unfold maxLen at hm
  by_cases hn : (l.length : Int) ≤ 300
  · obtain ⟨b, hb, hp⟩ := small_tot x d
    cases b with
    | true => exact cost_main w x d A l cap ha hn hb (hp rfl)
    | false => exact cost_out w x d A l cap hn hb
  · exact cost_long w x d A l cap (by omega) (by omega)
end Go.Proofs.Ytkedmmimcmignaa.PS
