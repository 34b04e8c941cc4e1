/- The law RecoverRest, walked. -/
import Derived.Test.YtkedmmimcmignaaLB
namespace Go.Proofs.Ytkedmmimcmignaa.PS
open Go.RowKit Go.Proofs.Ytkedmmimcmignaa.PC Go.Proofs.YtkedmmimcmignaaW.PrintWords Go.Proofs.YtkedmmimcmignaaW.PrintLast Go.Proofs.YtkedmmimcmignaaW.PrintMore
set_option linter.unusedVariables false
set_option linter.unusedSimpArgs false
theorem rest_l0 (l : List Int) (hl : l.length ≤ 1000000000000) : ∀ (r : List Int) (i : Nat) (n : Int), l.drop i = r → 0 ≤ n → (∀ x ∈ r, 0 ≤ x) → n + su r ≤ 9000000000000000000 → Ev (fun k => recover_Rest.l0 k n l (l.length : Int) (i : Int)) (n + su r) := by
  intro r
  induction r with
  | nil =>
    intro i n h _ _ _
    have := drop_nil h
    simp only [su, Int.add_zero]
    refine Ev.step (f := fun _ => some _) (fun k => ?_) (Ev.now _)
    simp only [recover_Rest.l0]
    rw [if_neg (by omega)]
  | cons x r ih =>
    intro i n h hn hr hb
    obtain ⟨hi, hx, hd⟩ := drop_cons h
    have h0 := hr x (List.mem_cons_self ..)
    have hr2 : ∀ y ∈ r, 0 ≤ y := fun y hy => hr y (List.mem_cons_of_mem _ hy)
    have h1 := su_nonneg hr2
    simp only [su] at hb ⊢
    rw [← Int.add_assoc] at hb ⊢
    refine Ev.step (fun k => ?_) (ih (i + 1) (n + x) hd (by omega) hr2 hb)
    simp only [recover_Rest.l0]
    rw [if_pos (by omega), if_pos (by omega), if_pos (by omega), hx, w1 (n := i) (by omega), w64 (x := n + x) (by omega) (by omega)]
section
variable {t : S23} {d : Int} (od : Okd t d)
include od in
theorem rest_ev {s : St} (I : Inv t d s) : Ev (fun k => recover_Rest.f k t.f0 t.f1 t.f2 t.f3 t.f4 t.f5 t.f6 t.f7 t.f8 t.f9 t.f10 d (s.p : Int) s.left s.str s.fl) (rem t d s) := by
  have hx := sx_bd od
  obtain ⟨ok, a, b, c, h1, h2⟩ := od
  have hr := rem_bd ok h1 I
  unfold recover_Rest.f
  unfold rem at hr ⊢
  by_cases k : t.f9 = 1
  · simp only [if_pos k] at hr ⊢
    refine Ev.bind (parts_ev ok d h1 h2) ?_
    have hp := (I.1 k).1
    have hlen := pt_len ok d h1 h2
    simp only [w1 (n := s.p) (show s.p ≤ 1000000000000000 by omega), Int.toNat_natCast]
    simp only [if_pos (show (0 : Int) ≤ ((s.p + 1 : Nat) : Int) by omega), if_pos (show ((s.p + 1 : Nat) : Int) ≤ ((pt t d).length : Int) by omega), Option.bind_some]
    have := I.2.2
    exact rest_l0 _ (by simp; omega) _ 0 _ rfl (by omega) (fun x hx => pt_nonneg ok h1 x (List.mem_of_mem_drop hx)) (by omega)
  · simp only [if_neg k]
    exact Ev.now _
include od in
theorem rest_c {s : St} (I : Inv t d s) (W : World) (A : Array Value) (hA : A = RA t d s) : Calls Try.prog 11 #[.agg A] W fun e w' => e = .returned (.int .i64 (rem t d s)) ∧ Below W.heap.size W w' := by
  subst hA
  obtain ⟨k, h⟩ := (rest_ev od I).rounds
  exact recover_Rest.calls k _ _ _ _ _ _ _ _ _ _ _ _ _ _ _ _ _ W h
end
theorem ld_op {o : Oper} {a : Act} {w : World} (T : TypeId) (x : Operand) (ho : o.op = .load T x) (g : Nat) (hx : a.eval x = .pointer (some ⟨g, 0, none⟩)) {A : Array Value} {T' : TypeId} {n : Nat} {d : TypeDesc}
    (hg : w.heap[g]? = some (.cells A T' (0, 0))) (hu : Try.prog.underlying T = some d) (hd : d.isRow = true) (hi : (Try.prog.info? T).map (·.size) = some n) (hA : A.size = n) : (execOp a.eval o).run Try.prog w = .ok (.value (.agg A)) w := by
  have := run_loadVar_mid (P := Try.prog) w g 0 T A.toList d (fun j v hv => by rw [Nat.zero_add, blk_cell hg]; simpa using hv) hu hd (by rw [hi, ← hA]; simp)
  unfold execOp
  simp only [ho, hx, Instr.loadAt, Instr.sureAddr, Sem.run_bind, Sem.run_pure, Result.andThen_ok, this]
theorem tick_on {t : S23} {d : Int} {s u : St} {hit : Bool} {e : Int} (T : Tick t d s hit (u, e)) (h : ¬ e = 4) : Inv t d u ∧ s.fl ≤ u.fl ∧ u.fl ≤ s.fl + 1 := by
  cases T with
  | runs _ e1 e2 e3 e4 e5 e6 e7 => exact ⟨e2, by omega, by omega⟩
  | passed _ e1 e0 e2 e3 e4 e5 e6 e7 e8 e9 => exact ⟨e3, by omega, by omega⟩
  | failed _ _ e1 e2 e3 e4 e5 e6 e7 e8 e9 => exact ⟨e4, by omega, by omega⟩
  | done _ e1 e2 e3 e4 e5 e6 e7 e8 => exact absurd rfl h
theorem tick_clean {t : S23} {d : Int} {s u : St} {e : Int} (T : Tick t d s false (u, e)) (hs : s.str = false) (h : ¬ e = 4) : Inv t d u ∧ u.fl = s.fl ∧ u.str = false ∧ rem t d u = rem t d s - 1 := by
  cases T with
  | runs _ e1 e2 e3 e4 e5 e6 e7 => exact ⟨e2, by omega, by rw [e6, hs]; rfl, e5⟩
  | passed _ e1 e0 e2 e3 e4 e5 e6 e7 e8 e9 => exact ⟨e3, by omega, e8, e7⟩
  | failed _ _ e1 e2 e3 e4 e5 e6 e7 e8 e9 => rw [hs] at e3; simp at e3
  | done _ e1 e2 e3 e4 e5 e6 e7 e8 => exact absurd rfl h
theorem tick_done {t : S23} {d : Int} {s u : St} {hit : Bool} {e : Int} (T : Tick t d s hit (u, e)) (h : e = 4) : rem t d s = 1 := by
  cases T with
  | runs _ e1 e2 e3 e4 e5 e6 e7 => omega
  | passed _ e1 e0 e2 e3 e4 e5 e6 e7 e8 e9 => omega
  | failed _ _ e1 e2 e3 e4 e5 e6 e7 e8 e9 => omega
  | done _ e1 e2 e3 e4 e5 e6 e7 e8 => exact e4
def RI (t : S23) (d : Int) (w : World) (B0 Xr : Nat) (P : St → Prop) (wr : World) : Prop := ∃ s R, R = RA t d s ∧ wr.heap[Xr]? = some (.cells R 28 (0, 0)) ∧ Below B0 w wr ∧ Inv t d s ∧ P s
set_option maxRecDepth 100000 in
set_option maxHeartbeats 4000000 in
theorem rest_long (w : World) (t : S23) (d : Int) (A : Option Addr) (l : List Bool) (cap : Nat) (hcm : l.length ≤ 9223372036854775807) (hn : (300 : Int) < (l.length : Int)) : Calls Try.prog 3 #[.agg (TA t), .int .i64 d, .slice A l.length cap] w fun e w' => e = .returned (.bool true) ∧ Below w.heap.size w w' := by
  have hx : l.length ≤ 9223372036854775807 := hcm
  clear hcm
  obtain ⟨A0, eA0⟩ : ∃ A, A = TA t := ⟨_, rfl⟩
  rw [← eA0]
  have zA0 : Hid (A0.size = 11) := Lib.hid (by rw [eA0]; rfl)
  replace eA0 := Lib.hid eA0
  obtain ⟨Z, eZ⟩ : ∃ A : Array Value, A = #[.string ⟨#[]⟩, .int .i64 0, .int .i64 0, .int .i64 0, .int .i64 0, .int .i64 0, .int .i64 0, .int .i64 0, .int .i64 0, .int .i64 0, .int .i64 0, .int .i64 0, .int .i64 0, .int .i64 0, .bool false, .int .i64 0] := ⟨_, rfl⟩
  have zZ : Hid (Z.size = 16) := Lib.hid (by rw [eZ]; rfl)
  have hz : ∀ V : World, (zeroValue 28).run Try.prog V = .ok (.agg Z) V := fun V => by rw [eZ]; kernel_rfl
  replace eZ := Lib.hid eZ
  obtain ⟨B0, hB0⟩ : ∃ B, w.heap.size = B := ⟨_, rfl⟩
  rw [hB0]
  obtain ⟨V0, hV0⟩ : ∃ V, w.alloc (.cells A0 23) = V := ⟨_, rfl⟩
  have Ht : Hid (V0.heap[B0]? = some (.cells A0 23 (0, 0))) := Lib.hid (by rw [← hV0]; exact (box_new hB0).1)
  have HE : Hid (Below B0 w V0) := Lib.hid (by rw [← hV0, ← hB0]; exact (Below.refl _ _).alloc (Nat.le_refl _) _)
  go_enter Try.func3, Try.ntmps3
  go_upto_region 1 with (fail)
  replace hB0 := Lib.hid hB0
  replace hV0 := Lib.hid hV0
  go_wp2_with fail
  refine (aw_c _).mono ?_; rintro e V_1 ⟨rfl, hb_2⟩
  have H_3 : Hid (V_1.heap[B0]? = some (.cells A0 23 (0, 0))) := Lib.hid ((hb_2.block B0 (blk_lt Ht.out)).trans Ht.out)
  have HE_4 : Hid (Below B0 w V_1) := Lib.hid (HE.out.trans (hb_2.mono (sz_le hB0.out HE.out.size)))
  clear HE Ht
  clear hb_2
  go_wp2_with fail
  refine (aw_c _).mono ?_; rintro e V_5 ⟨rfl, hb_6⟩
  have H_7 : Hid (V_5.heap[B0]? = some (.cells A0 23 (0, 0))) := Lib.hid ((hb_6.block B0 (blk_lt H_3.out)).trans H_3.out)
  have HE_8 : Hid (Below B0 w V_5) := Lib.hid (HE_4.out.trans (hb_6.mono (sz_le hB0.out HE_4.out.size)))
  clear HE_4 H_3
  clear hb_6
  go_wp2
  go_ret
  exact ⟨rfl, HE_8.out⟩
set_option maxRecDepth 100000 in
set_option maxHeartbeats 4000000 in
theorem rest_out (w : World) (t : S23) (d : Int) (A : Option Addr) (l : List Bool) (cap : Nat) (hn : (l.length : Int) ≤ 300) (hb : Ev (fun k => pendulumref15_Small.f k t.f0 t.f1 t.f2 t.f3 t.f4 t.f5 t.f6 t.f7 t.f8 t.f9 t.f10 d) false) : Calls Try.prog 3 #[.agg (TA t), .int .i64 d, .slice A l.length cap] w fun e w' => e = .returned (.bool true) ∧ Below w.heap.size w w' := by
  have hnd : decide ((300 : Int) < (l.length : Int)) = false := by simp; omega
  obtain ⟨A0, eA0⟩ : ∃ A, A = TA t := ⟨_, rfl⟩
  rw [← eA0]
  have zA0 : Hid (A0.size = 11) := Lib.hid (by rw [eA0]; rfl)
  replace eA0 := Lib.hid eA0
  obtain ⟨Z, eZ⟩ : ∃ A : Array Value, A = #[.string ⟨#[]⟩, .int .i64 0, .int .i64 0, .int .i64 0, .int .i64 0, .int .i64 0, .int .i64 0, .int .i64 0, .int .i64 0, .int .i64 0, .int .i64 0, .int .i64 0, .int .i64 0, .int .i64 0, .bool false, .int .i64 0] := ⟨_, rfl⟩
  have zZ : Hid (Z.size = 16) := Lib.hid (by rw [eZ]; rfl)
  have hz : ∀ V : World, (zeroValue 28).run Try.prog V = .ok (.agg Z) V := fun V => by rw [eZ]; kernel_rfl
  replace eZ := Lib.hid eZ
  obtain ⟨B0, hB0⟩ : ∃ B, w.heap.size = B := ⟨_, rfl⟩
  rw [hB0]
  obtain ⟨V0, hV0⟩ : ∃ V, w.alloc (.cells A0 23) = V := ⟨_, rfl⟩
  have Ht : Hid (V0.heap[B0]? = some (.cells A0 23 (0, 0))) := Lib.hid (by rw [← hV0]; exact (box_new hB0).1)
  have HE : Hid (Below B0 w V0) := Lib.hid (by rw [← hV0, ← hB0]; exact (Below.refl _ _).alloc (Nat.le_refl _) _)
  go_enter Try.func3, Try.ntmps3
  go_upto_region 1 with (fail)
  replace hB0 := Lib.hid hB0
  replace hV0 := Lib.hid hV0
  go_wp2_with fail
  refine (aw_c _).mono ?_; rintro e V_9 ⟨rfl, hb_10⟩
  have H_11 : Hid (V_9.heap[B0]? = some (.cells A0 23 (0, 0))) := Lib.hid ((hb_10.block B0 (blk_lt Ht.out)).trans Ht.out)
  have HE_12 : Hid (Below B0 w V_9) := Lib.hid (HE.out.trans (hb_10.mono (sz_le hB0.out HE.out.size)))
  clear HE Ht
  clear hb_10
  go_wp2_with (first | (refine wpl_ld _ _ rfl (by rfl) B0 rfl H_11.out Try.underlying23 rfl (by kernel_rfl) zA0.out ?_))
  refine (small_c hb _ _ eA0.out).mono ?_; rintro e V_13 ⟨rfl, hb_14⟩
  have H_15 : Hid (V_13.heap[B0]? = some (.cells A0 23 (0, 0))) := Lib.hid ((hb_14.block B0 (blk_lt H_11.out)).trans H_11.out)
  have HE_16 : Hid (Below B0 w V_13) := Lib.hid (HE_12.out.trans (hb_14.mono (sz_le hB0.out HE_12.out.size)))
  clear HE_12 H_11
  clear hb_14
  go_wp2_with fail
  refine (aw_c _).mono ?_; rintro e V_17 ⟨rfl, hb_18⟩
  have H_19 : Hid (V_17.heap[B0]? = some (.cells A0 23 (0, 0))) := Lib.hid ((hb_18.block B0 (blk_lt H_15.out)).trans H_15.out)
  have HE_20 : Hid (Below B0 w V_17) := Lib.hid (HE_16.out.trans (hb_18.mono (sz_le hB0.out HE_16.out.size)))
  clear HE_16 H_15
  clear hb_18
  go_wp2
  go_ret
  exact ⟨rfl, HE_20.out⟩
set_option maxRecDepth 100000 in
set_option maxHeartbeats 4000000 in
theorem rest_main (w : World) (t : S23) (d : Int) (A : Option Addr) (l : List Bool) (cap : Nat) (ha : Args.Arg Value.bool w A l) (hn : (l.length : Int) ≤ 300) (hb : Ev (fun k => pendulumref15_Small.f k t.f0 t.f1 t.f2 t.f3 t.f4 t.f5 t.f6 t.f7 t.f8 t.f9 t.f10 d) true) (od : Okd t d) : Calls Try.prog 3 #[.agg (TA t), .int .i64 d, .slice A l.length cap] w fun e w' => e = .returned (.bool true) ∧ Below w.heap.size w w' := by
  have hfa := Lib.hid ha
  clear ha
  have hnd : decide ((300 : Int) < (l.length : Int)) = false := by simp; omega
  obtain ⟨A0, eA0⟩ : ∃ A, A = TA t := ⟨_, rfl⟩
  rw [← eA0]
  have zA0 : Hid (A0.size = 11) := Lib.hid (by rw [eA0]; rfl)
  replace eA0 := Lib.hid eA0
  obtain ⟨Z, eZ⟩ : ∃ A : Array Value, A = #[.string ⟨#[]⟩, .int .i64 0, .int .i64 0, .int .i64 0, .int .i64 0, .int .i64 0, .int .i64 0, .int .i64 0, .int .i64 0, .int .i64 0, .int .i64 0, .int .i64 0, .int .i64 0, .int .i64 0, .bool false, .int .i64 0] := ⟨_, rfl⟩
  have zZ : Hid (Z.size = 16) := Lib.hid (by rw [eZ]; rfl)
  have hz : ∀ V : World, (zeroValue 28).run Try.prog V = .ok (.agg Z) V := fun V => by rw [eZ]; kernel_rfl
  replace eZ := Lib.hid eZ
  obtain ⟨B0, hB0⟩ : ∃ B, w.heap.size = B := ⟨_, rfl⟩
  rw [hB0]
  obtain ⟨V0, hV0⟩ : ∃ V, w.alloc (.cells A0 23) = V := ⟨_, rfl⟩
  have Ht : Hid (V0.heap[B0]? = some (.cells A0 23 (0, 0))) := Lib.hid (by rw [← hV0]; exact (box_new hB0).1)
  have HE : Hid (Below B0 w V0) := Lib.hid (by rw [← hV0, ← hB0]; exact (Below.refl _ _).alloc (Nat.le_refl _) _)
  go_enter Try.func3, Try.ntmps3
  go_upto_region 1 with (fail)
  replace hB0 := Lib.hid hB0
  replace hV0 := Lib.hid hV0
  go_wp2_with fail
  refine (aw_c _).mono ?_; rintro e V_21 ⟨rfl, hb_22⟩
  have H_23 : Hid (V_21.heap[B0]? = some (.cells A0 23 (0, 0))) := Lib.hid ((hb_22.block B0 (blk_lt Ht.out)).trans Ht.out)
  have HE_24 : Hid (Below B0 w V_21) := Lib.hid (HE.out.trans (hb_22.mono (sz_le hB0.out HE.out.size)))
  clear HE Ht
  clear hb_22
  go_wp2_with (first | (refine wpl_ld _ _ rfl (by rfl) B0 rfl H_23.out Try.underlying23 rfl (by kernel_rfl) zA0.out ?_))
  refine (small_c hb _ _ eA0.out).mono ?_; rintro e V_25 ⟨rfl, hb_26⟩
  have H_27 : Hid (V_25.heap[B0]? = some (.cells A0 23 (0, 0))) := Lib.hid ((hb_26.block B0 (blk_lt H_23.out)).trans H_23.out)
  have HE_28 : Hid (Below B0 w V_25) := Lib.hid (HE_24.out.trans (hb_26.mono (sz_le hB0.out HE_24.out.size)))
  clear HE_24 H_23
  clear hb_26
  obtain ⟨R0, eR0⟩ : ∃ A, A = RA t d (ini t d) := ⟨_, rfl⟩
  have zR0 : Hid (R0.size = 16) := Lib.hid (by rw [eR0]; rfl)
  have oR0 : Hid (R0.all (·.oneCell') = true) := Lib.hid (by rw [eR0]; exact RA_one _ _ _)
  replace eR0 := Lib.hid eR0
  go_wp2_with (first | (refine wpl_ld _ _ rfl (by rfl) B0 rfl H_27.out Try.underlying23 rfl (by kernel_rfl) zA0.out ?_))
  refine (begin_c od _ _ _ eA0.out eR0.out).mono ?_; rintro e V_29 ⟨rfl, hb_30⟩
  have H_31 : Hid (V_29.heap[B0]? = some (.cells A0 23 (0, 0))) := Lib.hid ((hb_30.block B0 (blk_lt H_27.out)).trans H_27.out)
  have HE_32 : Hid (Below B0 w V_29) := Lib.hid (HE_28.out.trans (hb_30.mono (sz_le hB0.out HE_28.out.size)))
  clear HE_28 H_27
  clear hb_30
  obtain ⟨X_33, hX_35⟩ : ∃ X, V_29.heap.size = X := ⟨_, rfl⟩
  obtain ⟨V_34, q_36_0, q_36_1, q_36_2, q_36_3⟩ := st_new (w := V_29) (T := 28) hX_35 zZ.out zR0.out oR0.out
  have ne_38 : B0 < X_33 := hX_35 ▸ blk_lt H_31.out
  have H_37 : Hid (V_34.heap[B0]? = some (.cells A0 23 (0, 0))) := Lib.hid ((q_36_2 _ ne_38).trans H_31.out)
  have ge_39 : B0 ≤ X_33 := hX_35 ▸ (sz_le hB0.out HE_32.out.size)
  have HE_40 : Hid (Below B0 w V_34) := Lib.hid (q_36_3 _ _ ge_39 HE_32.out)
  have H_41 := Lib.hid q_36_1
  clear q_36_1 q_36_2 q_36_3
  go_upto_region 4 with (fail)
  clear q_36_0 hX_35
  clear HE_32 H_31
  have hI : Hid (RI t d w B0 X_33 (fun s => 0 ≤ s.fl ∧ s.fl ≤ ((0 : Nat) : Int)) V_34) := Lib.hid ⟨ini t d, R0, eR0.out, H_41.out, HE_40.out, (ini_inv od).1, by simp [ini], by simp [ini]⟩
  clear H_41 H_37 HE_40
  go_wp2_with fail
  go_loopw [9] (fun i wr => ∃ iN : Nat, i = .int .i64 (iN : Int) ∧ iN ≤ l.length ∧ RI t d w B0 X_33 (fun s => 0 ≤ s.fl ∧ s.fl ≤ (iN : Int)) wr) (fun i _ => l.length - (intOf i).toNat)
  case atStart => exact ⟨0, rfl, Nat.zero_le _, hI.out⟩
  case round =>
    obtain ⟨i, rfl, hi, s, R, eR, HR, HE, I, hf0, hf1⟩ := hrel
    have zR : Hid (R.size = 16) := Lib.hid (by rw [eR]; rfl)
    have oR : Hid (R.all (·.oneCell') = true) := Lib.hid (by rw [eR]; exact RA_one _ _ _)
    by_cases hlt : i < l.length
    · obtain ⟨b, off, rfl, hbw, hcell⟩ := hfa.out (by omega)
      obtain ⟨hit, hh⟩ : ∃ x, l[i]? = some x := ⟨l[i], by simp [hlt]⟩
      have hil : (i : Int) < (l.length : Int) := by omega
      have hCX := Lib.hid (fun (W : World) (hW : Below B0 w W) => (hW.cell (p := ⟨b, off + i, none⟩) (by rw [← hB0.out]; exact hbw)).trans (hcell i hit hh))
      have cx := hCX.out wr HE
      obtain ⟨q, hq⟩ : ∃ q, nx t d s hit = q := ⟨_, rfl⟩
      have TK := nx_tick od.1 od.2.2.2.2.1 od.2.2.2.2.2 I hit
      rw [hq] at TK
      obtain ⟨s', e'⟩ := q
      obtain ⟨R', eR'⟩ : ∃ A, A = RA t d s' := ⟨_, rfl⟩
      have zR' : Hid (R'.size = 16) := Lib.hid (by rw [eR']; rfl)
      have oR' : Hid (R'.all (·.oneCell') = true) := Lib.hid (by rw [eR']; exact RA_one _ _ _)
      replace eR' := Lib.hid eR'
      have SC := Lib.hid (step_c od I hit hf0 (by omega) hq)
      replace eR := Lib.hid eR
      replace HR := Lib.hid HR
      replace HE := Lib.hid HE
      replace I := Lib.hid I
      replace TK := Lib.hid TK
      clear hq hI hcell hh
      go_wp2_with fail
      refine start_ (n := 12) (S := fun w' => w'.heap[X_33]? = some (.cells R 28 (0, 0)) ∧ w'.cell? ⟨b, off + i, none⟩ = some (.bool hit)) (ds := []) #[false, false, false, false, false, false, false, false, false, false, false, false] (by kernel_rfl) rfl rfl ⟨HR.out, cx⟩ (fun hHeld => ?_)
      refine take_ (i := 0) (N := (some 46)) (v := .agg R) (a' := ?_) #[true, false, false, false, false, false, false, false, false, false, false, false] rfl rfl (by kernel_rfl) (fun _ _ _ h => h) (Or.inl ⟨by rfl, ?_⟩) hHeld ?_ ?_
      · rintro w' ⟨s0, s1⟩
        exact ld_op 28 _ rfl X_33 rfl s0 Try.underlying28 rfl (by kernel_rfl) zR.out
      rotate_left
      · simp only [Act.put, List.setIfInBounds_toArray, List.set_cons_zero, List.set_cons_succ, i64_w, i32_w]
        rfl
      refine pure_ (i := 1) (N := (some 47)) (v := ?_) (a' := ?_) #[true, true, false, false, false, false, false, false, false, false, false, false] rfl rfl (by kernel_rfl) (fun _ _ _ h => h) (Or.inl ⟨by rfl, ?_⟩) ?_ ?_
      rotate_left
      · intro w'
        go_simp
        with_reducible rfl
      rotate_left
      · simp only [Act.put, List.setIfInBounds_toArray, List.set_cons_zero, List.set_cons_succ, i64_w, i32_w]
        rfl
      refine pure_ (i := 2) (N := (some 48)) (v := ?_) (a' := ?_) #[true, true, true, false, false, false, false, false, false, false, false, false] rfl rfl (by kernel_rfl) (fun _ _ _ h => h) (Or.inl ⟨by rfl, ?_⟩) ?_ ?_
      rotate_left
      · intro w'
        go_simp
        with_reducible rfl
      rotate_left
      · simp only [Act.put, List.setIfInBounds_toArray, List.set_cons_zero, List.set_cons_succ, i64_w, i32_w]
        rfl
      refine pure_ (i := 3) (N := (some 49)) (v := ?_) (a' := ?_) #[true, true, true, true, false, false, false, false, false, false, false, false] rfl rfl (by kernel_rfl) (fun _ _ _ h => h) (Or.inl ⟨by rfl, ?_⟩) ?_ ?_
      rotate_left
      · intro w'
        go_simp
        with_reducible rfl
      rotate_left
      · simp only [Act.put, List.setIfInBounds_toArray, List.set_cons_zero, List.set_cons_succ, i64_w, i32_w]
        rfl
      refine take_ (i := 4) (N := (some 50)) (v := ?_) (a' := ?_) #[true, true, true, true, true, false, false, false, false, false, false, false] rfl rfl (by kernel_rfl) (fun _ _ _ h => h) (Or.inl ⟨by rfl, ?_⟩) hHeld ?_ ?_
      rotate_left
      · rintro w' ⟨s0, s1⟩
        go_simp
        with_reducible rfl
      rotate_left
      · simp only [Act.put, List.setIfInBounds_toArray, List.set_cons_zero, List.set_cons_succ, i64_w, i32_w]
        rfl
      refine join_ (σ := Nat) 2 #[true, true, true, true, true, true, true, true, true, true, false, false] (fun s_ => [(51, .tuple #[.agg R', .int .i64 e']), (10, .pointer (some ⟨s_, 0, none⟩)), (45, .tuple #[.agg R', .int .i64 e']), (52, .agg R'), (53, .int .i64 e')]) (fun s_ w' => w'.heap[X_33]? = some (.cells R 28 (0, 0)) ∧ w'.heap[s_]? = some (.cells Z 28 (0, 0)) ∧ B0 ≤ s_ ∧ X_33 < s_ ∧ Below B0 w w') ?_ ?_
      rotate_left
      · intro hCont
        refine two_ (i := 5) (j := 9) (Ni := some 51) (Nj := some 10) #[true, true, true, true, true, true, false, false, false, false, false, false] #[true, true, true, true, true, false, false, false, false, true, false, false] rfl rfl rfl rfl (by kernel_rfl) (by decide) (by decide) (fun K hK => ?_) (fun K hK => ?_)
        · skip
          refine goes_ Try.func10 (by kernel_rfl) rfl #[.agg R, .bool hit] (by rfl) rfl rfl (by (try simp only [List.map_toArray, List.map_cons, List.map_nil]); first | done | rfl) ?_
          refine (SC.out _ _ _ eR.out eR'.out).mono ?_
          rintro e V4 ⟨rfl, hb4⟩
          have HR4 := Lib.hid ((hb4.block X_33 (blk_lt HR.out)).trans HR.out)
          have HE4 := Lib.hid ((HE.out.drew).trans (hb4.mono (sz_le hB0.out HE.out.size)))
          refine ⟨_, rfl, ?_⟩
          refine hK.out _ _ ⟨HR4.out, hCX.out V4 HE4.out⟩ (fun hHeld => ?_)
          clear hK K
          refine norm_ (a' := ?_) ?_ ?_
          rotate_left
          · show Act.put _ (some 51) _ = _
            simp only [Act.put, List.setIfInBounds_toArray, List.set_cons_zero, List.set_cons_succ, i64_w, i32_w]
            rfl
          refine pure_ (i := 6) (N := (some 45)) (v := ?_) (a' := ?_) #[true, true, true, true, true, true, true, false, false, false, false, false] rfl rfl (by kernel_rfl) (fun _ _ _ h => h) (Or.inl ⟨by rfl, ?_⟩) ?_ ?_
          rotate_left
          · intro w'
            go_simp
            with_reducible rfl
          rotate_left
          · simp only [Act.put, List.setIfInBounds_toArray, List.set_cons_zero, List.set_cons_succ, i64_w, i32_w]
            rfl
          refine pure_ (i := 7) (N := (some 52)) (v := ?_) (a' := ?_) #[true, true, true, true, true, true, true, true, false, false, false, false] rfl rfl (by kernel_rfl) (fun _ _ _ h => h) (Or.inl ⟨by rfl, ?_⟩) ?_ ?_
          rotate_left
          · intro w'
            go_simp
            with_reducible rfl
          rotate_left
          · simp only [Act.put, List.setIfInBounds_toArray, List.set_cons_zero, List.set_cons_succ, i64_w, i32_w]
            rfl
          refine pure_ (i := 8) (N := (some 53)) (v := ?_) (a' := ?_) #[true, true, true, true, true, true, true, true, true, false, false, false] rfl rfl (by kernel_rfl) (fun _ _ _ h => h) (Or.inl ⟨by rfl, ?_⟩) ?_ ?_
          rotate_left
          · intro w'
            go_simp
            with_reducible rfl
          rotate_left
          · simp only [Act.put, List.setIfInBounds_toArray, List.set_cons_zero, List.set_cons_succ, i64_w, i32_w]
            rfl
          refine one_ (i := 9) (N := (some 10)) #[true, true, true, true, true, true, true, true, true, true, false, false] rfl rfl (by kernel_rfl) (by decide) (fun K hK => ?_)
          refine value_ (v := .pointer (some ⟨V4.heap.size, 0, none⟩)) (w1 := V4.alloc (.cells Z 28)) rfl rfl (by go_simp) ?_
          have HE6 : Hid (Below B0 w (V4.alloc (.cells Z 28))) := Lib.hid (HE4.out.alloc (sz_le hB0.out HE4.out.size) _)
          have HR6 : Hid ((V4.alloc (.cells Z 28)).heap[X_33]? = some (.cells R 28 (0, 0))) := Lib.hid (blk_alloc HR4.out _)
          refine hK.out _ _ ⟨HR6.out, hCX.out _ HE6.out⟩ (fun hHeld => ?_)
          clear hK K
          refine norm_ (a' := ?_) ?_ ?_
          rotate_left
          · show Act.put _ (some 10) _ = _
            simp only [Act.put, List.setIfInBounds_toArray, List.set_cons_zero, List.set_cons_succ, i64_w, i32_w]
            rfl
          exact norm_ (by simp only [putAll, Act.put, List.setIfInBounds_toArray, List.set_cons_zero, List.set_cons_succ]) (hCont V4.heap.size _ ⟨HR6.out, blk_new V4 _, sz_le hB0.out HE4.out.size, blk_lt HR4.out, HE6.out⟩)
        · skip
          refine value_ (v := .pointer (some ⟨wr.heap.size, 0, none⟩)) (w1 := (wr.alloc (.cells Z 28)).drew) rfl rfl (by go_simp) ?_
          have HE4 : Hid (Below B0 w (wr.alloc (.cells Z 28)).drew) := Lib.hid ((HE.out.alloc (sz_le hB0.out HE.out.size) _).drew)
          have HR4 : Hid ((wr.alloc (.cells Z 28)).drew.heap[X_33]? = some (.cells R 28 (0, 0))) := Lib.hid (blk_alloc HR.out _)
          have HZ4 : Hid ((wr.alloc (.cells Z 28)).drew.heap[wr.heap.size]? = some (.cells Z 28 (0, 0))) := Lib.hid (blk_new wr _)
          refine hK.out _ _ ⟨HR4.out, hCX.out _ HE4.out⟩ (fun hHeld => ?_)
          clear hK K
          refine norm_ (a' := ?_) ?_ ?_
          rotate_left
          · show Act.put _ (some 10) _ = _
            simp only [Act.put, List.setIfInBounds_toArray, List.set_cons_zero, List.set_cons_succ, i64_w, i32_w]
            rfl
          refine one_ (i := 5) (N := (some 51)) #[true, true, true, true, true, true, false, false, false, true, false, false] rfl rfl (by kernel_rfl) (by decide) (fun K hK => ?_)
          refine goes_ Try.func10 (by kernel_rfl) rfl #[.agg R, .bool hit] (by rfl) rfl rfl (by (try simp only [List.map_toArray, List.map_cons, List.map_nil]); first | done | rfl) ?_
          refine (SC.out _ _ _ eR.out eR'.out).mono ?_
          rintro e V4 ⟨rfl, hb4⟩
          have HR6 := Lib.hid ((hb4.block X_33 (blk_lt HR4.out)).trans HR4.out)
          have HZ6 := Lib.hid ((hb4.block _ (blk_lt HZ4.out)).trans HZ4.out)
          have HE6 := Lib.hid (HE4.out.trans (hb4.mono (sz_le hB0.out HE4.out.size)))
          refine ⟨_, rfl, ?_⟩
          refine hK.out _ _ ⟨HR6.out, hCX.out V4 HE6.out⟩ (fun hHeld => ?_)
          clear hK K
          refine norm_ (a' := ?_) ?_ ?_
          rotate_left
          · show Act.put _ (some 51) _ = _
            simp only [Act.put, List.setIfInBounds_toArray, List.set_cons_zero, List.set_cons_succ, i64_w, i32_w]
            rfl
          refine pure_ (i := 6) (N := (some 45)) (v := ?_) (a' := ?_) #[true, true, true, true, true, true, true, false, false, true, false, false] rfl rfl (by kernel_rfl) (fun _ _ _ h => h) (Or.inl ⟨by rfl, ?_⟩) ?_ ?_
          rotate_left
          · intro w'
            go_simp
            with_reducible rfl
          rotate_left
          · simp only [Act.put, List.setIfInBounds_toArray, List.set_cons_zero, List.set_cons_succ, i64_w, i32_w]
            rfl
          refine pure_ (i := 7) (N := (some 52)) (v := ?_) (a' := ?_) #[true, true, true, true, true, true, true, true, false, true, false, false] rfl rfl (by kernel_rfl) (fun _ _ _ h => h) (Or.inl ⟨by rfl, ?_⟩) ?_ ?_
          rotate_left
          · intro w'
            go_simp
            with_reducible rfl
          rotate_left
          · simp only [Act.put, List.setIfInBounds_toArray, List.set_cons_zero, List.set_cons_succ, i64_w, i32_w]
            rfl
          refine pure_ (i := 8) (N := (some 53)) (v := ?_) (a' := ?_) #[true, true, true, true, true, true, true, true, true, true, false, false] rfl rfl (by kernel_rfl) (fun _ _ _ h => h) (Or.inl ⟨by rfl, ?_⟩) ?_ ?_
          rotate_left
          · intro w'
            go_simp
            with_reducible rfl
          rotate_left
          · simp only [Act.put, List.setIfInBounds_toArray, List.set_cons_zero, List.set_cons_succ, i64_w, i32_w]
            rfl
          exact norm_ (by simp only [putAll, Act.put, List.setIfInBounds_toArray, List.set_cons_zero, List.set_cons_succ]) (hCont wr.heap.size _ ⟨HR6.out, HZ6.out, sz_le hB0.out HE.out.size, blk_lt HR.out, HE6.out⟩)
      rintro X4 V4 ⟨h1, h2, g5, l5, h5⟩
      have HR4 := Lib.hid h1
      have HZ4 := Lib.hid h2
      have HE4 := Lib.hid h5
      clear h1 h2 h5
      have hHeld : V4.heap[X_33]? = some (.cells R 28 (0, 0)) ∧ V4.cell? ⟨b, off + i, none⟩ = some (.bool hit) := ⟨HR4.out, hCX.out V4 HE4.out⟩
      refine norm_ (a' := ?_) ?_ ?_
      rotate_left
      · simp only [putAll, Act.put, List.setIfInBounds_toArray, List.set_cons_zero, List.set_cons_succ]
        rfl
      refine one_ (i := 10) (N := none) #[true, true, true, true, true, true, true, true, true, true, true, false] rfl rfl (by kernel_rfl) (by decide) (fun K hK => ?_)
      obtain ⟨V5, hst, hs1, hs2, hs3⟩ := st_any HZ4.out zZ.out zR'.out oR'.out
      refine skip_ (w1 := V5) rfl rfl (by have hsz := zR'.out; go_simp) ?_
      have HX5 := Lib.hid hs1
      have HR5 := Lib.hid ((hs2 _ (Nat.ne_of_lt l5)).trans HR4.out)
      have HE5 := Lib.hid (hs3 _ _ g5 HE4.out)
      refine hK.out _ _ ⟨HR5.out, hCX.out _ HE5.out⟩ (fun hHeld => ?_)
      clear hst hs1 hs2 hs3 hK K
      refine pure_ (i := 11) (N := (some 11)) (v := ?_) (a' := ?_) #[true, true, true, true, true, true, true, true, true, true, true, true] rfl rfl (by kernel_rfl) (fun _ _ _ h => h) (Or.inl ⟨by rfl, ?_⟩) ?_ ?_
      rotate_left
      · intro w'
        go_simp
        with_reducible rfl
      rotate_left
      · simp only [Act.put, List.setIfInBounds_toArray, List.set_cons_zero, List.set_cons_succ, i64_w, i32_w]
        rfl
      refine done_ (by kernel_rfl) ?_
      clear HR HE HR4 HE4 HZ4 cx
      by_cases he4 : e' = 4
      · have g4 : (e' == 4) = true := by rw [he4]; rfl
        clear TK
        replace he4 := Lib.hid he4
        go_wp2
        go_ret
        exact ⟨rfl, by first | exact HE5.out | exact HE5.out.drew | exact pw_below_drewN HE5.out _⟩
      · have g4 : (e' == 4) = false := by rw [beq_eq_false_iff_ne]; exact he4
        have IT := Lib.hid (tick_on TK.out he4)
        clear TK
        have he4' := Lib.hid he4
        clear he4
        obtain ⟨V_42, q_43_0, q_43_1, q_43_2, q_43_3⟩ := st_any HR5.out zR.out zR'.out oR'.out
        have H_44 : Hid (V_42.heap[X4]? = some (.cells R' 28 (0, 0))) := Lib.hid ((q_43_2 _ (Nat.ne_of_gt l5)).trans HX5.out)
        have HE_45 : Hid (Below B0 w V_42) := Lib.hid (q_43_3 _ _ ge_39 HE5.out)
        have H_46 := Lib.hid q_43_1
        clear q_43_1 q_43_2 q_43_3
        go_wp2_with (first | (refine wpl_ld _ _ rfl (by rfl) X4 rfl HX5.out Try.underlying28 rfl (by kernel_rfl) zR'.out ?_))
        clear q_43_0
        clear HE5 HX5 HR5
        go_roundw
        case rel => exact ⟨i + 1, by go_num, by omega, s', R', eR'.out, H_46.out, HE_45.out, IT.out.1, by have := IT.out.2; omega, by have := IT.out.2; push_cast; omega⟩
        case measure => simp [intOf] <;> omega
    · obtain rfl : i = l.length := by omega
      have hrm := rem_bd od.1 od.2.2.2.2.1 I
      have hsx := sx_bd od
      have SC := Lib.hid (rest_c od I)
      have hfl : s.fl ≤ 300 := by omega
      obtain ⟨n, hn'⟩ : ∃ n, n = rem t d s := ⟨_, rfl⟩
      rw [← hn'] at SC hrm
      have Iy : Inv t d ⟨s.p, s.left, false, s.fl⟩ := I
      obtain ⟨Y, eY⟩ : ∃ A, A = RA t d ⟨s.p, s.left, false, s.fl⟩ := ⟨_, rfl⟩
      have zY : Hid (Y.size = 16) := Lib.hid (by rw [eY]; rfl)
      have oY : Hid (Y.all (·.oneCell') = true) := Lib.hid (by rw [eY]; exact RA_one _ _ _)
      replace eY := Lib.hid eY
      have hY : Hid (R.setIfInBounds 14 (.bool false) = Y) := Lib.hid (by rw [eR, eY.out]; rfl)
      have hstr : ∃ b0, R[14]? = some (.bool b0) := ⟨s.str, by rw [eR]; rfl⟩
      obtain ⟨b0, hb0⟩ := hstr
      replace hb0 := Lib.hid hb0
      replace eR := Lib.hid eR
      replace HR := Lib.hid HR
      replace HE := Lib.hid HE
      replace I := Lib.hid I
      replace hn' := Lib.hid hn'
      clear hI
      go_wp2_with (first | (refine wpl_ld _ _ rfl (by rfl) X_33 rfl HR.out Try.underlying28 rfl (by kernel_rfl) zR.out ?_))
      refine (SC.out _ _ eR.out).mono ?_; rintro e V_47 ⟨rfl, hb_48⟩
      have H_49 : Hid (V_47.heap[X_33]? = some (.cells R 28 (0, 0))) := Lib.hid ((hb_48.block X_33 (blk_lt HR.out)).trans HR.out)
      have HE_50 : Hid (Below B0 w V_47) := Lib.hid (HE.out.trans (hb_48.mono (sz_le hB0.out HE.out.size)))
      clear HE HR
      clear hb_48
      obtain ⟨X_51, hX_53⟩ : ∃ X, V_47.heap.size = X := ⟨_, rfl⟩
      obtain ⟨V_52, q_54_0, q_54_1, q_54_2, q_54_3⟩ := st_new (w := V_47) (T := 28) hX_53 zZ.out zR.out oR.out
      have ne_56 : X_33 < X_51 := hX_53 ▸ blk_lt H_49.out
      have H_55 : Hid (V_52.heap[X_33]? = some (.cells R 28 (0, 0))) := Lib.hid ((q_54_2 _ ne_56).trans H_49.out)
      have ge_57 : B0 ≤ X_51 := hX_53 ▸ (sz_le hB0.out HE_50.out.size)
      have HE_58 : Hid (Below B0 w V_52) := Lib.hid (q_54_3 _ _ ge_57 HE_50.out)
      have H_59 := Lib.hid q_54_1
      clear q_54_1 q_54_2 q_54_3
      go_upto_region 15 with (first | (refine wpl_ld _ _ rfl (by rfl) X_33 rfl H_49.out Try.underlying28 rfl (by kernel_rfl) zR.out ?_))
      clear q_54_0 hX_53
      clear HE_50 H_49
      have c14 : V_52.cell? ⟨X_51, 14, none⟩ = some (.bool b0) := by rw [blk_cell H_59.out, hb0.out]
      have z14 : V_52.frozen? ⟨X_51, 14, none⟩ = false := blk_frozen H_59.out 14
      go_upto_region 16 with (fail)
      have HY : Hid ((V_52.setCell ⟨X_51, 14, none⟩ (.bool false)).heap[X_51]? = some (.cells Y 28 (0, 0))) := Lib.hid (blk_put H_59.out 14 _ hY.out)
      have HEY : Hid (Below B0 w (V_52.setCell ⟨X_51, 14, none⟩ (.bool false))) := Lib.hid (HE_58.out.setCell (p := ⟨X_51, 14, none⟩) ge_57 _)
      generalize V_52.setCell ⟨X_51, 14, none⟩ (.bool false) = VY at HY HEY ⊢
      clear c14 z14 H_59 H_55 HE_58
      have hI2 : Hid (RI t d w B0 X_51 (fun u => u.str = false ∧ 0 ≤ u.fl ∧ u.fl ≤ 300 ∧ rem t d u = n - (((0 : Nat)) : Int)) VY) := Lib.hid ⟨_, Y, eY.out, HY.out, HEY.out, Iy, rfl, hf0, hfl, by rw [hn'.out]; simp [rem]⟩
      clear HY HEY Iy hfl hf0 hf1
      go_wp2_with fail
      go_loopw [14] (fun k wr => ∃ kN : Nat, k = .int .i64 (kN : Int) ∧ (kN : Int) < n ∧ RI t d w B0 X_51 (fun u => u.str = false ∧ 0 ≤ u.fl ∧ u.fl ≤ 300 ∧ rem t d u = n - (kN : Int)) wr) (fun k _ => 1000000 - (intOf k).toNat)
      case atStart => exact ⟨0, rfl, by omega, hI2.out⟩
      case round =>
        obtain ⟨k, rfl, hkn, u, U, eU, HU, HE, IU, us, uf0, uf1, urm⟩ := hrel
        have zU : Hid (U.size = 16) := Lib.hid (by rw [eU]; rfl)
        have oU : Hid (U.all (·.oneCell') = true) := Lib.hid (by rw [eU]; exact RA_one _ _ _)
        have hk1 : (k : Int) < 1000000 := by omega
        obtain ⟨q, hq⟩ : ∃ q, nx t d u false = q := ⟨_, rfl⟩
        have TK := nx_tick od.1 od.2.2.2.2.1 od.2.2.2.2.2 IU false
        rw [hq] at TK
        obtain ⟨u', e'⟩ := q
        obtain ⟨U', eU'⟩ : ∃ A, A = RA t d u' := ⟨_, rfl⟩
        have zU' : Hid (U'.size = 16) := Lib.hid (by rw [eU']; rfl)
        have oU' : Hid (U'.all (·.oneCell') = true) := Lib.hid (by rw [eU']; exact RA_one _ _ _)
        replace eU' := Lib.hid eU'
        have SU := Lib.hid (step_c od IU false uf0 (by omega) hq)
        replace eU := Lib.hid eU
        replace HU := Lib.hid HU
        replace HE := Lib.hid HE
        replace IU := Lib.hid IU
        clear hq hI2
        by_cases he4 : e' = 4
        · have g4 : (e' == 4) = true := by rw [he4]; rfl
          have hr1 := tick_done TK he4
          have hkn2 : ((k : Int) + 1 == n) = true := by rw [beq_iff_eq]; omega
          have hkn3 : (k : Int) + 1 = n := by omega
          replace he4 := Lib.hid he4
          replace hkn3 := Lib.hid hkn3
          replace us := Lib.hid us
          replace urm := Lib.hid urm
          replace hr1 := Lib.hid hr1
          clear TK
          go_wp2_with (first | (refine wpl_ld _ _ rfl (by rfl) X_51 rfl HU.out Try.underlying28 rfl (by kernel_rfl) zU.out ?_))
          refine (SU.out _ _ _ eU.out eU'.out).mono ?_; rintro e V_60 ⟨rfl, hb_61⟩
          have H_62 : Hid (V_60.heap[X_51]? = some (.cells U 28 (0, 0))) := Lib.hid ((hb_61.block X_51 (blk_lt HU.out)).trans HU.out)
          have HE_63 : Hid (Below B0 w V_60) := Lib.hid (HE.out.trans (hb_61.mono (sz_le hB0.out HE.out.size)))
          clear HE HU
          clear hb_61
          clear hk1
          obtain ⟨X_64, hX_66⟩ : ∃ X, V_60.heap.size = X := ⟨_, rfl⟩
          obtain ⟨V_65, q_67_0, q_67_1, q_67_2, q_67_3⟩ := st_new (w := V_60) (T := 28) hX_66 zZ.out zU'.out oU'.out
          have ne_69 : X_51 < X_64 := hX_66 ▸ blk_lt H_62.out
          have H_68 : Hid (V_65.heap[X_51]? = some (.cells U 28 (0, 0))) := Lib.hid ((q_67_2 _ ne_69).trans H_62.out)
          have ge_70 : B0 ≤ X_64 := hX_66 ▸ (sz_le hB0.out HE_63.out.size)
          have HE_71 : Hid (Below B0 w V_65) := Lib.hid (q_67_3 _ _ ge_70 HE_63.out)
          have H_72 := Lib.hid q_67_1
          clear q_67_1 q_67_2 q_67_3
          go_upto_region 19 with (fail)
          clear q_67_0 hX_66
          clear HE_63 H_62
          obtain ⟨V_73, q_74_0, q_74_1, q_74_2, q_74_3⟩ := st_any H_68.out zU.out zU'.out oU'.out
          have H_75 : Hid (V_73.heap[X_64]? = some (.cells U' 28 (0, 0))) := Lib.hid ((q_74_2 _ (Nat.ne_of_gt ne_69)).trans H_72.out)
          have HE_76 : Hid (Below B0 w V_73) := Lib.hid (q_74_3 _ _ ge_57 HE_71.out)
          have H_77 := Lib.hid q_74_1
          clear q_74_1 q_74_2 q_74_3
          go_upto_region 20 with (first | (refine wpl_ld _ _ rfl (by rfl) X_64 rfl H_72.out Try.underlying28 rfl (by kernel_rfl) zU'.out ?_))
          clear q_74_0
          clear HE_71 H_72 H_68
          go_wp2
          go_ret
          exact ⟨rfl, HE_76.out⟩
        · have g4 : (e' == 4) = false := by rw [beq_eq_false_iff_ne]; exact he4
          have IT := tick_clean TK us he4
          have hru := rem_bd od.1 od.2.2.2.2.1 IT.1
          have hk2 : (k : Int) + 1 < n := by have := IT.2.2.2; omega
          have hIT := Lib.hid IT
          have he4' := Lib.hid he4
          replace us := Lib.hid us
          replace urm := Lib.hid urm
          clear TK he4 IT hru
          go_wp2_with (first | (refine wpl_ld _ _ rfl (by rfl) X_51 rfl HU.out Try.underlying28 rfl (by kernel_rfl) zU.out ?_))
          refine (SU.out _ _ _ eU.out eU'.out).mono ?_; rintro e V_78 ⟨rfl, hb_79⟩
          have H_80 : Hid (V_78.heap[X_51]? = some (.cells U 28 (0, 0))) := Lib.hid ((hb_79.block X_51 (blk_lt HU.out)).trans HU.out)
          have HE_81 : Hid (Below B0 w V_78) := Lib.hid (HE.out.trans (hb_79.mono (sz_le hB0.out HE.out.size)))
          clear HE HU
          clear hb_79
          clear hk1
          obtain ⟨X_82, hX_84⟩ : ∃ X, V_78.heap.size = X := ⟨_, rfl⟩
          obtain ⟨V_83, q_85_0, q_85_1, q_85_2, q_85_3⟩ := st_new (w := V_78) (T := 28) hX_84 zZ.out zU'.out oU'.out
          have ne_87 : X_51 < X_82 := hX_84 ▸ blk_lt H_80.out
          have H_86 : Hid (V_83.heap[X_51]? = some (.cells U 28 (0, 0))) := Lib.hid ((q_85_2 _ ne_87).trans H_80.out)
          have ge_88 : B0 ≤ X_82 := hX_84 ▸ (sz_le hB0.out HE_81.out.size)
          have HE_89 : Hid (Below B0 w V_83) := Lib.hid (q_85_3 _ _ ge_88 HE_81.out)
          have H_90 := Lib.hid q_85_1
          clear q_85_1 q_85_2 q_85_3
          go_upto_region 19 with (fail)
          clear q_85_0 hX_84
          clear HE_81 H_80
          obtain ⟨V_91, q_92_0, q_92_1, q_92_2, q_92_3⟩ := st_any H_86.out zU.out zU'.out oU'.out
          have H_93 : Hid (V_91.heap[X_82]? = some (.cells U' 28 (0, 0))) := Lib.hid ((q_92_2 _ (Nat.ne_of_gt ne_87)).trans H_90.out)
          have HE_94 : Hid (Below B0 w V_91) := Lib.hid (q_92_3 _ _ ge_57 HE_89.out)
          have H_95 := Lib.hid q_92_1
          clear q_92_1 q_92_2 q_92_3
          go_upto_region 20 with (first | (refine wpl_ld _ _ rfl (by rfl) X_82 rfl H_90.out Try.underlying28 rfl (by kernel_rfl) zU'.out ?_))
          clear q_92_0
          clear HE_89 H_90 H_86
          go_wp2
          go_roundw
          case rel => exact ⟨k + 1, by go_num, by push_cast; omega, u', U', eU'.out, H_95.out, HE_94.out, hIT.out.1, hIT.out.2.2.1, by rw [hIT.out.2.1]; exact uf0, by rw [hIT.out.2.1]; exact uf1, by rw [hIT.out.2.2.2, urm.out]; push_cast; omega⟩
          case measure => simp [intOf] <;> omega
theorem restl_walk (w : World) (x : S23) (d : Int) (_ : (Lit.int .i64 d).wf = true) (A : Option Addr) (l : List Bool) (cap : Nat) (hc : l.length ≤ cap) (hm : cap ≤ maxLen) (ha : Args.Arg Value.bool w A l) : Calls Try.prog 3 #[.agg #[.string x.f0, .int .i64 x.f1, .int .i64 x.f2, .int .i64 x.f3, .int .i64 x.f4, .int .i64 x.f5, .int .i64 x.f6, .int .i64 x.f7, .int .i64 x.f8, .int .i64 x.f9, .int .i64 x.f10], .int .i64 d, .slice A l.length cap] w fun e w' => e = .returned (.bool true) ∧ Below w.heap.size w w' := by
  unfold maxLen at hm
  by_cases hn : (l.length : Int) ≤ 300
  · obtain ⟨b, hb, hp⟩ := small_tot x d
    cases b with
    | true => exact rest_main w x d A l cap ha hn hb (hp rfl)
    | false => exact rest_out w x d A l cap hn hb
  · exact rest_long w x d A l cap (by omega) (by omega)
end Go.Proofs.Ytkedmmimcmignaa.PS
