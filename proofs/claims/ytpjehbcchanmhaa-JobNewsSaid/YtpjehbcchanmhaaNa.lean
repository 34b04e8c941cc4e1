/- The law JobNews, walked. -/
import Derived.Test.YtpjehbcchanmhaaRl
namespace Go.Proofs.Ytpjehbcchanmhaa.PS
open Go.RowKit Go.Proofs.Ytpjehbcchanmhaa.PC Go.Proofs.YtpjehbcchanmhaaW.PrintWords Go.Proofs.YtpjehbcchanmhaaW.PrintLast Go.Proofs.YtpjehbcchanmhaaW.PrintMore
set_option linter.unusedVariables false
set_option linter.unusedSimpArgs false
theorem wpl_gate {P : Program} {ops : Array Oper} {Q : Exit → Act → World → Prop} {o : Oper} {rest : List Oper} {a : Act} {w : World} {T : TypeId} {x : Operand} (_ho : o.op = .load T x) (h : wpList P ops Q (o :: rest) a w) : wpList P ops Q (o :: rest) a w := h
theorem wpl_gateb {P : Program} {ops : Array Oper} {Q : Exit → Act → World → Prop} {o : Oper} {rest : List Oper} {a : Act} {w : World} {T : TypeId} {x : Array (Nat × Operand)} (_ho : o.op = .build T x) (h : wpList P ops Q (o :: rest) a w) : wpList P ops Q (o :: rest) a w := h
theorem eqg_int (n : Nat) (a : Int) (W : World) : (Op.equalIn (n + 1) 3 (.int .i64 a) (.int .i64 a)).run Try.prog W = .ok true W := by
  rw [run_equalIn_int (k' := .i64) (d := n) (h := Try.underlying3)]; simp
theorem eqg_bool (n : Nat) (a : Bool) (W : World) : (Op.equalIn (n + 1) 4 (.bool a) (.bool a)).run Try.prog W = .ok true W := by
  rw [run_equalIn_bool' (d := n) (h := Try.underlying4)]; simp
theorem eqg_str (n : Nat) (a : ByteArray) (W : World) : (Op.equalIn (n + 1) 9 (.string a) (.string a)).run Try.prog W = .ok true W := by
  rw [run_equalIn_string (d := n) (h := Try.underlying9)]; simp
theorem eqg_task (t : S28) (W : World) : (Op.equalIn 9998 28 (.agg (TA t)) (.agg (TA t))).run Try.prog W = .ok true W := by
  have hi := eqg_int 9996
  have hs := eqg_str 9996
  rw [run_equalIn_agg (d := 9997) (ht := by kernel_rfl) (hp := by kernel_rfl)]
  unfold Program.fieldsOf
  rw [Try.underlying28]
  simp [Op.eqFields, go_sem, TA, hi, hs]
theorem eqg_run (t : S28) (d : Int) (s : St) (W : World) : (Op.equalIn 9999 30 (.agg (RA t d s)) (.agg (RA t d s))).run Try.prog W = .ok true W := by
  have hi := eqg_int 9997
  have hb := eqg_bool 9997
  have ht := eqg_task t
  unfold TA at ht
  rw [run_equalIn_agg (d := 9998) (ht := by kernel_rfl) (hp := by kernel_rfl)]
  unfold Program.fieldsOf
  rw [Try.underlying30]
  simp [Op.eqFields, go_sem, RA, TA, hi, hb, ht]
theorem mn_one {d C : Int} (h : d < 1) (hC : 1 ≤ C) : mn (mx d 1) C = 1 := by
  unfold mn mx; split <;> (try split) <;> omega
theorem mn_mid {d C : Int} (h : ¬ d < 1) (hC : ¬ C < d) : mn (mx d 1) C = d := by
  unfold mn mx; split <;> (try split) <;> omega
theorem mn_top {d C : Int} (h : ¬ d < 1) (hC : C < d) : mn (mx d 1) C = C := by
  unfold mn mx; split <;> (try split) <;> omega
set_option maxRecDepth 100000 in
theorem eq_job (W : World) (J : Array Value) (a no rel dl : Int) (must over bg : Bool) (t : S28) (d : Int) (s : St) (hJ : J = JP a no rel dl must over bg ++ RA t d s) : (binOp .eql 32 (.agg J) (.agg J)).run Try.prog W = .ok (.bool true) W := by
  have hi := eqg_int 9998
  have hb := eqg_bool 9998
  have hr := eqg_run t d s
  unfold RA TA at hr
  rw [hJ, run_eql_struct, run_equalIn_agg (d := 9999) (ht := by kernel_rfl) (hp := by kernel_rfl)]
  unfold Program.fieldsOf
  rw [Try.underlying32]
  simp [Op.eqFields, go_sem, JP, RA, TA, hi, hb, hr]
theorem zero_built {L : List (Nat × Value)} (h : L = []) {Z : Array Value} (hZ : Z = #[.int .i64 0, .int .i64 0, .int .i64 0, .int .i64 0, .bool false, .bool false, .bool false, .string ⟨#[]⟩, .int .i64 0, .int .i64 0, .int .i64 0, .int .i64 0, .int .i64 0, .int .i64 0, .int .i64 0, .int .i64 0, .int .i64 0, .int .i64 0, .int .i64 0, .int .i64 0, .int .i64 0, .bool false, .int .i64 0]) : Try.prog.built 32 L = some Z := by
  subst h hZ
  kernel_rfl
theorem run_built (t : S28) (n : Int) (A : Array Value) (eA : A = TA t) {L : List (Nat × Value)} (h : L = [(0, .agg A), (1, .int .i64 n)]) {R : Array Value} (hR : R = RA t n ⟨0, 0, false, 0⟩) : Try.prog.built 30 L = some R := by
  subst h hR eA
  kernel_rfl
theorem row_at4 {W w : World} {ad : Addr} {l : List S28} {B0 : Nat} (hC : Kd.C k28 w (some ad) l.length l) (h0 : w.heap.size = B0) (hW : Below B0 w W) {i : Int} (hi : 0 ≤ i) (hi1 : i < (l.length : Int)) (A : Array Value) (hA : A = TA (rd_T28 l i)) : ∀ (j : Nat) (v : Value), A.toList[j]? = some v → W.cell? ((ad.add (i.toNat * 11)).add j) = some v := fun j v hv => row_c hC h0 hW hi hi1 (by rw [← hA]; exact hv)
set_option maxRecDepth 100000 in
set_option maxHeartbeats 6000000 in
theorem news_few (w : World) (B : Int) (A : Option Addr) (l : List S28) (cap : Nat) (hc : l.length ≤ cap) (hC : Kd.C k28 w A l.length l) (i no rel d : Int) (must : Bool) (hf : Ev (fun k => pendulumref05_Few.f k B l) false) : Calls Try.prog 3 #[.agg #[.int .i64 B, .slice A l.length cap], .int .i64 i, .int .i64 no, .int .i64 rel, .int .i64 d, .bool must] w fun e w' => e = .returned (.bool true) ∧ Below w.heap.size w w' := by
  obtain ⟨A0, eA0⟩ : ∃ A0 : Array Value, A0 = #[.int .i64 B, .slice A l.length cap] := ⟨_, rfl⟩
  rw [← eA0]
  have zA0 : Hid (A0.size = 2) := Lib.hid (by rw [eA0]; rfl)
  replace eA0 := Lib.hid eA0
  obtain ⟨B0, hB0⟩ : ∃ B, w.heap.size = B := ⟨_, rfl⟩
  rw [hB0]
  obtain ⟨V0, hV0⟩ : ∃ V, w.alloc (.cells A0 24) = V := ⟨_, rfl⟩
  have Hs : Hid (V0.heap[B0]? = some (.cells A0 24 (0, 0))) := Lib.hid (by rw [← hV0]; exact (box_new hB0).1)
  have HE : Hid (Below B0 w V0) := Lib.hid (by rw [← hV0, ← hB0]; exact (Below.refl _ _).alloc (Nat.le_refl _) _)
  go_enter Try.func3, Try.ntmps3
  go_upto_region 1 with (fail)
  replace hB0 := Lib.hid hB0
  replace hV0 := Lib.hid hV0
  go_wp2_with fail
  refine (aw_c _).mono ?_; rintro e V_1 ⟨rfl, hb_2⟩
  have H_3 : Hid (V_1.heap[B0]? = some (.cells A0 24 (0, 0))) := Lib.hid ((hb_2.block B0 (blk_lt Hs.out)).trans Hs.out)
  have HE_4 : Hid (Below B0 w V_1) := Lib.hid (HE.out.trans (hb_2.mono (sz_le hB0.out HE.out.size)))
  clear HE Hs
  clear hb_2
  go_wp2_with (first | ((with_reducible refine wpl_gate (T := 24) rfl ?_); refine wpl_ld _ _ rfl (by rfl) B0 rfl H_3.out Try.underlying24 rfl (by kernel_rfl) zA0.out ?_))
  refine (few_c hf hC hc hB0.out HE_4.out _ eA0.out).mono ?_; rintro e V_5 ⟨rfl, hb_6⟩
  have H_7 : Hid (V_5.heap[B0]? = some (.cells A0 24 (0, 0))) := Lib.hid ((hb_6.block B0 (blk_lt H_3.out)).trans H_3.out)
  have HE_8 : Hid (Below B0 w V_5) := Lib.hid (HE_4.out.trans (hb_6.mono (sz_le hB0.out HE_4.out.size)))
  clear HE_4 H_3
  clear hb_6
  go_wp2_with fail
  refine (aw_c _).mono ?_; rintro e V_9 ⟨rfl, hb_10⟩
  have H_11 : Hid (V_9.heap[B0]? = some (.cells A0 24 (0, 0))) := Lib.hid ((hb_10.block B0 (blk_lt H_7.out)).trans H_7.out)
  have HE_12 : Hid (Below B0 w V_9) := Lib.hid (HE_8.out.trans (hb_10.mono (sz_le hB0.out HE_8.out.size)))
  clear HE_8 H_7
  clear hb_10
  go_wp2
  go_ret
  exact ⟨rfl, HE_12.out⟩
set_option maxRecDepth 100000 in
set_option maxHeartbeats 6000000 in
theorem news_right (w : World) (B : Int) (A : Option Addr) (l : List S28) (cap : Nat) (hc : l.length ≤ cap) (hC : Kd.C k28 w A l.length l) (i no rel d : Int) (must : Bool) (hf : Ev (fun k => pendulumref05_Few.f k B l) true) (hr : Ev (fun k => pendulumref05_Right.f k B l) false) : Calls Try.prog 3 #[.agg #[.int .i64 B, .slice A l.length cap], .int .i64 i, .int .i64 no, .int .i64 rel, .int .i64 d, .bool must] w fun e w' => e = .returned (.bool true) ∧ Below w.heap.size w w' := by
  obtain ⟨A0, eA0⟩ : ∃ A0 : Array Value, A0 = #[.int .i64 B, .slice A l.length cap] := ⟨_, rfl⟩
  rw [← eA0]
  have zA0 : Hid (A0.size = 2) := Lib.hid (by rw [eA0]; rfl)
  replace eA0 := Lib.hid eA0
  obtain ⟨B0, hB0⟩ : ∃ B, w.heap.size = B := ⟨_, rfl⟩
  rw [hB0]
  obtain ⟨V0, hV0⟩ : ∃ V, w.alloc (.cells A0 24) = V := ⟨_, rfl⟩
  have Hs : Hid (V0.heap[B0]? = some (.cells A0 24 (0, 0))) := Lib.hid (by rw [← hV0]; exact (box_new hB0).1)
  have HE : Hid (Below B0 w V0) := Lib.hid (by rw [← hV0, ← hB0]; exact (Below.refl _ _).alloc (Nat.le_refl _) _)
  go_enter Try.func3, Try.ntmps3
  go_upto_region 1 with (fail)
  replace hB0 := Lib.hid hB0
  replace hV0 := Lib.hid hV0
  go_wp2_with fail
  refine (aw_c _).mono ?_; rintro e V_13 ⟨rfl, hb_14⟩
  have H_15 : Hid (V_13.heap[B0]? = some (.cells A0 24 (0, 0))) := Lib.hid ((hb_14.block B0 (blk_lt Hs.out)).trans Hs.out)
  have HE_16 : Hid (Below B0 w V_13) := Lib.hid (HE.out.trans (hb_14.mono (sz_le hB0.out HE.out.size)))
  clear HE Hs
  clear hb_14
  go_wp2_with (first | ((with_reducible refine wpl_gate (T := 24) rfl ?_); refine wpl_ld _ _ rfl (by rfl) B0 rfl H_15.out Try.underlying24 rfl (by kernel_rfl) zA0.out ?_))
  refine (few_c hf hC hc hB0.out HE_16.out _ eA0.out).mono ?_; rintro e V_17 ⟨rfl, hb_18⟩
  have H_19 : Hid (V_17.heap[B0]? = some (.cells A0 24 (0, 0))) := Lib.hid ((hb_18.block B0 (blk_lt H_15.out)).trans H_15.out)
  have HE_20 : Hid (Below B0 w V_17) := Lib.hid (HE_16.out.trans (hb_18.mono (sz_le hB0.out HE_16.out.size)))
  clear HE_16 H_15
  clear hb_18
  go_wp2_with (first | ((with_reducible refine wpl_gate (T := 24) rfl ?_); refine wpl_ld _ _ rfl (by rfl) B0 rfl H_19.out Try.underlying24 rfl (by kernel_rfl) zA0.out ?_))
  refine (right_c hr hC hc hB0.out HE_20.out _ eA0.out).mono ?_; rintro e V_21 ⟨rfl, hb_22⟩
  have H_23 : Hid (V_21.heap[B0]? = some (.cells A0 24 (0, 0))) := Lib.hid ((hb_22.block B0 (blk_lt H_19.out)).trans H_19.out)
  have HE_24 : Hid (Below B0 w V_21) := Lib.hid (HE_20.out.trans (hb_22.mono (sz_le hB0.out HE_20.out.size)))
  clear HE_20 H_19
  clear hb_22
  go_wp2_with fail
  refine (aw_c _).mono ?_; rintro e V_25 ⟨rfl, hb_26⟩
  have H_27 : Hid (V_25.heap[B0]? = some (.cells A0 24 (0, 0))) := Lib.hid ((hb_26.block B0 (blk_lt H_23.out)).trans H_23.out)
  have HE_28 : Hid (Below B0 w V_25) := Lib.hid (HE_24.out.trans (hb_26.mono (sz_le hB0.out HE_24.out.size)))
  clear HE_24 H_23
  clear hb_26
  go_wp2
  go_ret
  exact ⟨rfl, HE_28.out⟩
set_option maxRecDepth 100000 in
set_option maxHeartbeats 6000000 in
theorem news_bad0 (w : World) (B : Int) (ad : Addr) (l : List S28) (cap : Nat) (hc : l.length ≤ cap) (hC : Kd.C k28 w (some ad) l.length l) (i no rel d : Int) (must : Bool)  (hk : i < 0) (hf : Ev (fun k => pendulumref05_Few.f k B l) true) (hr : Ev (fun k => pendulumref05_Right.f k B l) true) (ok : OkS B l) : Calls Try.prog 3 #[.agg #[.int .i64 B, .slice (some ad) l.length cap], .int .i64 i, .int .i64 no, .int .i64 rel, .int .i64 d, .bool must] w fun e w' => e = .returned (.bool true) ∧ Below w.heap.size w w' := by
  have d0 : decide (i < 0) = true := decide_eq_true hk
  obtain ⟨Z, eZ⟩ : ∃ A : Array Value, A = #[.int .i64 0, .int .i64 0, .int .i64 0, .int .i64 0, .bool false, .bool false, .bool false, .string ⟨#[]⟩, .int .i64 0, .int .i64 0, .int .i64 0, .int .i64 0, .int .i64 0, .int .i64 0, .int .i64 0, .int .i64 0, .int .i64 0, .int .i64 0, .int .i64 0, .int .i64 0, .int .i64 0, .bool false, .int .i64 0] := ⟨_, rfl⟩
  have zZ : Hid (Z.size = 23) := Lib.hid (by rw [eZ]; rfl)
  have oZ : Hid (Z.all (·.oneCell') = true) := Lib.hid (by rw [eZ]; simp [Value.oneCell'])
  have hz : ∀ V : World, (zeroValue 32).run Try.prog V = .ok (.agg Z) V := fun V => by rw [eZ]; kernel_rfl
  have hjj : ∀ W : World, (binOp .eql 32 (.agg Z) (.agg Z)).run Try.prog W = .ok (.bool true) W := fun W => eq_job W Z 0 0 0 0 false false false ⟨⟨#[]⟩, 0, 0, 0, 0, 0, 0, 0, 0, 0, 0⟩ 0 ⟨0, 0, false, 0⟩ (by rw [eZ]; simp [JP, RA, TA])
  have hjg : ∀ (a b : Operand) (W : World), (eqGuard .eql 32 a b (.agg Z) (.agg Z)).run Try.prog W = .ok () W := fun a b W => run_eqGuard_agg W .eql 32 a b _ _ (by kernel_rfl)
  have NB := Lib.hid (fun W : World => new_bad0 W B ad l.length cap i no rel d must  hk)
  rw [← eZ] at NB
  replace eZ := Lib.hid eZ
  clear hk 
  obtain ⟨A0, eA0⟩ : ∃ A0 : Array Value, A0 = #[.int .i64 B, .slice (some ad) l.length cap] := ⟨_, rfl⟩
  rw [← eA0]
  have zA0 : Hid (A0.size = 2) := Lib.hid (by rw [eA0]; rfl)
  replace eA0 := Lib.hid eA0
  obtain ⟨B0, hB0⟩ : ∃ B, w.heap.size = B := ⟨_, rfl⟩
  rw [hB0]
  obtain ⟨V0, hV0⟩ : ∃ V, w.alloc (.cells A0 24) = V := ⟨_, rfl⟩
  have Hs : Hid (V0.heap[B0]? = some (.cells A0 24 (0, 0))) := Lib.hid (by rw [← hV0]; exact (box_new hB0).1)
  have HE : Hid (Below B0 w V0) := Lib.hid (by rw [← hV0, ← hB0]; exact (Below.refl _ _).alloc (Nat.le_refl _) _)
  go_enter Try.func3, Try.ntmps3
  go_upto_region 1 with (fail)
  replace hB0 := Lib.hid hB0
  replace hV0 := Lib.hid hV0
  have NB2 : Hid (∀ W : World, Calls Try.prog 11 #[.agg A0, .int .i64 i, .int .i64 no, .int .i64 rel, .int .i64 d, .bool must] W fun e w' => e = .returned (.tuple #[.agg Z, .int .i64 1]) ∧ Below W.heap.size W w') := Lib.hid (fun W => by rw [eA0.out]; exact NB.out W)
  go_wp2_with fail
  refine (aw_c _).mono ?_; rintro e V_29 ⟨rfl, hb_30⟩
  have H_31 : Hid (V_29.heap[B0]? = some (.cells A0 24 (0, 0))) := Lib.hid ((hb_30.block B0 (blk_lt Hs.out)).trans Hs.out)
  have HE_32 : Hid (Below B0 w V_29) := Lib.hid (HE.out.trans (hb_30.mono (sz_le hB0.out HE.out.size)))
  clear HE Hs
  clear hb_30
  go_wp2_with (first | ((with_reducible refine wpl_gate (T := 24) rfl ?_); refine wpl_ld _ _ rfl (by rfl) B0 rfl H_31.out Try.underlying24 rfl (by kernel_rfl) zA0.out ?_))
  refine (few_c hf hC hc hB0.out HE_32.out _ eA0.out).mono ?_; rintro e V_33 ⟨rfl, hb_34⟩
  have H_35 : Hid (V_33.heap[B0]? = some (.cells A0 24 (0, 0))) := Lib.hid ((hb_34.block B0 (blk_lt H_31.out)).trans H_31.out)
  have HE_36 : Hid (Below B0 w V_33) := Lib.hid (HE_32.out.trans (hb_34.mono (sz_le hB0.out HE_32.out.size)))
  clear HE_32 H_31
  clear hb_34
  go_wp2_with (first | ((with_reducible refine wpl_gate (T := 24) rfl ?_); refine wpl_ld _ _ rfl (by rfl) B0 rfl H_35.out Try.underlying24 rfl (by kernel_rfl) zA0.out ?_))
  refine (right_c hr hC hc hB0.out HE_36.out _ eA0.out).mono ?_; rintro e V_37 ⟨rfl, hb_38⟩
  have H_39 : Hid (V_37.heap[B0]? = some (.cells A0 24 (0, 0))) := Lib.hid ((hb_38.block B0 (blk_lt H_35.out)).trans H_35.out)
  have HE_40 : Hid (Below B0 w V_37) := Lib.hid (HE_36.out.trans (hb_38.mono (sz_le hB0.out HE_36.out.size)))
  clear HE_36 H_35
  clear hb_38
  go_wp2_with (first | ((with_reducible refine wpl_gate (T := 24) rfl ?_); refine wpl_ld _ _ rfl (by rfl) B0 rfl H_39.out Try.underlying24 rfl (by kernel_rfl) zA0.out ?_))
  refine (NB2.out _).mono ?_; rintro e V_41 ⟨rfl, hb_42⟩
  have H_43 : Hid (V_41.heap[B0]? = some (.cells A0 24 (0, 0))) := Lib.hid ((hb_42.block B0 (blk_lt H_39.out)).trans H_39.out)
  have HE_44 : Hid (Below B0 w V_41) := Lib.hid (HE_40.out.trans (hb_42.mono (sz_le hB0.out HE_40.out.size)))
  clear HE_40 H_39
  clear hb_42
  obtain ⟨X_45, hX_47⟩ : ∃ X, V_41.heap.size = X := ⟨_, rfl⟩
  obtain ⟨V_46, q_48_0, q_48_1, q_48_2, q_48_3⟩ := st_new (w := V_41) (T := 32) hX_47 zZ.out zZ.out oZ.out
  have ne_50 : B0 < X_45 := hX_47 ▸ blk_lt H_43.out
  have H_49 : Hid (V_46.heap[B0]? = some (.cells A0 24 (0, 0))) := Lib.hid ((q_48_2 _ ne_50).trans H_43.out)
  have ge_51 : B0 ≤ X_45 := hX_47 ▸ (sz_le hB0.out HE_44.out.size)
  have HE_52 : Hid (Below B0 w V_46) := Lib.hid (q_48_3 _ _ ge_51 HE_44.out)
  have H_53 := Lib.hid q_48_1
  clear q_48_1 q_48_2 q_48_3
  go_upto_region 4 with (fail)
  clear q_48_0 hX_47
  clear HE_44 H_43
  have c_54 : V_46.cell? ⟨B0, 1, none⟩ = some (.slice (some ad) l.length cap) := by rw [blk_cell H_49.out, eA0.out]; rfl
  go_wp2_with (first | ((with_reducible refine wpl_gate (T := 32) rfl ?_); refine wpl_ld _ _ rfl (by rfl) X_45 rfl H_53.out Try.underlying32 rfl (by kernel_rfl) zZ.out ?_) | ((with_reducible refine wpl_gateb (T := 32) rfl ?_); refine wpl_bld 32 _ rfl (by rfl) (zero_built (by simp [go_sem]) eZ.out) ?_))
  go_ret
  exact ⟨rfl, HE_52.out⟩
set_option maxRecDepth 100000 in
set_option maxHeartbeats 6000000 in
theorem news_bad1 (w : World) (B : Int) (ad : Addr) (l : List S28) (cap : Nat) (hc : l.length ≤ cap) (hC : Kd.C k28 w (some ad) l.length l) (i no rel d : Int) (must : Bool) (n0 : ¬ i < 0) (hk : (l.length : Int) ≤ i) (hf : Ev (fun k => pendulumref05_Few.f k B l) true) (hr : Ev (fun k => pendulumref05_Right.f k B l) true) (ok : OkS B l) : Calls Try.prog 3 #[.agg #[.int .i64 B, .slice (some ad) l.length cap], .int .i64 i, .int .i64 no, .int .i64 rel, .int .i64 d, .bool must] w fun e w' => e = .returned (.bool true) ∧ Below w.heap.size w w' := by
  have d0 : decide (i < 0) = false := decide_eq_false n0
  have d1 : decide ((l.length : Int) ≤ i) = true := decide_eq_true hk
  obtain ⟨Z, eZ⟩ : ∃ A : Array Value, A = #[.int .i64 0, .int .i64 0, .int .i64 0, .int .i64 0, .bool false, .bool false, .bool false, .string ⟨#[]⟩, .int .i64 0, .int .i64 0, .int .i64 0, .int .i64 0, .int .i64 0, .int .i64 0, .int .i64 0, .int .i64 0, .int .i64 0, .int .i64 0, .int .i64 0, .int .i64 0, .int .i64 0, .bool false, .int .i64 0] := ⟨_, rfl⟩
  have zZ : Hid (Z.size = 23) := Lib.hid (by rw [eZ]; rfl)
  have oZ : Hid (Z.all (·.oneCell') = true) := Lib.hid (by rw [eZ]; simp [Value.oneCell'])
  have hz : ∀ V : World, (zeroValue 32).run Try.prog V = .ok (.agg Z) V := fun V => by rw [eZ]; kernel_rfl
  have hjj : ∀ W : World, (binOp .eql 32 (.agg Z) (.agg Z)).run Try.prog W = .ok (.bool true) W := fun W => eq_job W Z 0 0 0 0 false false false ⟨⟨#[]⟩, 0, 0, 0, 0, 0, 0, 0, 0, 0, 0⟩ 0 ⟨0, 0, false, 0⟩ (by rw [eZ]; simp [JP, RA, TA])
  have hjg : ∀ (a b : Operand) (W : World), (eqGuard .eql 32 a b (.agg Z) (.agg Z)).run Try.prog W = .ok () W := fun a b W => run_eqGuard_agg W .eql 32 a b _ _ (by kernel_rfl)
  have NB := Lib.hid (fun W : World => new_bad1 W B ad l.length cap i no rel d must n0 hk)
  rw [← eZ] at NB
  replace eZ := Lib.hid eZ
  clear hk n0
  obtain ⟨A0, eA0⟩ : ∃ A0 : Array Value, A0 = #[.int .i64 B, .slice (some ad) l.length cap] := ⟨_, rfl⟩
  rw [← eA0]
  have zA0 : Hid (A0.size = 2) := Lib.hid (by rw [eA0]; rfl)
  replace eA0 := Lib.hid eA0
  obtain ⟨B0, hB0⟩ : ∃ B, w.heap.size = B := ⟨_, rfl⟩
  rw [hB0]
  obtain ⟨V0, hV0⟩ : ∃ V, w.alloc (.cells A0 24) = V := ⟨_, rfl⟩
  have Hs : Hid (V0.heap[B0]? = some (.cells A0 24 (0, 0))) := Lib.hid (by rw [← hV0]; exact (box_new hB0).1)
  have HE : Hid (Below B0 w V0) := Lib.hid (by rw [← hV0, ← hB0]; exact (Below.refl _ _).alloc (Nat.le_refl _) _)
  go_enter Try.func3, Try.ntmps3
  go_upto_region 1 with (fail)
  replace hB0 := Lib.hid hB0
  replace hV0 := Lib.hid hV0
  have NB2 : Hid (∀ W : World, Calls Try.prog 11 #[.agg A0, .int .i64 i, .int .i64 no, .int .i64 rel, .int .i64 d, .bool must] W fun e w' => e = .returned (.tuple #[.agg Z, .int .i64 1]) ∧ Below W.heap.size W w') := Lib.hid (fun W => by rw [eA0.out]; exact NB.out W)
  go_wp2_with fail
  refine (aw_c _).mono ?_; rintro e V_55 ⟨rfl, hb_56⟩
  have H_57 : Hid (V_55.heap[B0]? = some (.cells A0 24 (0, 0))) := Lib.hid ((hb_56.block B0 (blk_lt Hs.out)).trans Hs.out)
  have HE_58 : Hid (Below B0 w V_55) := Lib.hid (HE.out.trans (hb_56.mono (sz_le hB0.out HE.out.size)))
  clear HE Hs
  clear hb_56
  go_wp2_with (first | ((with_reducible refine wpl_gate (T := 24) rfl ?_); refine wpl_ld _ _ rfl (by rfl) B0 rfl H_57.out Try.underlying24 rfl (by kernel_rfl) zA0.out ?_))
  refine (few_c hf hC hc hB0.out HE_58.out _ eA0.out).mono ?_; rintro e V_59 ⟨rfl, hb_60⟩
  have H_61 : Hid (V_59.heap[B0]? = some (.cells A0 24 (0, 0))) := Lib.hid ((hb_60.block B0 (blk_lt H_57.out)).trans H_57.out)
  have HE_62 : Hid (Below B0 w V_59) := Lib.hid (HE_58.out.trans (hb_60.mono (sz_le hB0.out HE_58.out.size)))
  clear HE_58 H_57
  clear hb_60
  go_wp2_with (first | ((with_reducible refine wpl_gate (T := 24) rfl ?_); refine wpl_ld _ _ rfl (by rfl) B0 rfl H_61.out Try.underlying24 rfl (by kernel_rfl) zA0.out ?_))
  refine (right_c hr hC hc hB0.out HE_62.out _ eA0.out).mono ?_; rintro e V_63 ⟨rfl, hb_64⟩
  have H_65 : Hid (V_63.heap[B0]? = some (.cells A0 24 (0, 0))) := Lib.hid ((hb_64.block B0 (blk_lt H_61.out)).trans H_61.out)
  have HE_66 : Hid (Below B0 w V_63) := Lib.hid (HE_62.out.trans (hb_64.mono (sz_le hB0.out HE_62.out.size)))
  clear HE_62 H_61
  clear hb_64
  go_wp2_with (first | ((with_reducible refine wpl_gate (T := 24) rfl ?_); refine wpl_ld _ _ rfl (by rfl) B0 rfl H_65.out Try.underlying24 rfl (by kernel_rfl) zA0.out ?_))
  refine (NB2.out _).mono ?_; rintro e V_67 ⟨rfl, hb_68⟩
  have H_69 : Hid (V_67.heap[B0]? = some (.cells A0 24 (0, 0))) := Lib.hid ((hb_68.block B0 (blk_lt H_65.out)).trans H_65.out)
  have HE_70 : Hid (Below B0 w V_67) := Lib.hid (HE_66.out.trans (hb_68.mono (sz_le hB0.out HE_66.out.size)))
  clear HE_66 H_65
  clear hb_68
  obtain ⟨X_71, hX_73⟩ : ∃ X, V_67.heap.size = X := ⟨_, rfl⟩
  obtain ⟨V_72, q_74_0, q_74_1, q_74_2, q_74_3⟩ := st_new (w := V_67) (T := 32) hX_73 zZ.out zZ.out oZ.out
  have ne_76 : B0 < X_71 := hX_73 ▸ blk_lt H_69.out
  have H_75 : Hid (V_72.heap[B0]? = some (.cells A0 24 (0, 0))) := Lib.hid ((q_74_2 _ ne_76).trans H_69.out)
  have ge_77 : B0 ≤ X_71 := hX_73 ▸ (sz_le hB0.out HE_70.out.size)
  have HE_78 : Hid (Below B0 w V_72) := Lib.hid (q_74_3 _ _ ge_77 HE_70.out)
  have H_79 := Lib.hid q_74_1
  clear q_74_1 q_74_2 q_74_3
  go_upto_region 4 with (fail)
  clear q_74_0 hX_73
  clear HE_70 H_69
  have c_80 : V_72.cell? ⟨B0, 1, none⟩ = some (.slice (some ad) l.length cap) := by rw [blk_cell H_75.out, eA0.out]; rfl
  go_wp2_with (first | ((with_reducible refine wpl_gate (T := 32) rfl ?_); refine wpl_ld _ _ rfl (by rfl) X_71 rfl H_79.out Try.underlying32 rfl (by kernel_rfl) zZ.out ?_) | ((with_reducible refine wpl_gateb (T := 32) rfl ?_); refine wpl_bld 32 _ rfl (by rfl) (zero_built (by simp [go_sem]) eZ.out) ?_))
  go_ret
  exact ⟨rfl, HE_78.out⟩
set_option maxRecDepth 100000 in
set_option maxHeartbeats 6000000 in
theorem news_bad2 (w : World) (B : Int) (ad : Addr) (l : List S28) (cap : Nat) (hc : l.length ≤ cap) (hC : Kd.C k28 w (some ad) l.length l) (i no rel d : Int) (must : Bool) (n0 : ¬ i < 0) (n1 : ¬ (l.length : Int) ≤ i) (hk : no < 0) (hf : Ev (fun k => pendulumref05_Few.f k B l) true) (hr : Ev (fun k => pendulumref05_Right.f k B l) true) (ok : OkS B l) : Calls Try.prog 3 #[.agg #[.int .i64 B, .slice (some ad) l.length cap], .int .i64 i, .int .i64 no, .int .i64 rel, .int .i64 d, .bool must] w fun e w' => e = .returned (.bool true) ∧ Below w.heap.size w w' := by
  have d0 : decide (i < 0) = false := decide_eq_false n0
  have d1 : decide ((l.length : Int) ≤ i) = false := decide_eq_false n1
  have d2 : decide (no < 0) = true := decide_eq_true hk
  obtain ⟨Z, eZ⟩ : ∃ A : Array Value, A = #[.int .i64 0, .int .i64 0, .int .i64 0, .int .i64 0, .bool false, .bool false, .bool false, .string ⟨#[]⟩, .int .i64 0, .int .i64 0, .int .i64 0, .int .i64 0, .int .i64 0, .int .i64 0, .int .i64 0, .int .i64 0, .int .i64 0, .int .i64 0, .int .i64 0, .int .i64 0, .int .i64 0, .bool false, .int .i64 0] := ⟨_, rfl⟩
  have zZ : Hid (Z.size = 23) := Lib.hid (by rw [eZ]; rfl)
  have oZ : Hid (Z.all (·.oneCell') = true) := Lib.hid (by rw [eZ]; simp [Value.oneCell'])
  have hz : ∀ V : World, (zeroValue 32).run Try.prog V = .ok (.agg Z) V := fun V => by rw [eZ]; kernel_rfl
  have hjj : ∀ W : World, (binOp .eql 32 (.agg Z) (.agg Z)).run Try.prog W = .ok (.bool true) W := fun W => eq_job W Z 0 0 0 0 false false false ⟨⟨#[]⟩, 0, 0, 0, 0, 0, 0, 0, 0, 0, 0⟩ 0 ⟨0, 0, false, 0⟩ (by rw [eZ]; simp [JP, RA, TA])
  have hjg : ∀ (a b : Operand) (W : World), (eqGuard .eql 32 a b (.agg Z) (.agg Z)).run Try.prog W = .ok () W := fun a b W => run_eqGuard_agg W .eql 32 a b _ _ (by kernel_rfl)
  have NB := Lib.hid (fun W : World => new_bad2 W B ad l.length cap i no rel d must n0 n1 hk)
  rw [← eZ] at NB
  replace eZ := Lib.hid eZ
  clear hk n0 n1
  obtain ⟨A0, eA0⟩ : ∃ A0 : Array Value, A0 = #[.int .i64 B, .slice (some ad) l.length cap] := ⟨_, rfl⟩
  rw [← eA0]
  have zA0 : Hid (A0.size = 2) := Lib.hid (by rw [eA0]; rfl)
  replace eA0 := Lib.hid eA0
  obtain ⟨B0, hB0⟩ : ∃ B, w.heap.size = B := ⟨_, rfl⟩
  rw [hB0]
  obtain ⟨V0, hV0⟩ : ∃ V, w.alloc (.cells A0 24) = V := ⟨_, rfl⟩
  have Hs : Hid (V0.heap[B0]? = some (.cells A0 24 (0, 0))) := Lib.hid (by rw [← hV0]; exact (box_new hB0).1)
  have HE : Hid (Below B0 w V0) := Lib.hid (by rw [← hV0, ← hB0]; exact (Below.refl _ _).alloc (Nat.le_refl _) _)
  go_enter Try.func3, Try.ntmps3
  go_upto_region 1 with (fail)
  replace hB0 := Lib.hid hB0
  replace hV0 := Lib.hid hV0
  have NB2 : Hid (∀ W : World, Calls Try.prog 11 #[.agg A0, .int .i64 i, .int .i64 no, .int .i64 rel, .int .i64 d, .bool must] W fun e w' => e = .returned (.tuple #[.agg Z, .int .i64 1]) ∧ Below W.heap.size W w') := Lib.hid (fun W => by rw [eA0.out]; exact NB.out W)
  go_wp2_with fail
  refine (aw_c _).mono ?_; rintro e V_81 ⟨rfl, hb_82⟩
  have H_83 : Hid (V_81.heap[B0]? = some (.cells A0 24 (0, 0))) := Lib.hid ((hb_82.block B0 (blk_lt Hs.out)).trans Hs.out)
  have HE_84 : Hid (Below B0 w V_81) := Lib.hid (HE.out.trans (hb_82.mono (sz_le hB0.out HE.out.size)))
  clear HE Hs
  clear hb_82
  go_wp2_with (first | ((with_reducible refine wpl_gate (T := 24) rfl ?_); refine wpl_ld _ _ rfl (by rfl) B0 rfl H_83.out Try.underlying24 rfl (by kernel_rfl) zA0.out ?_))
  refine (few_c hf hC hc hB0.out HE_84.out _ eA0.out).mono ?_; rintro e V_85 ⟨rfl, hb_86⟩
  have H_87 : Hid (V_85.heap[B0]? = some (.cells A0 24 (0, 0))) := Lib.hid ((hb_86.block B0 (blk_lt H_83.out)).trans H_83.out)
  have HE_88 : Hid (Below B0 w V_85) := Lib.hid (HE_84.out.trans (hb_86.mono (sz_le hB0.out HE_84.out.size)))
  clear HE_84 H_83
  clear hb_86
  go_wp2_with (first | ((with_reducible refine wpl_gate (T := 24) rfl ?_); refine wpl_ld _ _ rfl (by rfl) B0 rfl H_87.out Try.underlying24 rfl (by kernel_rfl) zA0.out ?_))
  refine (right_c hr hC hc hB0.out HE_88.out _ eA0.out).mono ?_; rintro e V_89 ⟨rfl, hb_90⟩
  have H_91 : Hid (V_89.heap[B0]? = some (.cells A0 24 (0, 0))) := Lib.hid ((hb_90.block B0 (blk_lt H_87.out)).trans H_87.out)
  have HE_92 : Hid (Below B0 w V_89) := Lib.hid (HE_88.out.trans (hb_90.mono (sz_le hB0.out HE_88.out.size)))
  clear HE_88 H_87
  clear hb_90
  go_wp2_with (first | ((with_reducible refine wpl_gate (T := 24) rfl ?_); refine wpl_ld _ _ rfl (by rfl) B0 rfl H_91.out Try.underlying24 rfl (by kernel_rfl) zA0.out ?_))
  refine (NB2.out _).mono ?_; rintro e V_93 ⟨rfl, hb_94⟩
  have H_95 : Hid (V_93.heap[B0]? = some (.cells A0 24 (0, 0))) := Lib.hid ((hb_94.block B0 (blk_lt H_91.out)).trans H_91.out)
  have HE_96 : Hid (Below B0 w V_93) := Lib.hid (HE_92.out.trans (hb_94.mono (sz_le hB0.out HE_92.out.size)))
  clear HE_92 H_91
  clear hb_94
  obtain ⟨X_97, hX_99⟩ : ∃ X, V_93.heap.size = X := ⟨_, rfl⟩
  obtain ⟨V_98, q_100_0, q_100_1, q_100_2, q_100_3⟩ := st_new (w := V_93) (T := 32) hX_99 zZ.out zZ.out oZ.out
  have ne_102 : B0 < X_97 := hX_99 ▸ blk_lt H_95.out
  have H_101 : Hid (V_98.heap[B0]? = some (.cells A0 24 (0, 0))) := Lib.hid ((q_100_2 _ ne_102).trans H_95.out)
  have ge_103 : B0 ≤ X_97 := hX_99 ▸ (sz_le hB0.out HE_96.out.size)
  have HE_104 : Hid (Below B0 w V_98) := Lib.hid (q_100_3 _ _ ge_103 HE_96.out)
  have H_105 := Lib.hid q_100_1
  clear q_100_1 q_100_2 q_100_3
  go_upto_region 4 with (fail)
  clear q_100_0 hX_99
  clear HE_96 H_95
  have c_106 : V_98.cell? ⟨B0, 1, none⟩ = some (.slice (some ad) l.length cap) := by rw [blk_cell H_101.out, eA0.out]; rfl
  go_wp2_with (first | ((with_reducible refine wpl_gate (T := 32) rfl ?_); refine wpl_ld _ _ rfl (by rfl) X_97 rfl H_105.out Try.underlying32 rfl (by kernel_rfl) zZ.out ?_) | ((with_reducible refine wpl_gateb (T := 32) rfl ?_); refine wpl_bld 32 _ rfl (by rfl) (zero_built (by simp [go_sem]) eZ.out) ?_))
  go_ret
  exact ⟨rfl, HE_104.out⟩
set_option maxRecDepth 100000 in
set_option maxHeartbeats 6000000 in
theorem news_bad3 (w : World) (B : Int) (ad : Addr) (l : List S28) (cap : Nat) (hc : l.length ≤ cap) (hC : Kd.C k28 w (some ad) l.length l) (i no rel d : Int) (must : Bool) (n0 : ¬ i < 0) (n1 : ¬ (l.length : Int) ≤ i) (n2 : ¬ no < 0) (hk : rel < 0) (hf : Ev (fun k => pendulumref05_Few.f k B l) true) (hr : Ev (fun k => pendulumref05_Right.f k B l) true) (ok : OkS B l) : Calls Try.prog 3 #[.agg #[.int .i64 B, .slice (some ad) l.length cap], .int .i64 i, .int .i64 no, .int .i64 rel, .int .i64 d, .bool must] w fun e w' => e = .returned (.bool true) ∧ Below w.heap.size w w' := by
  have d0 : decide (i < 0) = false := decide_eq_false n0
  have d1 : decide ((l.length : Int) ≤ i) = false := decide_eq_false n1
  have d2 : decide (no < 0) = false := decide_eq_false n2
  have d3 : decide (rel < 0) = true := decide_eq_true hk
  obtain ⟨Z, eZ⟩ : ∃ A : Array Value, A = #[.int .i64 0, .int .i64 0, .int .i64 0, .int .i64 0, .bool false, .bool false, .bool false, .string ⟨#[]⟩, .int .i64 0, .int .i64 0, .int .i64 0, .int .i64 0, .int .i64 0, .int .i64 0, .int .i64 0, .int .i64 0, .int .i64 0, .int .i64 0, .int .i64 0, .int .i64 0, .int .i64 0, .bool false, .int .i64 0] := ⟨_, rfl⟩
  have zZ : Hid (Z.size = 23) := Lib.hid (by rw [eZ]; rfl)
  have oZ : Hid (Z.all (·.oneCell') = true) := Lib.hid (by rw [eZ]; simp [Value.oneCell'])
  have hz : ∀ V : World, (zeroValue 32).run Try.prog V = .ok (.agg Z) V := fun V => by rw [eZ]; kernel_rfl
  have hjj : ∀ W : World, (binOp .eql 32 (.agg Z) (.agg Z)).run Try.prog W = .ok (.bool true) W := fun W => eq_job W Z 0 0 0 0 false false false ⟨⟨#[]⟩, 0, 0, 0, 0, 0, 0, 0, 0, 0, 0⟩ 0 ⟨0, 0, false, 0⟩ (by rw [eZ]; simp [JP, RA, TA])
  have hjg : ∀ (a b : Operand) (W : World), (eqGuard .eql 32 a b (.agg Z) (.agg Z)).run Try.prog W = .ok () W := fun a b W => run_eqGuard_agg W .eql 32 a b _ _ (by kernel_rfl)
  have NB := Lib.hid (fun W : World => new_bad3 W B ad l.length cap i no rel d must n0 n1 n2 hk)
  rw [← eZ] at NB
  replace eZ := Lib.hid eZ
  clear hk n0 n1 n2
  obtain ⟨A0, eA0⟩ : ∃ A0 : Array Value, A0 = #[.int .i64 B, .slice (some ad) l.length cap] := ⟨_, rfl⟩
  rw [← eA0]
  have zA0 : Hid (A0.size = 2) := Lib.hid (by rw [eA0]; rfl)
  replace eA0 := Lib.hid eA0
  obtain ⟨B0, hB0⟩ : ∃ B, w.heap.size = B := ⟨_, rfl⟩
  rw [hB0]
  obtain ⟨V0, hV0⟩ : ∃ V, w.alloc (.cells A0 24) = V := ⟨_, rfl⟩
  have Hs : Hid (V0.heap[B0]? = some (.cells A0 24 (0, 0))) := Lib.hid (by rw [← hV0]; exact (box_new hB0).1)
  have HE : Hid (Below B0 w V0) := Lib.hid (by rw [← hV0, ← hB0]; exact (Below.refl _ _).alloc (Nat.le_refl _) _)
  go_enter Try.func3, Try.ntmps3
  go_upto_region 1 with (fail)
  replace hB0 := Lib.hid hB0
  replace hV0 := Lib.hid hV0
  have NB2 : Hid (∀ W : World, Calls Try.prog 11 #[.agg A0, .int .i64 i, .int .i64 no, .int .i64 rel, .int .i64 d, .bool must] W fun e w' => e = .returned (.tuple #[.agg Z, .int .i64 1]) ∧ Below W.heap.size W w') := Lib.hid (fun W => by rw [eA0.out]; exact NB.out W)
  go_wp2_with fail
  refine (aw_c _).mono ?_; rintro e V_107 ⟨rfl, hb_108⟩
  have H_109 : Hid (V_107.heap[B0]? = some (.cells A0 24 (0, 0))) := Lib.hid ((hb_108.block B0 (blk_lt Hs.out)).trans Hs.out)
  have HE_110 : Hid (Below B0 w V_107) := Lib.hid (HE.out.trans (hb_108.mono (sz_le hB0.out HE.out.size)))
  clear HE Hs
  clear hb_108
  go_wp2_with (first | ((with_reducible refine wpl_gate (T := 24) rfl ?_); refine wpl_ld _ _ rfl (by rfl) B0 rfl H_109.out Try.underlying24 rfl (by kernel_rfl) zA0.out ?_))
  refine (few_c hf hC hc hB0.out HE_110.out _ eA0.out).mono ?_; rintro e V_111 ⟨rfl, hb_112⟩
  have H_113 : Hid (V_111.heap[B0]? = some (.cells A0 24 (0, 0))) := Lib.hid ((hb_112.block B0 (blk_lt H_109.out)).trans H_109.out)
  have HE_114 : Hid (Below B0 w V_111) := Lib.hid (HE_110.out.trans (hb_112.mono (sz_le hB0.out HE_110.out.size)))
  clear HE_110 H_109
  clear hb_112
  go_wp2_with (first | ((with_reducible refine wpl_gate (T := 24) rfl ?_); refine wpl_ld _ _ rfl (by rfl) B0 rfl H_113.out Try.underlying24 rfl (by kernel_rfl) zA0.out ?_))
  refine (right_c hr hC hc hB0.out HE_114.out _ eA0.out).mono ?_; rintro e V_115 ⟨rfl, hb_116⟩
  have H_117 : Hid (V_115.heap[B0]? = some (.cells A0 24 (0, 0))) := Lib.hid ((hb_116.block B0 (blk_lt H_113.out)).trans H_113.out)
  have HE_118 : Hid (Below B0 w V_115) := Lib.hid (HE_114.out.trans (hb_116.mono (sz_le hB0.out HE_114.out.size)))
  clear HE_114 H_113
  clear hb_116
  go_wp2_with (first | ((with_reducible refine wpl_gate (T := 24) rfl ?_); refine wpl_ld _ _ rfl (by rfl) B0 rfl H_117.out Try.underlying24 rfl (by kernel_rfl) zA0.out ?_))
  refine (NB2.out _).mono ?_; rintro e V_119 ⟨rfl, hb_120⟩
  have H_121 : Hid (V_119.heap[B0]? = some (.cells A0 24 (0, 0))) := Lib.hid ((hb_120.block B0 (blk_lt H_117.out)).trans H_117.out)
  have HE_122 : Hid (Below B0 w V_119) := Lib.hid (HE_118.out.trans (hb_120.mono (sz_le hB0.out HE_118.out.size)))
  clear HE_118 H_117
  clear hb_120
  obtain ⟨X_123, hX_125⟩ : ∃ X, V_119.heap.size = X := ⟨_, rfl⟩
  obtain ⟨V_124, q_126_0, q_126_1, q_126_2, q_126_3⟩ := st_new (w := V_119) (T := 32) hX_125 zZ.out zZ.out oZ.out
  have ne_128 : B0 < X_123 := hX_125 ▸ blk_lt H_121.out
  have H_127 : Hid (V_124.heap[B0]? = some (.cells A0 24 (0, 0))) := Lib.hid ((q_126_2 _ ne_128).trans H_121.out)
  have ge_129 : B0 ≤ X_123 := hX_125 ▸ (sz_le hB0.out HE_122.out.size)
  have HE_130 : Hid (Below B0 w V_124) := Lib.hid (q_126_3 _ _ ge_129 HE_122.out)
  have H_131 := Lib.hid q_126_1
  clear q_126_1 q_126_2 q_126_3
  go_upto_region 4 with (fail)
  clear q_126_0 hX_125
  clear HE_122 H_121
  have c_132 : V_124.cell? ⟨B0, 1, none⟩ = some (.slice (some ad) l.length cap) := by rw [blk_cell H_127.out, eA0.out]; rfl
  go_wp2_with (first | ((with_reducible refine wpl_gate (T := 32) rfl ?_); refine wpl_ld _ _ rfl (by rfl) X_123 rfl H_131.out Try.underlying32 rfl (by kernel_rfl) zZ.out ?_) | ((with_reducible refine wpl_gateb (T := 32) rfl ?_); refine wpl_bld 32 _ rfl (by rfl) (zero_built (by simp [go_sem]) eZ.out) ?_))
  go_ret
  exact ⟨rfl, HE_130.out⟩
set_option maxRecDepth 100000 in
set_option maxHeartbeats 6000000 in
theorem news_bad4 (w : World) (B : Int) (ad : Addr) (l : List S28) (cap : Nat) (hc : l.length ≤ cap) (hC : Kd.C k28 w (some ad) l.length l) (i no rel d : Int) (must : Bool) (n0 : ¬ i < 0) (n1 : ¬ (l.length : Int) ≤ i) (n2 : ¬ no < 0) (n3 : ¬ rel < 0) (hk : (1099511627776 : Int) < rel) (hf : Ev (fun k => pendulumref05_Few.f k B l) true) (hr : Ev (fun k => pendulumref05_Right.f k B l) true) (ok : OkS B l) : Calls Try.prog 3 #[.agg #[.int .i64 B, .slice (some ad) l.length cap], .int .i64 i, .int .i64 no, .int .i64 rel, .int .i64 d, .bool must] w fun e w' => e = .returned (.bool true) ∧ Below w.heap.size w w' := by
  have d0 : decide (i < 0) = false := decide_eq_false n0
  have d1 : decide ((l.length : Int) ≤ i) = false := decide_eq_false n1
  have d2 : decide (no < 0) = false := decide_eq_false n2
  have d3 : decide (rel < 0) = false := decide_eq_false n3
  have d4 : decide (1099511627776 < rel) = true := decide_eq_true hk
  obtain ⟨Z, eZ⟩ : ∃ A : Array Value, A = #[.int .i64 0, .int .i64 0, .int .i64 0, .int .i64 0, .bool false, .bool false, .bool false, .string ⟨#[]⟩, .int .i64 0, .int .i64 0, .int .i64 0, .int .i64 0, .int .i64 0, .int .i64 0, .int .i64 0, .int .i64 0, .int .i64 0, .int .i64 0, .int .i64 0, .int .i64 0, .int .i64 0, .bool false, .int .i64 0] := ⟨_, rfl⟩
  have zZ : Hid (Z.size = 23) := Lib.hid (by rw [eZ]; rfl)
  have oZ : Hid (Z.all (·.oneCell') = true) := Lib.hid (by rw [eZ]; simp [Value.oneCell'])
  have hz : ∀ V : World, (zeroValue 32).run Try.prog V = .ok (.agg Z) V := fun V => by rw [eZ]; kernel_rfl
  have hjj : ∀ W : World, (binOp .eql 32 (.agg Z) (.agg Z)).run Try.prog W = .ok (.bool true) W := fun W => eq_job W Z 0 0 0 0 false false false ⟨⟨#[]⟩, 0, 0, 0, 0, 0, 0, 0, 0, 0, 0⟩ 0 ⟨0, 0, false, 0⟩ (by rw [eZ]; simp [JP, RA, TA])
  have hjg : ∀ (a b : Operand) (W : World), (eqGuard .eql 32 a b (.agg Z) (.agg Z)).run Try.prog W = .ok () W := fun a b W => run_eqGuard_agg W .eql 32 a b _ _ (by kernel_rfl)
  have NB := Lib.hid (fun W : World => new_bad4 W B ad l.length cap i no rel d must n0 n1 n2 n3 hk)
  rw [← eZ] at NB
  replace eZ := Lib.hid eZ
  clear hk n0 n1 n2 n3
  obtain ⟨A0, eA0⟩ : ∃ A0 : Array Value, A0 = #[.int .i64 B, .slice (some ad) l.length cap] := ⟨_, rfl⟩
  rw [← eA0]
  have zA0 : Hid (A0.size = 2) := Lib.hid (by rw [eA0]; rfl)
  replace eA0 := Lib.hid eA0
  obtain ⟨B0, hB0⟩ : ∃ B, w.heap.size = B := ⟨_, rfl⟩
  rw [hB0]
  obtain ⟨V0, hV0⟩ : ∃ V, w.alloc (.cells A0 24) = V := ⟨_, rfl⟩
  have Hs : Hid (V0.heap[B0]? = some (.cells A0 24 (0, 0))) := Lib.hid (by rw [← hV0]; exact (box_new hB0).1)
  have HE : Hid (Below B0 w V0) := Lib.hid (by rw [← hV0, ← hB0]; exact (Below.refl _ _).alloc (Nat.le_refl _) _)
  go_enter Try.func3, Try.ntmps3
  go_upto_region 1 with (fail)
  replace hB0 := Lib.hid hB0
  replace hV0 := Lib.hid hV0
  have NB2 : Hid (∀ W : World, Calls Try.prog 11 #[.agg A0, .int .i64 i, .int .i64 no, .int .i64 rel, .int .i64 d, .bool must] W fun e w' => e = .returned (.tuple #[.agg Z, .int .i64 1]) ∧ Below W.heap.size W w') := Lib.hid (fun W => by rw [eA0.out]; exact NB.out W)
  go_wp2_with fail
  refine (aw_c _).mono ?_; rintro e V_133 ⟨rfl, hb_134⟩
  have H_135 : Hid (V_133.heap[B0]? = some (.cells A0 24 (0, 0))) := Lib.hid ((hb_134.block B0 (blk_lt Hs.out)).trans Hs.out)
  have HE_136 : Hid (Below B0 w V_133) := Lib.hid (HE.out.trans (hb_134.mono (sz_le hB0.out HE.out.size)))
  clear HE Hs
  clear hb_134
  go_wp2_with (first | ((with_reducible refine wpl_gate (T := 24) rfl ?_); refine wpl_ld _ _ rfl (by rfl) B0 rfl H_135.out Try.underlying24 rfl (by kernel_rfl) zA0.out ?_))
  refine (few_c hf hC hc hB0.out HE_136.out _ eA0.out).mono ?_; rintro e V_137 ⟨rfl, hb_138⟩
  have H_139 : Hid (V_137.heap[B0]? = some (.cells A0 24 (0, 0))) := Lib.hid ((hb_138.block B0 (blk_lt H_135.out)).trans H_135.out)
  have HE_140 : Hid (Below B0 w V_137) := Lib.hid (HE_136.out.trans (hb_138.mono (sz_le hB0.out HE_136.out.size)))
  clear HE_136 H_135
  clear hb_138
  go_wp2_with (first | ((with_reducible refine wpl_gate (T := 24) rfl ?_); refine wpl_ld _ _ rfl (by rfl) B0 rfl H_139.out Try.underlying24 rfl (by kernel_rfl) zA0.out ?_))
  refine (right_c hr hC hc hB0.out HE_140.out _ eA0.out).mono ?_; rintro e V_141 ⟨rfl, hb_142⟩
  have H_143 : Hid (V_141.heap[B0]? = some (.cells A0 24 (0, 0))) := Lib.hid ((hb_142.block B0 (blk_lt H_139.out)).trans H_139.out)
  have HE_144 : Hid (Below B0 w V_141) := Lib.hid (HE_140.out.trans (hb_142.mono (sz_le hB0.out HE_140.out.size)))
  clear HE_140 H_139
  clear hb_142
  go_wp2_with (first | ((with_reducible refine wpl_gate (T := 24) rfl ?_); refine wpl_ld _ _ rfl (by rfl) B0 rfl H_143.out Try.underlying24 rfl (by kernel_rfl) zA0.out ?_))
  refine (NB2.out _).mono ?_; rintro e V_145 ⟨rfl, hb_146⟩
  have H_147 : Hid (V_145.heap[B0]? = some (.cells A0 24 (0, 0))) := Lib.hid ((hb_146.block B0 (blk_lt H_143.out)).trans H_143.out)
  have HE_148 : Hid (Below B0 w V_145) := Lib.hid (HE_144.out.trans (hb_146.mono (sz_le hB0.out HE_144.out.size)))
  clear HE_144 H_143
  clear hb_146
  obtain ⟨X_149, hX_151⟩ : ∃ X, V_145.heap.size = X := ⟨_, rfl⟩
  obtain ⟨V_150, q_152_0, q_152_1, q_152_2, q_152_3⟩ := st_new (w := V_145) (T := 32) hX_151 zZ.out zZ.out oZ.out
  have ne_154 : B0 < X_149 := hX_151 ▸ blk_lt H_147.out
  have H_153 : Hid (V_150.heap[B0]? = some (.cells A0 24 (0, 0))) := Lib.hid ((q_152_2 _ ne_154).trans H_147.out)
  have ge_155 : B0 ≤ X_149 := hX_151 ▸ (sz_le hB0.out HE_148.out.size)
  have HE_156 : Hid (Below B0 w V_150) := Lib.hid (q_152_3 _ _ ge_155 HE_148.out)
  have H_157 := Lib.hid q_152_1
  clear q_152_1 q_152_2 q_152_3
  go_upto_region 4 with (fail)
  clear q_152_0 hX_151
  clear HE_148 H_147
  have c_158 : V_150.cell? ⟨B0, 1, none⟩ = some (.slice (some ad) l.length cap) := by rw [blk_cell H_153.out, eA0.out]; rfl
  go_wp2_with (first | ((with_reducible refine wpl_gate (T := 32) rfl ?_); refine wpl_ld _ _ rfl (by rfl) X_149 rfl H_157.out Try.underlying32 rfl (by kernel_rfl) zZ.out ?_) | ((with_reducible refine wpl_gateb (T := 32) rfl ?_); refine wpl_bld 32 _ rfl (by rfl) (zero_built (by simp [go_sem]) eZ.out) ?_))
  go_ret
  exact ⟨rfl, HE_156.out⟩
end Go.Proofs.Ytpjehbcchanmhaa.PS
