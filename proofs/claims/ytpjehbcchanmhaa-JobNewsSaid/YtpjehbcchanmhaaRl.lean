/- The reference's Length and Step of a run, over arrays. -/
import Derived.Test.YtpjehbcchanmhaaLt
namespace Go.Proofs.Ytpjehbcchanmhaa.PS
open Go.RowKit Go.Proofs.Ytpjehbcchanmhaa.PC Go.Proofs.YtpjehbcchanmhaaW.PrintWords Go.Proofs.YtpjehbcchanmhaaW.PrintLast Go.Proofs.YtpjehbcchanmhaaW.PrintMore
set_option linter.unusedVariables false
set_option linter.unusedSimpArgs false
section
variable {t0 : ByteArray} {t1 t2 t3 t4 t5 t6 t7 t8 t9 t10 : Int}
theorem refparts_l0 (hs : 1 ≤ t5) (hs2 : t5 ≤ 1048576) (hc : 0 ≤ t6) (hc2 : t6 ≤ 1000) : ∀ (n : Nat) (d : Int) (acc : List Int), d ≤ n → n ≤ 1048576 → 1 ≤ d → acc.length + n ≤ 2000000 → Ev (fun k => pendulumref14_Parts.l0 k d acc t0 t1 t2 t3 t4 t5 t6 t7 t8 t9 t10) (acc ++ ps t5 t6 d) := by
  intro n
  induction n with
  | zero => intro d acc h _ _ _; omega
  | succ n ih =>
    intro d acc h hn hd hl
    have hm : mn d t5 = if d < t5 then d else t5 := by unfold mn; split <;> split <;> omega
    rw [ps_pos hs (by omega)]
    by_cases c : d > t5
    · have := ih (d - t5) (acc ++ [t5 + t6]) (by omega) (by omega) (by omega) (by simp; omega)
      rw [show acc ++ (mn d t5 + t6) :: ps t5 t6 (d - t5) = acc ++ [t5 + t6] ++ ps t5 t6 (d - t5) by rw [hm, if_neg (by omega)]; simp]
      refine Ev.step (fun k => ?_) this
      simp only [pendulumref14_Parts.l0]
      rw [if_pos c, if_pos (by omega), w64 (x := d - t5) (by omega) (by omega), w64 (x := t5 + t6) (by omega) (by omega)]
    · rw [ps_neg (d := d - t5) (by omega), show mn d t5 = d by rw [hm]; split <;> omega]
      refine Ev.step (f := fun _ => some _) (fun k => ?_) (Ev.now _)
      simp only [pendulumref14_Parts.l0]
      rw [if_neg c, if_pos (by omega), w64 (x := d + t6) (by omega) (by omega)]
end
theorem refparts_ev {t : S28} (ok : OkT t) (d : Int) (h1 : 1 ≤ d) (h2 : d ≤ t.f3) : Ev (fun k => pendulumref14_Parts.f k t.f0 t.f1 t.f2 t.f3 t.f4 t.f5 t.f6 t.f7 t.f8 t.f9 t.f10 d) (pt t d) := by
  have hn := ok.nums
  unfold pendulumref14_Parts.f pt
  by_cases c : t.f9 = 1
  · have hs := ok.seg c
    simp only [if_pos c]
    have := refparts_l0 (t0 := t.f0) (t1 := t.f1) (t2 := t.f2) (t3 := t.f3) (t4 := t.f4) (t5 := t.f5) (t6 := t.f6) (t7 := t.f7) (t8 := t.f8) (t9 := t.f9) (t10 := t.f10) hs.1 (by omega) (by omega) (by omega) d.toNat d [] (by omega) (by omega) (by omega) (by simp; omega)
    simpa using this
  · simp only [if_neg c]
    rw [w64 (x := d + t.f6) (by omega) (by omega)]
    exact Ev.now _
theorem ld_row {o : Oper} {a : Act} {w : World} (T : TypeId) (x : Operand) (ho : o.op = .load T x) (g f : Nat) (hx : a.eval x = .pointer (some ⟨g, f, none⟩)) {A : Array Value} {n : Nat} {d : TypeDesc}
    (hrow : ∀ (j : Nat) (v : Value), A.toList[j]? = some v → w.cell? ⟨g, f + j, none⟩ = some v) (hu : Try.prog.underlying T = some d) (hd : d.isRow = true) (hi : (Try.prog.info? T).map (·.size) = some n) (hA : A.size = n) : (execOp a.eval o).run Try.prog w = .ok (.value (.agg A)) w := by
  have := run_loadVar_mid (P := Try.prog) w g f T A.toList d hrow hu hd (by rw [hi, ← hA]; simp)
  unfold execOp
  simp only [ho, hx, Instr.loadAt, Instr.sureAddr, Sem.run_bind, Sem.run_pure, Result.andThen_ok, this]
theorem RA_pre (t : S28) (d : Int) (s : St) : ∀ (j : Nat) (v : Value), (TA t).toList[j]? = some v → (RA t d s)[j]? = some v := fun j v h => by
  have : j < (TA t).size := by
    have := (List.getElem?_eq_some_iff.1 h).1
    simpa using this
  unfold RA
  rw [Array.getElem?_append_left this]
  simpa using h
theorem row_of {V : World} {X : Nat} {R : Array Value} {t : S28} {d : Int} {s : St} (h : V.heap[X]? = some (.cells R 30 (0, 0))) (hR : R = RA t d s) : ∀ (j : Nat) (v : Value), (TA t).toList[j]? = some v → V.cell? ⟨X, 0 + j, none⟩ = some v := fun j v hj => by
  rw [Nat.zero_add, blk_cell h, hR]; exact RA_pre t d s j v hj
/-- A row of numbers in memory. -/
def Nums (w : World) (g : Nat) (cur : Array Value) (L : List Int) : Prop := w.heap[g]? = some (.cells cur 3 (0, 0)) ∧ ∀ p : Nat, p < L.length → cur[p]? = some (.int .i64 (rd L (p : Int)))
section
variable {t : S28} {d : Int} (ok : OkT t) (h1 : 1 ≤ d) (h2 : d ≤ t.f3)
include ok h1 h2 in
theorem refparts_c (W : World) (A : Array Value) (hA : A = TA t) : Calls Try.prog 22 #[.agg A, .int .i64 d] W fun e w' => ∃ g c cur, e = .returned (.slice (some ⟨g, 0, none⟩) (pt t d).length c) ∧ W.heap.size ≤ g ∧ Nums w' g cur (pt t d) ∧ (pt t d).length ≤ c ∧ Below W.heap.size W w' := by
  subst hA
  have hl := len_pos ok h1
  obtain ⟨k, h⟩ := (refparts_ev ok d h1 h2).rounds
  refine (pendulumref14_Parts.calls k _ _ _ _ _ _ _ _ _ _ _ _ _ W h).mono ?_
  rintro e w' ⟨v, rfl, hv, hb⟩
  obtain ⟨A, c, he, hlc, hC⟩ := Kd.R_reads hv
  obtain ⟨inner, ho⟩ := Kd.R_own hv
  rcases ho.2 with ⟨_, h0⟩ | ⟨g, cap, cur, hv', hg, hblk, _⟩
  · omega
  · rw [hv'] at he
    injection he with e1 e2 e3
    subst e1 e3
    refine ⟨g, cap, cur, by rw [hv'], hg, ⟨hblk, fun p hp => ?_⟩, hlc, hb⟩
    obtain ⟨ad, e4, hc⟩ := Kd.at_int hC (p : Int) (by omega) (by omega)
    injection e4 with e4
    subst e4
    rw [Go.WideShapes.add_plain, blk_cell hblk] at hc
    simpa using hc
end
/-- A part's ticks. -/
def lenv (t : S28) (d : Int) (p : Nat) : Int := if ¬ t.f9 = 1 ∧ (p : Int) = 1 then t.f4 + t.f6 else rd (pt t d) p
set_option maxRecDepth 100000 in
set_option maxHeartbeats 6000000 in
theorem length_alt (w : World) (t : S28) (d : Int) (s : St) (R : Array Value) (eR : R = RA t d s) (ok : OkT t) (h1 : 1 ≤ d) (h2 : d ≤ t.f3) (h9 : ¬ t.f9 = 1) (hp : (s.p : Int) = 1) : Calls Try.prog 12 #[.agg R] w fun e w' => e = .returned (.int .i64 (t.f4 + t.f6)) ∧ Below w.heap.size w w' := by
  have zR : Hid (R.size = 16) := Lib.hid (by rw [eR]; exact RA_size _ _ _)
  replace eR := Lib.hid eR
  have hn := ok.nums
  have hal := ok.alt h9
  have h9b : (t.f9 != 1) = true := by simpa using h9
  have hpb : ((s.p : Int) == 1) = true := by simpa using hp
  have hb1 : 0 ≤ t.f4 := by omega
  have hb2 : t.f4 ≤ 1048576 := by omega
  have hb3 : 0 ≤ t.f6 := by omega
  have hb4 : t.f6 ≤ 1000 := by omega
  replace ok := Lib.hid ok
  clear hn hal h9 hp
  obtain ⟨B0, hB0⟩ : ∃ B, w.heap.size = B := ⟨_, rfl⟩
  rw [hB0]
  obtain ⟨V1, hV1⟩ : ∃ V, w.alloc (.cells R 30) = V := ⟨_, rfl⟩
  have Hr : Hid (V1.heap[B0]? = some (.cells R 30 (0, 0))) := Lib.hid (by rw [← hV1]; exact (box_new hB0).1)
  have HE : Hid (Below B0 w V1) := Lib.hid (by rw [← hV1, ← hB0]; exact (Below.refl _ _).alloc (Nat.le_refl _) _)
  go_enter Try.func12, Try.ntmps12
  go_upto_region 1 with (fail)
  replace hB0 := Lib.hid hB0
  replace hV1 := Lib.hid hV1
  have c_1 : V1.cell? ⟨B0, 9, none⟩ = some (.int .i64 t.f9) := by rw [blk_cell Hr.out, eR.out]; simp [RA, TA]
  have c_2 : V1.cell? ⟨B0, 12, none⟩ = some (.int .i64 (s.p : Int)) := by rw [blk_cell Hr.out, eR.out]; simp [RA, TA]
  have c_3 : V1.cell? ⟨B0, 4, none⟩ = some (.int .i64 t.f4) := by rw [blk_cell Hr.out, eR.out]; simp [RA, TA]
  have c_4 : V1.cell? ⟨B0, 6, none⟩ = some (.int .i64 t.f6) := by rw [blk_cell Hr.out, eR.out]; simp [RA, TA]
  go_wp2
  go_ret
  exact ⟨rfl, HE.out⟩
set_option maxRecDepth 100000 in
set_option maxHeartbeats 6000000 in
theorem length_one (w : World) (t : S28) (d : Int) (s : St) (R : Array Value) (eR : R = RA t d s) (ok : OkT t) (h1 : 1 ≤ d) (h2 : d ≤ t.f3) (h9 : t.f9 = 1) (hpl : s.p < (pt t d).length) : Calls Try.prog 12 #[.agg R] w fun e w' => e = .returned (.int .i64 (rd (pt t d) (s.p : Nat))) ∧ Below w.heap.size w w' := by
  have zR : Hid (R.size = 16) := Lib.hid (by rw [eR]; exact RA_size _ _ _)
  replace eR := Lib.hid eR
  have h9b : (t.f9 != 1) = false := by simpa using h9
  clear h9
  obtain ⟨x, hx⟩ : ∃ x, x = rd (pt t d) (s.p : Nat) := ⟨_, rfl⟩
  rw [← hx]
  replace hx := Lib.hid hx
  have PC := Lib.hid (fun W A hA => refparts_c ok h1 h2 W A hA)
  have hll := len_pos ok h1
  obtain ⟨len, hlen⟩ : ∃ n, n = (pt t d).length := ⟨_, rfl⟩
  rw [← hlen] at hpl hll
  have hplI : (s.p : Int) < (len : Int) := by omega
  replace hlen := Lib.hid hlen
  replace ok := Lib.hid ok
  obtain ⟨B0, hB0⟩ : ∃ B, w.heap.size = B := ⟨_, rfl⟩
  rw [hB0]
  obtain ⟨V1, hV1⟩ : ∃ V, w.alloc (.cells R 30) = V := ⟨_, rfl⟩
  have Hr : Hid (V1.heap[B0]? = some (.cells R 30 (0, 0))) := Lib.hid (by rw [← hV1]; exact (box_new hB0).1)
  have HE : Hid (Below B0 w V1) := Lib.hid (by rw [← hV1, ← hB0]; exact (Below.refl _ _).alloc (Nat.le_refl _) _)
  go_enter Try.func12, Try.ntmps12
  go_upto_region 1 with (fail)
  replace hB0 := Lib.hid hB0
  replace hV1 := Lib.hid hV1
  have c_5 : V1.cell? ⟨B0, 9, none⟩ = some (.int .i64 t.f9) := by rw [blk_cell Hr.out, eR.out]; simp [RA, TA]
  go_upto_region 3 with (fail)
  clear c_5
  refine start_ (n := 10) (S := fun w' => w'.heap[B0]? = some (.cells R 30 (0, 0)) ∧ w'.cell? ⟨B0, 11, none⟩ = some (.int .i64 d) ∧ w'.cell? ⟨B0, 12, none⟩ = some (.int .i64 (s.p : Int))) (ds := []) #[false, false, false, false, false, false, false, false, false, false] (by kernel_rfl) rfl rfl ⟨Hr.out, (blk_cell (Hr.out) 11).trans (by rw [eR.out]; simp [RA, TA]), (blk_cell (Hr.out) 12).trans (by rw [eR.out]; simp [RA, TA])⟩ (fun hHeld => ?_)
  refine pure_ (i := 0) (N := (some 19)) (v := ?_) (a' := ?_) #[true, false, false, false, false, false, false, false, false, false] rfl rfl (by kernel_rfl) (fun _ _ _ h => h) (Or.inl ⟨by rfl, ?_⟩) ?_ ?_
  rotate_left
  · intro w'
    go_simp
    with_reducible rfl
  rotate_left
  · simp only [Act.put, List.setIfInBounds_toArray, List.set_cons_zero, List.set_cons_succ, i64_w, i32_w]
    rfl
  refine take_ (i := 1) (N := (some 20)) (v := .agg (TA t)) (a' := ?_) #[true, true, false, false, false, false, false, false, false, false] rfl rfl (by kernel_rfl) (fun _ _ _ h => h) (Or.inl ⟨by rfl, ?_⟩) hHeld ?_ ?_
  · rintro w' ⟨s0, s1, s2⟩
    exact ld_row 28 _ rfl B0 0 rfl (row_of s0 eR.out) Try.underlying28 rfl (by kernel_rfl) rfl
  rotate_left
  · simp only [Act.put, List.setIfInBounds_toArray, List.set_cons_zero, List.set_cons_succ, i64_w, i32_w]
    rfl
  refine pure_ (i := 2) (N := (some 21)) (v := ?_) (a' := ?_) #[true, true, true, false, false, false, false, false, false, false] rfl rfl (by kernel_rfl) (fun _ _ _ h => h) (Or.inl ⟨by rfl, ?_⟩) ?_ ?_
  rotate_left
  · intro w'
    go_simp
    with_reducible rfl
  rotate_left
  · simp only [Act.put, List.setIfInBounds_toArray, List.set_cons_zero, List.set_cons_succ, i64_w, i32_w]
    rfl
  refine take_ (i := 3) (N := (some 22)) (v := ?_) (a' := ?_) #[true, true, true, true, false, false, false, false, false, false] rfl rfl (by kernel_rfl) (fun _ _ _ h => h) (Or.inl ⟨by rfl, ?_⟩) hHeld ?_ ?_
  rotate_left
  · rintro w' ⟨s0, s1, s2⟩
    go_simp
    with_reducible rfl
  rotate_left
  · simp only [Act.put, List.setIfInBounds_toArray, List.set_cons_zero, List.set_cons_succ, i64_w, i32_w]
    rfl
  refine pure_ (i := 5) (N := (some 24)) (v := ?_) (a' := ?_) #[true, true, true, true, false, true, false, false, false, false] rfl rfl (by kernel_rfl) (fun _ _ _ h => h) (Or.inl ⟨by rfl, ?_⟩) ?_ ?_
  rotate_left
  · intro w'
    go_simp
    with_reducible rfl
  rotate_left
  · simp only [Act.put, List.setIfInBounds_toArray, List.set_cons_zero, List.set_cons_succ, i64_w, i32_w]
    rfl
  refine take_ (i := 6) (N := (some 25)) (v := ?_) (a' := ?_) #[true, true, true, true, false, true, true, false, false, false] rfl rfl (by kernel_rfl) (fun _ _ _ h => h) (Or.inl ⟨by rfl, ?_⟩) hHeld ?_ ?_
  rotate_left
  · rintro w' ⟨s0, s1, s2⟩
    go_simp
    with_reducible rfl
  rotate_left
  · simp only [Act.put, List.setIfInBounds_toArray, List.set_cons_zero, List.set_cons_succ, i64_w, i32_w]
    rfl
  refine one_ (i := 4) (N := (some 23)) #[true, true, true, true, true, true, true, false, false, false] rfl rfl (by kernel_rfl) (by decide) (fun K hK => ?_)
  refine goes_ Try.func22 (by kernel_rfl) rfl #[.agg (TA t), .int .i64 d] (by rfl) rfl rfl (by (try simp only [List.map_toArray, List.map_cons, List.map_nil]); first | done | rfl) ?_
  refine (PC.out _ _ rfl).mono ?_
  rintro e V4 ⟨g, cp, cur, rfl, hgr, hrow, hcp, hb4⟩
  have Hr4 := Lib.hid ((hb4.block B0 (blk_lt Hr.out)).trans Hr.out)
  have HE4 := Lib.hid ((HE.out.drew).trans (hb4.mono (sz_le hB0.out HE.out.size)))
  have cq : V4.cell? ⟨g, s.p, none⟩ = some (.int .i64 x) := by rw [blk_cell hrow.1, hx.out]; exact hrow.2 s.p (by rw [← hlen.out]; exact hpl)
  clear hrow hgr
  rw [← hlen.out] at hcp ⊢
  refine ⟨_, rfl, ?_⟩
  refine hK.out _ _ ⟨Hr4.out, (blk_cell (Hr4.out) 11).trans (by rw [eR.out]; simp [RA, TA]), (blk_cell (Hr4.out) 12).trans (by rw [eR.out]; simp [RA, TA])⟩ (fun hHeld => ?_)
  clear hb4 Hr HE
  clear hK K
  refine norm_ (a' := ?_) ?_ ?_
  rotate_left
  · show Act.put _ (some 23) _ = _
    simp only [Act.put, List.setIfInBounds_toArray, List.set_cons_zero, List.set_cons_succ, i64_w, i32_w]
    rfl
  refine pure_ (i := 7) (N := (some 26)) (v := ?_) (a' := ?_) #[true, true, true, true, true, true, true, true, false, false] rfl rfl (by kernel_rfl) (fun _ _ _ h => h) (Or.inl ⟨by rfl, ?_⟩) ?_ ?_
  rotate_left
  · intro w'
    go_simp
    with_reducible rfl
  rotate_left
  · simp only [Act.put, List.setIfInBounds_toArray, List.set_cons_zero, List.set_cons_succ, i64_w, i32_w]
    rfl
  refine one_ (i := 8) (N := (some 27)) #[true, true, true, true, true, true, true, true, true, false] rfl rfl (by kernel_rfl) (by decide) (fun K hK => ?_)
  refine value_ (v := .int .i64 x) (w1 := V4) rfl rfl (by go_simp) ?_
  refine hK.out _ _ ⟨Hr4.out, (blk_cell (Hr4.out) 11).trans (by rw [eR.out]; simp [RA, TA]), (blk_cell (Hr4.out) 12).trans (by rw [eR.out]; simp [RA, TA])⟩ (fun hHeld => ?_)
  clear hK K
  refine norm_ (a' := ?_) ?_ ?_
  rotate_left
  · show Act.put _ (some 27) _ = _
    simp only [Act.put, List.setIfInBounds_toArray, List.set_cons_zero, List.set_cons_succ, i64_w, i32_w]
    rfl
  refine pure_ (i := 9) (N := (some 2)) (v := ?_) (a' := ?_) #[true, true, true, true, true, true, true, true, true, true] rfl rfl (by kernel_rfl) (fun _ _ _ h => h) (Or.inl ⟨by rfl, ?_⟩) ?_ ?_
  rotate_left
  · intro w'
    go_simp
    with_reducible rfl
  rotate_left
  · simp only [Act.put, List.setIfInBounds_toArray, List.set_cons_zero, List.set_cons_succ, i64_w, i32_w]
    rfl
  refine done_ (by kernel_rfl) ?_
  go_wp2
  go_ret
  exact ⟨rfl, by first | exact HE4.out | exact HE4.out.drew | exact pw_below_drewN HE4.out _⟩
set_option maxRecDepth 100000 in
set_option maxHeartbeats 6000000 in
theorem length_other (w : World) (t : S28) (d : Int) (s : St) (R : Array Value) (eR : R = RA t d s) (ok : OkT t) (h1 : 1 ≤ d) (h2 : d ≤ t.f3) (h9 : ¬ t.f9 = 1) (hp : ¬ (s.p : Int) = 1) (hpl : s.p < (pt t d).length) : Calls Try.prog 12 #[.agg R] w fun e w' => e = .returned (.int .i64 (rd (pt t d) (s.p : Nat))) ∧ Below w.heap.size w w' := by
  have zR : Hid (R.size = 16) := Lib.hid (by rw [eR]; exact RA_size _ _ _)
  replace eR := Lib.hid eR
  have h9b : (t.f9 != 1) = true := by simpa using h9
  have hpb : ((s.p : Int) == 1) = false := by simpa using hp
  clear h9 hp
  obtain ⟨x, hx⟩ : ∃ x, x = rd (pt t d) (s.p : Nat) := ⟨_, rfl⟩
  rw [← hx]
  replace hx := Lib.hid hx
  have PC := Lib.hid (fun W A hA => refparts_c ok h1 h2 W A hA)
  have hll := len_pos ok h1
  obtain ⟨len, hlen⟩ : ∃ n, n = (pt t d).length := ⟨_, rfl⟩
  rw [← hlen] at hpl hll
  have hplI : (s.p : Int) < (len : Int) := by omega
  replace hlen := Lib.hid hlen
  replace ok := Lib.hid ok
  obtain ⟨B0, hB0⟩ : ∃ B, w.heap.size = B := ⟨_, rfl⟩
  rw [hB0]
  obtain ⟨V1, hV1⟩ : ∃ V, w.alloc (.cells R 30) = V := ⟨_, rfl⟩
  have Hr : Hid (V1.heap[B0]? = some (.cells R 30 (0, 0))) := Lib.hid (by rw [← hV1]; exact (box_new hB0).1)
  have HE : Hid (Below B0 w V1) := Lib.hid (by rw [← hV1, ← hB0]; exact (Below.refl _ _).alloc (Nat.le_refl _) _)
  go_enter Try.func12, Try.ntmps12
  go_upto_region 1 with (fail)
  replace hB0 := Lib.hid hB0
  replace hV1 := Lib.hid hV1
  have c_6 : V1.cell? ⟨B0, 9, none⟩ = some (.int .i64 t.f9) := by rw [blk_cell Hr.out, eR.out]; simp [RA, TA]
  have c_7 : V1.cell? ⟨B0, 12, none⟩ = some (.int .i64 (s.p : Int)) := by rw [blk_cell Hr.out, eR.out]; simp [RA, TA]
  go_upto_region 3 with (fail)
  clear c_6 c_7
  refine start_ (n := 10) (S := fun w' => w'.heap[B0]? = some (.cells R 30 (0, 0)) ∧ w'.cell? ⟨B0, 11, none⟩ = some (.int .i64 d) ∧ w'.cell? ⟨B0, 12, none⟩ = some (.int .i64 (s.p : Int))) (ds := []) #[false, false, false, false, false, false, false, false, false, false] (by kernel_rfl) rfl rfl ⟨Hr.out, (blk_cell (Hr.out) 11).trans (by rw [eR.out]; simp [RA, TA]), (blk_cell (Hr.out) 12).trans (by rw [eR.out]; simp [RA, TA])⟩ (fun hHeld => ?_)
  refine pure_ (i := 0) (N := (some 19)) (v := ?_) (a' := ?_) #[true, false, false, false, false, false, false, false, false, false] rfl rfl (by kernel_rfl) (fun _ _ _ h => h) (Or.inl ⟨by rfl, ?_⟩) ?_ ?_
  rotate_left
  · intro w'
    go_simp
    with_reducible rfl
  rotate_left
  · simp only [Act.put, List.setIfInBounds_toArray, List.set_cons_zero, List.set_cons_succ, i64_w, i32_w]
    rfl
  refine take_ (i := 1) (N := (some 20)) (v := .agg (TA t)) (a' := ?_) #[true, true, false, false, false, false, false, false, false, false] rfl rfl (by kernel_rfl) (fun _ _ _ h => h) (Or.inl ⟨by rfl, ?_⟩) hHeld ?_ ?_
  · rintro w' ⟨s0, s1, s2⟩
    exact ld_row 28 _ rfl B0 0 rfl (row_of s0 eR.out) Try.underlying28 rfl (by kernel_rfl) rfl
  rotate_left
  · simp only [Act.put, List.setIfInBounds_toArray, List.set_cons_zero, List.set_cons_succ, i64_w, i32_w]
    rfl
  refine pure_ (i := 2) (N := (some 21)) (v := ?_) (a' := ?_) #[true, true, true, false, false, false, false, false, false, false] rfl rfl (by kernel_rfl) (fun _ _ _ h => h) (Or.inl ⟨by rfl, ?_⟩) ?_ ?_
  rotate_left
  · intro w'
    go_simp
    with_reducible rfl
  rotate_left
  · simp only [Act.put, List.setIfInBounds_toArray, List.set_cons_zero, List.set_cons_succ, i64_w, i32_w]
    rfl
  refine take_ (i := 3) (N := (some 22)) (v := ?_) (a' := ?_) #[true, true, true, true, false, false, false, false, false, false] rfl rfl (by kernel_rfl) (fun _ _ _ h => h) (Or.inl ⟨by rfl, ?_⟩) hHeld ?_ ?_
  rotate_left
  · rintro w' ⟨s0, s1, s2⟩
    go_simp
    with_reducible rfl
  rotate_left
  · simp only [Act.put, List.setIfInBounds_toArray, List.set_cons_zero, List.set_cons_succ, i64_w, i32_w]
    rfl
  refine pure_ (i := 5) (N := (some 24)) (v := ?_) (a' := ?_) #[true, true, true, true, false, true, false, false, false, false] rfl rfl (by kernel_rfl) (fun _ _ _ h => h) (Or.inl ⟨by rfl, ?_⟩) ?_ ?_
  rotate_left
  · intro w'
    go_simp
    with_reducible rfl
  rotate_left
  · simp only [Act.put, List.setIfInBounds_toArray, List.set_cons_zero, List.set_cons_succ, i64_w, i32_w]
    rfl
  refine take_ (i := 6) (N := (some 25)) (v := ?_) (a' := ?_) #[true, true, true, true, false, true, true, false, false, false] rfl rfl (by kernel_rfl) (fun _ _ _ h => h) (Or.inl ⟨by rfl, ?_⟩) hHeld ?_ ?_
  rotate_left
  · rintro w' ⟨s0, s1, s2⟩
    go_simp
    with_reducible rfl
  rotate_left
  · simp only [Act.put, List.setIfInBounds_toArray, List.set_cons_zero, List.set_cons_succ, i64_w, i32_w]
    rfl
  refine one_ (i := 4) (N := (some 23)) #[true, true, true, true, true, true, true, false, false, false] rfl rfl (by kernel_rfl) (by decide) (fun K hK => ?_)
  refine goes_ Try.func22 (by kernel_rfl) rfl #[.agg (TA t), .int .i64 d] (by rfl) rfl rfl (by (try simp only [List.map_toArray, List.map_cons, List.map_nil]); first | done | rfl) ?_
  refine (PC.out _ _ rfl).mono ?_
  rintro e V4 ⟨g, cp, cur, rfl, hgr, hrow, hcp, hb4⟩
  have Hr4 := Lib.hid ((hb4.block B0 (blk_lt Hr.out)).trans Hr.out)
  have HE4 := Lib.hid ((HE.out.drew).trans (hb4.mono (sz_le hB0.out HE.out.size)))
  have cq : V4.cell? ⟨g, s.p, none⟩ = some (.int .i64 x) := by rw [blk_cell hrow.1, hx.out]; exact hrow.2 s.p (by rw [← hlen.out]; exact hpl)
  clear hrow hgr
  rw [← hlen.out] at hcp ⊢
  refine ⟨_, rfl, ?_⟩
  refine hK.out _ _ ⟨Hr4.out, (blk_cell (Hr4.out) 11).trans (by rw [eR.out]; simp [RA, TA]), (blk_cell (Hr4.out) 12).trans (by rw [eR.out]; simp [RA, TA])⟩ (fun hHeld => ?_)
  clear hb4 Hr HE
  clear hK K
  refine norm_ (a' := ?_) ?_ ?_
  rotate_left
  · show Act.put _ (some 23) _ = _
    simp only [Act.put, List.setIfInBounds_toArray, List.set_cons_zero, List.set_cons_succ, i64_w, i32_w]
    rfl
  refine pure_ (i := 7) (N := (some 26)) (v := ?_) (a' := ?_) #[true, true, true, true, true, true, true, true, false, false] rfl rfl (by kernel_rfl) (fun _ _ _ h => h) (Or.inl ⟨by rfl, ?_⟩) ?_ ?_
  rotate_left
  · intro w'
    go_simp
    with_reducible rfl
  rotate_left
  · simp only [Act.put, List.setIfInBounds_toArray, List.set_cons_zero, List.set_cons_succ, i64_w, i32_w]
    rfl
  refine one_ (i := 8) (N := (some 27)) #[true, true, true, true, true, true, true, true, true, false] rfl rfl (by kernel_rfl) (by decide) (fun K hK => ?_)
  refine value_ (v := .int .i64 x) (w1 := V4) rfl rfl (by go_simp) ?_
  refine hK.out _ _ ⟨Hr4.out, (blk_cell (Hr4.out) 11).trans (by rw [eR.out]; simp [RA, TA]), (blk_cell (Hr4.out) 12).trans (by rw [eR.out]; simp [RA, TA])⟩ (fun hHeld => ?_)
  clear hK K
  refine norm_ (a' := ?_) ?_ ?_
  rotate_left
  · show Act.put _ (some 27) _ = _
    simp only [Act.put, List.setIfInBounds_toArray, List.set_cons_zero, List.set_cons_succ, i64_w, i32_w]
    rfl
  refine pure_ (i := 9) (N := (some 2)) (v := ?_) (a' := ?_) #[true, true, true, true, true, true, true, true, true, true] rfl rfl (by kernel_rfl) (fun _ _ _ h => h) (Or.inl ⟨by rfl, ?_⟩) ?_ ?_
  rotate_left
  · intro w'
    go_simp
    with_reducible rfl
  rotate_left
  · simp only [Act.put, List.setIfInBounds_toArray, List.set_cons_zero, List.set_cons_succ, i64_w, i32_w]
    rfl
  refine done_ (by kernel_rfl) ?_
  go_wp2
  go_ret
  exact ⟨rfl, by first | exact HE4.out | exact HE4.out.drew | exact pw_below_drewN HE4.out _⟩
theorem length_c (w : World) (t : S28) (d : Int) (s : St) (R : Array Value) (eR : R = RA t d s) (ok : OkT t) (h1 : 1 ≤ d) (h2 : d ≤ t.f3) (hp : (¬ t.f9 = 1 ∧ (s.p : Int) = 1) ∨ s.p < (pt t d).length) (x : Int) (hx : x = lenv t d s.p) : Calls Try.prog 12 #[.agg R] w fun e w' => e = .returned (.int .i64 x) ∧ Below w.heap.size w w' := by
  subst hx
  unfold lenv
  by_cases c : ¬ t.f9 = 1 ∧ (s.p : Int) = 1
  · rw [if_pos c]; exact length_alt w t d s R eR ok h1 h2 c.1 c.2
  · rw [if_neg c]
    have hp := hp.resolve_left c
    by_cases h9 : t.f9 = 1
    · exact length_one w t d s R eR ok h1 h2 h9 hp
    · exact length_other w t d s R eR ok h1 h2 h9 (fun h => c ⟨h9, h⟩) hp
end Go.Proofs.Ytpjehbcchanmhaa.PS
