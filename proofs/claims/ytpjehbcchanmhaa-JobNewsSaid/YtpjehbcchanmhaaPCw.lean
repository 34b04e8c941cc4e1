/- Seat 22's awake: what it computes. -/
import Derived.Test.YtpjehbcchanmhaaPCs
import Derived.Test.YtpjehbcchanmhaaPCu
import Derived.Test.YtpjehbcchanmhaaJs
import Derived.Test.YtpjehbcchanmhaaNw
import Derived.Test.YtpjehbcchanmhaaKy
import Derived.Test.YtpjehbcchanmhaaBd
import Derived.Lib.Hide
import Derived.Laws.CopyOwn
import Derived.Laws.Tables
import Derived.Laws.StructEq
import Derived.Deep.MidRow
namespace Go.Proofs.Ytpjehbcchanmhaa.PC
open Go.RowKit Go.Proofs.YtpjehbcchanmhaaW.PrintWords Go.Proofs.YtpjehbcchanmhaaW.PrintLast Go.Proofs.YtpjehbcchanmhaaW.PrintMore
set_option linter.unusedVariables false
set_option linter.unusedSimpArgs false
theorem task_C {w : World} {g : Nat} {A : Array Value} (h : w.heap[g]? = some (.cells A 28 (0, 0))) (x : S28) (hA : A = #[.string x.f0, .int .i64 x.f1, .int .i64 x.f2, .int .i64 x.f3, .int .i64 x.f4, .int .i64 x.f5, .int .i64 x.f6, .int .i64 x.f7, .int .i64 x.f8, .int .i64 x.f9, .int .i64 x.f10]) : Kd.C k28 w (some ⟨g, 0, none⟩) 1 [x] := by
  refine ⟨rfl, by omega, fun _ => ⟨_, rfl, fun j p hj => ?_⟩⟩
  cases j with
  | succ j => simp at hj
  | zero =>
    obtain rfl := Option.some.inj hj
    refine ⟨_, rfl, k28_mk w x, fun i u hu => ?_⟩
    rw [Go.WideShapes.add_plain, blk_cell h, hA]
    simpa using hu
theorem aw_row {W : World} {g : Nat} {T : Array Value} (hT : W.heap[g]? = some (.cells T 28 (0, 0))) : ∀ j v, T.toList[j]? = some v → W.cell? (((⟨g, 0, none⟩ : Addr).add ((0 : Int).toNat * 11)).add j) = some v := fun j v hv => by
  rw [Go.WideShapes.add_plain, Go.WideShapes.add_plain, show 0 + (0 : Int).toNat * 11 + j = j by simp, blk_cell hT]
  simpa using hv
theorem aw_new (W : World) (g : Nat) (S J T : Array Value) (eS : S = #[.int .i64 1, .slice (some ⟨g, 0, none⟩) 1 1]) (eJ : J = #[.int .i64 0, .int .i64 4, .int .i64 10, .int .i64 18, .bool true, .bool true, .bool false, .string ⟨#[97]⟩, .int .i64 20, .int .i64 8, .int .i64 3, .int .i64 2, .int .i64 0, .int .i64 0, .int .i64 1, .int .i64 1, .int .i64 3, .int .i64 1, .int .i64 3, .int .i64 0, .int .i64 3, .bool false, .int .i64 0]) (eT : T = #[.string ⟨#[97]⟩, .int .i64 20, .int .i64 8, .int .i64 3, .int .i64 2, .int .i64 0, .int .i64 0, .int .i64 1, .int .i64 1, .int .i64 3, .int .i64 1]) (hT : W.heap[g]? = some (.cells T 28 (0, 0))) : Calls Try.prog 11 #[.agg S, .int .i64 0, .int .i64 4, .int .i64 10, .int .i64 5, .bool true] W fun e w' => e = .returned (.tuple #[.agg J, .int .i64 0]) ∧ Below W.heap.size W w' := by
  subst eS eJ
  refine (new_ok W 1 ⟨g, 0, none⟩ 1 1 0 4 10 5 true (by decide) (by decide) (by decide) (by decide) (by decide) T (#[.string ⟨#[97]⟩, .int .i64 20, .int .i64 8, .int .i64 3, .int .i64 2, .int .i64 0, .int .i64 0, .int .i64 1, .int .i64 1, .int .i64 3, .int .i64 1, .int .i64 3, .int .i64 0, .int .i64 3, .bool false, .int .i64 0] : Array Value) 8 3 true (aw_row hT) (by rw [eT]; rfl) (by rw [eT]; simp [Value.oneCell']) (by rw [eT]; rfl) rfl (by simp [Value.oneCell']) (fun W => ?_) (fun W => ?_)).mono ?_
  · rw [eT]; exact demand_Cut.calls ⟨#[97]⟩ 20 8 3 2 0 0 1 1 3 1 5 3 true W (by kernel_rfl)
  · rw [eT]; exact recover_Begin.calls 40 ⟨#[97]⟩ 20 8 3 2 0 0 1 1 3 1 3 ⟨#[97]⟩ 20 8 3 2 0 0 1 1 3 1 3 0 3 false 0 0 W (by kernel_rfl)
  · rintro e w' ⟨rfl, hb⟩; exact ⟨by kernel_rfl, hb⟩
theorem aw_new2 (W : World) (g : Nat) (S J T : Array Value) (eS : S = #[.int .i64 1, .slice (some ⟨g, 0, none⟩) 1 1]) (eJ : J = #[.int .i64 0, .int .i64 0, .int .i64 0, .int .i64 0, .bool false, .bool false, .bool false, .string ⟨#[]⟩, .int .i64 0, .int .i64 0, .int .i64 0, .int .i64 0, .int .i64 0, .int .i64 0, .int .i64 0, .int .i64 0, .int .i64 0, .int .i64 0, .int .i64 0, .int .i64 0, .int .i64 0, .bool false, .int .i64 0]) (eT : T = #[.string ⟨#[97]⟩, .int .i64 20, .int .i64 8, .int .i64 3, .int .i64 2, .int .i64 0, .int .i64 0, .int .i64 1, .int .i64 1, .int .i64 3, .int .i64 1]) (hT : W.heap[g]? = some (.cells T 28 (0, 0))) : Calls Try.prog 11 #[.agg S, .int .i64 1, .int .i64 0, .int .i64 0, .int .i64 1, .bool true] W fun e w' => e = .returned (.tuple #[.agg J, .int .i64 1]) ∧ Below W.heap.size W w' := by
  subst eS eJ
  exact new_bad1 W 1 ⟨g, 0, none⟩ 1 1 1 0 0 1 true (by decide) (by decide)
theorem aw_band (W : World) (J : Array Value) (eJ : J = #[.int .i64 0, .int .i64 4, .int .i64 10, .int .i64 18, .bool true, .bool true, .bool false, .string ⟨#[97]⟩, .int .i64 20, .int .i64 8, .int .i64 3, .int .i64 2, .int .i64 0, .int .i64 0, .int .i64 1, .int .i64 1, .int .i64 3, .int .i64 1, .int .i64 3, .int .i64 0, .int .i64 3, .bool false, .int .i64 0]) : Calls Try.prog 18 #[.agg J] W fun e w' => e = .returned (.int .i64 1) ∧ Below W.heap.size W w' := by
  subst eJ
  exact band_must W (#[.int .i64 0, .int .i64 4, .int .i64 10, .int .i64 18, .bool true, .bool true, .bool false] : Array Value) (#[.string ⟨#[97]⟩, .int .i64 20, .int .i64 8, .int .i64 3, .int .i64 2, .int .i64 0, .int .i64 0, .int .i64 1, .int .i64 1, .int .i64 3, .int .i64 1, .int .i64 3, .int .i64 0, .int .i64 3, .bool false, .int .i64 0] : Array Value) rfl rfl rfl (fun W => recover_Urgent.calls ⟨#[97]⟩ 20 8 3 2 0 0 1 1 3 1 3 0 3 false 0 false W (by kernel_rfl))
theorem aw_key (W : World) (J K : Array Value) (eJ : J = #[.int .i64 0, .int .i64 4, .int .i64 10, .int .i64 18, .bool true, .bool true, .bool false, .string ⟨#[97]⟩, .int .i64 20, .int .i64 8, .int .i64 3, .int .i64 2, .int .i64 0, .int .i64 0, .int .i64 1, .int .i64 1, .int .i64 3, .int .i64 1, .int .i64 3, .int .i64 0, .int .i64 3, .bool false, .int .i64 0]) (eK : K = #[.int .i64 1, .int .i64 1, .int .i64 10, .int .i64 0]) : Calls Try.prog 13 #[.agg J] W fun e w' => e = .returned (.agg K) ∧ Below W.heap.size W w' := by
  subst eK
  exact key_c W J 1 1 10 0 (by rw [eJ]; rfl) (by rw [eJ]; rfl) (by rw [eJ]; rfl) (by rw [eJ]; rfl) (fun W => aw_band W J eJ)
theorem aw_step (W : World) (J K : Array Value) (eJ : J = #[.int .i64 0, .int .i64 4, .int .i64 10, .int .i64 18, .bool true, .bool true, .bool false, .string ⟨#[97]⟩, .int .i64 20, .int .i64 8, .int .i64 3, .int .i64 2, .int .i64 0, .int .i64 0, .int .i64 1, .int .i64 1, .int .i64 3, .int .i64 1, .int .i64 3, .int .i64 0, .int .i64 3, .bool false, .int .i64 0]) (eK : K = #[.int .i64 0, .int .i64 4, .int .i64 10, .int .i64 18, .bool true, .bool true, .bool true, .string ⟨#[97]⟩, .int .i64 20, .int .i64 8, .int .i64 3, .int .i64 2, .int .i64 0, .int .i64 0, .int .i64 1, .int .i64 1, .int .i64 3, .int .i64 1, .int .i64 3, .int .i64 0, .int .i64 2, .bool true, .int .i64 0]) : Calls Try.prog 16 #[.agg J, .bool true] W fun e w' => e = .returned (.tuple #[.agg K, .int .i64 0]) ∧ Below W.heap.size W w' := by
  subst eJ eK
  exact js_runs W 0 4 10 18 true true false true (#[.string ⟨#[97]⟩, .int .i64 20, .int .i64 8, .int .i64 3, .int .i64 2, .int .i64 0, .int .i64 0, .int .i64 1, .int .i64 1, .int .i64 3, .int .i64 1, .int .i64 3, .int .i64 0, .int .i64 3, .bool false, .int .i64 0] : Array Value) (#[.string ⟨#[97]⟩, .int .i64 20, .int .i64 8, .int .i64 3, .int .i64 2, .int .i64 0, .int .i64 0, .int .i64 1, .int .i64 1, .int .i64 3, .int .i64 1, .int .i64 3, .int .i64 0, .int .i64 2, .bool true, .int .i64 0] : Array Value) rfl rfl (by simp [Value.oneCell']) 0 (fun W => recover_Step.calls 40 ⟨#[97]⟩ 20 8 3 2 0 0 1 1 3 1 3 0 3 false 0 true ⟨#[97]⟩ 20 8 3 2 0 0 1 1 3 1 3 0 2 true 0 0 W (by kernel_rfl)) trivial (by decide) (by decide) (by decide)
theorem aw_late1 (W : World) (J : Array Value) (eJ : J = #[.int .i64 0, .int .i64 4, .int .i64 10, .int .i64 18, .bool true, .bool true, .bool false, .string ⟨#[97]⟩, .int .i64 20, .int .i64 8, .int .i64 3, .int .i64 2, .int .i64 0, .int .i64 0, .int .i64 1, .int .i64 1, .int .i64 3, .int .i64 1, .int .i64 3, .int .i64 0, .int .i64 3, .bool false, .int .i64 0]) : Calls Try.prog 14 #[.agg J, .int .i64 18] W fun e w' => e = .returned (.bool true) ∧ Below W.heap.size W w' := by
  exact late_c W J 18 18 (by rw [eJ]; rfl)
theorem aw_late2 (W : World) (J : Array Value) (eJ : J = #[.int .i64 0, .int .i64 4, .int .i64 10, .int .i64 18, .bool true, .bool true, .bool false, .string ⟨#[97]⟩, .int .i64 20, .int .i64 8, .int .i64 3, .int .i64 2, .int .i64 0, .int .i64 0, .int .i64 1, .int .i64 1, .int .i64 3, .int .i64 1, .int .i64 3, .int .i64 0, .int .i64 3, .bool false, .int .i64 0]) : Calls Try.prog 14 #[.agg J, .int .i64 17] W fun e w' => e = .returned (.bool false) ∧ Below W.heap.size W w' := by
  exact late_c W J 18 17 (by rw [eJ]; rfl)
theorem key_eq (W : World) (K : Array Value) (eK : K = #[.int .i64 1, .int .i64 1, .int .i64 10, .int .i64 0]) : (binOp .eql 38 (.agg K) (.agg #[.int .i64 1, .int .i64 1, .int .i64 10, .int .i64 0])).run Try.prog W = .ok (.bool true) W := by
  subst eK
  have hi : ∀ (a : Int) (W : World), (Op.equalIn 9999 3 (.int .i64 a) (.int .i64 a)).run Try.prog W = .ok true W := fun a W => by
    rw [run_equalIn_int (k' := .i64) (d := 9998) (h := Try.underlying3)]; simp
  rw [run_eql_struct, run_equalIn_agg (d := 9999) (ht := by kernel_rfl) (hp := by kernel_rfl)]
  unfold Program.fieldsOf
  rw [Try.underlying38]
  simp [Op.eqFields, go_sem, hi]
theorem set_built (g : Nat) {L : List (Nat × Value)} (h : L = [(0, .int .i64 1), (1, .slice (some ⟨g, 0, none⟩) 1 1)]) {A : Array Value} (eA : A = #[.int .i64 1, .slice (some ⟨g, 0, none⟩) 1 1]) : Try.prog.built 24 L = some A := by
  subst h eA
  kernel_rfl
theorem key_built {L : List (Nat × Value)} (h : L = [(0, .int .i64 1), (1, .int .i64 1), (2, .int .i64 10)]) : Try.prog.built 38 L = some #[.int .i64 1, .int .i64 1, .int .i64 10, .int .i64 0] := by
  subst h
  kernel_rfl
set_option maxRecDepth 100000 in
set_option maxHeartbeats 4000000 in
theorem awake_walk (w : World) : Calls Try.prog 8 #[] w fun e w' => e = .returned (.bool true) ∧ Below w.heap.size w w' := by
  obtain ⟨Z, eZ⟩ : ∃ A : Array Value, A = #[.int .i64 0, .int .i64 0, .int .i64 0, .int .i64 0, .bool false, .bool false, .bool false, .string ⟨#[]⟩, .int .i64 0, .int .i64 0, .int .i64 0, .int .i64 0, .int .i64 0, .int .i64 0, .int .i64 0, .int .i64 0, .int .i64 0, .int .i64 0, .int .i64 0, .int .i64 0, .int .i64 0, .bool false, .int .i64 0] := ⟨_, rfl⟩
  have zZ : Hid (Z.size = 23) := Lib.hid (by rw [eZ]; rfl)
  have oZ : Hid (Z.all (·.oneCell') = true) := Lib.hid (by rw [eZ]; simp [Value.oneCell'])
  replace eZ := Lib.hid eZ
  obtain ⟨J0, eJ0⟩ : ∃ A : Array Value, A = #[.int .i64 0, .int .i64 4, .int .i64 10, .int .i64 18, .bool true, .bool true, .bool false, .string ⟨#[97]⟩, .int .i64 20, .int .i64 8, .int .i64 3, .int .i64 2, .int .i64 0, .int .i64 0, .int .i64 1, .int .i64 1, .int .i64 3, .int .i64 1, .int .i64 3, .int .i64 0, .int .i64 3, .bool false, .int .i64 0] := ⟨_, rfl⟩
  have zJ0 : Hid (J0.size = 23) := Lib.hid (by rw [eJ0]; rfl)
  have oJ0 : Hid (J0.all (·.oneCell') = true) := Lib.hid (by rw [eJ0]; simp [Value.oneCell'])
  replace eJ0 := Lib.hid eJ0
  obtain ⟨J1, eJ1⟩ : ∃ A : Array Value, A = #[.int .i64 0, .int .i64 4, .int .i64 10, .int .i64 18, .bool true, .bool true, .bool true, .string ⟨#[97]⟩, .int .i64 20, .int .i64 8, .int .i64 3, .int .i64 2, .int .i64 0, .int .i64 0, .int .i64 1, .int .i64 1, .int .i64 3, .int .i64 1, .int .i64 3, .int .i64 0, .int .i64 2, .bool true, .int .i64 0] := ⟨_, rfl⟩
  have zJ1 : Hid (J1.size = 23) := Lib.hid (by rw [eJ1]; rfl)
  have oJ1 : Hid (J1.all (·.oneCell') = true) := Lib.hid (by rw [eJ1]; simp [Value.oneCell'])
  replace eJ1 := Lib.hid eJ1
  obtain ⟨K, eK⟩ : ∃ A : Array Value, A = #[.int .i64 1, .int .i64 1, .int .i64 10, .int .i64 0] := ⟨_, rfl⟩
  have zK : Hid (K.size = 4) := Lib.hid (by rw [eK]; rfl)
  have oK : Hid (K.all (·.oneCell') = true) := Lib.hid (by rw [eK]; simp [Value.oneCell'])
  replace eK := Lib.hid eK
  obtain ⟨ZK, eZK⟩ : ∃ A : Array Value, A = #[.int .i64 0, .int .i64 0, .int .i64 0, .int .i64 0] := ⟨_, rfl⟩
  have zZK : Hid (ZK.size = 4) := Lib.hid (by rw [eZK]; rfl)
  have oZK : Hid (ZK.all (·.oneCell') = true) := Lib.hid (by rw [eZK]; simp [Value.oneCell'])
  replace eZK := Lib.hid eZK
  obtain ⟨TK, eTK⟩ : ∃ A : Array Value, A = #[.string ⟨#[97]⟩, .int .i64 20, .int .i64 8, .int .i64 3, .int .i64 2, .int .i64 0, .int .i64 0, .int .i64 1, .int .i64 1, .int .i64 3, .int .i64 1] := ⟨_, rfl⟩
  have zTK : Hid (TK.size = 11) := Lib.hid (by rw [eTK]; rfl)
  have oTK : Hid (TK.all (·.oneCell') = true) := Lib.hid (by rw [eTK]; simp [Value.oneCell'])
  replace eTK := Lib.hid eTK
  obtain ⟨ZS, eZS⟩ : ∃ A : Array Value, A = #[.int .i64 0, .slice none 0 0] := ⟨_, rfl⟩
  have zZS : Hid (ZS.size = 2) := Lib.hid (by rw [eZS]; rfl)
  have oZS : Hid (ZS.all (·.oneCell') = true) := Lib.hid (by rw [eZS]; simp [Value.oneCell'])
  replace eZS := Lib.hid eZS
  have hz : ∀ V : World, (zeroValue 32).run Try.prog V = .ok (.agg Z) V := fun V => by rw [eZ.out]; kernel_rfl
  have hz2 : ∀ V : World, (zeroValue 28).run Try.prog V = .ok (.agg #[.string ⟨#[]⟩, .int .i64 0, .int .i64 0, .int .i64 0, .int .i64 0, .int .i64 0, .int .i64 0, .int .i64 0, .int .i64 0, .int .i64 0, .int .i64 0]) V := fun V => by kernel_rfl
  have hz3 : ∀ V : World, (zeroValue 38).run Try.prog V = .ok (.agg ZK) V := fun V => by rw [eZK.out]; kernel_rfl
  have hz4 : ∀ V : World, (zeroValue 24).run Try.prog V = .ok (.agg ZS) V := fun V => by rw [eZS.out]; kernel_rfl
  have hke : ∀ W : World, (binOp .eql 38 (.agg K) (.agg #[.int .i64 1, .int .i64 1, .int .i64 10, .int .i64 0])).run Try.prog W = .ok (.bool true) W := fun W => key_eq W K eK.out
  have hkg : ∀ (a b : Operand) (W : World), (eqGuard .eql 38 a b (.agg K) (.agg #[.int .i64 1, .int .i64 1, .int .i64 10, .int .i64 0])).run Try.prog W = .ok () W := fun a b W => run_eqGuard_agg W .eql 38 a b _ _ (by kernel_rfl)
  obtain ⟨B0, hB0⟩ : ∃ B, w.heap.size = B := ⟨_, rfl⟩
  rw [hB0]
  obtain ⟨V1, hV1⟩ : ∃ V, w.alloc (.cells #[.string ⟨#[97]⟩, .int .i64 20, .int .i64 8, .int .i64 3, .int .i64 2, .int .i64 0, .int .i64 0, .int .i64 1, .int .i64 1, .int .i64 3, .int .i64 1] 28) = V := ⟨_, rfl⟩
  have Hk : Hid (V1.heap[B0]? = some (.cells TK 28 (0, 0))) := Lib.hid (by rw [← hV1, eTK.out]; exact (box_new hB0).1)
  have HE : Hid (Below B0 w V1) := Lib.hid (by rw [← hV1, ← hB0]; exact (Below.refl _ _).alloc (Nat.le_refl _) _)
  have hB0' := hB0
  obtain ⟨SS, eSS⟩ : ∃ A : Array Value, A = #[.int .i64 1, .slice (some ⟨B0, 0, none⟩) 1 1] := ⟨_, rfl⟩
  have zSS : Hid (SS.size = 2) := Lib.hid (by rw [eSS]; rfl)
  have oSS : Hid (SS.all (·.oneCell') = true) := Lib.hid (by rw [eSS]; simp [Value.oneCell'])
  replace eSS := Lib.hid eSS
  replace hB0 := Lib.hid hB0
  have hSS := eSS.out
  replace hSS := Lib.hid hSS
  go_enter Try.func8, Try.ntmps8
  obtain ⟨X_1, hX_3⟩ : ∃ X, V1.heap.size = X := ⟨_, rfl⟩
  obtain ⟨V_2, q_4_0, q_4_1, q_4_2, q_4_3⟩ := st_new (w := V1) (T := 24) hX_3 zZS.out zSS.out oSS.out
  have ne_6 : B0 < X_1 := hX_3 ▸ blk_lt Hk.out
  have H_5 : Hid (V_2.heap[B0]? = some (.cells TK 28 (0, 0))) := Lib.hid ((q_4_2 _ ne_6).trans Hk.out)
  have ge_7 : B0 ≤ X_1 := hX_3 ▸ (sz_le hB0.out HE.out.size)
  have HE_8 : Hid (Below B0 w V_2) := Lib.hid (q_4_3 _ _ ge_7 HE.out)
  have H_9 := Lib.hid q_4_1
  clear q_4_1 q_4_2 q_4_3
  go_upto_region 2 with (first | (refine wpl_bld 24 _ rfl (by rfl) (set_built B0 (by simp [go_sem]) eSS.out) ?_))
  clear q_4_0 hX_3
  clear HE Hk
  go_wp2_with (first | (refine wpl_ld _ _ rfl (by rfl) X_1 rfl H_9.out Try.underlying24 rfl (by kernel_rfl) zSS.out ?_))
  refine (aw_new _ B0 _ _ _ eSS.out eJ0.out eTK.out H_5.out).mono ?_; rintro e V_10 ⟨rfl, hb_11⟩
  have H_12 : Hid (V_10.heap[B0]? = some (.cells TK 28 (0, 0))) := Lib.hid ((hb_11.block B0 (blk_lt H_5.out)).trans H_5.out)
  have H_13 : Hid (V_10.heap[X_1]? = some (.cells SS 24 (0, 0))) := Lib.hid ((hb_11.block X_1 (blk_lt H_9.out)).trans H_9.out)
  have HE_14 : Hid (Below B0 w V_10) := Lib.hid (HE_8.out.trans (hb_11.mono (sz_le hB0.out HE_8.out.size)))
  clear HE_8 H_5 H_9
  clear hb_11
  obtain ⟨X_15, hX_17⟩ : ∃ X, V_10.heap.size = X := ⟨_, rfl⟩
  obtain ⟨V_16, q_18_0, q_18_1, q_18_2, q_18_3⟩ := st_new (w := V_10) (T := 32) hX_17 zZ.out zJ0.out oJ0.out
  have ne_20 : B0 < X_15 := hX_17 ▸ blk_lt H_12.out
  have H_19 : Hid (V_16.heap[B0]? = some (.cells TK 28 (0, 0))) := Lib.hid ((q_18_2 _ ne_20).trans H_12.out)
  have ne_22 : X_1 < X_15 := hX_17 ▸ blk_lt H_13.out
  have H_21 : Hid (V_16.heap[X_1]? = some (.cells SS 24 (0, 0))) := Lib.hid ((q_18_2 _ ne_22).trans H_13.out)
  have ge_23 : B0 ≤ X_15 := hX_17 ▸ (sz_le hB0.out HE_14.out.size)
  have HE_24 : Hid (Below B0 w V_16) := Lib.hid (q_18_3 _ _ ge_23 HE_14.out)
  have H_25 := Lib.hid q_18_1
  clear q_18_1 q_18_2 q_18_3
  go_upto_region 3 with (fail)
  clear q_18_0 hX_17
  clear HE_14 H_12 H_13
  go_wp2_with (first | (refine wpl_ld _ _ rfl (by rfl) X_1 rfl H_21.out Try.underlying24 rfl (by kernel_rfl) zSS.out ?_))
  refine (aw_new2 _ B0 _ _ _ eSS.out eZ.out eTK.out H_19.out).mono ?_; rintro e V_26 ⟨rfl, hb_27⟩
  have H_28 : Hid (V_26.heap[B0]? = some (.cells TK 28 (0, 0))) := Lib.hid ((hb_27.block B0 (blk_lt H_19.out)).trans H_19.out)
  have H_29 : Hid (V_26.heap[X_1]? = some (.cells SS 24 (0, 0))) := Lib.hid ((hb_27.block X_1 (blk_lt H_21.out)).trans H_21.out)
  have H_30 : Hid (V_26.heap[X_15]? = some (.cells J0 32 (0, 0))) := Lib.hid ((hb_27.block X_15 (blk_lt H_25.out)).trans H_25.out)
  have HE_31 : Hid (Below B0 w V_26) := Lib.hid (HE_24.out.trans (hb_27.mono (sz_le hB0.out HE_24.out.size)))
  clear HE_24 H_19 H_21 H_25
  clear hb_27
  obtain ⟨X_32, hX_34⟩ : ∃ X, V_26.heap.size = X := ⟨_, rfl⟩
  obtain ⟨V_33, q_35_0, q_35_1, q_35_2, q_35_3⟩ := st_new (w := V_26) (T := 32) hX_34 zZ.out zZ.out oZ.out
  have ne_37 : B0 < X_32 := hX_34 ▸ blk_lt H_28.out
  have H_36 : Hid (V_33.heap[B0]? = some (.cells TK 28 (0, 0))) := Lib.hid ((q_35_2 _ ne_37).trans H_28.out)
  have ne_39 : X_1 < X_32 := hX_34 ▸ blk_lt H_29.out
  have H_38 : Hid (V_33.heap[X_1]? = some (.cells SS 24 (0, 0))) := Lib.hid ((q_35_2 _ ne_39).trans H_29.out)
  have ne_41 : X_15 < X_32 := hX_34 ▸ blk_lt H_30.out
  have H_40 : Hid (V_33.heap[X_15]? = some (.cells J0 32 (0, 0))) := Lib.hid ((q_35_2 _ ne_41).trans H_30.out)
  have ge_42 : B0 ≤ X_32 := hX_34 ▸ (sz_le hB0.out HE_31.out.size)
  have HE_43 : Hid (Below B0 w V_33) := Lib.hid (q_35_3 _ _ ge_42 HE_31.out)
  have H_44 := Lib.hid q_35_1
  clear q_35_1 q_35_2 q_35_3
  go_upto_region 4 with (fail)
  clear q_35_0 hX_34
  clear HE_31 H_28 H_29 H_30
  go_wp2_with (first | (refine wpl_ld _ _ rfl (by rfl) X_15 rfl H_40.out Try.underlying32 rfl (by kernel_rfl) zJ0.out ?_))
  refine (aw_key _ _ _ eJ0.out eK.out).mono ?_; rintro e V_45 ⟨rfl, hb_46⟩
  have H_47 : Hid (V_45.heap[B0]? = some (.cells TK 28 (0, 0))) := Lib.hid ((hb_46.block B0 (blk_lt H_36.out)).trans H_36.out)
  have H_48 : Hid (V_45.heap[X_1]? = some (.cells SS 24 (0, 0))) := Lib.hid ((hb_46.block X_1 (blk_lt H_38.out)).trans H_38.out)
  have H_49 : Hid (V_45.heap[X_15]? = some (.cells J0 32 (0, 0))) := Lib.hid ((hb_46.block X_15 (blk_lt H_40.out)).trans H_40.out)
  have H_50 : Hid (V_45.heap[X_32]? = some (.cells Z 32 (0, 0))) := Lib.hid ((hb_46.block X_32 (blk_lt H_44.out)).trans H_44.out)
  have HE_51 : Hid (Below B0 w V_45) := Lib.hid (HE_43.out.trans (hb_46.mono (sz_le hB0.out HE_43.out.size)))
  clear HE_43 H_36 H_38 H_40 H_44
  clear hb_46
  obtain ⟨X_52, hX_54⟩ : ∃ X, V_45.heap.size = X := ⟨_, rfl⟩
  obtain ⟨V_53, q_55_0, q_55_1, q_55_2, q_55_3⟩ := st_new (w := V_45) (T := 38) hX_54 zZK.out zK.out oK.out
  have ne_57 : B0 < X_52 := hX_54 ▸ blk_lt H_47.out
  have H_56 : Hid (V_53.heap[B0]? = some (.cells TK 28 (0, 0))) := Lib.hid ((q_55_2 _ ne_57).trans H_47.out)
  have ne_59 : X_1 < X_52 := hX_54 ▸ blk_lt H_48.out
  have H_58 : Hid (V_53.heap[X_1]? = some (.cells SS 24 (0, 0))) := Lib.hid ((q_55_2 _ ne_59).trans H_48.out)
  have ne_61 : X_15 < X_52 := hX_54 ▸ blk_lt H_49.out
  have H_60 : Hid (V_53.heap[X_15]? = some (.cells J0 32 (0, 0))) := Lib.hid ((q_55_2 _ ne_61).trans H_49.out)
  have ne_63 : X_32 < X_52 := hX_54 ▸ blk_lt H_50.out
  have H_62 : Hid (V_53.heap[X_32]? = some (.cells Z 32 (0, 0))) := Lib.hid ((q_55_2 _ ne_63).trans H_50.out)
  have ge_64 : B0 ≤ X_52 := hX_54 ▸ (sz_le hB0.out HE_51.out.size)
  have HE_65 : Hid (Below B0 w V_53) := Lib.hid (q_55_3 _ _ ge_64 HE_51.out)
  have H_66 := Lib.hid q_55_1
  clear q_55_1 q_55_2 q_55_3
  go_upto_region 5 with (fail)
  clear q_55_0 hX_54
  clear HE_51 H_47 H_48 H_49 H_50
  go_wp2_with (first | (refine wpl_ld _ _ rfl (by rfl) X_15 rfl H_60.out Try.underlying32 rfl (by kernel_rfl) zJ0.out ?_))
  refine (aw_step _ _ _ eJ0.out eJ1.out).mono ?_; rintro e V_67 ⟨rfl, hb_68⟩
  have H_69 : Hid (V_67.heap[B0]? = some (.cells TK 28 (0, 0))) := Lib.hid ((hb_68.block B0 (blk_lt H_56.out)).trans H_56.out)
  have H_70 : Hid (V_67.heap[X_1]? = some (.cells SS 24 (0, 0))) := Lib.hid ((hb_68.block X_1 (blk_lt H_58.out)).trans H_58.out)
  have H_71 : Hid (V_67.heap[X_15]? = some (.cells J0 32 (0, 0))) := Lib.hid ((hb_68.block X_15 (blk_lt H_60.out)).trans H_60.out)
  have H_72 : Hid (V_67.heap[X_32]? = some (.cells Z 32 (0, 0))) := Lib.hid ((hb_68.block X_32 (blk_lt H_62.out)).trans H_62.out)
  have H_73 : Hid (V_67.heap[X_52]? = some (.cells K 38 (0, 0))) := Lib.hid ((hb_68.block X_52 (blk_lt H_66.out)).trans H_66.out)
  have HE_74 : Hid (Below B0 w V_67) := Lib.hid (HE_65.out.trans (hb_68.mono (sz_le hB0.out HE_65.out.size)))
  clear HE_65 H_56 H_58 H_60 H_62 H_66
  clear hb_68
  obtain ⟨X_75, hX_77⟩ : ∃ X, V_67.heap.size = X := ⟨_, rfl⟩
  obtain ⟨V_76, q_78_0, q_78_1, q_78_2, q_78_3⟩ := st_new (w := V_67) (T := 32) hX_77 zZ.out zJ1.out oJ1.out
  have ne_80 : B0 < X_75 := hX_77 ▸ blk_lt H_69.out
  have H_79 : Hid (V_76.heap[B0]? = some (.cells TK 28 (0, 0))) := Lib.hid ((q_78_2 _ ne_80).trans H_69.out)
  have ne_82 : X_1 < X_75 := hX_77 ▸ blk_lt H_70.out
  have H_81 : Hid (V_76.heap[X_1]? = some (.cells SS 24 (0, 0))) := Lib.hid ((q_78_2 _ ne_82).trans H_70.out)
  have ne_84 : X_15 < X_75 := hX_77 ▸ blk_lt H_71.out
  have H_83 : Hid (V_76.heap[X_15]? = some (.cells J0 32 (0, 0))) := Lib.hid ((q_78_2 _ ne_84).trans H_71.out)
  have ne_86 : X_32 < X_75 := hX_77 ▸ blk_lt H_72.out
  have H_85 : Hid (V_76.heap[X_32]? = some (.cells Z 32 (0, 0))) := Lib.hid ((q_78_2 _ ne_86).trans H_72.out)
  have ne_88 : X_52 < X_75 := hX_77 ▸ blk_lt H_73.out
  have H_87 : Hid (V_76.heap[X_52]? = some (.cells K 38 (0, 0))) := Lib.hid ((q_78_2 _ ne_88).trans H_73.out)
  have ge_89 : B0 ≤ X_75 := hX_77 ▸ (sz_le hB0.out HE_74.out.size)
  have HE_90 : Hid (Below B0 w V_76) := Lib.hid (q_78_3 _ _ ge_89 HE_74.out)
  have H_91 := Lib.hid q_78_1
  clear q_78_1 q_78_2 q_78_3
  go_upto_region 6 with (fail)
  clear q_78_0 hX_77
  clear HE_74 H_69 H_70 H_71 H_72 H_73
  have c_92 : V_76.cell? ⟨X_15, 3, none⟩ = some (.int .i64 18) := by rw [blk_cell H_83.out, eJ0.out]; rfl
  have c_93 : V_76.cell? ⟨X_15, 5, none⟩ = some (.bool true) := by rw [blk_cell H_83.out, eJ0.out]; rfl
  have c_94 : V_76.cell? ⟨X_15, 18, none⟩ = some (.int .i64 3) := by rw [blk_cell H_83.out, eJ0.out]; rfl
  have c_95 : V_76.cell? ⟨X_75, 6, none⟩ = some (.bool true) := by rw [blk_cell H_91.out, eJ1.out]; rfl
  have c_96 : V_76.cell? ⟨X_75, 21, none⟩ = some (.bool true) := by rw [blk_cell H_91.out, eJ1.out]; rfl
  go_wp2_with (first | (refine wpl_ld _ _ rfl (by rfl) X_52 rfl H_87.out Try.underlying38 rfl (by kernel_rfl) zK.out ?_) | (refine wpl_bld 38 _ rfl (by rfl) (key_built (by simp [go_sem])) ?_) | (refine wpl_ld _ _ rfl (by rfl) X_15 rfl H_83.out Try.underlying32 rfl (by kernel_rfl) zJ0.out ?_))
  refine (aw_late1 _ _ eJ0.out).mono ?_; rintro e V_97 ⟨rfl, hb_98⟩
  have H_99 : Hid (V_97.heap[B0]? = some (.cells TK 28 (0, 0))) := Lib.hid ((hb_98.block B0 (blk_lt H_79.out)).trans H_79.out)
  have H_100 : Hid (V_97.heap[X_1]? = some (.cells SS 24 (0, 0))) := Lib.hid ((hb_98.block X_1 (blk_lt H_81.out)).trans H_81.out)
  have H_101 : Hid (V_97.heap[X_15]? = some (.cells J0 32 (0, 0))) := Lib.hid ((hb_98.block X_15 (blk_lt H_83.out)).trans H_83.out)
  have H_102 : Hid (V_97.heap[X_32]? = some (.cells Z 32 (0, 0))) := Lib.hid ((hb_98.block X_32 (blk_lt H_85.out)).trans H_85.out)
  have H_103 : Hid (V_97.heap[X_52]? = some (.cells K 38 (0, 0))) := Lib.hid ((hb_98.block X_52 (blk_lt H_87.out)).trans H_87.out)
  have H_104 : Hid (V_97.heap[X_75]? = some (.cells J1 32 (0, 0))) := Lib.hid ((hb_98.block X_75 (blk_lt H_91.out)).trans H_91.out)
  have HE_105 : Hid (Below B0 w V_97) := Lib.hid (HE_90.out.trans (hb_98.mono (sz_le hB0.out HE_90.out.size)))
  clear c_92 c_93 c_94 c_95 c_96
  clear HE_90 H_79 H_81 H_83 H_85 H_87 H_91
  clear hb_98
  go_wp2_with (first | (refine wpl_ld _ _ rfl (by rfl) X_15 rfl H_101.out Try.underlying32 rfl (by kernel_rfl) zJ0.out ?_))
  refine (aw_late2 _ _ eJ0.out).mono ?_; rintro e V_106 ⟨rfl, hb_107⟩
  have H_108 : Hid (V_106.heap[B0]? = some (.cells TK 28 (0, 0))) := Lib.hid ((hb_107.block B0 (blk_lt H_99.out)).trans H_99.out)
  have H_109 : Hid (V_106.heap[X_1]? = some (.cells SS 24 (0, 0))) := Lib.hid ((hb_107.block X_1 (blk_lt H_100.out)).trans H_100.out)
  have H_110 : Hid (V_106.heap[X_15]? = some (.cells J0 32 (0, 0))) := Lib.hid ((hb_107.block X_15 (blk_lt H_101.out)).trans H_101.out)
  have H_111 : Hid (V_106.heap[X_32]? = some (.cells Z 32 (0, 0))) := Lib.hid ((hb_107.block X_32 (blk_lt H_102.out)).trans H_102.out)
  have H_112 : Hid (V_106.heap[X_52]? = some (.cells K 38 (0, 0))) := Lib.hid ((hb_107.block X_52 (blk_lt H_103.out)).trans H_103.out)
  have H_113 : Hid (V_106.heap[X_75]? = some (.cells J1 32 (0, 0))) := Lib.hid ((hb_107.block X_75 (blk_lt H_104.out)).trans H_104.out)
  have HE_114 : Hid (Below B0 w V_106) := Lib.hid (HE_105.out.trans (hb_107.mono (sz_le hB0.out HE_105.out.size)))
  clear HE_105 H_99 H_100 H_101 H_102 H_103 H_104
  clear hb_107
  go_wp2_with (first | (refine wpl_ld _ _ rfl (by rfl) X_15 rfl H_110.out Try.underlying32 rfl (by kernel_rfl) zJ0.out ?_))
  refine (aw_band _ _ eJ0.out).mono ?_; rintro e V_115 ⟨rfl, hb_116⟩
  have H_117 : Hid (V_115.heap[B0]? = some (.cells TK 28 (0, 0))) := Lib.hid ((hb_116.block B0 (blk_lt H_108.out)).trans H_108.out)
  have H_118 : Hid (V_115.heap[X_1]? = some (.cells SS 24 (0, 0))) := Lib.hid ((hb_116.block X_1 (blk_lt H_109.out)).trans H_109.out)
  have H_119 : Hid (V_115.heap[X_15]? = some (.cells J0 32 (0, 0))) := Lib.hid ((hb_116.block X_15 (blk_lt H_110.out)).trans H_110.out)
  have H_120 : Hid (V_115.heap[X_32]? = some (.cells Z 32 (0, 0))) := Lib.hid ((hb_116.block X_32 (blk_lt H_111.out)).trans H_111.out)
  have H_121 : Hid (V_115.heap[X_52]? = some (.cells K 38 (0, 0))) := Lib.hid ((hb_116.block X_52 (blk_lt H_112.out)).trans H_112.out)
  have H_122 : Hid (V_115.heap[X_75]? = some (.cells J1 32 (0, 0))) := Lib.hid ((hb_116.block X_75 (blk_lt H_113.out)).trans H_113.out)
  have HE_123 : Hid (Below B0 w V_115) := Lib.hid (HE_114.out.trans (hb_116.mono (sz_le hB0.out HE_114.out.size)))
  clear HE_114 H_108 H_109 H_110 H_111 H_112 H_113
  clear hb_116
  go_wp2
  go_ret
  exact ⟨rfl, HE_123.out⟩
end Go.Proofs.Ytpjehbcchanmhaa.PC
