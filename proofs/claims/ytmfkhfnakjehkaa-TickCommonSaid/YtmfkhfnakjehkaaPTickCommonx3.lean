import Derived.Test.YtmfkhfnakjehkaaPTickCommonx0
import Derived.Test.YtmfkhfnakjehkaaPTickCommonx1
import Derived.Test.YtmfkhfnakjehkaaPTickCommonx2
namespace Go.Proofs.Ytmfkhfnakjehkaa.PTickCommon
open Go.RowKit Go.Proofs.YtmfkhfnakjehkaaW.PrintWords Go.Proofs.YtmfkhfnakjehkaaW.PrintLast Go.Proofs.YtmfkhfnakjehkaaW.PrintMore
attribute [local go_sem] max2_int min2_int max_two min_two max_three min_three max_four min_four   -- for this text's walks alone
set_option linter.unusedVariables false
set_option linter.unusedSimpArgs false

/-! ### pendulumlaw01_TickCommon: function 5 -/
def pendulumlaw01_TickCommon.j0 : Nat → Int → Int → Int → Int → Bool → Bool → Option (Bool)
  | 0, _, _, _, _, _, _ => none
  | k + 1, x0, x1, x2, x7, x8, x35 => if x35 = true then (if x8 = true then (some false) else (some (x7 == 0))) else ((pendulumref01_Gcd.f k x0 x1).bind fun t137 => (if t137 = 0 then (none) else ((pendulumref01_Mul.f k (wrap64 (Int.tdiv x0 t137)) x1).bind fun bt138 => (if bt138.2 = true then (if bt138.1 > x2 then (if x8 = true then (some false) else (some (x7 == 0))) else (if x8 = true then (if x7 = bt138.1 then (if x0 = 0 then (none) else (if (Int.tmod x7 x0) = 0 then (if x1 = 0 then (none) else (some ((Int.tmod x7 x1) == 0))) else (some false))) else (some false)) else (some false))) else (if x8 = true then (some false) else (some (x7 == 0)))))))
def pendulumlaw01_TickCommon.f (k : Nat) (a0 : Int) (a1 : Int) (a2 : Int) : Option (Bool) := (pendulumlaw01_awake.f k).bind fun t132 => (if t132 = true then ((tick_Lcm.f k a0 a1 a2).bind fun bt133 => ((pendulumref01_Time.f a0).bind fun t135 => (if t135 = true then ((pendulumref01_Time.f a1).bind fun t136 => (if t136 = true then (if a0 = 0 then (pendulumlaw01_TickCommon.j0 k a0 a1 a2 bt133.1 bt133.2 true) else (pendulumlaw01_TickCommon.j0 k a0 a1 a2 bt133.1 bt133.2 (a1 == 0))) else (pendulumlaw01_TickCommon.j0 k a0 a1 a2 bt133.1 bt133.2 true))) else (pendulumlaw01_TickCommon.j0 k a0 a1 a2 bt133.1 bt133.2 true)))) else (some false))
theorem pendulumlaw01_TickCommon.mono_l : ∀ k, (∀ y0 y1 y2 y3 y4 y5, LeO (pendulumlaw01_TickCommon.j0 k y0 y1 y2 y3 y4 y5) (pendulumlaw01_TickCommon.j0 (k + 1) y0 y1 y2 y3 y4 y5))
  | 0 => fun _ _ _ _ _ _ r h => by simp [pendulumlaw01_TickCommon.j0] at h
  | k + 1 => by
    have ih0 := pendulumlaw01_TickCommon.mono_l k
    · intro y0 y1 y2 y3 y4 y5
      unfold pendulumlaw01_TickCommon.j0
      repeat' first
      | (with_reducible exact ih0 _ _ _ _ _ _)
      | (with_reducible exact pendulumlaw01_awake.mono _)
      | (with_reducible exact pendulumref01_Gcd.mono _ _ _)
      | (with_reducible exact pendulumref01_Mul.mono _ _ _)
      | (with_reducible exact tick_Lcm.mono _ _ _ _)
      | (with_reducible exact LeO.refl _)
      | (with_reducible exact LeO.none _)
      | (with_reducible refine LeO.ite ?_ ?_)
      | (with_reducible refine LeO.bind ?_ (fun _ => ?_))
      | exact ih0 _ _ _ _ _ _
      | exact pendulumlaw01_awake.mono _
      | exact pendulumref01_Gcd.mono _ _ _
      | exact pendulumref01_Mul.mono _ _ _
      | exact tick_Lcm.mono _ _ _ _
      | exact LeO.none _
      | refine LeO.ite ?_ ?_
      | refine LeO.bind ?_ (fun _ => ?_)
theorem pendulumlaw01_TickCommon.mono : ∀ a0 a1 a2 k, LeO (pendulumlaw01_TickCommon.f k a0 a1 a2) (pendulumlaw01_TickCommon.f (k + 1) a0 a1 a2) := by
  intro a0 a1 a2 k
  have ih0 := pendulumlaw01_TickCommon.mono_l k
  unfold pendulumlaw01_TickCommon.f
  repeat' first
      | (with_reducible exact ih0 _ _ _ _ _ _)
      | (with_reducible exact pendulumlaw01_awake.mono _)
      | (with_reducible exact pendulumref01_Gcd.mono _ _ _)
      | (with_reducible exact pendulumref01_Mul.mono _ _ _)
      | (with_reducible exact tick_Lcm.mono _ _ _ _)
      | (with_reducible exact LeO.refl _)
      | (with_reducible exact LeO.none _)
      | (with_reducible refine LeO.ite ?_ ?_)
      | (with_reducible refine LeO.bind ?_ (fun _ => ?_))
      | exact ih0 _ _ _ _ _ _
      | exact pendulumlaw01_awake.mono _
      | exact pendulumref01_Gcd.mono _ _ _
      | exact pendulumref01_Mul.mono _ _ _
      | exact tick_Lcm.mono _ _ _ _
      | exact LeO.none _
      | refine LeO.ite ?_ ?_
      | refine LeO.bind ?_ (fun _ => ?_)
set_option maxHeartbeats 8000000 in
set_option maxRecDepth 100000 in
theorem pendulumlaw01_TickCommon.calls (k : Nat) (a0 : Int) (a1 : Int) (a2 : Int) (r : Bool) (w : World) (h : pendulumlaw01_TickCommon.f k a0 a1 a2 = some r) :
    Calls Try.prog 5 #[.int .i64 a0, .int .i64 a1, .int .i64 a2] w fun e w' => e = .returned (.bool r) ∧ Below w.heap.size w w' := by
  have HB := Aside0.mk (Below.refl w.heap.size w)
  have H : ((pendulumlaw01_awake.f k).bind fun t132 => (if t132 = true then ((tick_Lcm.f k a0 a1 a2).bind fun bt133 => ((pendulumref01_Time.f a0).bind fun t135 => (if t135 = true then ((pendulumref01_Time.f a1).bind fun t136 => (if t136 = true then (if a0 = 0 then (pendulumlaw01_TickCommon.j0 k a0 a1 a2 bt133.1 bt133.2 true) else (pendulumlaw01_TickCommon.j0 k a0 a1 a2 bt133.1 bt133.2 (a1 == 0))) else (pendulumlaw01_TickCommon.j0 k a0 a1 a2 bt133.1 bt133.2 true))) else (pendulumlaw01_TickCommon.j0 k a0 a1 a2 bt133.1 bt133.2 true)))) else (some false))) = some r := h
  clear h
  replace H := Option.bind_eq_some_iff.mp H
  obtain ⟨t132, A40, H⟩ := H
  replace H : (if t132 = true then ((tick_Lcm.f k a0 a1 a2).bind fun bt133 => ((pendulumref01_Time.f a0).bind fun t135 => (if t135 = true then ((pendulumref01_Time.f a1).bind fun t136 => (if t136 = true then (if a0 = 0 then (pendulumlaw01_TickCommon.j0 k a0 a1 a2 bt133.1 bt133.2 true) else (pendulumlaw01_TickCommon.j0 k a0 a1 a2 bt133.1 bt133.2 (a1 == 0))) else (pendulumlaw01_TickCommon.j0 k a0 a1 a2 bt133.1 bt133.2 true))) else (pendulumlaw01_TickCommon.j0 k a0 a1 a2 bt133.1 bt133.2 true)))) else (some false)) = some r := H
  have A4 := Aside0.mk A40
  clear A40
  by_cases c5 : t132 = true
  · subst c5
    have H1 : ((tick_Lcm.f k a0 a1 a2).bind fun bt133 => ((pendulumref01_Time.f a0).bind fun t135 => (if t135 = true then ((pendulumref01_Time.f a1).bind fun t136 => (if t136 = true then (if a0 = 0 then (pendulumlaw01_TickCommon.j0 k a0 a1 a2 bt133.1 bt133.2 true) else (pendulumlaw01_TickCommon.j0 k a0 a1 a2 bt133.1 bt133.2 (a1 == 0))) else (pendulumlaw01_TickCommon.j0 k a0 a1 a2 bt133.1 bt133.2 true))) else (pendulumlaw01_TickCommon.j0 k a0 a1 a2 bt133.1 bt133.2 true)))) = some r := by rw [if_pos rfl] at H; exact H
    clear H
    have H := H1
    clear H1
    replace H := Option.bind_eq_some_iff.mp H
    obtain ⟨⟨t133, t134⟩, A60, H⟩ := H
    replace H : ((pendulumref01_Time.f a0).bind fun t135 => (if t135 = true then ((pendulumref01_Time.f a1).bind fun t136 => (if t136 = true then (if a0 = 0 then (pendulumlaw01_TickCommon.j0 k a0 a1 a2 t133 t134 true) else (pendulumlaw01_TickCommon.j0 k a0 a1 a2 t133 t134 (a1 == 0))) else (pendulumlaw01_TickCommon.j0 k a0 a1 a2 t133 t134 true))) else (pendulumlaw01_TickCommon.j0 k a0 a1 a2 t133 t134 true))) = some r := H
    have A6 := Aside0.mk A60
    clear A60
    have HC7 := Aside0.mk H
    clear H
    go_enter Try.func5, Try.ntmps5
    go_upto_region 4 with (first | ((with_reducible refine gate_callee (f := 9) rfl ?_); refine goesL_ (some 11) rfl rfl Try.func9 (by kernel_rfl) rfl #[] rfl (by (try simp only [List.map_toArray, List.map_cons, List.map_nil]); first | done | rfl | (simp only [List.length_drop, List.length_take]; rfl)) ?_; (with_reducible refine (pendulumlaw01_awake.calls k  true _ A4.out).mono ?_); rintro e w8 ⟨rfl, hb⟩; refine ⟨_, rfl, ?_⟩; have n0_ := Aside0.mk (below_step (by repeat (first | (with_reducible first | exact HB.out | apply below_alloc | apply pw_below_drewN | apply below_drew1) | exact HB.out)) hb); clear HB; have HB := n0_; clear n0_; (try clear hb); (try clear hb2); (try clear hk); (try clear hi)) | ((with_reducible refine gate_callee (f := 17) rfl ?_); refine goesL_ (some 17) rfl rfl Try.func17 (by kernel_rfl) rfl #[.int .i64 a0, .int .i64 a1, .int .i64 a2] rfl (by (try simp only [List.map_toArray, List.map_cons, List.map_nil]); first | done | rfl | (simp only [List.length_drop, List.length_take]; rfl)) ?_; (with_reducible refine (tick_Lcm.calls k a0 a1 a2 t133 t134 _ A6.out).mono ?_); rintro e w' ⟨rfl, ⟨nd, rfl⟩⟩; refine ⟨_, rfl, ?_⟩))
    (try simp only [Act.put, List.setIfInBounds_toArray, List.set_cons_zero, List.set_cons_succ])
    go_cut [35] (fun v35 wc => ∃ (kq : Nat) (x35_6 : Bool), v35 = .bool x35_6 ∧ Aside0 (pendulumlaw01_TickCommon.j0 kq a0 a1 a2 t133 t134 x35_6 = some r) ∧ Aside0 (kq ≤ k) ∧ Aside0 (Below w.heap.size w wc))
    case first =>
      have H := HC7.out
      clear HC7
      replace H := Option.bind_eq_some_iff.mp H
      obtain ⟨t135, A90, H⟩ := H
      replace H : (if t135 = true then ((pendulumref01_Time.f a1).bind fun t136 => (if t136 = true then (if a0 = 0 then (pendulumlaw01_TickCommon.j0 k a0 a1 a2 t133 t134 true) else (pendulumlaw01_TickCommon.j0 k a0 a1 a2 t133 t134 (a1 == 0))) else (pendulumlaw01_TickCommon.j0 k a0 a1 a2 t133 t134 true))) else (pendulumlaw01_TickCommon.j0 k a0 a1 a2 t133 t134 true)) = some r := H
      have A9 := Aside0.mk A90
      clear A90
      by_cases c10 : t135 = true
      · subst c10
        have H1 : ((pendulumref01_Time.f a1).bind fun t136 => (if t136 = true then (if a0 = 0 then (pendulumlaw01_TickCommon.j0 k a0 a1 a2 t133 t134 true) else (pendulumlaw01_TickCommon.j0 k a0 a1 a2 t133 t134 (a1 == 0))) else (pendulumlaw01_TickCommon.j0 k a0 a1 a2 t133 t134 true))) = some r := by rw [if_pos rfl] at H; exact H
        clear H
        have H := H1
        clear H1
        replace H := Option.bind_eq_some_iff.mp H
        obtain ⟨t136, A110, H⟩ := H
        replace H : (if t136 = true then (if a0 = 0 then (pendulumlaw01_TickCommon.j0 k a0 a1 a2 t133 t134 true) else (pendulumlaw01_TickCommon.j0 k a0 a1 a2 t133 t134 (a1 == 0))) else (pendulumlaw01_TickCommon.j0 k a0 a1 a2 t133 t134 true)) = some r := H
        have A11 := Aside0.mk A110
        clear A110
        by_cases c12 : t136 = true
        · subst c12
          have H1 : (if a0 = 0 then (pendulumlaw01_TickCommon.j0 k a0 a1 a2 t133 t134 true) else (pendulumlaw01_TickCommon.j0 k a0 a1 a2 t133 t134 (a1 == 0))) = some r := by rw [if_pos rfl] at H; exact H
          clear H
          have H := H1
          clear H1
          by_cases c13 : a0 = 0
          · rw [if_pos c13] at H
            have c13b0 : (a0 == 0) = true := beq_iff_eq.mpr c13
            have c13b1 : (a0 != 0) = false := bne_eq_false_iff_eq.mpr c13
            clear c13
            (first | rw [c13b0] | (simp only [i64_w, i32_w]; rw [c13b0]) | skip)
            have H' := Aside0.mk H
            clear H
            go_wp2_with (first | ((with_reducible refine gate_callee (f := 18) rfl ?_); refine goesL_ (some 21) rfl rfl Try.func18 (by kernel_rfl) rfl #[.int .i64 a0] rfl (by (try simp only [List.map_toArray, List.map_cons, List.map_nil]); first | done | rfl | (simp only [List.length_drop, List.length_take]; rfl)) ?_; (with_reducible refine (pendulumref01_Time.calls a0 true _ A9.out).mono ?_); rintro e w' ⟨rfl, ⟨nd, rfl⟩⟩; refine ⟨_, rfl, ?_⟩) | (go_at_call 18; (with_reducible refine (pendulumref01_Time.calls a1 true _ A11.out).mono ?_); rintro e w' ⟨rfl, ⟨nd, rfl⟩⟩))
            go_meet
            case rel => exact ⟨_, (true), (by first | rfl | (simp; done) | (simp [*]; done)), H', ⟨by first | omega | exact Nat.le_refl _⟩, ⟨by repeat (first | (with_reducible first | exact HB.out | apply below_alloc | apply pw_below_drewN | apply below_drew1) | exact HB.out)⟩⟩
          · rw [if_neg c13] at H
            have c13b0 : (a0 == 0) = false := beq_eq_false_iff_ne.mpr c13
            have c13b1 : (a0 != 0) = true := bne_iff_ne.mpr c13
            (first | rw [c13b0] | (simp only [i64_w, i32_w]; rw [c13b0]) | skip)
            have H' := Aside0.mk H
            clear H
            go_wp2_with (first | ((with_reducible refine gate_callee (f := 18) rfl ?_); refine goesL_ (some 21) rfl rfl Try.func18 (by kernel_rfl) rfl #[.int .i64 a0] rfl (by (try simp only [List.map_toArray, List.map_cons, List.map_nil]); first | done | rfl | (simp only [List.length_drop, List.length_take]; rfl)) ?_; (with_reducible refine (pendulumref01_Time.calls a0 true _ A9.out).mono ?_); rintro e w' ⟨rfl, ⟨nd, rfl⟩⟩; refine ⟨_, rfl, ?_⟩) | (go_at_call 18; (with_reducible refine (pendulumref01_Time.calls a1 true _ A11.out).mono ?_); rintro e w' ⟨rfl, ⟨nd, rfl⟩⟩))
            go_meet
            case rel => exact ⟨_, ((a1 == 0)), (by first | rfl | (simp; done) | (simp [*]; done)), H', ⟨by first | omega | exact Nat.le_refl _⟩, ⟨by repeat (first | (with_reducible first | exact HB.out | apply below_alloc | apply pw_below_drewN | apply below_drew1) | exact HB.out)⟩⟩
        · replace c12 := Bool.eq_false_iff.mpr c12
          subst c12
          have H1 : (pendulumlaw01_TickCommon.j0 k a0 a1 a2 t133 t134 true) = some r := by rw [if_neg (show ¬ (false = true) by decide)] at H; exact H
          clear H
          have H := H1
          clear H1
          have H' := Aside0.mk H
          clear H
          go_wp2_with (first | ((with_reducible refine gate_callee (f := 18) rfl ?_); refine goesL_ (some 21) rfl rfl Try.func18 (by kernel_rfl) rfl #[.int .i64 a0] rfl (by (try simp only [List.map_toArray, List.map_cons, List.map_nil]); first | done | rfl | (simp only [List.length_drop, List.length_take]; rfl)) ?_; (with_reducible refine (pendulumref01_Time.calls a0 true _ A9.out).mono ?_); rintro e w' ⟨rfl, ⟨nd, rfl⟩⟩; refine ⟨_, rfl, ?_⟩) | (go_at_call 18; (with_reducible refine (pendulumref01_Time.calls a1 false _ A11.out).mono ?_); rintro e w' ⟨rfl, ⟨nd, rfl⟩⟩))
          go_meet
          case rel => exact ⟨_, (true), (by first | rfl | (simp; done) | (simp [*]; done)), H', ⟨by first | omega | exact Nat.le_refl _⟩, ⟨by repeat (first | (with_reducible first | exact HB.out | apply below_alloc | apply pw_below_drewN | apply below_drew1) | exact HB.out)⟩⟩
      · replace c10 := Bool.eq_false_iff.mpr c10
        subst c10
        have H1 : (pendulumlaw01_TickCommon.j0 k a0 a1 a2 t133 t134 true) = some r := by rw [if_neg (show ¬ (false = true) by decide)] at H; exact H
        clear H
        have H := H1
        clear H1
        have H' := Aside0.mk H
        clear H
        go_wp2_with (first | ((with_reducible refine gate_callee (f := 18) rfl ?_); refine goesL_ (some 21) rfl rfl Try.func18 (by kernel_rfl) rfl #[.int .i64 a0] rfl (by (try simp only [List.map_toArray, List.map_cons, List.map_nil]); first | done | rfl | (simp only [List.length_drop, List.length_take]; rfl)) ?_; (with_reducible refine (pendulumref01_Time.calls a0 false _ A9.out).mono ?_); rintro e w' ⟨rfl, ⟨nd, rfl⟩⟩; refine ⟨_, rfl, ?_⟩))
        go_meet
        case rel => exact ⟨_, (true), (by first | rfl | (simp; done) | (simp [*]; done)), H', ⟨by first | omega | exact Nat.le_refl _⟩, ⟨by repeat (first | (with_reducible first | exact HB.out | apply below_alloc | apply pw_below_drewN | apply below_drew1) | exact HB.out)⟩⟩
    case rest =>
      clear HC7
      try clear c1
      try clear p2
      try clear c5
      try clear c9
      try clear c10
      try clear c12
      try clear c13
      try clear c13b0
      try clear c13b1
      obtain ⟨kq, x35_6, rfl, HA, HJ6, HB⟩ := hcut
      cases kq with
      | zero => exact absurd HA.out (by simp [pendulumlaw01_TickCommon.j0])
      | succ kj6 =>
        have H := HA.out
        clear HA
        simp only [pendulumlaw01_TickCommon.j0] at H
        by_cases c14 : x35_6 = true
        · subst c14
          have H1 : (if t134 = true then (some false) else (some (t133 == 0))) = some r := by rw [if_pos rfl] at H; exact H
          clear H
          have H := H1
          clear H1
          by_cases c15 : t134 = true
          · subst c15
            have H1 : (some false) = some r := by rw [if_pos rfl] at H; exact H
            clear H
            have H := H1
            clear H1
            obtain rfl := Option.some.inj H
            go_wp2
            go_ret
            exact ⟨by first | rfl | (simp [errW_none, errW_some] <;> rfl) | (simp [*, errW_none, errW_some] <;> rfl), by repeat (first | (with_reducible first | exact HB.out | apply below_alloc | apply pw_below_drewN | apply below_drew1) | exact HB.out)⟩
          · replace c15 := Bool.eq_false_iff.mpr c15
            subst c15
            have H1 : (some (t133 == 0)) = some r := by rw [if_neg (show ¬ (false = true) by decide)] at H; exact H
            clear H
            have H := H1
            clear H1
            obtain rfl := Option.some.inj H
            go_wp2
            go_ret
            exact ⟨by first | rfl | (simp [errW_none, errW_some] <;> rfl) | (simp [*, errW_none, errW_some] <;> rfl), by repeat (first | (with_reducible first | exact HB.out | apply below_alloc | apply pw_below_drewN | apply below_drew1) | exact HB.out)⟩
        · replace c14 := Bool.eq_false_iff.mpr c14
          subst c14
          have H1 : ((pendulumref01_Gcd.f kj6 a0 a1).bind fun t137 => (if t137 = 0 then (none) else ((pendulumref01_Mul.f kj6 (wrap64 (Int.tdiv a0 t137)) a1).bind fun bt138 => (if bt138.2 = true then (if bt138.1 > a2 then (if t134 = true then (some false) else (some (t133 == 0))) else (if t134 = true then (if t133 = bt138.1 then (if a0 = 0 then (none) else (if (Int.tmod t133 a0) = 0 then (if a1 = 0 then (none) else (some ((Int.tmod t133 a1) == 0))) else (some false))) else (some false)) else (some false))) else (if t134 = true then (some false) else (some (t133 == 0))))))) = some r := by rw [if_neg (show ¬ (false = true) by decide)] at H; exact H
          clear H
          have H := H1
          clear H1
          replace H := Option.bind_eq_some_iff.mp H
          obtain ⟨t137, A160, H⟩ := H
          replace H : (if t137 = 0 then (none) else ((pendulumref01_Mul.f kj6 (wrap64 (Int.tdiv a0 t137)) a1).bind fun bt138 => (if bt138.2 = true then (if bt138.1 > a2 then (if t134 = true then (some false) else (some (t133 == 0))) else (if t134 = true then (if t133 = bt138.1 then (if a0 = 0 then (none) else (if (Int.tmod t133 a0) = 0 then (if a1 = 0 then (none) else (some ((Int.tmod t133 a1) == 0))) else (some false))) else (some false)) else (some false))) else (if t134 = true then (some false) else (some (t133 == 0)))))) = some r := H
          have A16 := Aside0.mk A160
          clear A160
          by_cases c17 : t137 = 0
          · rw [if_pos c17] at H
            exact absurd H (by simp)
          · rw [if_neg c17] at H
            have c17b0 : (t137 == 0) = false := beq_eq_false_iff_ne.mpr c17
            have c17b1 : (t137 != 0) = true := bne_iff_ne.mpr c17
            replace H := Option.bind_eq_some_iff.mp H
            obtain ⟨⟨t138, t139⟩, A180, H⟩ := H
            replace H : (if t139 = true then (if t138 > a2 then (if t134 = true then (some false) else (some (t133 == 0))) else (if t134 = true then (if t133 = t138 then (if a0 = 0 then (none) else (if (Int.tmod t133 a0) = 0 then (if a1 = 0 then (none) else (some ((Int.tmod t133 a1) == 0))) else (some false))) else (some false)) else (some false))) else (if t134 = true then (some false) else (some (t133 == 0)))) = some r := H
            have A18 := Aside0.mk A180
            clear A180
            by_cases c19 : t139 = true
            · subst c19
              have H1 : (if t138 > a2 then (if t134 = true then (some false) else (some (t133 == 0))) else (if t134 = true then (if t133 = t138 then (if a0 = 0 then (none) else (if (Int.tmod t133 a0) = 0 then (if a1 = 0 then (none) else (some ((Int.tmod t133 a1) == 0))) else (some false))) else (some false)) else (some false))) = some r := by rw [if_pos rfl] at H; exact H
              clear H
              have H := H1
              clear H1
              by_cases c20 : t138 > a2
              · rw [if_pos c20] at H
                have c20b0 : decide (a2 < t138) = true := decide_eq_true c20
                clear c20
                by_cases c21 : t134 = true
                · subst c21
                  have H1 : (some false) = some r := by rw [if_pos rfl] at H; exact H
                  clear H
                  have H := H1
                  clear H1
                  obtain rfl := Option.some.inj H
                  go_wp2_with (first | ((with_reducible refine gate_callee (f := 19) rfl ?_); refine goesL_ (some 46) rfl rfl Try.func19 (by kernel_rfl) rfl #[.int .i64 a0, .int .i64 a1] rfl (by (try simp only [List.map_toArray, List.map_cons, List.map_nil]); first | done | rfl | (simp only [List.length_drop, List.length_take]; rfl)) ?_; (with_reducible refine (pendulumref01_Gcd.calls kj6 a0 a1 t137 _ A16.out).mono ?_); rintro e w' ⟨rfl, ⟨nd, rfl⟩⟩; refine ⟨_, rfl, ?_⟩) | ((with_reducible refine gate_callee (f := 14) rfl ?_); refine goesL_ (some 49) rfl rfl Try.func14 (by kernel_rfl) rfl #[.int .i64 (wrap64 (Int.tdiv a0 t137)), .int .i64 a1] rfl (by (try simp only [List.map_toArray, List.map_cons, List.map_nil]); first | done | rfl | (simp only [List.length_drop, List.length_take]; rfl)) ?_; (with_reducible refine (pendulumref01_Mul.calls kj6 (wrap64 (Int.tdiv a0 t137)) a1 t138 true _ A18.out).mono ?_); rintro e w' ⟨rfl, ⟨nd, rfl⟩⟩; refine ⟨_, rfl, ?_⟩))
                  go_ret
                  exact ⟨by first | rfl | (simp [errW_none, errW_some] <;> rfl) | (simp [*, errW_none, errW_some] <;> rfl), by repeat (first | (with_reducible first | exact HB.out | apply below_alloc | apply pw_below_drewN | apply below_drew1) | exact HB.out)⟩
                · replace c21 := Bool.eq_false_iff.mpr c21
                  subst c21
                  have H1 : (some (t133 == 0)) = some r := by rw [if_neg (show ¬ (false = true) by decide)] at H; exact H
                  clear H
                  have H := H1
                  clear H1
                  obtain rfl := Option.some.inj H
                  go_wp2_with (first | ((with_reducible refine gate_callee (f := 19) rfl ?_); refine goesL_ (some 46) rfl rfl Try.func19 (by kernel_rfl) rfl #[.int .i64 a0, .int .i64 a1] rfl (by (try simp only [List.map_toArray, List.map_cons, List.map_nil]); first | done | rfl | (simp only [List.length_drop, List.length_take]; rfl)) ?_; (with_reducible refine (pendulumref01_Gcd.calls kj6 a0 a1 t137 _ A16.out).mono ?_); rintro e w' ⟨rfl, ⟨nd, rfl⟩⟩; refine ⟨_, rfl, ?_⟩) | ((with_reducible refine gate_callee (f := 14) rfl ?_); refine goesL_ (some 49) rfl rfl Try.func14 (by kernel_rfl) rfl #[.int .i64 (wrap64 (Int.tdiv a0 t137)), .int .i64 a1] rfl (by (try simp only [List.map_toArray, List.map_cons, List.map_nil]); first | done | rfl | (simp only [List.length_drop, List.length_take]; rfl)) ?_; (with_reducible refine (pendulumref01_Mul.calls kj6 (wrap64 (Int.tdiv a0 t137)) a1 t138 true _ A18.out).mono ?_); rintro e w' ⟨rfl, ⟨nd, rfl⟩⟩; refine ⟨_, rfl, ?_⟩))
                  go_ret
                  exact ⟨by first | rfl | (simp [errW_none, errW_some] <;> rfl) | (simp [*, errW_none, errW_some] <;> rfl), by repeat (first | (with_reducible first | exact HB.out | apply below_alloc | apply pw_below_drewN | apply below_drew1) | exact HB.out)⟩
              · rw [if_neg c20] at H
                have c20b0 : decide (a2 < t138) = false := decide_eq_false c20
                clear c20
                by_cases c22 : t134 = true
                · subst c22
                  have H1 : (if t133 = t138 then (if a0 = 0 then (none) else (if (Int.tmod t133 a0) = 0 then (if a1 = 0 then (none) else (some ((Int.tmod t133 a1) == 0))) else (some false))) else (some false)) = some r := by rw [if_pos rfl] at H; exact H
                  clear H
                  have H := H1
                  clear H1
                  by_cases c23 : t133 = t138
                  · rw [if_pos c23] at H
                    have c23b0 : (t133 == t138) = true := beq_iff_eq.mpr c23
                    have c23b1 : (t133 != t138) = false := bne_eq_false_iff_eq.mpr c23
                    clear c23
                    by_cases c24 : a0 = 0
                    · rw [if_pos c24] at H
                      exact absurd H (by simp)
                    · rw [if_neg c24] at H
                      have c24b0 : (a0 == 0) = false := beq_eq_false_iff_ne.mpr c24
                      have c24b1 : (a0 != 0) = true := bne_iff_ne.mpr c24
                      by_cases c25 : (Int.tmod t133 a0) = 0
                      · rw [if_pos c25] at H
                        have c25b0 : ((Int.tmod t133 a0) == 0) = true := beq_iff_eq.mpr c25
                        have c25b1 : ((Int.tmod t133 a0) != 0) = false := bne_eq_false_iff_eq.mpr c25
                        clear c25
                        by_cases c26 : a1 = 0
                        · rw [if_pos c26] at H
                          exact absurd H (by simp)
                        · rw [if_neg c26] at H
                          have c26b0 : (a1 == 0) = false := beq_eq_false_iff_ne.mpr c26
                          have c26b1 : (a1 != 0) = true := bne_iff_ne.mpr c26
                          obtain rfl := Option.some.inj H
                          go_wp2_with (first | ((with_reducible refine gate_callee (f := 19) rfl ?_); refine goesL_ (some 46) rfl rfl Try.func19 (by kernel_rfl) rfl #[.int .i64 a0, .int .i64 a1] rfl (by (try simp only [List.map_toArray, List.map_cons, List.map_nil]); first | done | rfl | (simp only [List.length_drop, List.length_take]; rfl)) ?_; (with_reducible refine (pendulumref01_Gcd.calls kj6 a0 a1 t137 _ A16.out).mono ?_); rintro e w' ⟨rfl, ⟨nd, rfl⟩⟩; refine ⟨_, rfl, ?_⟩) | ((with_reducible refine gate_callee (f := 14) rfl ?_); refine goesL_ (some 49) rfl rfl Try.func14 (by kernel_rfl) rfl #[.int .i64 (wrap64 (Int.tdiv a0 t137)), .int .i64 a1] rfl (by (try simp only [List.map_toArray, List.map_cons, List.map_nil]); first | done | rfl | (simp only [List.length_drop, List.length_take]; rfl)) ?_; (with_reducible refine (pendulumref01_Mul.calls kj6 (wrap64 (Int.tdiv a0 t137)) a1 t138 true _ A18.out).mono ?_); rintro e w' ⟨rfl, ⟨nd, rfl⟩⟩; refine ⟨_, rfl, ?_⟩))
                          go_ret
                          exact ⟨by first | rfl | (simp [errW_none, errW_some] <;> rfl) | (simp [*, errW_none, errW_some] <;> rfl), by repeat (first | (with_reducible first | exact HB.out | apply below_alloc | apply pw_below_drewN | apply below_drew1) | exact HB.out)⟩
                      · rw [if_neg c25] at H
                        have c25b0 : ((Int.tmod t133 a0) == 0) = false := beq_eq_false_iff_ne.mpr c25
                        have c25b1 : ((Int.tmod t133 a0) != 0) = true := bne_iff_ne.mpr c25
                        obtain rfl := Option.some.inj H
                        go_wp2_with (first | ((with_reducible refine gate_callee (f := 19) rfl ?_); refine goesL_ (some 46) rfl rfl Try.func19 (by kernel_rfl) rfl #[.int .i64 a0, .int .i64 a1] rfl (by (try simp only [List.map_toArray, List.map_cons, List.map_nil]); first | done | rfl | (simp only [List.length_drop, List.length_take]; rfl)) ?_; (with_reducible refine (pendulumref01_Gcd.calls kj6 a0 a1 t137 _ A16.out).mono ?_); rintro e w' ⟨rfl, ⟨nd, rfl⟩⟩; refine ⟨_, rfl, ?_⟩) | ((with_reducible refine gate_callee (f := 14) rfl ?_); refine goesL_ (some 49) rfl rfl Try.func14 (by kernel_rfl) rfl #[.int .i64 (wrap64 (Int.tdiv a0 t137)), .int .i64 a1] rfl (by (try simp only [List.map_toArray, List.map_cons, List.map_nil]); first | done | rfl | (simp only [List.length_drop, List.length_take]; rfl)) ?_; (with_reducible refine (pendulumref01_Mul.calls kj6 (wrap64 (Int.tdiv a0 t137)) a1 t138 true _ A18.out).mono ?_); rintro e w' ⟨rfl, ⟨nd, rfl⟩⟩; refine ⟨_, rfl, ?_⟩))
                        go_ret
                        exact ⟨by first | rfl | (simp [errW_none, errW_some] <;> rfl) | (simp [*, errW_none, errW_some] <;> rfl), by repeat (first | (with_reducible first | exact HB.out | apply below_alloc | apply pw_below_drewN | apply below_drew1) | exact HB.out)⟩
                  · rw [if_neg c23] at H
                    have c23b0 : (t133 == t138) = false := beq_eq_false_iff_ne.mpr c23
                    have c23b1 : (t133 != t138) = true := bne_iff_ne.mpr c23
                    obtain rfl := Option.some.inj H
                    go_wp2_with (first | ((with_reducible refine gate_callee (f := 19) rfl ?_); refine goesL_ (some 46) rfl rfl Try.func19 (by kernel_rfl) rfl #[.int .i64 a0, .int .i64 a1] rfl (by (try simp only [List.map_toArray, List.map_cons, List.map_nil]); first | done | rfl | (simp only [List.length_drop, List.length_take]; rfl)) ?_; (with_reducible refine (pendulumref01_Gcd.calls kj6 a0 a1 t137 _ A16.out).mono ?_); rintro e w' ⟨rfl, ⟨nd, rfl⟩⟩; refine ⟨_, rfl, ?_⟩) | ((with_reducible refine gate_callee (f := 14) rfl ?_); refine goesL_ (some 49) rfl rfl Try.func14 (by kernel_rfl) rfl #[.int .i64 (wrap64 (Int.tdiv a0 t137)), .int .i64 a1] rfl (by (try simp only [List.map_toArray, List.map_cons, List.map_nil]); first | done | rfl | (simp only [List.length_drop, List.length_take]; rfl)) ?_; (with_reducible refine (pendulumref01_Mul.calls kj6 (wrap64 (Int.tdiv a0 t137)) a1 t138 true _ A18.out).mono ?_); rintro e w' ⟨rfl, ⟨nd, rfl⟩⟩; refine ⟨_, rfl, ?_⟩))
                    go_ret
                    exact ⟨by first | rfl | (simp [errW_none, errW_some] <;> rfl) | (simp [*, errW_none, errW_some] <;> rfl), by repeat (first | (with_reducible first | exact HB.out | apply below_alloc | apply pw_below_drewN | apply below_drew1) | exact HB.out)⟩
                · replace c22 := Bool.eq_false_iff.mpr c22
                  subst c22
                  have H1 : (some false) = some r := by rw [if_neg (show ¬ (false = true) by decide)] at H; exact H
                  clear H
                  have H := H1
                  clear H1
                  obtain rfl := Option.some.inj H
                  go_wp2_with (first | ((with_reducible refine gate_callee (f := 19) rfl ?_); refine goesL_ (some 46) rfl rfl Try.func19 (by kernel_rfl) rfl #[.int .i64 a0, .int .i64 a1] rfl (by (try simp only [List.map_toArray, List.map_cons, List.map_nil]); first | done | rfl | (simp only [List.length_drop, List.length_take]; rfl)) ?_; (with_reducible refine (pendulumref01_Gcd.calls kj6 a0 a1 t137 _ A16.out).mono ?_); rintro e w' ⟨rfl, ⟨nd, rfl⟩⟩; refine ⟨_, rfl, ?_⟩) | ((with_reducible refine gate_callee (f := 14) rfl ?_); refine goesL_ (some 49) rfl rfl Try.func14 (by kernel_rfl) rfl #[.int .i64 (wrap64 (Int.tdiv a0 t137)), .int .i64 a1] rfl (by (try simp only [List.map_toArray, List.map_cons, List.map_nil]); first | done | rfl | (simp only [List.length_drop, List.length_take]; rfl)) ?_; (with_reducible refine (pendulumref01_Mul.calls kj6 (wrap64 (Int.tdiv a0 t137)) a1 t138 true _ A18.out).mono ?_); rintro e w' ⟨rfl, ⟨nd, rfl⟩⟩; refine ⟨_, rfl, ?_⟩))
                  go_ret
                  exact ⟨by first | rfl | (simp [errW_none, errW_some] <;> rfl) | (simp [*, errW_none, errW_some] <;> rfl), by repeat (first | (with_reducible first | exact HB.out | apply below_alloc | apply pw_below_drewN | apply below_drew1) | exact HB.out)⟩
            · replace c19 := Bool.eq_false_iff.mpr c19
              subst c19
              have H1 : (if t134 = true then (some false) else (some (t133 == 0))) = some r := by rw [if_neg (show ¬ (false = true) by decide)] at H; exact H
              clear H
              have H := H1
              clear H1
              by_cases c27 : t134 = true
              · subst c27
                have H1 : (some false) = some r := by rw [if_pos rfl] at H; exact H
                clear H
                have H := H1
                clear H1
                obtain rfl := Option.some.inj H
                go_wp2_with (first | ((with_reducible refine gate_callee (f := 19) rfl ?_); refine goesL_ (some 46) rfl rfl Try.func19 (by kernel_rfl) rfl #[.int .i64 a0, .int .i64 a1] rfl (by (try simp only [List.map_toArray, List.map_cons, List.map_nil]); first | done | rfl | (simp only [List.length_drop, List.length_take]; rfl)) ?_; (with_reducible refine (pendulumref01_Gcd.calls kj6 a0 a1 t137 _ A16.out).mono ?_); rintro e w' ⟨rfl, ⟨nd, rfl⟩⟩; refine ⟨_, rfl, ?_⟩) | ((with_reducible refine gate_callee (f := 14) rfl ?_); refine goesL_ (some 49) rfl rfl Try.func14 (by kernel_rfl) rfl #[.int .i64 (wrap64 (Int.tdiv a0 t137)), .int .i64 a1] rfl (by (try simp only [List.map_toArray, List.map_cons, List.map_nil]); first | done | rfl | (simp only [List.length_drop, List.length_take]; rfl)) ?_; (with_reducible refine (pendulumref01_Mul.calls kj6 (wrap64 (Int.tdiv a0 t137)) a1 t138 false _ A18.out).mono ?_); rintro e w' ⟨rfl, ⟨nd, rfl⟩⟩; refine ⟨_, rfl, ?_⟩))
                go_ret
                exact ⟨by first | rfl | (simp [errW_none, errW_some] <;> rfl) | (simp [*, errW_none, errW_some] <;> rfl), by repeat (first | (with_reducible first | exact HB.out | apply below_alloc | apply pw_below_drewN | apply below_drew1) | exact HB.out)⟩
              · replace c27 := Bool.eq_false_iff.mpr c27
                subst c27
                have H1 : (some (t133 == 0)) = some r := by rw [if_neg (show ¬ (false = true) by decide)] at H; exact H
                clear H
                have H := H1
                clear H1
                obtain rfl := Option.some.inj H
                go_wp2_with (first | ((with_reducible refine gate_callee (f := 19) rfl ?_); refine goesL_ (some 46) rfl rfl Try.func19 (by kernel_rfl) rfl #[.int .i64 a0, .int .i64 a1] rfl (by (try simp only [List.map_toArray, List.map_cons, List.map_nil]); first | done | rfl | (simp only [List.length_drop, List.length_take]; rfl)) ?_; (with_reducible refine (pendulumref01_Gcd.calls kj6 a0 a1 t137 _ A16.out).mono ?_); rintro e w' ⟨rfl, ⟨nd, rfl⟩⟩; refine ⟨_, rfl, ?_⟩) | ((with_reducible refine gate_callee (f := 14) rfl ?_); refine goesL_ (some 49) rfl rfl Try.func14 (by kernel_rfl) rfl #[.int .i64 (wrap64 (Int.tdiv a0 t137)), .int .i64 a1] rfl (by (try simp only [List.map_toArray, List.map_cons, List.map_nil]); first | done | rfl | (simp only [List.length_drop, List.length_take]; rfl)) ?_; (with_reducible refine (pendulumref01_Mul.calls kj6 (wrap64 (Int.tdiv a0 t137)) a1 t138 false _ A18.out).mono ?_); rintro e w' ⟨rfl, ⟨nd, rfl⟩⟩; refine ⟨_, rfl, ?_⟩))
                go_ret
                exact ⟨by first | rfl | (simp [errW_none, errW_some] <;> rfl) | (simp [*, errW_none, errW_some] <;> rfl), by repeat (first | (with_reducible first | exact HB.out | apply below_alloc | apply pw_below_drewN | apply below_drew1) | exact HB.out)⟩
  · replace c5 := Bool.eq_false_iff.mpr c5
    subst c5
    have H1 : (some false) = some r := by rw [if_neg (show ¬ (false = true) by decide)] at H; exact H
    clear H
    have H := H1
    clear H1
    obtain rfl := Option.some.inj H
    go_enter Try.func5, Try.ntmps5
    go_wp2_with (first | ((with_reducible refine gate_callee (f := 9) rfl ?_); refine goesL_ (some 11) rfl rfl Try.func9 (by kernel_rfl) rfl #[] rfl (by (try simp only [List.map_toArray, List.map_cons, List.map_nil]); first | done | rfl | (simp only [List.length_drop, List.length_take]; rfl)) ?_; (with_reducible refine (pendulumlaw01_awake.calls k  false _ A4.out).mono ?_); rintro e w28 ⟨rfl, hb⟩; refine ⟨_, rfl, ?_⟩; have n0_ := Aside0.mk (below_step (by repeat (first | (with_reducible first | exact HB.out | apply below_alloc | apply pw_below_drewN | apply below_drew1) | exact HB.out)) hb); clear HB; have HB := n0_; clear n0_; (try clear hb); (try clear hb2); (try clear hk); (try clear hi)))
    go_ret
    exact ⟨by first | rfl | (simp [errW_none, errW_some] <;> rfl) | (simp [*, errW_none, errW_some] <;> rfl), by repeat (first | (with_reducible first | exact HB.out | apply below_alloc | apply pw_below_drewN | apply below_drew1) | exact HB.out)⟩

/-- THE ONE PURE STATEMENT of pendulumlaw01_TickCommon: yours. -/
def pendulumlaw01_TickCommon.Pure : Prop := ∀ (a0 : Int) (a1 : Int) (a2 : Int), (Lit.int .i64 a0).wf = true → (Lit.int .i64 a1).wf = true → (Lit.int .i64 a2).wf = true → ∃ k, pendulumlaw01_TickCommon.f k a0 a1 a2 = some true
theorem pendulumlaw01_TickCommon.walk (P : pendulumlaw01_TickCommon.Pure) (a0 : Int) (a1 : Int) (a2 : Int) (w : World) (w0 : (Lit.int .i64 a0).wf = true) (w1 : (Lit.int .i64 a1).wf = true) (w2 : (Lit.int .i64 a2).wf = true) :
    Calls Try.prog 5 #[.int .i64 a0, .int .i64 a1, .int .i64 a2] w fun e w' => e = .returned (.bool true) ∧ Below w.heap.size w w' := by
  obtain ⟨k, h⟩ := P a0 a1 a2 w0 w1 w2
  refine (pendulumlaw01_TickCommon.calls k a0 a1 a2 true w h).mono ?_
  rintro e w' ⟨rfl, hd⟩
  exact ⟨rfl, hd⟩

end Go.Proofs.Ytmfkhfnakjehkaa.PTickCommon
