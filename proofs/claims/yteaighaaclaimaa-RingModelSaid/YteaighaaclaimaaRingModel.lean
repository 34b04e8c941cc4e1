import Derived.Test.YteaighaaclaimaaRingSame
namespace Go.Proofs.Yteaighaaclaimaa.Ring
open Go.RowKit Go.Proofs.YteaighaaclaimaaW.PrintWords Go.Proofs.YteaighaaclaimaaW.PrintLast Go.Proofs.YteaighaaclaimaaW.PrintMore Go.Proofs.Yteaighaaclaimaa.Args
/-- A slice of the call's own that may begin inside its block, beside the ring's two blocks. -/
def MQ (w : World) (base p g : Nat) (v : Value) (M : List Int) : Prop := (Kd.int .i64).Q 3 w base (fun k => k ≠ p ∧ k ≠ g) v M
theorem MQ.kept {w W : World} {base p g : Nat} {v : Value} {M : List Int} (h : MQ w base p g v M) (hk : Kept w W (Own p g)) : MQ W base p g v M :=
  Kd.Q_kept h hk (fun _ hk h2 => h2.elim hk.1 hk.2)
theorem MQ.below {w W : World} {base p g : Nat} {v : Value} {M : List Int} (h : MQ w base p g v M) (hb : Below w.heap.size w W) : MQ W base p g v M := Kd.Q_below h hb
theorem MQ.arg {w : World} {base p g : Nat} {A : Option Addr} {n cap : Nat} {M : List Int} (h : MQ w base p g (.slice A n cap) M) : n = M.length ∧ Arg (Value.int .i64) w A M := by
  obtain ⟨h1, h2, _⟩ := Kd.Q_reads' h
  refine ⟨h1, fun hp => ?_⟩
  obtain ⟨g3, o, cap', e, _, hlt, _⟩ := Kd.Q_form h hp
  simp only [Value.slice.injEq] at e
  obtain ⟨rfl, rfl, rfl⟩ := e
  refine ⟨g3, o, rfl, hlt, fun i x hx => ?_⟩
  have hi : i < M.length := (List.getElem?_eq_some_iff.1 hx).1
  obtain ⟨hc, _⟩ := Kd.Q_cell (0 : Int) h (i : Int) (by omega) (by omega)
  have e : rdOf (0 : Int) M (i : Int) = x := by
    simp [rdOf, List.getD_eq_getElem?_getD, hx]
  rw [e] at hc
  exact hc
theorem RQ.grown {w W : World} {p g c base : Nat} {L : List Int} {v : Value} {M : List Int} (h : RQ (Value.int .i64) 3 57 w p g c L) (hm : MQ w base p g v M) (hg : w.grownBy W v.ownBlock) : RQ (Value.int .i64) 3 57 W p g c L :=
  h.same (hg.block p h.lt.1 (fun e => (hm.1 p e.symm).1 rfl)) (hg.block g h.lt.2 (fun e => (hm.1 g e.symm).2 rfl))
theorem cut_run (A : Option Addr) (n c : Nat) (h : 1 ≤ n) (W : World) : (Instr.slice 45 (.slice A n c) (some (.int .i64 1)) none none).run Try.prog W = .ok (.slice (if c = 1 then A else A.map (·.add 1)) (n - 1) (c - 1)) W := by
  obtain ⟨i, hi, hz0, hz1, hz2⟩ := info_parts info3
  have hu : Try.prog.underlying 45 = some (.slice (Try.prog.elem 45)) := by kernel_rfl
  have hel : Try.prog.elem 45 = 3 := by kernel_rfl
  rw [run_slice_l W 45 A n c hu .i64 (1 : Int) (by omega) (by omega), hel]
  simp [sizeOf, typeInfo, hi, hz1, sliced, Result.andThen]
theorem MQ.cut {w : World} {base p g : Nat} {A : Option Addr} {n c : Nat} {M : List Int} (h : MQ w base p g (.slice A n c) M) (hn : 1 ≤ M.length) : MQ w base p g (.slice (if c = 1 then A else A.map (·.add 1)) (n - 1) (c - 1)) M.tail := by
  have := Kd.Q_drop h (k := 1) hn
  rw [List.drop_one] at this
  exact this
/-- The ring and the list of the statement's own hold the same. -/
def ST (w W : World) (p g c : Nat) (v : Value) (M : List Int) : Prop := RQ (Value.int .i64) 3 57 W p g c M ∧ MQ W w.heap.size p g v M ∧ Below w.heap.size w W
/-- .. the ring is ahead of the list. -/
def ST2 (w W : World) (p g c : Nat) (v : Value) (M M2 : List Int) : Prop := RQ (Value.int .i64) 3 57 W p g c M2 ∧ MQ W w.heap.size p g v M ∧ Below w.heap.size w W
section
variable {w W W2 : World} {p g c n cap : Nat} {A : Option Addr} {v v1 : Value} {M M2 : List Int} {x : Int}
theorem ST.step (h : ST w W p g c v M) (hp : w.heap.size ≤ p) (hg : w.heap.size ≤ g) (k : LQ (Value.int .i64) 3 57 W W2 p g c M2) : ST2 w W2 p g c v M M2 :=
  ⟨k.1, h.2.1.kept k.2.1, h.2.2.trans (k.2.2 _ hp hg)⟩
theorem ST.same (h : ST w W p g c (.slice A n cap) M) : Calls Try.prog 21 #[.pointer (some ⟨p, 0, none⟩), .slice A n cap] W fun e w' => e = .returned (.bool true) ∧ ST w w' p g c (.slice A n cap) M := by
  obtain ⟨h1, h2, h3⟩ := h
  obtain ⟨rfl, ha⟩ := h2.arg
  exact (same_any h1 A cap ha).mono fun _ _ ⟨he, hb⟩ => ⟨he, h1.below hb, h2.below hb, h3.trans (hb.mono h3.size)⟩
theorem ST2.app (h : ST2 w W p g c v M M2) {M3 : List Int} (h1 : (Kd.int .i64).Q 3 W2 w.heap.size (fun k => k ≠ p ∧ k ≠ g) v1 M3) (hb : Below w.heap.size w W2) (hg : W.grownBy W2 v.ownBlock) : ST2 w W2 p g c v1 M3 M2 :=
  ⟨h.1.grown h.2.1 hg, h1, hb⟩
theorem ST2.cut (h : ST2 w W p g c (.slice A n cap) M M2) (hn : 1 ≤ M.length) : ST2 w W p g c (.slice (if cap = 1 then A else A.map (·.add 1)) (n - 1) (cap - 1)) M.tail M2 := ⟨h.1, h.2.1.cut hn, h.2.2⟩
theorem ST2.cut2 (h : ST2 w W p g c (.slice A (n + 1) cap) M M2) (hn : M.length = n + 1) :
    ∃ g3 o, A = some ⟨g3, o, none⟩ ∧ W.cell? ⟨g3, o, none⟩ = some (.int .i64 (M.headD 0)) ∧ ((cap = 1 ∧ ST2 w W p g c (.slice (some ⟨g3, o, none⟩) n 0) M.tail M2) ∨ (¬ cap = 1 ∧ ST2 w W p g c (.slice (some ⟨g3, o + 1, none⟩) n (cap - 1)) M.tail M2)) := by
  obtain ⟨_, ha⟩ := h.2.1.arg
  obtain ⟨g3, o, rfl, _, hc⟩ := ha (by omega)
  have h2 := h.cut (by omega)
  rw [Nat.add_sub_cancel] at h2
  refine ⟨g3, o, rfl, ?_, ?_⟩
  · cases M with
    | nil => simp at hn
    | cons y r => exact hc 0 y rfl
  · by_cases e : cap = 1
    · subst e
      exact .inl ⟨rfl, h2⟩
    · rw [if_neg e] at h2
      exact .inr ⟨e, h2⟩
theorem ST2.st (h : ST2 w W p g c v M M) : ST w W p g c v M := h
theorem ST2.fresh (h : ST2 w W p g c v M M2) : ∀ k, W.heap.size ≤ k → k ≠ p ∧ k ≠ g := fun k hk => by have := h.1.lt; omega
theorem ST2.shape (h : ST2 w W p g c v M M2) : ∃ A cap, v = .slice A M.length cap ∧ M.length ≤ cap := Kd.Q_slice h.2.1
end
/-- An act's cells. -/
def RAct (cs : List Value) (x : Int × Int) : Prop := cs = [.int .i64 x.1, .int .i64 x.2]
set_option maxRecDepth 100000 in
set_option maxHeartbeats 800000 in
theorem model_any (w : World) (c : Nat) (A : Option Addr) (l : List (Int × Int)) (cap : Nat) (ha : ArgN RAct 2 w A l) (h2 : l.length ≤ 500) (hc1 : 1 ≤ c) (hc2 : c ≤ 4096) :
    Calls Try.prog 6 #[.int .i64 (c : Int), .slice A l.length cap] w fun e w' => e = .returned (.bool true) ∧ Below w.heap.size w w' := by
  have e1 : (l.length : Int) ≤ 500 := by omega
  have HA := Lib.hid ha
  clear ha
  go_enter Try.func6, Try.ntmps6
  go_wp2_with fail
  refine (awake_any _).mono ?_; rintro e w1 ⟨rfl, hb1⟩
  have hb1 := Lib.hid hb1
  go_wp2_with fail
  refine (new_q_int w1 c hc1 hc2).mono ?_; rintro e w2 ⟨p, g, rfl, hr, hp, hg, hb2⟩
  have hb2 : Hid (Below w.heap.size w w2) := hb1.out.trans (hb2.mono hb1.out.size)
  have hr := Lib.hid hr
  have hp : w.heap.size ≤ p := Nat.le_trans hb1.out.size hp
  have hg : w.heap.size ≤ g := Nat.le_trans hb1.out.size hg
  clear hb1
  go_wp2_with fail
  go_loopw [7, 8] (fun v i wr => ∃ (k : Nat) (M : List Int), k ≤ l.length ∧ i = .int .i64 (k : Int) ∧ M.length ≤ k ∧ RQ (Value.int .i64) 3 57 wr p g c M ∧ MQ wr w.heap.size p g v M ∧ Below w.heap.size w wr) (fun _ i _ => l.length - (intOf i).toNat)
  case atStart => exact ⟨0, [], Nat.zero_le _, rfl, Nat.zero_le _, hr.out, Kd.Q_nil _ _ _ _ _, hb2.out⟩
  case round =>
    obtain ⟨k, M, hk, rfl, hMk, hrq, hmq, hbel⟩ := hrel
    by_cases hlt : k < l.length
    · obtain ⟨A3, cap3, rfl, hle3⟩ : ∃ A3 cap3, u7 = .slice A3 M.length cap3 ∧ M.length ≤ cap3 := Kd.Q_slice hmq
      obtain ⟨⟨d, x⟩, hx⟩ : ∃ x, l[k]? = some x := ⟨l[k], by simp [hlt]⟩
      obtain ⟨b, off, rfl, hbw, hcell⟩ := HA.out (by omega)
      obtain ⟨cs, _, hcs, hcc⟩ := hcell k _ hx
      unfold RAct at hcs
      subst hcs
      have hcd := (hbel.cell (p := ⟨b, off + k * 2, none⟩) hbw).trans (hcc 0 _ rfl)
      have hcx := (hbel.cell (p := ⟨b, off + k * 2 + 1, none⟩) hbw).trans (hcc 1 _ rfl)
      simp only at hcd hcx
      have hle := hrq.le
      have F : Hid (ST w wr p g c (.slice A3 M.length cap3) M) := ⟨hrq, hmq, hbel⟩
      have hMk2 : (M.length : Int) ≤ 500 := by omega
      have hlt2 : (k : Int) < (l.length : Int) := by omega
      have HX : Hid (∀ W, Below w.heap.size wr W → W.cell? ⟨b, off + k * 2, none⟩ = some (.int .i64 d) ∧ W.cell? ⟨b, off + k * 2 + 1, none⟩ = some (.int .i64 x)) := fun W hW => ⟨(hW.cell (p := ⟨b, off + k * 2, none⟩) hbw).trans hcd, (hW.cell (p := ⟨b, off + k * 2 + 1, none⟩) hbw).trans hcx⟩
      clear hrq hmq hbel hx hcc hcell hr hb2
      by_cases hd0 : d = 0
      · subst hd0
        by_cases hfull : M.length = c
        · have hf1 : ((M.length : Int) == (c : Int)) = true := by rw [beq_iff_eq]; omega
          have HP := put_qf_int F.out.1 x hfull
          clear hfull
          go_wp2_with (first
            | (go_at_call 16; refine HP.mono ?_; rintro e w3 ⟨rfl, hl3⟩; have h3 := Lib.hid (F.out.step hp hg hl3))
            | (go_at_call 21; (with_reducible refine (ST.same (ST2.st h3.out)).mono ?_); rintro e w9 ⟨rfl, h9⟩; have h9 := Lib.hid h9))
          all_goals
              go_roundw
              case rel => exact ⟨k + 1, M, by omega, by go_num, by omega, h9.out⟩
              case measure => simp [intOf]; omega
        · have hf1 : ((M.length : Int) == (c : Int)) = false := by rw [beq_eq_false_iff_ne]; omega
          have HP := put_q_int F.out.1 x (by omega)
          clear hfull
          go_wp2_with (first
            | (go_at_call 16; refine HP.mono ?_; rintro e w3 ⟨rfl, hl3⟩; have hy3 := HX.out w3 (hl3.2.2 _ hp hg); have h3 := Lib.hid (F.out.step hp hg hl3); clear hl3)
            | (at_builtin; refine Kd.Q_append (Kd.int .i64) (w0 := w) w.heap.size rfl (.tmp 81) (.tmp 87) 45 3 (.int .i64 0) 8 rfl Try.underlying45 info3 rfl (by decide) (by decide) _ M x [.int .i64 x] (fun k => k ≠ p ∧ k ≠ g) (fun _ => False) rfl rfl rfl (fun _ h => h.elim) (ST2.fresh h3.out) h3.out.2.1 h3.out.2.2 h3.out.2.2.size (by omega) ?_; intro v1 w5 hq5 hb5 hg5 _; have h5 := Lib.hid (h3.out.app hq5 hb5 hg5); obtain ⟨A5, cap5, hv5, _⟩ := h5.out.shape; rw [List.length_append, List.length_singleton] at hv5; subst hv5; clear hq5 hb5 hg5)
            | (go_at_call 21; (with_reducible refine (ST.same (ST2.st h5.out)).mono ?_); rintro e w9 ⟨rfl, h9⟩; have h9 := Lib.hid h9))
          go_roundw
          case rel => exact ⟨k + 1, M ++ [x], by omega, by go_num, by simp; omega, h9.out⟩
          case measure => simp [intOf]; omega
      · have hd1 : (d == 0) = false := by rw [beq_eq_false_iff_ne]; exact hd0
        clear hd0
        by_cases hd2 : d = 1
        · subst hd2
          by_cases hfull : M.length = c
          · have hf1 : ((M.length : Int) == (c : Int)) = true := by rw [beq_iff_eq]; omega
            have HP := push_qf_int F.out.1 x hfull
            have hM1 : 1 ≤ M.length := by omega
            have htl : (M ++ [x]).tail = M.tail ++ [x] := by
              cases M with
              | nil => simp at hM1
              | cons y r => rfl
            have htl := Lib.hid htl
            have hM2 := Lib.hid hM1
            clear hfull hM1
            go_wp2_with (first
              | (go_at_call 20; refine HP.mono ?_; rintro e w3 ⟨rfl, hl3⟩; have hy3 := HX.out w3 (hl3.2.2 _ hp hg); have h3 := Lib.hid (F.out.step hp hg hl3); clear hl3)
              | (at_builtin; refine Kd.Q_append (Kd.int .i64) (w0 := w) w.heap.size rfl (.tmp 104) (.tmp 110) 45 3 (.int .i64 0) 8 rfl Try.underlying45 info3 rfl (by decide) (by decide) _ M x [.int .i64 x] (fun k => k ≠ p ∧ k ≠ g) (fun _ => False) rfl rfl rfl (fun _ h => h.elim) (ST2.fresh h3.out) h3.out.2.1 h3.out.2.2 h3.out.2.2.size (by omega) ?_; intro v1 w5 hq5 hb5 hg5 _; have h5 := Lib.hid (h3.out.app hq5 hb5 hg5); obtain ⟨A5, cap5, hv5, _⟩ := h5.out.shape; rw [List.length_append, List.length_singleton] at hv5; subst hv5; clear hq5 hb5 hg5; obtain ⟨g3, o3, rfl, _, hh6⟩ := h5.out.cut2 (by simp); rw [htl.out] at hh6; rcases hh6 with ⟨rfl, h6⟩ | ⟨hcp, h6⟩ <;> have h6 := Lib.hid h6)
              | (go_at_call 21; (with_reducible refine (ST.same (ST2.st h6.out)).mono ?_); rintro e w9 ⟨rfl, h9⟩; have h9 := Lib.hid h9))
            all_goals
              go_roundw
              case rel => exact ⟨k + 1, M.tail ++ [x], by omega, by go_num, by have := hM2.out; simp; omega, h9.out⟩
              case measure => simp [intOf]; omega
          · have hf1 : ((M.length : Int) == (c : Int)) = false := by rw [beq_eq_false_iff_ne]; omega
            have HP := push_q_int F.out.1 x (by omega)
            clear hfull
            go_wp2_with (first
              | (go_at_call 20; refine HP.mono ?_; rintro e w3 ⟨rfl, hl3⟩; have hy3 := HX.out w3 (hl3.2.2 _ hp hg); have h3 := Lib.hid (F.out.step hp hg hl3); clear hl3)
              | (at_builtin; refine Kd.Q_append (Kd.int .i64) (w0 := w) w.heap.size rfl (.tmp 104) (.tmp 110) 45 3 (.int .i64 0) 8 rfl Try.underlying45 info3 rfl (by decide) (by decide) _ M x [.int .i64 x] (fun k => k ≠ p ∧ k ≠ g) (fun _ => False) rfl rfl rfl (fun _ h => h.elim) (ST2.fresh h3.out) h3.out.2.1 h3.out.2.2 h3.out.2.2.size (by omega) ?_; intro v1 w5 hq5 hb5 hg5 _; have h5 := Lib.hid (h3.out.app hq5 hb5 hg5); obtain ⟨A5, cap5, hv5, _⟩ := h5.out.shape; rw [List.length_append, List.length_singleton] at hv5; subst hv5; clear hq5 hb5 hg5)
              | (go_at_call 21; (with_reducible refine (ST.same (ST2.st h5.out)).mono ?_); rintro e w9 ⟨rfl, h9⟩; have h9 := Lib.hid h9))
            go_roundw
            case rel => exact ⟨k + 1, M ++ [x], by omega, by go_num, by simp; omega, h9.out⟩
            case measure => simp [intOf]; omega
        · have hd3 : (d == 1) = false := by rw [beq_eq_false_iff_ne]; exact hd2
          clear hd2
          cases M with
          | nil =>
            have HP := take_qn_int F.out.1
            rw [List.length_nil] at F
            rw [List.length_nil]
            go_wp2_with (first
              | (go_at_call 18; refine HP.mono ?_; rintro e w3 ⟨rfl, hl3⟩; have h3 := Lib.hid (F.out.step hp hg hl3); clear hl3)
              | (go_at_call 21; (with_reducible refine (ST.same (ST2.st h3.out)).mono ?_); rintro e w9 ⟨rfl, h9⟩; have h9 := Lib.hid h9))
            go_roundw
            case rel => exact ⟨k + 1, [], by omega, by go_num, by simp, h9.out⟩
            case measure => simp [intOf]; omega
          | cons y M =>
            have HP := take_q_int F.out.1
            rw [List.length_cons] at hMk2 hMk hle F
            rw [List.length_cons]
            clear hle3
            go_wp2_with (first
              | (go_at_call 18; refine HP.mono ?_; rintro e w3 ⟨rfl, hl3⟩; have h3 := F.out.step hp hg hl3; obtain ⟨g3, o, rfl, hc3, hh6⟩ := h3.cut2 (by simp); rw [List.tail_cons] at hh6; rw [List.headD_cons] at hc3; clear hl3 h3; rcases hh6 with ⟨rfl, h6⟩ | ⟨hcp, h6⟩ <;> have h6 := Lib.hid h6)
              | (go_at_call 21; (with_reducible refine (ST.same (ST2.st h6.out)).mono ?_); rintro e w9 ⟨rfl, h9⟩; have h9 := Lib.hid h9))
            all_goals
              go_roundw
              case rel => exact ⟨k + 1, M, by omega, by go_num, by omega, h9.out⟩
              case measure => simp [intOf]; omega
    · have hbel := Lib.hid hbel
      clear hrq hmq
      go_wp2
      go_ret
      exact ⟨rfl, hbel.out⟩
theorem model_walk (w : World) (places : Int) (wf : (Lit.int .i64 places).wf = true) (A : Option Addr) (l : List (Int × Int)) (cap : Nat) (_hl : l.length ≤ cap) (_hm : cap ≤ maxLen) (ha : ArgN RAct 2 w A l) :
    Calls Try.prog 6 #[.int .i64 places, .slice A l.length cap] w fun e w' => e = .returned (.bool true) ∧ Below w.heap.size w w' := by
  have HA : ∀ W : World, Below w.heap.size w W → Calls Try.prog 8 #[] W fun e w' => e = .returned (.bool true) ∧ Below w.heap.size w w' := fun W hW => (awake_any W).mono fun _ _ ⟨he, hb⟩ => ⟨he, hW.trans (hb.mono hW.size)⟩
  by_cases h : l.length ≤ 500
  · by_cases hp : places < 1 ∨ 4096 < places
    · have h1 : (l.length : Int) ≤ 500 := by omega
      have HN : ∀ W : World, Below w.heap.size w W → Calls Try.prog 15 #[.int .i64 places] W fun e w' => e = .returned (.tuple #[.pointer none, .int .i64 1]) ∧ Below w.heap.size w w' := fun W hW => (new_no_int W places hp).mono fun _ _ ⟨he, n, hw⟩ => ⟨he, hw ▸ pw_below_drewN hW n⟩
      rcases hp with hp | hp
      · clear h ha wf
        go_enter Try.func6, Try.ntmps6
        go_wp2_with (first | (go_at_call 8; refine (HA _ (Below.refl _ _)).mono ?_; rintro e w1 ⟨rfl, hb⟩) | (go_at_call 15; refine (HN _ hb).mono ?_; rintro e w2 ⟨rfl, hb2⟩))
        go_ret
        exact ⟨rfl, hb2⟩
      · have hp2 : (1 : Int) ≤ places := by omega
        clear h ha wf
        go_enter Try.func6, Try.ntmps6
        go_wp2_with (first | (go_at_call 8; refine (HA _ (Below.refl _ _)).mono ?_; rintro e w1 ⟨rfl, hb⟩) | (go_at_call 15; refine (HN _ hb).mono ?_; rintro e w2 ⟨rfl, hb2⟩))
        go_ret
        exact ⟨rfl, hb2⟩
    · obtain ⟨c, rfl⟩ : ∃ c : Nat, places = (c : Int) := ⟨places.toNat, by omega⟩
      exact model_any w c A l cap ha h (by omega) (by omega)
  · have h1 : (500 : Int) < (l.length : Int) := by omega
    clear h ha wf
    go_enter Try.func6, Try.ntmps6
    go_wp2_with (go_at_call 8; refine (HA _ (by first | exact Below.refl _ _ | assumption)).mono ?_; rintro e w1 ⟨rfl, hb⟩)
    go_ret
    exact ⟨rfl, by assumption⟩
/-- An act, as it is read. -/
theorem RAct.read {H : Type} {enc : TypeId × Value → H} {w : World} {held : Bool} : ∀ n cs y, DataW.trod enc Try.prog w 0 (fun _ => true) held n 47 cs = some y → ∃ x, RAct cs x := fun n cs y h => by
  obtain ⟨hl, hf⟩ := open_cells Try.underlying47 (by kernel_rfl) (by kernel_rfl) h
  obtain ⟨v0, y0, m0, c0, t0⟩ := hf 0 _ rfl
  obtain ⟨v1, y1, m1, c1, t1⟩ := hf 1 _ rfl
  obtain ⟨a, e0, _, _⟩ := DataW.trod_int Try.underlying3 t0
  obtain ⟨b, e1, _, _⟩ := DataW.trod_int Try.underlying3 t1
  match cs, hl with
  | [u0, u1], _ =>
    simp at c0 c1 e0 e1
    subst c0 c1 e0 e1
    exact ⟨(a, b), rfl⟩
end Go.Proofs.Yteaighaaclaimaa.Ring
