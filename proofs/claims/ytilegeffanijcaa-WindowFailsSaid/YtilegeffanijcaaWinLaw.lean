/- Contracts of the laws' own functions over windows. -/
import Derived.Test.YtilegeffanijcaaWin
import Derived.Test.YtilegeffanijcaaArgs
namespace Go.Proofs.Ytilegeffanijcaa.Win
open Go.RowKit Go.Proofs.YtilegeffanijcaaW.PrintWords Go.Proofs.YtilegeffanijcaaW.PrintLast Go.Proofs.YtilegeffanijcaaW.PrintMore Go.Proofs.Ytilegeffanijcaa.Ring Go.Proofs.Ytilegeffanijcaa.Args

theorem reads_arg {w : World} {A : Option Addr} {l : List Bool} (h : Arg Value.bool w A l) (hm : l.length ≤ 9223372036854775807) : ReadsOf Value.bool false w A l.length l :=
  ⟨rfl, hm, fun hp => by
    obtain ⟨b, off, rfl, _, hc⟩ := h hp
    refine ⟨_, rfl, fun j hj => ?_⟩
    rw [Go.WideShapes.add_plain]
    exact hc j _ (by rw [List.getElem?_eq_getElem hj, List.getD_eq_getElem?_getD, List.getElem?_eq_getElem hj]; rfl)⟩
theorem WS.apart {w W : World} {pw p g m k p' g' B : Nat} {L : List Bool} (h : WS w pw p g m k L) (hk : Kept w W (Own p' g')) (h1 : p' < B) (h2 : g' < B) (h3 : B ≤ pw) (h4 : B ≤ p) (h5 : B ≤ g) : WS W pw p g m k L :=
  ⟨(hk.2 pw h.lt.1 (by rintro (h | h) <;> omega)).trans h.1, h.2.1.kept hk (by rintro (h | h) <;> omega) (by rintro (h | h) <;> omega), h.2.2⟩
theorem lawmet_any (w : World) (A : Option Addr) (l : List Bool) (cap : Nat) (hr : ReadsOf Value.bool false w A l.length l) :
    Calls Try.prog 13 #[.slice A l.length cap] w fun e w' => e = .returned (.int .i64 (cnt l : Int)) ∧ ∃ nd, w' = w.drewN nd := by
  have hmx := hr.2.1
  have H := Lib.hid hr
  clear hr
  go_enter Try.func13, Try.ntmps13
  go_wp2
  go_loop [3, 4] (fun n i => ∃ k : Nat, k ≤ l.length ∧ i = .int .i64 (k : Int) ∧ n = .int .i64 (cnt (l.take k) : Int)) (fun _ i => l.length - (intOf i).toNat)
  case atStart => exact ⟨0, Nat.zero_le _, rfl, rfl⟩
  case round =>
    obtain ⟨k, hk, rfl, rfl⟩ := hrel
    have hc1 := cnt_le (l.take k)
    have hc2 : (l.take k).length ≤ k := List.length_take_le _ _
    by_cases hlt : k < l.length
    · obtain ⟨b, hb⟩ : ∃ b, l[k]? = some b := ⟨l[k], by simp [hlt]⟩
      obtain ⟨ad, rfl, hc⟩ := H.out.2.2 (by omega)
      have hcell := hc k hlt
      rw [show l.getD k false = b by simp [List.getD_eq_getElem?_getD, hb]] at hcell
      cases b with
      | true =>
        have hs := Lib.hid (cnt_take_true hb)
        clear hb hc
        go_wp2
        go_round
        case rel => exact ⟨k + 1, by omega, by go_num, by rw [hs.out]; go_num⟩
        case measure => simp [intOf]; omega
      | false =>
        have hs := Lib.hid (cnt_take_false hb)
        clear hb hc
        go_wp2
        go_round
        case rel => exact ⟨k + 1, by omega, by go_num, by rw [hs.out]⟩
        case measure => simp [intOf]; omega
    · obtain rfl : k = l.length := by omega
      go_wp2
      go_ret
      exact ⟨rfl, 0, rfl⟩
theorem lawlast_any (w : World) (A : Option Addr) (l : List Bool) (cap k : Nat) (hr : ReadsOf Value.bool false w A l.length l) (hlen : l.length ≤ 100000) (h1 : 1 ≤ k) (h2 : k ≤ 64) :
    Calls Try.prog 10 #[.slice A l.length cap, .int .i64 (k : Int)] w fun e w' => ∃ A' c', e = .returned (.slice A' k c') ∧ ReadsOf Value.bool false w' A' k (lastk k l) ∧ Below w.heap.size w w' := by
  have H := Lib.hid hr
  clear hr
  go_enter Try.func10, Try.ntmps10
  go_wp2
  go_loopw [5, 6] (fun v i wr => ∃ j : Nat, j ≤ k ∧ i = .int .i64 (j : Int) ∧ wr.ownsRow w.heap.size 4 1 v (List.replicate j true).length (encs Value.bool (List.replicate j true)) ∧ Below w.heap.size w wr) (fun _ i _ => k - (intOf i).toNat)
  case atStart => exact ⟨0, Nat.zero_le _, rfl, World.ownsRow_nil _ _ _ _, Below.refl _ _⟩
  case round =>
    obtain ⟨j, hj, rfl, hown, hbel⟩ := hrel
    have hsz := hbel.size
    replace hown := Lib.hid hown
    replace hbel := Lib.hid hbel
    by_cases hlt : j < k
    · go_wp2_with (at_builtin; refine print_append_of Value.bool (w0 := w) w.heap.size rfl (.tmp 12) (.tmp 13) 22 4 (.bool false) 1 rfl Try.underlying22 info4 rfl (by decide) u5 (List.replicate j true) true rfl rfl rfl hown.out hbel.out hsz (by simp; omega) ?_; intro v1 w1 ho1 hb1 _ _; have ho1 := Lib.hid ho1; replace hb1 := Lib.hid hb1)
      go_roundw
      case rel => exact ⟨j + 1, by omega, by go_num, by rw [List.replicate_succ']; exact ho1.out, hb1.out⟩
      case measure => simp [intOf]; omega
    · obtain rfl : j = k := by omega
      have hr1 := Lib.hid (H.out.below hbel.out)
      go_wp2_with (at_builtin; refine print_append_row_of Value.bool false (w0 := w) w.heap.size rfl (.tmp 15) (.tmp 16) 22 4 (.bool false) 1 rfl Try.underlying22 info4 rfl (by decide) (fun _ => rfl) u5 (List.replicate j true) l A l.length cap rfl rfl hown.out hr1.out hbel.out hsz (by simp; omega) ?_; intro v1 w1 ho1 hb1 _ _; have hb1 := Lib.hid hb1; obtain ⟨A2, c2, rfl, hcap, hr2⟩ := own_reads_of_le (enc := Value.bool) (d := false) ho1; obtain ⟨n, hn⟩ : ∃ n, n = (List.replicate j true ++ l).length := ⟨_, rfl⟩; have hn2 : n = j + l.length := (by rw [hn]; simp); rw [← hn] at hcap hr2 ⊢; obtain ⟨i0, hi0, _, hi1, _⟩ := info_parts info4; obtain ⟨A', hcut, hcr⟩ := print_cut_of (P := Try.prog) Value.bool false 22 4 .i64 Try.underlying22 hi0 hi1 A2 n c2 (n - j) (by omega); have hr3 := hcr w1 _ hcap hr2; rw [show ((n - j : Nat) : Int) = (n : Int) - (j : Int) by omega, show n - (n - j) = j by omega] at hcut; rw [show n - (n - j) = j by omega] at hr3; have hr3 := Lib.hid hr3; have i1 : (0 : Int) ≤ (n : Int) := (by omega); have i2 : (n : Int) ≤ 100064 := (by omega); have i3 : n ≤ 9223372036854775807 := (by omega); have HN2 := Lib.hid hn2; clear hcr hr2 ho1 hn hn2)
      go_ret
      exact ⟨_, _, rfl, by have := hr3.out; rw [show n - j = l.length by have := HN2.out; omega] at this; exact this, hb1.out⟩
theorem awake_any (w : World) : Calls Try.prog 8 #[] w fun e w' => e = .returned (.bool true) ∧ Below w.heap.size w w' := by
  go_enter Try.func8, Try.ntmps8
  go_wp2_with fail
  refine (new_yes _ 2 3 (by omega) (by omega) (by omega)).mono ?_; rintro e w1 ⟨pw, p, g, rfl, hw, hpw, hp, hg, hb⟩
  replace hw := Lib.hid hw
  replace hb := Lib.hid hb
  go_wp2_with fail
  refine (new_no _ 3 2 (by omega)).mono ?_; rintro e w2 ⟨rfl, n2, rfl⟩
  have HD := distance_any (w := w1.drewN n2) hw.out (by omega)
  rw [show ((dist 2 (List.replicate 3 true) : Nat) : Int) = 2 by decide] at HD
  go_wp2_with fail
  refine HD.mono ?_; rintro e w3 ⟨rfl, hb3⟩
  clear HD
  have hw3 := Lib.hid ((show WS (w1.drewN n2) pw p g 2 3 _ from hw.out).below hb3)
  have hb3 := Lib.hid ((pw_below_drewN hb.out n2).trans (hb3.mono (by have := hb.out.size; simpa using this)))
  go_wp2_with fail
  refine (push_any hw3.out false).mono ?_; rintro e w4 ⟨rfl, hl4⟩
  have hw4 : Hid (WS w4 pw p g 2 3 [true, true, false]) := Lib.hid hl4.1
  have hb4 := Lib.hid (hb3.out.trans (hl4.2.2 _ hp hg))
  clear hl4
  have HD := distance_any hw4.out (by omega)
  rw [show ((dist 2 [true, true, false] : Nat) : Int) = 1 by decide] at HD
  go_wp2_with fail
  refine HD.mono ?_; rintro e w5 ⟨rfl, hb5⟩
  clear HD
  have hw5 := Lib.hid (hw4.out.below hb5)
  have hb5 := Lib.hid (hb4.out.trans (hb5.mono hb4.out.size))
  go_wp2_with fail
  refine (push_any hw5.out false).mono ?_; rintro e w6 ⟨rfl, hl6⟩
  have hw6 : Hid (WS w6 pw p g 2 3 [true, false, false]) := Lib.hid hl6.1
  have hb6 := Lib.hid (hb5.out.trans (hl6.2.2 _ hp hg))
  clear hl6
  have HD := distance_any hw6.out (by omega)
  rw [show ((dist 2 [true, false, false] : Nat) : Int) = 0 by decide] at HD
  go_wp2_with fail
  refine HD.mono ?_; rintro e w7 ⟨rfl, hb7⟩
  clear HD
  have hw7 := Lib.hid (hw6.out.below hb7)
  have hb7 := Lib.hid (hb6.out.trans (hb7.mono hb6.out.size))
  have HD := fails_any hw7.out
  rw [show decide (cnt [true, false, false] < 2) = true by decide] at HD
  go_wp2_with fail
  refine HD.mono ?_; rintro e w8 ⟨rfl, hb8⟩
  clear HD
  have hw8 := Lib.hid (hw7.out.below hb8)
  have hb8 := Lib.hid (hb7.out.trans (hb8.mono hb7.out.size))
  have HD := met_any hw8.out
  rw [show ((cnt [true, false, false] : Nat) : Int) = 1 by decide] at HD
  go_wp2_with fail
  refine HD.mono ?_; rintro e w9 ⟨rfl, hb9⟩
  clear HD
  have hw9 := Lib.hid (hw8.out.below hb9)
  have hb9 := Lib.hid (hb8.out.trans (hb9.mono hb8.out.size))
  go_wp2_with fail
  refine (last_any hw9.out).mono ?_; rintro e w10 ⟨v, rfl, ho, hb10⟩
  obtain ⟨A, c, rfl, hr⟩ := own_reads_of (enc := Value.bool) (d := false) ho
  have hb10 := Lib.hid (hb9.out.trans (hb10.mono hb9.out.size))
  clear ho hr
  go_wp2
  go_ret
  exact ⟨rfl, hb10.out⟩
/-- Where the law asks for shorter lists it answers what awake answers. -/
theorem awake_twice (w : World) : ∀ W : World, Below w.heap.size w W → Calls Try.prog 8 #[] W fun e w' => e = .returned (.bool true) ∧ Below w.heap.size w w' :=
  fun W hW => (awake_any W).mono fun _ _ ⟨he, hb⟩ => ⟨he, hW.trans (hb.mono hW.size)⟩
end Go.Proofs.Ytilegeffanijcaa.Win
