import Derived.Test.YteaighaaclaimaaRingAwake
import Derived.Test.YteaighaaclaimaaArgs
namespace Go.Proofs.Yteaighaaclaimaa.Ring
open Go.RowKit Go.Proofs.YteaighaaclaimaaW.PrintWords Go.Proofs.YteaighaaclaimaaW.PrintLast Go.Proofs.YteaighaaclaimaaW.PrintMore Go.Proofs.Yteaighaaclaimaa.Args
theorem same_any {w : World} {p g c : Nat} {L : List Int} (h : RQ (Value.int .i64) 3 57 w p g c L) (A : Option Addr) (cap : Nat) (ha : Arg (Value.int .i64) w A L) :
    Calls Try.prog 21 #[.pointer (some ⟨p, 0, none⟩), .slice A L.length cap] w fun e w' => e = .returned (.bool true) ∧ Below w.heap.size w w' := by
  have hle := h.le
  have hc4 : c ≤ 4096 := by obtain ⟨_, _, _, _, _, h, _⟩ := h; exact h
  have H := Lib.hid h
  have HA := Lib.hid ha
  have HALL := all_q_int h
  have HL : ∀ W : World, Below w.heap.size w W → Calls Try.prog 19 #[.pointer (some ⟨p, 0, none⟩)] W fun e w' => e = .returned (.int .i64 (L.length : Int)) ∧ ∃ n, w' = W.drewN n := fun W hW => by
    obtain ⟨f, cs, hr, _⟩ := h.below hW
    exact len_int hr
  have HG : ∀ (i : Nat) (x : Int) (W : World), L[i]? = some x → Below w.heap.size w W → Calls Try.prog 17 #[.pointer (some ⟨p, 0, none⟩), .int .i64 (i : Int)] W fun e w' => e = .returned (.tuple #[.int .i64 x, .bool true]) ∧ ∃ n, w' = W.drewN n := fun i x W hx hW => by
    obtain ⟨f, cs, hr, hc, h1, h2, h3, h4, hv⟩ := h.below hW
    subst hc
    have hi : i < L.length := (List.getElem?_eq_some_iff.1 hx).1
    exact get_int hr h1 h2 h3 h4 i hi x ((hv.2 i hi).trans hx)
  have HN : ∀ (i : Int) (W : World), (i < 0 ∨ (L.length : Int) ≤ i) → Below w.heap.size w W → Calls Try.prog 17 #[.pointer (some ⟨p, 0, none⟩), .int .i64 i] W fun e w' => e = .returned (.tuple #[.int .i64 0, .bool false]) ∧ ∃ n, w' = W.drewN n := fun i W hi hW => by
    obtain ⟨f, cs, hr, _⟩ := h.below hW
    exact get_no_int hr i hi
  have HG := Lib.hid HG
  clear h ha
  go_enter Try.func21, Try.ntmps21
  go_wp2_with fail
  refine HALL.mono ?_; rintro e w3 ⟨v, rfl, hown, hb3⟩
  obtain ⟨A2, cap2, rfl, hsh⟩ := own_shape hown
  have hsh := Lib.hid hsh
  have HL3 := HL w3 hb3
  have hb3 := Lib.hid hb3
  clear hown HALL HL
  go_wp2_with (go_at_call 19; refine HL3.mono ?_; rintro e w4 ⟨rfl, n4, rfl⟩)
  have HN := Lib.hid HN
  go_loopw [6] (fun i wq => ∃ k : Nat, k ≤ L.length ∧ i = .int .i64 (k : Int) ∧ Below w3.heap.size w3 wq) (fun i _ => L.length - (intOf i).toNat)
  case atStart => exact ⟨0, Nat.zero_le _, rfl, pw_below_drewN (Below.refl _ _) _⟩
  case round =>
    obtain ⟨k, hk, rfl, hbq⟩ := hrel
    by_cases hlt : k < L.length
    · obtain ⟨x, hx⟩ : ∃ x, L[k]? = some x := ⟨L[k], by simp [hlt]⟩
      obtain ⟨b, off, rfl, hbw, hcell⟩ := HA.out (by omega)
      obtain ⟨g2, rfl, _, hg2, _, hc2⟩ := hsh.out (by omega)
      have c1 := (hbq.cell (p := ⟨g2, k, none⟩) hg2).trans (hc2 k x hx)
      have c2 := (hbq.cell (p := ⟨b, off + k, none⟩) (Nat.lt_of_lt_of_le hbw hb3.out.size)).trans ((hb3.out.cell (p := ⟨b, off + k, none⟩) hbw).trans (hcell k x hx))
      have hb4 : Below w.heap.size w wr := hb3.out.trans (hbq.mono hb3.out.size)
      have HP := HG.out k x wr hx hb4
      have hbq2 := Lib.hid hbq
      have hlt2 : (k : Int) < (L.length : Int) := by omega
      have hlt3 := Lib.hid hlt
      clear hx hcell hc2 hbq hb4 hlt HL3
      go_wp2_with (go_at_call 17; refine HP.mono ?_; rintro e w5 ⟨rfl, n5, rfl⟩)
      go_quiet (fail)
      go_wp2
      go_roundw
      case rel => exact ⟨k + 1, by have := hlt3.out; omega, by go_num, pw_below_drewN hbq2.out _⟩
      case measure => have := hlt3.out; simp [intOf]; omega
    · obtain rfl : k = L.length := by omega
      have hb4 : Below w.heap.size w wr := hb3.out.trans (hbq.mono hb3.out.size)
      have H1 : ∀ m : Nat, Calls Try.prog 17 #[.pointer (some ⟨p, 0, none⟩), .int .i64 (L.length : Int)] (wr.drewN m) fun e w' => e = .returned (.tuple #[.int .i64 0, .bool false]) ∧ ∃ n, w' = (wr.drewN m).drewN n := fun m => HN.out _ (wr.drewN m) (by omega) (pw_below_drewN hb4 m)
      have H2 : ∀ m : Nat, Calls Try.prog 17 #[.pointer (some ⟨p, 0, none⟩), .int .i64 (-1)] (wr.drewN m) fun e w' => e = .returned (.tuple #[.int .i64 0, .bool false]) ∧ ∃ n, w' = (wr.drewN m).drewN n := fun m => HN.out _ (wr.drewN m) (by omega) (pw_below_drewN hb4 m)
      have hb5 := Lib.hid hb4
      clear hbq hb4 HL3
      go_wp2_with fail
      refine (H1 0).mono ?_; rintro e w5 ⟨rfl, n5, rfl⟩
      go_wp2_with fail
      refine (H2 _).mono ?_; rintro e w6 ⟨rfl, n6, rfl⟩
      go_wp2
      go_ret
      exact ⟨rfl, pw_below_drewN hb5.out _⟩
end Go.Proofs.Yteaighaaclaimaa.Ring
