/- Reset of a trace. -/
import Derived.Test.YtbcpfbmoednghaaTrKeeps
namespace Go.Proofs.Ytbcpfbmoednghaa.Tr
open Go.RowKit Go.Proofs.YtbcpfbmoednghaaW.PrintWords Go.Proofs.YtbcpfbmoednghaaW.PrintLast Go.Proofs.YtbcpfbmoednghaaW.PrintMore Go.Proofs.Ytbcpfbmoednghaa.Ring Go.Proofs.Ytbcpfbmoednghaa.Ring5 Go.Proofs.Ytbcpfbmoednghaa.Args
set_option linter.unusedSimpArgs false
set_option linter.unusedVariables false
theorem take_q {w : World} {p g c : Nat} {L : List Ev} (h : RQ w p g c L) (hL : 1 ≤ L.length) :
    Calls Try.prog 23 #[.pointer (some ⟨p, 0, none⟩)] w fun e w' => ∃ v, e = .returned v ∧ RQ w' p g c L.tail ∧ Kept w w' (Own p g) ∧ ∀ B, B ≤ p → B ≤ g → Below B w w' := by
  obtain ⟨f, cs, hr, rfl, h1, h2, h3, h4, hv⟩ := h
  have hg := hv.get (i := 0) (by omega)
  rw [Nat.add_zero, Nat.mod_eq_of_lt h3] at hg
  obtain ⟨x, hx⟩ : ∃ x, L[0]? = some x := ⟨L[0], by simp⟩
  rw [hx] at hg
  refine (take_some hr h1 h2 h3 hL h4 x hg).mono ?_
  rintro e w' ⟨v, he, hl⟩
  have e1 : L.tail.length = L.length - 1 := List.length_tail
  exact ⟨v, he, ⟨_, _, by rw [e1]; exact hl.1, by simp, h1, h2, Nat.mod_lt _ (by omega), by omega, by rw [e1]; exact hv.take h3 h4 z5⟩, hl.2.1, hl.2.2⟩
theorem len_q {w : World} {p g c : Nat} {L : List Ev} (h : RQ w p g c L) :
    Calls Try.prog 22 #[.pointer (some ⟨p, 0, none⟩)] w fun e w' => e = .returned (.int .i64 (L.length : Int)) ∧ w' = w := by
  obtain ⟨f, cs, hr, _⟩ := h
  exact len_any hr
theorem RQ.len {w : World} {p g c : Nat} {L : List Ev} (h : RQ w p g c L) : w.cell? ⟨p, 2, none⟩ = some (.int .i64 (L.length : Int)) := by
  obtain ⟨f, cs, hr, _⟩ := h
  exact blk_cell hr.1 2
theorem store_any (a : Addr) (y : Int) (u : Value) (w : World) (hc : w.cell? a = some u) (hz : w.frozen? a = false) :
    Calls Try.prog 24 #[.pointer (some a), .int .i64 y] w fun e w' => (∃ v, e = .returned v) ∧ w' = w.setCell a (.int .i64 y) := by
  have hst := run_call_store (P := Try.prog) Try.func29 (by kernel_rfl) (by kernel_rfl) (by kernel_rfl) (by kernel_rfl) (y := y) (k := .i64) hc hz
  go_enter Try.func24, Try.ntmps24
  go_wp2
  go_end0
  exact ⟨⟨_, rfl⟩, rfl⟩
/-- The first n counts are none. -/
def zf (cn : Nat → Nat) (n : Nat) : Nat → Nat := fun i => if i < n then 0 else cn i
theorem tcells_zf (p : Nat) (cn : Nat → Nat) (i : Nat) (hi : i < 192) : (tcells p (zf cn i)).setIfInBounds (1 + i) (.int .i64 0) = tcells p (zf cn (i + 1)) := by
  apply Array.ext (by simp [tcells])
  intro j h1 h2
  rw [Array.getElem_setIfInBounds (by simpa using h1)]
  cases j with
  | zero => rw [if_neg (by omega)]; simp [tcells]
  | succ j =>
    split
    · obtain rfl : i = j := by omega
      simp [tcells, zf]
    · have e : (j < i + 1) = (j < i) := by apply propext; omega
      simp [tcells, zf, e]
theorem tcells_all (p : Nat) (cn : Nat → Nat) : tcells p (zf cn 192) = tcells p (fun _ => 0) := by
  apply Array.ext (by simp [tcells])
  intro j h1 h2
  cases j with
  | zero => simp [tcells]
  | succ j =>
    have hj : j < 192 := by have : j + 1 < 193 := by simpa [tcells] using h1
                            omega
    simp [tcells, zf, hj]
theorem tcells_none (p : Nat) (cn : Nat → Nat) : tcells p (zf cn 0) = tcells p cn := by
  have : zf cn 0 = cn := by funext i; simp [zf]
  rw [this]
/-- What stands while the counts are cleared. -/
def Clr (w wr : World) (pt p g c : Nat) (cn : Nat → Nat) (n : Nat) : Prop :=
  wr.heap[pt]? = some (.cells (tcells p (zf cn n)) 50 (0, 0)) ∧ RQ wr p g c [] ∧ Kept w wr (fun k => k = pt ∨ k = p ∨ k = g) ∧ ∀ B, B ≤ pt → B ≤ p → B ≤ g → Below B w wr
theorem Clr.step {w wr : World} {pt p g c : Nat} {cn : Nat → Nat} {n : Nat} (h : Clr w wr pt p g c cn n) (hn : n < 192) (h1 : pt ≠ p) (h2 : pt ≠ g) : Clr w (wr.setCell ⟨pt, 1 + n, none⟩ (.int .i64 0)) pt p g c cn (n + 1) := by
  obtain ⟨k1, k2, k3, k4⟩ := h
  refine ⟨blk_put k1 (1 + n) _ (tcells_zf p cn n hn), k2.same (Below.heap_setCell wr ⟨pt, 1 + n, none⟩ _ p (Ne.symm h1)) (Below.heap_setCell wr ⟨pt, 1 + n, none⟩ _ g (Ne.symm h2)), k3.setCell (p := ⟨pt, _, none⟩) (.inl (.inl rfl)) _, fun B b1 b2 b3 => (k4 B b1 b2 b3).setCell (p := ⟨pt, _, none⟩) b1 _⟩
set_option maxRecDepth 100000 in
theorem reset_any {w : World} {pt p g c : Nat} {M : List Ev} {cn : Nat → Nat} (h : TS w pt p g c M cn) :
    Calls Try.prog 15 #[.pointer (some ⟨pt, 0, none⟩)] w fun e w' => (∃ v, e = .returned v) ∧ TS w' pt p g c [] (fun _ => 0) ∧ Kept w w' (fun k => k = pt ∨ k = p ∨ k = g) ∧ ∀ B, B ≤ pt → B ≤ p → B ≤ g → Below B w w' := by
  have hfar := h.far
  obtain ⟨h1, h2⟩ := h
  obtain ⟨L0, hL0⟩ : ∃ L0, L0 = lastc c M := ⟨_, rfl⟩
  rw [← hL0] at h2
  replace h1 := Lib.hid h1
  replace h2 := Lib.hid h2
  clear hL0
  go_enter Try.func15, Try.ntmps15
  go_wp2_with fail
  go_loopw [4] (fun s wr => ∃ L, RQ wr p g c L ∧ wr.heap[pt]? = some (.cells (tcells p cn) 50 (0, 0)) ∧ Kept w wr (fun k => k = pt ∨ k = p ∨ k = g) ∧ ∀ B, B ≤ pt → B ≤ p → B ≤ g → Below B w wr) (fun _ wr => (intOf ((wr.cell? ⟨p, 2, none⟩).getD undef)).toNat)
  case atStart => exact ⟨L0, h2.out, h1.out, Kept.refl _ _, fun _ _ _ _ => Below.refl _ _⟩
  case round =>
    obtain ⟨L, hq, hb, hk, hbl⟩ := hrel
    have X1 := len_q hq
    have c0 : wr.cell? ⟨pt, 0, none⟩ = some (.pointer (some ⟨p, 0, none⟩)) := (blk_cell hb 0).trans (by simp [tcells])
    have hlen := Lib.hid hq.len
    by_cases hlt : 1 ≤ L.length
    · have hlt2 : (0 : Int) < (L.length : Int) := by omega
      have X2 := take_q hq hlt
      have hQ := Lib.hid hq
      have hB := Lib.hid hb
      have hK := Lib.hid hk
      have hBl := Lib.hid hbl
      clear hq hb hk hbl
      go_wp2_with fail
      refine X1.mono ?_; rintro e w4 ⟨rfl, hw4⟩
      subst hw4
      go_wp2_with fail
      refine X2.mono ?_; rintro e w5 ⟨v, rfl, hq5, hk5, hb5⟩
      have hl5 := Lib.hid hq5.len
      have hB5 := Lib.hid (blk_kept hB.out hk5 (fun h => h.elim hfar.1 hfar.2))
      have hK5 := Lib.hid (hK.out.then_ hk5 (S2 := Own p g) (fun k hk => .inl (.inr hk)))
      have hBl5 := Lib.hid (fun B b1 b2 b3 => (hBl.out B b1 b2 b3).trans (hb5 B b2 b3))
      replace hq5 := Lib.hid hq5
      clear X1 X2 hQ hB hK hBl hk5 hb5
      go_wp2
      go_roundw
      case rel => exact ⟨_, hq5.out, hB5.out, hK5.out, hBl5.out⟩
      case measure => rw [hl5.out, hlen.out]; simp [intOf]; omega
    · obtain rfl : L = [] := List.length_eq_zero_iff.mp (by omega)
      have hC : Clr w wr pt p g c cn 0 := ⟨by rw [tcells_none]; exact hb, hq, hk, hbl⟩
      obtain ⟨wo, rfl⟩ : ∃ wo : World, wo = wr := ⟨_, rfl⟩
      replace hC := Lib.hid hC
      clear hq hb hk hbl
      go_wp2_with fail
      refine X1.mono ?_; rintro e w4 ⟨rfl, hw4⟩
      subst hw4
      clear X1 hlen
      go_wp2_with fail
      go_loopw [15] (fun s wr => ∃ a : Nat, a ≤ 12 ∧ s = .int .i64 (a : Int) ∧ Clr w wr pt p g c cn (a * 16)) (fun s _ => 12 - (intOf s).toNat)
      case atStart => exact ⟨0, by omega, rfl, hC.out⟩
      case round =>
        obtain ⟨a, ha, rfl, hc⟩ := hrel
        by_cases hlt : a < 12
        · have hlt2 : (a : Int) < 12 := by omega
          replace hc := Lib.hid hc
          go_wp2_with fail
          go_loopw [18] (fun s wr => ∃ b : Nat, b ≤ 16 ∧ s = .int .i64 (b : Int) ∧ Clr w wr pt p g c cn (a * 16 + b)) (fun s _ => 16 - (intOf s).toNat)
          case atStart => exact ⟨0, by omega, rfl, hc.out⟩
          case round =>
            obtain ⟨b, hb, rfl, hd⟩ := hrel
            by_cases hlb : b < 16
            · have hlb2 : (b : Int) < 16 := by omega
              have hcc : wr.cell? ⟨pt, 1 + a * 16 + b, none⟩ = some (.int .i64 (zf cn (a * 16 + b) (a * 16 + b) : Int)) := (blk_cell hd.1 _).trans (by rw [Nat.add_assoc]; exact tcells_at p _ _ (by omega))
              have hcz : wr.frozen? ⟨pt, 1 + a * 16 + b, none⟩ = false := blk_frozen hd.1 _
              have X1 := store_any ⟨pt, 1 + a * 16 + b, none⟩ 0 _ wr hcc hcz
              have hst := Lib.hid (hd.step (by omega) hfar.1 hfar.2)
              clear hcc hcz hd
              go_wp2_with fail
              refine X1.mono ?_; rintro e w4 ⟨⟨v, rfl⟩, hw4⟩
              replace hw4 := Lib.hid hw4
              clear X1
              go_wp2
              go_roundw
              case rel => exact ⟨b + 1, by omega, by go_num, by rw [hw4.out, Nat.add_assoc]; exact hst.out⟩
              case measure => simp [intOf]; omega
            · obtain rfl : b = 16 := by omega
              have hd' := Lib.hid hd
              clear hd
              go_wp2
              go_roundw
              case rel => exact ⟨a + 1, by omega, by go_num, by rw [Nat.add_mul]; exact hd'.out⟩
              case measure => simp [intOf]; omega
        · obtain rfl : a = 12 := by omega
          have hc' := Lib.hid hc
          clear hc
          go_wp2
          go_end0
          exact ⟨⟨_, rfl⟩, ⟨by rw [← tcells_all p cn]; exact hc'.out.1, by rw [show lastc c ([] : List Ev) = [] by simp [lastc]]; exact hc'.out.2.1⟩, hc'.out.2.2.1, hc'.out.2.2.2⟩
end Go.Proofs.Ytbcpfbmoednghaa.Tr
