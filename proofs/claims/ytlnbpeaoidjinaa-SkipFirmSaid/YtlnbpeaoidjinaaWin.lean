/- Contracts of the methods of window.Window, and of its ring of jobs. -/
import Derived.Test.YtlnbpeaoidjinaaRingBool
import Derived.Test.YtlnbpeaoidjinaaWinPlain
namespace Go.Proofs.Ytlnbpeaoidjinaa.Win
open Go.RowKit Go.Proofs.YtlnbpeaoidjinaaW.PrintWords Go.Proofs.YtlnbpeaoidjinaaW.PrintLast Go.Proofs.YtlnbpeaoidjinaaW.PrintMore Go.Proofs.Ytlnbpeaoidjinaa.Ring

/-- A window at block pw: its ring, m and k; its ring holds the list L of k jobs. -/
def WS (w : World) (pw p g m k : Nat) (L : List Bool) : Prop :=
  w.heap[pw]? = some (.cells #[.pointer (some ⟨p, 0, none⟩), .int .i64 (m : Int), .int .i64 (k : Int)] 48 (0, 0)) ∧ RQ Value.bool 4 71 w p g k L ∧ L.length = k
/-- What a call of a window's leaves. -/
def LW (w w' : World) (pw p g m k : Nat) (L : List Bool) : Prop := WS w' pw p g m k L ∧ Kept w w' (Own p g) ∧ ∀ B, B ≤ p → B ≤ g → Below B w w'
section
variable {w : World} {pw p g m k : Nat} {L : List Bool}
theorem WS.below (h : WS w pw p g m k L) {W : World} (hb : Below w.heap.size w W) : WS W pw p g m k L := ⟨blk_below h.1 hb, h.2.1.below hb, h.2.2⟩
theorem WS.drewN (h : WS w pw p g m k L) (n : Nat) : WS (w.drewN n) pw p g m k L := h
theorem WS.lt (h : WS w pw p g m k L) : pw < w.heap.size ∧ p < w.heap.size ∧ g < w.heap.size := ⟨blk_lt h.1, h.2.1.lt.1, h.2.1.lt.2⟩
theorem WS.le (h : WS w pw p g m k L) {W : World} {B : Nat} (hb : Below B w W) (h1 : pw < B) (h2 : p < B) (h3 : g < B) : WS W pw p g m k L :=
  ⟨(hb.block pw h1).trans h.1, h.2.1.same (hb.block p h2) (hb.block g h3), h.2.2⟩
theorem WS.bounds (h : WS w pw p g m k L) : 1 ≤ k ∧ k ≤ 4096 := by
  obtain ⟨_, ⟨_, _, _, _, h1, h2, _⟩, _⟩ := h
  exact ⟨h1, h2⟩
theorem WS.far (h : WS w pw p g m k L) : pw ≠ p ∧ pw ≠ g := by
  obtain ⟨h1, ⟨f, cs, hr, _⟩, _⟩ := h
  exact ⟨blk_ne h1 hr.1 (by decide), blk_ne h1 hr.2 (by decide)⟩
theorem LW.of (h : WS w pw p g m k L) {W : World} {L' : List Bool} (hq : LQ Value.bool 4 71 w W p g k L') (hl : L'.length = k) : LW w W pw p g m k L' :=
  ⟨⟨by rw [hq.2.1.2 pw h.lt.1 (by rintro (h1 | h1)
                                  · exact h.far.1 h1
                                  · exact h.far.2 h1)]; exact h.1, hq.1, hl⟩, hq.2⟩
end

theorem new_no (w : World) (m k : Int) (h : m < 1 ∨ k < m ∨ 64 < k) :
    Calls Try.prog 18 #[.int .i64 m, .int .i64 k] w fun e w' => e = .returned (.tuple #[.pointer none, .int .i64 1]) ∧ ∃ nd, w' = w.drewN nd := by
  by_cases h1 : m < 1
  · clear h
    go_enter Try.func18, Try.ntmps18
    go_wp2
    go_ret2
    exact ⟨rfl, 0, rfl⟩
  · have h1' : (1 : Int) ≤ m := by omega
    by_cases h2 : k < m
    · clear h h1
      go_enter Try.func18, Try.ntmps18
      go_wp2
      go_ret2
      exact ⟨rfl, 0, rfl⟩
    · have h3 : (64 : Int) < k := by omega
      have h4 : m ≤ k := by omega
      clear h h1 h2
      go_enter Try.func18, Try.ntmps18
      go_wp2
      go_ret2
      exact ⟨rfl, 0, rfl⟩
theorem new_yes (w : World) (m k : Nat) (h1 : 1 ≤ m) (h2 : m ≤ k) (h3 : k ≤ 64) :
    Calls Try.prog 18 #[.int .i64 (m : Int), .int .i64 (k : Int)] w fun e w' => ∃ pw p g, e = .returned (.tuple #[.pointer (some ⟨pw, 0, none⟩), .int .i64 0]) ∧ WS w' pw p g m k (List.replicate k true) ∧ w.heap.size ≤ pw ∧ w.heap.size ≤ p ∧ w.heap.size ≤ g ∧ Below w.heap.size w w' := by
  have i1 : (1 : Int) ≤ (m : Int) := by omega
  have i2 : (m : Int) ≤ (k : Int) := by omega
  have i3 : (k : Int) ≤ 64 := by omega
  go_enter Try.func18, Try.ntmps18
  go_wp2_with fail
  refine (new_q_bool w k (by omega) (by omega)).mono ?_; rintro e w1 ⟨p, g, rfl, hr, hp, hg, hb⟩
  have hr := Lib.hid hr
  have hb := Lib.hid hb
  go_wp2_with fail
  go_loopw [28] (fun i wr => ∃ j : Nat, j ≤ k ∧ i = .int .i64 (j : Int) ∧ RQ Value.bool 4 71 wr p g k (List.replicate j true) ∧ Below w.heap.size w wr) (fun i _ => k - (intOf i).toNat)
  case atStart => exact ⟨0, Nat.zero_le _, rfl, hr.out, hb.out⟩
  case round =>
    obtain ⟨j, hj, rfl, hrq, hbel⟩ := hrel
    by_cases hlt : j < k
    · have HP := put_q_bool hrq true (by simpa using hlt)
      have F := Lib.hid hbel
      clear hrq hbel hr hb
      go_wp2_with (go_at_call 25; refine HP.mono ?_; rintro e w3 ⟨rfl, hl⟩; have hl := Lib.hid hl)
      go_roundw
      case rel => exact ⟨j + 1, by omega, by go_num, by rw [List.replicate_succ']; exact hl.out.1, F.out.trans (hl.out.2.2 _ hp hg)⟩
      case measure => simp [intOf]; omega
    · obtain rfl : j = k := by omega
      have hrq := Lib.hid hrq
      have hsz := hbel.size
      have hbel := Lib.hid hbel
      go_wp2
      refine bodyPost_ret (v := .tuple #[.pointer (some ⟨wr.heap.size, 0, none⟩), .int .i64 0]) (by simp [results, Try.results18, go_sem]) rfl ⟨wr.heap.size, p, g, rfl, ⟨blk_new _ _, ?_, by simp⟩, hsz, hp, hg, hbel.out.alloc hsz _⟩
      exact hrq.out.below (below_alloc (Below.refl _ _) _)
theorem push_any {w : World} {pw p g m k : Nat} {L : List Bool} (h : WS w pw p g m k L) (x : Bool) :
    Calls Try.prog 22 #[.pointer (some ⟨pw, 0, none⟩), .bool x] w fun e w' => e = .returned (.tuple #[]) ∧ LW w w' pw p g m k (L.tail ++ [x]) := by
  have c0 : w.cell? ⟨pw, 0, none⟩ = some (.pointer (some ⟨p, 0, none⟩)) := blk_cell h.1 0
  have HP := push_qf_bool h.2.1 x h.2.2
  have H := Lib.hid h
  clear h
  go_enter Try.func22, Try.ntmps22
  go_wp2_with (go_at_call 29; refine HP.mono ?_; rintro e w3 ⟨rfl, hl⟩; have hl := Lib.hid hl)
  go_end0
  exact ⟨rfl, LW.of H.out hl.out (by have := H.out.2.2; have := H.out.bounds; simp; omega)⟩
theorem last_any {w : World} {pw p g m k : Nat} {L : List Bool} (h : WS w pw p g m k L) :
    Calls Try.prog 26 #[.pointer (some ⟨pw, 0, none⟩)] w fun e w' => ∃ v, e = .returned v ∧ w'.ownsRow w.heap.size 4 1 v L.length (L.map Value.bool) ∧ Below w.heap.size w w' := by
  have c0 : w.cell? ⟨pw, 0, none⟩ = some (.pointer (some ⟨p, 0, none⟩)) := blk_cell h.1 0
  have HP := all_q_bool h.2.1
  clear h
  go_enter Try.func26, Try.ntmps26
  go_wp2_with (go_at_call 32; refine HP.mono ?_; rintro e w3 ⟨v, rfl, ho, hb⟩; have ho := Lib.hid ho; have hb := Lib.hid hb)
  go_ret
  exact ⟨v, rfl, ho.out, hb.out⟩
theorem count_any (w : World) (A : Option Addr) (l : List Bool) (cap : Nat) (hr : ReadsOf Value.bool false w A l.length l) :
    Calls Try.prog 27 #[.slice A l.length cap] w fun e w' => e = .returned (.int .i64 (cnt l : Int)) ∧ ∃ nd, w' = w.drewN nd := by
  have hmx := hr.2.1
  have H := Lib.hid hr
  clear hr
  go_enter Try.func27, Try.ntmps27
  go_wp2
  go_loop [3, 8] (fun n i => ∃ k : Nat, k ≤ l.length ∧ i = .int .i64 (k : Int) ∧ n = .int .i64 (cnt (l.take k) : Int)) (fun _ i => l.length - (intOf i).toNat)
  case atStart => exact ⟨0, Nat.zero_le _, rfl, rfl⟩
  case round =>
    obtain ⟨k, hk, rfl, rfl⟩ := hrel
    have hc1 := cnt_le (l.take k)
    have hc2 : (l.take k).length ≤ k := List.length_take_le _ _
    by_cases hlt : k < l.length
    · obtain ⟨b, hb⟩ : ∃ b, l[k]? = some b := ⟨l[k], by simp [hlt]⟩
      obtain ⟨ad, rfl, hc⟩ := H.out.2.2 (by omega)
      have hcell := hc k hlt
      rw [show l.getD k false = b by simp [List.getD_eq_getElem?_getD, hb]] at hcell
      cases b with
      | true =>
        have hs := Lib.hid (cnt_take_true hb)
        clear hb hc
        go_wp2
        go_round
        case rel => exact ⟨k + 1, by omega, by go_num, by rw [hs.out]; go_num⟩
        case measure => simp [intOf]; omega
      | false =>
        have hs := Lib.hid (cnt_take_false hb)
        clear hb hc
        go_wp2
        go_round
        case rel => exact ⟨k + 1, by omega, by go_num, by rw [hs.out]⟩
        case measure => simp [intOf]; omega
    · obtain rfl : k = l.length := by omega
      go_wp2
      go_ret
      exact ⟨rfl, 0, rfl⟩
theorem met_any {w : World} {pw p g m k : Nat} {L : List Bool} (h : WS w pw p g m k L) :
    Calls Try.prog 30 #[.pointer (some ⟨pw, 0, none⟩)] w fun e w' => e = .returned (.int .i64 (cnt L : Int)) ∧ Below w.heap.size w w' := by
  have HL := last_any h
  clear h
  go_enter Try.func30, Try.ntmps30
  go_wp2_with fail
  refine HL.mono ?_; rintro e w1 ⟨v, rfl, ho, hb⟩
  obtain ⟨A, c, rfl, hr⟩ := own_reads_of (enc := Value.bool) (d := false) ho
  have hb := Lib.hid hb
  clear ho HL
  go_wp2_with fail
  refine (count_any w1 A L c hr).mono ?_; rintro e w2 ⟨rfl, n2, rfl⟩
  go_wp2
  go_ret
  exact ⟨rfl, pw_below_drewN hb.out _⟩
theorem fails_any {w : World} {pw p g m k : Nat} {L : List Bool} (h : WS w pw p g m k L) :
    Calls Try.prog 23 #[.pointer (some ⟨pw, 0, none⟩)] w fun e w' => e = .returned (.bool (decide (cnt L < m))) ∧ Below w.heap.size w w' := by
  have c1 : w.cell? ⟨pw, 1, none⟩ = some (.int .i64 (m : Int)) := blk_cell h.1 1
  have HL : ∀ W : World, Below w.heap.size w W → Calls Try.prog 30 #[.pointer (some ⟨pw, 0, none⟩)] W fun e w' => e = .returned (.int .i64 (cnt L : Int)) ∧ Below w.heap.size w w' ∧ w'.cell? ⟨pw, 1, none⟩ = some (.int .i64 (m : Int)) := fun W hW =>
    (met_any (h.below hW)).mono fun _ _ ⟨he, hb⟩ => ⟨he, hW.trans (hb.mono hW.size), ((hW.trans (hb.mono hW.size)).cell (p := ⟨pw, 1, none⟩) h.lt.1).trans c1⟩
  clear h
  go_enter Try.func23, Try.ntmps23
  go_wp2_with fail
  go_region_with (go_at_call 30; (refine (HL _ (by first | exact Below.refl _ _ | exact pw_below_drewN (Below.refl _ _) _ | exact (Below.refl _ _).drew)).mono ?_; rintro e w1 ⟨rfl, hb, c1'⟩; have hb := Lib.hid hb))
  all_goals go_wp2
  all_goals go_ret
  all_goals exact ⟨rfl, by first | exact hb.out | exact pw_below_drewN hb.out _⟩
theorem distance_any {w : World} {pw p g m k : Nat} {L : List Bool} (h : WS w pw p g m k L) (hm : 1 ≤ m) :
    Calls Try.prog 19 #[.pointer (some ⟨pw, 0, none⟩)] w fun e w' => e = .returned (.int .i64 (dist m L : Int)) ∧ Below w.heap.size w w' := by
  have c1 : w.cell? ⟨pw, 1, none⟩ = some (.int .i64 (m : Int)) := blk_cell h.1 1
  have HL := last_any h
  have hd := dist_le hm L
  have hlen : L.length ≤ 4096 := by have := h.2.2; have := h.bounds; omega
  have hlt0 := h.lt.1
  clear h
  go_enter Try.func19, Try.ntmps19
  go_wp2_with fail
  refine HL.mono ?_; rintro e w1 ⟨v, rfl, ho, hb⟩
  obtain ⟨A, c, rfl, hcap, hr⟩ := own_reads_of_le (enc := Value.bool) (d := false) ho
  have c1 := (hb.cell (p := ⟨pw, 1, none⟩) hlt0).trans c1
  have hb := Lib.hid hb
  obtain ⟨i0, hi0, _, hi1, _⟩ := info_parts info4
  clear ho HL
  go_wp2_with fail
  go_loopw [4] (fun i wr => ∃ j : Nat, j ≤ dist m L ∧ i = .int .i64 (j : Int) ∧ ∃ nd, wr = w1.drewN nd) (fun i _ => dist m L - (intOf i).toNat)
  case atStart => exact ⟨0, Nat.zero_le _, rfl, 0, rfl⟩
  case round =>
    obtain ⟨j, hj, rfl, nd, rfl⟩ := hrel
    obtain ⟨A', hcut, hcr⟩ := print_cut_of (P := Try.prog) Value.bool false 22 4 .i64 Try.underlying22 hi0 hi1 A L.length c j (by omega)
    have hr2 := hcr w1 L hcap hr
    have hl2 : (L.drop j).length = L.length - j := List.length_drop
    have HC : ∀ a : Nat, Calls Try.prog 27 #[.slice A' (L.length - j) (c - j)] (w1.drewN (nd + a)) fun e w' => e = .returned (.int .i64 (cnt (L.drop j) : Int)) ∧ ∃ n2, w' = w1.drewN (nd + n2) := fun a => by
      have := count_any (w1.drewN (nd + a)) A' (L.drop j) (c - j) (by rw [hl2]; exact hr2)
      rw [hl2] at this; exact this.mono fun _ _ ⟨he, n2, hw⟩ => ⟨he, a + n2, by rw [hw, World.drewN_drewN, Nat.add_assoc]⟩
    have hat := dist_at hm hj
    have hc2 := cnt_le (L.drop j)
    clear hcr hr2
    by_cases hlt : j < dist m L
    · have hge : (m : Int) ≤ (cnt (L.drop j) : Int) := by have := hat.2 hlt; omega
      clear hat
      go_wp2_with fail
      go_quiet ((go_at_call 27; exact HC _))
      go_wp2
      go_roundw
      case rel => exact ⟨j + 1, by omega, by go_num, _, rfl⟩
      case measure => simp [intOf]; omega
    · have hge : ¬ (m : Int) ≤ (cnt (L.drop j) : Int) := by rw [← hat] at hlt; omega
      obtain rfl : j = dist m L := by omega
      clear hat
      go_wp2_with fail
      go_quiet ((go_at_call 27; exact HC _))
      go_wp2
      go_ret
      exact ⟨rfl, pw_below_drewN (pw_below_drewN hb.out _) _⟩
end Go.Proofs.Ytlnbpeaoidjinaa.Win
