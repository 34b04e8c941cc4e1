/- Contracts of ring.Ring's New and All at an element of five cells. -/
import Derived.Test.YtbcpfbmoednghaaRing5
namespace Go.Proofs.Ytbcpfbmoednghaa.Ring5
open Go.RowKit Go.Proofs.YtbcpfbmoednghaaW.PrintWords Go.Proofs.YtbcpfbmoednghaaW.PrintLast Go.Proofs.YtbcpfbmoednghaaW.PrintMore Go.Proofs.Ytbcpfbmoednghaa.Ring
set_option linter.unusedSimpArgs false
set_option linter.unusedVariables false
theorem info30 : (Try.prog.info? 30).map (fun i => (i.zero, i.size, i.bytes)) = some (some (.agg (l5 z5).toArray), 5, 40) := by kernel_rfl
theorem flat_zero (c : Nat) : flat (List.replicate c z5) = List.replicate (c * 5) (.int .i64 0) := by
  induction c with
  | zero => rfl
  | succ c ih =>
    rw [List.replicate_succ, show flat (z5 :: List.replicate c z5) = l5 z5 ++ flat (List.replicate c z5) by simp [flat], ih, Nat.succ_mul, Nat.add_comm (c * 5) 5, ← List.replicate_append_replicate]
    rfl
theorem made_zero (c : Nat) : madeCells (l5 z5).toArray (c * 5) = (flat (List.replicate c z5)).toArray := by
  rw [flat_zero]
  apply Array.ext (by simp [madeCells])
  intro i h1 h2
  have h5 : i % 5 < 5 := Nat.mod_lt _ (by omega)
  simp only [madeCells, Array.getElem_map, Array.getElem_range, List.getElem_toArray, List.getElem_replicate]
  show (l5 z5).toArray[i % 5]! = _
  rcases (by omega : i % 5 = 0 ∨ i % 5 = 1 ∨ i % 5 = 2 ∨ i % 5 = 3 ∨ i % 5 = 4) with h | h | h | h | h <;> rw [h] <;> rfl
theorem new_any (w : World) (c : Nat) (h1 : 1 ≤ c) (h2 : c ≤ 4096) :
    Calls Try.prog 16 #[.int .i64 (c : Int)] w fun e w' => ∃ p g, e = .returned (.tuple #[.pointer (some ⟨p, 0, none⟩), .int .i64 0]) ∧ RS w' p g 0 0 (List.replicate c z5) ∧ w.heap.size ≤ p ∧ w.heap.size ≤ g ∧ Below w.heap.size w w' := by
  have hmk : ∀ W : World, (Instr.makeSlice 22 (.int .i64 (c : Int)) (.int .i64 (c : Int))).run Try.prog W = .ok (.slice (some ⟨W.heap.size, 0, none⟩) c c) (W.alloc (.cells (flat (List.replicate c z5)).toArray 30)) := fun W => by
    obtain ⟨i, hi, hz, hs, hb⟩ := info_parts info30
    have := run_make (P := Try.prog) W 22 30 i (.agg (l5 z5).toArray) Try.underlying22 hi hz .i64 .i64 (c : Int) (c : Int) (by omega) (by omega) (by rw [hb]; omega) (by omega)
    rw [hs, Int.toNat_natCast, show (Value.agg (l5 z5).toArray).cells = (l5 z5).toArray from rfl, made_zero] at this
    exact this
  have i1 : (1 : Int) ≤ (c : Int) := by omega
  have i2 : (c : Int) ≤ 4096 := by omega
  go_enter Try.func16, Try.ntmps16
  go_wp2
  refine bodyPost_ret (v := .tuple #[.pointer (some ⟨w.heap.size + 1, 0, none⟩), .int .i64 0]) (by simp [results, Try.results16, go_sem]) rfl ⟨w.heap.size + 1, w.heap.size, rfl, ?_⟩
  refine ⟨⟨?_, blk_alloc (blk_new w _) _⟩, by omega, Nat.le_refl _, ((Below.refl _ _).alloc (Nat.le_refl _) _).alloc (by simp) _⟩
  have := blk_new (w.alloc (.cells (flat (List.replicate c z5)).toArray 30)) (.cells #[.slice (some ⟨w.heap.size, 0, none⟩) c c, .int .i64 0, .int .i64 0] 58)
  rw [show (w.alloc (.cells (flat (List.replicate c z5)).toArray 30)).heap.size = w.heap.size + 1 by simp] at this
  rw [List.length_replicate]; exact this
set_option maxHeartbeats 4000000 in
theorem all_any {w : World} {p g f n : Nat} {cs : List Ev} (h : RS w p g f n cs) (hc : 1 ≤ cs.length) (hb : cs.length ≤ 4096) (hf : f < cs.length) (hn2 : n ≤ cs.length) (L : List Ev) (hL : View cs f n L) :
    Calls Try.prog 20 #[.pointer (some ⟨p, 0, none⟩)] w fun e w' => ∃ v, e = .returned v ∧ w'.ownsRow w.heap.size 30 5 v n (flat L) ∧ Below w.heap.size w w' := by
  have c2 : w.cell? ⟨p, 2, none⟩ = some (.int .i64 (n : Int)) := blk_cell h.1 2
  have H := Lib.hid h
  have HL := Lib.hid hL
  clear h hL
  go_enter Try.func20, Try.ntmps20
  go_wp2
  go_loopw [3, 9] (fun v i wr => ∃ k : Nat, k ≤ n ∧ i = .int .i64 (k : Int) ∧ wr.ownsRow w.heap.size 30 5 v k (flat (L.take k)) ∧ Below w.heap.size w wr) (fun v i _ => n - (intOf i).toNat)
  case atStart => exact ⟨0, Nat.zero_le _, rfl, World.ownsRow_nil _ _ _ _, Below.refl _ _⟩
  case round =>
    obtain ⟨k, hk, rfl, hown, hbel⟩ := hrel
    by_cases hlt : k < n
    · have hlt2 : (f + k) % cs.length < cs.length := Nat.mod_lt _ (by omega)
      have hr : RS wr p g f n cs := ⟨(hbel.block p H.out.lt.1).trans H.out.1, (hbel.block g H.out.lt.2).trans H.out.2⟩
      obtain ⟨x, hx⟩ : ∃ x, L[k]? = some x := ⟨L[k]'(by rw [HL.out.1]; exact hlt), by simp [HL.out.1, hlt]⟩
      have hxc := HL.out.2 k hlt
      rw [hx] at hxc
      have c0 : wr.cell? ⟨p, 0, none⟩ = some (.slice (some ⟨g, 0, none⟩) cs.length cs.length) := blk_cell hr.1 0
      have HF : ∀ W : World, W.heap = wr.heap → Calls Try.prog 27 #[.pointer (some ⟨p, 0, none⟩), .int .i64 (k : Int)] W fun e w' => e = .returned (.int .i64 (((f + k) % cs.length : Nat) : Int)) ∧ ∃ nd, w' = W.drewN nd := fun W hW =>
        at_any (w := W) (hr.same (by rw [hW]) (by rw [hW])) k hc hb hf (by omega)
      obtain ⟨q, hq⟩ : ∃ q, q = (f + k) % cs.length := ⟨_, rfl⟩
      rw [← hq] at HF hxc hlt2
      have b0 : wr.cell? ⟨g, q * 5, none⟩ = some (.int .i64 x.a) := hr.cell hxc 0 (by omega)
      have b1 : wr.cell? ⟨g, q * 5 + 1, none⟩ = some (.int .i64 x.b) := hr.cell hxc 1 (by omega)
      have b2 : wr.cell? ⟨g, q * 5 + 2, none⟩ = some (.int .i64 x.c) := hr.cell hxc 2 (by omega)
      have b3 : wr.cell? ⟨g, q * 5 + 3, none⟩ = some (.int .i64 x.d) := hr.cell hxc 3 (by omega)
      have b4 : wr.cell? ⟨g, q * 5 + 4, none⟩ = some (.int .i64 x.e) := hr.cell hxc 4 (by omega)
      have hown2 := Lib.hid hown
      have hbel2 := Lib.hid hbel
      have hsz := hbel.size
      have hlt3 : (q : Int) < (cs.length : Int) := by omega
      have hx2 := Lib.hid hx
      clear hr hxc hown hbel hq hx
      go_wp2
      go_region_law (first
        | (go_simp; go_at_call 27; refine (HF _ (by rfl)).mono ?_; rintro e w1 ⟨rfl, nd, rfl⟩)
        | (refine step_append_cells (w0 := w) w.heap.size rfl (.tmp 12) (.tmp 22) 22 30 (.agg (l5 z5).toArray) 5 40 rfl Try.underlying22 info30 rfl (by decide) (by decide) u3 k _ (l5 x) rfl rfl rfl (by simp [Value.oneCell', l5]) hown2.out (pw_below_drewN hbel2.out _) hsz (by omega) ?_; intro v1 w1 hown3 hbel3 _ _; replace hown3 := Lib.hid hown3; replace hbel3 := Lib.hid hbel3))
      all_goals
        go_wp2
        go_roundw
        case rel =>
          have e : flat (L.take (k + 1)) = flat (L.take k) ++ l5 x := by
            rw [List.take_add_one, hx2.out, Option.toList_some, flat_snoc]
          exact ⟨k + 1, by omega, by go_num, by rw [e]; exact hown3.out, hbel3.out⟩
        case measure => simp [intOf]; omega
    · obtain rfl : k = n := by omega
      have hown2 := Lib.hid hown
      have hbel2 := Lib.hid hbel
      clear hown hbel
      go_wp2
      go_ret
      exact ⟨u3, rfl, by have := hown2.out; rw [List.take_of_length_le (by rw [HL.out.1]; omega)] at this; exact this, hbel2.out⟩
end Go.Proofs.Ytbcpfbmoednghaa.Ring5
