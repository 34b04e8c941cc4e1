/- Contracts of trace.Trace's methods. -/
import Derived.Test.YtbcpfbmoednghaaRing5b
import Derived.Test.YtbcpfbmoednghaaArgs
import Derived.Laws.LoneSync
import Derived.Laws.NewBlocks
namespace Go.Proofs.Ytbcpfbmoednghaa.Tr
open Go.RowKit Go.Proofs.YtbcpfbmoednghaaW.PrintWords Go.Proofs.YtbcpfbmoednghaaW.PrintLast Go.Proofs.YtbcpfbmoednghaaW.PrintMore Go.Proofs.Ytbcpfbmoednghaa.Ring Go.Proofs.Ytbcpfbmoednghaa.Ring5 Go.Proofs.Ytbcpfbmoednghaa.Args
set_option linter.unusedSimpArgs false
set_option linter.unusedVariables false

/-- A ring of c places that holds the list L. -/
def RQ (w : World) (p g c : Nat) (L : List Ev) : Prop :=
  ∃ f cs, RS w p g f L.length cs ∧ cs.length = c ∧ 1 ≤ c ∧ c ≤ 4096 ∧ f < c ∧ L.length ≤ c ∧ View cs f L.length L
theorem RQ.lt {w : World} {p g c : Nat} {L : List Ev} (h : RQ w p g c L) : p < w.heap.size ∧ g < w.heap.size := by
  obtain ⟨_, _, h, _⟩ := h
  exact h.lt
theorem RQ.same {w W : World} {p g c : Nat} {L : List Ev} (h : RQ w p g c L) (h1 : W.heap[p]? = w.heap[p]?) (h2 : W.heap[g]? = w.heap[g]?) : RQ W p g c L := by
  obtain ⟨f, cs, h, r⟩ := h
  exact ⟨f, cs, h.same h1 h2, r⟩
/-- The last c of all. -/
def lastc (c : Nat) (M : List Ev) : List Ev := M.drop (M.length - c)
theorem lastc_len (c : Nat) (M : List Ev) : (lastc c M).length = if M.length < c then M.length else c := by
  unfold lastc; rw [List.length_drop]; split <;> omega
theorem lastc_room {c : Nat} {M : List Ev} (x : Ev) (h : M.length < c) : lastc c (M ++ [x]) = lastc c M ++ [x] := by
  unfold lastc
  rw [List.length_append, show M.length - c = 0 by omega, show M.length + [x].length - c = 0 by simp; omega]; simp
theorem lastc_full {c : Nat} {M : List Ev} (x : Ev) (hc : 1 ≤ c) (h : c ≤ M.length) : lastc c (M ++ [x]) = (lastc c M).tail ++ [x] := by
  unfold lastc
  rw [List.length_append, List.length_singleton, List.tail_drop, show M.length + 1 - c = M.length - c + 1 by omega, List.drop_append_of_le_length (by omega)]
/-- A push onto a ring that holds the last c of M. -/
theorem push_q {w : World} {p g c : Nat} {M : List Ev} (h : RQ w p g c (lastc c M)) (x : Ev) :
    Calls Try.prog 18 #[.pointer (some ⟨p, 0, none⟩), .agg (l5 x).toArray] w fun e w' => ∃ b, e = .returned (.bool b) ∧ RQ w' p g c (lastc c (M ++ [x])) ∧ Kept w w' (Own p g) ∧ ∀ B, B ≤ p → B ≤ g → Below B w w' := by
  obtain ⟨f, cs, hr, rfl, h1, h2, h3, h4, hv⟩ := h
  have hl := lastc_len cs.length M
  by_cases hM : M.length < cs.length
  · rw [if_pos hM] at hl
    exact (push_room hr x h1 h2 h3 (by omega) _ rfl).mono fun _ w' ⟨he, hL⟩ => ⟨_, he, by
      rw [lastc_room x hM]
      exact ⟨f, _, by rw [List.length_append]; exact hL.1, by simp, h1, h2, h3, by simp; omega, by rw [List.length_append]; exact hv.put h3 (by omega) x⟩, hL.2.1, hL.2.2⟩
  · rw [if_neg hM] at hl
    exact (push_full hr x h1 h2 h3 hl).mono fun _ w' ⟨he, hL⟩ => ⟨_, he, by
      rw [lastc_full x h1 (by omega)]
      have e : ((lastc cs.length M).tail ++ [x]).length = (lastc cs.length M).length := by simp; omega
      exact ⟨_, _, by rw [e]; exact hL.1, by simp, h1, h2, Nat.mod_lt _ (by omega), by omega, by rw [e]; exact hv.turn h3 hl x⟩, hL.2.1, hL.2.2⟩
theorem all_q {w : World} {p g c : Nat} {L : List Ev} (h : RQ w p g c L) :
    Calls Try.prog 20 #[.pointer (some ⟨p, 0, none⟩)] w fun e w' => ∃ v, e = .returned v ∧ w'.ownsRow w.heap.size 30 5 v L.length (flat L) ∧ Below w.heap.size w w' := by
  obtain ⟨f, cs, hr, rfl, h1, h2, h3, h4, hv⟩ := h
  exact all_any hr h1 h2 h3 h4 L hv

/-- A trace's cells: its ring, and the counts. -/
def tcells (p : Nat) (cn : Nat → Nat) : Array Value := ((.pointer (some ⟨p, 0, none⟩)) :: (List.range 192).map fun i => Value.int .i64 (cn i : Int)).toArray
def up1 (cn : Nat → Nat) (i : Nat) : Nat → Nat := fun j => if j = i then cn j + 1 else cn j
theorem tcells_at (p : Nat) (cn : Nat → Nat) (i : Nat) (hi : i < 192) : (tcells p cn)[1 + i]? = some (.int .i64 (cn i : Int)) := by
  unfold tcells
  rw [Nat.add_comm]; simp [hi]
theorem tcells_up (p : Nat) (cn : Nat → Nat) (i : Nat) (hi : i < 192) : (tcells p cn).setIfInBounds (1 + i) (.int .i64 ((cn i : Int) + 1)) = tcells p (up1 cn i) := by
  apply Array.ext (by simp [tcells])
  intro j h1 h2
  rw [Array.getElem_setIfInBounds (by simpa using h1)]
  cases j with
  | zero => rw [if_neg (by omega)]; simp [tcells]
  | succ j =>
    split
    · obtain rfl : i = j := by omega
      simp [tcells, up1]
    · simp [tcells, up1, show ¬ j = i by omega]
/-- A trace at block pt: its ring holds the last c of M; its counts are cn's. -/
def TS (w : World) (pt p g c : Nat) (M : List Ev) (cn : Nat → Nat) : Prop :=
  w.heap[pt]? = some (.cells (tcells p cn) 50 (0, 0)) ∧ RQ w p g c (lastc c M)
section
variable {w : World} {pt p g c : Nat} {M : List Ev} {cn : Nat → Nat}
theorem TS.below (h : TS w pt p g c M cn) {W : World} (hb : Below w.heap.size w W) : TS W pt p g c M cn := ⟨blk_below h.1 hb, h.2.same (hb.block p h.2.lt.1) (hb.block g h.2.lt.2)⟩
theorem TS.far (h : TS w pt p g c M cn) : pt ≠ p ∧ pt ≠ g := by
  obtain ⟨h0, f, cs, hr, _⟩ := h
  exact ⟨blk_ne h0 hr.1 (by decide), blk_ne h0 hr.2 (by decide)⟩
theorem TS.lt (h : TS w pt p g c M cn) : pt < w.heap.size ∧ p < w.heap.size ∧ g < w.heap.size := ⟨blk_lt h.1, h.2.lt⟩
end
theorem counted_yes (a b : Nat) (w : World) (h1 : 1 ≤ a) (h2 : a < 12) (h3 : b < 16) : Calls Try.prog 17 #[.int .i64 (a : Int), .int .i64 (b : Int)] w fun e w' => e = .returned (.bool true) ∧ w' = w := by
  have i1 : (1 : Int) ≤ (a : Int) := by omega
  have i2 : (a : Int) < 12 := by omega
  have i3 : (b : Int) < 16 := by omega
  go_enter Try.func17, Try.ntmps17
  go_wp2
  go_ret
  exact ⟨rfl, rfl⟩
theorem counted_no (a b : Int) (w : World) (h : ¬ (1 ≤ a ∧ a < 12 ∧ 0 ≤ b ∧ b < 16)) : Calls Try.prog 17 #[.int .i64 a, .int .i64 b] w fun e w' => e = .returned (.bool false) ∧ w' = w := by
  by_cases h1 : 1 ≤ a
  · by_cases h2 : a < 12
    · by_cases h3 : 0 ≤ b
      · have h4 : 16 ≤ b := by omega
        have h5 : decide (b < 16) = false := by simp; omega
        have h6 : ¬ b < 16 := by omega
        clear h
        go_enter Try.func17, Try.ntmps17
        go_wp2
        go_ret
        exact ⟨rfl, rfl⟩
      · have h4 : b < 0 := by omega
        clear h
        go_enter Try.func17, Try.ntmps17
        go_wp2
        go_ret
        exact ⟨rfl, rfl⟩
    · have h4 : 12 ≤ a := by omega
      clear h
      go_enter Try.func17, Try.ntmps17
      go_wp2
      go_ret
      exact ⟨rfl, rfl⟩
  · have h4 : a < 1 := by omega
    clear h
    go_enter Try.func17, Try.ntmps17
    go_wp2
    go_ret
    exact ⟨rfl, rfl⟩
theorem inc_any (a : Addr) (x : Nat) (w : World) (hx : x ≤ 4611686018427387904) (hc : w.cell? a = some (.int .i64 (x : Int))) (hz : w.frozen? a = false) :
    Calls Try.prog 19 #[.pointer (some a), .int .i64 1] w fun e w' => e = .returned (.int .i64 ((x : Int) + 1)) ∧ w' = w.setCell a (.int .i64 ((x : Int) + 1)) := by
  have hs : (Op.intArith .add .i64 (x : Int) 1).run Try.prog w = .ok (.int .i64 ((x : Int) + 1)) w := by
    have := IntWalk.i64_in ((x : Int) + 1) (by omega)
    simp [go_sem]; exact this
  have hadd := run_call_add (P := Try.prog) Try.func26 (by kernel_rfl) (by kernel_rfl) (by kernel_rfl) .i64 (by kernel_rfl) (y := 1) hc hz hs
  clear hs
  go_enter Try.func19, Try.ntmps19
  go_wp2
  go_ret
  exact ⟨rfl, rfl⟩
theorem load_any (a : Addr) (x : Int) (w : World) (hc : w.cell? a = some (.int .i64 x)) : Calls Try.prog 21 #[.pointer (some a)] w fun e w' => e = .returned (.int .i64 x) ∧ w' = w := by
  have hl := run_call_load (P := Try.prog) Try.func28 (by kernel_rfl) (by kernel_rfl) (by kernel_rfl) .i64 (by kernel_rfl) hc
  go_enter Try.func21, Try.ntmps21
  go_wp2
  go_ret
  exact ⟨rfl, rfl⟩
end Go.Proofs.Ytbcpfbmoednghaa.Tr
