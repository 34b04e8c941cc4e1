/- What the laws over traces share: Add in one contract, counts of lists, awake. -/
import Derived.Test.YtbcpfbmoednghaaTrAdd
namespace Go.Proofs.Ytbcpfbmoednghaa.Tr
open Go.ChangeShapes Go.WideShapes Go.Deep Go.RowKit Go.Proofs.YtbcpfbmoednghaaW.PrintWords Go.Proofs.YtbcpfbmoednghaaW.PrintLast Go.Proofs.YtbcpfbmoednghaaW.PrintMore Go.Proofs.Ytbcpfbmoednghaa.Ring Go.Proofs.Ytbcpfbmoednghaa.Ring5 Go.Proofs.Ytbcpfbmoednghaa.Args
set_option linter.unusedSimpArgs false
set_option linter.unusedVariables false
/-- Is an event counted? -/
def ctd (x : Ev) : Bool := decide (1 ≤ x.b ∧ x.b < 12 ∧ 0 ≤ x.c ∧ x.c < 16)
def idx (x : Ev) : Nat := x.b.toNat * 16 + x.c.toNat
def bump (cn : Nat → Nat) (x : Ev) : Nat → Nat := if ctd x = true then up1 cn (idx x) else cn
/-- The counts of a list. -/
def cnl (l : List Ev) : Nat → Nat := fun i => l.countP fun x => ctd x && decide (idx x = i)
theorem cnl_nil : cnl [] = fun _ => 0 := rfl
theorem cnl_snoc (l : List Ev) (x : Ev) : cnl (l ++ [x]) = bump (cnl l) x := by
  funext i
  unfold cnl bump
  rw [List.countP_append]
  by_cases h : ctd x = true
  · rw [if_pos h]
    unfold up1
    by_cases hi : idx x = i
    · simp [h, hi]
    · simp [h, hi, show ¬ i = idx x from fun e => hi e.symm]
  · rw [if_neg h]; simp [h]
theorem cnl_le (l : List Ev) (i : Nat) : cnl l i ≤ l.length := List.countP_le_length
theorem cnl_comm (a b : List Ev) : cnl (a ++ b) = cnl (b ++ a) := by funext i; unfold cnl; rw [List.countP_append, List.countP_append, Nat.add_comm]
def kept (l : List Ev) : List Ev := l.filter ctd
theorem kept_snoc (l : List Ev) (x : Ev) : kept (l ++ [x]) = if ctd x = true then kept l ++ [x] else kept l := by
  unfold kept; rw [List.filter_append]; split <;> simp_all
/-- Add, behind the events of a list. -/
theorem add_any {w : World} {pt p g c : Nat} {l : List Ev} (h : TS w pt p g c (kept l) (cnl l)) (x : Ev) (hl : l.length ≤ 1000000) :
    Calls Try.prog 9 #[.pointer (some ⟨pt, 0, none⟩), .agg (l5 x).toArray] w fun e w' => e = .returned (.bool (ctd x)) ∧ TS w' pt p g c (kept (l ++ [x])) (cnl (l ++ [x])) ∧ Kept w w' (fun k => k = pt ∨ k = p ∨ k = g) ∧ ∀ B, B ≤ pt → B ≤ p → B ≤ g → Below B w w' := by
  rw [cnl_snoc, kept_snoc]
  unfold bump
  by_cases hx : 1 ≤ x.b ∧ x.b < 12 ∧ 0 ≤ x.c ∧ x.c < 16
  · have hc : ctd x = true := by simpa [ctd] using hx
    rw [if_pos hc, if_pos hc, hc]
    have hle := cnl_le l (x.b.toNat * 16 + x.c.toNat)
    exact add_yes h x x.b.toNat x.c.toNat (by omega) (by omega) (by omega) (by omega) (by omega) (by omega)
  · have hc : ctd x = false := by unfold ctd; exact decide_eq_false hx
    rw [if_neg (by rw [hc]; simp), if_neg (by rw [hc]; simp), hc]
    have hlt := h.lt
    exact (add_no x hx).mono fun _ w' ⟨he, hb⟩ => ⟨he, h.below hb, Kept.of_below hb _, fun B h1 h2 h3 => hb.mono (by omega)⟩
theorem TS.apart {w W : World} {pt p g c : Nat} {M : List Ev} {cn : Nat → Nat} (h : TS w pt p g c M cn) {S : Nat → Prop} (hk : Kept w W S) (h1 : ¬ S pt) (h2 : ¬ S p) (h3 : ¬ S g) : TS W pt p g c M cn :=
  ⟨blk_kept h.1 hk h1, h.2.same (hk.2 p h.lt.2.1 h2) (hk.2 g h.lt.2.2 h3)⟩
theorem TS.le {w W : World} {pt p g c B : Nat} {M : List Ev} {cn : Nat → Nat} (h : TS w pt p g c M cn) (hb : Below B w W) (h1 : pt < B) (h2 : p < B) (h3 : g < B) : TS W pt p g c M cn :=
  ⟨(hb.block pt h1).trans h.1, h.2.same (hb.block p h2) (hb.block g h3)⟩
theorem awake_any (w : World) : Calls Try.prog 7 #[] w fun e w' => e = .returned (.bool true) ∧ Below w.heap.size w w' := by
  have hz := zero_ev
  go_enter Try.func7, Try.ntmps7
  go_wp2_with fail
  refine (new_yes w 1 (by omega) (by omega)).mono ?_; rintro e w1 ⟨pt, p, g, rfl, hs, hpt, hp, hg, hb⟩
  have hs1 : Hid (TS w1 pt p g 1 (kept []) (cnl [])) := Lib.hid hs
  have hb1 := Lib.hid hb
  clear hs hb
  have X := add_any hs1.out ⟨0, 9, 3, 0, 0⟩ (by simp)
  rw [show ctd ⟨0, 9, 3, 0, 0⟩ = true by decide] at X
  go_wp2_with fail
  refine X.mono ?_; rintro e w2 ⟨rfl, hs, hk, hb⟩
  have hs2 := Lib.hid hs
  have hb2 := Lib.hid (hb1.out.trans (hb _ hpt hp hg))
  clear hs hk hb X
  have X := add_any hs2.out ⟨9, 2, 3, 0, 0⟩ (by simp)
  rw [show ctd ⟨9, 2, 3, 0, 0⟩ = true by decide] at X
  go_wp2_with fail
  refine X.mono ?_; rintro e w3 ⟨rfl, hs, hk, hb⟩
  have hs3 := Lib.hid hs
  have hb3 := Lib.hid (hb2.out.trans (hb _ hpt hp hg))
  clear hs hk hb X
  have X := add_any hs3.out ⟨0, 12, 0, 0, 0⟩ (by simp)
  rw [show ctd ⟨0, 12, 0, 0, 0⟩ = false by decide] at X
  go_wp2_with fail
  refine X.mono ?_; rintro e w4 ⟨rfl, hs, hk, hb⟩
  have hs4 := Lib.hid hs
  have hb4 := Lib.hid (hb3.out.trans (hb _ hpt hp hg))
  clear hs hk hb X
  go_wp2_with fail
  refine (events_any hs4.out).mono ?_; rintro e w5 ⟨v, rfl, ho, hb⟩
  have hs5 := Lib.hid (hs4.out.below hb)
  have hb5 := Lib.hid (hb4.out.trans (hb.mono hb4.out.size))
  rw [show lastc 1 (kept ((([] ++ [(⟨0, 9, 3, 0, 0⟩ : Ev)]) ++ [⟨9, 2, 3, 0, 0⟩]) ++ [⟨0, 12, 0, 0, 0⟩])) = [⟨9, 2, 3, 0, 0⟩] by rfl] at ho
  obtain ⟨g2, cap, cur, rfl, hg2, hblk, hcap, hcm, hcs, htk⟩ : ∃ g2 cap cur, v = .slice (some ⟨g2, 0, none⟩) 1 cap ∧ w4.heap.size ≤ g2 ∧ w5.heap[g2]? = some (.cells cur 30 (0, 0)) ∧ 1 ≤ cap ∧ cap ≤ maxLen ∧ cur.size = cap * 5 ∧ cur.toList.take (1 * 5) = flat [⟨9, 2, 3, 0, 0⟩] := by
    rcases ho.2 with ⟨_, h0⟩ | h
    · exact absurd h0 (by decide)
    · exact h
  have c0 : w5.cell? ⟨g2, 0, none⟩ = some (.int .i64 9) := by
    rw [blk_cell hblk 0]
    have := congrArg (fun l => l[0]?) htk
    simpa [flat, l5] using this
  clear ho hb hblk hcm hcs htk
  have hB : ∀ i, cnl ((([] ++ [(⟨0, 9, 3, 0, 0⟩ : Ev)]) ++ [⟨9, 2, 3, 0, 0⟩]) ++ [⟨0, 12, 0, 0, 0⟩]) i ≤ 1000000 := fun i => Nat.le_trans (cnl_le _ i) (by decide)
  have X := talln_any hs5.out hB
  rw [show ((alln (cnl ((([] ++ [(⟨0, 9, 3, 0, 0⟩ : Ev)]) ++ [⟨9, 2, 3, 0, 0⟩]) ++ [⟨0, 12, 0, 0, 0⟩])) : Nat) : Int) = 2 by decide +kernel] at X
  go_wp2_with fail
  refine X.mono ?_; rintro e w6 ⟨rfl, hw6⟩
  subst hw6
  have X := count_any hs5.out 9 hB
  rw [show ((kindn (cnl ((([] ++ [(⟨0, 9, 3, 0, 0⟩ : Ev)]) ++ [⟨9, 2, 3, 0, 0⟩]) ++ [⟨0, 12, 0, 0, 0⟩])) 9 : Nat) : Int) = 1 by decide +kernel] at X
  go_wp2_with fail
  refine X.mono ?_; rintro e w7 ⟨rfl, hw7⟩
  subst hw7
  have X := of_any hs5.out 2 3
  rw [show ((ofn (cnl ((([] ++ [(⟨0, 9, 3, 0, 0⟩ : Ev)]) ++ [⟨9, 2, 3, 0, 0⟩]) ++ [⟨0, 12, 0, 0, 0⟩])) 2 3 : Nat) : Int) = 1 by decide +kernel] at X
  go_wp2_with fail
  refine X.mono ?_; rintro e w8 ⟨rfl, hw8⟩
  subst hw8
  clear hB
  go_wp2
  go_ret
  exact ⟨rfl, hb5.out⟩
instance : Inhabited Ev := ⟨z5⟩
/-- An event that came in. -/
def REv (cs : List Value) (x : Ev) : Prop := cs = l5 x
section
variable {H : Type} {enc : TypeId × Value → H} {w : World}
theorem REv.read : ∀ n cs y, DataW.trod enc Try.prog w 0 (fun _ => true) true n 30 cs = some y → ∃ x, REv cs x := by
  intro n cs y h
  obtain ⟨hl, hf⟩ := open_cells Try.underlying30 (by kernel_rfl) (by kernel_rfl) h
  have hl : cs.length = 5 := hl
  have hi : ∀ (j : Nat) (f : Field), (#[] ++ (match Try.prog.underlying 30 with | some (.struct fs) => fs | _ => #[]))[j]? = some f → f.type = 3 → ∃ s, cs[j]? = some (.int .i64 s) := by
    intro j f hj ht
    rw [Try.underlying30] at hj
    obtain ⟨v, y, m, hv, hr⟩ := hf j f (by simpa using hj)
    rw [ht] at hr
    obtain ⟨s, e, _⟩ := DataW.trod_int Try.underlying3 hr
    injection e with e
    exact ⟨s, e ▸ hv⟩
  rw [Try.underlying30] at hi
  obtain ⟨f1, h1⟩ := hi 0 _ rfl rfl
  obtain ⟨f2, h2⟩ := hi 1 _ rfl rfl
  obtain ⟨f3, h3⟩ := hi 2 _ rfl rfl
  obtain ⟨f4, h4⟩ := hi 3 _ rfl rfl
  obtain ⟨f5, h5⟩ := hi 4 _ rfl rfl
  clear hf hi h
  refine ⟨⟨f1, f2, f3, f4, f5⟩, ?_⟩
  match cs, hl with
  | [_, _, _, _, _], _ => simp_all [REv, l5]
end
/-- Events that came in: their cells. -/
def RdEv (w : World) (A : Option Addr) (l : List Ev) : Prop := 0 < l.length → ∃ b off, A = some ⟨b, off, none⟩ ∧ b < w.heap.size ∧ ∀ i x, l[i]? = some x → ∀ j, j < 5 → w.cell? ⟨b, off + i * 5 + j, none⟩ = (l5 x)[j]?
theorem rd_arg {w : World} {A : Option Addr} {l : List Ev} (h : ArgN REv 5 w A l) : RdEv w A l := fun hp => by
  obtain ⟨b, off, h1, h2, h3⟩ := h hp
  refine ⟨b, off, h1, h2, fun i x hx j hj => ?_⟩
  obtain ⟨cs, hl, hr, hc⟩ := h3 i x hx
  have hr : cs = l5 x := hr
  have hj2 : j < (l5 x).length := by simpa [l5] using hj
  rw [hc j _ (by rw [hr]; exact List.getElem?_eq_getElem hj2)]
  exact (List.getElem?_eq_getElem hj2).symm
/-- The j-th of the list, from k on, round. -/
theorem rot_get {l : List Ev} {k j : Nat} (hk : k < l.length) (hj : j < l.length) : (l.drop k ++ l.take k)[j]? = l[(j + k) % l.length]? := by
  by_cases h : j + k < l.length
  · rw [Nat.mod_eq_of_lt h, List.getElem?_append_left (by rw [List.length_drop]; omega), List.getElem?_drop, Nat.add_comm]
  · rw [Nat.mod_eq_sub_mod (by omega), Nat.mod_eq_of_lt (by omega), List.getElem?_append_right (by rw [List.length_drop]; omega), List.length_drop, List.getElem?_take, if_pos (by omega)]
    congr 1; omega
theorem awake_twice (w : World) : ∀ W : World, Below w.heap.size w W → Calls Try.prog 7 #[] W fun e w' => e = .returned (.bool true) ∧ Below w.heap.size w w' :=
  fun W hW => (awake_any W).mono fun _ _ ⟨he, hb⟩ => ⟨he, hW.trans (hb.mono hW.size)⟩
end Go.Proofs.Ytbcpfbmoednghaa.Tr
