import Derived.Test.YteaighaaclaimaaRingSame
namespace Go.Proofs.Yteaighaaclaimaa.Ring
open Go.RowKit Go.Proofs.YteaighaaclaimaaW.PrintWords Go.Proofs.YteaighaaclaimaaW.PrintLast Go.Proofs.YteaighaaclaimaaW.PrintMore Go.Proofs.Yteaighaaclaimaa.Args
theorem keeps_any (w : World) (A : Option Addr) (l : List Int) (cap : Nat) (ha : Arg (Value.int .i64) w A l) (h2 : l.length ≤ 500) :
    Calls Try.prog 7 #[.slice A l.length cap] w fun e w' => e = .returned (.bool true) ∧ Below w.heap.size w w' := by
  have e1 : (l.length : Int) ≤ 500 := by omega
  have HA := Lib.hid ha
  clear ha
  go_enter Try.func7, Try.ntmps7
  go_wp2_with fail
  refine (awake_any _).mono ?_; rintro e w1 ⟨rfl, hb1⟩
  have hb1 := Lib.hid hb1
  go_wp2_with fail
  refine (new_q_int w1 600 (by omega) (by omega)).mono ?_; rintro e w2 ⟨p, g, rfl, hr, hp, hg, hb2⟩
  have hb2 : Hid (Below w.heap.size w w2) := hb1.out.trans (hb2.mono hb1.out.size)
  have hr := Lib.hid hr
  have hp : w.heap.size ≤ p := Nat.le_trans hb1.out.size hp
  have hg : w.heap.size ≤ g := Nat.le_trans hb1.out.size hg
  clear hb1
  go_wp2_with fail
  go_loopw [5] (fun i wr => ∃ k : Nat, k ≤ l.length ∧ i = .int .i64 (k : Int) ∧ RQ (Value.int .i64) 3 57 wr p g 600 (l.take k) ∧ Below w.heap.size w wr) (fun i _ => l.length - (intOf i).toNat)
  case atStart => exact ⟨0, Nat.zero_le _, rfl, hr.out, hb2.out⟩
  case round =>
    obtain ⟨k, hk, rfl, hrq, hbel⟩ := hrel
    by_cases hlt : k < l.length
    · obtain ⟨x, hx⟩ : ∃ x, l[k]? = some x := ⟨l[k], by simp [hlt]⟩
      obtain ⟨b, off, rfl, hbw, hcell⟩ := HA.out (by omega)
      have hc := (hbel.cell (p := ⟨b, off + k, none⟩) hbw).trans (hcell k x hx)
      have HP := put_q_int hrq x (by rw [List.length_take]; omega)
      have hbel := Lib.hid hbel
      have hx := Lib.hid hx
      clear hrq hr hb2 hcell
      go_wp2_with (go_at_call 16; refine HP.mono ?_; rintro e w3 ⟨rfl, hl3⟩; have hl3 := Lib.hid hl3)
      go_roundw
      case rel => exact ⟨k + 1, by omega, by go_num, by rw [List.take_add_one, hx.out]; exact hl3.out.1, hbel.out.trans (hl3.out.2.2 _ hp hg)⟩
      case measure => simp [intOf]; omega
    · obtain rfl : k = l.length := by omega
      obtain ⟨wo, rfl⟩ : ∃ wo : World, wo = wr := ⟨_, rfl⟩
      rw [List.take_length] at hrq
      have HALL := all_q_int hrq
      have F : Hid (RQ (Value.int .i64) 3 57 wo p g 600 l ∧ Below w.heap.size w wo) := ⟨hrq, hbel⟩
      clear hrq hbel hr hb2
      go_wp2_with fail
      refine HALL.mono ?_; rintro e w3 ⟨v, rfl, hown, hb3⟩
      have hown3 := Lib.hid hown
      obtain ⟨A2, cap2, rfl, hsh⟩ := own_shape hown
      have hsh := Lib.hid hsh
      have hb3 := Lib.hid hb3
      clear hown HALL
      go_wp2_with fail
      go_loopw [7] (fun i wq => ∃ j : Nat, j ≤ l.length ∧ i = .int .i64 (j : Int) ∧ Below wo.heap.size wo wq ∧ (0 < l.length → ∃ g2 cur, A2 = some ⟨g2, 0, none⟩ ∧ wo.heap.size ≤ g2 ∧ wq.heap[g2]? = some (.cells cur 3 (0, 0)) ∧ ∀ i, i < l.length → ∃ z : Int, cur[i]? = some (.int .i64 z))) (fun i _ => l.length - (intOf i).toNat)
      case atStart =>
        refine ⟨0, Nat.zero_le _, rfl, hb3.out, fun hp0 => ?_⟩
        obtain ⟨g2, rfl, h2, h3, _, h4⟩ := hsh.out hp0
        obtain ⟨_, h6⟩ := hown3.out
        rcases h6 with ⟨h7, _⟩ | ⟨g', cap', cur, h7, _, hh, _⟩
        · cases h7
        · simp only [Value.slice.injEq, Option.some.injEq, Addr.mk.injEq, and_true, true_and] at h7
          obtain ⟨rfl, _⟩ := h7
          exact ⟨g2, cur, rfl, h2, hh, fun i hi => ⟨l[i], by rw [← blk_cell hh i]; exact h4 i l[i] (by simp [hi])⟩⟩
      case round =>
        obtain ⟨j, hj, rfl, hbq, hrow⟩ := hrel
        by_cases hjl : j < l.length
        · obtain ⟨g2, cur, rfl, hg2, hh, hz⟩ := hrow (by omega)
          obtain ⟨z, hzj⟩ := hz j hjl
          have c1 : wr.cell? ⟨g2, j, none⟩ = some (.int .i64 z) := by rw [blk_cell hh j]; exact hzj
          have f1 := blk_frozen hh j
          have G : Hid (Below wo.heap.size wo wr ∧ wr.heap[g2]? = some (.cells cur 3 (0, 0)) ∧ ∀ i, i < l.length → ∃ z : Int, cur[i]? = some (.int .i64 z)) := ⟨hbq, hh, hz⟩
          have hjl2 : (j : Int) < (l.length : Int) := by omega
          have hjl3 := Lib.hid hjl
          clear hbq hh hz hzj hrow hjl
          go_wp2
          go_roundw
          case rel =>
            obtain ⟨hbq, hh, hz⟩ := G.out
            have hjl := hjl3.out
            refine ⟨j + 1, by omega, by go_num, hbq.setCell hg2 _, fun _ => ⟨g2, _, rfl, hg2, blk_set hh j _, fun i hi => ?_⟩⟩
            rw [Array.getElem?_setIfInBounds]
            by_cases e : j = i
            · rw [if_pos e]
              obtain ⟨z', hz'⟩ := hz i hi
              have : i < cur.size := (Array.getElem?_eq_some_iff.1 hz').1
              rw [if_pos (by omega)]; exact ⟨_, rfl⟩
            · rw [if_neg e]; exact hz i hi
          case measure => have := hjl3.out; simp [intOf]; omega
        · have hq := F.out.1.below hbq
          have hbw : Below w.heap.size w wr := F.out.2.trans (hbq.mono F.out.2.size)
          have HS := same_any hq A cap (fun hp0 => by
            obtain ⟨b, off, h1, h2, h3⟩ := HA.out hp0
            exact ⟨b, off, h1, Nat.lt_of_lt_of_le h2 hbw.size, fun i x hx => (hbw.cell (p := ⟨b, off + i, none⟩) h2).trans (h3 i x hx)⟩)
          have hbw := Lib.hid hbw
          clear hq hbq hrow
          go_wp2_with (go_at_call 21; refine HS.mono ?_; rintro e w4 ⟨rfl, hb4⟩; have hb4 := Lib.hid hb4)
          go_ret
          exact ⟨rfl, hbw.out.trans (hb4.out.mono hbw.out.size)⟩
theorem keeps_walk (w : World) (A : Option Addr) (l : List Int) (cap : Nat) (_hl : l.length ≤ cap) (_hm : cap ≤ maxLen) (ha : Arg (Value.int .i64) w A l) :
    Calls Try.prog 7 #[.slice A l.length cap] w fun e w' => e = .returned (.bool true) ∧ Below w.heap.size w w' := by
  by_cases h : l.length ≤ 500
  · exact keeps_any w A l cap ha h
  · have HA : ∀ W : World, Below w.heap.size w W → Calls Try.prog 8 #[] W fun e w' => e = .returned (.bool true) ∧ Below w.heap.size w w' := fun W hW => (awake_any W).mono fun _ _ ⟨he, hb⟩ => ⟨he, hW.trans (hb.mono hW.size)⟩
    have h1 : (500 : Int) < (l.length : Int) := by omega
    clear h ha
    go_enter Try.func7, Try.ntmps7
    go_wp2_with (go_at_call 8; refine (HA _ (by first | exact Below.refl _ _ | assumption)).mono ?_; rintro e w1 ⟨rfl, hb⟩)
    go_ret
    exact ⟨rfl, by assumption⟩
end Go.Proofs.Yteaighaaclaimaa.Ring
