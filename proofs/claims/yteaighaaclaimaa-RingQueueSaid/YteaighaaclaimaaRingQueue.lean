import Derived.Test.YteaighaaclaimaaRingAwake
import Derived.Test.YteaighaaclaimaaArgs
namespace Go.Proofs.Yteaighaaclaimaa.Ring
open Go.RowKit Go.Proofs.YteaighaaclaimaaW.PrintWords Go.Proofs.YteaighaaclaimaaW.PrintLast Go.Proofs.YteaighaaclaimaaW.PrintMore Go.Proofs.Yteaighaaclaimaa.Args
theorem queue_out (w : World) (A : Option Addr) (l : List ByteArray) (cap : Nat) (more : ByteArray) (hl : l.length = 0 ∨ 500 < l.length) (hm : l.length ≤ 9223372036854775807) :
    Calls Try.prog 3 #[.slice A l.length cap, .string more] w fun e w' => e = .returned (.bool true) ∧ Below w.heap.size w w' := by
  have HA : ∀ W : World, Below w.heap.size w W → Calls Try.prog 8 #[] W fun e w' => e = .returned (.bool true) ∧ Below w.heap.size w w' := fun W hW => (awake_any W).mono fun _ _ ⟨he, hb⟩ => ⟨he, hW.trans (hb.mono hW.size)⟩
  rcases hl with h | h
  · have h0 : ((l.length : Int) == 0) = true := by rw [beq_iff_eq]; omega
    clear h
    go_enter Try.func3, Try.ntmps3
    go_wp2_with (go_at_call 8; refine (HA _ (by first | exact Below.refl _ _ | assumption)).mono ?_; rintro e w1 ⟨rfl, hb⟩)
    go_ret
    exact ⟨rfl, by assumption⟩
  · have h0 : ((l.length : Int) == 0) = false := by rw [beq_eq_false_iff_ne]; omega
    have h1 : (500 : Int) < (l.length : Int) := by omega
    clear h
    go_enter Try.func3, Try.ntmps3
    go_wp2_with (go_at_call 8; refine (HA _ (by first | exact Below.refl _ _ | assumption)).mono ?_; rintro e w1 ⟨rfl, hb⟩)
    go_ret
    exact ⟨rfl, by assumption⟩
theorem get_of_drop {α : Type} {a c : List α} {k : Nat} (h : a.drop k = c.drop k) : a[k]? = c[k]? := by
  have := congrArg (fun m => m[0]?) h
  simpa [List.getElem?_drop] using this
theorem drop_set_succ {α : Type} {a c : List α} {k : Nat} (h : a.drop k = c.drop k) (z : α) : (a.set k z).drop (k + 1) = c.drop (k + 1) := by
  rw [List.drop_set_of_lt (by omega), ← List.drop_drop, ← List.drop_drop, h]
theorem queue_any (w : World) (b off : Nat) (l : List ByteArray) (cap : Nat) (more : ByteArray) (h1 : 1 ≤ l.length) (h2 : l.length ≤ 500) (hbw : b < w.heap.size) (hcell : ∀ i x, l[i]? = some x → w.cell? ⟨b, off + i, none⟩ = some (.string x)) :
    Calls Try.prog 3 #[.slice (some ⟨b, off, none⟩) l.length cap, .string more] w fun e w' => e = .returned (.bool true) ∧ Below w.heap.size w w' := by
  have e0 : ((l.length : Int) == 0) = false := by rw [beq_eq_false_iff_ne]; omega
  have e1 : (l.length : Int) ≤ 500 := by omega
  have HC := Lib.hid hcell
  clear hcell
  go_enter Try.func3, Try.ntmps3
  go_wp2_with fail
  refine (awake_any _).mono ?_; rintro e w1 ⟨rfl, hb1⟩
  have hb1 := Lib.hid hb1
  go_wp2_with fail
  refine (new_str _ l.length h1 (by omega)).mono ?_; rintro e w2 ⟨p, g, rfl, hr, hp, hg, hb2⟩
  have hb2 : Hid (Below w.heap.size w w2) := hb1.out.trans (hb2.mono hb1.out.size)
  have hr := Lib.hid hr
  have hp : w.heap.size ≤ p := Nat.le_trans hb1.out.size hp
  have hg : w.heap.size ≤ g := Nat.le_trans hb1.out.size hg
  clear hb1
  go_wp2_with fail
  go_loopw [7] (fun i wr => ∃ (k : Nat) (cs : List ByteArray), k ≤ l.length ∧ i = .int .i64 (k : Int) ∧ RS Value.string 9 54 wr p g 0 k cs ∧ cs.length = l.length ∧ cs.take k = l.take k ∧ Below w.heap.size w wr) (fun i _ => l.length - (intOf i).toNat)
  case atStart => exact ⟨0, _, Nat.zero_le _, rfl, hr.out, by simp, by simp, hb2.out⟩
  case round =>
    obtain ⟨k, cs, hk, rfl, hrs, hcl, htk, hbel⟩ := hrel
    by_cases hlt : k < l.length
    · obtain ⟨x, hx⟩ : ∃ x, l[k]? = some x := ⟨l[k], by simp [hlt]⟩
      have hc := (hbel.cell (p := ⟨b, off + k, none⟩) hbw).trans (HC.out k x hx)
      have hq : (0 + k) % cs.length = k := by rw [Nat.zero_add, Nat.mod_eq_of_lt (by omega)]
      have HP := put_room_str (w := wr) hrs x (by omega) (by omega) (by omega) (by omega) k hq
      have F : Hid (RS Value.string 9 54 wr p g 0 k cs ∧ cs.length = l.length ∧ cs.take k = l.take k ∧ Below w.heap.size w wr ∧ l[k]? = some x) := ⟨hrs, hcl, htk, hbel, hx⟩
      clear hrs hcl htk hbel hx hq hr hb2
      go_wp2_with (go_at_call 10; refine HP.mono ?_; rintro e w3 ⟨rfl, hl3⟩; have hl3 := Lib.hid hl3)
      go_roundw
      case rel =>
        obtain ⟨_, hcl, htk, hbel, hx⟩ := F.out
        refine ⟨k + 1, _, by omega, by go_num, hl3.out.1, by simp [hcl], ?_, hbel.trans (hl3.out.2.2 _ hp hg)⟩
        rw [List.take_add_one, List.take_add_one, hx, List.take_set_of_le (by omega), htk]
        simp [show k < cs.length by omega]
      case measure => simp [intOf]; omega
    · obtain rfl : k = l.length := by omega
      obtain ⟨wo, rfl⟩ : ∃ wo : World, wo = wr := ⟨_, rfl⟩
      have F : Hid (RS Value.string 9 54 wo p g 0 l.length cs ∧ cs.length = l.length ∧ cs = l ∧ Below w.heap.size w wo) := ⟨hrs, hcl, by rw [List.take_of_length_le (by omega), List.take_of_length_le (by omega)] at htk; exact htk, hbel⟩
      have HPF := put_full_str (w := wo) hrs more (by omega)
      have HL : ∀ m : Nat, Calls Try.prog 11 #[.pointer (some ⟨p, 0, none⟩)] (wo.drewN m) fun e w' => e = .returned (.int .i64 (l.length : Int)) ∧ ∃ nd, w' = (wo.drewN m).drewN nd := fun m => len_str (w := wo.drewN m) hrs
      clear hrs hcl htk hbel hr hb2
      go_wp2_with (first | (go_at_call 10; refine HPF.mono ?_; rintro e w3 ⟨rfl, n3, rfl⟩) | (go_at_call 11; refine (HL _).mono ?_; rintro e w4 ⟨rfl, n4, rfl⟩))
      clear HPF HL
      go_loopw [8] (fun i wq => ∃ (k : Nat) (cs : List ByteArray), k ≤ l.length ∧ i = .int .i64 (k : Int) ∧ RS Value.string 9 54 wq p g (k % l.length) (l.length - k) cs ∧ cs.length = l.length ∧ cs.drop k = l.drop k ∧ Below w.heap.size w wq) (fun i _ => l.length - (intOf i).toNat)
      case atStart =>
        obtain ⟨f1, f2, f3, f4⟩ := F.out
        exact ⟨0, cs, Nat.zero_le _, rfl, by rw [Nat.zero_mod]; exact f1, f2, by rw [f3], pw_below_drewN f4 _⟩
      case round =>
        obtain ⟨k, ds, hk, rfl, hrs, hcl, htk, hbel⟩ := hrel
        by_cases hlt : k < l.length
        · obtain ⟨x, hx⟩ : ∃ x, l[k]? = some x := ⟨l[k], by simp [hlt]⟩
          have hc := (hbel.cell (p := ⟨b, off + k, none⟩) hbw).trans (HC.out k x hx)
          have hkm : k % l.length = k := Nat.mod_eq_of_lt hlt
          have hdx : ds[k]? = some x := by rw [get_of_drop htk, hx]
          rw [hkm] at hrs
          have HT := take_some_str (w := wr) hrs (by omega) (by omega) (by omega) (by omega) (by omega) x hdx
          have HW := Lib.hid (fun (W : World) (hW : Below w.heap.size wr W) => ((hbel.trans hW).cell (p := ⟨b, off + k, none⟩) hbw).trans (HC.out k x hx))
          have G : Hid (ds.length = l.length ∧ ds.drop k = l.drop k ∧ Below w.heap.size w wr) := ⟨hcl, htk, hbel⟩
          clear hrs hcl htk hbel hx hkm hdx
          go_wp2_with (go_at_call 12; refine HT.mono ?_; rintro e w3 ⟨rfl, hl3⟩; have hl3 := Lib.hid hl3; have hc3 := HW.out w3 (hl3.out.2.2 _ hp hg))
          go_roundw
          case rel =>
            obtain ⟨hcl, htk, hbel⟩ := G.out
            refine ⟨k + 1, ds.set k (⟨#[]⟩ : ByteArray), by omega, by go_num, ?_, ?_, drop_set_succ htk _, hbel.trans (hl3.out.2.2 _ hp hg)⟩
            · have := hl3.out.1
              rw [hcl, Nat.sub_sub] at this
              exact this
            · simp [hcl]
          case measure => simp [intOf]; omega
        · obtain rfl : k = l.length := by omega
          have hrs : RS Value.string 9 54 wr p g 0 0 ds := by rw [Nat.mod_self, Nat.sub_self] at hrs; exact hrs
          have HT := take_none_str (w := wr) hrs rfl
          have HP : ∀ m : Nat, Calls Try.prog 10 #[.pointer (some ⟨p, 0, none⟩), .string more] (wr.drewN m) fun e w' => e = .returned (.int .i64 0) ∧ Below w.heap.size w w' := fun m =>
            (put_room_str (w := wr.drewN m) hrs more (by omega) (by omega) (by omega) (by omega) _ rfl).mono fun _ _ ⟨he, hl⟩ => ⟨he, (pw_below_drewN hbel m).trans (hl.2.2 _ hp hg)⟩
          clear hrs hcl htk hbel
          go_wp2_with (first | (go_at_call 12; refine HT.mono ?_; rintro e w3 ⟨rfl, n3, rfl⟩) | (go_at_call 10; refine (HP _).mono ?_; rintro e w4 ⟨rfl, hb4⟩; have hb4 := Lib.hid hb4))
          go_ret
          exact ⟨rfl, hb4.out⟩
theorem queue_walk (w : World) (A : Option Addr) (l : List ByteArray) (cap : Nat) (hl : l.length ≤ cap) (hm : cap ≤ maxLen) (ha : Arg Value.string w A l) (more : ByteArray) (_hs : more.size ≤ 140737488351232) :
    Calls Try.prog 3 #[.slice A l.length cap, .string more] w fun e w' => e = .returned (.bool true) ∧ Below w.heap.size w w' := by
  unfold maxLen at hm
  by_cases h : l.length = 0 ∨ 500 < l.length
  · exact queue_out w A l cap more h (by omega)
  · obtain ⟨b, off, rfl, hb, hc⟩ := ha (by omega)
    exact queue_any w b off l cap more (by omega) (by omega) hb hc
end Go.Proofs.Yteaighaaclaimaa.Ring
