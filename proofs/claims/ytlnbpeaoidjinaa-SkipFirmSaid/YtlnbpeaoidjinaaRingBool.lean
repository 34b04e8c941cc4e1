import Derived.Test.YtlnbpeaoidjinaaRing
namespace Go.Proofs.Ytlnbpeaoidjinaa.Ring
open Go.RowKit Go.Proofs.YtlnbpeaoidjinaaW.PrintWords Go.Proofs.YtlnbpeaoidjinaaW.PrintLast Go.Proofs.YtlnbpeaoidjinaaW.PrintMore
theorem info4 : (Try.prog.info? 4).map (fun i => (i.zero, i.size, i.bytes)) = some (some (Value.bool false), 1, 1) := by kernel_rfl
theorem at_bool {w : World} {p g f n : Nat} {cs : List Bool} (h : RS Value.bool 4 71 w p g f n cs) (i : Nat) (hc : 1 ≤ cs.length) (hb : cs.length ≤ 4096) (hf : f < cs.length) (hi : i ≤ cs.length) :
    Calls Try.prog 31 #[.pointer (some ⟨p, 0, none⟩), .int .i64 (i : Int)] w fun e w' => e = .returned (.int .i64 (((f + i) % cs.length : Nat) : Int)) ∧ ∃ nd, w' = w.drewN nd := by
  have c0 : w.cell? ⟨p, 0, none⟩ = some (.slice (some ⟨g, 0, none⟩) cs.length cs.length) := blk_cell h.1 0
  have c1 : w.cell? ⟨p, 1, none⟩ = some (.int .i64 (f : Int)) := blk_cell h.1 1
  have hw := wadd (a := f) (b := i) (by omega)
  have hm := modn (a := f + i) (c := cs.length)
  have hne : ((cs.length : Int) == 0) = false := by rw [beq_eq_false_iff_ne]; omega
  have hne2 : ¬ ((cs.length : Int) = 0) := by omega
  clear h
  go_enter Try.func31, Try.ntmps31
  go_wp2
  go_quiet (fail)
  go_wp2
  go_ret
  exact ⟨rfl, _, rfl⟩

theorem put_full_bool {w : World} {p g f n : Nat} {cs : List Bool} (h : RS Value.bool 4 71 w p g f n cs) (x : Bool) (hn : n = cs.length) :
    Calls Try.prog 25 #[.pointer (some ⟨p, 0, none⟩), (Value.bool x)] w fun e w' => e = .returned (.int .i64 3) ∧ ∃ nd, w' = w.drewN nd := by
  have c0 : w.cell? ⟨p, 0, none⟩ = some (.slice (some ⟨g, 0, none⟩) cs.length cs.length) := blk_cell h.1 0
  have c2 : w.cell? ⟨p, 2, none⟩ = some (.int .i64 (n : Int)) := blk_cell h.1 2
  have he : ((n : Int) == (cs.length : Int)) = true := by rw [beq_iff_eq]; omega
  clear h hn
  go_enter Try.func25, Try.ntmps25
  go_wp2
  go_quiet (fail)
  go_wp2
  go_ret
  exact ⟨rfl, _, rfl⟩
theorem put_room_bool {w : World} {p g f n : Nat} {cs : List Bool} (h : RS Value.bool 4 71 w p g f n cs) (x : Bool) (hc : 1 ≤ cs.length) (hb : cs.length ≤ 4096) (hf : f < cs.length) (hn : n < cs.length) (q : Nat) (hq : (f + n) % cs.length = q) :
    Calls Try.prog 25 #[.pointer (some ⟨p, 0, none⟩), (Value.bool x)] w fun e w' => e = .returned (.int .i64 0) ∧ Left Value.bool 4 71 w w' p g f (n + 1) (cs.set q x) := by
  have hlt : q < cs.length := hq ▸ Nat.mod_lt _ (by omega)
  have H := Lib.hid h
  have hlt2 : (q : Int) < (cs.length : Int) := by omega
  have hne := blk_ne h.1 h.2 (by decide)
  have c0 : w.cell? ⟨p, 0, none⟩ = some (.slice (some ⟨g, 0, none⟩) cs.length cs.length) := blk_cell h.1 0
  have c2 : w.cell? ⟨p, 2, none⟩ = some (.int .i64 (n : Int)) := blk_cell h.1 2
  have fq := blk_frozen h.2 q
  obtain ⟨u, cq⟩ : ∃ u, w.cell? ⟨g, q, none⟩ = some u := by rw [blk_cell h.2 q]; simp [hlt]
  have f2 := blk_frozen h.1 2
  have he : ((n : Int) == (cs.length : Int)) = false := by rw [beq_eq_false_iff_ne]; omega
  have HF : ∀ W : World, W.heap = w.heap → Calls Try.prog 31 #[.pointer (some ⟨p, 0, none⟩), .int .i64 (n : Int)] W fun e w' => e = .returned (.int .i64 (q : Int)) ∧ ∃ nd, w' = W.drewN nd := fun W hW => by
    have := at_bool (w := W) (show RS Value.bool 4 71 W p g f n cs by unfold RS; rw [hW]; exact h) n hc hb hf (by omega)
    rw [hq] at this; exact this
  clear h hq
  go_enter Try.func25, Try.ntmps25
  go_wp2
  go_quiet (fail)
  go_wp2
  go_region_with (go_at_call 31; (refine (HF _ (by rfl)).mono ?_; rintro e w1 ⟨rfl, nd, rfl⟩))
  all_goals go_wp2
  all_goals go_ret
  all_goals exact ⟨rfl, (((Left.refl H.out).row hne q x).cnt hne (n + 1)).drewN _⟩

theorem take_none_bool {w : World} {p g f n : Nat} {cs : List Bool} (h : RS Value.bool 4 71 w p g f n cs) (hn : n = 0) :
    Calls Try.prog 36 #[.pointer (some ⟨p, 0, none⟩)] w fun e w' => e = .returned (.tuple #[(Value.bool false), .bool false]) ∧ ∃ nd, w' = w.drewN nd := by
  have c2 : w.cell? ⟨p, 2, none⟩ = some (.int .i64 (n : Int)) := blk_cell h.1 2
  have he : ((n : Int) == 0) = true := by rw [beq_iff_eq]; omega
  clear h hn
  go_enter Try.func36, Try.ntmps36
  go_wp2
  go_ret2
  exact ⟨rfl, 0, rfl⟩
theorem take_some_bool {w : World} {p g f n : Nat} {cs : List Bool} (h : RS Value.bool 4 71 w p g f n cs) (hc : 1 ≤ cs.length) (hb : cs.length ≤ 4096) (hf : f < cs.length) (hn : 1 ≤ n) (hn2 : n ≤ cs.length) (x : Bool) (hx : cs[f]? = some x) :
    Calls Try.prog 36 #[.pointer (some ⟨p, 0, none⟩)] w fun e w' => e = .returned (.tuple #[(Value.bool x), .bool true]) ∧ Left Value.bool 4 71 w w' p g ((f + 1) % cs.length) (n - 1) (cs.set f false) := by
  have H := Lib.hid h
  have hlt2 : (f : Int) < (cs.length : Int) := by omega
  have hn3 : (1 : Int) ≤ (n : Int) := by omega
  have hne := blk_ne h.1 h.2 (by decide)
  have c0 : w.cell? ⟨p, 0, none⟩ = some (.slice (some ⟨g, 0, none⟩) cs.length cs.length) := blk_cell h.1 0
  have c1 : w.cell? ⟨p, 1, none⟩ = some (.int .i64 (f : Int)) := blk_cell h.1 1
  have c2 : w.cell? ⟨p, 2, none⟩ = some (.int .i64 (n : Int)) := blk_cell h.1 2
  have cf : w.cell? ⟨g, f, none⟩ = some ((Value.bool x)) := by rw [blk_cell h.2 f]; simp [hx]
  have ff := blk_frozen h.2 f
  have f1 := blk_frozen h.1 1
  have f2 := blk_frozen h.1 2
  have he : ((n : Int) == 0) = false := by rw [beq_eq_false_iff_ne]; omega
  have HF : ∀ W : World, W.heap = (w.setCell ⟨g, f, none⟩ (Value.bool false)).heap → Calls Try.prog 31 #[.pointer (some ⟨p, 0, none⟩), .int .i64 1] W fun e w' => e = .returned (.int .i64 (((f + 1) % cs.length : Nat) : Int)) ∧ ∃ nd, w' = W.drewN nd := fun W hW => by
    have := at_bool (w := W) (show RS Value.bool 4 71 W p g f n (cs.set f false) by have := h.row hne f false; unfold RS; rw [hW]; exact this) 1 (by simp; omega) (by simp; omega) (by simp; omega) (by simp; omega)
    rw [List.length_set] at this; exact this
  obtain ⟨q, hq⟩ : ∃ q, q = (f + 1) % cs.length := ⟨_, rfl⟩
  rw [← hq] at HF ⊢
  clear h hq hx hn
  go_enter Try.func36, Try.ntmps36
  go_wp2
  go_quiet (fail)
  go_wp2
  go_region
  all_goals go_wp2_with (go_at_call 31; (refine (HF _ (by rfl)).mono ?_; rintro e w1 ⟨rfl, nd, rfl⟩))
  go_ret2
  refine ⟨rfl, ?_⟩
  rw [show (n : Int) - 1 = ((n - 1 : Nat) : Int) by omega]
  exact (((((Left.refl H.out).drewN _).row hne f false).drewN _).fst hne q).cnt hne (n - 1)

theorem push_room_bool {w : World} {p g f n : Nat} {cs : List Bool} (h : RS Value.bool 4 71 w p g f n cs) (x : Bool) (hc : 1 ≤ cs.length) (hb : cs.length ≤ 4096) (hf : f < cs.length) (hn : n < cs.length) (q : Nat) (hq : (f + n) % cs.length = q) :
    Calls Try.prog 29 #[.pointer (some ⟨p, 0, none⟩), (Value.bool x)] w fun e w' => e = .returned (.bool false) ∧ Left Value.bool 4 71 w w' p g f (n + 1) (cs.set q x) := by
  have c0 : w.cell? ⟨p, 0, none⟩ = some (.slice (some ⟨g, 0, none⟩) cs.length cs.length) := blk_cell h.1 0
  have c2 : w.cell? ⟨p, 2, none⟩ = some (.int .i64 (n : Int)) := blk_cell h.1 2
  have he : ((n : Int) == (cs.length : Int)) = false := by rw [beq_eq_false_iff_ne]; omega
  have HF : ∀ m : Nat, Calls Try.prog 25 #[.pointer (some ⟨p, 0, none⟩), (Value.bool x)] (w.drewN m) fun e w' => e = .returned (.int .i64 0) ∧ Left Value.bool 4 71 w w' p g f (n + 1) (cs.set q x) := fun m =>
    (put_room_bool (w := w.drewN m) h x hc hb hf hn q hq).mono fun _ _ ⟨he, hl⟩ => ⟨he, ((Left.refl h).drewN m).trans hl⟩
  clear h hq
  go_enter Try.func29, Try.ntmps29
  go_wp2
  go_quiet (fail)
  go_wp2_with (go_at_call 25; (refine (HF _).mono ?_; rintro e w1 ⟨rfl, hl⟩; have hl := Lib.hid hl))
  go_ret
  exact ⟨rfl, hl.out⟩
theorem push_full_bool {w : World} {p g f n : Nat} {cs : List Bool} (h : RS Value.bool 4 71 w p g f n cs) (x : Bool) (hc : 1 ≤ cs.length) (hb : cs.length ≤ 4096) (hf : f < cs.length) (hn : n = cs.length) :
    Calls Try.prog 29 #[.pointer (some ⟨p, 0, none⟩), (Value.bool x)] w fun e w' => e = .returned (.bool true) ∧ Left Value.bool 4 71 w w' p g ((f + 1) % cs.length) n (cs.set f x) := by
  have c0 : w.cell? ⟨p, 0, none⟩ = some (.slice (some ⟨g, 0, none⟩) cs.length cs.length) := blk_cell h.1 0
  have c2 : w.cell? ⟨p, 2, none⟩ = some (.int .i64 (n : Int)) := blk_cell h.1 2
  have he : ((n : Int) == (cs.length : Int)) = true := by rw [beq_iff_eq]; omega
  obtain ⟨y, hy⟩ : ∃ y, cs[f]? = some y := ⟨cs[f], by simp [hf]⟩
  have HT : ∀ m : Nat, Calls Try.prog 36 #[.pointer (some ⟨p, 0, none⟩)] (w.drewN m) fun e w' => e = .returned (.tuple #[(Value.bool y), .bool true]) ∧ Left Value.bool 4 71 w w' p g ((f + 1) % cs.length) (n - 1) (cs.set f false) := fun m =>
    (take_some_bool (w := w.drewN m) h hc hb hf (by omega) (by omega) y hy).mono fun _ _ ⟨he, hl⟩ => ⟨he, ((Left.refl h).drewN m).trans hl⟩
  have hq : ((f + 1) % cs.length + (n - 1)) % cs.length = f := by
    rw [hn, Nat.mod_add_mod, show f + 1 + (cs.length - 1) = f + cs.length by omega, Nat.add_mod_right, Nat.mod_eq_of_lt hf]
  have hf1 : (f + 1) % cs.length < cs.length := Nat.mod_lt _ (by omega)
  have HP : ∀ W : World, Left Value.bool 4 71 w W p g ((f + 1) % cs.length) (n - 1) (cs.set f false) → Calls Try.prog 25 #[.pointer (some ⟨p, 0, none⟩), (Value.bool x)] W fun e w' => e = .returned (.int .i64 0) ∧ Left Value.bool 4 71 w w' p g ((f + 1) % cs.length) n (cs.set f x) := fun W hW =>
    (put_room_bool (w := W) hW.1 x (by simp; omega) (by simp; omega) (by simpa using hf1) (by simp; omega) f (by simpa using hq)).mono fun _ _ ⟨he, hl⟩ => ⟨he, by
      have := hW.trans hl
      rw [List.set_set, show n - 1 + 1 = n by omega] at this; exact this⟩
  clear h hq hn hy hf1
  go_enter Try.func29, Try.ntmps29
  go_wp2
  go_quiet (fail)
  go_wp2_with (first | (go_at_call 36; (refine (HT _).mono ?_; rintro e w1 ⟨rfl, hl⟩; have hl := Lib.hid hl)) | (go_at_call 25; (refine (HP _ hl.out).mono ?_; rintro e w2 ⟨rfl, hl2⟩; have hl2 := Lib.hid hl2)))
  go_ret
  exact ⟨rfl, hl2.out⟩

theorem new_no_bool (w : World) (c : Int) (h : c < 1 ∨ 4096 < c) :
    Calls Try.prog 24 #[.int .i64 c] w fun e w' => e = .returned (.tuple #[.pointer none, .int .i64 1]) ∧ ∃ nd, w' = w.drewN nd := by
  by_cases h0 : c < 1
  · clear h
    go_enter Try.func24, Try.ntmps24
    go_wp2
    go_ret2
    exact ⟨rfl, 0, rfl⟩
  · have h1 : 4096 < c := by omega
    have h2 : (1 : Int) ≤ c := by omega
    clear h h0
    go_enter Try.func24, Try.ntmps24
    go_wp2
    go_ret2
    exact ⟨rfl, 0, rfl⟩
theorem new_bool (w : World) (c : Nat) (h1 : 1 ≤ c) (h2 : c ≤ 4096) :
    Calls Try.prog 24 #[.int .i64 (c : Int)] w fun e w' => ∃ p g, e = .returned (.tuple #[.pointer (some ⟨p, 0, none⟩), .int .i64 0]) ∧ RS Value.bool 4 71 w' p g 0 0 (List.replicate c false) ∧ w.heap.size ≤ p ∧ w.heap.size ≤ g ∧ Below w.heap.size w w' := by
  have hmk := print_make_of (P := Try.prog) 22 4 (Value.bool false) 1 Try.underlying22 info4 rfl (by decide) c (by omega)
  go_enter Try.func24, Try.ntmps24
  go_wp2
  refine bodyPost_ret (v := .tuple #[.pointer (some ⟨w.heap.size + 1, 0, none⟩), .int .i64 0]) (by simp [results, Try.results24, go_sem]) rfl ⟨w.heap.size + 1, w.heap.size, rfl, ?_⟩
  exact ⟨RS.made w c false, by omega, Nat.le_refl _, ((Below.refl _ _).alloc (Nat.le_refl _) _).alloc (by simp) _⟩

theorem all_bool {w : World} {p g f n : Nat} {cs : List Bool} (h : RS Value.bool 4 71 w p g f n cs) (hc : 1 ≤ cs.length) (hb : cs.length ≤ 4096) (hf : f < cs.length) (hn2 : n ≤ cs.length) (L : List Bool) (hL : View cs f n L) :
    Calls Try.prog 32 #[.pointer (some ⟨p, 0, none⟩)] w fun e w' => ∃ v, e = .returned v ∧ w'.ownsRow w.heap.size 4 1 v n (L.map Value.bool) ∧ Below w.heap.size w w' := by
  have c2 : w.cell? ⟨p, 2, none⟩ = some (.int .i64 (n : Int)) := blk_cell h.1 2
  have H := Lib.hid h
  have HL := Lib.hid hL
  clear h hL
  go_enter Try.func32, Try.ntmps32
  go_wp2
  go_loopw [3, 9] (fun v i wr => ∃ k : Nat, k ≤ n ∧ i = .int .i64 (k : Int) ∧ wr.ownsRow w.heap.size 4 1 v k ((L.take k).map Value.bool) ∧ Below w.heap.size w wr) (fun _ i _ => n - (intOf i).toNat)
  case atStart => exact ⟨0, Nat.zero_le _, rfl, World.ownsRow_nil _ _ _ _, Below.refl _ _⟩
  case round =>
    obtain ⟨k, hk, rfl, hown, hbel⟩ := hrel
    by_cases hlt : k < n
    · have hlt2 : (f + k) % cs.length < cs.length := Nat.mod_lt _ (by omega)
      have hr : RS Value.bool 4 71 wr p g f n cs := ⟨blk_below H.out.1 hbel, blk_below H.out.2 hbel⟩
      obtain ⟨x, hx⟩ : ∃ x, L[k]? = some x := ⟨L[k]'(by rw [HL.out.1]; exact hlt), by simp [HL.out.1, hlt]⟩
      have hxc := HL.out.2 k hlt
      rw [hx] at hxc
      have c0 : wr.cell? ⟨p, 0, none⟩ = some (.slice (some ⟨g, 0, none⟩) cs.length cs.length) := blk_cell hr.1 0
      have cq : wr.cell? ⟨g, (f + k) % cs.length, none⟩ = some ((Value.bool x)) := by rw [blk_cell hr.2 _]; simp [hxc]
      have HF : ∀ W : World, W.heap = wr.heap → Calls Try.prog 31 #[.pointer (some ⟨p, 0, none⟩), .int .i64 (k : Int)] W fun e w' => e = .returned (.int .i64 (((f + k) % cs.length : Nat) : Int)) ∧ ∃ nd, w' = W.drewN nd := fun W hW =>
        at_bool (w := W) (show RS Value.bool 4 71 W p g f n cs by unfold RS; rw [hW]; exact hr) k hc hb hf (by omega)
      have hown2 : Hid (wr.ownsRow w.heap.size 4 1 u3 k ((L.take k).map Value.bool)) := hown
      have hbel2 : Hid (Below w.heap.size w wr) := hbel
      have hsz := hbel.size
      obtain ⟨q, hq⟩ : ∃ q, q = (f + k) % cs.length := ⟨_, rfl⟩
      rw [← hq] at HF cq hlt2
      have hlt3 : (q : Int) < (cs.length : Int) := by omega
      have hx2 := Lib.hid hx
      clear hr hxc hown hbel hq hx
      go_wp2
      go_region_law (first
        | (go_simp; go_at_call 31; refine (HF _ (by rfl)).mono ?_; rintro e w1 ⟨rfl, nd, rfl⟩)
        | (refine step_append_cells (w0 := w) w.heap.size rfl (.tmp 12) (.tmp 22) 22 4 (Value.bool false) 1 1 rfl Try.underlying22 info4 rfl (by decide) (by decide) u3 k _ [(Value.bool x)] rfl rfl rfl (by simp [Value.oneCell']) hown2.out (pw_below_drewN hbel2.out _) hsz (by omega) ?_; intro v1 w1 hown3 hbel3 _ _; have hown3 := Lib.hid hown3; have hbel3 := Lib.hid hbel3))
      all_goals
        go_wp2
        go_roundw
        case rel =>
          have e : (L.take (k + 1)).map Value.bool = (L.take k).map Value.bool ++ [(Value.bool x)] := by
            rw [List.take_add_one, hx2.out]; simp
          exact ⟨k + 1, by omega, by go_num, by rw [e]; exact hown3.out, hbel3.out⟩
        case measure => simp [intOf]; omega
    · obtain rfl : k = n := by omega
      have hown2 : Hid (wr.ownsRow w.heap.size 4 1 u3 k ((L.take k).map Value.bool)) := hown
      have hbel2 : Hid (Below w.heap.size w wr) := hbel
      clear hown hbel
      go_wp2
      go_ret
      exact ⟨u3, rfl, by have := hown2.out; rw [List.take_of_length_le (by rw [HL.out.1]; omega)] at this; exact this, hbel2.out⟩

section
variable {w : World} {p g c : Nat} {L : List Bool}
theorem new_q_bool (w : World) (c : Nat) (h1 : 1 ≤ c) (h2 : c ≤ 4096) :
    Calls Try.prog 24 #[.int .i64 (c : Int)] w fun e w' => ∃ p g, e = .returned (.tuple #[.pointer (some ⟨p, 0, none⟩), .int .i64 0]) ∧ RQ Value.bool 4 71 w' p g c [] ∧ w.heap.size ≤ p ∧ w.heap.size ≤ g ∧ Below w.heap.size w w' :=
  (new_bool w c h1 h2).mono fun _ _ ⟨p, g, he, hr, r⟩ => ⟨p, g, he, ⟨0, _, hr, by simp, h1, h2, by omega, by simp, rfl, fun i hi => absurd hi (by simp)⟩, r⟩
theorem put_q_bool (h : RQ Value.bool 4 71 w p g c L) (x : Bool) (hL : L.length < c) :
    Calls Try.prog 25 #[.pointer (some ⟨p, 0, none⟩), (Value.bool x)] w fun e w' => e = .returned (.int .i64 0) ∧ LQ Value.bool 4 71 w w' p g c (L ++ [x]) := by
  obtain ⟨f, cs, hr, rfl, h1, h2, h3, h4, hv⟩ := h
  exact (put_room_bool hr x h1 h2 h3 hL _ rfl).mono fun _ _ ⟨he, hl⟩ => ⟨he, LQ.of hl (by simp) (by simp) h1 h2 h3 (by omega) (hv.put h3 hL x)⟩
theorem put_qf_bool (h : RQ Value.bool 4 71 w p g c L) (x : Bool) (hL : L.length = c) :
    Calls Try.prog 25 #[.pointer (some ⟨p, 0, none⟩), (Value.bool x)] w fun e w' => e = .returned (.int .i64 3) ∧ LQ Value.bool 4 71 w w' p g c L := by
  have h' := h
  obtain ⟨f, cs, hr, rfl, _⟩ := h
  exact (put_full_bool hr x hL).mono fun _ _ ⟨he, n, hw⟩ => ⟨he, hw ▸ (LQ.refl h').drewN n⟩
theorem push_q_bool (h : RQ Value.bool 4 71 w p g c L) (x : Bool) (hL : L.length < c) :
    Calls Try.prog 29 #[.pointer (some ⟨p, 0, none⟩), (Value.bool x)] w fun e w' => e = .returned (.bool false) ∧ LQ Value.bool 4 71 w w' p g c (L ++ [x]) := by
  obtain ⟨f, cs, hr, rfl, h1, h2, h3, h4, hv⟩ := h
  exact (push_room_bool hr x h1 h2 h3 hL _ rfl).mono fun _ _ ⟨he, hl⟩ => ⟨he, LQ.of hl (by simp) (by simp) h1 h2 h3 (by omega) (hv.put h3 hL x)⟩
theorem push_qf_bool (h : RQ Value.bool 4 71 w p g c L) (x : Bool) (hL : L.length = c) :
    Calls Try.prog 29 #[.pointer (some ⟨p, 0, none⟩), (Value.bool x)] w fun e w' => e = .returned (.bool true) ∧ LQ Value.bool 4 71 w w' p g c (L.tail ++ [x]) := by
  obtain ⟨f, cs, hr, rfl, h1, h2, h3, h4, hv⟩ := h
  exact (push_full_bool hr x h1 h2 h3 hL).mono fun _ _ ⟨he, hl⟩ => ⟨he, LQ.of hl (by simp; omega) (by simp) h1 h2 (Nat.mod_lt _ (by omega)) (by omega) (hv.turn h3 hL x)⟩
theorem take_qn_bool (h : RQ Value.bool 4 71 w p g c ([] : List Bool)) :
    Calls Try.prog 36 #[.pointer (some ⟨p, 0, none⟩)] w fun e w' => e = .returned (.tuple #[(Value.bool false), .bool false]) ∧ LQ Value.bool 4 71 w w' p g c ([] : List Bool) := by
  have h' := h
  obtain ⟨f, cs, hr, rfl, _⟩ := h
  exact (take_none_bool hr rfl).mono fun _ _ ⟨he, n, hw⟩ => ⟨he, hw ▸ (LQ.refl h').drewN n⟩
theorem take_q_bool {x : Bool} (h : RQ Value.bool 4 71 w p g c (x :: L)) :
    Calls Try.prog 36 #[.pointer (some ⟨p, 0, none⟩)] w fun e w' => e = .returned (.tuple #[(Value.bool x), .bool true]) ∧ LQ Value.bool 4 71 w w' p g c L := by
  obtain ⟨f, cs, hr, rfl, h1, h2, h3, h4, hv⟩ := h
  have hx : cs[f]? = some x := by
    have := hv.2 0 (by simp)
    rw [Nat.add_zero, Nat.mod_eq_of_lt h3] at this; simpa using this
  exact (take_some_bool hr h1 h2 h3 (by simp) h4 x hx).mono fun _ _ ⟨he, hl⟩ => ⟨he, LQ.of hl (by simp) (by simp) h1 h2 (Nat.mod_lt _ (by omega)) (by simp at h4 ⊢; omega) (hv.take h3 h4 _)⟩
theorem all_q_bool (h : RQ Value.bool 4 71 w p g c L) :
    Calls Try.prog 32 #[.pointer (some ⟨p, 0, none⟩)] w fun e w' => ∃ v, e = .returned v ∧ w'.ownsRow w.heap.size 4 1 v L.length (L.map Value.bool) ∧ Below w.heap.size w w' := by
  obtain ⟨f, cs, hr, rfl, h1, h2, h3, h4, hv⟩ := h
  exact all_bool hr h1 h2 h3 h4 L hv
end
end Go.Proofs.Ytlnbpeaoidjinaa.Ring
