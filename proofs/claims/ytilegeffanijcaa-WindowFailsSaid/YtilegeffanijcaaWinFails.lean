/- The walk of WindowFails. -/
import Derived.Test.YtilegeffanijcaaWinLaw
namespace Go.Proofs.Ytilegeffanijcaa.Win
open Go.RowKit Go.Proofs.YtilegeffanijcaaW.PrintWords Go.Proofs.YtilegeffanijcaaW.PrintLast Go.Proofs.YtilegeffanijcaaW.PrintMore Go.Proofs.Ytilegeffanijcaa.Ring Go.Proofs.Ytilegeffanijcaa.Args

theorem own_later {W W' : World} {base n size : Nat} {e : TypeId} {v : Value} {xs : List Value} (h : W.ownsRow base e size v n xs) (hb : Below W.heap.size W W') : W'.ownsRow base e size v n xs := by
  refine ⟨h.1, ?_⟩
  rcases h.2 with h | ⟨g, cap, cur, h1, h2, h3, h4⟩
  · exact .inl h
  · exact .inr ⟨g, cap, cur, h1, h2, blk_below h3 hb, h4⟩
theorem own_none (W : World) (base : Nat) (e : TypeId) (hb : base ≤ W.heap.size) : (W.alloc (.cells #[] e)).ownsRow base e 1 (.slice (some ⟨W.heap.size, 0, none⟩) 0 0) ([] : List Bool).length (encs Value.bool []) :=
  ⟨rfl, .inr ⟨_, 0, #[], rfl, hb, blk_new _ _, Nat.le_refl _, Nat.zero_le _, rfl, rfl⟩⟩
/-- Misses behind the first jobs. -/
def alls (l : List Bool) (i n : Nat) : List Bool := l.take i ++ List.replicate n false
set_option maxRecDepth 100000 in
set_option maxHeartbeats 4000000 in
theorem fails_good (w : World) (m k : Nat) (hm1 : 1 ≤ m) (hm2 : m ≤ k) (hk2 : k ≤ 64) (A : Option Addr) (l : List Bool) (cap : Nat) (hr : ReadsOf Value.bool false w A l.length l) (hl : l.length ≤ 300) (hcap : l.length ≤ cap) :
    Calls Try.prog 3 #[.int .i64 (m : Int), .int .i64 (k : Int), .slice A l.length cap] w fun e w' => e = .returned (.bool true) ∧ Below w.heap.size w w' := by
  have i1 : (1 : Int) ≤ (m : Int) := by omega
  have i2 : (m : Int) ≤ (k : Int) := by omega
  have i3 : (k : Int) ≤ 64 := by omega
  have i0 : decide (k < m) = false := by simp; omega
  have i4 : (l.length : Int) ≤ 300 := by omega
  have hk1 : 1 ≤ k := by omega
  have H := Lib.hid hr
  clear hr
  go_enter Try.func3, Try.ntmps3
  go_wp2_with fail
  refine (awake_any _).mono ?_; rintro e w1 ⟨rfl, hb1⟩
  replace hb1 := Lib.hid hb1
  go_wp2_with fail
  refine (new_yes _ m k hm1 hm2 hk2).mono ?_; rintro e w2 ⟨pw, p, g, rfl, hw, hpw, hp, hg, hb2⟩
  have hw2 := Lib.hid hw
  have hB2 := Lib.hid (hb1.out.trans (hb2.mono hb1.out.size))
  have hp' : w.heap.size ≤ p := Nat.le_trans hb1.out.size hp
  have hg' : w.heap.size ≤ g := Nat.le_trans hb1.out.size hg
  clear hw hb2 hpw hp hg hb1
  go_wp2_with fail
  go_loopw [9] (fun s wr => ∃ i : Nat, i ≤ l.length + 1 ∧ s = .int .i64 (i : Int) ∧ WS wr pw p g m k (lastk k (l.take i)) ∧ Below w.heap.size w wr) (fun s _ => l.length + 1 - (intOf s).toNat)
  case atStart => exact ⟨0, Nat.zero_le _, rfl, by rw [List.take_zero, lastk_nil]; exact hw2.out, hB2.out⟩
  case round =>
    obtain ⟨i, hi, rfl, hws, hbel⟩ := hrel
    by_cases hlt : i ≤ l.length
    · obtain ⟨wo, rfl⟩ : ∃ wo : World, wo = wr := ⟨_, rfl⟩
      have i5 : (i : Int) ≤ (l.length : Int) := by omega
      have i6 : (i : Int) ≤ (cap : Int) := by omega
      have htl : (l.take i).length = i := by rw [List.length_take]; omega
      have HL := lawlast_any wo A (l.take i) cap k (by rw [htl]; exact (H.out.below hbel).take_ i hlt) (by omega) hk1 hk2
      rw [htl] at HL
      obtain ⟨L, hL⟩ : ∃ L, L = lastk k (l.take i) := ⟨_, rfl⟩
      rw [← hL] at HL hws
      have hlenL : L.length = k := hws.2.2
      have hws1 := Lib.hid hws
      have hB1 := Lib.hid hbel
      replace hL := Lib.hid hL
      replace htl := Lib.hid htl
      clear hws hbel hw2 hB2
      go_wp2_with fail
      refine HL.mono ?_; rintro e w3 ⟨A3, c3, rfl, hr3, hb3⟩
      have hws3 := Lib.hid (hws1.out.below hb3)
      have hB3 := Lib.hid (hB1.out.trans (hb3.mono hB1.out.size))
      replace hr3 := Lib.hid hr3
      clear hb3 HL hws1 hB1
      go_wp2_with fail
      refine (last_any hws3.out).mono ?_; rintro e w4 ⟨v4, rfl, ho4, hb4⟩
      obtain ⟨A4, c4, rfl, hr4⟩ := own_reads_of (enc := Value.bool) (d := false) ho4
      rw [hlenL] at hr4 ⊢
      have hws4 := Lib.hid (hws3.out.below hb4)
      have hB4 := Lib.hid (hB3.out.trans (hb4.mono hB3.out.size))
      have hr34 := Lib.hid (hr3.out.below hb4)
      replace hr4 := Lib.hid hr4
      have hkb : k ≤ 9223372036854775807 := by omega
      clear hb4 ho4 hr3 hws3 hB3
      obtain ⟨c, hc⟩ : ∃ c, c = cnt L := ⟨_, rfl⟩
      have hcb : c ≤ k := by have := cnt_le L; omega
      have HM := met_any hws4.out
      have HF := Lib.hid (fun (W : World) (hW : WS W pw p g m k L) => fails_any hW)
      have HX := Lib.hid (fun (W : World) (hW : Below w4.heap.size w4 W) => lawmet_any W A3 L c3 (by rw [hlenL]; exact hr34.out.below hW))
      rw [← hc] at HM HF HX
      rw [hlenL] at HX
      replace hlenL := Lib.hid hlenL
      replace hc := Lib.hid hc
      go_wp2_with fail
      refine HM.mono ?_; rintro e w5 ⟨rfl, hb5⟩
      have hws5 := Lib.hid (hws4.out.below hb5)
      have hb45 := Lib.hid hb5
      clear hb5 HM
      go_wp2_with fail
      refine (HX.out _ hb45.out).mono ?_; rintro e w6 ⟨rfl, n6, rfl⟩
      have hws6 : Hid (WS (w5.drewN n6) pw p g m k L) := Lib.hid (hws5.out.drewN n6)
      have hb46 := Lib.hid (pw_below_drewN hb45.out n6)
      clear hws5 hb45
      obtain ⟨w6, h6⟩ : ∃ W, W = w5.drewN n6 := ⟨_, rfl⟩
      rw [← h6] at hws6 hb46 ⊢
      clear h6
      go_wp2_with fail
      refine (HF.out _ hws6.out).mono ?_; rintro e w7 ⟨rfl, hb7⟩
      have hws7 := Lib.hid (hws6.out.below hb7)
      have hb47 := Lib.hid (hb46.out.trans (hb7.mono hb46.out.size))
      clear hb7 hws6 hb46
      go_wp2_with fail
      refine (HX.out _ hb47.out).mono ?_; rintro e w8 ⟨rfl, n8, rfl⟩
      have hws8 : Hid (WS (w7.drewN n8) pw p g m k L) := Lib.hid (hws7.out.drewN n8)
      have hb48 := Lib.hid (pw_below_drewN hb47.out n8)
      clear hws7 hb47 HF HX
      obtain ⟨w8, h8⟩ : ∃ W, W = w7.drewN n8 := ⟨_, rfl⟩
      rw [← h8] at hws8 hb48 ⊢
      clear h8
      have hd0 : decide ((c : Int) < (m : Int)) = decide (c < m) := by simp
      go_wp2_with fail
      go_loopw [12] (fun s wr => ∃ j : Nat, j ≤ k ∧ s = .int .i64 (j : Int) ∧ Below w8.heap.size w8 wr) (fun s _ => k - (intOf s).toNat)
      case atStart => exact ⟨0, Nat.zero_le _, rfl, Below.refl _ _⟩
      case round =>
        obtain ⟨j, hj, rfl, hb8⟩ := hrel
        by_cases hjk : j < k
        · obtain ⟨a3, rfl, hx3⟩ := hr34.out.2.2 (by omega)
          obtain ⟨a4, rfl, hx4⟩ := hr4.out.2.2 (by omega)
          have c3' := pw_cell_below ((hb48.out.trans (hb8.mono hb48.out.size))) (hx3 j hjk)
          have c4' := pw_cell_below ((hb48.out.trans (hb8.mono hb48.out.size))) (hx4 j hjk)
          obtain ⟨x, hx⟩ : ∃ x, x = L.getD j false := ⟨_, rfl⟩
          rw [← hx] at c3' c4'
          replace hb8 := Lib.hid hb8
          have hj2 : (j : Int) < (k : Int) := by omega
          clear hx hx3 hx4 hd0
          go_wp2_with fail
          go_quiet (fail)
          go_wp2
          go_roundw
          case rel => exact ⟨j + 1, by omega, by go_num, pw_below_drewN hb8.out _⟩
          case measure => simp [intOf]; omega
        · obtain rfl : j = k := by omega
          obtain ⟨w9, rfl⟩ : ∃ W : World, W = wr := ⟨_, rfl⟩
          have hws9 := Lib.hid (hws8.out.below hb8)
          have hB9 := Lib.hid (hB4.out.trans ((hb48.out.trans (hb8.mono hb48.out.size)).mono hB4.out.size))
          have hra := Lib.hid (((H.out.below hB9.out).take_ i hlt))
          obtain ⟨d, hd⟩ : ∃ d, d = dist m L := ⟨_, rfl⟩
          have hdk : d ≤ j := by have := dist_le hm1 L; have := hlenL.out; omega
          have hal0 : alls l i 0 = [] ++ l.take i := by simp [alls]
          replace hal0 := Lib.hid hal0
          clear hb8 hws8 hb48 hr34 hr4 hB4 hws4 hd0
          go_wp2_with (at_builtin; refine print_append_row_of Value.bool false (w0 := w9) w9.heap.size rfl (.tmp 99) (.tmp 102) 22 4 (.bool false) 1 rfl Try.underlying22 info4 rfl (by decide) (fun _ => rfl) (.slice (some ⟨w9.heap.size, 0, none⟩) 0 0) [] (l.take i) A i cap rfl rfl (own_none w9 _ _ (Nat.le_refl _)) (hra.out.below (below_alloc (Below.refl _ _) _)) (below_alloc (Below.refl _ _) _) (by simp) (by simp; omega) ?_; intro v10 w10 ho10 hb10 _ _; rw [← hal0.out] at ho10; replace ho10 := Lib.hid ho10; replace hb10 := Lib.hid hb10)
          go_loopw [13, 14] (fun s v wr => ∃ n : Nat, n ≤ d ∧ s = .int .i64 (n : Int) ∧ wr.ownsRow w9.heap.size 4 1 v (alls l i n).length (encs Value.bool (alls l i n)) ∧ Below w9.heap.size w9 wr) (fun s _ _ => d - (intOf s).toNat)
          case atStart => exact ⟨0, Nat.zero_le _, rfl, ho10.out, hb10.out⟩
          case round =>
            obtain ⟨n, hn, rfl, ho, hb⟩ := hrel
            obtain ⟨A5, c5, rfl, hr5⟩ := own_reads_of (enc := Value.bool) (d := false) ho
            have hall : (alls l i n).length = i + n := by unfold alls; rw [List.length_append, htl.out, List.length_replicate]
            have hcnt : cnt (lastk j (alls l i n)) = cnt (L.drop n) := by rw [hL.out]; exact cnt_miss (by omega) _
            have HL := lawlast_any wr A5 (alls l i n) c5 j hr5 (by omega) hk1 hk2
            have hat := dist_at hm1 (l := L) (n := n) (by rw [← hd]; exact hn)
            rw [← hd, ← hcnt] at hat
            have hc5 : cnt (lastk j (alls l i n)) ≤ 64 := by have := cnt_le (lastk j (alls l i n)); rw [lastk_len] at this; omega
            have hll : (lastk j (alls l i n)).length = j := lastk_len _ _
            obtain ⟨L5, hL5⟩ : ∃ L5, L5 = lastk j (alls l i n) := ⟨_, rfl⟩
            rw [← hL5] at HL hat hc5 hll
            replace ho := Lib.hid ho
            replace hb := Lib.hid hb
            replace hall := Lib.hid hall
            have hsz := hb.out.size
            clear hr5 hcnt hL5 ho10 hb10
            go_wp2_with fail
            refine HL.mono ?_; rintro e w11 ⟨A6, c6, rfl, hr6, hb11⟩
            have HX := lawmet_any w11 A6 L5 c6 (by rw [hll]; exact hr6)
            rw [hll] at HX
            have ho11 := Lib.hid (own_later ho.out hb11)
            have hB11 := Lib.hid (hb.out.trans (hb11.mono hsz))
            replace hll := Lib.hid hll
            clear hr6 HL hb11 ho hb
            go_wp2_with fail
            refine HX.mono ?_; rintro e w12 ⟨rfl, n12, rfl⟩
            have ho12 : Hid ((w11.drewN n12).ownsRow w9.heap.size 4 1 (.slice A5 (alls l i n).length c5) (alls l i n).length (encs Value.bool (alls l i n))) := Lib.hid ho11.out
            have hB12 := Lib.hid (pw_below_drewN hB11.out n12)
            have hsz12 : w9.heap.size ≤ (w11.drewN n12).heap.size := hB12.out.size
            clear HX ho11 hB11 hsz
            obtain ⟨w12, h12⟩ : ∃ W, W = w11.drewN n12 := ⟨_, rfl⟩
            rw [← h12] at ho12 hB12 hsz12 ⊢
            clear h12
            obtain ⟨q, hq⟩ : ∃ q, q = cnt L5 := ⟨_, rfl⟩
            rw [← hq] at hat hc5 ⊢
            clear hq
            by_cases hnd : n < d
            · have hge : (m : Int) ≤ (q : Int) := by have := hat.2 hnd; omega
              clear hat
              go_wp2_with (at_builtin; refine print_append_of Value.bool (w0 := w9) w9.heap.size rfl (.tmp 110) (.tmp 111) 22 4 (.bool false) 1 rfl Try.underlying22 info4 rfl (by decide) _ (alls l i n) false rfl rfl rfl ho12.out hB12.out hsz12 (by have := hall.out; omega) ?_; intro v13 w13 ho13 hb13 _ _; replace ho13 := Lib.hid ho13; replace hb13 := Lib.hid hb13)
              go_roundw
              case rel => exact ⟨n + 1, by omega, by go_num, by rw [show alls l i (n + 1) = alls l i n ++ [false] by simp [alls, List.replicate_succ']]; exact ho13.out, hb13.out⟩
              case measure => simp [intOf]; omega
            · have hge : ¬ (m : Int) ≤ (q : Int) := by rw [← hat] at hnd; omega
              obtain rfl : n = d := by omega
              have hws12 := hws9.out.below hB12.out
              have HD := distance_any hws12 hm1
              rw [← hd] at HD
              have hws13 := Lib.hid hws12
              have hB13 := Lib.hid (hB9.out.trans (hB12.out.mono hB9.out.size))
              replace hd := Lib.hid hd
              clear hat hws12 ho12 hws9 hB12
              go_wp2_with fail
              refine HD.mono ?_; rintro e w14 ⟨rfl, hb14⟩
              have hws14 := Lib.hid (hws13.out.below hb14)
              have hB14 := Lib.hid (hB13.out.trans (hb14.mono hB13.out.size))
              clear hb14 HD hws13 hB13
              by_cases hil : i < l.length
              · obtain ⟨x, hx⟩ : ∃ x, l[i]? = some x := ⟨l[i], by simp [hil]⟩
                obtain ⟨ad, rfl, hc7⟩ := H.out.2.2 (by omega)
                have hcell := hc7 i hil
                rw [show l.getD i false = x by simp [List.getD_eq_getElem?_getD, hx]] at hcell
                have hc8 := pw_cell_below hB14.out hcell
                have hL2 := lastk_take hk1 hx
                rw [← hL.out] at hL2
                replace hL2 := Lib.hid hL2
                have HP := push_any hws14.out x
                have hil2 : (i : Int) < (l.length : Int) := by omega
                clear hx hc7 hcell
                go_wp2_with fail
                refine HP.mono ?_; rintro e w15 ⟨rfl, hl15⟩
                have hws15 := Lib.hid hl15.1
                have hB15 := Lib.hid (hB14.out.trans (hl15.2.2 _ hp' hg'))
                clear hl15 HP
                go_wp2
                go_roundw
                case rel => exact ⟨i + 1, by omega, by go_num, by rw [hL2.out]; exact hws15.out, hB15.out⟩
                case measure => simp [intOf]; omega
              · obtain rfl : i = l.length := by omega
                go_wp2
                go_roundw
                case rel => exact ⟨l.length + 1, by omega, by go_num, by rw [List.take_of_length_le (by omega)]; have := hL.out; rw [List.take_length] at this; rw [← this]; exact hws14.out, hB14.out⟩
                case measure => simp [intOf]
    · obtain rfl : i = l.length + 1 := by omega
      have hB1 := Lib.hid hbel
      clear hws hbel hw2 hB2
      go_wp2
      go_ret
      exact ⟨rfl, hB1.out⟩
theorem fails_bad (w : World) (m k : Int) (h : m < 1 ∨ k < m ∨ 64 < k) (A : Option Addr) (l : List Bool) (cap : Nat) (hl : l.length ≤ 300) :
    Calls Try.prog 3 #[.int .i64 m, .int .i64 k, .slice A l.length cap] w fun e w' => e = .returned (.bool true) ∧ Below w.heap.size w w' := by
  have i4 : (l.length : Int) ≤ 300 := by omega
  have HA := awake_any w
  have HN := Lib.hid (fun W => new_no W m k h)
  by_cases h1 : m < 1
  · clear h
    go_enter Try.func3, Try.ntmps3
    go_wp2_with fail
    refine HA.mono ?_; rintro e w1 ⟨rfl, hb⟩
    go_wp2_with fail
    refine (HN.out _).mono ?_; rintro e w2 ⟨rfl, n2, rfl⟩
    replace hb := Lib.hid hb
    go_wp2
    go_ret
    exact ⟨rfl, pw_below_drewN hb.out _⟩
  · have h1' : (1 : Int) ≤ m := by omega
    by_cases h2 : k < m
    · clear h h1
      go_enter Try.func3, Try.ntmps3
      go_wp2_with fail
      refine HA.mono ?_; rintro e w1 ⟨rfl, hb⟩
      go_wp2_with fail
      refine (HN.out _).mono ?_; rintro e w2 ⟨rfl, n2, rfl⟩
      replace hb := Lib.hid hb
      go_wp2
      go_ret
      exact ⟨rfl, pw_below_drewN hb.out _⟩
    · have h3 : (64 : Int) < k := by omega
      have h4 : m ≤ k := by omega
      clear h h1 h2
      go_enter Try.func3, Try.ntmps3
      go_wp2_with fail
      refine HA.mono ?_; rintro e w1 ⟨rfl, hb⟩
      go_wp2_with fail
      refine (HN.out _).mono ?_; rintro e w2 ⟨rfl, n2, rfl⟩
      replace hb := Lib.hid hb
      go_wp2
      go_ret
      exact ⟨rfl, pw_below_drewN hb.out _⟩
theorem fails_walk (w : World) (m : Int) (_wm : (Lit.int .i64 m).wf = true) (k : Int) (_wk : (Lit.int .i64 k).wf = true) (A : Option Addr) (l : List Bool) (cap : Nat) (hl : l.length ≤ cap) (hm : cap ≤ maxLen) (ha : Arg Value.bool w A l) :
    Calls Try.prog 3 #[.int .i64 m, .int .i64 k, .slice A l.length cap] w fun e w' => e = .returned (.bool true) ∧ Below w.heap.size w w' := by
  unfold maxLen at hm
  by_cases h : l.length ≤ 300
  · by_cases hb : m < 1 ∨ k < m ∨ 64 < k
    · exact fails_bad w m k hb A l cap h
    · obtain ⟨m, rfl⟩ : ∃ n : Nat, m = (n : Int) := ⟨m.toNat, by omega⟩
      obtain ⟨k, rfl⟩ : ∃ n : Nat, k = (n : Int) := ⟨k.toNat, by omega⟩
      exact fails_good w m k (by omega) (by omega) (by omega) A l cap (reads_arg ha (by omega)) h hl
  · have HA := awake_twice w
    have hn : (300 : Int) < (l.length : Int) := by omega
    have hx : l.length ≤ 9223372036854775807 := by omega
    clear h ha hl hm
    go_enter Try.func3, Try.ntmps3
    go_wp2_with (go_at_call 8; refine (HA _ (by first | exact Below.refl _ _ | assumption)).mono ?_; rintro e w1 ⟨rfl, hb⟩)
    go_ret
    exact ⟨rfl, by assumption⟩
end Go.Proofs.Ytilegeffanijcaa.Win
