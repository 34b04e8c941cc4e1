/- The walk of SkipModel. -/
import Derived.Test.YtlnbpeaoidjinaaSkip
namespace Go.Proofs.Ytlnbpeaoidjinaa.Skip
open Go.RowKit Go.Proofs.YtlnbpeaoidjinaaW.PrintWords Go.Proofs.YtlnbpeaoidjinaaW.PrintLast Go.Proofs.YtlnbpeaoidjinaaW.PrintMore Go.Proofs.Ytlnbpeaoidjinaa.Ring Go.Proofs.Ytlnbpeaoidjinaa.Args Go.Proofs.Ytlnbpeaoidjinaa.Win Go.Proofs.Ytlnbpeaoidjinaa.Pat
set_option linter.unusedSimpArgs false
set_option linter.unusedVariables false
def alls (l : List Bool) (i n : Nat) : List Bool := l.take i ++ List.replicate n false
theorem model_bad (w : World) (kind m k : Int) (h : ¬ ((kind = 1 ∨ kind = 2) ∧ 1 ≤ m ∧ m ≤ k ∧ k ≤ 64)) (A : Option Addr) (l : List Bool) (cap : Nat) (hl : l.length ≤ 200) :
    Calls Try.prog 3 #[.int .i64 kind, .int .i64 m, .int .i64 k, .slice A l.length cap] w fun e w' => e = .returned (.bool true) ∧ Below w.heap.size w w' := by
  have i4 : (l.length : Int) ≤ 200 := by omega
  have HN := Lib.hid (fun W => new_no W kind m k h)
  have HR := Lib.hid (fun W => rright_no W kind m k h)
  clear h
  go_enter Try.func3, Try.ntmps3
  go_wp2_with fail
  refine (awake_any _).mono ?_; rintro e w1 ⟨rfl, hb1⟩
  replace hb1 := Lib.hid hb1
  go_wp2_with fail
  refine (HN.out _).mono ?_; rintro e w2 ⟨rfl, rfl⟩
  go_wp2_with fail
  refine (HR.out _).mono ?_; rintro e w3 ⟨rfl, rfl⟩
  go_wp2
  go_ret
  exact ⟨rfl, hb1.out⟩
set_option maxRecDepth 100000 in
set_option maxHeartbeats 8000000 in
theorem model_good (w : World) (deep : Bool) (z : Int) (hz : (deep = true ∧ z = 2) ∨ (deep = false ∧ z = 1)) (m k : Nat) (hm1 : 1 ≤ m) (hm2 : m ≤ k) (hk2 : k ≤ 64) (A : Option Addr) (l : List Bool) (cap : Nat) (hr : ReadsOf Value.bool false w A l.length l) (hl : l.length ≤ 200) (hcap : l.length ≤ cap) :
    Calls Try.prog 3 #[.int .i64 z, .int .i64 (m : Int), .int .i64 (k : Int), .slice A l.length cap] w fun e w' => e = .returned (.bool true) ∧ Below w.heap.size w w' := by
  have hk1 : 1 ≤ k := by omega
  have hki2 : (k : Int) ≤ 64 := by omega
  have i4 : (l.length : Int) ≤ 200 := by omega
  have hkz : kd deep = z := by rcases hz with ⟨rfl, rfl⟩ | ⟨rfl, rfl⟩ <;> rfl
  have HN := Lib.hid (fun W => show Calls Try.prog 8 #[.int .i64 z, .int .i64 (m : Int), .int .i64 (k : Int)] W fun e w' => ∃ ps pw p g, e = .returned (.tuple #[.pointer (some ⟨ps, 0, none⟩), .int .i64 0]) ∧ SS w' ps pw p g deep m k 0 0 (List.replicate k true) ∧ W.heap.size ≤ ps ∧ W.heap.size ≤ p ∧ W.heap.size ≤ g ∧ Below W.heap.size W w' from by rw [← hkz]; exact new_yes W deep m k hm1 hm2 hk2)
  have HR := Lib.hid (fun W => show Calls Try.prog 9 #[.int .i64 z, .int .i64 (m : Int), .int .i64 (k : Int)] W fun e w' => e = .returned (.bool true) ∧ w' = W from by rw [← hkz]; exact rright_yes deep W m k hm1 hm2 hk2)
  have HQ := Lib.hid (fun (W : World) (j : Nat) (hj : j ≤ 300) => show Calls Try.prog 15 #[.int .i64 z, .int .i64 (j : Int), .int .i64 (m : Int), .int .i64 (k : Int)] W fun e w' => e = .returned (.bool (must deep m k j)) ∧ ∃ nd, w' = W.drewN nd from by rw [← hkz]; exact rmust_any deep W j m k (by omega) hm1 hm2 hk2)
  have H := Lib.hid hr
  clear hkz hr
  rcases hz with ⟨rfl, rfl⟩ | ⟨rfl, rfl⟩
  · go_enter Try.func3, Try.ntmps3
    go_wp2_with fail
    refine (awake_any _).mono ?_; rintro e w1 ⟨rfl, hb1⟩
    replace hb1 := Lib.hid hb1
    go_wp2_with fail
    refine (HN.out _).mono ?_; rintro e w2 ⟨ps, pw, p, g, rfl, hs, hps, hp, hg, hb2⟩
    have hs2 := Lib.hid hs
    have hB2 := Lib.hid (hb1.out.trans (hb2.mono hb1.out.size))
    have hps' : w.heap.size ≤ ps := Nat.le_trans hb1.out.size hps
    have hp' : w.heap.size ≤ p := Nat.le_trans hb1.out.size hp
    have hg' : w.heap.size ≤ g := Nat.le_trans hb1.out.size hg
    clear hs hb2 hps hp hg hb1
    go_wp2_with fail
    refine (HR.out _).mono ?_; rintro e w2' ⟨rfl, hw2⟩
    subst hw2
    go_wp2_with fail
    go_loopw [11, 12] (fun fv s wr => ∃ i f : Nat, i ≤ l.length + 1 ∧ f ≤ i ∧ s = .int .i64 (i : Int) ∧ fv = .int .i64 (f : Int) ∧ (i ≤ l.length → SS wr ps pw p g true m k i f (lastk k (l.take i))) ∧ Below w.heap.size w wr) (fun _ s _ => l.length + 1 - (intOf s).toNat)
    case atStart => exact ⟨0, 0, Nat.zero_le _, Nat.le_refl _, rfl, rfl, fun _ => by rw [List.take_zero, lastk_nil]; exact hs2.out, hB2.out⟩
    case round =>
      obtain ⟨i, f, hi, hf, rfl, rfl, hs, hbel⟩ := hrel
      by_cases hlt : i ≤ l.length
      · have hs := hs hlt
        obtain ⟨w3, rfl⟩ : ∃ wo : World, wo = wr := ⟨_, rfl⟩
        have i5 : (i : Int) ≤ (l.length : Int) := by omega
        have i6 : (i : Int) ≤ (cap : Int) := by omega
        have htl : (l.take i).length = i := by rw [List.length_take]; omega
        have hra := Lib.hid ((H.out.below hbel).take_ i hlt)
        obtain ⟨L, hL⟩ : ∃ L, L = lastk k (l.take i) := ⟨_, rfl⟩
        rw [← hL] at hs
        obtain ⟨d, hd⟩ : ∃ d, d = dist m L := ⟨_, rfl⟩
        have hdk : d ≤ k := by have := dist_le hm1 L; rw [hs.2.2.2] at this; omega
        replace hd := Lib.hid hd
        have hS3 := Lib.hid hs
        have hB3 := Lib.hid hbel
        have hal0 : alls l i 0 = [] ++ l.take i := by simp [alls]
        replace hal0 := Lib.hid hal0
        replace hL := Lib.hid hL
        replace htl := Lib.hid htl
        clear hs hbel hs2 hB2
        go_wp2_with (at_builtin; refine print_append_row_of Value.bool false (w0 := w3) w3.heap.size rfl (.tmp 53) (.tmp 56) 22 4 (.bool false) 1 rfl Try.underlying22 Ring.info4 rfl (by decide) (fun _ => rfl) (.slice (some ⟨w3.heap.size, 0, none⟩) 0 0) [] (l.take i) A i cap rfl rfl (own_none w3 _ _ (Nat.le_refl _)) (hra.out.below (below_alloc (Below.refl _ _) _)) (below_alloc (Below.refl _ _) _) (by simp) (by simp; omega) ?_; intro v4 w4 ho4 hb4 _ _; rw [← hal0.out] at ho4; replace ho4 := Lib.hid ho4; replace hb4 := Lib.hid hb4)
        go_loopw [13, 14] (fun v s wr => ∃ n : Nat, n ≤ d ∧ s = .int .i64 (n : Int) ∧ wr.ownsRow w3.heap.size 4 1 v (alls l i n).length (encs Value.bool (alls l i n)) ∧ Below w3.heap.size w3 wr) (fun _ s _ => d - (intOf s).toNat)
        case atStart => exact ⟨0, Nat.zero_le _, rfl, ho4.out, hb4.out⟩
        case round =>
          obtain ⟨n, hn, rfl, ho, hb⟩ := hrel
          obtain ⟨A5, c5, rfl, hr5⟩ := own_reads_of (enc := Value.bool) (d := false) ho
          have hall : (alls l i n).length = i + n := by unfold alls; rw [List.length_append, htl.out, List.length_replicate]
          have hcnt : cnt (lastk k (alls l i n)) = cnt (L.drop n) := by rw [hL.out]; exact cnt_miss (by omega) _
          have HX := lawmet_any wr A5 (alls l i n) c5 k hr5 hk2 (by omega)
          have hat := dist_at hm1 (l := L) (n := n) (by rw [← hd.out]; exact hn)
          rw [← hd.out, ← hcnt] at hat
          obtain ⟨q, hq⟩ : ∃ q, q = cnt (lastk k (alls l i n)) := ⟨_, rfl⟩
          rw [← hq] at HX hat
          have hO := Lib.hid ho
          have hB := Lib.hid hb
          replace hall := Lib.hid hall
          have hsz := hb.size
          clear hr5 hcnt hq ho hb ho4 hb4
          go_wp2_with fail
          refine HX.mono ?_; rintro e w5 ⟨rfl, rfl⟩
          by_cases hnd : n < d
          · have hge : (m : Int) ≤ (q : Int) := by have := hat.2 hnd; omega
            clear hat
            go_wp2_with (at_builtin; refine print_append_of Value.bool (w0 := w3) w3.heap.size rfl (.tmp 63) (.tmp 64) 22 4 (.bool false) 1 rfl Try.underlying22 Ring.info4 rfl (by decide) _ (alls l i n) false rfl rfl rfl hO.out hB.out hsz (by have := hall.out; omega) ?_; intro v13 w13 ho13 hb13 _ _; replace ho13 := Lib.hid ho13; replace hb13 := Lib.hid hb13)
            go_roundw
            case rel => exact ⟨n + 1, by omega, by go_num, by rw [show alls l i (n + 1) = alls l i n ++ [false] by simp [alls, List.replicate_succ']]; exact ho13.out, hb13.out⟩
            case measure => simp [intOf]; omega
          · have hge : ¬ (m : Int) ≤ (q : Int) := by rw [← hat] at hnd; omega
            obtain rfl : n = d := by omega
            have hS5 := Lib.hid (hS3.out.below hB.out)
            have hB5 := Lib.hid (hB3.out.trans (hB.out.mono hB3.out.size))
            have HJ := jobs_any hS5.out
            have HF := failed_any hS5.out
            have HD := sdist_any hS5.out hm1
            rw [← hd.out] at HD
            clear hat hO hB
            go_wp2_with fail
            refine HJ.mono ?_; rintro e w6 ⟨rfl, rfl⟩
            go_wp2_with fail
            refine HD.mono ?_; rintro e w7 ⟨rfl, hb7⟩
            have hS7 := Lib.hid (hS5.out.below hb7)
            have hB7 := Lib.hid (hB5.out.trans (hb7.mono hB5.out.size))
            have HF := failed_any hS7.out
            clear hb7 HJ HD
            go_wp2_with fail
            refine HF.mono ?_; rintro e w8 ⟨rfl, rfl⟩
            have HM := smust_any hS7.out hm1 hm2 hk2 (by omega)
            rw [← hd.out] at HM
            have HP := Lib.hid (fun W => HQ.out W i (by omega))
            obtain ⟨e1, he1⟩ : ∃ e, e = decide (n ≤ 1) := ⟨_, rfl⟩
            rw [← he1] at HM
            have he2 : decide ((n : Int) ≤ 1) = e1 := by rw [he1, Bool.eq_iff_iff]; simp; omega
            clear he1
            obtain ⟨r, hrr⟩ : ∃ r, r = must true m k i := ⟨_, rfl⟩
            rw [← hrr] at HM HP
            clear hrr
            go_wp2_with fail
            refine HM.mono ?_; rintro e w9 ⟨rfl, hb9⟩
            have hS9 := Lib.hid (hS7.out.below hb9)
            have hB9 := Lib.hid (hB7.out.trans (hb9.mono hB7.out.size))
            clear hb9 HM
            go_wp2_with fail
            refine (HP.out _).mono ?_; rintro e w10 ⟨rfl, n10, hw10⟩
            have hS10 : Hid (SS w10 ps pw p g true m k i f L) := Lib.hid (by rw [hw10]; exact hS9.out.drewN n10)
            have hB10 : Hid (Below w.heap.size w w10) := Lib.hid (by rw [hw10]; exact pw_below_drewN hB9.out n10)
            clear hw10
            by_cases hil : i < l.length
            · obtain ⟨x, hx⟩ : ∃ x, l[i]? = some x := ⟨l[i], by simp [hil]⟩
              obtain ⟨ad, rfl, hc7⟩ := H.out.2.2 (by omega)
              have hcell := hc7 i hil
              rw [show l.getD i false = x by simp [List.getD_eq_getElem?_getD, hx]] at hcell
              have hc8 := pw_cell_below hB10.out hcell
              have hL2 := lastk_take hk1 hx
              rw [← hL.out] at hL2
              have HPU := spush_any hS10.out x (by omega) (by omega)
              rw [← hL2] at HPU
              replace hL2 := Lib.hid hL2
              have hil2 : (i : Int) < (l.length : Int) := by omega
              have hil3 : (i : Int) + 1 ≤ (cap : Int) := by omega
              have hil4 : (i : Int) + 1 ≤ (l.length : Int) := by omega
              have htl1 : (l.take (i + 1)).length = i + 1 := by rw [List.length_take]; omega
              have HX1 := Lib.hid (fun (W : World) (hW : Below w.heap.size w W) => show Calls Try.prog 10 #[.slice (some ad) (i + 1) cap, .int .i64 (k : Int)] W fun e w' => e = .returned (.int .i64 (cnt (lastk k (l.take (i + 1))) : Int)) ∧ w' = W from by
                have := lawmet_any W (some ad) (l.take (i + 1)) cap k (by rw [htl1]; exact (H.out.below hW).take_ (i + 1) (by omega)) hk2 (by omega)
                rw [htl1] at this; exact this)
              obtain ⟨q2, hq2⟩ : ∃ q, q = cnt (lastk k (l.take (i + 1))) := ⟨_, rfl⟩
              rw [← hq2] at HX1 HPU
              clear hx hc7 hcell htl1 hq2
              by_cases hqm : q2 < m
              · rw [if_pos hqm] at HPU
                have hqm2 : (q2 : Int) < (m : Int) := by omega
                cases r <;> (
                  go_wp2_with fail
                  refine HPU.mono ?_; rintro e w15 ⟨rfl, hs15, hb15, _⟩
                  have hS15 := Lib.hid hs15
                  have hB15 := Lib.hid (hB10.out.trans (hb15 _ hps' hp' hg'))
                  clear hs15 hb15 HPU
                  go_wp2_with fail
                  refine (HX1.out _ hB15.out).mono ?_; rintro e w16 ⟨rfl, rfl⟩
                  go_wp2
                  go_roundw
                  case rel => exact ⟨i + 1, f + 1, by omega, by omega, by go_num, by go_num, fun _ => hS15.out, hB15.out⟩
                  case measure => simp [intOf]; omega)
              · rw [if_neg hqm, Nat.add_zero] at HPU
                have hqm2 : ¬ (q2 : Int) < (m : Int) := by omega
                cases r <;> (
                  go_wp2_with fail
                  refine HPU.mono ?_; rintro e w15 ⟨rfl, hs15, hb15, _⟩
                  have hS15 := Lib.hid hs15
                  have hB15 := Lib.hid (hB10.out.trans (hb15 _ hps' hp' hg'))
                  clear hs15 hb15 HPU
                  go_wp2_with fail
                  refine (HX1.out _ hB15.out).mono ?_; rintro e w16 ⟨rfl, rfl⟩
                  go_wp2
                  go_roundw
                  case rel => exact ⟨i + 1, f, by omega, by omega, by go_num, by go_num, fun _ => hS15.out, hB15.out⟩
                  case measure => simp [intOf]; omega)
            · obtain rfl : i = l.length := by omega
              cases r <;> (
                go_wp2
                go_roundw
                case rel => exact ⟨l.length + 1, f, by omega, by omega, by go_num, rfl, fun h => absurd h (by omega), hB10.out⟩
                case measure => simp [intOf])
      · obtain rfl : i = l.length + 1 := by omega
        have hB1 := Lib.hid hbel
        clear hs hbel hs2 hB2
        go_wp2
        go_ret
        exact ⟨rfl, hB1.out⟩
  · go_enter Try.func3, Try.ntmps3
    go_wp2_with fail
    refine (awake_any _).mono ?_; rintro e w1 ⟨rfl, hb1⟩
    replace hb1 := Lib.hid hb1
    go_wp2_with fail
    refine (HN.out _).mono ?_; rintro e w2 ⟨ps, pw, p, g, rfl, hs, hps, hp, hg, hb2⟩
    have hs2 := Lib.hid hs
    have hB2 := Lib.hid (hb1.out.trans (hb2.mono hb1.out.size))
    have hps' : w.heap.size ≤ ps := Nat.le_trans hb1.out.size hps
    have hp' : w.heap.size ≤ p := Nat.le_trans hb1.out.size hp
    have hg' : w.heap.size ≤ g := Nat.le_trans hb1.out.size hg
    clear hs hb2 hps hp hg hb1
    go_wp2_with fail
    refine (HR.out _).mono ?_; rintro e w2' ⟨rfl, hw2⟩
    subst hw2
    go_wp2_with fail
    go_loopw [11, 12] (fun fv s wr => ∃ i f : Nat, i ≤ l.length + 1 ∧ f ≤ i ∧ s = .int .i64 (i : Int) ∧ fv = .int .i64 (f : Int) ∧ (i ≤ l.length → SS wr ps pw p g false m k i f (lastk k (l.take i))) ∧ Below w.heap.size w wr) (fun _ s _ => l.length + 1 - (intOf s).toNat)
    case atStart => exact ⟨0, 0, Nat.zero_le _, Nat.le_refl _, rfl, rfl, fun _ => by rw [List.take_zero, lastk_nil]; exact hs2.out, hB2.out⟩
    case round =>
      obtain ⟨i, f, hi, hf, rfl, rfl, hs, hbel⟩ := hrel
      by_cases hlt : i ≤ l.length
      · have hs := hs hlt
        obtain ⟨w3, rfl⟩ : ∃ wo : World, wo = wr := ⟨_, rfl⟩
        have i5 : (i : Int) ≤ (l.length : Int) := by omega
        have i6 : (i : Int) ≤ (cap : Int) := by omega
        have htl : (l.take i).length = i := by rw [List.length_take]; omega
        have hra := Lib.hid ((H.out.below hbel).take_ i hlt)
        obtain ⟨L, hL⟩ : ∃ L, L = lastk k (l.take i) := ⟨_, rfl⟩
        rw [← hL] at hs
        obtain ⟨d, hd⟩ : ∃ d, d = dist m L := ⟨_, rfl⟩
        have hdk : d ≤ k := by have := dist_le hm1 L; rw [hs.2.2.2] at this; omega
        replace hd := Lib.hid hd
        have hS3 := Lib.hid hs
        have hB3 := Lib.hid hbel
        have hal0 : alls l i 0 = [] ++ l.take i := by simp [alls]
        replace hal0 := Lib.hid hal0
        replace hL := Lib.hid hL
        replace htl := Lib.hid htl
        clear hs hbel hs2 hB2
        go_wp2_with (at_builtin; refine print_append_row_of Value.bool false (w0 := w3) w3.heap.size rfl (.tmp 53) (.tmp 56) 22 4 (.bool false) 1 rfl Try.underlying22 Ring.info4 rfl (by decide) (fun _ => rfl) (.slice (some ⟨w3.heap.size, 0, none⟩) 0 0) [] (l.take i) A i cap rfl rfl (own_none w3 _ _ (Nat.le_refl _)) (hra.out.below (below_alloc (Below.refl _ _) _)) (below_alloc (Below.refl _ _) _) (by simp) (by simp; omega) ?_; intro v4 w4 ho4 hb4 _ _; rw [← hal0.out] at ho4; replace ho4 := Lib.hid ho4; replace hb4 := Lib.hid hb4)
        go_loopw [13, 14] (fun v s wr => ∃ n : Nat, n ≤ d ∧ s = .int .i64 (n : Int) ∧ wr.ownsRow w3.heap.size 4 1 v (alls l i n).length (encs Value.bool (alls l i n)) ∧ Below w3.heap.size w3 wr) (fun _ s _ => d - (intOf s).toNat)
        case atStart => exact ⟨0, Nat.zero_le _, rfl, ho4.out, hb4.out⟩
        case round =>
          obtain ⟨n, hn, rfl, ho, hb⟩ := hrel
          obtain ⟨A5, c5, rfl, hr5⟩ := own_reads_of (enc := Value.bool) (d := false) ho
          have hall : (alls l i n).length = i + n := by unfold alls; rw [List.length_append, htl.out, List.length_replicate]
          have hcnt : cnt (lastk k (alls l i n)) = cnt (L.drop n) := by rw [hL.out]; exact cnt_miss (by omega) _
          have HX := lawmet_any wr A5 (alls l i n) c5 k hr5 hk2 (by omega)
          have hat := dist_at hm1 (l := L) (n := n) (by rw [← hd.out]; exact hn)
          rw [← hd.out, ← hcnt] at hat
          obtain ⟨q, hq⟩ : ∃ q, q = cnt (lastk k (alls l i n)) := ⟨_, rfl⟩
          rw [← hq] at HX hat
          have hO := Lib.hid ho
          have hB := Lib.hid hb
          replace hall := Lib.hid hall
          have hsz := hb.size
          clear hr5 hcnt hq ho hb ho4 hb4
          go_wp2_with fail
          refine HX.mono ?_; rintro e w5 ⟨rfl, rfl⟩
          by_cases hnd : n < d
          · have hge : (m : Int) ≤ (q : Int) := by have := hat.2 hnd; omega
            clear hat
            go_wp2_with (at_builtin; refine print_append_of Value.bool (w0 := w3) w3.heap.size rfl (.tmp 63) (.tmp 64) 22 4 (.bool false) 1 rfl Try.underlying22 Ring.info4 rfl (by decide) _ (alls l i n) false rfl rfl rfl hO.out hB.out hsz (by have := hall.out; omega) ?_; intro v13 w13 ho13 hb13 _ _; replace ho13 := Lib.hid ho13; replace hb13 := Lib.hid hb13)
            go_roundw
            case rel => exact ⟨n + 1, by omega, by go_num, by rw [show alls l i (n + 1) = alls l i n ++ [false] by simp [alls, List.replicate_succ']]; exact ho13.out, hb13.out⟩
            case measure => simp [intOf]; omega
          · have hge : ¬ (m : Int) ≤ (q : Int) := by rw [← hat] at hnd; omega
            obtain rfl : n = d := by omega
            have hS5 := Lib.hid (hS3.out.below hB.out)
            have hB5 := Lib.hid (hB3.out.trans (hB.out.mono hB3.out.size))
            have HJ := jobs_any hS5.out
            have HF := failed_any hS5.out
            have HD := sdist_any hS5.out hm1
            rw [← hd.out] at HD
            clear hat hO hB
            go_wp2_with fail
            refine HJ.mono ?_; rintro e w6 ⟨rfl, rfl⟩
            go_wp2_with fail
            refine HD.mono ?_; rintro e w7 ⟨rfl, hb7⟩
            have hS7 := Lib.hid (hS5.out.below hb7)
            have hB7 := Lib.hid (hB5.out.trans (hb7.mono hB5.out.size))
            have HF := failed_any hS7.out
            clear hb7 HJ HD
            go_wp2_with fail
            refine HF.mono ?_; rintro e w8 ⟨rfl, rfl⟩
            have HM := smust_any hS7.out hm1 hm2 hk2 (by omega)
            rw [← hd.out] at HM
            have HP := Lib.hid (fun W => HQ.out W i (by omega))
            obtain ⟨e1, he1⟩ : ∃ e, e = decide (n ≤ 1) := ⟨_, rfl⟩
            rw [← he1] at HM
            have he2 : decide ((n : Int) ≤ 1) = e1 := by rw [he1, Bool.eq_iff_iff]; simp; omega
            clear he1
            obtain ⟨r, hrr⟩ : ∃ r, r = must false m k i := ⟨_, rfl⟩
            rw [← hrr] at HM HP
            clear hrr
            go_wp2_with fail
            refine HM.mono ?_; rintro e w9 ⟨rfl, hb9⟩
            have hS9 := Lib.hid (hS7.out.below hb9)
            have hB9 := Lib.hid (hB7.out.trans (hb9.mono hB7.out.size))
            clear hb9 HM
            go_wp2_with fail
            refine (HP.out _).mono ?_; rintro e w10 ⟨rfl, n10, hw10⟩
            have hS10 : Hid (SS w10 ps pw p g false m k i f L) := Lib.hid (by rw [hw10]; exact hS9.out.drewN n10)
            have hB10 : Hid (Below w.heap.size w w10) := Lib.hid (by rw [hw10]; exact pw_below_drewN hB9.out n10)
            clear hw10
            by_cases hil : i < l.length
            · obtain ⟨x, hx⟩ : ∃ x, l[i]? = some x := ⟨l[i], by simp [hil]⟩
              obtain ⟨ad, rfl, hc7⟩ := H.out.2.2 (by omega)
              have hcell := hc7 i hil
              rw [show l.getD i false = x by simp [List.getD_eq_getElem?_getD, hx]] at hcell
              have hc8 := pw_cell_below hB10.out hcell
              have hL2 := lastk_take hk1 hx
              rw [← hL.out] at hL2
              have HPU := spush_any hS10.out x (by omega) (by omega)
              rw [← hL2] at HPU
              replace hL2 := Lib.hid hL2
              have hil2 : (i : Int) < (l.length : Int) := by omega
              have hil3 : (i : Int) + 1 ≤ (cap : Int) := by omega
              have hil4 : (i : Int) + 1 ≤ (l.length : Int) := by omega
              have htl1 : (l.take (i + 1)).length = i + 1 := by rw [List.length_take]; omega
              have HX1 := Lib.hid (fun (W : World) (hW : Below w.heap.size w W) => show Calls Try.prog 10 #[.slice (some ad) (i + 1) cap, .int .i64 (k : Int)] W fun e w' => e = .returned (.int .i64 (cnt (lastk k (l.take (i + 1))) : Int)) ∧ w' = W from by
                have := lawmet_any W (some ad) (l.take (i + 1)) cap k (by rw [htl1]; exact (H.out.below hW).take_ (i + 1) (by omega)) hk2 (by omega)
                rw [htl1] at this; exact this)
              obtain ⟨q2, hq2⟩ : ∃ q, q = cnt (lastk k (l.take (i + 1))) := ⟨_, rfl⟩
              rw [← hq2] at HX1 HPU
              clear hx hc7 hcell htl1 hq2
              by_cases hqm : q2 < m
              · rw [if_pos hqm] at HPU
                have hqm2 : (q2 : Int) < (m : Int) := by omega
                cases r <;> (
                  go_wp2_with fail
                  refine HPU.mono ?_; rintro e w15 ⟨rfl, hs15, hb15, _⟩
                  have hS15 := Lib.hid hs15
                  have hB15 := Lib.hid (hB10.out.trans (hb15 _ hps' hp' hg'))
                  clear hs15 hb15 HPU
                  go_wp2_with fail
                  refine (HX1.out _ hB15.out).mono ?_; rintro e w16 ⟨rfl, rfl⟩
                  go_wp2
                  go_roundw
                  case rel => exact ⟨i + 1, f + 1, by omega, by omega, by go_num, by go_num, fun _ => hS15.out, hB15.out⟩
                  case measure => simp [intOf]; omega)
              · rw [if_neg hqm, Nat.add_zero] at HPU
                have hqm2 : ¬ (q2 : Int) < (m : Int) := by omega
                cases r <;> (
                  go_wp2_with fail
                  refine HPU.mono ?_; rintro e w15 ⟨rfl, hs15, hb15, _⟩
                  have hS15 := Lib.hid hs15
                  have hB15 := Lib.hid (hB10.out.trans (hb15 _ hps' hp' hg'))
                  clear hs15 hb15 HPU
                  go_wp2_with fail
                  refine (HX1.out _ hB15.out).mono ?_; rintro e w16 ⟨rfl, rfl⟩
                  go_wp2
                  go_roundw
                  case rel => exact ⟨i + 1, f, by omega, by omega, by go_num, by go_num, fun _ => hS15.out, hB15.out⟩
                  case measure => simp [intOf]; omega)
            · obtain rfl : i = l.length := by omega
              cases r <;> (
                go_wp2
                go_roundw
                case rel => exact ⟨l.length + 1, f, by omega, by omega, by go_num, rfl, fun h => absurd h (by omega), hB10.out⟩
                case measure => simp [intOf])
      · obtain rfl : i = l.length + 1 := by omega
        have hB1 := Lib.hid hbel
        clear hs hbel hs2 hB2
        go_wp2
        go_ret
        exact ⟨rfl, hB1.out⟩
theorem model_walk (w : World) (kind : Int) (_wk : (Lit.int .i64 kind).wf = true) (m : Int) (_wm : (Lit.int .i64 m).wf = true) (k : Int) (_wk2 : (Lit.int .i64 k).wf = true) (A : Option Addr) (l : List Bool) (cap : Nat) (hl : l.length ≤ cap) (hm : cap ≤ maxLen) (ha : Arg Value.bool w A l) :
    Calls Try.prog 3 #[.int .i64 kind, .int .i64 m, .int .i64 k, .slice A l.length cap] w fun e w' => e = .returned (.bool true) ∧ Below w.heap.size w w' := by
  unfold maxLen at hm
  by_cases h : l.length ≤ 200
  · by_cases hb : (kind = 1 ∨ kind = 2) ∧ 1 ≤ m ∧ m ≤ k ∧ k ≤ 64
    · obtain ⟨m, rfl⟩ : ∃ n : Nat, m = (n : Int) := ⟨m.toNat, by omega⟩
      obtain ⟨k, rfl⟩ : ∃ n : Nat, k = (n : Int) := ⟨k.toNat, by omega⟩
      rcases hb.1 with rfl | rfl
      · exact model_good w false 1 (.inr ⟨rfl, rfl⟩) m k (by omega) (by omega) (by omega) A l cap (reads_arg ha (by omega)) h hl
      · exact model_good w true 2 (.inl ⟨rfl, rfl⟩) m k (by omega) (by omega) (by omega) A l cap (reads_arg ha (by omega)) h hl
    · exact model_bad w kind m k hb A l cap h
  · have HA := awake_twice w
    have hn : (200 : Int) < (l.length : Int) := by omega
    have hx : l.length ≤ 9223372036854775807 := by omega
    clear h ha hl hm
    go_enter Try.func3, Try.ntmps3
    go_wp2_with (go_at_call 7; refine (HA _ (by first | exact Below.refl _ _ | assumption)).mono ?_; rintro e w1 ⟨rfl, hb⟩)
    go_ret
    exact ⟨rfl, by assumption⟩
end Go.Proofs.Ytlnbpeaoidjinaa.Skip
