/- The walk of SkipFirm. -/
import Derived.Test.YtlnbpeaoidjinaaSkip
namespace Go.Proofs.Ytlnbpeaoidjinaa.Skip
open Go.RowKit Go.Proofs.YtlnbpeaoidjinaaW.PrintWords Go.Proofs.YtlnbpeaoidjinaaW.PrintLast Go.Proofs.YtlnbpeaoidjinaaW.PrintMore Go.Proofs.Ytlnbpeaoidjinaa.Ring Go.Proofs.Ytlnbpeaoidjinaa.Args Go.Proofs.Ytlnbpeaoidjinaa.Win Go.Proofs.Ytlnbpeaoidjinaa.Pat
set_option linter.unusedSimpArgs false
set_option linter.unusedVariables false
theorem dist_keep {m k : Nat} (hm : 1 ≤ m) {L : List Bool} {x : Bool} (h1 : 1 ≤ dist m L) (hx : x = false → 2 ≤ dist m L) : 1 ≤ dist m (L.tail ++ [x]) := by
  have hc : ¬ cnt L < m := fun h => by have := (dist_zero hm L).2 h; omega
  have ht := dist_tail hm (l := L) (by omega)
  cases x with
  | false => rw [dist_snoc_false hm]; have := hx rfl; omega
  | true =>
    have h2 : ¬ cnt (L.tail ++ [true]) < m := by
      rw [cnt_snoc_true]
      cases L with
      | nil => simp [cnt] at hc; omega
      | cons y t => rw [cnt_cons] at hc; simp only [List.tail_cons]; split at hc <;> omega
    rcases Nat.eq_zero_or_pos (dist m (L.tail ++ [true])) with h0 | h0
    · exact absurd ((dist_zero hm _).1 h0) h2
    · exact h0
set_option maxRecDepth 100000 in
set_option maxHeartbeats 4000000 in
theorem firm_any (w : World) (deep : Bool) (z : Int) (hz : (deep = true ∧ z = 2) ∨ (deep = false ∧ z = 1)) (a b k m : Nat) (ha : a ≤ 255) (hb : b ≤ 255) (hk : 1 + b % 64 = k) (hm : 1 + a % k = m) (A : Option Addr) (l : List Bool) (cap : Nat) (hr : ReadsOf Value.bool false w A l.length l) (hl : l.length ≤ 300) :
    Calls Try.prog 4 #[.bool deep, .int .u8 (a : Int), .int .u8 (b : Int), .slice A l.length cap] w fun e w' => e = .returned (.bool true) ∧ Below w.heap.size w w' := by
  have hki : 1 + (b : Int) % 64 = (k : Int) := by omega
  have hmi : 1 + (a : Int) % (k : Int) = (m : Int) := by omega
  have hk1 : 1 ≤ k := by omega
  have hk2 : k ≤ 64 := by omega
  have hm1 : 1 ≤ m := by omega
  have hm2 : m ≤ k := by have := Nat.mod_lt a (show k > 0 by omega); omega
  have hki2 : (k : Int) ≤ 64 := by omega
  have hkz : kd deep = z := by rcases hz with ⟨rfl, rfl⟩ | ⟨rfl, rfl⟩ <;> rfl
  have HN := Lib.hid (fun W => show Calls Try.prog 8 #[.int .i64 z, .int .i64 (m : Int), .int .i64 (k : Int)] W fun e w' => ∃ ps pw p g, e = .returned (.tuple #[.pointer (some ⟨ps, 0, none⟩), .int .i64 0]) ∧ SS w' ps pw p g deep m k 0 0 (List.replicate k true) ∧ W.heap.size ≤ ps ∧ W.heap.size ≤ p ∧ W.heap.size ≤ g ∧ Below W.heap.size W w' from by rw [← hkz]; exact new_yes W deep m k hm1 hm2 hk2)
  have hli : (l.length : Int) ≤ 300 := by omega
  have H := Lib.hid hr
  clear hk hm hkz hr
  rcases hz with ⟨rfl, rfl⟩ | ⟨rfl, rfl⟩
  · go_enter Try.func4, Try.ntmps4
    go_wp2_with fail
    refine (awake_any _).mono ?_; rintro e w1 ⟨rfl, hb1⟩
    replace hb1 := Lib.hid hb1
    go_wp2_with fail
    refine (HN.out _).mono ?_; rintro e w2 ⟨ps, pw, p, g, rfl, hs, hps, hp, hg, hb2⟩
    have hs2 := Lib.hid hs
    have hB2 := Lib.hid (hb1.out.trans (hb2.mono hb1.out.size))
    have hps' : w.heap.size ≤ ps := Nat.le_trans hb1.out.size hps
    have hp' : w.heap.size ≤ p := Nat.le_trans hb1.out.size hp
    have hg' : w.heap.size ≤ g := Nat.le_trans hb1.out.size hg
    clear hs hb2 hps hp hg hb1
    go_wp2_with fail
    have hB2s := hB2.out.size
    go_loopw [14, 15] (fun v s wr => ∃ (i : Nat) (M : List Bool), i ≤ l.length ∧ M.length = i ∧ s = .int .i64 (i : Int) ∧ wr.ownsRow w2.heap.size 4 1 v M.length (encs Value.bool M) ∧ SS wr ps pw p g true m k i 0 (lastk k M) ∧ 1 ≤ dist m (lastk k M) ∧ w2.heap.size ≤ wr.heap.size ∧ Below w.heap.size w wr) (fun _ s _ => l.length - (intOf s).toNat)
    case atStart => exact ⟨0, [], Nat.zero_le _, rfl, rfl, World.ownsRow_nil _ _ _ _, by rw [lastk_nil]; exact hs2.out, by rw [lastk_nil, dist_rep hm1]; omega, Nat.le_refl _, hB2.out⟩
    case round =>
      obtain ⟨i, M, hi, hM, rfl, ho, hs, hd1, hsz, hbel⟩ := hrel
      have hblt := hs2.out.lt
      by_cases hlt : i < l.length
      · obtain ⟨x, hx⟩ : ∃ x, l[i]? = some x := ⟨l[i], by simp [hlt]⟩
        obtain ⟨ad, rfl, hc⟩ := H.out.2.2 (by omega)
        have hcell := hc i hlt
        rw [show l.getD i false = x by simp [List.getD_eq_getElem?_getD, hx]] at hcell
        obtain ⟨L, hL⟩ : ∃ L, L = lastk k M := ⟨_, rfl⟩
        rw [← hL] at hs hd1
        have HC := Lib.hid (fun W (hW : Below w.heap.size w W) => pw_cell_below hW hcell)
        have HM := smust_any hs hm1 hm2 hk2 (by omega)
        have hdk : dist m L ≤ k + 1 - m := by have := dist_le hm1 L; rw [hs.2.2.2] at this; exact this
        obtain ⟨u, hu⟩ : ∃ u, u = (must true m k i || decide (dist m L ≤ 1)) := ⟨_, rfl⟩
        rw [← hu] at HM
        have hu2 : u = false → 2 ≤ dist m L := fun h => by
          rw [h] at hu
          have h3 : decide (dist m L ≤ 1) = false := by revert hu; cases must true m k i <;> simp
          have : ¬ dist m L ≤ 1 := by simpa using h3
          omega
        have hu3 : m = k → u = true := fun h => by
          rw [hu, show decide (dist m L ≤ 1) = true by simp; omega, Bool.or_true]
        have hS1 := Lib.hid hs
        have hO1 := Lib.hid ho
        have hB1 := Lib.hid hbel
        replace hu := Lib.hid hu
        replace hL := Lib.hid hL
        replace hM := Lib.hid hM
        clear hs hbel ho hx hc hcell hdk hs2 hB2
        go_wp2_with fail
        refine HM.mono ?_; rintro e w3 ⟨rfl, hb3⟩
        have hS3 := Lib.hid (hS1.out.below hb3)
        have hO3 := Lib.hid (own_later hO1.out hb3)
        have hB3 := Lib.hid (hB1.out.trans (hb3.mono hB1.out.size))
        have hz3 : w2.heap.size ≤ w3.heap.size := Nat.le_trans hsz hb3.size
        have hc3 := HC.out _ hB3.out
        clear HM hb3 hS1 hO1 hB1
        obtain ⟨y, hy⟩ : ∃ y, y = (u || x) := ⟨_, rfl⟩
        have hy2 : y = false → 2 ≤ dist m L := fun h => hu2 (by rw [h] at hy; revert hy; cases u <;> simp)
        have hd2 := dist_keep (k := k) hm1 hd1 hy2
        -- what stands behind the test of m == k
        have REST := Lib.hid (fun (W : World) (hW : Below w3.heap.size w3 W) => And.intro (hS3.out.below hW) (And.intro (own_later hO3.out hW) (And.intro (hB3.out.trans (hW.mono hB3.out.size)) (Nat.le_trans hz3 hW.size))))
        have HM2 := Lib.hid (fun (W : World) (hW : Below w3.heap.size w3 W) => show Calls Try.prog 14 #[.pointer (some ⟨ps, 0, none⟩)] W fun e w' => e = .returned (.bool u) ∧ Below W.heap.size W w' from by have := smust_any (hS3.out.below hW) hm1 hm2 hk2 (by omega); rw [← hu.out] at this; exact this)
        replace hy := Lib.hid hy
        replace hy2 := Lib.hid hy2
        replace hu2 := Lib.hid hu2
        replace hu3 := Lib.hid hu3
        have hne : ((m : Int) == (k : Int)) = decide (m = k) := by rw [Bool.eq_iff_iff]; simp; omega
        by_cases hmk : m = k
        · have g1 : ((m : Int) == (k : Int)) = true := by rw [beq_iff_eq]; omega
          have g2 : (m == k) = true := by rw [beq_iff_eq]; omega
          have hut := hu3.out hmk
          replace hmk := Lib.hid hmk
          subst hut
          have hyt : y = true := hy.out
          clear hne
          go_wp2_with fail
          refine (HM2.out _ (Below.refl _ _)).mono ?_; rintro e w4 ⟨rfl, hb4⟩
          obtain ⟨q1, q2, q3, q4⟩ := REST.out w4 hb4
          subst hyt
          have hB3w : w.heap.size ≤ w2.heap.size := hB2s
          have hl1 : Hid ((M ++ [true]).length = M.length + 1) := Lib.hid (by simp)
          have P1 := Lib.hid q1
          have P2 := Lib.hid q2
          have P3 := Lib.hid q3
          clear q1 q2 q3
          go_wp2_with (at_builtin; refine print_append_of Value.bool (w0 := w4) w2.heap.size rfl (.tmp 70) (.tmp 72) 22 4 (.bool false) 1 rfl Try.underlying22 Ring.info4 rfl (by decide) u14 M true rfl rfl rfl P2.out (Below.refl _ _) q4 (by have := hM.out; omega) ?_; intro v5 w5 ho5 hb5 _ _; rw [hl1.out] at ho5; obtain ⟨A5, c5, rfl⟩ := own_is_slice ho5; have hX1 := Lib.hid (P1.out.le hb5 hblt.1 hblt.2.1 hblt.2.2.1 hblt.2.2.2); replace ho5 := Lib.hid ho5; replace hb5 := Lib.hid hb5)
          have X := spush_any hX1.out true (by omega) (by omega)
          have hcn : ¬ cnt (L.tail ++ [true]) < m := fun h => by have := (dist_zero hm1 _).2 h; omega
          rw [if_neg hcn, Nat.add_zero] at X
          refine X.mono ?_; rintro e w6 ⟨rfl, hs6, hb6, hk6⟩
          have hS6 := Lib.hid hs6
          have hO6 := Lib.hid (own_kept ho5.out hk6 (fun b h => by rcases h with rfl | rfl | rfl <;> omega))
          have hB6 := Lib.hid ((P3.out.trans (hb5.out.mono hB3w)).trans (hb6 _ hps' hp' hg'))
          have hz6 : w2.heap.size ≤ w6.heap.size := Nat.le_trans (Nat.le_trans q4 hb5.out.size) hk6.1
          have hLs := lastk_snoc hk1 M true
          rw [← hL.out] at hLs
          obtain ⟨A6, c6, hv6, hr6⟩ := own_reads_of (enc := Value.bool) (d := false) hO6.out
          obtain ⟨hA, hcc⟩ : A5 = A6 ∧ c5 = c6 := by injection hv6 with h1 h2 h3; exact ⟨h1, h3⟩
          subst hA hcc
          have hml : (M ++ [true]).length = i + 1 := by rw [List.length_append, hM.out]; rfl
          have HX := lawmet_any w6 A5 (M ++ [true]) c5 k (by rw [hl1.out]; exact hr6) hk2 (by omega)
          rw [hLs, hl1.out] at HX
          obtain ⟨q, hq⟩ : ∃ q, q = cnt (L.tail ++ [true]) := ⟨_, rfl⟩
          rw [← hq] at HX hcn
          have hcn2 : ¬ (q : Int) < (m : Int) := by omega
          have HF := failed_any hS6.out
          have HD := sdist_any hS6.out hm1
          obtain ⟨d, hd⟩ : ∃ d, d = dist m (L.tail ++ [true]) := ⟨_, rfl⟩
          rw [← hd] at HD
          have hd3 : (1 : Int) ≤ (d : Int) := by omega
          replace hd := Lib.hid hd
          replace hLs := Lib.hid hLs
          replace hml := Lib.hid hml
          clear hs6 hb6 hk6 X hr6 hv6 hq hcn
          go_wp2_with fail
          refine HX.mono ?_; rintro e w7 ⟨rfl, rfl⟩
          go_wp2_with fail
          refine HF.mono ?_; rintro e w8 ⟨rfl, rfl⟩
          go_wp2_with fail
          refine HD.mono ?_; rintro e w9 ⟨rfl, hb9⟩
          have hS9 := Lib.hid (hS6.out.below hb9)
          have hO9 := Lib.hid (own_later hO6.out hb9)
          have hB9 := Lib.hid (hB6.out.trans (hb9.mono hB6.out.size))
          have hz9 : w2.heap.size ≤ w9.heap.size := Nat.le_trans hz6 hb9.size
          clear hb9 HX HF HD
          go_wp2
          go_roundw
          case rel => exact ⟨i + 1, M ++ [true], by omega, hml.out, by go_num, by rw [hl1.out]; exact hO9.out, by rw [hLs.out]; exact hS9.out, by rw [hLs.out]; exact hd2, hz9, hB9.out⟩
          case measure => simp [intOf]; omega
        · have g1 : ((m : Int) == (k : Int)) = false := by rw [beq_eq_false_iff_ne]; omega
          have g2 : (m == k) = false := by rw [beq_eq_false_iff_ne]; omega
          obtain ⟨q1, q2, q3, q4⟩ := REST.out w3 (Below.refl _ _)
          replace hmk := Lib.hid hmk
          clear hne
          cases u with
          | true =>
            have hyt : y = true := hy.out
            subst hyt
            have hB3w : w.heap.size ≤ w2.heap.size := hB2s
            have hl1 : Hid ((M ++ [true]).length = M.length + 1) := Lib.hid (by simp)
            have P1 := Lib.hid q1
            have P2 := Lib.hid q2
            have P3 := Lib.hid q3
            clear q1 q2 q3
            go_wp2_with (at_builtin; refine print_append_of Value.bool (w0 := w3) w2.heap.size rfl (.tmp 70) (.tmp 72) 22 4 (.bool false) 1 rfl Try.underlying22 Ring.info4 rfl (by decide) u14 M true rfl rfl rfl P2.out (Below.refl _ _) q4 (by have := hM.out; omega) ?_; intro v5 w5 ho5 hb5 _ _; rw [hl1.out] at ho5; obtain ⟨A5, c5, rfl⟩ := own_is_slice ho5; have hX1 := Lib.hid (P1.out.le hb5 hblt.1 hblt.2.1 hblt.2.2.1 hblt.2.2.2); replace ho5 := Lib.hid ho5; replace hb5 := Lib.hid hb5)
            have X := spush_any hX1.out true (by omega) (by omega)
            have hcn : ¬ cnt (L.tail ++ [true]) < m := fun h => by have := (dist_zero hm1 _).2 h; omega
            rw [if_neg hcn, Nat.add_zero] at X
            refine X.mono ?_; rintro e w6 ⟨rfl, hs6, hb6, hk6⟩
            have hS6 := Lib.hid hs6
            have hO6 := Lib.hid (own_kept ho5.out hk6 (fun b h => by rcases h with rfl | rfl | rfl <;> omega))
            have hB6 := Lib.hid ((P3.out.trans (hb5.out.mono hB3w)).trans (hb6 _ hps' hp' hg'))
            have hz6 : w2.heap.size ≤ w6.heap.size := Nat.le_trans (Nat.le_trans q4 hb5.out.size) hk6.1
            have hLs := lastk_snoc hk1 M true
            rw [← hL.out] at hLs
            obtain ⟨A6, c6, hv6, hr6⟩ := own_reads_of (enc := Value.bool) (d := false) hO6.out
            obtain ⟨hA, hcc⟩ : A5 = A6 ∧ c5 = c6 := by injection hv6 with h1 h2 h3; exact ⟨h1, h3⟩
            subst hA hcc
            have hml : (M ++ [true]).length = i + 1 := by rw [List.length_append, hM.out]; rfl
            have HX := lawmet_any w6 A5 (M ++ [true]) c5 k (by rw [hl1.out]; exact hr6) hk2 (by omega)
            rw [hLs, hl1.out] at HX
            obtain ⟨q, hq⟩ : ∃ q, q = cnt (L.tail ++ [true]) := ⟨_, rfl⟩
            rw [← hq] at HX hcn
            have hcn2 : ¬ (q : Int) < (m : Int) := by omega
            have HF := failed_any hS6.out
            have HD := sdist_any hS6.out hm1
            obtain ⟨d, hd⟩ : ∃ d, d = dist m (L.tail ++ [true]) := ⟨_, rfl⟩
            rw [← hd] at HD
            have hd3 : (1 : Int) ≤ (d : Int) := by omega
            replace hd := Lib.hid hd
            replace hLs := Lib.hid hLs
            replace hml := Lib.hid hml
            clear hs6 hb6 hk6 X hr6 hv6 hq hcn
            go_wp2_with fail
            refine HX.mono ?_; rintro e w7 ⟨rfl, rfl⟩
            go_wp2_with fail
            refine HF.mono ?_; rintro e w8 ⟨rfl, rfl⟩
            go_wp2_with fail
            refine HD.mono ?_; rintro e w9 ⟨rfl, hb9⟩
            have hS9 := Lib.hid (hS6.out.below hb9)
            have hO9 := Lib.hid (own_later hO6.out hb9)
            have hB9 := Lib.hid (hB6.out.trans (hb9.mono hB6.out.size))
            have hz9 : w2.heap.size ≤ w9.heap.size := Nat.le_trans hz6 hb9.size
            clear hb9 HX HF HD
            go_wp2
            go_roundw
            case rel => exact ⟨i + 1, M ++ [true], by omega, hml.out, by go_num, by rw [hl1.out]; exact hO9.out, by rw [hLs.out]; exact hS9.out, by rw [hLs.out]; exact hd2, hz9, hB9.out⟩
            case measure => simp [intOf]; omega
          | false =>
            have hyt : y = x := by have := hy.out; simpa using this
            subst hyt
            have hB3w : w.heap.size ≤ w2.heap.size := hB2s
            have hl1 : Hid ((M ++ [y]).length = M.length + 1) := Lib.hid (by simp)
            have P1 := Lib.hid q1
            have P2 := Lib.hid q2
            have P3 := Lib.hid q3
            clear q1 q2 q3
            go_wp2_with (at_builtin; refine print_append_of Value.bool (w0 := w3) w2.heap.size rfl (.tmp 70) (.tmp 72) 22 4 (.bool false) 1 rfl Try.underlying22 Ring.info4 rfl (by decide) u14 M y rfl rfl rfl P2.out (Below.refl _ _) q4 (by have := hM.out; omega) ?_; intro v5 w5 ho5 hb5 _ _; rw [hl1.out] at ho5; obtain ⟨A5, c5, rfl⟩ := own_is_slice ho5; have hX1 := Lib.hid (P1.out.le hb5 hblt.1 hblt.2.1 hblt.2.2.1 hblt.2.2.2); replace ho5 := Lib.hid ho5; replace hb5 := Lib.hid hb5)
            have X := spush_any hX1.out y (by omega) (by omega)
            have hcn : ¬ cnt (L.tail ++ [y]) < m := fun h => by have := (dist_zero hm1 _).2 h; omega
            rw [if_neg hcn, Nat.add_zero] at X
            refine X.mono ?_; rintro e w6 ⟨rfl, hs6, hb6, hk6⟩
            have hS6 := Lib.hid hs6
            have hO6 := Lib.hid (own_kept ho5.out hk6 (fun b h => by rcases h with rfl | rfl | rfl <;> omega))
            have hB6 := Lib.hid ((P3.out.trans (hb5.out.mono hB3w)).trans (hb6 _ hps' hp' hg'))
            have hz6 : w2.heap.size ≤ w6.heap.size := Nat.le_trans (Nat.le_trans q4 hb5.out.size) hk6.1
            have hLs := lastk_snoc hk1 M y
            rw [← hL.out] at hLs
            obtain ⟨A6, c6, hv6, hr6⟩ := own_reads_of (enc := Value.bool) (d := false) hO6.out
            obtain ⟨hA, hcc⟩ : A5 = A6 ∧ c5 = c6 := by injection hv6 with h1 h2 h3; exact ⟨h1, h3⟩
            subst hA hcc
            have hml : (M ++ [y]).length = i + 1 := by rw [List.length_append, hM.out]; rfl
            have HX := lawmet_any w6 A5 (M ++ [y]) c5 k (by rw [hl1.out]; exact hr6) hk2 (by omega)
            rw [hLs, hl1.out] at HX
            obtain ⟨q, hq⟩ : ∃ q, q = cnt (L.tail ++ [y]) := ⟨_, rfl⟩
            rw [← hq] at HX hcn
            have hcn2 : ¬ (q : Int) < (m : Int) := by omega
            have HF := failed_any hS6.out
            have HD := sdist_any hS6.out hm1
            obtain ⟨d, hd⟩ : ∃ d, d = dist m (L.tail ++ [y]) := ⟨_, rfl⟩
            rw [← hd] at HD
            have hd3 : (1 : Int) ≤ (d : Int) := by omega
            replace hd := Lib.hid hd
            replace hLs := Lib.hid hLs
            replace hml := Lib.hid hml
            clear hs6 hb6 hk6 X hr6 hv6 hq hcn
            go_wp2_with fail
            refine HX.mono ?_; rintro e w7 ⟨rfl, rfl⟩
            go_wp2_with fail
            refine HF.mono ?_; rintro e w8 ⟨rfl, rfl⟩
            go_wp2_with fail
            refine HD.mono ?_; rintro e w9 ⟨rfl, hb9⟩
            have hS9 := Lib.hid (hS6.out.below hb9)
            have hO9 := Lib.hid (own_later hO6.out hb9)
            have hB9 := Lib.hid (hB6.out.trans (hb9.mono hB6.out.size))
            have hz9 : w2.heap.size ≤ w9.heap.size := Nat.le_trans hz6 hb9.size
            clear hb9 HX HF HD
            go_wp2
            go_roundw
            case rel => exact ⟨i + 1, M ++ [y], by omega, hml.out, by go_num, by rw [hl1.out]; exact hO9.out, by rw [hLs.out]; exact hS9.out, by rw [hLs.out]; exact hd2, hz9, hB9.out⟩
            case measure => simp [intOf]; omega
      · obtain rfl : i = l.length := by omega
        have HJ := jobs_any hs
        have hB1 := Lib.hid hbel
        clear hs hbel ho hs2 hB2
        go_wp2_with fail
        refine HJ.mono ?_; rintro e w3 ⟨rfl, rfl⟩
        go_wp2
        go_ret
        exact ⟨rfl, hB1.out⟩
  · go_enter Try.func4, Try.ntmps4
    go_wp2_with fail
    refine (awake_any _).mono ?_; rintro e w1 ⟨rfl, hb1⟩
    replace hb1 := Lib.hid hb1
    go_wp2_with fail
    refine (HN.out _).mono ?_; rintro e w2 ⟨ps, pw, p, g, rfl, hs, hps, hp, hg, hb2⟩
    have hs2 := Lib.hid hs
    have hB2 := Lib.hid (hb1.out.trans (hb2.mono hb1.out.size))
    have hps' : w.heap.size ≤ ps := Nat.le_trans hb1.out.size hps
    have hp' : w.heap.size ≤ p := Nat.le_trans hb1.out.size hp
    have hg' : w.heap.size ≤ g := Nat.le_trans hb1.out.size hg
    clear hs hb2 hps hp hg hb1
    go_wp2_with fail
    have hB2s := hB2.out.size
    go_loopw [14, 15] (fun v s wr => ∃ (i : Nat) (M : List Bool), i ≤ l.length ∧ M.length = i ∧ s = .int .i64 (i : Int) ∧ wr.ownsRow w2.heap.size 4 1 v M.length (encs Value.bool M) ∧ SS wr ps pw p g false m k i 0 (lastk k M) ∧ 1 ≤ dist m (lastk k M) ∧ w2.heap.size ≤ wr.heap.size ∧ Below w.heap.size w wr) (fun _ s _ => l.length - (intOf s).toNat)
    case atStart => exact ⟨0, [], Nat.zero_le _, rfl, rfl, World.ownsRow_nil _ _ _ _, by rw [lastk_nil]; exact hs2.out, by rw [lastk_nil, dist_rep hm1]; omega, Nat.le_refl _, hB2.out⟩
    case round =>
      obtain ⟨i, M, hi, hM, rfl, ho, hs, hd1, hsz, hbel⟩ := hrel
      have hblt := hs2.out.lt
      by_cases hlt : i < l.length
      · obtain ⟨x, hx⟩ : ∃ x, l[i]? = some x := ⟨l[i], by simp [hlt]⟩
        obtain ⟨ad, rfl, hc⟩ := H.out.2.2 (by omega)
        have hcell := hc i hlt
        rw [show l.getD i false = x by simp [List.getD_eq_getElem?_getD, hx]] at hcell
        obtain ⟨L, hL⟩ : ∃ L, L = lastk k M := ⟨_, rfl⟩
        rw [← hL] at hs hd1
        have HC := Lib.hid (fun W (hW : Below w.heap.size w W) => pw_cell_below hW hcell)
        have HM := smust_any hs hm1 hm2 hk2 (by omega)
        have hdk : dist m L ≤ k + 1 - m := by have := dist_le hm1 L; rw [hs.2.2.2] at this; exact this
        obtain ⟨u, hu⟩ : ∃ u, u = (must false m k i || decide (dist m L ≤ 1)) := ⟨_, rfl⟩
        rw [← hu] at HM
        have hu2 : u = false → 2 ≤ dist m L := fun h => by
          rw [h] at hu
          have h3 : decide (dist m L ≤ 1) = false := by revert hu; cases must false m k i <;> simp
          have : ¬ dist m L ≤ 1 := by simpa using h3
          omega
        have hu3 : m = k → u = true := fun h => by
          rw [hu, show decide (dist m L ≤ 1) = true by simp; omega, Bool.or_true]
        have hS1 := Lib.hid hs
        have hO1 := Lib.hid ho
        have hB1 := Lib.hid hbel
        replace hu := Lib.hid hu
        replace hL := Lib.hid hL
        replace hM := Lib.hid hM
        clear hs hbel ho hx hc hcell hdk hs2 hB2
        go_wp2_with fail
        refine HM.mono ?_; rintro e w3 ⟨rfl, hb3⟩
        have hS3 := Lib.hid (hS1.out.below hb3)
        have hO3 := Lib.hid (own_later hO1.out hb3)
        have hB3 := Lib.hid (hB1.out.trans (hb3.mono hB1.out.size))
        have hz3 : w2.heap.size ≤ w3.heap.size := Nat.le_trans hsz hb3.size
        have hc3 := HC.out _ hB3.out
        clear HM hb3 hS1 hO1 hB1
        obtain ⟨y, hy⟩ : ∃ y, y = (u || x) := ⟨_, rfl⟩
        have hy2 : y = false → 2 ≤ dist m L := fun h => hu2 (by rw [h] at hy; revert hy; cases u <;> simp)
        have hd2 := dist_keep (k := k) hm1 hd1 hy2
        -- what stands behind the test of m == k
        have REST := Lib.hid (fun (W : World) (hW : Below w3.heap.size w3 W) => And.intro (hS3.out.below hW) (And.intro (own_later hO3.out hW) (And.intro (hB3.out.trans (hW.mono hB3.out.size)) (Nat.le_trans hz3 hW.size))))
        have HM2 := Lib.hid (fun (W : World) (hW : Below w3.heap.size w3 W) => show Calls Try.prog 14 #[.pointer (some ⟨ps, 0, none⟩)] W fun e w' => e = .returned (.bool u) ∧ Below W.heap.size W w' from by have := smust_any (hS3.out.below hW) hm1 hm2 hk2 (by omega); rw [← hu.out] at this; exact this)
        replace hy := Lib.hid hy
        replace hy2 := Lib.hid hy2
        replace hu2 := Lib.hid hu2
        replace hu3 := Lib.hid hu3
        have hne : ((m : Int) == (k : Int)) = decide (m = k) := by rw [Bool.eq_iff_iff]; simp; omega
        by_cases hmk : m = k
        · have g1 : ((m : Int) == (k : Int)) = true := by rw [beq_iff_eq]; omega
          have g2 : (m == k) = true := by rw [beq_iff_eq]; omega
          have hut := hu3.out hmk
          replace hmk := Lib.hid hmk
          subst hut
          have hyt : y = true := hy.out
          clear hne
          go_wp2_with fail
          refine (HM2.out _ (Below.refl _ _)).mono ?_; rintro e w4 ⟨rfl, hb4⟩
          obtain ⟨q1, q2, q3, q4⟩ := REST.out w4 hb4
          subst hyt
          have hB3w : w.heap.size ≤ w2.heap.size := hB2s
          have hl1 : Hid ((M ++ [true]).length = M.length + 1) := Lib.hid (by simp)
          have P1 := Lib.hid q1
          have P2 := Lib.hid q2
          have P3 := Lib.hid q3
          clear q1 q2 q3
          go_wp2_with (at_builtin; refine print_append_of Value.bool (w0 := w4) w2.heap.size rfl (.tmp 70) (.tmp 72) 22 4 (.bool false) 1 rfl Try.underlying22 Ring.info4 rfl (by decide) u14 M true rfl rfl rfl P2.out (Below.refl _ _) q4 (by have := hM.out; omega) ?_; intro v5 w5 ho5 hb5 _ _; rw [hl1.out] at ho5; obtain ⟨A5, c5, rfl⟩ := own_is_slice ho5; have hX1 := Lib.hid (P1.out.le hb5 hblt.1 hblt.2.1 hblt.2.2.1 hblt.2.2.2); replace ho5 := Lib.hid ho5; replace hb5 := Lib.hid hb5)
          have X := spush_any hX1.out true (by omega) (by omega)
          have hcn : ¬ cnt (L.tail ++ [true]) < m := fun h => by have := (dist_zero hm1 _).2 h; omega
          rw [if_neg hcn, Nat.add_zero] at X
          refine X.mono ?_; rintro e w6 ⟨rfl, hs6, hb6, hk6⟩
          have hS6 := Lib.hid hs6
          have hO6 := Lib.hid (own_kept ho5.out hk6 (fun b h => by rcases h with rfl | rfl | rfl <;> omega))
          have hB6 := Lib.hid ((P3.out.trans (hb5.out.mono hB3w)).trans (hb6 _ hps' hp' hg'))
          have hz6 : w2.heap.size ≤ w6.heap.size := Nat.le_trans (Nat.le_trans q4 hb5.out.size) hk6.1
          have hLs := lastk_snoc hk1 M true
          rw [← hL.out] at hLs
          obtain ⟨A6, c6, hv6, hr6⟩ := own_reads_of (enc := Value.bool) (d := false) hO6.out
          obtain ⟨hA, hcc⟩ : A5 = A6 ∧ c5 = c6 := by injection hv6 with h1 h2 h3; exact ⟨h1, h3⟩
          subst hA hcc
          have hml : (M ++ [true]).length = i + 1 := by rw [List.length_append, hM.out]; rfl
          have HX := lawmet_any w6 A5 (M ++ [true]) c5 k (by rw [hl1.out]; exact hr6) hk2 (by omega)
          rw [hLs, hl1.out] at HX
          obtain ⟨q, hq⟩ : ∃ q, q = cnt (L.tail ++ [true]) := ⟨_, rfl⟩
          rw [← hq] at HX hcn
          have hcn2 : ¬ (q : Int) < (m : Int) := by omega
          have HF := failed_any hS6.out
          have HD := sdist_any hS6.out hm1
          obtain ⟨d, hd⟩ : ∃ d, d = dist m (L.tail ++ [true]) := ⟨_, rfl⟩
          rw [← hd] at HD
          have hd3 : (1 : Int) ≤ (d : Int) := by omega
          replace hd := Lib.hid hd
          replace hLs := Lib.hid hLs
          replace hml := Lib.hid hml
          clear hs6 hb6 hk6 X hr6 hv6 hq hcn
          go_wp2_with fail
          refine HX.mono ?_; rintro e w7 ⟨rfl, rfl⟩
          go_wp2_with fail
          refine HF.mono ?_; rintro e w8 ⟨rfl, rfl⟩
          go_wp2_with fail
          refine HD.mono ?_; rintro e w9 ⟨rfl, hb9⟩
          have hS9 := Lib.hid (hS6.out.below hb9)
          have hO9 := Lib.hid (own_later hO6.out hb9)
          have hB9 := Lib.hid (hB6.out.trans (hb9.mono hB6.out.size))
          have hz9 : w2.heap.size ≤ w9.heap.size := Nat.le_trans hz6 hb9.size
          clear hb9 HX HF HD
          go_wp2
          go_roundw
          case rel => exact ⟨i + 1, M ++ [true], by omega, hml.out, by go_num, by rw [hl1.out]; exact hO9.out, by rw [hLs.out]; exact hS9.out, by rw [hLs.out]; exact hd2, hz9, hB9.out⟩
          case measure => simp [intOf]; omega
        · have g1 : ((m : Int) == (k : Int)) = false := by rw [beq_eq_false_iff_ne]; omega
          have g2 : (m == k) = false := by rw [beq_eq_false_iff_ne]; omega
          obtain ⟨q1, q2, q3, q4⟩ := REST.out w3 (Below.refl _ _)
          replace hmk := Lib.hid hmk
          clear hne
          cases u with
          | true =>
            have hyt : y = true := hy.out
            subst hyt
            have hB3w : w.heap.size ≤ w2.heap.size := hB2s
            have hl1 : Hid ((M ++ [true]).length = M.length + 1) := Lib.hid (by simp)
            have P1 := Lib.hid q1
            have P2 := Lib.hid q2
            have P3 := Lib.hid q3
            clear q1 q2 q3
            go_wp2_with (at_builtin; refine print_append_of Value.bool (w0 := w3) w2.heap.size rfl (.tmp 70) (.tmp 72) 22 4 (.bool false) 1 rfl Try.underlying22 Ring.info4 rfl (by decide) u14 M true rfl rfl rfl P2.out (Below.refl _ _) q4 (by have := hM.out; omega) ?_; intro v5 w5 ho5 hb5 _ _; rw [hl1.out] at ho5; obtain ⟨A5, c5, rfl⟩ := own_is_slice ho5; have hX1 := Lib.hid (P1.out.le hb5 hblt.1 hblt.2.1 hblt.2.2.1 hblt.2.2.2); replace ho5 := Lib.hid ho5; replace hb5 := Lib.hid hb5)
            have X := spush_any hX1.out true (by omega) (by omega)
            have hcn : ¬ cnt (L.tail ++ [true]) < m := fun h => by have := (dist_zero hm1 _).2 h; omega
            rw [if_neg hcn, Nat.add_zero] at X
            refine X.mono ?_; rintro e w6 ⟨rfl, hs6, hb6, hk6⟩
            have hS6 := Lib.hid hs6
            have hO6 := Lib.hid (own_kept ho5.out hk6 (fun b h => by rcases h with rfl | rfl | rfl <;> omega))
            have hB6 := Lib.hid ((P3.out.trans (hb5.out.mono hB3w)).trans (hb6 _ hps' hp' hg'))
            have hz6 : w2.heap.size ≤ w6.heap.size := Nat.le_trans (Nat.le_trans q4 hb5.out.size) hk6.1
            have hLs := lastk_snoc hk1 M true
            rw [← hL.out] at hLs
            obtain ⟨A6, c6, hv6, hr6⟩ := own_reads_of (enc := Value.bool) (d := false) hO6.out
            obtain ⟨hA, hcc⟩ : A5 = A6 ∧ c5 = c6 := by injection hv6 with h1 h2 h3; exact ⟨h1, h3⟩
            subst hA hcc
            have hml : (M ++ [true]).length = i + 1 := by rw [List.length_append, hM.out]; rfl
            have HX := lawmet_any w6 A5 (M ++ [true]) c5 k (by rw [hl1.out]; exact hr6) hk2 (by omega)
            rw [hLs, hl1.out] at HX
            obtain ⟨q, hq⟩ : ∃ q, q = cnt (L.tail ++ [true]) := ⟨_, rfl⟩
            rw [← hq] at HX hcn
            have hcn2 : ¬ (q : Int) < (m : Int) := by omega
            have HF := failed_any hS6.out
            have HD := sdist_any hS6.out hm1
            obtain ⟨d, hd⟩ : ∃ d, d = dist m (L.tail ++ [true]) := ⟨_, rfl⟩
            rw [← hd] at HD
            have hd3 : (1 : Int) ≤ (d : Int) := by omega
            replace hd := Lib.hid hd
            replace hLs := Lib.hid hLs
            replace hml := Lib.hid hml
            clear hs6 hb6 hk6 X hr6 hv6 hq hcn
            go_wp2_with fail
            refine HX.mono ?_; rintro e w7 ⟨rfl, rfl⟩
            go_wp2_with fail
            refine HF.mono ?_; rintro e w8 ⟨rfl, rfl⟩
            go_wp2_with fail
            refine HD.mono ?_; rintro e w9 ⟨rfl, hb9⟩
            have hS9 := Lib.hid (hS6.out.below hb9)
            have hO9 := Lib.hid (own_later hO6.out hb9)
            have hB9 := Lib.hid (hB6.out.trans (hb9.mono hB6.out.size))
            have hz9 : w2.heap.size ≤ w9.heap.size := Nat.le_trans hz6 hb9.size
            clear hb9 HX HF HD
            go_wp2
            go_roundw
            case rel => exact ⟨i + 1, M ++ [true], by omega, hml.out, by go_num, by rw [hl1.out]; exact hO9.out, by rw [hLs.out]; exact hS9.out, by rw [hLs.out]; exact hd2, hz9, hB9.out⟩
            case measure => simp [intOf]; omega
          | false =>
            have hyt : y = x := by have := hy.out; simpa using this
            subst hyt
            have hB3w : w.heap.size ≤ w2.heap.size := hB2s
            have hl1 : Hid ((M ++ [y]).length = M.length + 1) := Lib.hid (by simp)
            have P1 := Lib.hid q1
            have P2 := Lib.hid q2
            have P3 := Lib.hid q3
            clear q1 q2 q3
            go_wp2_with (at_builtin; refine print_append_of Value.bool (w0 := w3) w2.heap.size rfl (.tmp 70) (.tmp 72) 22 4 (.bool false) 1 rfl Try.underlying22 Ring.info4 rfl (by decide) u14 M y rfl rfl rfl P2.out (Below.refl _ _) q4 (by have := hM.out; omega) ?_; intro v5 w5 ho5 hb5 _ _; rw [hl1.out] at ho5; obtain ⟨A5, c5, rfl⟩ := own_is_slice ho5; have hX1 := Lib.hid (P1.out.le hb5 hblt.1 hblt.2.1 hblt.2.2.1 hblt.2.2.2); replace ho5 := Lib.hid ho5; replace hb5 := Lib.hid hb5)
            have X := spush_any hX1.out y (by omega) (by omega)
            have hcn : ¬ cnt (L.tail ++ [y]) < m := fun h => by have := (dist_zero hm1 _).2 h; omega
            rw [if_neg hcn, Nat.add_zero] at X
            refine X.mono ?_; rintro e w6 ⟨rfl, hs6, hb6, hk6⟩
            have hS6 := Lib.hid hs6
            have hO6 := Lib.hid (own_kept ho5.out hk6 (fun b h => by rcases h with rfl | rfl | rfl <;> omega))
            have hB6 := Lib.hid ((P3.out.trans (hb5.out.mono hB3w)).trans (hb6 _ hps' hp' hg'))
            have hz6 : w2.heap.size ≤ w6.heap.size := Nat.le_trans (Nat.le_trans q4 hb5.out.size) hk6.1
            have hLs := lastk_snoc hk1 M y
            rw [← hL.out] at hLs
            obtain ⟨A6, c6, hv6, hr6⟩ := own_reads_of (enc := Value.bool) (d := false) hO6.out
            obtain ⟨hA, hcc⟩ : A5 = A6 ∧ c5 = c6 := by injection hv6 with h1 h2 h3; exact ⟨h1, h3⟩
            subst hA hcc
            have hml : (M ++ [y]).length = i + 1 := by rw [List.length_append, hM.out]; rfl
            have HX := lawmet_any w6 A5 (M ++ [y]) c5 k (by rw [hl1.out]; exact hr6) hk2 (by omega)
            rw [hLs, hl1.out] at HX
            obtain ⟨q, hq⟩ : ∃ q, q = cnt (L.tail ++ [y]) := ⟨_, rfl⟩
            rw [← hq] at HX hcn
            have hcn2 : ¬ (q : Int) < (m : Int) := by omega
            have HF := failed_any hS6.out
            have HD := sdist_any hS6.out hm1
            obtain ⟨d, hd⟩ : ∃ d, d = dist m (L.tail ++ [y]) := ⟨_, rfl⟩
            rw [← hd] at HD
            have hd3 : (1 : Int) ≤ (d : Int) := by omega
            replace hd := Lib.hid hd
            replace hLs := Lib.hid hLs
            replace hml := Lib.hid hml
            clear hs6 hb6 hk6 X hr6 hv6 hq hcn
            go_wp2_with fail
            refine HX.mono ?_; rintro e w7 ⟨rfl, rfl⟩
            go_wp2_with fail
            refine HF.mono ?_; rintro e w8 ⟨rfl, rfl⟩
            go_wp2_with fail
            refine HD.mono ?_; rintro e w9 ⟨rfl, hb9⟩
            have hS9 := Lib.hid (hS6.out.below hb9)
            have hO9 := Lib.hid (own_later hO6.out hb9)
            have hB9 := Lib.hid (hB6.out.trans (hb9.mono hB6.out.size))
            have hz9 : w2.heap.size ≤ w9.heap.size := Nat.le_trans hz6 hb9.size
            clear hb9 HX HF HD
            go_wp2
            go_roundw
            case rel => exact ⟨i + 1, M ++ [y], by omega, hml.out, by go_num, by rw [hl1.out]; exact hO9.out, by rw [hLs.out]; exact hS9.out, by rw [hLs.out]; exact hd2, hz9, hB9.out⟩
            case measure => simp [intOf]; omega
      · obtain rfl : i = l.length := by omega
        have HJ := jobs_any hs
        have hB1 := Lib.hid hbel
        clear hs hbel ho hs2 hB2
        go_wp2_with fail
        refine HJ.mono ?_; rintro e w3 ⟨rfl, rfl⟩
        go_wp2
        go_ret
        exact ⟨rfl, hB1.out⟩
theorem firm_walk (w : World) (deep : Bool) (a : Int) (wa : (Lit.int .u8 a).wf = true) (b : Int) (wb : (Lit.int .u8 b).wf = true) (A : Option Addr) (l : List Bool) (cap : Nat) (hl : l.length ≤ cap) (hm : cap ≤ maxLen) (ha : Arg Value.bool w A l) :
    Calls Try.prog 4 #[.bool deep, .int .u8 a, .int .u8 b, .slice A l.length cap] w fun e w' => e = .returned (.bool true) ∧ Below w.heap.size w w' := by
  unfold maxLen at hm
  have h1 := bd_u8 wa
  have h2 := bd_u8 wb
  obtain ⟨a, rfl⟩ : ∃ n : Nat, a = (n : Int) := ⟨a.toNat, by omega⟩
  obtain ⟨b, rfl⟩ : ∃ n : Nat, b = (n : Int) := ⟨b.toNat, by omega⟩
  by_cases h : l.length ≤ 300
  · cases deep with
    | true => exact firm_any w true 2 (.inl ⟨rfl, rfl⟩) a b _ _ (by omega) (by omega) rfl rfl A l cap (reads_arg ha (by omega)) h
    | false => exact firm_any w false 1 (.inr ⟨rfl, rfl⟩) a b _ _ (by omega) (by omega) rfl rfl A l cap (reads_arg ha (by omega)) h
  · have HA := awake_twice w
    have hn : (300 : Int) < (l.length : Int) := by omega
    have hx : l.length ≤ 9223372036854775807 := by omega
    clear h h1 h2 ha wa wb hl hm
    go_enter Try.func4, Try.ntmps4
    go_wp2_with (go_at_call 7; refine (HA _ (by first | exact Below.refl _ _ | assumption)).mono ?_; rintro e w1 ⟨rfl, hb⟩)
    go_ret
    exact ⟨rfl, by assumption⟩
end Go.Proofs.Ytlnbpeaoidjinaa.Skip
