/- The walk of SkipWorst. -/
import Derived.Test.YtlnbpeaoidjinaaSkip
namespace Go.Proofs.Ytlnbpeaoidjinaa.Skip
open Go.RowKit Go.Proofs.YtlnbpeaoidjinaaW.PrintWords Go.Proofs.YtlnbpeaoidjinaaW.PrintLast Go.Proofs.YtlnbpeaoidjinaaW.PrintMore Go.Proofs.Ytlnbpeaoidjinaa.Ring Go.Proofs.Ytlnbpeaoidjinaa.Args Go.Proofs.Ytlnbpeaoidjinaa.Win Go.Proofs.Ytlnbpeaoidjinaa.Pat
set_option linter.unusedSimpArgs false
set_option linter.unusedVariables false
theorem dist_keep {m k : Nat} (hm : 1 ≤ m) {L : List Bool} {x : Bool} (h1 : 1 ≤ dist m L) (hx : x = false → 2 ≤ dist m L) : 1 ≤ dist m (L.tail ++ [x]) := by
  have hc : ¬ cnt L < m := fun h => by have := (dist_zero hm L).2 h; omega
  have ht := dist_tail hm (l := L) (by omega)
  cases x with
  | false => rw [dist_snoc_false hm]; have := hx rfl; omega
  | true =>
    have h2 : ¬ cnt (L.tail ++ [true]) < m := by
      rw [cnt_snoc_true]
      cases L with
      | nil => simp [cnt] at hc; omega
      | cons y t => rw [cnt_cons] at hc; simp only [List.tail_cons]; split at hc <;> omega
    rcases Nat.eq_zero_or_pos (dist m (L.tail ++ [true])) with h0 | h0
    · exact absurd ((dist_zero hm _).1 h0) h2
    · exact h0
set_option maxRecDepth 100000 in
set_option maxHeartbeats 4000000 in
theorem worst_any (w : World) (a b n k m : Nat) (ha : a ≤ 255) (hb : b ≤ 255) (hn : n ≤ 255) (hk : 1 + b % 64 = k) (hm : 1 + a % k = m) :
    Calls Try.prog 5 #[.int .u8 (a : Int), .int .u8 (b : Int), .int .u8 (n : Int)] w fun e w' => e = .returned (.bool true) ∧ Below w.heap.size w w' := by
  have hki : 1 + (b : Int) % 64 = (k : Int) := by omega
  have hmi : 1 + (a : Int) % (k : Int) = (m : Int) := by omega
  have hk1 : 1 ≤ k := by omega
  have hk2 : k ≤ 64 := by omega
  have hm1 : 1 ≤ m := by omega
  have hm2 : m ≤ k := by have := Nat.mod_lt a (show k > 0 by omega); omega
  have hki2 : (k : Int) ≤ 64 := by omega
  have HN := Lib.hid (fun W => show Calls Try.prog 8 #[.int .i64 1, .int .i64 (m : Int), .int .i64 (k : Int)] W fun e w' => ∃ ps pw p g, e = .returned (.tuple #[.pointer (some ⟨ps, 0, none⟩), .int .i64 0]) ∧ SS w' ps pw p g false m k 0 0 (List.replicate k true) ∧ W.heap.size ≤ ps ∧ W.heap.size ≤ p ∧ W.heap.size ≤ g ∧ Below W.heap.size W w' from new_yes W false m k hm1 hm2 hk2)
  have HQ := Lib.hid (fun (W : World) (j : Nat) (hj : j ≤ 300) => show Calls Try.prog 15 #[.int .i64 1, .int .i64 (j : Int), .int .i64 (m : Int), .int .i64 (k : Int)] W fun e w' => e = .returned (.bool (must false m k j)) ∧ ∃ nd, w' = W.drewN nd from rmust_any false W j m k (by omega) hm1 hm2 hk2)
  have hni : (n : Int) ≤ 255 := by omega
  clear hk hm
  go_enter Try.func5, Try.ntmps5
  go_wp2_with fail
  refine (awake_any _).mono ?_; rintro e w1 ⟨rfl, hb1⟩
  replace hb1 := Lib.hid hb1
  go_wp2_with fail
  refine (HN.out _).mono ?_; rintro e w2 ⟨ps, pw, p, g, rfl, hs, hps, hp, hg, hb2⟩
  have hs2 := Lib.hid hs
  have hB2 := Lib.hid (hb1.out.trans (hb2.mono hb1.out.size))
  have hps' : w.heap.size ≤ ps := Nat.le_trans hb1.out.size hps
  have hp' : w.heap.size ≤ p := Nat.le_trans hb1.out.size hp
  have hg' : w.heap.size ≤ g := Nat.le_trans hb1.out.size hg
  clear hs hb2 hps hp hg hb1
  go_wp2_with fail
  have hB2s := hB2.out.size
  go_loopw [11, 12] (fun v s wr => ∃ (i : Nat) (M : List Bool), i ≤ n ∧ M.length = i ∧ s = .int .i64 (i : Int) ∧ wr.ownsRow w2.heap.size 4 1 v M.length (encs Value.bool M) ∧ SS wr ps pw p g false m k i 0 (lastk k M) ∧ 1 ≤ dist m (lastk k M) ∧ w2.heap.size ≤ wr.heap.size ∧ Below w.heap.size w wr) (fun _ s _ => n - (intOf s).toNat)
  case atStart => exact ⟨0, [], Nat.zero_le _, rfl, rfl, World.ownsRow_nil _ _ _ _, by rw [lastk_nil]; exact hs2.out, by rw [lastk_nil, dist_rep hm1]; omega, Nat.le_refl _, hB2.out⟩
  case round =>
    obtain ⟨i, M, hi, hM, rfl, ho, hs, hd1, hsz, hbel⟩ := hrel
    have hblt := hs2.out.lt
    by_cases hlt : i < n
    · obtain ⟨L, hL⟩ : ∃ L, L = lastk k M := ⟨_, rfl⟩
      rw [← hL] at hs hd1
      have HM := smust_any hs hm1 hm2 hk2 (by omega)
      have HR := Lib.hid (fun W => HQ.out W i (by omega))
      obtain ⟨r, hr⟩ : ∃ r, r = must false m k i := ⟨_, rfl⟩
      rw [← hr] at HR HM
      obtain ⟨u, hu⟩ : ∃ u, u = (r || decide (dist m L ≤ 1)) := ⟨_, rfl⟩
      rw [← hu] at HM
      have hu2 : u = false → 2 ≤ dist m L := fun h => by
        rw [h] at hu
        have h3 : decide (dist m L ≤ 1) = false := by revert hu; cases r <;> simp
        have : ¬ dist m L ≤ 1 := by simpa using h3
        omega
      have hru : r = true → u = true := fun h => by rw [hu, h]; rfl
      have hS1 := Lib.hid hs
      have hO1 := Lib.hid ho
      have hB1 := Lib.hid hbel
      have hd2 := dist_keep (k := k) hm1 hd1 hu2
      have hlt2 : (i : Int) < (n : Int) := by omega
      replace hL := Lib.hid hL
      replace hM := Lib.hid hM
      replace hu2 := Lib.hid hu2
      replace hru := Lib.hid hru
      clear hs hbel ho hr hu hs2 hB2
      go_wp2_with fail
      refine HM.mono ?_; rintro e w3 ⟨rfl, hb3⟩
      have hS3 := Lib.hid (hS1.out.below hb3)
      have hO3 := Lib.hid (own_later hO1.out hb3)
      have hB3 := Lib.hid (hB1.out.trans (hb3.mono hB1.out.size))
      have hz3 : w2.heap.size ≤ w3.heap.size := Nat.le_trans hsz hb3.size
      clear HM hb3 hS1 hO1 hB1
      go_wp2_with fail
      refine (HR.out _).mono ?_; rintro e w4 ⟨rfl, n4, hw4⟩
      have q1 : SS w4 ps pw p g false m k i 0 L := by rw [hw4]; exact hS3.out.drewN n4
      have q2 : w4.ownsRow w2.heap.size 4 1 u11 M.length (encs Value.bool M) := by rw [hw4]; exact hO3.out
      have q3 : Below w.heap.size w w4 := by rw [hw4]; exact pw_below_drewN hB3.out n4
      have q4 : w2.heap.size ≤ w4.heap.size := by rw [hw4]; exact hz3
      clear hw4
      have hruu := hru.out
      cases r with
      | true =>
        have hut := hruu rfl
        subst hut
        clear hruu
        have hB3w : w.heap.size ≤ w2.heap.size := hB2s
        have hl1 : Hid ((M ++ [true]).length = M.length + 1) := Lib.hid (by simp)
        have P1 := Lib.hid q1
        have P2 := Lib.hid q2
        have P3 := Lib.hid q3
        clear q1 q2 q3
        go_wp2_with (at_builtin; refine print_append_of Value.bool (w0 := w4) w2.heap.size rfl (.tmp 53) (.tmp 55) 22 4 (.bool false) 1 rfl Try.underlying22 Ring.info4 rfl (by decide) u11 M true rfl rfl rfl P2.out (Below.refl _ _) q4 (by have := hM.out; omega) ?_; intro v5 w5 ho5 hb5 _ _; rw [hl1.out] at ho5; obtain ⟨A5, c5, rfl⟩ := own_is_slice ho5; have hX1 := Lib.hid (P1.out.le hb5 hblt.1 hblt.2.1 hblt.2.2.1 hblt.2.2.2); replace ho5 := Lib.hid ho5; replace hb5 := Lib.hid hb5)
        have X := spush_any hX1.out true (by omega) (by omega)
        have hcn : ¬ cnt (L.tail ++ [true]) < m := fun h => by have := (dist_zero hm1 _).2 h; omega
        rw [if_neg hcn, Nat.add_zero] at X
        refine X.mono ?_; rintro e w6 ⟨rfl, hs6, hb6, hk6⟩
        have hS6 := Lib.hid hs6
        have hO6 := Lib.hid (own_kept ho5.out hk6 (fun b h => by rcases h with rfl | rfl | rfl <;> omega))
        have hB6 := Lib.hid ((P3.out.trans (hb5.out.mono hB3w)).trans (hb6 _ hps' hp' hg'))
        have hz6 : w2.heap.size ≤ w6.heap.size := Nat.le_trans (Nat.le_trans q4 hb5.out.size) hk6.1
        have hLs := lastk_snoc hk1 M true
        rw [← hL.out] at hLs
        obtain ⟨A6, c6, hv6, hr6⟩ := own_reads_of (enc := Value.bool) (d := false) hO6.out
        obtain ⟨hA, hcc⟩ : A5 = A6 ∧ c5 = c6 := by injection hv6 with h1 h2 h3; exact ⟨h1, h3⟩
        subst hA hcc
        have hml : (M ++ [true]).length = i + 1 := by rw [List.length_append, hM.out]; rfl
        have HX := lawmet_any w6 A5 (M ++ [true]) c5 k (by rw [hl1.out]; exact hr6) hk2 (by omega)
        rw [hLs, hl1.out] at HX
        obtain ⟨q, hq⟩ : ∃ q, q = cnt (L.tail ++ [true]) := ⟨_, rfl⟩
        rw [← hq] at HX hcn
        have hcn2 : ¬ (q : Int) < (m : Int) := by omega
        replace hLs := Lib.hid hLs
        replace hml := Lib.hid hml
        clear hs6 hb6 hk6 X hr6 hv6 hq hcn
        go_wp2_with fail
        refine HX.mono ?_; rintro e w7 ⟨rfl, rfl⟩
        go_wp2
        go_roundw
        case rel => exact ⟨i + 1, M ++ [true], by omega, hml.out, by go_num, by rw [hl1.out]; exact hO6.out, by rw [hLs.out]; exact hS6.out, by rw [hLs.out]; exact hd2, hz6, hB6.out⟩
        case measure => simp [intOf]; omega
      | false =>
        clear hruu
        cases u with
        | true =>
        have hB3w : w.heap.size ≤ w2.heap.size := hB2s
        have hl1 : Hid ((M ++ [true]).length = M.length + 1) := Lib.hid (by simp)
        have P1 := Lib.hid q1
        have P2 := Lib.hid q2
        have P3 := Lib.hid q3
        clear q1 q2 q3
        go_wp2_with (at_builtin; refine print_append_of Value.bool (w0 := w4) w2.heap.size rfl (.tmp 53) (.tmp 55) 22 4 (.bool false) 1 rfl Try.underlying22 Ring.info4 rfl (by decide) u11 M true rfl rfl rfl P2.out (Below.refl _ _) q4 (by have := hM.out; omega) ?_; intro v5 w5 ho5 hb5 _ _; rw [hl1.out] at ho5; obtain ⟨A5, c5, rfl⟩ := own_is_slice ho5; have hX1 := Lib.hid (P1.out.le hb5 hblt.1 hblt.2.1 hblt.2.2.1 hblt.2.2.2); replace ho5 := Lib.hid ho5; replace hb5 := Lib.hid hb5)
        have X := spush_any hX1.out true (by omega) (by omega)
        have hcn : ¬ cnt (L.tail ++ [true]) < m := fun h => by have := (dist_zero hm1 _).2 h; omega
        rw [if_neg hcn, Nat.add_zero] at X
        refine X.mono ?_; rintro e w6 ⟨rfl, hs6, hb6, hk6⟩
        have hS6 := Lib.hid hs6
        have hO6 := Lib.hid (own_kept ho5.out hk6 (fun b h => by rcases h with rfl | rfl | rfl <;> omega))
        have hB6 := Lib.hid ((P3.out.trans (hb5.out.mono hB3w)).trans (hb6 _ hps' hp' hg'))
        have hz6 : w2.heap.size ≤ w6.heap.size := Nat.le_trans (Nat.le_trans q4 hb5.out.size) hk6.1
        have hLs := lastk_snoc hk1 M true
        rw [← hL.out] at hLs
        obtain ⟨A6, c6, hv6, hr6⟩ := own_reads_of (enc := Value.bool) (d := false) hO6.out
        obtain ⟨hA, hcc⟩ : A5 = A6 ∧ c5 = c6 := by injection hv6 with h1 h2 h3; exact ⟨h1, h3⟩
        subst hA hcc
        have hml : (M ++ [true]).length = i + 1 := by rw [List.length_append, hM.out]; rfl
        have HX := lawmet_any w6 A5 (M ++ [true]) c5 k (by rw [hl1.out]; exact hr6) hk2 (by omega)
        rw [hLs, hl1.out] at HX
        obtain ⟨q, hq⟩ : ∃ q, q = cnt (L.tail ++ [true]) := ⟨_, rfl⟩
        rw [← hq] at HX hcn
        have hcn2 : ¬ (q : Int) < (m : Int) := by omega
        replace hLs := Lib.hid hLs
        replace hml := Lib.hid hml
        clear hs6 hb6 hk6 X hr6 hv6 hq hcn
        go_wp2_with fail
        refine HX.mono ?_; rintro e w7 ⟨rfl, rfl⟩
        go_wp2
        go_roundw
        case rel => exact ⟨i + 1, M ++ [true], by omega, hml.out, by go_num, by rw [hl1.out]; exact hO6.out, by rw [hLs.out]; exact hS6.out, by rw [hLs.out]; exact hd2, hz6, hB6.out⟩
        case measure => simp [intOf]; omega
        | false =>
        have hB3w : w.heap.size ≤ w2.heap.size := hB2s
        have hl1 : Hid ((M ++ [false]).length = M.length + 1) := Lib.hid (by simp)
        have P1 := Lib.hid q1
        have P2 := Lib.hid q2
        have P3 := Lib.hid q3
        clear q1 q2 q3
        go_wp2_with (at_builtin; refine print_append_of Value.bool (w0 := w4) w2.heap.size rfl (.tmp 53) (.tmp 55) 22 4 (.bool false) 1 rfl Try.underlying22 Ring.info4 rfl (by decide) u11 M false rfl rfl rfl P2.out (Below.refl _ _) q4 (by have := hM.out; omega) ?_; intro v5 w5 ho5 hb5 _ _; rw [hl1.out] at ho5; obtain ⟨A5, c5, rfl⟩ := own_is_slice ho5; have hX1 := Lib.hid (P1.out.le hb5 hblt.1 hblt.2.1 hblt.2.2.1 hblt.2.2.2); replace ho5 := Lib.hid ho5; replace hb5 := Lib.hid hb5)
        have X := spush_any hX1.out false (by omega) (by omega)
        have hcn : ¬ cnt (L.tail ++ [false]) < m := fun h => by have := (dist_zero hm1 _).2 h; omega
        rw [if_neg hcn, Nat.add_zero] at X
        refine X.mono ?_; rintro e w6 ⟨rfl, hs6, hb6, hk6⟩
        have hS6 := Lib.hid hs6
        have hO6 := Lib.hid (own_kept ho5.out hk6 (fun b h => by rcases h with rfl | rfl | rfl <;> omega))
        have hB6 := Lib.hid ((P3.out.trans (hb5.out.mono hB3w)).trans (hb6 _ hps' hp' hg'))
        have hz6 : w2.heap.size ≤ w6.heap.size := Nat.le_trans (Nat.le_trans q4 hb5.out.size) hk6.1
        have hLs := lastk_snoc hk1 M false
        rw [← hL.out] at hLs
        obtain ⟨A6, c6, hv6, hr6⟩ := own_reads_of (enc := Value.bool) (d := false) hO6.out
        obtain ⟨hA, hcc⟩ : A5 = A6 ∧ c5 = c6 := by injection hv6 with h1 h2 h3; exact ⟨h1, h3⟩
        subst hA hcc
        have hml : (M ++ [false]).length = i + 1 := by rw [List.length_append, hM.out]; rfl
        have HX := lawmet_any w6 A5 (M ++ [false]) c5 k (by rw [hl1.out]; exact hr6) hk2 (by omega)
        rw [hLs, hl1.out] at HX
        obtain ⟨q, hq⟩ : ∃ q, q = cnt (L.tail ++ [false]) := ⟨_, rfl⟩
        rw [← hq] at HX hcn
        have hcn2 : ¬ (q : Int) < (m : Int) := by omega
        replace hLs := Lib.hid hLs
        replace hml := Lib.hid hml
        clear hs6 hb6 hk6 X hr6 hv6 hq hcn
        go_wp2_with fail
        refine HX.mono ?_; rintro e w7 ⟨rfl, rfl⟩
        go_wp2
        go_roundw
        case rel => exact ⟨i + 1, M ++ [false], by omega, hml.out, by go_num, by rw [hl1.out]; exact hO6.out, by rw [hLs.out]; exact hS6.out, by rw [hLs.out]; exact hd2, hz6, hB6.out⟩
        case measure => simp [intOf]; omega
    · obtain rfl : i = n := by omega
      have HF := failed_any hs
      have HJ := jobs_any hs
      have hB1 := Lib.hid hbel
      clear hs hbel ho hs2 hB2
      go_wp2_with fail
      refine HF.mono ?_; rintro e w3 ⟨rfl, rfl⟩
      go_wp2_with fail
      refine HJ.mono ?_; rintro e w3 ⟨rfl, rfl⟩
      go_wp2
      go_ret
      exact ⟨rfl, hB1.out⟩
theorem worst_walk (w : World) (a : Int) (wa : (Lit.int .u8 a).wf = true) (b : Int) (wb : (Lit.int .u8 b).wf = true) (n : Int) (wn : (Lit.int .u8 n).wf = true) :
    Calls Try.prog 5 #[.int .u8 a, .int .u8 b, .int .u8 n] w fun e w' => e = .returned (.bool true) ∧ Below w.heap.size w w' := by
  have h1 := bd_u8 wa
  have h2 := bd_u8 wb
  obtain ⟨a, rfl⟩ : ∃ n : Nat, a = (n : Int) := ⟨a.toNat, by omega⟩
  obtain ⟨b, rfl⟩ : ∃ n : Nat, b = (n : Int) := ⟨b.toNat, by omega⟩
  have h3 := bd_u8 wn
  obtain ⟨n, rfl⟩ : ∃ x : Nat, n = (x : Int) := ⟨n.toNat, by omega⟩
  exact worst_any w a b n _ _ (by omega) (by omega) (by omega) rfl rfl
end Go.Proofs.Ytlnbpeaoidjinaa.Skip
