/- The walk of SkipMisses. -/
import Derived.Test.YtlnbpeaoidjinaaSkip
namespace Go.Proofs.Ytlnbpeaoidjinaa.Skip
open Go.RowKit Go.Proofs.YtlnbpeaoidjinaaW.PrintWords Go.Proofs.YtlnbpeaoidjinaaW.PrintLast Go.Proofs.YtlnbpeaoidjinaaW.PrintMore Go.Proofs.Ytlnbpeaoidjinaa.Ring Go.Proofs.Ytlnbpeaoidjinaa.Args Go.Proofs.Ytlnbpeaoidjinaa.Win Go.Proofs.Ytlnbpeaoidjinaa.Pat
set_option linter.unusedSimpArgs false
set_option linter.unusedVariables false
theorem rep_miss {k j : Nat} (hj : j ≤ k) : dist 1 [] = 0 := rfl
theorem miss_list {k j : Nat} (hj : j < k) : (List.replicate (k - j) true ++ List.replicate j false).tail ++ [false] = List.replicate (k - (j + 1)) true ++ List.replicate (j + 1) false := by
  obtain ⟨q, hq⟩ : ∃ q, k - j = q + 1 := ⟨k - j - 1, by omega⟩
  rw [hq, List.replicate_succ, List.cons_append, List.tail_cons, List.append_assoc, ← List.replicate_succ', show k - (j + 1) = q by omega]
theorem dist_miss {m : Nat} (hm : 1 ≤ m) (q j : Nat) : dist m (List.replicate q true ++ List.replicate j false) = q + 1 - m := by
  induction j with
  | zero => rw [List.replicate_zero, List.append_nil]; exact dist_rep hm q
  | succ j ih => rw [List.replicate_succ', ← List.append_assoc, dist_snoc_false hm, ih]
theorem cnt_miss2 (q j : Nat) : cnt (List.replicate q true ++ List.replicate j false) = q := by rw [cnt_app, cnt_rep_true, cnt_rep_false]; rfl
set_option maxRecDepth 100000 in
set_option maxHeartbeats 1600000 in
theorem misses_any (w : World) (deep : Bool) (z : Int) (hz : (deep = true ∧ z = 2) ∨ (deep = false ∧ z = 1)) (a b k m : Nat) (ha : a ≤ 255) (hb : b ≤ 255) (hk : 1 + b % 64 = k) (hm : 1 + a % k = m) :
    Calls Try.prog 6 #[.int .u8 (a : Int), .int .u8 (b : Int), .bool deep] w fun e w' => e = .returned (.bool true) ∧ Below w.heap.size w w' := by
  have hki : 1 + (b : Int) % 64 = (k : Int) := by omega
  have hmi : 1 + (a : Int) % (k : Int) = (m : Int) := by omega
  have hk1 : 1 ≤ k := by omega
  have hk2 : k ≤ 64 := by omega
  have hm1 : 1 ≤ m := by omega
  have hm2 : m ≤ k := by have := Nat.mod_lt a (show k > 0 by omega); omega
  have hki2 : (k : Int) ≤ 64 := by omega
  have hkz : kd deep = z := by rcases hz with ⟨rfl, rfl⟩ | ⟨rfl, rfl⟩ <;> rfl
  have HN := Lib.hid (fun W => show Calls Try.prog 8 #[.int .i64 z, .int .i64 (m : Int), .int .i64 (k : Int)] W fun e w' => ∃ ps pw p g, e = .returned (.tuple #[.pointer (some ⟨ps, 0, none⟩), .int .i64 0]) ∧ SS w' ps pw p g deep m k 0 0 (List.replicate k true) ∧ W.heap.size ≤ ps ∧ W.heap.size ≤ p ∧ W.heap.size ≤ g ∧ Below W.heap.size W w' from by rw [← hkz]; exact new_yes W deep m k hm1 hm2 hk2)
  clear hk hm hkz
  rcases hz with ⟨rfl, rfl⟩ | ⟨rfl, rfl⟩
  · go_enter Try.func6, Try.ntmps6
    go_wp2_with fail
    refine (awake_any _).mono ?_; rintro e w1 ⟨rfl, hb1⟩
    replace hb1 := Lib.hid hb1
    go_wp2_with fail
    refine (HN.out _).mono ?_; rintro e w2 ⟨ps, pw, p, g, rfl, hs, hps, hp, hg, hb2⟩
    have hs2 := Lib.hid hs
    have hB2 := Lib.hid (hb1.out.trans (hb2.mono hb1.out.size))
    have hps' : w.heap.size ≤ ps := Nat.le_trans hb1.out.size hps
    have hp' : w.heap.size ≤ p := Nat.le_trans hb1.out.size hp
    have hg' : w.heap.size ≤ g := Nat.le_trans hb1.out.size hg
    clear hs hb2 hps hp hg hb1
    go_wp2_with fail
    obtain ⟨D, hD⟩ : ∃ D, D = k + 1 - m := ⟨_, rfl⟩
    have HD := sdist_any hs2.out hm1
    rw [dist_rep hm1, ← hD] at HD
    go_wp2_with fail
    refine HD.mono ?_; rintro e w3 ⟨rfl, hb3⟩
    have hs3 := Lib.hid (hs2.out.below hb3)
    have hB3 := Lib.hid (hB2.out.trans (hb3.mono hB2.out.size))
    have hD1 : (1 : Int) ≤ (D : Int) := by omega
    have hD2 : (D : Int) ≤ 64 := by omega
    replace hD := Lib.hid hD
    clear hb3 HD hs2 hB2
    go_wp2_with fail
    go_loopw [13] (fun s wr => ∃ j : Nat, j ≤ D ∧ s = .int .i64 (j : Int) ∧ SS wr ps pw p g true m k j (if j < D then 0 else 1) (List.replicate (k - j) true ++ List.replicate j false) ∧ Below w.heap.size w wr) (fun s _ => D - (intOf s).toNat)
    case atStart => exact ⟨0, Nat.zero_le _, rfl, by rw [if_pos (by omega)]; simpa using hs3.out, hB3.out⟩
    case round =>
      obtain ⟨j, hj, rfl, hs, hbel⟩ := hrel
      by_cases hlt : j < D
      · rw [if_pos hlt] at hs
        have hDm := hD.out
        have HF := failed_any hs
        have hS1 := Lib.hid hs
        have hB1 := Lib.hid hbel
        have hdd : ((k - j + 1 - m : Nat) : Int) = (D : Int) - (j : Int) := by omega
        have hjd : (j : Int) < (D : Int) := by omega
        clear hs hbel hs3 hB3 hDm
        replace hdd := Lib.hid hdd
        go_wp2_with fail
        refine HF.mono ?_; rintro e w4 ⟨rfl, rfl⟩
        have HD := sdist_any hS1.out hm1
        rw [dist_miss hm1, hdd.out] at HD
        go_wp2_with fail
        refine HD.mono ?_; rintro e w5 ⟨rfl, hb5⟩
        have hS5 := Lib.hid (hS1.out.below hb5)
        have hB5 := Lib.hid (hB1.out.trans (hb5.mono hB1.out.size))
        have HP := spush_any hS5.out false (by omega) (by omega)
        rw [miss_list (by have := hD.out; omega), cnt_miss2] at HP
        have hif : (0 + if k - (j + 1) < m then 1 else 0 : Nat) = if j + 1 < D then 0 else 1 := by
          have := hD.out
          split <;> split <;> omega
        rw [hif] at HP
        replace HP := Lib.hid HP
        clear hb5 HF HD hif hdd
        by_cases h1 : (D : Int) - (j : Int) = 1
        · have g1 : ((D : Int) - (j : Int) == 1) = true := by rw [beq_iff_eq]; exact h1
          have HM := smust_any hS5.out hm1 hm2 hk2 (by omega)
          rw [dist_miss hm1, show decide (k - j + 1 - m ≤ 1) = true by have := hD.out; simp; omega, Bool.or_true] at HM
          replace h1 := Lib.hid h1
          go_wp2_with fail
          refine HM.mono ?_; rintro e w6 ⟨rfl, hb6⟩
          have hS6 := Lib.hid (hS5.out.below hb6)
          have hB6 := Lib.hid (hB5.out.trans (hb6.mono hB5.out.size))
          have HP2 := spush_any hS6.out false (by omega) (by omega)
          rw [miss_list (by have := hD.out; omega), cnt_miss2, show (0 + if k - (j + 1) < m then 1 else 0 : Nat) = if j + 1 < D then 0 else 1 by have := hD.out; split <;> split <;> omega] at HP2
          clear hb6 HM HP
          go_wp2_with fail
          refine HP2.mono ?_; rintro e w7 ⟨rfl, hs7, hb7, _⟩
          have hS7 := Lib.hid hs7
          have hB7 := Lib.hid (hB6.out.trans (hb7 _ hps' hp' hg'))
          clear hs7 hb7 HP2
          go_wp2
          go_roundw
          case rel => exact ⟨j + 1, by omega, by go_num, hS7.out, hB7.out⟩
          case measure => simp [intOf]; omega
        · have g1 : ((D : Int) - (j : Int) == 1) = false := by rw [beq_eq_false_iff_ne]; exact h1
          replace h1 := Lib.hid h1
          go_wp2_with fail
          refine HP.out.mono ?_; rintro e w7 ⟨rfl, hs7, hb7, _⟩
          have hS7 := Lib.hid hs7
          have hB7 := Lib.hid (hB5.out.trans (hb7 _ hps' hp' hg'))
          clear hs7 hb7
          go_wp2
          go_roundw
          case rel => exact ⟨j + 1, by omega, by go_num, hS7.out, hB7.out⟩
          case measure => simp [intOf]; omega
      · obtain rfl : j = D := by omega
        rw [if_neg (by omega)] at hs
        have HF := failed_any hs
        have hS1 := Lib.hid hs
        have hB1 := Lib.hid hbel
        clear hs hbel hs3 hB3
        go_wp2_with fail
        refine HF.mono ?_; rintro e w4 ⟨rfl, rfl⟩
        have HD := sdist_any hS1.out hm1
        rw [dist_miss hm1, show ((k - j + 1 - m : Nat) : Int) = 0 by have := hD.out; omega] at HD
        go_wp2_with fail
        refine HD.mono ?_; rintro e w5 ⟨rfl, hb5⟩
        have hS5 := Lib.hid (hS1.out.below hb5)
        have hB5 := Lib.hid (hB1.out.trans (hb5.mono hB1.out.size))
        have HM := smust_any hS5.out hm1 hm2 hk2 (by omega)
        rw [dist_miss hm1, show decide (k - j + 1 - m ≤ 1) = true by have := hD.out; simp; omega, Bool.or_true] at HM
        clear hb5 HD HF
        go_wp2_with fail
        refine HM.mono ?_; rintro e w6 ⟨rfl, hb6⟩
        have hB6 := Lib.hid (hB5.out.trans (hb6.mono hB5.out.size))
        have g5 : ((j : Int) == (k : Int) - (m : Int) + 1) = true := by have := hD.out; rw [beq_iff_eq]; omega
        clear hb6 HM
        go_wp2
        go_ret
        exact ⟨rfl, hB6.out⟩
  · go_enter Try.func6, Try.ntmps6
    go_wp2_with fail
    refine (awake_any _).mono ?_; rintro e w1 ⟨rfl, hb1⟩
    replace hb1 := Lib.hid hb1
    go_wp2_with fail
    refine (HN.out _).mono ?_; rintro e w2 ⟨ps, pw, p, g, rfl, hs, hps, hp, hg, hb2⟩
    have hs2 := Lib.hid hs
    have hB2 := Lib.hid (hb1.out.trans (hb2.mono hb1.out.size))
    have hps' : w.heap.size ≤ ps := Nat.le_trans hb1.out.size hps
    have hp' : w.heap.size ≤ p := Nat.le_trans hb1.out.size hp
    have hg' : w.heap.size ≤ g := Nat.le_trans hb1.out.size hg
    clear hs hb2 hps hp hg hb1
    go_wp2_with fail
    obtain ⟨D, hD⟩ : ∃ D, D = k + 1 - m := ⟨_, rfl⟩
    have HD := sdist_any hs2.out hm1
    rw [dist_rep hm1, ← hD] at HD
    go_wp2_with fail
    refine HD.mono ?_; rintro e w3 ⟨rfl, hb3⟩
    have hs3 := Lib.hid (hs2.out.below hb3)
    have hB3 := Lib.hid (hB2.out.trans (hb3.mono hB2.out.size))
    have hD1 : (1 : Int) ≤ (D : Int) := by omega
    have hD2 : (D : Int) ≤ 64 := by omega
    replace hD := Lib.hid hD
    clear hb3 HD hs2 hB2
    go_wp2_with fail
    go_loopw [13] (fun s wr => ∃ j : Nat, j ≤ D ∧ s = .int .i64 (j : Int) ∧ SS wr ps pw p g false m k j (if j < D then 0 else 1) (List.replicate (k - j) true ++ List.replicate j false) ∧ Below w.heap.size w wr) (fun s _ => D - (intOf s).toNat)
    case atStart => exact ⟨0, Nat.zero_le _, rfl, by rw [if_pos (by omega)]; simpa using hs3.out, hB3.out⟩
    case round =>
      obtain ⟨j, hj, rfl, hs, hbel⟩ := hrel
      by_cases hlt : j < D
      · rw [if_pos hlt] at hs
        have hDm := hD.out
        have HF := failed_any hs
        have hS1 := Lib.hid hs
        have hB1 := Lib.hid hbel
        have hdd : ((k - j + 1 - m : Nat) : Int) = (D : Int) - (j : Int) := by omega
        have hjd : (j : Int) < (D : Int) := by omega
        clear hs hbel hs3 hB3 hDm
        replace hdd := Lib.hid hdd
        go_wp2_with fail
        refine HF.mono ?_; rintro e w4 ⟨rfl, rfl⟩
        have HD := sdist_any hS1.out hm1
        rw [dist_miss hm1, hdd.out] at HD
        go_wp2_with fail
        refine HD.mono ?_; rintro e w5 ⟨rfl, hb5⟩
        have hS5 := Lib.hid (hS1.out.below hb5)
        have hB5 := Lib.hid (hB1.out.trans (hb5.mono hB1.out.size))
        have HP := spush_any hS5.out false (by omega) (by omega)
        rw [miss_list (by have := hD.out; omega), cnt_miss2] at HP
        have hif : (0 + if k - (j + 1) < m then 1 else 0 : Nat) = if j + 1 < D then 0 else 1 := by
          have := hD.out
          split <;> split <;> omega
        rw [hif] at HP
        replace HP := Lib.hid HP
        clear hb5 HF HD hif hdd
        by_cases h1 : (D : Int) - (j : Int) = 1
        · have g1 : ((D : Int) - (j : Int) == 1) = true := by rw [beq_iff_eq]; exact h1
          have HM := smust_any hS5.out hm1 hm2 hk2 (by omega)
          rw [dist_miss hm1, show decide (k - j + 1 - m ≤ 1) = true by have := hD.out; simp; omega, Bool.or_true] at HM
          replace h1 := Lib.hid h1
          go_wp2_with fail
          refine HM.mono ?_; rintro e w6 ⟨rfl, hb6⟩
          have hS6 := Lib.hid (hS5.out.below hb6)
          have hB6 := Lib.hid (hB5.out.trans (hb6.mono hB5.out.size))
          have HP2 := spush_any hS6.out false (by omega) (by omega)
          rw [miss_list (by have := hD.out; omega), cnt_miss2, show (0 + if k - (j + 1) < m then 1 else 0 : Nat) = if j + 1 < D then 0 else 1 by have := hD.out; split <;> split <;> omega] at HP2
          clear hb6 HM HP
          go_wp2_with fail
          refine HP2.mono ?_; rintro e w7 ⟨rfl, hs7, hb7, _⟩
          have hS7 := Lib.hid hs7
          have hB7 := Lib.hid (hB6.out.trans (hb7 _ hps' hp' hg'))
          clear hs7 hb7 HP2
          go_wp2
          go_roundw
          case rel => exact ⟨j + 1, by omega, by go_num, hS7.out, hB7.out⟩
          case measure => simp [intOf]; omega
        · have g1 : ((D : Int) - (j : Int) == 1) = false := by rw [beq_eq_false_iff_ne]; exact h1
          replace h1 := Lib.hid h1
          go_wp2_with fail
          refine HP.out.mono ?_; rintro e w7 ⟨rfl, hs7, hb7, _⟩
          have hS7 := Lib.hid hs7
          have hB7 := Lib.hid (hB5.out.trans (hb7 _ hps' hp' hg'))
          clear hs7 hb7
          go_wp2
          go_roundw
          case rel => exact ⟨j + 1, by omega, by go_num, hS7.out, hB7.out⟩
          case measure => simp [intOf]; omega
      · obtain rfl : j = D := by omega
        rw [if_neg (by omega)] at hs
        have HF := failed_any hs
        have hS1 := Lib.hid hs
        have hB1 := Lib.hid hbel
        clear hs hbel hs3 hB3
        go_wp2_with fail
        refine HF.mono ?_; rintro e w4 ⟨rfl, rfl⟩
        have HD := sdist_any hS1.out hm1
        rw [dist_miss hm1, show ((k - j + 1 - m : Nat) : Int) = 0 by have := hD.out; omega] at HD
        go_wp2_with fail
        refine HD.mono ?_; rintro e w5 ⟨rfl, hb5⟩
        have hS5 := Lib.hid (hS1.out.below hb5)
        have hB5 := Lib.hid (hB1.out.trans (hb5.mono hB1.out.size))
        have HM := smust_any hS5.out hm1 hm2 hk2 (by omega)
        rw [dist_miss hm1, show decide (k - j + 1 - m ≤ 1) = true by have := hD.out; simp; omega, Bool.or_true] at HM
        clear hb5 HD HF
        go_wp2_with fail
        refine HM.mono ?_; rintro e w6 ⟨rfl, hb6⟩
        have hB6 := Lib.hid (hB5.out.trans (hb6.mono hB5.out.size))
        have g5 : ((j : Int) == (k : Int) - (m : Int) + 1) = true := by have := hD.out; rw [beq_iff_eq]; omega
        clear hb6 HM
        go_wp2
        go_ret
        exact ⟨rfl, hB6.out⟩
theorem misses_walk (w : World) (a : Int) (wa : (Lit.int .u8 a).wf = true) (b : Int) (wb : (Lit.int .u8 b).wf = true) (deep : Bool) :
    Calls Try.prog 6 #[.int .u8 a, .int .u8 b, .bool deep] w fun e w' => e = .returned (.bool true) ∧ Below w.heap.size w w' := by
  have h1 := bd_u8 wa
  have h2 := bd_u8 wb
  obtain ⟨a, rfl⟩ : ∃ n : Nat, a = (n : Int) := ⟨a.toNat, by omega⟩
  obtain ⟨b, rfl⟩ : ∃ n : Nat, b = (n : Int) := ⟨b.toNat, by omega⟩
  cases deep with
  | true => exact misses_any w true 2 (.inl ⟨rfl, rfl⟩) a b _ _ (by omega) (by omega) rfl rfl
  | false => exact misses_any w false 1 (.inr ⟨rfl, rfl⟩) a b _ _ (by omega) (by omega) rfl rfl
end Go.Proofs.Ytlnbpeaoidjinaa.Skip
