/- The walk of PatternAny. -/
import Derived.Test.YtpbhajapmdaldaaPatLawC
namespace Go.Proofs.Ytpbhajapmdaldaa.Pat
open Go.RowKit Go.Proofs.YtpbhajapmdaldaaW.PrintWords Go.Proofs.YtpbhajapmdaldaaW.PrintLast Go.Proofs.YtpbhajapmdaldaaW.PrintMore Go.Proofs.Ytpbhajapmdaldaa.Ring Go.Proofs.Ytpbhajapmdaldaa.Args
set_option linter.unusedSimpArgs false
set_option linter.unusedVariables false
theorem any_any (w : World) (deep : Bool) (z : Int) (hz : (deep = true ∧ z = 2) ∨ (deep = false ∧ z = 1)) (n a b k m : Nat) (hn : n ≤ 4294967295) (ha : a ≤ 255) (hb : b ≤ 255) (hk : 1 + b % 64 = k) (hm : 1 + a % k = m) :
    Calls Try.prog 4 #[.bool deep, .int .u32 (n : Int), .int .u8 (a : Int), .int .u8 (b : Int)] w fun e w' => e = .returned (.bool true) ∧ Below w.heap.size w w' := by
  have hki : 1 + (b : Int) % 64 = (k : Int) := by omega
  have hmi : 1 + (a : Int) % (k : Int) = (m : Int) := by omega
  have hk1 : 1 ≤ k := by omega
  have hk2 : k ≤ 64 := by omega
  have hm1 : 1 ≤ m := by omega
  have hm2 : m ≤ k := by have := Nat.mod_lt a (show k > 0 by omega); omega
  have hki2 : (k : Int) ≤ 64 := by omega
  have hkz : kd deep = z := by rcases hz with ⟨rfl, rfl⟩ | ⟨rfl, rfl⟩ <;> rfl
  have HM := Lib.hid (fun (W : World) (j : Nat) (hj : j ≤ 64) => show Calls Try.prog 13 #[.int .i64 z, .int .i64 ((n : Int) + (j : Int)), .int .i64 (m : Int), .int .i64 (k : Int)] W fun e w' => e = .returned (.bool (must deep m k (n + j))) ∧ Below W.heap.size W w' from by
    rw [← hkz, ← Int.natCast_add]; exact must_any deep W (n + j) m k hm1 hm2 hk2 (by omega))
  have H0 := Lib.hid (fun (W : World) => show Calls Try.prog 13 #[.int .i64 z, .int .i64 0, .int .i64 (m : Int), .int .i64 (k : Int)] W fun e w' => e = .returned (.bool true) ∧ Below W.heap.size W w' from by
    have := must_any deep W 0 m k hm1 hm2 hk2 (by omega)
    rw [must_zero hk1 hm2 hm1, hkz] at this; exact this)
  have HN := Lib.hid (fun (W : World) => show Calls Try.prog 13 #[.int .i64 z, .int .i64 (n : Int), .int .i64 (m : Int), .int .i64 (k : Int)] W fun e w' => e = .returned (.bool (must deep m k n)) ∧ Below W.heap.size W w' from by
    have := must_any deep W n m k hm1 hm2 hk2 (by omega)
    rw [hkz] at this; exact this)
  have hni : (n : Int) ≤ 4294967295 := by omega
  clear hk hm hkz
  rcases hz with ⟨rfl, rfl⟩ | ⟨rfl, rfl⟩
  · go_enter Try.func4, Try.ntmps4
    go_wp2_with fail
    refine (awake_any _).mono ?_; rintro e w1 ⟨rfl, hb1⟩
    replace hb1 := Lib.hid hb1
    go_wp2_with fail
    go_loopw [12, 13] (fun c i wr => ∃ j : Nat, j ≤ k ∧ i = .int .i64 (j : Int) ∧ c = .int .i64 (tot true m k n j : Int) ∧ Below w.heap.size w wr) (fun _ i _ => k - (intOf i).toNat)
    case atStart => exact ⟨0, Nat.zero_le _, rfl, rfl, hb1.out⟩
    case round =>
      obtain ⟨j, hj, rfl, rfl, hbel⟩ := hrel
      by_cases hlt : j < k
      · have HP := HM.out wr j (by omega)
        have htl := tot_le (deep := true) (m := m) (k := k) n j
        have hts : tot true m k n (j + 1) = tot true m k n j + (if must true m k (n + j) = true then 1 else 0) := rfl
        obtain ⟨t, ht⟩ : ∃ t, t = tot true m k n j := ⟨_, rfl⟩
        rw [← ht] at htl hts ⊢
        obtain ⟨x, hx⟩ : ∃ x, x = must true m k (n + j) := ⟨_, rfl⟩
        rw [← hx] at HP hts
        replace hts := Lib.hid hts
        clear ht hx
        replace hbel := Lib.hid hbel
        go_wp2_with fail
        refine HP.mono ?_; rintro e w2 ⟨rfl, hb2⟩
        have hb3 := Lib.hid (hbel.out.trans (hb2.mono hbel.out.size))
        clear hb2 HP
        cases x with
        | true =>
          go_wp2
          go_roundw
          case rel => exact ⟨j + 1, by omega, by go_num, by rw [hts.out]; simp, hb3.out⟩
          case measure => simp [intOf]; omega
        | false =>
          go_wp2
          go_roundw
          case rel => exact ⟨j + 1, by omega, by go_num, by rw [hts.out]; simp, hb3.out⟩
          case measure => simp [intOf]; omega
      · obtain rfl : j = k := by omega
        rw [tot_k hk1 hm2]
        have hall : m = j → must true m j n = true := fun h => by subst h; exact must_all hk1 n
        obtain ⟨x, hx⟩ : ∃ x, x = must true m j n := ⟨_, rfl⟩
        rw [← hx] at HN hall
        replace hall := Lib.hid hall
        clear hx
        replace hbel := Lib.hid hbel
        go_wp2_with fail
        refine (H0.out _).mono ?_; rintro e w2 ⟨rfl, hb2⟩
        have hb3 := Lib.hid (hbel.out.trans (hb2.mono hbel.out.size))
        clear hb2
        by_cases hmk : m < j
        · have hmk2 : (m : Int) < (j : Int) := by omega
          go_wp2
          go_ret
          exact ⟨rfl, hb3.out⟩
        · obtain rfl : m = j := by omega
          have hxt := hall.out rfl
          subst hxt
          go_wp2_with fail
          refine (HN.out _).mono ?_; rintro e w4 ⟨rfl, hb4⟩
          have hb5 := Lib.hid (hb3.out.trans (hb4.mono hb3.out.size))
          clear hb4
          go_wp2
          go_ret
          exact ⟨rfl, hb5.out⟩
  · go_enter Try.func4, Try.ntmps4
    go_wp2_with fail
    refine (awake_any _).mono ?_; rintro e w1 ⟨rfl, hb1⟩
    replace hb1 := Lib.hid hb1
    go_wp2_with fail
    go_loopw [12, 13] (fun c i wr => ∃ j : Nat, j ≤ k ∧ i = .int .i64 (j : Int) ∧ c = .int .i64 (tot false m k n j : Int) ∧ Below w.heap.size w wr) (fun _ i _ => k - (intOf i).toNat)
    case atStart => exact ⟨0, Nat.zero_le _, rfl, rfl, hb1.out⟩
    case round =>
      obtain ⟨j, hj, rfl, rfl, hbel⟩ := hrel
      by_cases hlt : j < k
      · have HP := HM.out wr j (by omega)
        have htl := tot_le (deep := false) (m := m) (k := k) n j
        have hts : tot false m k n (j + 1) = tot false m k n j + (if must false m k (n + j) = true then 1 else 0) := rfl
        obtain ⟨t, ht⟩ : ∃ t, t = tot false m k n j := ⟨_, rfl⟩
        rw [← ht] at htl hts ⊢
        obtain ⟨x, hx⟩ : ∃ x, x = must false m k (n + j) := ⟨_, rfl⟩
        rw [← hx] at HP hts
        replace hts := Lib.hid hts
        clear ht hx
        replace hbel := Lib.hid hbel
        go_wp2_with fail
        refine HP.mono ?_; rintro e w2 ⟨rfl, hb2⟩
        have hb3 := Lib.hid (hbel.out.trans (hb2.mono hbel.out.size))
        clear hb2 HP
        cases x with
        | true =>
          go_wp2
          go_roundw
          case rel => exact ⟨j + 1, by omega, by go_num, by rw [hts.out]; simp, hb3.out⟩
          case measure => simp [intOf]; omega
        | false =>
          go_wp2
          go_roundw
          case rel => exact ⟨j + 1, by omega, by go_num, by rw [hts.out]; simp, hb3.out⟩
          case measure => simp [intOf]; omega
      · obtain rfl : j = k := by omega
        rw [tot_k hk1 hm2]
        have hall : m = j → must false m j n = true := fun h => by subst h; exact must_all hk1 n
        obtain ⟨x, hx⟩ : ∃ x, x = must false m j n := ⟨_, rfl⟩
        rw [← hx] at HN hall
        replace hall := Lib.hid hall
        clear hx
        replace hbel := Lib.hid hbel
        go_wp2_with fail
        refine (H0.out _).mono ?_; rintro e w2 ⟨rfl, hb2⟩
        have hb3 := Lib.hid (hbel.out.trans (hb2.mono hbel.out.size))
        clear hb2
        by_cases hmk : m < j
        · have hmk2 : (m : Int) < (j : Int) := by omega
          go_wp2
          go_ret
          exact ⟨rfl, hb3.out⟩
        · obtain rfl : m = j := by omega
          have hxt := hall.out rfl
          subst hxt
          go_wp2_with fail
          refine (HN.out _).mono ?_; rintro e w4 ⟨rfl, hb4⟩
          have hb5 := Lib.hid (hb3.out.trans (hb4.mono hb3.out.size))
          clear hb4
          go_wp2
          go_ret
          exact ⟨rfl, hb5.out⟩
theorem any_walk (w : World) (deep : Bool) (n : Int) (wn : (Lit.int .u32 n).wf = true) (a : Int) (wa : (Lit.int .u8 a).wf = true) (b : Int) (wb : (Lit.int .u8 b).wf = true) :
    Calls Try.prog 4 #[.bool deep, .int .u32 n, .int .u8 a, .int .u8 b] w fun e w' => e = .returned (.bool true) ∧ Below w.heap.size w w' := by
  have h1 := bd_u8 wa
  have h2 := bd_u8 wb
  obtain ⟨a, rfl⟩ : ∃ n : Nat, a = (n : Int) := ⟨a.toNat, by omega⟩
  obtain ⟨b, rfl⟩ : ∃ n : Nat, b = (n : Int) := ⟨b.toNat, by omega⟩
  have h3 := bd_u32 wn
  obtain ⟨n, rfl⟩ : ∃ x : Nat, n = (x : Int) := ⟨n.toNat, by omega⟩
  cases deep with
  | true => exact any_any w true 2 (.inl ⟨rfl, rfl⟩) n a b _ _ (by omega) (by omega) (by omega) rfl rfl
  | false => exact any_any w false 1 (.inr ⟨rfl, rfl⟩) n a b _ _ (by omega) (by omega) (by omega) rfl rfl
end Go.Proofs.Ytpbhajapmdaldaa.Pat
