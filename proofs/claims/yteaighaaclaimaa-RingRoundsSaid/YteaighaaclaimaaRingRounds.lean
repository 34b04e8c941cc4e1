import Derived.Test.YteaighaaclaimaaRingAwake
import Derived.Test.YteaighaaclaimaaArgs
namespace Go.Proofs.Yteaighaaclaimaa.Ring
open Go.RowKit Go.Proofs.YteaighaaclaimaaW.PrintWords Go.Proofs.YteaighaaclaimaaW.PrintLast Go.Proofs.YteaighaaclaimaaW.PrintMore Go.Proofs.Yteaighaaclaimaa.Args
/-- What is put into the ring. -/
def xs (x : Int) (k : Nat) : List Int := (List.range k).map fun j : Nat => bits .xor .i64 x (j : Int)
theorem xs_len (x : Int) (k : Nat) : (xs x k).length = k := by simp [xs]
theorem xs_succ (x : Int) (k : Nat) : xs x k ++ [bits .xor .i64 x (k : Int)] = xs x (k + 1) := by simp [xs, List.range_succ]
theorem xs_get (x : Int) {n k : Nat} (h : k < n) : (xs x n)[k]? = some (bits .xor .i64 x (k : Int)) := by simp [xs, h]
theorem xs_drop (x : Int) {n k : Nat} (h : k < n) : (xs x n).drop k = bits .xor .i64 x (k : Int) :: (xs x n).drop (k + 1) := by
  rw [List.drop_eq_getElem_cons (by rw [xs_len]; exact h)]
  congr 1
  simp [xs]
set_option maxRecDepth 100000 in
theorem rounds_any (w : World) (m r : Nat) (h9 : m ≤ 255) (hr9 : r ≤ 255) (x : Int) :
    Calls Try.prog 5 #[.int .u8 (m : Int), .int .u8 (r : Int), .int .i64 x] w fun e w' => e = .returned (.bool true) ∧ Below w.heap.size w w' := by
  have HN := new_q_int w (1 + m % 40) (by omega) (by omega)
  rw [show ((1 + m % 40 : Nat) : Int) = 1 + (m : Int) % 40 by omega] at HN
  go_enter Try.func5, Try.ntmps5
  go_wp2_with fail
  refine HN.mono ?_; rintro e w2 ⟨p, g, rfl, hq, hp, hg, hb2⟩
  have hq := Lib.hid hq
  have hb2 := Lib.hid hb2
  go_wp2_with fail
  refine (awake_any _).mono ?_; rintro e w1 ⟨rfl, hb1⟩
  have hb1 : Hid (Below w.heap.size w w1) := hb2.out.trans (hb1.mono hb2.out.size)
  have hq1 : Hid (RQ (Value.int .i64) 3 57 w1 p g (1 + m % 40) []) := by
    have := hq.out; exact this.below ‹Below w2.heap.size w2 w1›
  clear hq hb2
  go_wp2_with fail
  have hN : 1 ≤ 1 + m % 40 ∧ 1 + m % 40 ≤ 40 := by omega
  have hmz : ((1 + m % 40 : Nat) : Int) = 1 + (m : Int) % 40 := by omega
  obtain ⟨N, hNe⟩ : ∃ N, N = 1 + m % 40 := ⟨_, rfl⟩
  rw [← hNe] at hN hq1 hmz
  have hmz := Lib.hid hmz
  clear hNe
  go_loopw [10] (fun i wr => ∃ k : Nat, k ≤ r ∧ i = .int .i64 (k : Int) ∧ RQ (Value.int .i64) 3 57 wr p g N [] ∧ Below w.heap.size w wr) (fun i _ => r % 20 - (intOf i).toNat)
  case atStart => exact ⟨0, Nat.zero_le _, rfl, hq1.out, hb1.out⟩
  case round =>
    obtain ⟨i, hi, rfl, hrq, hbel⟩ := hrel
    obtain ⟨wo, rfl⟩ : ∃ wo : World, wo = wr := ⟨_, rfl⟩
    have F : Hid (RQ (Value.int .i64) 3 57 wo p g N [] ∧ Below w.heap.size w wo) := ⟨hrq, hbel⟩
    clear hrq hbel hq1 hb1
    by_cases hlt : (i : Int) < (r : Int) % 20
    · go_wp2_with fail
      go_loopw [11] (fun i wq => ∃ k : Nat, k ≤ N ∧ i = .int .i64 (k : Int) ∧ RQ (Value.int .i64) 3 57 wq p g N (xs x k) ∧ Below w.heap.size w wq) (fun i _ => N - (intOf i).toNat)
      case atStart => exact ⟨0, Nat.zero_le _, rfl, F.out.1, F.out.2⟩
      case round =>
        obtain ⟨k, hk, rfl, hrq, hbel⟩ := hrel
        by_cases hk2 : k < N
        · have hk3 : (k : Int) < 1 + (m : Int) % 40 := by have := hmz.out; omega
          have HP := put_q_int hrq (bits .xor .i64 x (k : Int)) (by rw [xs_len]; exact hk2)
          have hbel := Lib.hid hbel
          clear hrq
          go_wp2_with (go_at_call 16; refine HP.mono ?_; rintro e w3 ⟨rfl, hl3⟩; have hl3 := Lib.hid hl3)
          go_roundw
          case rel => exact ⟨k + 1, by omega, by go_num, by rw [← xs_succ]; exact hl3.out.1, hbel.out.trans (hl3.out.2.2 _ hp hg)⟩
          case measure => simp [intOf]; omega
        · obtain rfl : k = N := by omega
          have hk3 : 1 + (m : Int) % 40 ≤ (k : Int) := by have := hmz.out; omega
          obtain ⟨w4, rfl⟩ : ∃ w4 : World, w4 = wr := ⟨_, rfl⟩
          have G : Hid (RQ (Value.int .i64) 3 57 w4 p g k (xs x k) ∧ Below w.heap.size w w4) := ⟨hrq, hbel⟩
          clear hrq hbel
          rw [hmz.out]
          go_wp2_with fail
          go_loopw [12] (fun i wq => ∃ j : Nat, j ≤ k ∧ i = .int .i64 (j : Int) ∧ RQ (Value.int .i64) 3 57 wq p g k (xs x k) ∧ Below w.heap.size w wq) (fun i _ => k - (intOf i).toNat)
          case atStart => exact ⟨0, Nat.zero_le _, rfl, G.out.1, G.out.2⟩
          case round =>
            obtain ⟨j, hj, rfl, hrq, hbel⟩ := hrel
            by_cases hj2 : j < k
            · have hj3 : (j : Int) < 1 + (m : Int) % 40 := by have := hmz.out; omega
              have HP := get_q_int hrq j _ (xs_get x hj2)
              have hbel := Lib.hid hbel
              clear hrq
              go_wp2_with (go_at_call 17; refine HP.mono ?_; rintro e w3 ⟨rfl, hl3⟩; have hl3 := Lib.hid hl3)
              go_roundw
              case rel => exact ⟨j + 1, by omega, by go_num, hl3.out.1, hbel.out.trans (hl3.out.2.2 _ hp hg)⟩
              case measure => simp [intOf]; omega
            · obtain rfl : j = k := by omega
              obtain ⟨w5, rfl⟩ : ∃ w5 : World, w5 = wr := ⟨_, rfl⟩
              have G2 : Hid (RQ (Value.int .i64) 3 57 w5 p g j (xs x j) ∧ Below w.heap.size w w5) := ⟨hrq, hbel⟩
              clear hrq hbel
              rw [hmz.out]
              go_wp2_with fail
              go_loopw [15] (fun i wq => ∃ q : Nat, q ≤ j ∧ i = .int .i64 (q : Int) ∧ RQ (Value.int .i64) 3 57 wq p g j ((xs x j).drop q) ∧ Below w.heap.size w wq) (fun i _ => j - (intOf i).toNat)
              case atStart => exact ⟨0, Nat.zero_le _, rfl, G2.out.1, G2.out.2⟩
              case round =>
                obtain ⟨q, hq, rfl, hrq, hbel⟩ := hrel
                by_cases hq2 : q < j
                · have hq3 : (q : Int) < 1 + (m : Int) % 40 := by have := hmz.out; omega
                  rw [xs_drop x hq2] at hrq
                  have HP := take_q_int hrq
                  have HL : ∀ W : World, RQ (Value.int .i64) 3 57 W p g j ((xs x j).drop (q + 1)) → Calls Try.prog 19 #[.pointer (some ⟨p, 0, none⟩)] W fun e w' => e = .returned (.int .i64 (1 + (m : Int) % 40 - (q : Int) - 1)) ∧ LQ (Value.int .i64) 3 57 W w' p g j ((xs x j).drop (q + 1)) := fun W hW => by
                    have := len_q_int hW
                    rw [List.length_drop, xs_len, show ((j - (q + 1) : Nat) : Int) = 1 + (m : Int) % 40 - (q : Int) - 1 by have := hmz.out; omega] at this
                    exact this
                  have hbel := Lib.hid hbel
                  have hq4 := Lib.hid hq2
                  clear hrq hq2
                  go_wp2_with (first | (go_at_call 18; refine HP.mono ?_; rintro e w3 ⟨rfl, hl3⟩; have hl3 := Lib.hid hl3) | (go_at_call 19; refine (HL _ hl3.out.1).mono ?_; rintro e w6 ⟨rfl, hl6⟩; have hl6 := Lib.hid hl6))
                  go_roundw
                  case rel => exact ⟨q + 1, by have := hq4.out; omega, by go_num, hl6.out.1, (hbel.out.trans (hl3.out.2.2 _ hp hg)).trans (hl6.out.2.2 _ hp hg)⟩
                  case measure => have := hq4.out; simp [intOf]; omega
                · obtain rfl : q = j := by omega
                  have hq3 : 1 + (m : Int) % 40 ≤ (q : Int) := by have := hmz.out; omega
                  have G3 : Hid (RQ (Value.int .i64) 3 57 wr p g q [] ∧ Below w.heap.size w wr) := ⟨by rw [List.drop_of_length_le (by rw [xs_len]; exact Nat.le_refl _)] at hrq; exact hrq, hbel⟩
                  clear hrq hbel
                  rw [hmz.out]
                  go_wp2
                  go_roundw
                  case rel => exact ⟨i + 1, by omega, by go_num, G3.out.1, G3.out.2⟩
                  case measure => simp [intOf]; omega
    · have HL := len_q_int F.out.1
      go_wp2_with (go_at_call 19; refine HL.mono ?_; rintro e w6 ⟨rfl, hl6⟩; have hl6 := Lib.hid hl6)
      go_ret
      exact ⟨rfl, F.out.2.trans (hl6.out.2.2 _ hp hg)⟩
theorem rounds_walk (w : World) (places : Int) (wf : (Lit.int .u8 places).wf = true) (rounds : Int) (wf2 : (Lit.int .u8 rounds).wf = true) (x : Int) (_wf3 : (Lit.int .i64 x).wf = true) :
    Calls Try.prog 5 #[.int .u8 places, .int .u8 rounds, .int .i64 x] w fun e w' => e = .returned (.bool true) ∧ Below w.heap.size w w' := by
  have h1 := bd_u8 wf
  have h2 := bd_u8 wf2
  obtain ⟨m, rfl⟩ : ∃ m : Nat, places = (m : Int) := ⟨places.toNat, by omega⟩
  obtain ⟨r, rfl⟩ : ∃ r : Nat, rounds = (r : Int) := ⟨rounds.toNat, by omega⟩
  exact rounds_any w m r (by omega) (by omega) x
end Go.Proofs.Yteaighaaclaimaa.Ring
