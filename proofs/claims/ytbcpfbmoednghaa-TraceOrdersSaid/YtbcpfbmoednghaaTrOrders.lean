/- The walk of TraceOrders. -/
import Derived.Test.YtbcpfbmoednghaaTrLaw
namespace Go.Proofs.Ytbcpfbmoednghaa.Tr
open Go.RowKit Go.Proofs.YtbcpfbmoednghaaW.PrintWords Go.Proofs.YtbcpfbmoednghaaW.PrintLast Go.Proofs.YtbcpfbmoednghaaW.PrintMore Go.Proofs.Ytbcpfbmoednghaa.Ring Go.Proofs.Ytbcpfbmoednghaa.Ring5 Go.Proofs.Ytbcpfbmoednghaa.Args
set_option linter.unusedSimpArgs false
set_option linter.unusedVariables false
theorem sum_s (f : Nat → Nat) (n : Nat) : sumn f (n + 1) = sumn f n + f n := rfl
theorem sum_z (f : Nat → Nat) (hf : ∀ i, f i = 0) (n : Nat) : sumn f n = 0 := by
  induction n with
  | zero => rfl
  | succ n ih => rw [sum_s, ih, hf]
theorem kind_out (cn : Nat → Nat) (a : Int) (ha : a = 12) : kindn cn a = 0 :=
  sum_z _ (fun b => by unfold ofn; rw [if_neg (by omega)]) 16
theorem sum13 (cn : Nat → Nat) (N : Nat) (hN : N = 13) : sumn (fun a => kindn cn (a : Int)) N = alln cn := by
  obtain ⟨n, hn⟩ : ∃ n, N = n + 1 := ⟨N - 1, by omega⟩
  have h12 : n = 12 := by omega
  rw [hn, sum_s, kind_out cn (n : Int) (by omega), Nat.add_zero, h12]
  unfold alln
  exact Eq.refl _
set_option maxRecDepth 100000 in
set_option maxHeartbeats 2000000 in
theorem orders_any (w : World) (A : Option Addr) (l : List Ev) (cap : Nat) (turn k : Nat) (ht : turn ≤ 255) (hk : turn % l.length = k) (ha : RdEv w A l) (h1 : 1 ≤ l.length) (h2 : l.length ≤ 200) :
    Calls Try.prog 5 #[.slice A l.length cap, .int .u8 (turn : Int)] w fun e w' => e = .returned (.bool true) ∧ Below w.heap.size w w' := by
  obtain ⟨b, off, rfl, hbw, hcell⟩ := ha (by omega)
  have hkl : k < l.length := by rw [← hk]; exact Nat.mod_lt _ (by omega)
  have hki : (turn : Int) % (l.length : Int) = (k : Int) := by rw [← hk]; simp
  have hkt : Int.tmod (turn : Int) (l.length : Int) = (k : Int) := by rw [Int.tmod_eq_emod_of_nonneg (by omega)]; exact hki
  have i1 : (l.length : Int) ≤ 200 := by omega
  have i2 : ((l.length : Int) == 0) = false := by rw [beq_eq_false_iff_ne]; omega
  have i3 : ¬ l.length = 0 := by omega
  have i4 : (l.length == 0) = false := by rw [beq_eq_false_iff_ne]; omega
  have i5 : (k : Int) < (l.length : Int) := by omega
  obtain ⟨R, hR⟩ : ∃ R, R = l.drop k ++ l.take k := ⟨_, rfl⟩
  have hRl : R.length = l.length := by rw [hR, List.length_append, List.length_drop, List.length_take]; omega
  have hRc : cnl R = cnl l := by rw [hR, cnl_comm, List.take_append_drop]
  have hRg : ∀ j, j < l.length → R[j]? = l[(j + k) % l.length]? := fun j hj => by rw [hR]; exact rot_get hkl hj
  have hN7 := Lib.hid (fun W => show Calls Try.prog 8 #[.int .i64 7] W _ from new_yes W 7 (by omega) (by omega))
  have hN9 := Lib.hid (fun W => show Calls Try.prog 8 #[.int .i64 9] W _ from new_yes W 9 (by omega) (by omega))
  have HC := Lib.hid hcell
  have HG := Lib.hid hRg
  have HRC := Lib.hid hRc
  have HRL := Lib.hid hRl
  clear hR hRl hRc hRg hk ha hcell
  go_enter Try.func5, Try.ntmps5
  go_wp2_with fail
  refine (awake_any _).mono ?_; rintro e w1 ⟨rfl, hb1⟩
  replace hb1 := Lib.hid hb1
  go_wp2_with fail
  refine (hN7.out _).mono ?_; rintro e w2 ⟨pt, p, g, rfl, hs, hpt, hp, hg, hb2⟩
  have hs2 : Hid (TS w2 pt p g 7 (kept []) (cnl [])) := Lib.hid hs
  have hB2 := Lib.hid (hb1.out.trans (hb2.mono hb1.out.size))
  have hpt' : w.heap.size ≤ pt := Nat.le_trans hb1.out.size hpt
  have hp' : w.heap.size ≤ p := Nat.le_trans hb1.out.size hp
  have hg' : w.heap.size ≤ g := Nat.le_trans hb1.out.size hg
  clear hs hb2 hpt hp hg hb1
  go_wp2_with fail
  refine (hN9.out _).mono ?_; rintro e w3 ⟨qt, q, r, rfl, hs, hqt, hq, hr, hb3⟩
  have hlt2 := hs2.out.lt
  have hs3 := Lib.hid (hs2.out.below hb3)
  have ht3 : Hid (TS w3 qt q r 9 (kept []) (cnl [])) := Lib.hid hs
  have hB3 := Lib.hid (hB2.out.trans (hb3.mono hB2.out.size))
  obtain ⟨B, hB⟩ : ∃ B, B = w2.heap.size := ⟨_, rfl⟩
  have hwB : w.heap.size ≤ B := by rw [hB]; exact hB2.out.size
  rw [← hB] at hlt2 hqt hq hr
  clear hs hb3 hB2 hs2 hB
  go_wp2_with fail
  go_loopw [10] (fun s wr => ∃ j : Nat, j ≤ l.length ∧ s = .int .i64 (j : Int) ∧ TS wr pt p g 7 (kept (l.take j)) (cnl (l.take j)) ∧ TS wr qt q r 9 (kept (R.take j)) (cnl (R.take j)) ∧ Below w.heap.size w wr) (fun s _ => l.length - (intOf s).toNat)
  case atStart => exact ⟨0, Nat.zero_le _, rfl, by rw [List.take_zero]; exact hs3.out, by rw [List.take_zero]; exact ht3.out, hB3.out⟩
  case round =>
    obtain ⟨j, hj, rfl, hs, ht4, hbel⟩ := hrel
    by_cases hlt : j < l.length
    · obtain ⟨x, hx⟩ : ∃ x, l[j]? = some x := ⟨l[j], by simp [hlt]⟩
      have hm : (j + k) % l.length < l.length := Nat.mod_lt _ (by omega)
      obtain ⟨y, hy⟩ : ∃ y, l[(j + k) % l.length]? = some y := ⟨l[(j + k) % l.length], by simp [hm]⟩
      have hRy : R[j]? = some y := (HG.out j hlt).trans hy
      obtain ⟨n, hn⟩ : ∃ n, n = (j + k) % l.length := ⟨_, rfl⟩
      rw [← hn] at hy hm
      have hni : ((j : Int) + (k : Int)) % (l.length : Int) = (n : Int) := by rw [hn]; simp
      have hnt : Int.tmod ((j : Int) + (k : Int)) (l.length : Int) = (n : Int) := by rw [Int.tmod_eq_emod_of_nonneg (by omega)]; exact hni
      have hnl : (n : Int) < (l.length : Int) := by omega
      have hjl : (j : Int) < (l.length : Int) := by omega
      have CX := Lib.hid (fun (W : World) (hW : Below w.heap.size w W) (i : Nat) (hi : i < 5) => (hW.cell (p := ⟨b, off + j * 5 + i, none⟩) hbw).trans (HC.out j x hx i hi))
      have CY := Lib.hid (fun (W : World) (hW : Below w.heap.size w W) (i : Nat) (hi : i < 5) => (hW.cell (p := ⟨b, off + n * 5 + i, none⟩) hbw).trans (HC.out n y hy i hi))
      have a0 : wr.cell? ⟨b, off + j * 5, none⟩ = some (.int .i64 x.a) := CX.out wr hbel 0 (by omega)
      have a1 : wr.cell? ⟨b, off + j * 5 + 1, none⟩ = some (.int .i64 x.b) := CX.out wr hbel 1 (by omega)
      have a2 : wr.cell? ⟨b, off + j * 5 + 2, none⟩ = some (.int .i64 x.c) := CX.out wr hbel 2 (by omega)
      have a3 : wr.cell? ⟨b, off + j * 5 + 3, none⟩ = some (.int .i64 x.d) := CX.out wr hbel 3 (by omega)
      have a4 : wr.cell? ⟨b, off + j * 5 + 4, none⟩ = some (.int .i64 x.e) := CX.out wr hbel 4 (by omega)
      have X1 := add_any hs x (by rw [List.length_take]; omega)
      have e1 : l.take j ++ [x] = l.take (j + 1) := by rw [List.take_add_one, hx]; rfl
      have e2 : R.take j ++ [y] = R.take (j + 1) := by rw [List.take_add_one, hRy]; rfl
      rw [e1] at X1
      have hT := Lib.hid ht4
      have hBl := Lib.hid hbel
      replace e2 := Lib.hid e2
      clear hx hy hRy hs ht4 hbel hn hs3 ht3 hB3 e1
      go_wp2_with fail
      refine X1.mono ?_; rintro e w4 ⟨rfl, hs4, hk4, hb4⟩
      have hS4 := Lib.hid hs4
      have hT4 := Lib.hid (hT.out.apart hk4 (by rintro (h | h | h) <;> omega) (by rintro (h | h | h) <;> omega) (by rintro (h | h | h) <;> omega))
      have hB4 := Lib.hid (hBl.out.trans (hb4 _ hpt' hp' hg'))
      clear hs4 hk4 hb4 a0 a1 a2 a3 a4 X1
      have a0 : w4.cell? ⟨b, off + n * 5, none⟩ = some (.int .i64 y.a) := CY.out w4 hB4.out 0 (by omega)
      have a1 : w4.cell? ⟨b, off + n * 5 + 1, none⟩ = some (.int .i64 y.b) := CY.out w4 hB4.out 1 (by omega)
      have a2 : w4.cell? ⟨b, off + n * 5 + 2, none⟩ = some (.int .i64 y.c) := CY.out w4 hB4.out 2 (by omega)
      have a3 : w4.cell? ⟨b, off + n * 5 + 3, none⟩ = some (.int .i64 y.d) := CY.out w4 hB4.out 3 (by omega)
      have a4 : w4.cell? ⟨b, off + n * 5 + 4, none⟩ = some (.int .i64 y.e) := CY.out w4 hB4.out 4 (by omega)
      have X2 := add_any hT4.out y (by rw [List.length_take]; omega)
      rw [e2.out] at X2
      go_wp2_with fail
      refine X2.mono ?_; rintro e w5 ⟨rfl, ht5, hk5, hb5⟩
      have hT5 := Lib.hid ht5
      have hS5 := Lib.hid (hS4.out.le (hb5 B hqt hq hr) hlt2.1 hlt2.2.1 hlt2.2.2)
      have hB5 := Lib.hid (hB4.out.trans (hb5 w.heap.size (by omega) (by omega) (by omega)))
      clear ht5 hk5 hb5 a0 a1 a2 a3 a4 X2
      go_wp2
      go_roundw
      case rel => exact ⟨j + 1, by omega, by go_num, hS5.out, hT5.out, hB5.out⟩
      case measure => simp [intOf]; omega
    · obtain rfl : j = l.length := by omega
      obtain ⟨wo, rfl⟩ : ∃ wo : World, wo = wr := ⟨_, rfl⟩
      rw [List.take_length] at hs
      rw [← HRL.out, List.take_length, HRC.out] at ht4
      obtain ⟨cn, hcn⟩ : ∃ cn, cn = cnl l := ⟨_, rfl⟩
      have hBc : ∀ i, cn i ≤ 1000000 := fun i => by rw [hcn]; exact Nat.le_trans (cnl_le l i) (by omega)
      rw [← hcn] at hs ht4
      have hS := Lib.hid hs
      have hT := Lib.hid ht4
      have hBl := Lib.hid hbel
      replace hBc := Lib.hid hBc
      have hk' : Hid (∀ i : Nat, kindn cn (i : Int) ≤ 16000000) := Lib.hid (fun i => sumn_le (f := fun b => ofn cn (i : Int) (b : Int)) (B := 1000000) (fun b => ofn_le hBc.out (i : Int) (b : Int)) 16)
      clear hs ht4 hbel hcn hs3 ht3 hB3
      go_wp2_with fail
      go_loop [11, 12] (fun s i => ∃ n : Nat, n ≤ 13 ∧ i = .int .i64 (n : Int) ∧ s = .int .i64 (sumn (fun a => kindn cn (a : Int)) n : Int)) (fun _ i => 13 - (intOf i).toNat)
      case atStart => exact ⟨0, by omega, rfl, rfl⟩
      case round =>
        obtain ⟨n, hn, rfl, rfl⟩ := hrel
        by_cases hn13 : n < 13
        · have hn2 : (n : Int) ≤ 12 := by omega
          have X1 := count_any hS.out (n : Int) hBc.out
          have X2 := count_any hT.out (n : Int) hBc.out
          have hs := sumn_le (f := fun a => kindn cn (a : Int)) hk'.out n
          have ho := hk'.out n
          have hnx : sumn (fun a => kindn cn (a : Int)) (n + 1) = sumn (fun a => kindn cn (a : Int)) n + kindn cn (n : Int) := rfl
          obtain ⟨s, hs2⟩ : ∃ s, s = sumn (fun a => kindn cn (a : Int)) n := ⟨_, rfl⟩
          obtain ⟨o, ho2⟩ : ∃ o, o = kindn cn (n : Int) := ⟨_, rfl⟩
          rw [← hs2] at hs hnx ⊢
          rw [← ho2] at X1 X2 ho hnx
          have i6 : (s : Int) ≤ 208000000 := by omega
          have i7 : (o : Int) ≤ 16000000 := by omega
          replace hnx := Lib.hid hnx
          clear hs2 ho2 hs ho
          go_wp2_with fail
          refine X1.mono ?_; rintro e w5 ⟨rfl, hw5⟩
          subst hw5
          go_wp2_with fail
          refine X1.mono ?_; rintro e w6 ⟨rfl, hw6⟩
          subst hw6
          go_wp2_with fail
          refine X2.mono ?_; rintro e w7 ⟨rfl, hw7⟩
          subst hw7
          go_wp2
          go_round
          case rel => exact ⟨n + 1, by omega, by go_num, by rw [hnx.out]; go_num⟩
          case measure => simp [intOf]; omega
        · obtain rfl : n = 13 := by omega
          have e13 := sum13 cn 13 rfl
          rw [e13]
          have X1 := talln_any hS.out hBc.out
          have X2 := talln_any hT.out hBc.out
          obtain ⟨t, ht⟩ : ∃ t, t = alln cn := ⟨_, rfl⟩
          rw [← ht] at X1 X2 ⊢
          clear ht e13
          go_wp2_with fail
          refine X1.mono ?_; rintro e w5 ⟨rfl, hw5⟩
          subst hw5
          go_wp2_with fail
          refine X1.mono ?_; rintro e w6 ⟨rfl, hw6⟩
          subst hw6
          go_wp2_with fail
          refine X2.mono ?_; rintro e w7 ⟨rfl, hw7⟩
          subst hw7
          go_wp2
          go_ret
          exact ⟨rfl, hBl.out⟩
theorem orders_walk (w : World) (A : Option Addr) (l : List Ev) (cap : Nat) (hl : l.length ≤ cap) (hm : cap ≤ maxLen) (ha : ArgN REv 5 w A l) (turn : Int) (wt : (Lit.int .u8 turn).wf = true) :
    Calls Try.prog 5 #[.slice A l.length cap, .int .u8 turn] w fun e w' => e = .returned (.bool true) ∧ Below w.heap.size w w' := by
  unfold maxLen at hm
  have h3 := bd_u8 wt
  obtain ⟨turn, rfl⟩ : ∃ n : Nat, turn = (n : Int) := ⟨turn.toNat, by omega⟩
  have HA := awake_twice w
  have hx : l.length ≤ 9223372036854775807 := by omega
  by_cases h0 : l.length = 0
  · have g1 : ((l.length : Int) == 0) = true := by rw [beq_iff_eq]; omega
    have g2 : (l.length == 0) = true := by rw [beq_iff_eq]; omega
    have g3 : Hid (l.length = 0) := Lib.hid h0
    clear h0 h3 ha wt hl hm
    go_enter Try.func5, Try.ntmps5
    go_wp2_with (go_at_call 7; refine (HA _ (by first | exact Below.refl _ _ | assumption)).mono ?_; rintro e w1 ⟨rfl, hb⟩)
    go_ret
    exact ⟨rfl, by assumption⟩
  · by_cases h : l.length ≤ 200
    · exact orders_any w A l cap turn _ (by omega) rfl (rd_arg ha) (by omega) h
    · have hn : (200 : Int) < (l.length : Int) := by omega
      have g1 : ((l.length : Int) == 0) = false := by rw [beq_eq_false_iff_ne]; omega
      have g2 : (l.length == 0) = false := by rw [beq_eq_false_iff_ne]; omega
      have g3 : ¬ l.length = 0 := h0
      clear h h0 h3 ha wt hl hm
      go_enter Try.func5, Try.ntmps5
      go_wp2_with (go_at_call 7; refine (HA _ (by first | exact Below.refl _ _ | assumption)).mono ?_; rintro e w1 ⟨rfl, hb⟩)
      go_ret
      exact ⟨rfl, by assumption⟩
end Go.Proofs.Ytbcpfbmoednghaa.Tr
