/- The walk of TraceKeeps. -/
import Derived.Test.YtbcpfbmoednghaaTrKeep0
import Derived.Laws.StructEq
import Derived.Deep.QuietTactic
import Derived.BigQuiet
namespace Go.Proofs.Ytbcpfbmoednghaa.Tr
open Go.RowKit Go.Proofs.YtbcpfbmoednghaaW.PrintWords Go.Proofs.YtbcpfbmoednghaaW.PrintLast Go.Proofs.YtbcpfbmoednghaaW.PrintMore Go.Proofs.Ytbcpfbmoednghaa.Ring Go.Proofs.Ytbcpfbmoednghaa.Ring5 Go.Proofs.Ytbcpfbmoednghaa.Args
set_option linter.unusedSimpArgs false
set_option linter.unusedVariables false
theorem own_zero (W : World) (base : Nat) (e : TypeId) (hb : base ≤ W.heap.size) : (W.alloc (.cells #[] e)).ownsRow base e 5 (.slice (some ⟨W.heap.size, 0, none⟩) 0 0) 0 [] :=
  ⟨rfl, .inr ⟨_, 0, #[], rfl, hb, blk_new _ _, Nat.le_refl _, Nat.zero_le _, rfl, rfl⟩⟩
theorem own_zb (n : Nat) : ∀ k, (Value.slice (some ⟨n, 0, none⟩) 0 0).ownBlock = some k → n ≤ k := by
  intro k hk
  simp [Value.ownBlock] at hk
  omega
theorem own_same {w W : World} {base n : Nat} {v : Value} {xs : List Value} (h : w.ownsRow base 30 5 v n xs) (hs : ∀ k, base ≤ k → k < w.heap.size → W.heap[k]? = w.heap[k]?) : W.ownsRow base 30 5 v n xs := by
  refine ⟨h.1, ?_⟩
  rcases h.2 with h | ⟨g, cap, cur, h1, h2, h3, h4⟩
  · exact .inl h
  · exact .inr ⟨g, cap, cur, h1, h2, (hs g h2 (blk_lt h3)).trans h3, h4⟩
theorem ev_ne (x : Ev) (W : World) : (binOp .neq 30 (.agg #[.int .i64 x.a, .int .i64 x.b, .int .i64 x.c, .int .i64 x.d, .int .i64 x.e]) (.agg #[.int .i64 x.a, .int .i64 x.b, .int .i64 x.c, .int .i64 x.d, .int .i64 x.e])).run Try.prog W = .ok (.bool false) W := by
  have hi : ∀ (a : Int) (W : World), (Op.equalIn 9999 3 (.int .i64 a) (.int .i64 a)).run Try.prog W = .ok true W := fun a W => by
    rw [run_equalIn_int (k' := .i64) (d := 9998) (h := Try.underlying3)]; simp
  rw [run_neq_struct, run_equalIn_agg (d := 9999) (ht := by kernel_rfl) (hp := by kernel_rfl)]
  unfold Program.fieldsOf
  rw [Try.underlying30]
  simp [Op.eqFields, go_sem, hi]
theorem ev_guard (x : Ev) (a b : Operand) (W : World) : (eqGuard .neq 30 a b (.agg #[.int .i64 x.a, .int .i64 x.b, .int .i64 x.c, .int .i64 x.d, .int .i64 x.e]) (.agg #[.int .i64 x.a, .int .i64 x.b, .int .i64 x.c, .int .i64 x.d, .int .i64 x.e])).run Try.prog W = .ok () W :=
  run_eqGuard_agg W .neq 30 a b _ _ (by kernel_rfl)
/-- A row that is written to: its block. -/
def XRow (A : Option Addr) (n c lo hi : Nat) (w : World) : Prop := 0 < n → ∃ g cur, A = some ⟨g, 0, none⟩ ∧ lo ≤ g ∧ g < hi ∧ w.heap[g]? = some (.cells cur 30 (0, 0)) ∧ cur.size = c * 5
set_option maxRecDepth 100000 in
set_option maxHeartbeats 2000000 in
theorem keeps_any (w : World) (A : Option Addr) (l : List Ev) (cap : Nat) (ha : RdEv w A l) (h2 : l.length ≤ 300) :
    Calls Try.prog 4 #[.slice A l.length cap] w fun e w' => e = .returned (.bool true) ∧ Below w.heap.size w w' := by
  have i1 : (l.length : Int) ≤ 300 := by omega
  have hN := Lib.hid (fun W => show Calls Try.prog 8 #[.int .i64 4096] W _ from new_yes W 4096 (by omega) (by omega))
  have HC := Lib.hid ha
  clear ha
  go_enter Try.func4, Try.ntmps4
  go_wp2_with fail
  refine (awake_any _).mono ?_; rintro e w1 ⟨rfl, hb1⟩
  replace hb1 := Lib.hid hb1
  go_wp2_with fail
  refine (hN.out _).mono ?_; rintro e w2 ⟨pt, p, g, rfl, hs, hpt, hp, hg, hb2⟩
  have hs2 : Hid (TS w2 pt p g 4096 (kept []) (cnl [])) := Lib.hid hs
  have hB2 := Lib.hid (hb1.out.trans (hb2.mono hb1.out.size))
  have hpt' : w.heap.size ≤ pt := Nat.le_trans hb1.out.size hpt
  have hp' : w.heap.size ≤ p := Nat.le_trans hb1.out.size hp
  have hg' : w.heap.size ≤ g := Nat.le_trans hb1.out.size hg
  clear hs hb2 hpt hp hg hb1
  go_wp2_with fail
  go_loopw [5] (fun s wr => ∃ j : Nat, j ≤ l.length ∧ s = .int .i64 (j : Int) ∧ TS wr pt p g 4096 (kept (l.take j)) (cnl (l.take j)) ∧ Below w.heap.size w wr) (fun s _ => l.length - (intOf s).toNat)
  case atStart => exact ⟨0, Nat.zero_le _, rfl, by rw [List.take_zero]; exact hs2.out, hB2.out⟩
  case round =>
    obtain ⟨j, hj, rfl, hs, hbel⟩ := hrel
    by_cases hlt : j < l.length
    · obtain ⟨b, off, rfl, hbw, hcell⟩ := HC.out (by omega)
      obtain ⟨x, hx⟩ : ∃ x, l[j]? = some x := ⟨l[j], by simp [hlt]⟩
      have hjl : (j : Int) < (l.length : Int) := by omega
      have CX := Lib.hid (fun (W : World) (hW : Below w.heap.size w W) (i : Nat) (hi : i < 5) => (hW.cell (p := ⟨b, off + j * 5 + i, none⟩) hbw).trans (hcell j x hx i hi))
      have a0 : wr.cell? ⟨b, off + j * 5, none⟩ = some (.int .i64 x.a) := CX.out wr hbel 0 (by omega)
      have a1 : wr.cell? ⟨b, off + j * 5 + 1, none⟩ = some (.int .i64 x.b) := CX.out wr hbel 1 (by omega)
      have a2 : wr.cell? ⟨b, off + j * 5 + 2, none⟩ = some (.int .i64 x.c) := CX.out wr hbel 2 (by omega)
      have a3 : wr.cell? ⟨b, off + j * 5 + 3, none⟩ = some (.int .i64 x.d) := CX.out wr hbel 3 (by omega)
      have a4 : wr.cell? ⟨b, off + j * 5 + 4, none⟩ = some (.int .i64 x.e) := CX.out wr hbel 4 (by omega)
      have X1 := add_any hs x (by rw [List.length_take]; omega)
      have e1 : l.take j ++ [x] = l.take (j + 1) := by rw [List.take_add_one, hx]; rfl
      rw [e1] at X1
      have hBl := Lib.hid hbel
      clear hx hs hbel hs2 hB2 e1 hcell
      go_wp2_with fail
      refine X1.mono ?_; rintro e w4 ⟨rfl, hs4, hk4, hb4⟩
      have hS4 := Lib.hid hs4
      have hB4 := Lib.hid (hBl.out.trans (hb4 _ hpt' hp' hg'))
      clear hs4 hk4 hb4 a0 a1 a2 a3 a4 X1
      go_wp2
      go_roundw
      case rel => exact ⟨j + 1, by omega, by go_num, hS4.out, hB4.out⟩
      case measure => simp [intOf]; omega
    · obtain rfl : j = l.length := by omega
      obtain ⟨wo, rfl⟩ : ∃ wo : World, wo = wr := ⟨_, rfl⟩
      rw [List.take_length] at hs
      obtain ⟨L, hL⟩ : ∃ L, L = kept l := ⟨_, rfl⟩
      have hkl : L.length ≤ 300 := by rw [hL]; exact Nat.le_trans (kept_le l) h2
      have hal : alln (cnl l) = L.length := by rw [hL]; exact alln_cnl l
      have hBc : Hid (∀ i, cnl l i ≤ 1000000) := Lib.hid (fun i => Nat.le_trans (cnl_le l i) (by omega))
      have hll : lastc 4096 (kept l) = L := by rw [hL]; exact lastc_all (by rw [← hL]; omega)
      have hi1 : (L.length : Int) ≤ 300 := by omega
      have hlt1 := hs.lt
      have X1 := events_any hs
      rw [hll] at X1
      have hS := Lib.hid hs
      have hBl := Lib.hid hbel
      replace hll := Lib.hid hll
      replace hal := Lib.hid hal
      clear hs hbel hs2 hB2 hL
      go_wp2_with fail
      refine X1.mono ?_; rintro e w5 ⟨v, rfl, ho, hb⟩
      obtain ⟨A5, c5, rfl, hc5, hv5⟩ := own_view ho rfl
      have ho5 := Lib.hid ho
      have hb5 := Lib.hid hb
      have hS5 := Lib.hid (hS.out.below hb)
      have hB5 := Lib.hid (hBl.out.trans (hb.mono hBl.out.size))
      replace hv5 := Lib.hid hv5
      have hwo : w.heap.size ≤ wo.heap.size := hBl.out.size
      clear hS hBl ho hb X1
      obtain ⟨n5, hn5⟩ : ∃ n5, n5 = w5.heap.size := ⟨_, rfl⟩
      go_wp2_with (at_builtin; refine app_ev rfl (.tmp 43) (.tmp 44) rfl w5.heap.size (.slice (some ⟨w5.heap.size, 0, none⟩) 0 0) rfl (own_zero w5 _ _ (Nat.le_refl _)) (own_zb _) (.slice A5 L.length c5) L wo.heap.size rfl (own_same ho5.out (fun k _ hk => (below_alloc (Below.refl _ _) _).block k hk)) (by omega) (by simp) ?_; intro v6 w6 ho6 hb6; replace ho6 := Lib.hid ho6; replace hb6 := Lib.hid hb6)
      have hB56 := Lib.hid ((below_alloc (Below.refl w5.heap.size w5) (.cells #[] 30)).trans hb6.out)
      obtain ⟨A6, c6, rfl, hc6, hv6⟩ := own_view ho6.out rfl
      have hS6 := Lib.hid (hS5.out.below hB56.out)
      have hB6 := Lib.hid (hB5.out.trans (hB56.out.mono hB5.out.size))
      have hX6 : Hid (XRow A5 L.length c5 wo.heap.size n5 w6) := Lib.hid (fun h0 => by
        obtain ⟨g5, cur5, e1, e2, e3, e4, e5, _⟩ := hv5.out h0
        exact ⟨g5, cur5, e1, e2, by rw [hn5]; exact e3, (hB56.out.block g5 e3).trans e4, e5⟩)
      replace hv6 := Lib.hid hv6
      have hwn : wo.heap.size ≤ n5 := by rw [hn5]; exact hb5.out.size
      clear hS5 hB5 ho5 hb5 hv5 ho6 hb6 hB56
      replace hn5 := Lib.hid hn5
      go_wp2_with fail
      go_loopw [8] (fun s wr => ∃ j : Nat, j ≤ L.length ∧ s = .int .i64 (j : Int) ∧ Kept w6 wr (fun k => 0 < L.length ∧ A5 = some ⟨k, 0, none⟩) ∧ Below wo.heap.size w6 wr ∧ XRow A5 L.length c5 wo.heap.size n5 wr) (fun s _ => L.length - (intOf s).toNat)
      case atStart => exact ⟨0, Nat.zero_le _, rfl, Kept.refl _ _, Below.refl _ _, hX6.out⟩
      case round =>
        obtain ⟨j, hj, rfl, hk, hbel, hxr⟩ := hrel
        by_cases hlt : j < L.length
        · obtain ⟨g5, cur5, e1, e2, e3, e4, e5⟩ := hxr (by omega)
          have hjl : (j : Int) < (L.length : Int) := by omega
          have hj5 : j * 5 < cur5.size := by rw [e5]; omega
          have c0 : wr.cell? ⟨g5, j * 5, none⟩ = some (cur5[j * 5]) := (blk_cell e4 _).trans (by simp [hj5])
          have z0 : wr.frozen? ⟨g5, j * 5, none⟩ = false := blk_frozen e4 _
          have hK := Lib.hid hk
          have hBl2 := Lib.hid hbel
          have hE1 := Lib.hid e1
          have hX := Lib.hid (blk_set e4 (j * 5) (.int .i64 (-1)))
          have hE5 := Lib.hid e5
          have hL0 : 0 < L.length := by omega
          subst e1
          clear hk hbel hxr e4 e5
          go_wp2
          go_roundw
          case rel => exact ⟨j + 1, by omega, by go_num, hK.out.setCell (p := ⟨g5, _, none⟩) (.inl ⟨hL0, rfl⟩) _, hBl2.out.setCell (p := ⟨g5, _, none⟩) e2 _, fun _ => ⟨g5, _, rfl, e2, e3, hX.out, by simp [hE5.out]⟩⟩
          case measure => simp [intOf]; omega
        · obtain rfl : j = L.length := by omega
          obtain ⟨wp, rfl⟩ : ∃ wp : World, wp = wr := ⟨_, rfl⟩
          have hfar : ∀ k, k < wo.heap.size → ¬ (0 < L.length ∧ A5 = some ⟨k, 0, none⟩) := fun k hk0 h => by
            obtain ⟨g5, cur5, e1, e2, _⟩ := hxr h.1
            rw [e1] at h
            have := h.2
            injection this with this
            injection this with this
            omega
          have hfar6 : ∀ k, n5 ≤ k → ¬ (0 < L.length ∧ A5 = some ⟨k, 0, none⟩) := fun k hk0 h => by
            obtain ⟨g5, cur5, e1, e2, e3, _⟩ := hxr h.1
            rw [e1] at h
            have := h.2
            injection this with this
            injection this with this
            omega
          have hSp := hS6.out.apart hk (hfar _ hlt1.1) (hfar _ hlt1.2.1) (hfar _ hlt1.2.2)
          have hBp := Lib.hid (hB6.out.trans (hbel.mono hwo))
          have hv6p := Lib.hid (fun (h0 : 0 < L.length) => by
            obtain ⟨g6, cur6, f1, f2, f3, f4, f5, f6⟩ := hv6.out h0
            exact (⟨g6, f1, blk_lt (blk_kept f4 hk (hfar6 _ (by rw [hn5.out]; exact f2))), fun i x hx j hj => (by
              have h1 := f6 i x hx j hj
              have hsome : ∃ v, (l5 x)[j]? = some v := ⟨(l5 x)[j]'(by simpa [l5] using hj), by simp⟩
              obtain ⟨v, hv⟩ := hsome
              rw [hv] at h1 ⊢
              exact cell_kept (a := ⟨g6, i * 5 + j, none⟩) h1 hk (hfar6 _ (by rw [hn5.out]; exact f2)))⟩ : ∃ g6, A6 = some ⟨g6, 0, none⟩ ∧ g6 < wp.heap.size ∧ ∀ i x, L[i]? = some x → ∀ j, j < 5 → wp.cell? ⟨g6, i * 5 + j, none⟩ = (l5 x)[j]?))
          have X2 := events_any hSp
          rw [hll.out] at X2
          replace hSp := Lib.hid hSp
          clear hk hbel hxr hfar hfar6 hS6 hB6 hX6 hv6
          go_wp2_with fail
          refine X2.mono ?_; rintro e w7 ⟨v, rfl, ho, hb⟩
          obtain ⟨A7, c7, rfl, hc7, hv7⟩ := own_view ho rfl
          have hS7 := Lib.hid (hSp.out.below hb)
          have hB7 := Lib.hid (hBp.out.trans (hb.mono hBp.out.size))
          have hv67 := Lib.hid (fun (h0 : 0 < L.length) => by
            obtain ⟨g6, f1, f3, f6⟩ := hv6p.out h0
            exact (⟨g6, f1, fun i x hx j hj => ((hb.cell (p := ⟨g6, i * 5 + j, none⟩) f3).trans (f6 i x hx j hj))⟩ : ∃ g6, A6 = some ⟨g6, 0, none⟩ ∧ ∀ i x, L[i]? = some x → ∀ j, j < 5 → w7.cell? ⟨g6, i * 5 + j, none⟩ = (l5 x)[j]?))
          replace hv7 := Lib.hid hv7
          clear hSp hBp hv6p ho hb X2
          go_wp2_with fail
          go_loopw [10] (fun s wr => ∃ j : Nat, j ≤ L.length ∧ s = .int .i64 (j : Int) ∧ ∃ n, wr = w7.drewN n) (fun s _ => L.length - (intOf s).toNat)
          case atStart => exact ⟨0, Nat.zero_le _, rfl, 0, rfl⟩
          case round =>
            obtain ⟨j, hj, rfl, n, hw⟩ := hrel
            by_cases hlt : j < L.length
            · have hL0 : 0 < L.length := by omega
              obtain ⟨x, hx⟩ : ∃ x, L[j]? = some x := ⟨L[j], by simp [hlt]⟩
              obtain ⟨g6, f1, f2⟩ := hv67.out hL0
              obtain ⟨g7, cur7, d1, _, _, _, _, d2⟩ := hv7.out hL0
              subst f1 d1
              have hjl : (j : Int) < (L.length : Int) := by omega
              have a0 : wr.cell? ⟨g6, j * 5, none⟩ = some (.int .i64 x.a) := by rw [hw]; exact f2 j x hx 0 (by omega)
              have a1 : wr.cell? ⟨g6, j * 5 + 1, none⟩ = some (.int .i64 x.b) := by rw [hw]; exact f2 j x hx 1 (by omega)
              have a2 : wr.cell? ⟨g6, j * 5 + 2, none⟩ = some (.int .i64 x.c) := by rw [hw]; exact f2 j x hx 2 (by omega)
              have a3 : wr.cell? ⟨g6, j * 5 + 3, none⟩ = some (.int .i64 x.d) := by rw [hw]; exact f2 j x hx 3 (by omega)
              have a4 : wr.cell? ⟨g6, j * 5 + 4, none⟩ = some (.int .i64 x.e) := by rw [hw]; exact f2 j x hx 4 (by omega)
              have b0 : wr.cell? ⟨g7, j * 5, none⟩ = some (.int .i64 x.a) := by rw [hw]; exact d2 j x hx 0 (by omega)
              have b1 : wr.cell? ⟨g7, j * 5 + 1, none⟩ = some (.int .i64 x.b) := by rw [hw]; exact d2 j x hx 1 (by omega)
              have b2 : wr.cell? ⟨g7, j * 5 + 2, none⟩ = some (.int .i64 x.c) := by rw [hw]; exact d2 j x hx 2 (by omega)
              have b3 : wr.cell? ⟨g7, j * 5 + 3, none⟩ = some (.int .i64 x.d) := by rw [hw]; exact d2 j x hx 3 (by omega)
              have b4 : wr.cell? ⟨g7, j * 5 + 4, none⟩ = some (.int .i64 x.e) := by rw [hw]; exact d2 j x hx 4 (by omega)
              have hne := ev_ne x
              have hgd := ev_guard x
              replace hw := Lib.hid hw
              replace hx := Lib.hid hx
              clear f2 d2
              go_wp2_with fail
              go_quiet (fail)
              go_wp2
              go_roundw
              case rel => exact ⟨j + 1, by omega, by go_num, n + nq, by rw [hw.out, World.drewN_drewN]⟩
              case measure => simp [intOf]; omega
            · obtain rfl : j = L.length := by omega
              obtain ⟨wq, rfl⟩ : ∃ wq : World, wq = wr := ⟨_, rfl⟩
              have hS8 : TS wq pt p g 4096 (kept l) (cnl l) := by rw [hw]; exact hS7.out
              have X3 := talln_any hS8 hBc.out
              rw [hal.out] at X3
              have hB8 : Hid (Below w.heap.size w wq) := Lib.hid (by rw [hw]; exact pw_below_drewN hB7.out n)
              replace hw := Lib.hid hw
              replace hS8 := Lib.hid hS8
              go_wp2_with fail
              refine X3.mono ?_; rintro e w9 ⟨rfl, hw9⟩
              subst hw9
              go_wp2
              go_ret
              exact ⟨rfl, hB8.out⟩
theorem keeps_walk (w : World) (A : Option Addr) (l : List Ev) (cap : Nat) (hl : l.length ≤ cap) (hm : cap ≤ maxLen) (ha : ArgN REv 5 w A l) :
    Calls Try.prog 4 #[.slice A l.length cap] w fun e w' => e = .returned (.bool true) ∧ Below w.heap.size w w' := by
  unfold maxLen at hm
  have HA := awake_twice w
  have hx : l.length ≤ 9223372036854775807 := by omega
  by_cases h : l.length ≤ 300
  · exact keeps_any w A l cap (rd_arg ha) h
  · have hn : (300 : Int) < (l.length : Int) := by omega
    clear h ha hl hm
    go_enter Try.func4, Try.ntmps4
    go_wp2_with (go_at_call 7; refine (HA _ (by first | exact Below.refl _ _ | assumption)).mono ?_; rintro e w1 ⟨rfl, hb⟩)
    go_ret
    exact ⟨rfl, by assumption⟩
end Go.Proofs.Ytbcpfbmoednghaa.Tr
