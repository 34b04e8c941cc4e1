/- The law RecoverHits, walked. -/
import Derived.Test.YtkedmmimcmignaaLB
namespace Go.Proofs.Ytkedmmimcmignaa.PS
open Go.RowKit Go.Proofs.Ytkedmmimcmignaa.PC Go.Proofs.YtkedmmimcmignaaW.PrintWords Go.Proofs.YtkedmmimcmignaaW.PrintLast Go.Proofs.YtkedmmimcmignaaW.PrintMore
set_option linter.unusedVariables false
set_option linter.unusedSimpArgs false
section
variable {t : S23} {d : Int} (od : Okd t d)
/-- What holds ahead of the i-th tick, of which the tick h alone is struck: in the part p, that takes m ticks more. -/
def HI (t : S23) (d S h m : Int) (p : Nat) (i : Int) (s : St) : Prop :=
  Inv t d s ∧ ((i ≤ h ∧ s.fl = 0 ∧ s.str = false ∧ rem t d s = S - i) ∨ (h < i ∧ s.fl = 0 ∧ s.str = true ∧ rem t d s = S - i ∧ (t.f9 = 1 → s.p = p)) ∨ (h < i ∧ s.fl = 1 ∧ s.str = false ∧ rem t d s = S + m - i))
include od in
/-- A run's part is the one in which what is left of it lies. -/
theorem part_at {s : St} (I : Inv t d s) (c : t.f9 = 1) (p : Nat) (hp : p < (pt t d).length) (h1 : su ((pt t d).drop (p + 1)) < rem t d s) (h2 : rem t d s ≤ su ((pt t d).drop p)) : s.p = p := by
  have I1 := I.1 c
  have I3 := I.2.2
  have hn : ∀ x ∈ pt t d, 0 ≤ x := pt_nonneg od.1 od.2.2.2.2.1
  have e : rem t d s = s.left + su ((pt t d).drop (s.p + 1)) := by unfold rem; rw [if_pos c]
  have e2 := su_drop I1.1
  rcases Nat.lt_trichotomy s.p p with h | h | h
  · have := su_drop_mono hn (s.p + 1) p (by omega); omega
  · exact h
  · have := su_drop_mono hn (p + 1) s.p (by omega); omega
include od in
theorem hi_step {S h m : Int} {p : Nat} (hS : S = su (pt t d)) (h0 : 0 ≤ h) (hh : h < S) (hp : t.f9 = 1 → p < (pt t d).length ∧ su ((pt t d).drop (p + 1)) < S - h ∧ S - h ≤ su ((pt t d).drop p)) (hm1 : t.f9 = 1 → m = rd (pt t d) p) (hm2 : ¬ t.f9 = 1 → m = t.f4 + t.f6) (hm : 1 ≤ m ∧ m ≤ 1000)
    {i : Int} {s u : St} {e : Int} (P : HI t d S h m p i s) (T : Tick t d s (i == h) (u, e)) : (e = 4 ∧ i = S + m - 1 ∧ u.fl = 1) ∨ (¬ e = 4 ∧ ¬ i = S + m - 1 ∧ HI t d S h m p (i + 1) u) := by
  have hx := sx_bd od
  have ok := od.1
  have h1 := od.2.2.2.2.1
  have h2 := od.2.2.2.2.2
  have hex := ex_bd ok
  obtain ⟨I, P⟩ := P
  have hr := rem_bd ok h1 I
  have hib : (i == h) = true ↔ i = h := beq_iff_eq
  cases T with
  | runs _ e1 e2 e3 e4 e5 e6 e7 =>
    have hru := rem_bd ok h1 e2
    refine .inr ⟨by omega, by omega, e2, ?_⟩
    rcases P with ⟨a, b, c, g⟩ | ⟨a, b, c, g, f⟩ | ⟨a, b, c, g⟩
    · by_cases hi2 : i = h
      · refine .inr (.inl ⟨by omega, by omega, by rw [e6, hib.mpr hi2]; simp, by omega, fun k => ?_⟩)
        rw [e3]
        exact part_at od I k p (hp k).1 (by have := (hp k).2; omega) (by have := (hp k).2; omega)
      · refine .inl ⟨by omega, by omega, ?_, by omega⟩
        rw [e6, c, show (i == h) = false from beq_eq_false_iff_ne.mpr hi2]; rfl
    · exact .inr (.inl ⟨by omega, by omega, by rw [e6, c]; rfl, by omega, fun k => by rw [e3]; exact f k⟩)
    · refine .inr (.inr ⟨by omega, by omega, ?_, by omega⟩)
      rw [e6, c, show (i == h) = false from beq_eq_false_iff_ne.mpr (by omega)]; rfl
  | passed _ e1 e0 e2 e3 e4 e5 e6 e7 e8 e9 =>
    have hru := rem_bd ok h1 e3
    rw [Bool.or_eq_false_iff] at e2
    have hi2 : i ≠ h := beq_eq_false_iff_ne.mp e2.2
    refine .inr ⟨by omega, by omega, e3, ?_⟩
    rcases P with ⟨a, b, c, g⟩ | ⟨a, b, c, g, f⟩ | ⟨a, b, c, g⟩
    · exact .inl ⟨by omega, by omega, e8, by omega⟩
    · rw [c] at e2; cases e2.1
    · exact .inr (.inr ⟨by omega, by omega, e8, by omega⟩)
  | failed _ _ e1 e2 e3 e4 e5 e6 e7 e8 e9 =>
    have hru := rem_bd ok h1 e4
    have hfail : h ≤ i ∧ s.fl = 0 ∧ rem t d s = S - i ∧ (t.f9 = 1 → s.p = p) := by
      rw [Bool.or_eq_true] at e3
      rcases P with ⟨a, b, c, g⟩ | ⟨a, b, c, g, f⟩ | ⟨a, b, c, g⟩
      · rcases e3 with e3 | e3
        · rw [c] at e3; cases e3
        · have hi2 := hib.mp e3
          exact ⟨by omega, b, g, fun k => part_at od I k p (hp k).1 (by have := (hp k).2; omega) (by have := (hp k).2; omega)⟩
      · exact ⟨by omega, b, g, f⟩
      · rcases e3 with e3 | e3
        · rw [c] at e3; cases e3
        · have hi2 := hib.mp e3; omega
    have hrm : rem t d u = S + m - (i + 1) := by
      by_cases k : t.f9 = 1
      · have a := (e5 k).2
        rw [hfail.2.2.2 k] at a
        have b := hm1 k
        omega
      · have a := (e6 k).2
        have b := hm2 k
        omega
    exact .inr ⟨by omega, by omega, e4, .inr (.inr ⟨by omega, by omega, e8, hrm⟩)⟩
  | done _ e1 e2 e3 e4 e5 e6 e7 e8 =>
    rw [Bool.or_eq_false_iff] at e2
    have hi2 : i ≠ h := beq_eq_false_iff_ne.mp e2.2
    have hC : s.fl = 1 ∧ i = S + m - 1 := by
      rcases P with ⟨a, b, c, g⟩ | ⟨a, b, c, g, f⟩ | ⟨a, b, c, g⟩
      · omega
      · rw [c] at e2; cases e2.1
      · omega
    exact .inl ⟨rfl, hC.2, by omega⟩
end
theorem Nums.C {w : World} {g : Nat} {cur : Array Value} {L : List Int} (h : Nums w g cur L) (hl : L.length ≤ 9223372036854775807) : Kd.C (Kd.int .i64) w (some ⟨g, 0, none⟩) L.length L := by
  refine ⟨rfl, hl, fun hp => ⟨_, rfl, fun j p hj => ⟨[.int .i64 p], rfl, rfl, fun i u hu => ?_⟩⟩⟩
  have hjl := (List.getElem?_eq_some_iff.1 hj).1
  cases i with
  | zero =>
    obtain rfl := Option.some.inj hu
    rw [Go.WideShapes.add_plain, blk_cell h.1]
    have := h.2 j hjl
    rw [rd_eq hjl, ← (List.getElem?_eq_some_iff.1 hj).2] at *
    simpa [Kd.int, Kd.scalar, (List.getElem?_eq_some_iff.1 hj).2] using this
  | succ i => simp at hu
theorem sum_c {t : S23} {d : Int} (od : Okd t d) (W : World) (g c : Nat) (cur : Array Value) (len : Nat) (hlen : len = (pt t d).length) (hc : len ≤ c) (S : Int) (hS : S = su (pt t d)) (hN : Nums W g cur (pt t d)) : Calls Try.prog 13 #[.slice (some ⟨g, 0, none⟩) len c] W fun e w' => e = .returned (.int .i64 S) ∧ Below W.heap.size W w' := by
  subst hlen hS
  have hx := sx_bd od
  have hex := ex_bd od.1
  have hlb := pt_len od.1 d od.2.2.2.2.1 od.2.2.2.2.2
  obtain ⟨k, h⟩ := (sum_ev (pt t d) (by omega) (pt_nonneg od.1 od.2.2.2.2.1) (by omega)).rounds
  exact (pendulumref14_Sum.calls k _ c _ _ W (hN.C (by omega)) hc h).mono fun _ _ h => ⟨h.1, h.2.below⟩
set_option maxRecDepth 100000 in
set_option maxHeartbeats 4000000 in
theorem hits_out (w : World) (t : S23) (d a : Int) (hb : Ev (fun k => pendulumref15_Small.f k t.f0 t.f1 t.f2 t.f3 t.f4 t.f5 t.f6 t.f7 t.f8 t.f9 t.f10 d) false) : Calls Try.prog 5 #[.agg (TA t), .int .i64 d, .int .u16 a] w fun e w' => e = .returned (.bool true) ∧ Below w.heap.size w w' := by
  obtain ⟨A0, eA0⟩ : ∃ A, A = TA t := ⟨_, rfl⟩
  rw [← eA0]
  have zA0 : Hid (A0.size = 11) := Lib.hid (by rw [eA0]; rfl)
  replace eA0 := Lib.hid eA0
  obtain ⟨Z, eZ⟩ : ∃ A : Array Value, A = #[.string ⟨#[]⟩, .int .i64 0, .int .i64 0, .int .i64 0, .int .i64 0, .int .i64 0, .int .i64 0, .int .i64 0, .int .i64 0, .int .i64 0, .int .i64 0, .int .i64 0, .int .i64 0, .int .i64 0, .bool false, .int .i64 0] := ⟨_, rfl⟩
  have zZ : Hid (Z.size = 16) := Lib.hid (by rw [eZ]; rfl)
  have hz : ∀ V : World, (zeroValue 28).run Try.prog V = .ok (.agg Z) V := fun V => by rw [eZ]; kernel_rfl
  replace eZ := Lib.hid eZ
  obtain ⟨B0, hB0⟩ : ∃ B, w.heap.size = B := ⟨_, rfl⟩
  rw [hB0]
  obtain ⟨V0, hV0⟩ : ∃ V, w.alloc (.cells A0 23) = V := ⟨_, rfl⟩
  have Ht : Hid (V0.heap[B0]? = some (.cells A0 23 (0, 0))) := Lib.hid (by rw [← hV0]; exact (box_new hB0).1)
  have HE : Hid (Below B0 w V0) := Lib.hid (by rw [← hV0, ← hB0]; exact (Below.refl _ _).alloc (Nat.le_refl _) _)
  go_enter Try.func5, Try.ntmps5
  go_upto_region 1 with (fail)
  replace hB0 := Lib.hid hB0
  replace hV0 := Lib.hid hV0
  go_wp2_with fail
  refine (aw_c _).mono ?_; rintro e V_1 ⟨rfl, hb_2⟩
  have H_3 : Hid (V_1.heap[B0]? = some (.cells A0 23 (0, 0))) := Lib.hid ((hb_2.block B0 (blk_lt Ht.out)).trans Ht.out)
  have HE_4 : Hid (Below B0 w V_1) := Lib.hid (HE.out.trans (hb_2.mono (sz_le hB0.out HE.out.size)))
  clear HE Ht
  clear hb_2
  go_wp2_with (first | (refine wpl_ld _ _ rfl (by rfl) B0 rfl H_3.out Try.underlying23 rfl (by kernel_rfl) zA0.out ?_))
  refine (small_c hb _ _ eA0.out).mono ?_; rintro e V_5 ⟨rfl, hb_6⟩
  have H_7 : Hid (V_5.heap[B0]? = some (.cells A0 23 (0, 0))) := Lib.hid ((hb_6.block B0 (blk_lt H_3.out)).trans H_3.out)
  have HE_8 : Hid (Below B0 w V_5) := Lib.hid (HE_4.out.trans (hb_6.mono (sz_le hB0.out HE_4.out.size)))
  clear HE_4 H_3
  clear hb_6
  go_wp2_with fail
  refine (aw_c _).mono ?_; rintro e V_9 ⟨rfl, hb_10⟩
  have H_11 : Hid (V_9.heap[B0]? = some (.cells A0 23 (0, 0))) := Lib.hid ((hb_10.block B0 (blk_lt H_7.out)).trans H_7.out)
  have HE_12 : Hid (Below B0 w V_9) := Lib.hid (HE_8.out.trans (hb_10.mono (sz_le hB0.out HE_8.out.size)))
  clear HE_8 H_7
  clear hb_10
  go_wp2
  go_ret
  exact ⟨rfl, HE_12.out⟩
set_option maxRecDepth 100000 in
set_option maxHeartbeats 4000000 in
theorem hits_main (w : World) (t : S23) (d a : Int) (a0 : 0 ≤ a) (a1 : a ≤ 65535) (hb : Ev (fun k => pendulumref15_Small.f k t.f0 t.f1 t.f2 t.f3 t.f4 t.f5 t.f6 t.f7 t.f8 t.f9 t.f10 d) true) (od : Okd t d) : Calls Try.prog 5 #[.agg (TA t), .int .i64 d, .int .u16 a] w fun e w' => e = .returned (.bool true) ∧ Below w.heap.size w w' := by
  have hsx := sx_bd od
  have hex := ex_bd od.1
  have hsu := su_bd od.1 od.2.2.2.2.1 od.2.2.2.2.2
  obtain ⟨S, hS⟩ : ∃ S, S = su (pt t d) := ⟨_, rfl⟩
  rw [← hS] at hsx hsu
  have ha0 := Int.emod_nonneg a (show S ≠ 0 by omega)
  have ha1 := Int.emod_lt_of_pos a (show 0 < S by omega)
  obtain ⟨h, hh⟩ : ∃ h, a % S = h := ⟨_, rfl⟩
  rw [hh] at ha0 ha1
  have hht : Int.tmod a S = h := by rw [Int.tmod_eq_emod_of_nonneg a0]; exact hh
  have hSz : (S == 0) = false := by rw [beq_eq_false_iff_ne]; omega
  replace hS := Lib.hid hS
  obtain ⟨A0, eA0⟩ : ∃ A, A = TA t := ⟨_, rfl⟩
  rw [← eA0]
  have zA0 : Hid (A0.size = 11) := Lib.hid (by rw [eA0]; rfl)
  replace eA0 := Lib.hid eA0
  obtain ⟨Z, eZ⟩ : ∃ A : Array Value, A = #[.string ⟨#[]⟩, .int .i64 0, .int .i64 0, .int .i64 0, .int .i64 0, .int .i64 0, .int .i64 0, .int .i64 0, .int .i64 0, .int .i64 0, .int .i64 0, .int .i64 0, .int .i64 0, .int .i64 0, .bool false, .int .i64 0] := ⟨_, rfl⟩
  have zZ : Hid (Z.size = 16) := Lib.hid (by rw [eZ]; rfl)
  have hz : ∀ V : World, (zeroValue 28).run Try.prog V = .ok (.agg Z) V := fun V => by rw [eZ]; kernel_rfl
  replace eZ := Lib.hid eZ
  obtain ⟨B0, hB0⟩ : ∃ B, w.heap.size = B := ⟨_, rfl⟩
  rw [hB0]
  obtain ⟨V0, hV0⟩ : ∃ V, w.alloc (.cells A0 23) = V := ⟨_, rfl⟩
  have Ht : Hid (V0.heap[B0]? = some (.cells A0 23 (0, 0))) := Lib.hid (by rw [← hV0]; exact (box_new hB0).1)
  have HE : Hid (Below B0 w V0) := Lib.hid (by rw [← hV0, ← hB0]; exact (Below.refl _ _).alloc (Nat.le_refl _) _)
  go_enter Try.func5, Try.ntmps5
  go_upto_region 1 with (fail)
  replace hB0 := Lib.hid hB0
  replace hV0 := Lib.hid hV0
  go_wp2_with fail
  refine (aw_c _).mono ?_; rintro e V_13 ⟨rfl, hb_14⟩
  have H_15 : Hid (V_13.heap[B0]? = some (.cells A0 23 (0, 0))) := Lib.hid ((hb_14.block B0 (blk_lt Ht.out)).trans Ht.out)
  have HE_16 : Hid (Below B0 w V_13) := Lib.hid (HE.out.trans (hb_14.mono (sz_le hB0.out HE.out.size)))
  clear HE Ht
  clear hb_14
  go_wp2_with (first | (refine wpl_ld _ _ rfl (by rfl) B0 rfl H_15.out Try.underlying23 rfl (by kernel_rfl) zA0.out ?_))
  refine (small_c hb _ _ eA0.out).mono ?_; rintro e V_17 ⟨rfl, hb_18⟩
  have H_19 : Hid (V_17.heap[B0]? = some (.cells A0 23 (0, 0))) := Lib.hid ((hb_18.block B0 (blk_lt H_15.out)).trans H_15.out)
  have HE_20 : Hid (Below B0 w V_17) := Lib.hid (HE_16.out.trans (hb_18.mono (sz_le hB0.out HE_16.out.size)))
  clear HE_16 H_15
  clear hb_18
  go_wp2_with (first | (refine wpl_ld _ _ rfl (by rfl) B0 rfl H_19.out Try.underlying23 rfl (by kernel_rfl) zA0.out ?_))
  refine (parts_c od _ _ eA0.out).mono ?_; rintro e V_21 ⟨g, cp, cur, rfl, hgr, hrow, hcp, hb_22⟩
  have H_23 : Hid (V_21.heap[B0]? = some (.cells A0 23 (0, 0))) := Lib.hid ((hb_22.block B0 (blk_lt H_19.out)).trans H_19.out)
  have HE_24 : Hid (Below B0 w V_21) := Lib.hid (HE_20.out.trans (hb_22.mono (sz_le hB0.out HE_20.out.size)))
  clear HE_20 H_19
  clear hb_22
  clear hgr
  have hcur := Lib.hid hrow.2
  replace hrow := Lib.hid hrow.1
  obtain ⟨len, hlen⟩ : ∃ n, n = (pt t d).length := ⟨_, rfl⟩
  rw [← hlen] at hcp ⊢
  have hl0 : 0 < len := by rw [hlen]; exact len_pos od
  have hll : len ≤ 1048576 := by rw [hlen]; exact pt_len od.1 d od.2.2.2.2.1 od.2.2.2.2.2
  replace hlen := Lib.hid hlen
  go_wp2_with fail
  refine (sum_c od _ g cp cur len hlen.out hcp S hS.out ⟨hrow.out, hcur.out⟩).mono ?_; rintro e V_25 ⟨rfl, hb_26⟩
  have H_27 : Hid (V_25.heap[B0]? = some (.cells A0 23 (0, 0))) := Lib.hid ((hb_26.block B0 (blk_lt H_23.out)).trans H_23.out)
  have H_28 : Hid (V_25.heap[g]? = some (.cells cur 3 (0, 0))) := Lib.hid ((hb_26.block g (blk_lt hrow.out)).trans hrow.out)
  have HE_29 : Hid (Below B0 w V_25) := Lib.hid (HE_24.out.trans (hb_26.mono (sz_le hB0.out HE_24.out.size)))
  clear HE_24 H_23 hrow
  clear hb_26
  have hcell : Hid (∀ p : Nat, p < (pt t d).length → V_25.cell? ⟨g, p, none⟩ = some (.int .i64 (rd (pt t d) (p : Int)))) := Lib.hid (fun p hp => by rw [blk_cell H_28.out, hcur.out p hp])
  go_wp2_with fail
  go_loop [10, 11] (fun p f => ∃ (pN : Nat) (x : Int), p = .int .i64 (pN : Int) ∧ f = .int .i64 x ∧ pN < len ∧ x = S - su ((pt t d).drop pN) ∧ x ≤ h) (fun p _ => len - (intOf p).toNat)
  case atStart => exact ⟨0, 0, rfl, rfl, hl0, by rw [hS.out]; simp, ha0⟩
  case round =>
    obtain ⟨p, x, rfl, rfl, hpl, hx, hxh⟩ := hrel
    have hpl2 : p < (pt t d).length := by rw [← hlen.out]; exact hpl
    have hpi : (p : Int) < (len : Int) := by omega
    have hsd := su_drop hpl2
    have g0 := su_drop_le (pt_nonneg od.1 od.2.2.2.2.1) p
    have g1 := su_nonneg (l := (pt t d).drop (p + 1)) (fun x hx => pt_nonneg od.1 od.2.2.2.2.1 x (List.mem_of_mem_drop hx))
    have g2 := pt_mem od.1 d od.2.2.2.2.1 _ (rd_mem hpl2)
    have cm := hcell.out p hpl2
    obtain ⟨y, hy⟩ : ∃ y, y = rd (pt t d) (p : Int) := ⟨_, rfl⟩
    rw [← hy] at cm hsd g2
    rw [← hS.out] at g0
    have hx0 : 0 ≤ x := by omega
    have hxy : x + y ≤ S := by omega
    have hex' : t.f9 = 1 → y ≤ 1000 := fun c => by have := g2.2 c; omega
    by_cases hc : x + y ≤ h
    · have hpn : p + 1 < len := by
        rcases Nat.lt_or_ge (p + 1) len with k | k
        · exact k
        · rw [List.drop_eq_nil_of_le (show (pt t d).length ≤ p + 1 by rw [← hlen.out]; exact k)] at hsd; simp only [su] at hsd; omega
      have hfx : Hid (x + y = S - su ((pt t d).drop (p + 1))) := Lib.hid (by omega)
      replace hx := Lib.hid hx
      replace hsd := Lib.hid hsd
      replace hy := Lib.hid hy
      go_wp2
      go_round
      case rel => exact ⟨p + 1, x + y, by go_num, rfl, hpn, hfx.out, hc⟩
      case measure => simp [intOf] <;> omega
    · have hpp : Hid (t.f9 = 1 → p < (pt t d).length ∧ su ((pt t d).drop (p + 1)) < S - h ∧ S - h ≤ su ((pt t d).drop p)) := Lib.hid (fun _ => ⟨hpl2, by omega, by omega⟩)
      have hc2 : h < x + y := by omega
      clear hc
      replace hx := Lib.hid hx
      replace hsd := Lib.hid hsd
      replace hy := Lib.hid hy
      by_cases c9 : t.f9 = 1
      · have m1 : 1 ≤ y ∧ y ≤ 1000 := ⟨g2.1, hex' c9⟩
        have n1 : (t.f9 != 1) = false := by rw [c9]; rfl
        have n2 : (t.f9 == 1) = true := by rw [c9]; rfl
        have c9' := Lib.hid c9
        clear c9 g2 hex'
        have c9 : V_25.cell? ⟨B0, 9, none⟩ = some (.int .i64 t.f9) := by rw [blk_cell H_27.out, eA0.out]; rfl
        have c4 : V_25.cell? ⟨B0, 4, none⟩ = some (.int .i64 t.f4) := by rw [blk_cell H_27.out, eA0.out]; rfl
        have c6 : V_25.cell? ⟨B0, 6, none⟩ = some (.int .i64 t.f6) := by rw [blk_cell H_27.out, eA0.out]; rfl
        obtain ⟨R0, eR0⟩ : ∃ A, A = RA t d (ini t d) := ⟨_, rfl⟩
        have zR0 : Hid (R0.size = 16) := Lib.hid (by rw [eR0]; rfl)
        have oR0 : Hid (R0.all (·.oneCell') = true) := Lib.hid (by rw [eR0]; exact RA_one _ _ _)
        replace eR0 := Lib.hid eR0
        go_wp2_with (first | (refine wpl_ld _ _ rfl (by rfl) B0 rfl H_27.out Try.underlying23 rfl (by kernel_rfl) zA0.out ?_))
        refine (begin_c od _ _ _ eA0.out eR0.out).mono ?_; rintro e V_30 ⟨rfl, hb_31⟩
        have H_32 : Hid (V_30.heap[B0]? = some (.cells A0 23 (0, 0))) := Lib.hid ((hb_31.block B0 (blk_lt H_27.out)).trans H_27.out)
        have H_33 : Hid (V_30.heap[g]? = some (.cells cur 3 (0, 0))) := Lib.hid ((hb_31.block g (blk_lt H_28.out)).trans H_28.out)
        have HE_34 : Hid (Below B0 w V_30) := Lib.hid (HE_29.out.trans (hb_31.mono (sz_le hB0.out HE_29.out.size)))
        clear cm c9 c4 c6
        clear HE_29 H_27 H_28
        clear hb_31
        obtain ⟨X_35, hX_37⟩ : ∃ X, V_30.heap.size = X := ⟨_, rfl⟩
        obtain ⟨V_36, q_38_0, q_38_1, q_38_2, q_38_3⟩ := st_new (w := V_30) (T := 28) hX_37 zZ.out zR0.out oR0.out
        have ne_40 : B0 < X_35 := hX_37 ▸ blk_lt H_32.out
        have H_39 : Hid (V_36.heap[B0]? = some (.cells A0 23 (0, 0))) := Lib.hid ((q_38_2 _ ne_40).trans H_32.out)
        have ne_42 : g < X_35 := hX_37 ▸ blk_lt H_33.out
        have H_41 : Hid (V_36.heap[g]? = some (.cells cur 3 (0, 0))) := Lib.hid ((q_38_2 _ ne_42).trans H_33.out)
        have ge_43 : B0 ≤ X_35 := hX_37 ▸ (sz_le hB0.out HE_34.out.size)
        have HE_44 : Hid (Below B0 w V_36) := Lib.hid (q_38_3 _ _ ge_43 HE_34.out)
        have H_45 := Lib.hid q_38_1
        clear q_38_1 q_38_2 q_38_3
        go_upto_region 15 with (fail)
        clear q_38_0 hX_37
        clear HE_34 H_32 H_33
        have hI : Hid (∃ s R, R = RA t d s ∧ V_36.heap[X_35]? = some (.cells R 28 (0, 0)) ∧ Below B0 w V_36 ∧ (HI t d S h y p ((0 : Nat) : Int) s ∨ (((0 : Nat) : Int) = S + y ∧ s.fl = 1))) := Lib.hid ⟨ini t d, R0, eR0.out, H_45.out, HE_44.out, .inl ⟨(ini_inv od).1, .inl ⟨ha0, rfl, rfl, by rw [(ini_inv od).2, ← hS.out]; simp⟩⟩⟩
        clear H_39 H_41 H_45 HE_44 hcell
        go_wp2_with fail
        go_loopw [15] (fun i wr => ∃ iN : Nat, i = .int .i64 (iN : Int) ∧ (iN : Int) ≤ S + y ∧ ∃ s R, R = RA t d s ∧ wr.heap[X_35]? = some (.cells R 28 (0, 0)) ∧ Below B0 w wr ∧ (HI t d S h y p (iN : Int) s ∨ ((iN : Int) = S + y ∧ s.fl = 1))) (fun i _ => 300000 - (intOf i).toNat)
        case atStart => exact ⟨0, rfl, by omega, hI.out⟩
        case round =>
          obtain ⟨i, rfl, hi, s, R, eR, HR, HE, P⟩ := hrel
          have zR : Hid (R.size = 16) := Lib.hid (by rw [eR]; rfl)
          have oR : Hid (R.all (·.oneCell') = true) := Lib.hid (by rw [eR]; exact RA_one _ _ _)
          by_cases hlt : (i : Int) < S + y
          · have P : HI t d S h y p (i : Int) s := by
                rcases P with P | P
                · exact P
                · omega
            obtain ⟨hit, hit2⟩ : ∃ b, ((i : Int) == h) = b := ⟨_, rfl⟩
            obtain ⟨q, hq⟩ : ∃ q, nx t d s hit = q := ⟨_, rfl⟩
            have TK := nx_tick od.1 od.2.2.2.2.1 od.2.2.2.2.2 P.1 hit
            rw [hq, ← hit2] at TK
            obtain ⟨u, e'⟩ := q
            have hfl : 0 ≤ s.fl ∧ s.fl ≤ 1 := by rcases P.2 with k | k | k <;> omega
            have SC := Lib.hid (step_c od P.1 hit hfl.1 (by omega) hq)
            have NX := hi_step od hS.out ha0 ha1 hpp.out (fun _ => hy.out) (fun k => absurd c9'.out k) m1 P TK
            obtain ⟨U, eU⟩ : ∃ A, A = RA t d u := ⟨_, rfl⟩
            have zU : Hid (U.size = 16) := Lib.hid (by rw [eU]; rfl)
            have oU : Hid (U.all (·.oneCell') = true) := Lib.hid (by rw [eU]; exact RA_one _ _ _)
            replace eU := Lib.hid eU
            replace eR := Lib.hid eR
            replace HR := Lib.hid HR
            replace HE := Lib.hid HE
            replace P := Lib.hid P
            clear TK hq hfl hI
            rcases NX with ⟨k1, k2, k3⟩ | ⟨k1, k2, k3⟩
            · have b1 : (e' == 4) = true := by rw [k1]; rfl
              replace k2 := Lib.hid k2
              replace k1 := Lib.hid k1
              replace k3 := Lib.hid k3
              go_wp2_with (first | (refine wpl_ld _ _ rfl (by rfl) X_35 rfl HR.out Try.underlying28 rfl (by kernel_rfl) zR.out ?_))
              refine (SC.out _ _ _ eR.out eU.out).mono ?_; rintro e V_46 ⟨rfl, hb_47⟩
              have H_48 : Hid (V_46.heap[X_35]? = some (.cells R 28 (0, 0))) := Lib.hid ((hb_47.block X_35 (blk_lt HR.out)).trans HR.out)
              have HE_49 : Hid (Below B0 w V_46) := Lib.hid (HE.out.trans (hb_47.mono (sz_le hB0.out HE.out.size)))
              clear HE HR
              clear hb_47
              obtain ⟨X_50, hX_52⟩ : ∃ X, V_46.heap.size = X := ⟨_, rfl⟩
              obtain ⟨V_51, q_53_0, q_53_1, q_53_2, q_53_3⟩ := st_new (w := V_46) (T := 28) hX_52 zZ.out zU.out oU.out
              have ne_55 : X_35 < X_50 := hX_52 ▸ blk_lt H_48.out
              have H_54 : Hid (V_51.heap[X_35]? = some (.cells R 28 (0, 0))) := Lib.hid ((q_53_2 _ ne_55).trans H_48.out)
              have ge_56 : B0 ≤ X_50 := hX_52 ▸ (sz_le hB0.out HE_49.out.size)
              have HE_57 : Hid (Below B0 w V_51) := Lib.hid (q_53_3 _ _ ge_56 HE_49.out)
              have H_58 := Lib.hid q_53_1
              clear q_53_1 q_53_2 q_53_3
              go_upto_region 21 with (fail)
              clear q_53_0 hX_52
              clear HE_49 H_48
              obtain ⟨V_59, q_60_0, q_60_1, q_60_2, q_60_3⟩ := st_any H_54.out zR.out zU.out oU.out
              have H_61 : Hid (V_59.heap[X_50]? = some (.cells U 28 (0, 0))) := Lib.hid ((q_60_2 _ (Nat.ne_of_gt ne_55)).trans H_58.out)
              have HE_62 : Hid (Below B0 w V_59) := Lib.hid (q_60_3 _ _ ge_43 HE_57.out)
              have H_63 := Lib.hid q_60_1
              clear q_60_1 q_60_2 q_60_3
              go_upto_region 22 with (first | (refine wpl_ld _ _ rfl (by rfl) X_50 rfl H_58.out Try.underlying28 rfl (by kernel_rfl) zU.out ?_))
              clear q_60_0
              clear HE_57 H_58 H_54
              have b2 : ((i : Int) == S + y - 1) = true := by rw [beq_iff_eq]; exact k2.out
              go_wp2
              go_roundw
              case rel => exact ⟨i + 1, congrArg (Value.int .i64) (by have := k2.out; push_cast; omega), by have := k2.out; push_cast; omega, u, U, eU.out, H_63.out, HE_62.out, .inr ⟨by have := k2.out; push_cast; omega, k3.out⟩⟩
              case measure => simp [intOf] <;> omega
            · have b1 : (e' == 4) = false := by rw [beq_eq_false_iff_ne]; exact k1
              have b2 : ((i : Int) == S + y - 1) = false := by rw [beq_eq_false_iff_ne]; exact k2
              have k1 := Lib.hid k1
              have k2 := Lib.hid k2
              replace k3 := Lib.hid k3
              go_wp2_with (first | (refine wpl_ld _ _ rfl (by rfl) X_35 rfl HR.out Try.underlying28 rfl (by kernel_rfl) zR.out ?_))
              refine (SC.out _ _ _ eR.out eU.out).mono ?_; rintro e V_64 ⟨rfl, hb_65⟩
              have H_66 : Hid (V_64.heap[X_35]? = some (.cells R 28 (0, 0))) := Lib.hid ((hb_65.block X_35 (blk_lt HR.out)).trans HR.out)
              have HE_67 : Hid (Below B0 w V_64) := Lib.hid (HE.out.trans (hb_65.mono (sz_le hB0.out HE.out.size)))
              clear HE HR
              clear hb_65
              obtain ⟨X_68, hX_70⟩ : ∃ X, V_64.heap.size = X := ⟨_, rfl⟩
              obtain ⟨V_69, q_71_0, q_71_1, q_71_2, q_71_3⟩ := st_new (w := V_64) (T := 28) hX_70 zZ.out zU.out oU.out
              have ne_73 : X_35 < X_68 := hX_70 ▸ blk_lt H_66.out
              have H_72 : Hid (V_69.heap[X_35]? = some (.cells R 28 (0, 0))) := Lib.hid ((q_71_2 _ ne_73).trans H_66.out)
              have ge_74 : B0 ≤ X_68 := hX_70 ▸ (sz_le hB0.out HE_67.out.size)
              have HE_75 : Hid (Below B0 w V_69) := Lib.hid (q_71_3 _ _ ge_74 HE_67.out)
              have H_76 := Lib.hid q_71_1
              clear q_71_1 q_71_2 q_71_3
              go_upto_region 21 with (fail)
              clear q_71_0 hX_70
              clear HE_67 H_66
              obtain ⟨V_77, q_78_0, q_78_1, q_78_2, q_78_3⟩ := st_any H_72.out zR.out zU.out oU.out
              have H_79 : Hid (V_77.heap[X_68]? = some (.cells U 28 (0, 0))) := Lib.hid ((q_78_2 _ (Nat.ne_of_gt ne_73)).trans H_76.out)
              have HE_80 : Hid (Below B0 w V_77) := Lib.hid (q_78_3 _ _ ge_43 HE_75.out)
              have H_81 := Lib.hid q_78_1
              clear q_78_1 q_78_2 q_78_3
              go_upto_region 22 with (first | (refine wpl_ld _ _ rfl (by rfl) X_68 rfl H_76.out Try.underlying28 rfl (by kernel_rfl) zU.out ?_))
              clear q_78_0
              clear HE_75 H_76 H_72
              go_wp2
              go_roundw
              case rel => exact ⟨i + 1, by go_num, by push_cast; omega, u, U, eU.out, H_81.out, HE_80.out, .inl (by push_cast; exact k3.out)⟩
              case measure => simp [intOf] <;> omega
          · have hii : (i : Int) = S + y := by omega
            have hf1 : s.fl = 1 := by
                rcases P with P | P
                · have := rem_bd od.1 od.2.2.2.2.1 P.1; rcases P.2 with k | k | k <;> omega
                · exact P.2
            have cf : wr.cell? ⟨X_35, 15, none⟩ = some (.int .i64 1) := by rw [blk_cell HR, eR, ← hf1]; rfl
            have hlt2 : S + y ≤ (i : Int) := by omega
            replace HE := Lib.hid HE
            replace hii := Lib.hid hii
            clear HR P hf1 eR hI
            go_wp2
            go_ret
            exact ⟨rfl, HE.out⟩
      · have ha := od.1.alt c9
        have hn := od.1.nums
        have hex2 : ex t = t.f4 + t.f6 := by unfold ex; rw [if_neg c9]
        obtain ⟨m, hm⟩ : ∃ m, t.f4 + t.f6 = m := ⟨_, rfl⟩
        have m1 : 1 ≤ m ∧ m ≤ 1000 := by omega
        have n1 : (t.f9 != 1) = true := by simpa using c9
        have n2 : (t.f9 == 1) = false := by simpa using c9
        have b4 : t.f4 ≤ 1000 := by omega
        have b6 : t.f6 ≤ 1000 := by omega
        have hm' := Lib.hid hm
        replace hex2 := Lib.hid hex2
        clear g2 hex'
        have c9 : V_25.cell? ⟨B0, 9, none⟩ = some (.int .i64 t.f9) := by rw [blk_cell H_27.out, eA0.out]; rfl
        have c4 : V_25.cell? ⟨B0, 4, none⟩ = some (.int .i64 t.f4) := by rw [blk_cell H_27.out, eA0.out]; rfl
        have c6 : V_25.cell? ⟨B0, 6, none⟩ = some (.int .i64 t.f6) := by rw [blk_cell H_27.out, eA0.out]; rfl
        obtain ⟨R0, eR0⟩ : ∃ A, A = RA t d (ini t d) := ⟨_, rfl⟩
        have zR0 : Hid (R0.size = 16) := Lib.hid (by rw [eR0]; rfl)
        have oR0 : Hid (R0.all (·.oneCell') = true) := Lib.hid (by rw [eR0]; exact RA_one _ _ _)
        replace eR0 := Lib.hid eR0
        go_wp2_with (first | (refine wpl_ld _ _ rfl (by rfl) B0 rfl H_27.out Try.underlying23 rfl (by kernel_rfl) zA0.out ?_))
        refine (begin_c od _ _ _ eA0.out eR0.out).mono ?_; rintro e V_82 ⟨rfl, hb_83⟩
        have H_84 : Hid (V_82.heap[B0]? = some (.cells A0 23 (0, 0))) := Lib.hid ((hb_83.block B0 (blk_lt H_27.out)).trans H_27.out)
        have H_85 : Hid (V_82.heap[g]? = some (.cells cur 3 (0, 0))) := Lib.hid ((hb_83.block g (blk_lt H_28.out)).trans H_28.out)
        have HE_86 : Hid (Below B0 w V_82) := Lib.hid (HE_29.out.trans (hb_83.mono (sz_le hB0.out HE_29.out.size)))
        clear cm c9 c4 c6
        clear HE_29 H_27 H_28
        clear hb_83
        obtain ⟨X_87, hX_89⟩ : ∃ X, V_82.heap.size = X := ⟨_, rfl⟩
        obtain ⟨V_88, q_90_0, q_90_1, q_90_2, q_90_3⟩ := st_new (w := V_82) (T := 28) hX_89 zZ.out zR0.out oR0.out
        have ne_92 : B0 < X_87 := hX_89 ▸ blk_lt H_84.out
        have H_91 : Hid (V_88.heap[B0]? = some (.cells A0 23 (0, 0))) := Lib.hid ((q_90_2 _ ne_92).trans H_84.out)
        have ne_94 : g < X_87 := hX_89 ▸ blk_lt H_85.out
        have H_93 : Hid (V_88.heap[g]? = some (.cells cur 3 (0, 0))) := Lib.hid ((q_90_2 _ ne_94).trans H_85.out)
        have ge_95 : B0 ≤ X_87 := hX_89 ▸ (sz_le hB0.out HE_86.out.size)
        have HE_96 : Hid (Below B0 w V_88) := Lib.hid (q_90_3 _ _ ge_95 HE_86.out)
        have H_97 := Lib.hid q_90_1
        clear q_90_1 q_90_2 q_90_3
        go_upto_region 15 with (fail)
        clear q_90_0 hX_89
        clear HE_86 H_84 H_85
        have hI : Hid (∃ s R, R = RA t d s ∧ V_88.heap[X_87]? = some (.cells R 28 (0, 0)) ∧ Below B0 w V_88 ∧ (HI t d S h m p ((0 : Nat) : Int) s ∨ (((0 : Nat) : Int) = S + m ∧ s.fl = 1))) := Lib.hid ⟨ini t d, R0, eR0.out, H_97.out, HE_96.out, .inl ⟨(ini_inv od).1, .inl ⟨ha0, rfl, rfl, by rw [(ini_inv od).2, ← hS.out]; simp⟩⟩⟩
        clear H_91 H_93 H_97 HE_96 hcell
        go_wp2_with fail
        go_loopw [15] (fun i wr => ∃ iN : Nat, i = .int .i64 (iN : Int) ∧ (iN : Int) ≤ S + m ∧ ∃ s R, R = RA t d s ∧ wr.heap[X_87]? = some (.cells R 28 (0, 0)) ∧ Below B0 w wr ∧ (HI t d S h m p (iN : Int) s ∨ ((iN : Int) = S + m ∧ s.fl = 1))) (fun i _ => 300000 - (intOf i).toNat)
        case atStart => exact ⟨0, rfl, by omega, hI.out⟩
        case round =>
          obtain ⟨i, rfl, hi, s, R, eR, HR, HE, P⟩ := hrel
          have zR : Hid (R.size = 16) := Lib.hid (by rw [eR]; rfl)
          have oR : Hid (R.all (·.oneCell') = true) := Lib.hid (by rw [eR]; exact RA_one _ _ _)
          by_cases hlt : (i : Int) < S + m
          · have P : HI t d S h m p (i : Int) s := by
                rcases P with P | P
                · exact P
                · omega
            obtain ⟨hit, hit2⟩ : ∃ b, ((i : Int) == h) = b := ⟨_, rfl⟩
            obtain ⟨q, hq⟩ : ∃ q, nx t d s hit = q := ⟨_, rfl⟩
            have TK := nx_tick od.1 od.2.2.2.2.1 od.2.2.2.2.2 P.1 hit
            rw [hq, ← hit2] at TK
            obtain ⟨u, e'⟩ := q
            have hfl : 0 ≤ s.fl ∧ s.fl ≤ 1 := by rcases P.2 with k | k | k <;> omega
            have SC := Lib.hid (step_c od P.1 hit hfl.1 (by omega) hq)
            have NX := hi_step od hS.out ha0 ha1 hpp.out (fun k => absurd k c9) (fun _ => hm'.out.symm) m1 P TK
            obtain ⟨U, eU⟩ : ∃ A, A = RA t d u := ⟨_, rfl⟩
            have zU : Hid (U.size = 16) := Lib.hid (by rw [eU]; rfl)
            have oU : Hid (U.all (·.oneCell') = true) := Lib.hid (by rw [eU]; exact RA_one _ _ _)
            replace eU := Lib.hid eU
            replace eR := Lib.hid eR
            replace HR := Lib.hid HR
            replace HE := Lib.hid HE
            replace P := Lib.hid P
            clear TK hq hfl hI
            rcases NX with ⟨k1, k2, k3⟩ | ⟨k1, k2, k3⟩
            · have b1 : (e' == 4) = true := by rw [k1]; rfl
              replace k2 := Lib.hid k2
              replace k1 := Lib.hid k1
              replace k3 := Lib.hid k3
              go_wp2_with (first | (refine wpl_ld _ _ rfl (by rfl) X_87 rfl HR.out Try.underlying28 rfl (by kernel_rfl) zR.out ?_))
              refine (SC.out _ _ _ eR.out eU.out).mono ?_; rintro e V_98 ⟨rfl, hb_99⟩
              have H_100 : Hid (V_98.heap[X_87]? = some (.cells R 28 (0, 0))) := Lib.hid ((hb_99.block X_87 (blk_lt HR.out)).trans HR.out)
              have HE_101 : Hid (Below B0 w V_98) := Lib.hid (HE.out.trans (hb_99.mono (sz_le hB0.out HE.out.size)))
              clear HE HR
              clear hb_99
              obtain ⟨X_102, hX_104⟩ : ∃ X, V_98.heap.size = X := ⟨_, rfl⟩
              obtain ⟨V_103, q_105_0, q_105_1, q_105_2, q_105_3⟩ := st_new (w := V_98) (T := 28) hX_104 zZ.out zU.out oU.out
              have ne_107 : X_87 < X_102 := hX_104 ▸ blk_lt H_100.out
              have H_106 : Hid (V_103.heap[X_87]? = some (.cells R 28 (0, 0))) := Lib.hid ((q_105_2 _ ne_107).trans H_100.out)
              have ge_108 : B0 ≤ X_102 := hX_104 ▸ (sz_le hB0.out HE_101.out.size)
              have HE_109 : Hid (Below B0 w V_103) := Lib.hid (q_105_3 _ _ ge_108 HE_101.out)
              have H_110 := Lib.hid q_105_1
              clear q_105_1 q_105_2 q_105_3
              go_upto_region 21 with (fail)
              clear q_105_0 hX_104
              clear HE_101 H_100
              obtain ⟨V_111, q_112_0, q_112_1, q_112_2, q_112_3⟩ := st_any H_106.out zR.out zU.out oU.out
              have H_113 : Hid (V_111.heap[X_102]? = some (.cells U 28 (0, 0))) := Lib.hid ((q_112_2 _ (Nat.ne_of_gt ne_107)).trans H_110.out)
              have HE_114 : Hid (Below B0 w V_111) := Lib.hid (q_112_3 _ _ ge_95 HE_109.out)
              have H_115 := Lib.hid q_112_1
              clear q_112_1 q_112_2 q_112_3
              go_upto_region 22 with (first | (refine wpl_ld _ _ rfl (by rfl) X_102 rfl H_110.out Try.underlying28 rfl (by kernel_rfl) zU.out ?_))
              clear q_112_0
              clear HE_109 H_110 H_106
              have b2 : ((i : Int) == S + m - 1) = true := by rw [beq_iff_eq]; exact k2.out
              go_wp2
              go_roundw
              case rel => exact ⟨i + 1, congrArg (Value.int .i64) (by have := k2.out; push_cast; omega), by have := k2.out; push_cast; omega, u, U, eU.out, H_115.out, HE_114.out, .inr ⟨by have := k2.out; push_cast; omega, k3.out⟩⟩
              case measure => simp [intOf] <;> omega
            · have b1 : (e' == 4) = false := by rw [beq_eq_false_iff_ne]; exact k1
              have b2 : ((i : Int) == S + m - 1) = false := by rw [beq_eq_false_iff_ne]; exact k2
              have k1 := Lib.hid k1
              have k2 := Lib.hid k2
              replace k3 := Lib.hid k3
              go_wp2_with (first | (refine wpl_ld _ _ rfl (by rfl) X_87 rfl HR.out Try.underlying28 rfl (by kernel_rfl) zR.out ?_))
              refine (SC.out _ _ _ eR.out eU.out).mono ?_; rintro e V_116 ⟨rfl, hb_117⟩
              have H_118 : Hid (V_116.heap[X_87]? = some (.cells R 28 (0, 0))) := Lib.hid ((hb_117.block X_87 (blk_lt HR.out)).trans HR.out)
              have HE_119 : Hid (Below B0 w V_116) := Lib.hid (HE.out.trans (hb_117.mono (sz_le hB0.out HE.out.size)))
              clear HE HR
              clear hb_117
              obtain ⟨X_120, hX_122⟩ : ∃ X, V_116.heap.size = X := ⟨_, rfl⟩
              obtain ⟨V_121, q_123_0, q_123_1, q_123_2, q_123_3⟩ := st_new (w := V_116) (T := 28) hX_122 zZ.out zU.out oU.out
              have ne_125 : X_87 < X_120 := hX_122 ▸ blk_lt H_118.out
              have H_124 : Hid (V_121.heap[X_87]? = some (.cells R 28 (0, 0))) := Lib.hid ((q_123_2 _ ne_125).trans H_118.out)
              have ge_126 : B0 ≤ X_120 := hX_122 ▸ (sz_le hB0.out HE_119.out.size)
              have HE_127 : Hid (Below B0 w V_121) := Lib.hid (q_123_3 _ _ ge_126 HE_119.out)
              have H_128 := Lib.hid q_123_1
              clear q_123_1 q_123_2 q_123_3
              go_upto_region 21 with (fail)
              clear q_123_0 hX_122
              clear HE_119 H_118
              obtain ⟨V_129, q_130_0, q_130_1, q_130_2, q_130_3⟩ := st_any H_124.out zR.out zU.out oU.out
              have H_131 : Hid (V_129.heap[X_120]? = some (.cells U 28 (0, 0))) := Lib.hid ((q_130_2 _ (Nat.ne_of_gt ne_125)).trans H_128.out)
              have HE_132 : Hid (Below B0 w V_129) := Lib.hid (q_130_3 _ _ ge_95 HE_127.out)
              have H_133 := Lib.hid q_130_1
              clear q_130_1 q_130_2 q_130_3
              go_upto_region 22 with (first | (refine wpl_ld _ _ rfl (by rfl) X_120 rfl H_128.out Try.underlying28 rfl (by kernel_rfl) zU.out ?_))
              clear q_130_0
              clear HE_127 H_128 H_124
              go_wp2
              go_roundw
              case rel => exact ⟨i + 1, by go_num, by push_cast; omega, u, U, eU.out, H_133.out, HE_132.out, .inl (by push_cast; exact k3.out)⟩
              case measure => simp [intOf] <;> omega
          · have hii : (i : Int) = S + m := by omega
            have hf1 : s.fl = 1 := by
                rcases P with P | P
                · have := rem_bd od.1 od.2.2.2.2.1 P.1; rcases P.2 with k | k | k <;> omega
                · exact P.2
            have cf : wr.cell? ⟨X_87, 15, none⟩ = some (.int .i64 1) := by rw [blk_cell HR, eR, ← hf1]; rfl
            have hlt2 : S + m ≤ (i : Int) := by omega
            replace HE := Lib.hid HE
            replace hii := Lib.hid hii
            clear HR P hf1 eR hI
            go_wp2
            go_ret
            exact ⟨rfl, HE.out⟩
theorem hitsl_walk (w : World) (x : S23) (d : Int) (_ : (Lit.int .i64 d).wf = true) (a : Int) (wa : (Lit.int .u16 a).wf = true) : Calls Try.prog 5 #[.agg #[.string x.f0, .int .i64 x.f1, .int .i64 x.f2, .int .i64 x.f3, .int .i64 x.f4, .int .i64 x.f5, .int .i64 x.f6, .int .i64 x.f7, .int .i64 x.f8, .int .i64 x.f9, .int .i64 x.f10], .int .i64 d, .int .u16 a] w fun e w' => e = .returned (.bool true) ∧ Below w.heap.size w w' := by
  have hb' := Args.bd_u16 wa
  obtain ⟨b, hb, hp⟩ := small_tot x d
  cases b with
  | true => exact hits_main w x d a hb'.1 hb'.2 hb (hp rfl)
  | false => exact hits_out w x d a hb
end Go.Proofs.Ytkedmmimcmignaa.PS
