/- The reference's Response: what it computes. -/
import Derived.Test.YtnidcoooenhebaaFq
namespace Go.Proofs.Ytnidcoooenhebaa.PS
open Go.RowKit Go.Proofs.Ytnidcoooenhebaa.PC Go.Proofs.YtnidcoooenhebaaW.PrintWords Go.Proofs.YtnidcoooenhebaaW.PrintLast Go.Proofs.YtnidcoooenhebaaW.PrintMore
attribute [local go_sem] max2_int min2_int max_two min_two max_three min_three max_four min_four   -- for this text's walks alone
set_option linter.unusedVariables false
set_option linter.unusedSimpArgs false
/-- The least time that is left as it is, tried one by one. -/
def fstF (f : Int → Int) (D : Int) : Nat → Int → Int × Bool
  | 0, _ => (0, false)
  | n + 1, w => if w ≤ D then (if f w = w then (w, true) else fstF f D n (w + 1)) else (0, false)
def rrsp (B g : Int) (l : List S39) (i : Int) : Int × Bool := fstF (nxt B g l i) (rd_T39 l i).f2 ((rd_T39 l i).f2.toNat + 2) 0
set_option maxRecDepth 100000 in
set_option maxHeartbeats 6000000 in
theorem rresponse_c (w : World) (B : Int) (ad : Addr) (l : List S39) (cap : Nat) (hc : l.length ≤ cap) (hC : Kd.C k39 w (some ad) l.length l) (ok : OkS B l) (i : Int) (hi : 0 ≤ i) (hi1 : i < (l.length : Int)) (g : Int) (hg : 1 ≤ g) (hg2 : g ≤ 1049576) (S0 : Array Value) (eS0 : S0 = #[.int .i64 B, .slice (some ad) l.length cap]) : Calls Try.prog 21 #[.agg S0, .int .i64 i, .int .i64 g] w fun e w' => e = .returned (.tuple #[.int .i64 (rrsp B g l i).1, .bool (rrsp B g l i).2]) ∧ Below w.heap.size w w' := by
  have oki := (ok.2.2.2.2 i.toNat (by omega)).1
  rw [show ((i.toNat : Nat) : Int) = i by omega] at oki
  have hnum := oki.nums
  obtain ⟨D, hD⟩ : ∃ d, (rd_T39 l i).f2 = d := ⟨_, rfl⟩
  rw [hD] at hnum
  obtain ⟨f, hf⟩ : ∃ f, nxt B g l i = f := ⟨_, rfl⟩
  have hres : rrsp B g l i = fstF f D (D.toNat + 2) 0 := by unfold rrsp; rw [hf, hD]
  rw [hres]
  obtain ⟨rr, hrr⟩ : ∃ r, fstF f D (D.toNat + 2) 0 = r := ⟨_, rfl⟩
  rw [hrr]
  have hD1 : 1 ≤ D := by omega
  have hD2 : D ≤ 1048576 := by omega
  have NX := Lib.hid (fun (W : World) (hW : Below w.heap.size w W) (x : Int) (h0 : 0 ≤ x) (h1 : x ≤ D) => rnext_c W B ad l cap hc (Kd.C_below hC hW) ok i hi hi1 g hg hg2 x h0 (by omega) S0 eS0)
  clear hnum hres
  replace hrr := Lib.hid hrr
  replace hf := Lib.hid hf
  replace hD := Lib.hid hD
  replace oki := Lib.hid oki
  have zS0 : Hid (S0.size = 2) := Lib.hid (by rw [eS0]; rfl)
  replace eS0 := Lib.hid eS0
  have hlen2 := ok.2.2.2.1
  replace ok := Lib.hid ok
  obtain ⟨U, eU⟩ : ∃ A : Array Value, A = #[.string ⟨#[]⟩, .int .i64 0, .int .i64 0, .int .i64 0, .int .i64 0, .int .i64 0, .int .i64 0, .int .i64 0, .int .i64 0, .int .i64 0, .int .i64 0] := ⟨_, rfl⟩
  have zU : Hid (U.size = 11) := Lib.hid (by rw [eU]; rfl)
  have hzU : ∀ V : World, (zeroValue 39).run Try.prog V = .ok (.agg U) V := fun V => by rw [eU]; kernel_rfl
  replace eU := Lib.hid eU
  obtain ⟨B0, hB0⟩ : ∃ B, w.heap.size = B := ⟨_, rfl⟩
  rw [hB0]
  obtain ⟨V0, hV0⟩ : ∃ V, w.alloc (.cells S0 24) = V := ⟨_, rfl⟩
  have Hs : Hid (V0.heap[B0]? = some (.cells S0 24 (0, 0))) := Lib.hid (by rw [← hV0]; exact (box_new hB0).1)
  have HE : Hid (Below B0 w V0) := Lib.hid (by rw [← hV0, ← hB0]; exact (Below.refl _ _).alloc (Nat.le_refl _) _)
  go_enter Try.func21, Try.ntmps21
  go_upto_region 1 with (fail)
  replace hB0 := Lib.hid hB0
  replace hV0 := Lib.hid hV0
  have hcD := Lib.hid (fun (W : World) (hW : Below B0 w W) => row_c (j := 2) hC hB0.out hW hi hi1 (by rw [← hD.out]; rfl) : ∀ W : World, Below B0 w W → W.cell? ⟨(ad.add (i.toNat * 11)).block, (ad.add (i.toNat * 11)).off + 2, none⟩ = some (.int .i64 D))
  have hI : Hid (V0.heap[B0]? = some (.cells S0 24 (0, 0)) ∧ Below B0 w V0) := Lib.hid ⟨Hs.out, HE.out⟩
  go_wp2_with fail
  go_loopw [8] (fun j wr => ∃ (x : Int) (n : Nat), j = .int .i64 x ∧ 0 ≤ x ∧ x ≤ D + 1 ∧ (D + 1 - x).toNat < n ∧ fstF f D n x = rr ∧ wr.heap[B0]? = some (.cells S0 24 (0, 0)) ∧ Below B0 w wr) (fun j _ => (D + 2 - intOf j).toNat)
  case atStart => exact ⟨0, D.toNat + 2, rfl, Int.le_refl 0, by omega, by omega, hrr.out, hI.out⟩
  case round =>
    clear hI Hs HE
    obtain ⟨x, n, rfl, hx0, hx1, hn, hr, HS, HE⟩ := hrel
    replace HS := Lib.hid HS
    replace HE := Lib.hid HE
    replace hr := Lib.hid hr
    obtain ⟨n', rfl⟩ : ∃ n', n = n' + 1 := ⟨n - 1, by omega⟩
    have c_161 : wr.cell? ⟨B0, 1, none⟩ = some (.slice (some ad) l.length cap) := by rw [blk_cell HS.out, eS0.out]; rfl
    have cD : wr.cell? ⟨(ad.add (i.toNat * 11)).block, (ad.add (i.toNat * 11)).off + 2, none⟩ = some (.int .i64 D) := hcD.out _ HE.out
    cases q0 : decide (x ≤ D) with
    | false =>
      have hrr2 : rr = (0, false) := by have := hr.out; simp only [fstF] at this; rw [if_neg (of_decide_eq_false q0)] at this; exact this.symm
      subst hrr2
      go_wp2
      go_ret2
      exact ⟨rfl, HE.out⟩
    | true =>
      have hxD : x ≤ D := of_decide_eq_true q0
      obtain ⟨m, hm⟩ : ∃ m, f x = m := ⟨_, rfl⟩
      replace hm := Lib.hid hm
      have NX2 : Hid (Calls Try.prog 18 #[.agg S0, .int .i64 i, .int .i64 g, .int .i64 x] wr fun e w' => e = .returned (.int .i64 m) ∧ Below wr.heap.size wr w') := Lib.hid (by have := NX.out wr (below_to hB0.out HE.out) x hx0 hxD; rwa [hf.out, hm.out] at this)
      go_wp2_with (first | ((with_reducible refine wpl_gate (T := 24) rfl ?_); refine wpl_ld _ _ rfl (by rfl) B0 rfl HS.out Try.underlying24 rfl (by kernel_rfl) zS0.out ?_))
      refine (NX2.out).mono ?_; rintro e V_162 ⟨rfl, hb_163⟩
      have H_164 : Hid (V_162.heap[B0]? = some (.cells S0 24 (0, 0))) := Lib.hid ((hb_163.block B0 (blk_lt HS.out)).trans HS.out)
      have HE_165 : Hid (Below B0 w V_162) := Lib.hid (HE.out.trans (hb_163.mono (sz_le hB0.out HE.out.size)))
      clear c_161 cD
      clear HE HS
      clear hb_163
      cases q2 : (m == x) with
      | true =>
        have hrr2 : rr = (x, true) := by have := hr.out; simp only [fstF] at this; rw [if_pos hxD, hm.out, if_pos (by simpa using q2)] at this; exact this.symm
        subst hrr2
        go_wp2
        go_ret2
        exact ⟨rfl, HE_165.out⟩
      | false =>
        have hr2 : Hid (fstF f D n' (x + 1) = rr) := Lib.hid (by have := hr.out; simp only [fstF] at this; rw [if_pos hxD, hm.out, if_neg (by simpa using q2)] at this; exact this)
        have hx10 : 0 ≤ x + 1 := by omega
        have hx11 : x + 1 ≤ D + 1 := by omega
        have hn2 : (D + 1 - (x + 1)).toNat < n' := by omega
        go_wp2
        go_roundw
        case rel => exact ⟨x + 1, n', rfl, hx10, hx11, hn2, hr2.out, H_164.out, HE_165.out⟩
        case measure => simp [intOf] <;> omega
/-- A time below which the recurrence makes more. -/
def Up (f : Int → Int) (w : Int) : Prop := ∀ y, 0 ≤ y → y < w → y < f y
theorem fst_no {f : Int → Int} {D : Int} : ∀ (n : Nat) (w : Int), (D + 1 - w).toNat < n → (∀ y, w ≤ y → y ≤ D → ¬ f y = y) → fstF f D n w = (0, false) := by
  intro n
  induction n with
  | zero => intro w h; omega
  | succ n ih =>
    intro w hn h
    simp only [fstF]
    by_cases c : w ≤ D
    · rw [if_pos c, if_neg (h w (Int.le_refl w) c)]
      exact ih (w + 1) (by omega) (fun y h1 h2 => h y (by omega) h2)
    · rw [if_neg c]
theorem fst_yes {f : Int → Int} {D r : Int} (hr : r ≤ D) (hf : f r = r) : ∀ (n : Nat) (w : Int), w ≤ r → (D + 1 - w).toNat < n → (∀ y, w ≤ y → y < r → ¬ f y = y) → fstF f D n w = (r, true) := by
  intro n
  induction n with
  | zero => intro w _ h; omega
  | succ n ih =>
    intro w hw hn h
    simp only [fstF]
    rw [if_pos (by omega)]
    by_cases c : w = r
    · subst c; rw [if_pos hf]
    · rw [if_neg (h w (Int.le_refl w) (by omega))]
      exact ih (w + 1) (by omega) (by omega) (fun y h1 h2 => h y (by omega) h2)
theorem rsp_spec {f : Int → Int} {D : Int} (hm : ∀ w w', 0 ≤ w → w ≤ w' → f w ≤ f w') : ∀ (n : Nat) (w : Int), 0 ≤ w → w ≤ D → w ≤ f w → (D - w).toNat < n → Up f w →
    (∃ r, rspF f D n w = (r, true) ∧ w ≤ r ∧ r ≤ D ∧ f r = r ∧ Up f r) ∨ (rspF f D n w = (0, false) ∧ ∀ y, 0 ≤ y → y ≤ D → y < f y) := by
  intro n
  induction n with
  | zero => intro w _ _ _ h; omega
  | succ n ih =>
    intro w h0 hD hf hn hu
    simp only [rspF]
    by_cases c : f w > D
    · rw [if_pos c]
      refine .inr ⟨rfl, fun y hy hyD => ?_⟩
      by_cases k : y < w
      · exact hu y hy k
      · have := hm w y h0 (by omega); omega
    · rw [if_neg c]
      by_cases k : f w = w
      · rw [if_pos k]; exact .inl ⟨w, rfl, Int.le_refl w, hD, k, hu⟩
      · rw [if_neg k]
        have hu2 : Up f (f w) := fun y hy h => by
          by_cases q : y < w
          · exact hu y hy q
          · have := hm w y h0 (by omega); omega
        rcases ih (f w) (by omega) (by omega) (hm w (f w) h0 hf) (by omega) hu2 with ⟨r, a, b, d⟩ | h
        · exact .inl ⟨r, a, by omega, d⟩
        · exact .inr h
end Go.Proofs.Ytnidcoooenhebaa.PS
