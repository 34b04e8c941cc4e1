/- fix.Response: what it computes. -/
import Derived.Test.YtnidcoooenhebaaFn
namespace Go.Proofs.Ytnidcoooenhebaa.PS
open Go.RowKit Go.Proofs.Ytnidcoooenhebaa.PC Go.Proofs.YtnidcoooenhebaaW.PrintWords Go.Proofs.YtnidcoooenhebaaW.PrintLast Go.Proofs.YtnidcoooenhebaaW.PrintMore
attribute [local go_sem] max2_int min2_int max_two min_two max_three min_three max_four min_four   -- for this text's walks alone
set_option linter.unusedVariables false
set_option linter.unusedSimpArgs false
theorem mst_mono {w w' b g : Int} (h0 : 0 ≤ w) (h : w ≤ w') (hb : 1 ≤ b) (hg : 1 ≤ g) : mst w b g ≤ mst w' b g := by
  have h2 := mst_bd (w := w') (b := b) (g := g) (by omega) hb hg
  by_cases c : w = 0
  · have e : mst w b g = 0 := by unfold mst; rw [if_pos c]
    omega
  · unfold mst; rw [if_neg c, if_neg (by omega)]; exact cl_mono (by omega) hg
theorem pl_mono {w w' p : Int} (h0 : 0 ≤ w) (h : w ≤ w') : ∀ {l : List S39}, (∀ x ∈ l, OkT x) → su (pl w p l) ≤ su (pl w' p l) := by
  intro l
  induction l with
  | nil => intro _; exact Int.le_refl _
  | cons x r ih =>
    intro hl
    have ih := ih (fun y hy => hl y (List.mem_cons_of_mem _ hy))
    have ok := hl x (List.mem_cons_self ..)
    have hn := ok.nums
    have hw := wh_bd ok
    simp only [pl]
    by_cases c : x.f10 < p
    · rw [if_pos c, if_pos c]
      have := Int.mul_le_mul_of_nonneg_right (cl_mono (a := w) (c := w') (b := x.f1) h (by omega)) (show 0 ≤ wh x by omega)
      simp only [su]; omega
    · rw [if_neg c, if_neg c]; exact ih
theorem nxt_mono {B g : Int} {l : List S39} (ok : OkS B l) (hg : 1 ≤ g) (i : Int) {w w' : Int} (h0 : 0 ≤ w) (h : w ≤ w') : nxt B g l i w ≤ nxt B g l i w' := by
  have hd := mxs_bd (fD (rd_T39 l i).f10) l 0 ok.mem (by omega) (by omega)
  have hp : 0 ≤ B * dr l i := Int.mul_nonneg (by have := ok.1; omega) hd.1
  have h1 := Int.mul_le_mul_of_nonneg_right (mst_mono (b := B) h0 h ok.1 hg) hp
  have h2 := pl_mono (p := (rd_T39 l i).f10) h0 h ok.mem
  unfold nxt; omega
theorem nxt_pos {B g : Int} {l : List S39} (ok : OkS B l) (hg : 1 ≤ g) {i : Int} (hi : 0 ≤ i) (hi1 : i < (l.length : Int)) {w : Int} (h0 : 0 ≤ w) : 1 ≤ nxt B g l i w := by
  refine Int.le_trans ?_ (nxt_mono ok hg i (Int.le_refl 0) h0)
  have oki := (ok.2.2.2.2 i.toNat (by omega)).1
  rw [show ((i.toNat : Nat) : Int) = i by omega] at oki
  have hn := oki.nums
  have hw := wh_bd oki
  have NB := nx_bd ok (Int.le_refl 0) (by omega) hg i
  have hs := su_nonneg (pl_bd (p := (rd_T39 l i).f10) (w := 0) (Int.le_refl 0) (by omega) ok.mem).1
  unfold nxt; omega
/-- The recurrence, from a time on. -/
def rspF (f : Int → Int) (D : Int) : Nat → Int → Int × Bool
  | 0, _ => (0, false)
  | n + 1, w => if f w > D then (0, false) else if f w = w then (w, true) else rspF f D n (f w)
def rsp (B g : Int) (l : List S39) (i : Int) : Int × Bool := rspF (nxt B g l i) (rd_T39 l i).f2 ((rd_T39 l i).f2.toNat + 1) 0
set_option maxRecDepth 100000 in
set_option maxHeartbeats 6000000 in
theorem response_c (w : World) (B : Int) (ad : Addr) (l : List S39) (cap : Nat) (hc : l.length ≤ cap) (hC : Kd.C k39 w (some ad) l.length l) (ok : OkS B l) (i : Int) (hi : 0 ≤ i) (hi1 : i < (l.length : Int)) (g : Int) (hg : 1 ≤ g) (hg2 : g ≤ 1049576) (S0 : Array Value) (eS0 : S0 = #[.int .i64 B, .slice (some ad) l.length cap]) : Calls Try.prog 20 #[.agg S0, .int .i64 i, .int .i64 g] w fun e w' => e = .returned (.tuple #[.int .i64 (rsp B g l i).1, .bool (rsp B g l i).2]) ∧ Below w.heap.size w w' := by
  have oki := (ok.2.2.2.2 i.toNat (by omega)).1
  rw [show ((i.toNat : Nat) : Int) = i by omega] at oki
  have hnum := oki.nums
  obtain ⟨D, hD⟩ : ∃ d, (rd_T39 l i).f2 = d := ⟨_, rfl⟩
  rw [hD] at hnum
  obtain ⟨f, hf⟩ : ∃ f, nxt B g l i = f := ⟨_, rfl⟩
  have hfm : Hid (∀ w w' : Int, 0 ≤ w → w ≤ w' → f w ≤ f w') := Lib.hid (fun w w' h0 h => by rw [← hf]; exact nxt_mono ok hg i h0 h)
  have hf0 : Hid (0 ≤ f 0) := Lib.hid (by rw [← hf]; have := nxt_pos ok hg hi hi1 (Int.le_refl 0); omega)
  have hres : rsp B g l i = rspF f D (D.toNat + 1) 0 := by unfold rsp; rw [hf, hD]
  rw [hres]
  obtain ⟨rr, hrr⟩ : ∃ r, rspF f D (D.toNat + 1) 0 = r := ⟨_, rfl⟩
  rw [hrr]
  have hD1 : 1 ≤ D := by omega
  have hD2 : D ≤ 1048576 := by omega
  have NX := Lib.hid (fun (W : World) (hW : Below w.heap.size w W) (x : Int) (h0 : 0 ≤ x) (h1 : x ≤ D) => next_c W B ad l cap hc (Kd.C_below hC hW) ok i hi hi1 g hg hg2 x h0 (by omega) S0 eS0)
  clear hnum hres
  replace hrr := Lib.hid hrr
  replace hf := Lib.hid hf
  replace hD := Lib.hid hD
  replace oki := Lib.hid oki
  have zS0 : Hid (S0.size = 2) := Lib.hid (by rw [eS0]; rfl)
  replace eS0 := Lib.hid eS0
  have hlen2 := ok.2.2.2.1
  replace ok := Lib.hid ok
  obtain ⟨U, eU⟩ : ∃ A : Array Value, A = #[.string ⟨#[]⟩, .int .i64 0, .int .i64 0, .int .i64 0, .int .i64 0, .int .i64 0, .int .i64 0, .int .i64 0, .int .i64 0, .int .i64 0, .int .i64 0] := ⟨_, rfl⟩
  have zU : Hid (U.size = 11) := Lib.hid (by rw [eU]; rfl)
  have hzU : ∀ V : World, (zeroValue 39).run Try.prog V = .ok (.agg U) V := fun V => by rw [eU]; kernel_rfl
  replace eU := Lib.hid eU
  obtain ⟨B0, hB0⟩ : ∃ B, w.heap.size = B := ⟨_, rfl⟩
  rw [hB0]
  obtain ⟨V0, hV0⟩ : ∃ V, w.alloc (.cells S0 24) = V := ⟨_, rfl⟩
  have Hs : Hid (V0.heap[B0]? = some (.cells S0 24 (0, 0))) := Lib.hid (by rw [← hV0]; exact (box_new hB0).1)
  have HE : Hid (Below B0 w V0) := Lib.hid (by rw [← hV0, ← hB0]; exact (Below.refl _ _).alloc (Nat.le_refl _) _)
  go_enter Try.func20, Try.ntmps20
  go_upto_region 1 with (fail)
  replace hB0 := Lib.hid hB0
  replace hV0 := Lib.hid hV0
  have hcD := Lib.hid (fun (W : World) (hW : Below B0 w W) => row_c (j := 2) hC hB0.out hW hi hi1 (by rw [← hD.out]; rfl) : ∀ W : World, Below B0 w W → W.cell? ⟨(ad.add (i.toNat * 11)).block, (ad.add (i.toNat * 11)).off + 2, none⟩ = some (.int .i64 D))
  have hI : Hid (V0.heap[B0]? = some (.cells S0 24 (0, 0)) ∧ Below B0 w V0) := Lib.hid ⟨Hs.out, HE.out⟩
  go_wp2_with fail
  go_loopw [8] (fun j wr => ∃ (x : Int) (n : Nat), j = .int .i64 x ∧ 0 ≤ x ∧ x ≤ D ∧ x ≤ f x ∧ (D - x).toNat < n ∧ rspF f D n x = rr ∧ wr.heap[B0]? = some (.cells S0 24 (0, 0)) ∧ Below B0 w wr) (fun j _ => (D + 1 - intOf j).toNat)
  case atStart => exact ⟨0, D.toNat + 1, rfl, Int.le_refl 0, by omega, hf0.out, by omega, hrr.out, hI.out⟩
  case round =>
    clear hI Hs HE
    obtain ⟨x, n, rfl, hx0, hx1, hxf, hn, hr, HS, HE⟩ := hrel
    replace HS := Lib.hid HS
    replace HE := Lib.hid HE
    replace hr := Lib.hid hr
    obtain ⟨m, hm⟩ : ∃ m, f x = m := ⟨_, rfl⟩
    rw [hm] at hxf
    replace hm := Lib.hid hm
    have NX2 : Hid (Calls Try.prog 13 #[.agg S0, .int .i64 i, .int .i64 g, .int .i64 x] wr fun e w' => e = .returned (.tuple #[.int .i64 m, .bool true]) ∧ Below wr.heap.size wr w') := Lib.hid (by have := NX.out wr (below_to hB0.out HE.out) x hx0 hx1; rwa [hf.out, hm.out] at this)
    go_wp2_with (first | ((with_reducible refine wpl_gate (T := 24) rfl ?_); refine wpl_ld _ _ rfl (by rfl) B0 rfl HS.out Try.underlying24 rfl (by kernel_rfl) zS0.out ?_))
    refine (NX2.out).mono ?_; rintro e V_144 ⟨rfl, hb_145⟩
    have H_146 : Hid (V_144.heap[B0]? = some (.cells S0 24 (0, 0))) := Lib.hid ((hb_145.block B0 (blk_lt HS.out)).trans HS.out)
    have HE_147 : Hid (Below B0 w V_144) := Lib.hid (HE.out.trans (hb_145.mono (sz_le hB0.out HE.out.size)))
    clear HE HS
    clear hb_145
    have c_148 : V_144.cell? ⟨B0, 1, none⟩ = some (.slice (some ad) l.length cap) := by rw [blk_cell H_146.out, eS0.out]; rfl
    have cD : V_144.cell? ⟨(ad.add (i.toNat * 11)).block, (ad.add (i.toNat * 11)).off + 2, none⟩ = some (.int .i64 D) := hcD.out _ HE_147.out
    obtain ⟨n', rfl⟩ : ∃ n', n = n' + 1 := ⟨n - 1, by omega⟩
    cases q1 : decide (D < m) with
    | true =>
      have hrr2 : rr = (0, false) := by have := hr.out; simp only [rspF] at this; rw [hm.out, if_pos (of_decide_eq_true q1)] at this; exact this.symm
      subst hrr2
      go_wp2
      go_ret2
      exact ⟨rfl, HE_147.out⟩
    | false =>
      cases q2 : (m == x) with
      | true =>
        have hrr2 : rr = (x, true) := by have := hr.out; simp only [rspF] at this; rw [hm.out, if_neg (of_decide_eq_false q1), if_pos (by simpa using q2)] at this; exact this.symm
        subst hrr2
        go_wp2
        go_ret2
        exact ⟨rfl, HE_147.out⟩
      | false =>
        have hne : ¬ m = x := by simpa using q2
        have hle : ¬ D < m := of_decide_eq_false q1
        have hr2 : Hid (rspF f D n' m = rr) := Lib.hid (by have := hr.out; simp only [rspF] at this; rw [hm.out, if_neg hle, if_neg hne] at this; exact this)
        have hmm : Hid (m ≤ f m) := Lib.hid (by have := hfm.out x m hx0 hxf; rwa [hm.out] at this)
        have hgt : x < m := by omega
        have hm0 : 0 ≤ m := by omega
        have hmD : m ≤ D := by omega
        have hn2 : (D - m).toNat < n' := by omega
        clear hne hle hn
        go_wp2
        go_roundw
        case rel => exact ⟨m, n', rfl, hm0, hmD, hmm.out, hn2, hr2.out, H_146.out, HE_147.out⟩
        case measure => simp [intOf] <;> omega
end Go.Proofs.Ytnidcoooenhebaa.PS
