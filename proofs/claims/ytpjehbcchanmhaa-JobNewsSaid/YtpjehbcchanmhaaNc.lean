/- The law JobNews, walked. -/
import Derived.Test.YtpjehbcchanmhaaNa
namespace Go.Proofs.Ytpjehbcchanmhaa.PS
open Go.RowKit Go.Proofs.Ytpjehbcchanmhaa.PC Go.Proofs.YtpjehbcchanmhaaW.PrintWords Go.Proofs.YtpjehbcchanmhaaW.PrintLast Go.Proofs.YtpjehbcchanmhaaW.PrintMore
set_option linter.unusedVariables false
set_option linter.unusedSimpArgs false
set_option maxRecDepth 100000 in
set_option maxHeartbeats 6000000 in
theorem news_one_false (w : World) (B : Int) (ad : Addr) (l : List S28) (cap : Nat) (hc : l.length ≤ cap) (hC : Kd.C k28 w (some ad) l.length l) (i no rel d C : Int) (hi : 0 ≤ i) (hi2 : i < (l.length : Int)) (hno : 0 ≤ no) (hrel : 0 ≤ rel) (hrel2 : rel ≤ 1099511627776) (hCe : (rd_T28 l i).f3 = C) (hd : d < 1) (hf : Ev (fun k => pendulumref05_Few.f k B l) true) (hr : Ev (fun k => pendulumref05_Right.f k B l) true) (ok : OkS B l) : Calls Try.prog 3 #[.agg #[.int .i64 B, .slice (some ad) l.length cap], .int .i64 i, .int .i64 no, .int .i64 rel, .int .i64 d, .bool false] w fun e w' => e = .returned (.bool true) ∧ Below w.heap.size w w' := by
  have q0 : decide (i < 0) = false := decide_eq_false (by omega)
  have q1 : decide ((l.length : Int) ≤ i) = false := decide_eq_false (by omega)
  have q2 : decide (no < 0) = false := decide_eq_false (by omega)
  have q3 : decide (rel < 0) = false := decide_eq_false (by omega)
  have q4 : decide (1099511627776 < rel) = false := decide_eq_false (by omega)
  have okt := (ok.2.2.2.2 i.toNat (by omega)).1
  rw [show ((i.toNat : Nat) : Int) = i by omega] at okt
  have hnum := okt.nums
  have hC1 : 1 ≤ C := by omega
  have hCx : C ≤ (rd_T28 l i).f3 := by omega
  obtain ⟨t, ht⟩ : ∃ t, rd_T28 l i = t := ⟨_, rfl⟩
  rw [ht] at hnum hCx okt hCe
  obtain ⟨D, hD⟩ : ∃ D, t.f2 = D := ⟨_, rfl⟩
  rw [hD] at hnum
  have hD1 : 1 ≤ D := by omega
  have hw : wrap64 (rel + D) = rel + D := w64 (by omega) (by omega)
  have hw' : wrap64 (rel + D - 1) = rel + D - 1 := w64 (by omega) (by omega)
  have qd : decide (d < 1) = true := decide_eq_true hd
  have qc : decide (C < 1) = false := decide_eq_false (by omega)
  have hn : Hid (mn (mx d 1) t.f3 = 1) := Lib.hid (by rw [hCe]; exact mn_one hd hC1)
  have hv1 : Hid (1 ≤ (1 : Int)) := Lib.hid (by omega)
  have hv2 : Hid ((1 : Int) ≤ t.f3) := Lib.hid (by omega)
  have qov : decide (C < d) = false := decide_eq_false (by omega)
  have hov' : Hid (decide (d > (rd_T28 l i).f3) = false) := Lib.hid (by rw [ht, hCe]; exact qov)
  have hr1 : Hid (0 ≤ rel ∧ rel ≤ 1099511627776) := Lib.hid ⟨by omega, by omega⟩
  have hi1 : Hid (0 ≤ i ∧ i < (l.length : Int)) := Lib.hid ⟨by omega, by omega⟩
  have hno1 : Hid (0 ≤ no) := Lib.hid (by omega)
  have hii : i < (l.length : Int) := by omega
  have hi0 : 0 ≤ i := by omega
  clear hnum hCx hrel hrel2 hd
  obtain ⟨Z, eZ⟩ : ∃ A : Array Value, A = #[.int .i64 0, .int .i64 0, .int .i64 0, .int .i64 0, .bool false, .bool false, .bool false, .string ⟨#[]⟩, .int .i64 0, .int .i64 0, .int .i64 0, .int .i64 0, .int .i64 0, .int .i64 0, .int .i64 0, .int .i64 0, .int .i64 0, .int .i64 0, .int .i64 0, .int .i64 0, .int .i64 0, .bool false, .int .i64 0] := ⟨_, rfl⟩
  have zZ : Hid (Z.size = 23) := Lib.hid (by rw [eZ]; rfl)
  have hz : ∀ V : World, (zeroValue 32).run Try.prog V = .ok (.agg Z) V := fun V => by rw [eZ]; kernel_rfl
  replace eZ := Lib.hid eZ
  obtain ⟨J, eJ⟩ : ∃ A, A = JP i no rel (rel + D) false false false ++ RA t (1 : Int) (ini t 1) := ⟨_, rfl⟩
  have zJ : Hid (J.size = 23) := Lib.hid (by rw [eJ]; exact JJ_size _ _ _ _ _ _ _ _ _ _)
  have oJ : Hid (J.all (·.oneCell') = true) := Lib.hid (by rw [eJ]; exact JJ_one _ _ _ _ _ _ _ _ _ _)
  replace eJ := Lib.hid eJ
  obtain ⟨R0, eR0⟩ : ∃ A, A = RA t (1 : Int) ⟨0, 0, false, 0⟩ := ⟨_, rfl⟩
  have zR0 : Hid (R0.size = 16) := Lib.hid (by rw [eR0]; exact RA_size _ _ _)
  have oR0 : Hid (R0.all (·.oneCell') = true) := Lib.hid (by rw [eR0]; exact RA_one _ _ _)
  replace eR0 := Lib.hid eR0
  obtain ⟨R1, eR1⟩ : ∃ A, A = RA t (1 : Int) (ini t 1) := ⟨_, rfl⟩
  have zR1 : Hid (R1.size = 16) := Lib.hid (by rw [eR1]; exact RA_size _ _ _)
  have oR1 : Hid (R1.all (·.oneCell') = true) := Lib.hid (by rw [eR1]; exact RA_one _ _ _)
  replace eR1 := Lib.hid eR1
  obtain ⟨T, eT⟩ : ∃ A, A = TA t := ⟨_, rfl⟩
  have zT : Hid (T.size = 11) := Lib.hid (by rw [eT]; rfl)
  have oT : Hid (T.all (·.oneCell') = true) := Lib.hid (by rw [eT]; exact TA_one _)
  replace eT := Lib.hid eT
  obtain ⟨U, eU⟩ : ∃ A : Array Value, A = #[.string ⟨#[]⟩, .int .i64 0, .int .i64 0, .int .i64 0, .int .i64 0, .int .i64 0, .int .i64 0, .int .i64 0, .int .i64 0, .int .i64 0, .int .i64 0] := ⟨_, rfl⟩
  have zU : Hid (U.size = 11) := Lib.hid (by rw [eU]; rfl)
  have hzU : ∀ V : World, (zeroValue 28).run Try.prog V = .ok (.agg U) V := fun V => by rw [eU]; kernel_rfl
  replace eU := Lib.hid eU
  obtain ⟨Y, eY⟩ : ∃ A : Array Value, A = #[.string ⟨#[]⟩, .int .i64 0, .int .i64 0, .int .i64 0, .int .i64 0, .int .i64 0, .int .i64 0, .int .i64 0, .int .i64 0, .int .i64 0, .int .i64 0, .int .i64 0, .int .i64 0, .int .i64 0, .bool false, .int .i64 0] := ⟨_, rfl⟩
  have zY : Hid (Y.size = 16) := Lib.hid (by rw [eY]; rfl)
  have hzY : ∀ V : World, (zeroValue 30).run Try.prog V = .ok (.agg Y) V := fun V => by rw [eY]; kernel_rfl
  replace eY := Lib.hid eY
  obtain ⟨PJ, ePJ⟩ : ∃ P : Array Value, P = #[.int .i64 i, .int .i64 no, .int .i64 rel, .int .i64 (rel + D), .bool false, .bool false, .bool false] := ⟨_, rfl⟩
  have hPJ : Hid (PJ ++ R1 = J) := Lib.hid (by rw [ePJ, eR1.out, eJ.out]; rfl)
  replace ePJ := Lib.hid ePJ
  obtain ⟨pr, hpr⟩ : ∃ p, t.f10 = p := ⟨_, rfl⟩
  replace hpr := Lib.hid hpr
  obtain ⟨KK, eKK⟩ : ∃ A : Array Value, A = #[.int .i64 2, .int .i64 pr, .int .i64 rel, .int .i64 i] := ⟨_, rfl⟩
  replace eKK := Lib.hid eKK
  have hjj : Hid (∀ W : World, (binOp .eql 32 (.agg J) (.agg J)).run Try.prog W = .ok (.bool true) W) := Lib.hid (fun W => eq_job W J _ _ _ _ _ _ _ _ _ _ eJ.out)
  have hjg : Hid (∀ (a b : Operand) (W : World), (eqGuard .eql 32 a b (.agg J) (.agg J)).run Try.prog W = .ok () W) := Lib.hid (fun a b W => run_eqGuard_agg W .eql 32 a b _ _ (by kernel_rfl))
  have hkk : Hid (∀ W : World, (binOp .eql 38 (.agg KK) (.agg #[.int .i64 2, .int .i64 pr, .int .i64 rel, .int .i64 i])).run Try.prog W = .ok (.bool true) W) := Lib.hid (fun W => by rw [eKK.out, key_cmp]; simp)
  have hkg : Hid (∀ (a b : Operand) (W : World), (eqGuard .eql 38 a b (.agg KK) (.agg #[.int .i64 2, .int .i64 pr, .int .i64 rel, .int .i64 i])).run Try.prog W = .ok () W) := Lib.hid (fun a b W => run_eqGuard_agg W .eql 38 a b _ _ (by kernel_rfl))
  have hJ3 : Hid (J[3]? = some (.int .i64 (rel + D))) := Lib.hid (by rw [eJ.out]; exact JJ_at _ _ _ _ _ _ _ _ _ _ 3 (by decide))
  have NJ := Lib.hid (fun (W : World) (hW : Below w.heap.size w W) (A0 : Array Value) (eA0 : A0 = #[.int .i64 B, .slice (some ad) l.length cap]) => new_c (B := B) (cap := cap) (x := d) (n := 1) (must := false) (Kd.C_below hC hW) hi1.out.1 hi1.out.2 hno1.out hr1.out.1 hr1.out.2 (by rw [ht]; exact okt) (by rw [ht]; exact hn.out) A0 J eA0 (by rw [hov'.out, ht, hD]; exact eJ.out))
  have hrow := Lib.hid (fun (W : World) (B0 : Nat) (h0 : w.heap.size = B0) (hW : Below B0 w W) => row_at4 hC h0 hW hi1.out.1 hi1.out.2 T (by rw [ht]; exact eT.out))
  replace ht := Lib.hid ht
  replace okt := Lib.hid okt
  replace ok := Lib.hid ok
  replace hD := Lib.hid hD
  replace hCe := Lib.hid hCe
  obtain ⟨A0, eA0⟩ : ∃ A0 : Array Value, A0 = #[.int .i64 B, .slice (some ad) l.length cap] := ⟨_, rfl⟩
  rw [← eA0]
  have zA0 : Hid (A0.size = 2) := Lib.hid (by rw [eA0]; rfl)
  replace eA0 := Lib.hid eA0
  obtain ⟨B0, hB0⟩ : ∃ B, w.heap.size = B := ⟨_, rfl⟩
  rw [hB0]
  obtain ⟨V0, hV0⟩ : ∃ V, w.alloc (.cells A0 24) = V := ⟨_, rfl⟩
  have Hs : Hid (V0.heap[B0]? = some (.cells A0 24 (0, 0))) := Lib.hid (by rw [← hV0]; exact (box_new hB0).1)
  have HE : Hid (Below B0 w V0) := Lib.hid (by rw [← hV0, ← hB0]; exact (Below.refl _ _).alloc (Nat.le_refl _) _)
  go_enter Try.func3, Try.ntmps3
  go_upto_region 1 with (fail)
  replace hB0 := Lib.hid hB0
  replace hV0 := Lib.hid hV0
  go_wp2_with fail
  refine (aw_c _).mono ?_; rintro e V_242 ⟨rfl, hb_243⟩
  have H_244 : Hid (V_242.heap[B0]? = some (.cells A0 24 (0, 0))) := Lib.hid ((hb_243.block B0 (blk_lt Hs.out)).trans Hs.out)
  have HE_245 : Hid (Below B0 w V_242) := Lib.hid (HE.out.trans (hb_243.mono (sz_le hB0.out HE.out.size)))
  clear HE Hs
  clear hb_243
  go_wp2_with (first | ((with_reducible refine wpl_gate (T := 24) rfl ?_); refine wpl_ld _ _ rfl (by rfl) B0 rfl H_244.out Try.underlying24 rfl (by kernel_rfl) zA0.out ?_))
  refine (few_c hf hC hc hB0.out HE_245.out _ eA0.out).mono ?_; rintro e V_246 ⟨rfl, hb_247⟩
  have H_248 : Hid (V_246.heap[B0]? = some (.cells A0 24 (0, 0))) := Lib.hid ((hb_247.block B0 (blk_lt H_244.out)).trans H_244.out)
  have HE_249 : Hid (Below B0 w V_246) := Lib.hid (HE_245.out.trans (hb_247.mono (sz_le hB0.out HE_245.out.size)))
  clear HE_245 H_244
  clear hb_247
  go_wp2_with (first | ((with_reducible refine wpl_gate (T := 24) rfl ?_); refine wpl_ld _ _ rfl (by rfl) B0 rfl H_248.out Try.underlying24 rfl (by kernel_rfl) zA0.out ?_))
  refine (right_c hr hC hc hB0.out HE_249.out _ eA0.out).mono ?_; rintro e V_250 ⟨rfl, hb_251⟩
  have H_252 : Hid (V_250.heap[B0]? = some (.cells A0 24 (0, 0))) := Lib.hid ((hb_251.block B0 (blk_lt H_248.out)).trans H_248.out)
  have HE_253 : Hid (Below B0 w V_250) := Lib.hid (HE_249.out.trans (hb_251.mono (sz_le hB0.out HE_249.out.size)))
  clear HE_249 H_248
  clear hb_251
  go_wp2_with (first | ((with_reducible refine wpl_gate (T := 24) rfl ?_); refine wpl_ld _ _ rfl (by rfl) B0 rfl H_252.out Try.underlying24 rfl (by kernel_rfl) zA0.out ?_))
  refine (NJ.out _ (below_to hB0.out HE_253.out) _ eA0.out).mono ?_; rintro e V_254 ⟨rfl, hb_255⟩
  have H_256 : Hid (V_254.heap[B0]? = some (.cells A0 24 (0, 0))) := Lib.hid ((hb_255.block B0 (blk_lt H_252.out)).trans H_252.out)
  have HE_257 : Hid (Below B0 w V_254) := Lib.hid (HE_253.out.trans (hb_255.mono (sz_le hB0.out HE_253.out.size)))
  clear HE_253 H_252
  clear hb_255
  obtain ⟨X_258, hX_260⟩ : ∃ X, V_254.heap.size = X := ⟨_, rfl⟩
  obtain ⟨V_259, q_261_0, q_261_1, q_261_2, q_261_3⟩ := st_new (w := V_254) (T := 32) hX_260 zZ.out zJ.out oJ.out
  have ne_263 : B0 < X_258 := hX_260 ▸ blk_lt H_256.out
  have H_262 : Hid (V_259.heap[B0]? = some (.cells A0 24 (0, 0))) := Lib.hid ((q_261_2 _ ne_263).trans H_256.out)
  have ge_264 : B0 ≤ X_258 := hX_260 ▸ (sz_le hB0.out HE_257.out.size)
  have HE_265 : Hid (Below B0 w V_259) := Lib.hid (q_261_3 _ _ ge_264 HE_257.out)
  have H_266 := Lib.hid q_261_1
  clear q_261_1 q_261_2 q_261_3
  go_upto_region 4 with (fail)
  clear q_261_0 hX_260
  clear HE_257 H_256
  have c_267 : V_259.cell? ⟨B0, 1, none⟩ = some (.slice (some ad) l.length cap) := by rw [blk_cell H_262.out, eA0.out]; rfl
  go_upto_region 6 with (fail)
  obtain ⟨X_268, hX_270⟩ : ∃ X, V_259.heap.size = X := ⟨_, rfl⟩
  obtain ⟨V_269, q_271_0, q_271_1, q_271_2, q_271_3⟩ := st_new (w := V_259) (T := 28) hX_270 zU.out zT.out oT.out
  have ne_273 : B0 < X_268 := hX_270 ▸ blk_lt H_262.out
  have H_272 : Hid (V_269.heap[B0]? = some (.cells A0 24 (0, 0))) := Lib.hid ((q_271_2 _ ne_273).trans H_262.out)
  have ne_275 : X_258 < X_268 := hX_270 ▸ blk_lt H_266.out
  have H_274 : Hid (V_269.heap[X_258]? = some (.cells J 32 (0, 0))) := Lib.hid ((q_271_2 _ ne_275).trans H_266.out)
  have ge_276 : B0 ≤ X_268 := hX_270 ▸ (sz_le hB0.out HE_265.out.size)
  have HE_277 : Hid (Below B0 w V_269) := Lib.hid (q_271_3 _ _ ge_276 HE_265.out)
  have H_278 := Lib.hid q_271_1
  clear q_271_1 q_271_2 q_271_3
  go_upto_region 7 with (first | ((with_reducible refine wpl_gate (T := 28) rfl ?_); refine wpl_ldr _ _ rfl (by rfl) (ad.add (i.toNat * 11)) rfl (hrow.out _ _ hB0.out HE_265.out) Try.underlying28 rfl (by kernel_rfl) zT.out ?_))
  clear q_271_0 hX_270
  clear c_267
  clear HE_265 H_262 H_266
  have c_279 : V_269.cell? ⟨X_268, 3, none⟩ = some (.int .i64 C) := by rw [blk_cell H_278.out, eT.out, ← hCe.out]; rfl
  go_upto_region 12 with (fail)
  clear c_279
  obtain ⟨X_280, hX_282⟩ : ∃ X, V_269.heap.size = X := ⟨_, rfl⟩
  obtain ⟨V_281, q_283_0, q_283_1, q_283_2, q_283_3⟩ := st_new (w := V_269) (T := 30) hX_282 zY.out zR0.out oR0.out
  have ne_285 : B0 < X_280 := hX_282 ▸ blk_lt H_272.out
  have H_284 : Hid (V_281.heap[B0]? = some (.cells A0 24 (0, 0))) := Lib.hid ((q_283_2 _ ne_285).trans H_272.out)
  have ne_287 : X_258 < X_280 := hX_282 ▸ blk_lt H_274.out
  have H_286 : Hid (V_281.heap[X_258]? = some (.cells J 32 (0, 0))) := Lib.hid ((q_283_2 _ ne_287).trans H_274.out)
  have ne_289 : X_268 < X_280 := hX_282 ▸ blk_lt H_278.out
  have H_288 : Hid (V_281.heap[X_268]? = some (.cells T 28 (0, 0))) := Lib.hid ((q_283_2 _ ne_289).trans H_278.out)
  have ge_290 : B0 ≤ X_280 := hX_282 ▸ (sz_le hB0.out HE_277.out.size)
  have HE_291 : Hid (Below B0 w V_281) := Lib.hid (q_283_3 _ _ ge_290 HE_277.out)
  have H_292 := Lib.hid q_283_1
  clear q_283_1 q_283_2 q_283_3
  go_upto_region 13 with (first | ((with_reducible refine wpl_gate (T := 28) rfl ?_); refine wpl_ld _ _ rfl (by rfl) X_268 rfl H_278.out Try.underlying28 rfl (by kernel_rfl) zT.out ?_) | ((with_reducible refine wpl_gateb (T := 30) rfl ?_); refine wpl_bld 30 _ rfl (by rfl) (run_built t 1 T eT.out (by simp [go_sem]) eR0.out) ?_))
  clear q_283_0 hX_282
  clear HE_277 H_272 H_274 H_278
  go_wp2_with (first | ((with_reducible refine wpl_gate (T := 30) rfl ?_); refine wpl_ld _ _ rfl (by rfl) X_280 rfl H_292.out Try.underlying30 rfl (by kernel_rfl) zR0.out ?_))
  refine (length_c _ t 1 ⟨0, 0, false, 0⟩ _ eR0.out okt.out hv1.out hv2.out (.inr (len_pos okt.out hv1.out)) (rd (pt t 1) (0 : Nat)) (by unfold lenv; rw [if_neg (fun h => by cases h.2)])).mono ?_; rintro e V_293 ⟨rfl, hb_294⟩
  have H_295 : Hid (V_293.heap[B0]? = some (.cells A0 24 (0, 0))) := Lib.hid ((hb_294.block B0 (blk_lt H_284.out)).trans H_284.out)
  have H_296 : Hid (V_293.heap[X_258]? = some (.cells J 32 (0, 0))) := Lib.hid ((hb_294.block X_258 (blk_lt H_286.out)).trans H_286.out)
  have H_297 : Hid (V_293.heap[X_268]? = some (.cells T 28 (0, 0))) := Lib.hid ((hb_294.block X_268 (blk_lt H_288.out)).trans H_288.out)
  have H_298 : Hid (V_293.heap[X_280]? = some (.cells R0 30 (0, 0))) := Lib.hid ((hb_294.block X_280 (blk_lt H_292.out)).trans H_292.out)
  have HE_299 : Hid (Below B0 w V_293) := Lib.hid (HE_291.out.trans (hb_294.mono (sz_le hB0.out HE_291.out.size)))
  clear HE_291 H_284 H_286 H_288 H_292
  clear hb_294
  have cp_301 : V_293.cell? ⟨X_280, 13, none⟩ = some (.int .i64 0) := by rw [blk_cell H_298.out]; exact (by rw [eR0.out]; simp [RA, TA])
  have zp_302 : V_293.frozen? ⟨X_280, 13, none⟩ = false := blk_frozen H_298.out 13
  go_upto_region 14 with (fail)
  have H_303 : Hid ((V_293.setCell ⟨X_280, 13, none⟩ (.int .i64 (rd (pt t 1) ((0 : Nat) : Int)))).heap[B0]? = some (.cells A0 24 (0, 0))) := Lib.hid (blk_far H_295.out (Nat.ne_of_lt ne_285) _)
  have H_304 : Hid ((V_293.setCell ⟨X_280, 13, none⟩ (.int .i64 (rd (pt t 1) ((0 : Nat) : Int)))).heap[X_258]? = some (.cells J 32 (0, 0))) := Lib.hid (blk_far H_296.out (Nat.ne_of_lt ne_287) _)
  have H_305 : Hid ((V_293.setCell ⟨X_280, 13, none⟩ (.int .i64 (rd (pt t 1) ((0 : Nat) : Int)))).heap[X_268]? = some (.cells T 28 (0, 0))) := Lib.hid (blk_far H_297.out (Nat.ne_of_lt ne_289) _)
  have H_306 : Hid ((V_293.setCell ⟨X_280, 13, none⟩ (.int .i64 (rd (pt t 1) ((0 : Nat) : Int)))).heap[X_280]? = some (.cells R1 30 (0, 0))) := Lib.hid (blk_put H_298.out 13 _ (by rw [eR0.out, eR1.out]; simp [RA, TA, ini]))
  have HE_307 : Hid (Below B0 w (V_293.setCell ⟨X_280, 13, none⟩ (.int .i64 (rd (pt t 1) ((0 : Nat) : Int))))) := Lib.hid (HE_299.out.setCell (p := ⟨X_280, 13, none⟩) ge_290 _)
  clear cp_301 zp_302
  generalize (V_293.setCell ⟨X_280, 13, none⟩ (.int .i64 (rd (pt t 1) ((0 : Nat) : Int)))) = V_300 at H_303 H_304 H_305 H_306 HE_307 ⊢
  clear HE_299 H_295 H_296 H_297 H_298
  have c_308 : V_300.cell? ⟨X_268, 2, none⟩ = some (.int .i64 D) := by rw [blk_cell H_305.out, eT.out, ← hD.out]; rfl
  have c_309 : V_300.cell? ⟨X_268, 3, none⟩ = some (.int .i64 C) := by rw [blk_cell H_305.out, eT.out, ← hCe.out]; rfl
  obtain ⟨X_310, hX_312⟩ : ∃ X, V_300.heap.size = X := ⟨_, rfl⟩
  obtain ⟨V_311, q_313_0, q_313_1, q_313_2, q_313_3⟩ := st_new (w := V_300) (T := 32) hX_312 zZ.out zJ.out oJ.out
  have ne_315 : B0 < X_310 := hX_312 ▸ blk_lt H_303.out
  have H_314 : Hid (V_311.heap[B0]? = some (.cells A0 24 (0, 0))) := Lib.hid ((q_313_2 _ ne_315).trans H_303.out)
  have ne_317 : X_258 < X_310 := hX_312 ▸ blk_lt H_304.out
  have H_316 : Hid (V_311.heap[X_258]? = some (.cells J 32 (0, 0))) := Lib.hid ((q_313_2 _ ne_317).trans H_304.out)
  have ne_319 : X_268 < X_310 := hX_312 ▸ blk_lt H_305.out
  have H_318 : Hid (V_311.heap[X_268]? = some (.cells T 28 (0, 0))) := Lib.hid ((q_313_2 _ ne_319).trans H_305.out)
  have ne_321 : X_280 < X_310 := hX_312 ▸ blk_lt H_306.out
  have H_320 : Hid (V_311.heap[X_280]? = some (.cells R1 30 (0, 0))) := Lib.hid ((q_313_2 _ ne_321).trans H_306.out)
  have ge_322 : B0 ≤ X_310 := hX_312 ▸ (sz_le hB0.out HE_307.out.size)
  have HE_323 : Hid (Below B0 w V_311) := Lib.hid (q_313_3 _ _ ge_322 HE_307.out)
  have H_324 := Lib.hid q_313_1
  clear q_313_1 q_313_2 q_313_3
  go_upto_region 15 with (first | ((with_reducible refine wpl_gate (T := 30) rfl ?_); refine wpl_ld _ _ rfl (by rfl) X_280 rfl H_306.out Try.underlying30 rfl (by kernel_rfl) zR1.out ?_) | ((with_reducible refine wpl_gateb (T := 32) rfl ?_); refine wpl_bld 32 _ rfl (by rfl) (job_built i no rel (rel + D) false false R1 zR1.out ePJ.out hPJ.out (by simp [go_sem, hw])) ?_))
  clear q_313_0 hX_312
  clear c_308 c_309
  clear HE_307 H_303 H_304 H_305 H_306
  go_upto_region 18 with (fail)
  have hwi : IntKind.i64.wrap (rel + D) = rel + D := by rw [i64_w]; exact hw
  have hwi' : IntKind.i64.wrap (rel + D - 1) = rel + D - 1 := by rw [i64_w]; exact hw'
  have hjj' := hjj.out
  have hjg' := hjg.out
  have hkk' := hkk.out
  have hkg' := hkg.out
  refine start_ (n := 37) (S := fun w' => w'.heap[X_258]? = some (.cells J 32 (0, 0)) ∧ w'.heap[X_310]? = some (.cells J 32 (0, 0)) ∧ w'.cell? ⟨X_268, 10, none⟩ = some (.int .i64 pr) ∧ w'.cell? ⟨X_268, 2, none⟩ = some (.int .i64 D)) (ds := []) #[false, false, false, false, false, false, false, false, false, false, false, false, false, false, false, false, false, false, false, false, false, false, false, false, false, false, false, false, false, false, false, false, false, false, false, false, false] (by kernel_rfl) rfl rfl ⟨H_316.out, H_324.out, (blk_cell H_318.out 10).trans (by rw [eT.out, ← hpr.out]; rfl), (blk_cell H_318.out 2).trans (by rw [eT.out, ← hD.out]; rfl)⟩ (fun hHeld => ?_)
  refine pure_ (i := 0) (N := (some 107)) (v := ?_) (a' := ?_) #[true, false, false, false, false, false, false, false, false, false, false, false, false, false, false, false, false, false, false, false, false, false, false, false, false, false, false, false, false, false, false, false, false, false, false, false, false] rfl rfl (by kernel_rfl) (fun _ _ _ h => h) (Or.inl ⟨by rfl, ?_⟩) ?_ ?_
  rotate_left
  · intro w'
    go_simp
    with_reducible rfl
  rotate_left
  · simp only [Act.put, List.setIfInBounds_toArray, List.set_cons_zero, List.set_cons_succ, i64_w, i32_w]
    rfl
  refine pure_ (i := 1) (N := (some 108)) (v := ?_) (a' := ?_) #[true, true, false, false, false, false, false, false, false, false, false, false, false, false, false, false, false, false, false, false, false, false, false, false, false, false, false, false, false, false, false, false, false, false, false, false, false] rfl rfl (by kernel_rfl) (fun _ _ _ h => h) (Or.inl ⟨by rfl, ?_⟩) ?_ ?_
  rotate_left
  · intro w'
    go_simp
    with_reducible rfl
  rotate_left
  · simp only [Act.put, List.setIfInBounds_toArray, List.set_cons_zero, List.set_cons_succ, i64_w, i32_w]
    rfl
  refine pure_ (i := 2) (N := (some 109)) (v := ?_) (a' := ?_) #[true, true, true, false, false, false, false, false, false, false, false, false, false, false, false, false, false, false, false, false, false, false, false, false, false, false, false, false, false, false, false, false, false, false, false, false, false] rfl rfl (by kernel_rfl) (fun _ _ _ h => h) (Or.inl ⟨by rfl, ?_⟩) ?_ ?_
  rotate_left
  · intro w'
    go_simp
    with_reducible rfl
  rotate_left
  · simp only [Act.put, List.setIfInBounds_toArray, List.set_cons_zero, List.set_cons_succ, i64_w, i32_w]
    rfl
  refine take_ (i := 3) (N := (some 110)) (v := .agg J) (a' := ?_) #[true, true, true, true, false, false, false, false, false, false, false, false, false, false, false, false, false, false, false, false, false, false, false, false, false, false, false, false, false, false, false, false, false, false, false, false, false] rfl rfl (by kernel_rfl) (fun _ _ _ h => h) (Or.inl ⟨by rfl, ?_⟩) hHeld ?_ ?_
  · rintro w' ⟨s0, s1, s2, s3⟩
    exact ld_op 32 _ rfl X_258 rfl s0 Try.underlying32 rfl (by kernel_rfl) zJ.out
  rotate_left
  · simp only [Act.put, List.setIfInBounds_toArray, List.set_cons_zero, List.set_cons_succ, i64_w, i32_w]
    rfl
  refine take_ (i := 4) (N := (some 111)) (v := .agg J) (a' := ?_) #[true, true, true, true, true, false, false, false, false, false, false, false, false, false, false, false, false, false, false, false, false, false, false, false, false, false, false, false, false, false, false, false, false, false, false, false, false] rfl rfl (by kernel_rfl) (fun _ _ _ h => h) (Or.inl ⟨by rfl, ?_⟩) hHeld ?_ ?_
  · rintro w' ⟨s0, s1, s2, s3⟩
    exact ld_op 32 _ rfl X_310 rfl s1 Try.underlying32 rfl (by kernel_rfl) zJ.out
  rotate_left
  · simp only [Act.put, List.setIfInBounds_toArray, List.set_cons_zero, List.set_cons_succ, i64_w, i32_w]
    rfl
  refine pure_ (i := 5) (N := (some 112)) (v := ?_) (a' := ?_) #[true, true, true, true, true, true, false, false, false, false, false, false, false, false, false, false, false, false, false, false, false, false, false, false, false, false, false, false, false, false, false, false, false, false, false, false, false] rfl rfl (by kernel_rfl) (fun _ _ _ h => h) (Or.inl ⟨by rfl, ?_⟩) ?_ ?_
  rotate_left
  · intro w'
    go_simp
    with_reducible rfl
  rotate_left
  · simp only [Act.put, List.setIfInBounds_toArray, List.set_cons_zero, List.set_cons_succ, i64_w, i32_w]
    rfl
  refine pure_ (i := 6) (N := (some 113)) (v := ?_) (a' := ?_) #[true, true, true, true, true, true, true, false, false, false, false, false, false, false, false, false, false, false, false, false, false, false, false, false, false, false, false, false, false, false, false, false, false, false, false, false, false] rfl rfl (by kernel_rfl) (fun _ _ _ h => h) (Or.inl ⟨by rfl, ?_⟩) ?_ ?_
  rotate_left
  · intro w'
    go_simp
    with_reducible rfl
  rotate_left
  · simp only [Act.put, List.setIfInBounds_toArray, List.set_cons_zero, List.set_cons_succ, i64_w, i32_w]
    rfl
  refine pure_ (i := 7) (N := (some 114)) (v := ?_) (a' := ?_) #[true, true, true, true, true, true, true, true, false, false, false, false, false, false, false, false, false, false, false, false, false, false, false, false, false, false, false, false, false, false, false, false, false, false, false, false, false] rfl rfl (by kernel_rfl) (fun _ _ _ h => h) (Or.inl ⟨by rfl, ?_⟩) ?_ ?_
  rotate_left
  · intro w'
    go_simp
    with_reducible rfl
  rotate_left
  · simp only [Act.put, List.setIfInBounds_toArray, List.set_cons_zero, List.set_cons_succ, i64_w, i32_w]
    rfl
  refine take_ (i := 8) (N := (some 115)) (v := .agg J) (a' := ?_) #[true, true, true, true, true, true, true, true, true, false, false, false, false, false, false, false, false, false, false, false, false, false, false, false, false, false, false, false, false, false, false, false, false, false, false, false, false] rfl rfl (by kernel_rfl) (fun _ _ _ h => h) (Or.inl ⟨by rfl, ?_⟩) hHeld ?_ ?_
  · rintro w' ⟨s0, s1, s2, s3⟩
    exact ld_op 32 _ rfl X_258 rfl s0 Try.underlying32 rfl (by kernel_rfl) zJ.out
  rotate_left
  · simp only [Act.put, List.setIfInBounds_toArray, List.set_cons_zero, List.set_cons_succ, i64_w, i32_w]
    rfl
  refine pure_ (i := 10) (N := (some 117)) (v := ?_) (a' := ?_) #[true, true, true, true, true, true, true, true, true, false, true, false, false, false, false, false, false, false, false, false, false, false, false, false, false, false, false, false, false, false, false, false, false, false, false, false, false] rfl rfl (by kernel_rfl) (fun _ _ _ h => h) (Or.inl ⟨by rfl, ?_⟩) ?_ ?_
  rotate_left
  · intro w'
    go_simp
    with_reducible rfl
  rotate_left
  · simp only [Act.put, List.setIfInBounds_toArray, List.set_cons_zero, List.set_cons_succ, i64_w, i32_w]
    rfl
  refine pure_ (i := 11) (N := (some 118)) (v := ?_) (a' := ?_) #[true, true, true, true, true, true, true, true, true, false, true, true, false, false, false, false, false, false, false, false, false, false, false, false, false, false, false, false, false, false, false, false, false, false, false, false, false] rfl rfl (by kernel_rfl) (fun _ _ _ h => h) (Or.inl ⟨by rfl, ?_⟩) ?_ ?_
  rotate_left
  · intro w'
    go_simp
    with_reducible rfl
  rotate_left
  · simp only [Act.put, List.setIfInBounds_toArray, List.set_cons_zero, List.set_cons_succ, i64_w, i32_w]
    rfl
  refine take_ (i := 12) (N := (some 119)) (v := ?_) (a' := ?_) #[true, true, true, true, true, true, true, true, true, false, true, true, true, false, false, false, false, false, false, false, false, false, false, false, false, false, false, false, false, false, false, false, false, false, false, false, false] rfl rfl (by kernel_rfl) (fun _ _ _ h => h) (Or.inl ⟨by rfl, ?_⟩) hHeld ?_ ?_
  rotate_left
  · rintro w' ⟨s0, s1, s2, s3⟩
    go_simp
    with_reducible rfl
  rotate_left
  · simp only [Act.put, List.setIfInBounds_toArray, List.set_cons_zero, List.set_cons_succ, i64_w, i32_w]
    rfl
  refine pure_ (i := 13) (N := (some 120)) (v := ?_) (a' := ?_) #[true, true, true, true, true, true, true, true, true, false, true, true, true, true, false, false, false, false, false, false, false, false, false, false, false, false, false, false, false, false, false, false, false, false, false, false, false] rfl rfl (by kernel_rfl) (fun _ _ _ h => h) (Or.inl ⟨by rfl, ?_⟩) ?_ ?_
  rotate_left
  · intro w'
    go_simp
    with_reducible rfl
  rotate_left
  · simp only [Act.put, List.setIfInBounds_toArray, List.set_cons_zero, List.set_cons_succ, i64_w, i32_w]
    rfl
  refine pure_ (i := 14) (N := (some 121)) (v := ?_) (a' := ?_) #[true, true, true, true, true, true, true, true, true, false, true, true, true, true, true, false, false, false, false, false, false, false, false, false, false, false, false, false, false, false, false, false, false, false, false, false, false] rfl rfl (by kernel_rfl) (fun _ _ _ h => h) (Or.inl ⟨by rfl, ?_⟩) ?_ ?_
  rotate_left
  · intro w'
    go_simp
    with_reducible rfl
  rotate_left
  · simp only [Act.put, List.setIfInBounds_toArray, List.set_cons_zero, List.set_cons_succ, i64_w, i32_w]
    rfl
  refine pure_ (i := 15) (N := (some 122)) (v := ?_) (a' := ?_) #[true, true, true, true, true, true, true, true, true, false, true, true, true, true, true, true, false, false, false, false, false, false, false, false, false, false, false, false, false, false, false, false, false, false, false, false, false] rfl rfl (by kernel_rfl) (fun _ _ _ h => h) (Or.inl ⟨by rfl, ?_⟩) ?_ ?_
  rotate_left
  · intro w'
    go_simp
    with_reducible rfl
  rotate_left
  · simp only [Act.put, List.setIfInBounds_toArray, List.set_cons_zero, List.set_cons_succ, i64_w, i32_w]
    rfl
  refine one_ (i := 9) (N := (some 116)) #[true, true, true, true, true, true, true, true, true, true, true, true, true, true, true, true, false, false, false, false, false, false, false, false, false, false, false, false, false, false, false, false, false, false, false, false, false] rfl rfl (by kernel_rfl) (by decide) (fun K hK => ?_)
  refine goes_ Try.func13 (by kernel_rfl) rfl #[.agg J] (by rfl) rfl rfl (by (try simp only [List.map_toArray, List.map_cons, List.map_nil]); first | done | rfl) ?_
  refine (keyj_c _ _ KK _ _ _ _ _ _ _ _ _ _ eJ.out (by rw [eKK.out, bnd_ini, hpr.out]; rfl)).mono ?_
  rintro e Va ⟨rfl, hb4⟩
  have Hja := Lib.hid ((hb4.block X_258 (blk_lt H_316.out)).trans H_316.out)
  have Hva := Lib.hid ((hb4.block X_310 (blk_lt H_324.out)).trans H_324.out)
  have Hta := Lib.hid ((hb4.block X_268 (blk_lt H_318.out)).trans H_318.out)
  have HEa := Lib.hid ((HE_323.out.drew).trans (hb4.mono (sz_le hB0.out HE_323.out.size)))
  refine ⟨_, rfl, ?_⟩
  refine hK.out _ _ ⟨Hja.out, Hva.out, (blk_cell Hta.out 10).trans (by rw [eT.out, ← hpr.out]; rfl), (blk_cell Hta.out 2).trans (by rw [eT.out, ← hD.out]; rfl)⟩ (fun hHeld => ?_)
  clear hb4 H_316 H_324 H_318 HE_323
  clear hK K
  refine norm_ (a' := ?_) ?_ ?_
  rotate_left
  · show Act.put _ (some 116) _ = _
    simp only [Act.put, List.setIfInBounds_toArray, List.set_cons_zero, List.set_cons_succ, i64_w, i32_w]
    rfl
  refine pure_ (i := 16) (N := (some 123)) (v := ?_) (a' := ?_) #[true, true, true, true, true, true, true, true, true, true, true, true, true, true, true, true, true, false, false, false, false, false, false, false, false, false, false, false, false, false, false, false, false, false, false, false, false] rfl rfl (by kernel_rfl) (fun _ _ _ h => h) (Or.inl ⟨by rfl, ?_⟩) ?_ ?_
  rotate_left
  · intro w'
    go_simp
    with_reducible rfl
  rotate_left
  · simp only [Act.put, List.setIfInBounds_toArray, List.set_cons_zero, List.set_cons_succ, i64_w, i32_w]
    rfl
  refine pure_ (i := 17) (N := (some 124)) (v := ?_) (a' := ?_) #[true, true, true, true, true, true, true, true, true, true, true, true, true, true, true, true, true, true, false, false, false, false, false, false, false, false, false, false, false, false, false, false, false, false, false, false, false] rfl rfl (by kernel_rfl) (fun _ _ _ h => h) (Or.inl ⟨by rfl, ?_⟩) ?_ ?_
  rotate_left
  · intro w'
    go_simp
    with_reducible rfl
  rotate_left
  · simp only [Act.put, List.setIfInBounds_toArray, List.set_cons_zero, List.set_cons_succ, i64_w, i32_w]
    rfl
  refine pure_ (i := 18) (N := (some 125)) (v := ?_) (a' := ?_) #[true, true, true, true, true, true, true, true, true, true, true, true, true, true, true, true, true, true, true, false, false, false, false, false, false, false, false, false, false, false, false, false, false, false, false, false, false] rfl rfl (by kernel_rfl) (fun _ _ _ h => h) (Or.inl ⟨by rfl, ?_⟩) ?_ ?_
  rotate_left
  · intro w'
    go_simp
    with_reducible rfl
  rotate_left
  · simp only [Act.put, List.setIfInBounds_toArray, List.set_cons_zero, List.set_cons_succ, i64_w, i32_w]
    rfl
  refine take_ (i := 19) (N := (some 126)) (v := .agg J) (a' := ?_) #[true, true, true, true, true, true, true, true, true, true, true, true, true, true, true, true, true, true, true, true, false, false, false, false, false, false, false, false, false, false, false, false, false, false, false, false, false] rfl rfl (by kernel_rfl) (fun _ _ _ h => h) (Or.inl ⟨by rfl, ?_⟩) hHeld ?_ ?_
  · rintro w' ⟨s0, s1, s2, s3⟩
    exact ld_op 32 _ rfl X_258 rfl s0 Try.underlying32 rfl (by kernel_rfl) zJ.out
  rotate_left
  · simp only [Act.put, List.setIfInBounds_toArray, List.set_cons_zero, List.set_cons_succ, i64_w, i32_w]
    rfl
  refine pure_ (i := 20) (N := (some 127)) (v := ?_) (a' := ?_) #[true, true, true, true, true, true, true, true, true, true, true, true, true, true, true, true, true, true, true, true, true, false, false, false, false, false, false, false, false, false, false, false, false, false, false, false, false] rfl rfl (by kernel_rfl) (fun _ _ _ h => h) (Or.inl ⟨by rfl, ?_⟩) ?_ ?_
  rotate_left
  · intro w'
    go_simp
    with_reducible rfl
  rotate_left
  · simp only [Act.put, List.setIfInBounds_toArray, List.set_cons_zero, List.set_cons_succ, i64_w, i32_w]
    rfl
  refine pure_ (i := 21) (N := (some 128)) (v := ?_) (a' := ?_) #[true, true, true, true, true, true, true, true, true, true, true, true, true, true, true, true, true, true, true, true, true, true, false, false, false, false, false, false, false, false, false, false, false, false, false, false, false] rfl rfl (by kernel_rfl) (fun _ _ _ h => h) (Or.inl ⟨by rfl, ?_⟩) ?_ ?_
  rotate_left
  · intro w'
    go_simp
    with_reducible rfl
  rotate_left
  · simp only [Act.put, List.setIfInBounds_toArray, List.set_cons_zero, List.set_cons_succ, i64_w, i32_w]
    rfl
  refine take_ (i := 22) (N := (some 129)) (v := ?_) (a' := ?_) #[true, true, true, true, true, true, true, true, true, true, true, true, true, true, true, true, true, true, true, true, true, true, true, false, false, false, false, false, false, false, false, false, false, false, false, false, false] rfl rfl (by kernel_rfl) (fun _ _ _ h => h) (Or.inl ⟨by rfl, ?_⟩) hHeld ?_ ?_
  rotate_left
  · rintro w' ⟨s0, s1, s2, s3⟩
    go_simp
    with_reducible rfl
  rotate_left
  · simp only [Act.put, List.setIfInBounds_toArray, List.set_cons_zero, List.set_cons_succ, i64_w, i32_w]
    rfl
  refine pure_ (i := 23) (N := (some 130)) (v := ?_) (a' := ?_) #[true, true, true, true, true, true, true, true, true, true, true, true, true, true, true, true, true, true, true, true, true, true, true, true, false, false, false, false, false, false, false, false, false, false, false, false, false] rfl rfl (by kernel_rfl) (fun _ _ _ h => h) (Or.inl ⟨by rfl, ?_⟩) ?_ ?_
  rotate_left
  · intro w'
    go_simp
    with_reducible rfl
  rotate_left
  · simp only [Act.put, List.setIfInBounds_toArray, List.set_cons_zero, List.set_cons_succ, i64_w, i32_w]
    rfl
  refine one_ (i := 24) (N := (some 131)) #[true, true, true, true, true, true, true, true, true, true, true, true, true, true, true, true, true, true, true, true, true, true, true, true, true, false, false, false, false, false, false, false, false, false, false, false, false] rfl rfl (by kernel_rfl) (by decide) (fun K hK => ?_)
  refine goes_ Try.func14 (by kernel_rfl) rfl #[.agg J, .int .i64 (rel + D)] (by rfl) rfl rfl (by (try simp only [List.map_toArray, List.map_cons, List.map_nil]); first | done | rfl) ?_
  refine (late_b _ _ (rel + D) (rel + D) true hJ3.out (by simp)).mono ?_
  rintro e Vb ⟨rfl, hb4⟩
  have Hjb := Lib.hid ((hb4.block X_258 (blk_lt Hja.out)).trans Hja.out)
  have Hvb := Lib.hid ((hb4.block X_310 (blk_lt Hva.out)).trans Hva.out)
  have Htb := Lib.hid ((hb4.block X_268 (blk_lt Hta.out)).trans Hta.out)
  have HEb := Lib.hid ((HEa.out).trans (hb4.mono (sz_le hB0.out HEa.out.size)))
  refine ⟨_, rfl, ?_⟩
  refine hK.out _ _ ⟨Hjb.out, Hvb.out, (blk_cell Htb.out 10).trans (by rw [eT.out, ← hpr.out]; rfl), (blk_cell Htb.out 2).trans (by rw [eT.out, ← hD.out]; rfl)⟩ (fun hHeld => ?_)
  clear hb4 Hja Hva Hta HEa
  clear hK K
  refine norm_ (a' := ?_) ?_ ?_
  rotate_left
  · show Act.put _ (some 131) _ = _
    simp only [Act.put, List.setIfInBounds_toArray, List.set_cons_zero, List.set_cons_succ, i64_w, i32_w]
    rfl
  refine pure_ (i := 25) (N := (some 132)) (v := ?_) (a' := ?_) #[true, true, true, true, true, true, true, true, true, true, true, true, true, true, true, true, true, true, true, true, true, true, true, true, true, true, false, false, false, false, false, false, false, false, false, false, false] rfl rfl (by kernel_rfl) (fun _ _ _ h => h) (Or.inl ⟨by rfl, ?_⟩) ?_ ?_
  rotate_left
  · intro w'
    go_simp
    with_reducible rfl
  rotate_left
  · simp only [Act.put, List.setIfInBounds_toArray, List.set_cons_zero, List.set_cons_succ, i64_w, i32_w]
    rfl
  refine pure_ (i := 26) (N := (some 133)) (v := ?_) (a' := ?_) #[true, true, true, true, true, true, true, true, true, true, true, true, true, true, true, true, true, true, true, true, true, true, true, true, true, true, true, false, false, false, false, false, false, false, false, false, false] rfl rfl (by kernel_rfl) (fun _ _ _ h => h) (Or.inl ⟨by rfl, ?_⟩) ?_ ?_
  rotate_left
  · intro w'
    go_simp
    with_reducible rfl
  rotate_left
  · simp only [Act.put, List.setIfInBounds_toArray, List.set_cons_zero, List.set_cons_succ, i64_w, i32_w]
    rfl
  refine take_ (i := 27) (N := (some 134)) (v := .agg J) (a' := ?_) #[true, true, true, true, true, true, true, true, true, true, true, true, true, true, true, true, true, true, true, true, true, true, true, true, true, true, true, true, false, false, false, false, false, false, false, false, false] rfl rfl (by kernel_rfl) (fun _ _ _ h => h) (Or.inl ⟨by rfl, ?_⟩) hHeld ?_ ?_
  · rintro w' ⟨s0, s1, s2, s3⟩
    exact ld_op 32 _ rfl X_258 rfl s0 Try.underlying32 rfl (by kernel_rfl) zJ.out
  rotate_left
  · simp only [Act.put, List.setIfInBounds_toArray, List.set_cons_zero, List.set_cons_succ, i64_w, i32_w]
    rfl
  refine pure_ (i := 28) (N := (some 135)) (v := ?_) (a' := ?_) #[true, true, true, true, true, true, true, true, true, true, true, true, true, true, true, true, true, true, true, true, true, true, true, true, true, true, true, true, true, false, false, false, false, false, false, false, false] rfl rfl (by kernel_rfl) (fun _ _ _ h => h) (Or.inl ⟨by rfl, ?_⟩) ?_ ?_
  rotate_left
  · intro w'
    go_simp
    with_reducible rfl
  rotate_left
  · simp only [Act.put, List.setIfInBounds_toArray, List.set_cons_zero, List.set_cons_succ, i64_w, i32_w]
    rfl
  refine pure_ (i := 29) (N := (some 136)) (v := ?_) (a' := ?_) #[true, true, true, true, true, true, true, true, true, true, true, true, true, true, true, true, true, true, true, true, true, true, true, true, true, true, true, true, true, true, false, false, false, false, false, false, false] rfl rfl (by kernel_rfl) (fun _ _ _ h => h) (Or.inl ⟨by rfl, ?_⟩) ?_ ?_
  rotate_left
  · intro w'
    go_simp
    with_reducible rfl
  rotate_left
  · simp only [Act.put, List.setIfInBounds_toArray, List.set_cons_zero, List.set_cons_succ, i64_w, i32_w]
    rfl
  refine take_ (i := 30) (N := (some 137)) (v := ?_) (a' := ?_) #[true, true, true, true, true, true, true, true, true, true, true, true, true, true, true, true, true, true, true, true, true, true, true, true, true, true, true, true, true, true, true, false, false, false, false, false, false] rfl rfl (by kernel_rfl) (fun _ _ _ h => h) (Or.inl ⟨by rfl, ?_⟩) hHeld ?_ ?_
  rotate_left
  · rintro w' ⟨s0, s1, s2, s3⟩
    go_simp
    with_reducible rfl
  rotate_left
  · simp only [Act.put, List.setIfInBounds_toArray, List.set_cons_zero, List.set_cons_succ, i64_w, i32_w]
    rfl
  refine pure_ (i := 31) (N := (some 138)) (v := ?_) (a' := ?_) #[true, true, true, true, true, true, true, true, true, true, true, true, true, true, true, true, true, true, true, true, true, true, true, true, true, true, true, true, true, true, true, true, false, false, false, false, false] rfl rfl (by kernel_rfl) (fun _ _ _ h => h) (Or.inl ⟨by rfl, ?_⟩) ?_ ?_
  rotate_left
  · intro w'
    go_simp
    with_reducible rfl
  rotate_left
  · simp only [Act.put, List.setIfInBounds_toArray, List.set_cons_zero, List.set_cons_succ, i64_w, i32_w]
    rfl
  refine pure_ (i := 32) (N := (some 139)) (v := ?_) (a' := ?_) #[true, true, true, true, true, true, true, true, true, true, true, true, true, true, true, true, true, true, true, true, true, true, true, true, true, true, true, true, true, true, true, true, true, false, false, false, false] rfl rfl (by kernel_rfl) (fun _ _ _ h => h) (Or.inl ⟨by rfl, ?_⟩) ?_ ?_
  rotate_left
  · intro w'
    go_simp
    with_reducible rfl
  rotate_left
  · simp only [Act.put, List.setIfInBounds_toArray, List.set_cons_zero, List.set_cons_succ, i64_w, i32_w]
    rfl
  refine one_ (i := 33) (N := (some 140)) #[true, true, true, true, true, true, true, true, true, true, true, true, true, true, true, true, true, true, true, true, true, true, true, true, true, true, true, true, true, true, true, true, true, true, false, false, false] rfl rfl (by kernel_rfl) (by decide) (fun K hK => ?_)
  refine goes_ Try.func14 (by kernel_rfl) rfl #[.agg J, .int .i64 (rel + D - 1)] (by rfl) rfl rfl (by (try simp only [List.map_toArray, List.map_cons, List.map_nil]); first | done | rfl) ?_
  refine (late_b _ _ (rel + D) (rel + D - 1) false hJ3.out (by simp; omega)).mono ?_
  rintro e Vc ⟨rfl, hb4⟩
  have Hjc := Lib.hid ((hb4.block X_258 (blk_lt Hjb.out)).trans Hjb.out)
  have Hvc := Lib.hid ((hb4.block X_310 (blk_lt Hvb.out)).trans Hvb.out)
  have Htc := Lib.hid ((hb4.block X_268 (blk_lt Htb.out)).trans Htb.out)
  have HEc := Lib.hid ((HEb.out).trans (hb4.mono (sz_le hB0.out HEb.out.size)))
  refine ⟨_, rfl, ?_⟩
  refine hK.out _ _ ⟨Hjc.out, Hvc.out, (blk_cell Htc.out 10).trans (by rw [eT.out, ← hpr.out]; rfl), (blk_cell Htc.out 2).trans (by rw [eT.out, ← hD.out]; rfl)⟩ (fun hHeld => ?_)
  clear hb4 Hjb Hvb Htb HEb
  clear hK K
  refine norm_ (a' := ?_) ?_ ?_
  rotate_left
  · show Act.put _ (some 140) _ = _
    simp only [Act.put, List.setIfInBounds_toArray, List.set_cons_zero, List.set_cons_succ, i64_w, i32_w]
    rfl
  refine pure_ (i := 34) (N := (some 141)) (v := ?_) (a' := ?_) #[true, true, true, true, true, true, true, true, true, true, true, true, true, true, true, true, true, true, true, true, true, true, true, true, true, true, true, true, true, true, true, true, true, true, true, false, false] rfl rfl (by kernel_rfl) (fun _ _ _ h => h) (Or.inl ⟨by rfl, ?_⟩) ?_ ?_
  rotate_left
  · intro w'
    go_simp
    with_reducible rfl
  rotate_left
  · simp only [Act.put, List.setIfInBounds_toArray, List.set_cons_zero, List.set_cons_succ, i64_w, i32_w]
    rfl
  refine pure_ (i := 35) (N := (some 142)) (v := ?_) (a' := ?_) #[true, true, true, true, true, true, true, true, true, true, true, true, true, true, true, true, true, true, true, true, true, true, true, true, true, true, true, true, true, true, true, true, true, true, true, true, false] rfl rfl (by kernel_rfl) (fun _ _ _ h => h) (Or.inl ⟨by rfl, ?_⟩) ?_ ?_
  rotate_left
  · intro w'
    go_simp
    with_reducible rfl
  rotate_left
  · simp only [Act.put, List.setIfInBounds_toArray, List.set_cons_zero, List.set_cons_succ, i64_w, i32_w]
    rfl
  refine pure_ (i := 36) (N := (some 12)) (v := ?_) (a' := ?_) #[true, true, true, true, true, true, true, true, true, true, true, true, true, true, true, true, true, true, true, true, true, true, true, true, true, true, true, true, true, true, true, true, true, true, true, true, true] rfl rfl (by kernel_rfl) (fun _ _ _ h => h) (Or.inl ⟨by rfl, ?_⟩) ?_ ?_
  rotate_left
  · intro w'
    go_simp
    with_reducible rfl
  rotate_left
  · simp only [Act.put, List.setIfInBounds_toArray, List.set_cons_zero, List.set_cons_succ, i64_w, i32_w]
    rfl
  refine done_ (by kernel_rfl) ?_
  go_wp2
  go_ret
  exact ⟨rfl, by first | exact HEc.out | exact HEc.out.drew | exact pw_below_drewN HEc.out _⟩
set_option maxRecDepth 100000 in
set_option maxHeartbeats 6000000 in
theorem news_mid_false (w : World) (B : Int) (ad : Addr) (l : List S28) (cap : Nat) (hc : l.length ≤ cap) (hC : Kd.C k28 w (some ad) l.length l) (i no rel d C : Int) (hi : 0 ≤ i) (hi2 : i < (l.length : Int)) (hno : 0 ≤ no) (hrel : 0 ≤ rel) (hrel2 : rel ≤ 1099511627776) (hCe : (rd_T28 l i).f3 = C) (hd : ¬ d < 1) (hd2 : ¬ C < d) (hf : Ev (fun k => pendulumref05_Few.f k B l) true) (hr : Ev (fun k => pendulumref05_Right.f k B l) true) (ok : OkS B l) : Calls Try.prog 3 #[.agg #[.int .i64 B, .slice (some ad) l.length cap], .int .i64 i, .int .i64 no, .int .i64 rel, .int .i64 d, .bool false] w fun e w' => e = .returned (.bool true) ∧ Below w.heap.size w w' := by
  have q0 : decide (i < 0) = false := decide_eq_false (by omega)
  have q1 : decide ((l.length : Int) ≤ i) = false := decide_eq_false (by omega)
  have q2 : decide (no < 0) = false := decide_eq_false (by omega)
  have q3 : decide (rel < 0) = false := decide_eq_false (by omega)
  have q4 : decide (1099511627776 < rel) = false := decide_eq_false (by omega)
  have okt := (ok.2.2.2.2 i.toNat (by omega)).1
  rw [show ((i.toNat : Nat) : Int) = i by omega] at okt
  have hnum := okt.nums
  have hC1 : 1 ≤ C := by omega
  have hCx : C ≤ (rd_T28 l i).f3 := by omega
  obtain ⟨t, ht⟩ : ∃ t, rd_T28 l i = t := ⟨_, rfl⟩
  rw [ht] at hnum hCx okt hCe
  obtain ⟨D, hD⟩ : ∃ D, t.f2 = D := ⟨_, rfl⟩
  rw [hD] at hnum
  have hD1 : 1 ≤ D := by omega
  have hw : wrap64 (rel + D) = rel + D := w64 (by omega) (by omega)
  have hw' : wrap64 (rel + D - 1) = rel + D - 1 := w64 (by omega) (by omega)
  have qd : decide (d < 1) = false := decide_eq_false hd
  have qc : decide (C < d) = false := decide_eq_false hd2
  have hn : Hid (mn (mx d 1) t.f3 = d) := Lib.hid (by rw [hCe]; exact mn_mid hd hd2)
  have hv1 : Hid (1 ≤ (d : Int)) := Lib.hid (by omega)
  have hv2 : Hid ((d : Int) ≤ t.f3) := Lib.hid (by omega)
  have qov : decide (C < d) = false := decide_eq_false (by omega)
  have hov' : Hid (decide (d > (rd_T28 l i).f3) = false) := Lib.hid (by rw [ht, hCe]; exact qov)
  have hr1 : Hid (0 ≤ rel ∧ rel ≤ 1099511627776) := Lib.hid ⟨by omega, by omega⟩
  have hi1 : Hid (0 ≤ i ∧ i < (l.length : Int)) := Lib.hid ⟨by omega, by omega⟩
  have hno1 : Hid (0 ≤ no) := Lib.hid (by omega)
  have hii : i < (l.length : Int) := by omega
  have hi0 : 0 ≤ i := by omega
  clear hnum hCx hrel hrel2 hd hd2
  obtain ⟨Z, eZ⟩ : ∃ A : Array Value, A = #[.int .i64 0, .int .i64 0, .int .i64 0, .int .i64 0, .bool false, .bool false, .bool false, .string ⟨#[]⟩, .int .i64 0, .int .i64 0, .int .i64 0, .int .i64 0, .int .i64 0, .int .i64 0, .int .i64 0, .int .i64 0, .int .i64 0, .int .i64 0, .int .i64 0, .int .i64 0, .int .i64 0, .bool false, .int .i64 0] := ⟨_, rfl⟩
  have zZ : Hid (Z.size = 23) := Lib.hid (by rw [eZ]; rfl)
  have hz : ∀ V : World, (zeroValue 32).run Try.prog V = .ok (.agg Z) V := fun V => by rw [eZ]; kernel_rfl
  replace eZ := Lib.hid eZ
  obtain ⟨J, eJ⟩ : ∃ A, A = JP i no rel (rel + D) false false false ++ RA t (d : Int) (ini t d) := ⟨_, rfl⟩
  have zJ : Hid (J.size = 23) := Lib.hid (by rw [eJ]; exact JJ_size _ _ _ _ _ _ _ _ _ _)
  have oJ : Hid (J.all (·.oneCell') = true) := Lib.hid (by rw [eJ]; exact JJ_one _ _ _ _ _ _ _ _ _ _)
  replace eJ := Lib.hid eJ
  obtain ⟨R0, eR0⟩ : ∃ A, A = RA t (d : Int) ⟨0, 0, false, 0⟩ := ⟨_, rfl⟩
  have zR0 : Hid (R0.size = 16) := Lib.hid (by rw [eR0]; exact RA_size _ _ _)
  have oR0 : Hid (R0.all (·.oneCell') = true) := Lib.hid (by rw [eR0]; exact RA_one _ _ _)
  replace eR0 := Lib.hid eR0
  obtain ⟨R1, eR1⟩ : ∃ A, A = RA t (d : Int) (ini t d) := ⟨_, rfl⟩
  have zR1 : Hid (R1.size = 16) := Lib.hid (by rw [eR1]; exact RA_size _ _ _)
  have oR1 : Hid (R1.all (·.oneCell') = true) := Lib.hid (by rw [eR1]; exact RA_one _ _ _)
  replace eR1 := Lib.hid eR1
  obtain ⟨T, eT⟩ : ∃ A, A = TA t := ⟨_, rfl⟩
  have zT : Hid (T.size = 11) := Lib.hid (by rw [eT]; rfl)
  have oT : Hid (T.all (·.oneCell') = true) := Lib.hid (by rw [eT]; exact TA_one _)
  replace eT := Lib.hid eT
  obtain ⟨U, eU⟩ : ∃ A : Array Value, A = #[.string ⟨#[]⟩, .int .i64 0, .int .i64 0, .int .i64 0, .int .i64 0, .int .i64 0, .int .i64 0, .int .i64 0, .int .i64 0, .int .i64 0, .int .i64 0] := ⟨_, rfl⟩
  have zU : Hid (U.size = 11) := Lib.hid (by rw [eU]; rfl)
  have hzU : ∀ V : World, (zeroValue 28).run Try.prog V = .ok (.agg U) V := fun V => by rw [eU]; kernel_rfl
  replace eU := Lib.hid eU
  obtain ⟨Y, eY⟩ : ∃ A : Array Value, A = #[.string ⟨#[]⟩, .int .i64 0, .int .i64 0, .int .i64 0, .int .i64 0, .int .i64 0, .int .i64 0, .int .i64 0, .int .i64 0, .int .i64 0, .int .i64 0, .int .i64 0, .int .i64 0, .int .i64 0, .bool false, .int .i64 0] := ⟨_, rfl⟩
  have zY : Hid (Y.size = 16) := Lib.hid (by rw [eY]; rfl)
  have hzY : ∀ V : World, (zeroValue 30).run Try.prog V = .ok (.agg Y) V := fun V => by rw [eY]; kernel_rfl
  replace eY := Lib.hid eY
  obtain ⟨PJ, ePJ⟩ : ∃ P : Array Value, P = #[.int .i64 i, .int .i64 no, .int .i64 rel, .int .i64 (rel + D), .bool false, .bool false, .bool false] := ⟨_, rfl⟩
  have hPJ : Hid (PJ ++ R1 = J) := Lib.hid (by rw [ePJ, eR1.out, eJ.out]; rfl)
  replace ePJ := Lib.hid ePJ
  obtain ⟨pr, hpr⟩ : ∃ p, t.f10 = p := ⟨_, rfl⟩
  replace hpr := Lib.hid hpr
  obtain ⟨KK, eKK⟩ : ∃ A : Array Value, A = #[.int .i64 2, .int .i64 pr, .int .i64 rel, .int .i64 i] := ⟨_, rfl⟩
  replace eKK := Lib.hid eKK
  have hjj : Hid (∀ W : World, (binOp .eql 32 (.agg J) (.agg J)).run Try.prog W = .ok (.bool true) W) := Lib.hid (fun W => eq_job W J _ _ _ _ _ _ _ _ _ _ eJ.out)
  have hjg : Hid (∀ (a b : Operand) (W : World), (eqGuard .eql 32 a b (.agg J) (.agg J)).run Try.prog W = .ok () W) := Lib.hid (fun a b W => run_eqGuard_agg W .eql 32 a b _ _ (by kernel_rfl))
  have hkk : Hid (∀ W : World, (binOp .eql 38 (.agg KK) (.agg #[.int .i64 2, .int .i64 pr, .int .i64 rel, .int .i64 i])).run Try.prog W = .ok (.bool true) W) := Lib.hid (fun W => by rw [eKK.out, key_cmp]; simp)
  have hkg : Hid (∀ (a b : Operand) (W : World), (eqGuard .eql 38 a b (.agg KK) (.agg #[.int .i64 2, .int .i64 pr, .int .i64 rel, .int .i64 i])).run Try.prog W = .ok () W) := Lib.hid (fun a b W => run_eqGuard_agg W .eql 38 a b _ _ (by kernel_rfl))
  have hJ3 : Hid (J[3]? = some (.int .i64 (rel + D))) := Lib.hid (by rw [eJ.out]; exact JJ_at _ _ _ _ _ _ _ _ _ _ 3 (by decide))
  have NJ := Lib.hid (fun (W : World) (hW : Below w.heap.size w W) (A0 : Array Value) (eA0 : A0 = #[.int .i64 B, .slice (some ad) l.length cap]) => new_c (B := B) (cap := cap) (x := d) (n := d) (must := false) (Kd.C_below hC hW) hi1.out.1 hi1.out.2 hno1.out hr1.out.1 hr1.out.2 (by rw [ht]; exact okt) (by rw [ht]; exact hn.out) A0 J eA0 (by rw [hov'.out, ht, hD]; exact eJ.out))
  have hrow := Lib.hid (fun (W : World) (B0 : Nat) (h0 : w.heap.size = B0) (hW : Below B0 w W) => row_at4 hC h0 hW hi1.out.1 hi1.out.2 T (by rw [ht]; exact eT.out))
  replace ht := Lib.hid ht
  replace okt := Lib.hid okt
  replace ok := Lib.hid ok
  replace hD := Lib.hid hD
  replace hCe := Lib.hid hCe
  obtain ⟨A0, eA0⟩ : ∃ A0 : Array Value, A0 = #[.int .i64 B, .slice (some ad) l.length cap] := ⟨_, rfl⟩
  rw [← eA0]
  have zA0 : Hid (A0.size = 2) := Lib.hid (by rw [eA0]; rfl)
  replace eA0 := Lib.hid eA0
  obtain ⟨B0, hB0⟩ : ∃ B, w.heap.size = B := ⟨_, rfl⟩
  rw [hB0]
  obtain ⟨V0, hV0⟩ : ∃ V, w.alloc (.cells A0 24) = V := ⟨_, rfl⟩
  have Hs : Hid (V0.heap[B0]? = some (.cells A0 24 (0, 0))) := Lib.hid (by rw [← hV0]; exact (box_new hB0).1)
  have HE : Hid (Below B0 w V0) := Lib.hid (by rw [← hV0, ← hB0]; exact (Below.refl _ _).alloc (Nat.le_refl _) _)
  go_enter Try.func3, Try.ntmps3
  go_upto_region 1 with (fail)
  replace hB0 := Lib.hid hB0
  replace hV0 := Lib.hid hV0
  go_wp2_with fail
  refine (aw_c _).mono ?_; rintro e V_408 ⟨rfl, hb_409⟩
  have H_410 : Hid (V_408.heap[B0]? = some (.cells A0 24 (0, 0))) := Lib.hid ((hb_409.block B0 (blk_lt Hs.out)).trans Hs.out)
  have HE_411 : Hid (Below B0 w V_408) := Lib.hid (HE.out.trans (hb_409.mono (sz_le hB0.out HE.out.size)))
  clear HE Hs
  clear hb_409
  go_wp2_with (first | ((with_reducible refine wpl_gate (T := 24) rfl ?_); refine wpl_ld _ _ rfl (by rfl) B0 rfl H_410.out Try.underlying24 rfl (by kernel_rfl) zA0.out ?_))
  refine (few_c hf hC hc hB0.out HE_411.out _ eA0.out).mono ?_; rintro e V_412 ⟨rfl, hb_413⟩
  have H_414 : Hid (V_412.heap[B0]? = some (.cells A0 24 (0, 0))) := Lib.hid ((hb_413.block B0 (blk_lt H_410.out)).trans H_410.out)
  have HE_415 : Hid (Below B0 w V_412) := Lib.hid (HE_411.out.trans (hb_413.mono (sz_le hB0.out HE_411.out.size)))
  clear HE_411 H_410
  clear hb_413
  go_wp2_with (first | ((with_reducible refine wpl_gate (T := 24) rfl ?_); refine wpl_ld _ _ rfl (by rfl) B0 rfl H_414.out Try.underlying24 rfl (by kernel_rfl) zA0.out ?_))
  refine (right_c hr hC hc hB0.out HE_415.out _ eA0.out).mono ?_; rintro e V_416 ⟨rfl, hb_417⟩
  have H_418 : Hid (V_416.heap[B0]? = some (.cells A0 24 (0, 0))) := Lib.hid ((hb_417.block B0 (blk_lt H_414.out)).trans H_414.out)
  have HE_419 : Hid (Below B0 w V_416) := Lib.hid (HE_415.out.trans (hb_417.mono (sz_le hB0.out HE_415.out.size)))
  clear HE_415 H_414
  clear hb_417
  go_wp2_with (first | ((with_reducible refine wpl_gate (T := 24) rfl ?_); refine wpl_ld _ _ rfl (by rfl) B0 rfl H_418.out Try.underlying24 rfl (by kernel_rfl) zA0.out ?_))
  refine (NJ.out _ (below_to hB0.out HE_419.out) _ eA0.out).mono ?_; rintro e V_420 ⟨rfl, hb_421⟩
  have H_422 : Hid (V_420.heap[B0]? = some (.cells A0 24 (0, 0))) := Lib.hid ((hb_421.block B0 (blk_lt H_418.out)).trans H_418.out)
  have HE_423 : Hid (Below B0 w V_420) := Lib.hid (HE_419.out.trans (hb_421.mono (sz_le hB0.out HE_419.out.size)))
  clear HE_419 H_418
  clear hb_421
  obtain ⟨X_424, hX_426⟩ : ∃ X, V_420.heap.size = X := ⟨_, rfl⟩
  obtain ⟨V_425, q_427_0, q_427_1, q_427_2, q_427_3⟩ := st_new (w := V_420) (T := 32) hX_426 zZ.out zJ.out oJ.out
  have ne_429 : B0 < X_424 := hX_426 ▸ blk_lt H_422.out
  have H_428 : Hid (V_425.heap[B0]? = some (.cells A0 24 (0, 0))) := Lib.hid ((q_427_2 _ ne_429).trans H_422.out)
  have ge_430 : B0 ≤ X_424 := hX_426 ▸ (sz_le hB0.out HE_423.out.size)
  have HE_431 : Hid (Below B0 w V_425) := Lib.hid (q_427_3 _ _ ge_430 HE_423.out)
  have H_432 := Lib.hid q_427_1
  clear q_427_1 q_427_2 q_427_3
  go_upto_region 4 with (fail)
  clear q_427_0 hX_426
  clear HE_423 H_422
  have c_433 : V_425.cell? ⟨B0, 1, none⟩ = some (.slice (some ad) l.length cap) := by rw [blk_cell H_428.out, eA0.out]; rfl
  go_upto_region 6 with (fail)
  obtain ⟨X_434, hX_436⟩ : ∃ X, V_425.heap.size = X := ⟨_, rfl⟩
  obtain ⟨V_435, q_437_0, q_437_1, q_437_2, q_437_3⟩ := st_new (w := V_425) (T := 28) hX_436 zU.out zT.out oT.out
  have ne_439 : B0 < X_434 := hX_436 ▸ blk_lt H_428.out
  have H_438 : Hid (V_435.heap[B0]? = some (.cells A0 24 (0, 0))) := Lib.hid ((q_437_2 _ ne_439).trans H_428.out)
  have ne_441 : X_424 < X_434 := hX_436 ▸ blk_lt H_432.out
  have H_440 : Hid (V_435.heap[X_424]? = some (.cells J 32 (0, 0))) := Lib.hid ((q_437_2 _ ne_441).trans H_432.out)
  have ge_442 : B0 ≤ X_434 := hX_436 ▸ (sz_le hB0.out HE_431.out.size)
  have HE_443 : Hid (Below B0 w V_435) := Lib.hid (q_437_3 _ _ ge_442 HE_431.out)
  have H_444 := Lib.hid q_437_1
  clear q_437_1 q_437_2 q_437_3
  go_upto_region 7 with (first | ((with_reducible refine wpl_gate (T := 28) rfl ?_); refine wpl_ldr _ _ rfl (by rfl) (ad.add (i.toNat * 11)) rfl (hrow.out _ _ hB0.out HE_431.out) Try.underlying28 rfl (by kernel_rfl) zT.out ?_))
  clear q_437_0 hX_436
  clear c_433
  clear HE_431 H_428 H_432
  have c_445 : V_435.cell? ⟨X_434, 3, none⟩ = some (.int .i64 C) := by rw [blk_cell H_444.out, eT.out, ← hCe.out]; rfl
  go_upto_region 12 with (fail)
  clear c_445
  obtain ⟨X_446, hX_448⟩ : ∃ X, V_435.heap.size = X := ⟨_, rfl⟩
  obtain ⟨V_447, q_449_0, q_449_1, q_449_2, q_449_3⟩ := st_new (w := V_435) (T := 30) hX_448 zY.out zR0.out oR0.out
  have ne_451 : B0 < X_446 := hX_448 ▸ blk_lt H_438.out
  have H_450 : Hid (V_447.heap[B0]? = some (.cells A0 24 (0, 0))) := Lib.hid ((q_449_2 _ ne_451).trans H_438.out)
  have ne_453 : X_424 < X_446 := hX_448 ▸ blk_lt H_440.out
  have H_452 : Hid (V_447.heap[X_424]? = some (.cells J 32 (0, 0))) := Lib.hid ((q_449_2 _ ne_453).trans H_440.out)
  have ne_455 : X_434 < X_446 := hX_448 ▸ blk_lt H_444.out
  have H_454 : Hid (V_447.heap[X_434]? = some (.cells T 28 (0, 0))) := Lib.hid ((q_449_2 _ ne_455).trans H_444.out)
  have ge_456 : B0 ≤ X_446 := hX_448 ▸ (sz_le hB0.out HE_443.out.size)
  have HE_457 : Hid (Below B0 w V_447) := Lib.hid (q_449_3 _ _ ge_456 HE_443.out)
  have H_458 := Lib.hid q_449_1
  clear q_449_1 q_449_2 q_449_3
  go_upto_region 13 with (first | ((with_reducible refine wpl_gate (T := 28) rfl ?_); refine wpl_ld _ _ rfl (by rfl) X_434 rfl H_444.out Try.underlying28 rfl (by kernel_rfl) zT.out ?_) | ((with_reducible refine wpl_gateb (T := 30) rfl ?_); refine wpl_bld 30 _ rfl (by rfl) (run_built t d T eT.out (by simp [go_sem]) eR0.out) ?_))
  clear q_449_0 hX_448
  clear HE_443 H_438 H_440 H_444
  go_wp2_with (first | ((with_reducible refine wpl_gate (T := 30) rfl ?_); refine wpl_ld _ _ rfl (by rfl) X_446 rfl H_458.out Try.underlying30 rfl (by kernel_rfl) zR0.out ?_))
  refine (length_c _ t d ⟨0, 0, false, 0⟩ _ eR0.out okt.out hv1.out hv2.out (.inr (len_pos okt.out hv1.out)) (rd (pt t d) (0 : Nat)) (by unfold lenv; rw [if_neg (fun h => by cases h.2)])).mono ?_; rintro e V_459 ⟨rfl, hb_460⟩
  have H_461 : Hid (V_459.heap[B0]? = some (.cells A0 24 (0, 0))) := Lib.hid ((hb_460.block B0 (blk_lt H_450.out)).trans H_450.out)
  have H_462 : Hid (V_459.heap[X_424]? = some (.cells J 32 (0, 0))) := Lib.hid ((hb_460.block X_424 (blk_lt H_452.out)).trans H_452.out)
  have H_463 : Hid (V_459.heap[X_434]? = some (.cells T 28 (0, 0))) := Lib.hid ((hb_460.block X_434 (blk_lt H_454.out)).trans H_454.out)
  have H_464 : Hid (V_459.heap[X_446]? = some (.cells R0 30 (0, 0))) := Lib.hid ((hb_460.block X_446 (blk_lt H_458.out)).trans H_458.out)
  have HE_465 : Hid (Below B0 w V_459) := Lib.hid (HE_457.out.trans (hb_460.mono (sz_le hB0.out HE_457.out.size)))
  clear HE_457 H_450 H_452 H_454 H_458
  clear hb_460
  have cp_467 : V_459.cell? ⟨X_446, 13, none⟩ = some (.int .i64 0) := by rw [blk_cell H_464.out]; exact (by rw [eR0.out]; simp [RA, TA])
  have zp_468 : V_459.frozen? ⟨X_446, 13, none⟩ = false := blk_frozen H_464.out 13
  go_upto_region 14 with (fail)
  have H_469 : Hid ((V_459.setCell ⟨X_446, 13, none⟩ (.int .i64 (rd (pt t d) ((0 : Nat) : Int)))).heap[B0]? = some (.cells A0 24 (0, 0))) := Lib.hid (blk_far H_461.out (Nat.ne_of_lt ne_451) _)
  have H_470 : Hid ((V_459.setCell ⟨X_446, 13, none⟩ (.int .i64 (rd (pt t d) ((0 : Nat) : Int)))).heap[X_424]? = some (.cells J 32 (0, 0))) := Lib.hid (blk_far H_462.out (Nat.ne_of_lt ne_453) _)
  have H_471 : Hid ((V_459.setCell ⟨X_446, 13, none⟩ (.int .i64 (rd (pt t d) ((0 : Nat) : Int)))).heap[X_434]? = some (.cells T 28 (0, 0))) := Lib.hid (blk_far H_463.out (Nat.ne_of_lt ne_455) _)
  have H_472 : Hid ((V_459.setCell ⟨X_446, 13, none⟩ (.int .i64 (rd (pt t d) ((0 : Nat) : Int)))).heap[X_446]? = some (.cells R1 30 (0, 0))) := Lib.hid (blk_put H_464.out 13 _ (by rw [eR0.out, eR1.out]; simp [RA, TA, ini]))
  have HE_473 : Hid (Below B0 w (V_459.setCell ⟨X_446, 13, none⟩ (.int .i64 (rd (pt t d) ((0 : Nat) : Int))))) := Lib.hid (HE_465.out.setCell (p := ⟨X_446, 13, none⟩) ge_456 _)
  clear cp_467 zp_468
  generalize (V_459.setCell ⟨X_446, 13, none⟩ (.int .i64 (rd (pt t d) ((0 : Nat) : Int)))) = V_466 at H_469 H_470 H_471 H_472 HE_473 ⊢
  clear HE_465 H_461 H_462 H_463 H_464
  have c_474 : V_466.cell? ⟨X_434, 2, none⟩ = some (.int .i64 D) := by rw [blk_cell H_471.out, eT.out, ← hD.out]; rfl
  have c_475 : V_466.cell? ⟨X_434, 3, none⟩ = some (.int .i64 C) := by rw [blk_cell H_471.out, eT.out, ← hCe.out]; rfl
  obtain ⟨X_476, hX_478⟩ : ∃ X, V_466.heap.size = X := ⟨_, rfl⟩
  obtain ⟨V_477, q_479_0, q_479_1, q_479_2, q_479_3⟩ := st_new (w := V_466) (T := 32) hX_478 zZ.out zJ.out oJ.out
  have ne_481 : B0 < X_476 := hX_478 ▸ blk_lt H_469.out
  have H_480 : Hid (V_477.heap[B0]? = some (.cells A0 24 (0, 0))) := Lib.hid ((q_479_2 _ ne_481).trans H_469.out)
  have ne_483 : X_424 < X_476 := hX_478 ▸ blk_lt H_470.out
  have H_482 : Hid (V_477.heap[X_424]? = some (.cells J 32 (0, 0))) := Lib.hid ((q_479_2 _ ne_483).trans H_470.out)
  have ne_485 : X_434 < X_476 := hX_478 ▸ blk_lt H_471.out
  have H_484 : Hid (V_477.heap[X_434]? = some (.cells T 28 (0, 0))) := Lib.hid ((q_479_2 _ ne_485).trans H_471.out)
  have ne_487 : X_446 < X_476 := hX_478 ▸ blk_lt H_472.out
  have H_486 : Hid (V_477.heap[X_446]? = some (.cells R1 30 (0, 0))) := Lib.hid ((q_479_2 _ ne_487).trans H_472.out)
  have ge_488 : B0 ≤ X_476 := hX_478 ▸ (sz_le hB0.out HE_473.out.size)
  have HE_489 : Hid (Below B0 w V_477) := Lib.hid (q_479_3 _ _ ge_488 HE_473.out)
  have H_490 := Lib.hid q_479_1
  clear q_479_1 q_479_2 q_479_3
  go_upto_region 15 with (first | ((with_reducible refine wpl_gate (T := 30) rfl ?_); refine wpl_ld _ _ rfl (by rfl) X_446 rfl H_472.out Try.underlying30 rfl (by kernel_rfl) zR1.out ?_) | ((with_reducible refine wpl_gateb (T := 32) rfl ?_); refine wpl_bld 32 _ rfl (by rfl) (job_built i no rel (rel + D) false false R1 zR1.out ePJ.out hPJ.out (by simp [go_sem, hw])) ?_))
  clear q_479_0 hX_478
  clear c_474 c_475
  clear HE_473 H_469 H_470 H_471 H_472
  go_upto_region 18 with (fail)
  have hwi : IntKind.i64.wrap (rel + D) = rel + D := by rw [i64_w]; exact hw
  have hwi' : IntKind.i64.wrap (rel + D - 1) = rel + D - 1 := by rw [i64_w]; exact hw'
  have hjj' := hjj.out
  have hjg' := hjg.out
  have hkk' := hkk.out
  have hkg' := hkg.out
  refine start_ (n := 37) (S := fun w' => w'.heap[X_424]? = some (.cells J 32 (0, 0)) ∧ w'.heap[X_476]? = some (.cells J 32 (0, 0)) ∧ w'.cell? ⟨X_434, 10, none⟩ = some (.int .i64 pr) ∧ w'.cell? ⟨X_434, 2, none⟩ = some (.int .i64 D)) (ds := []) #[false, false, false, false, false, false, false, false, false, false, false, false, false, false, false, false, false, false, false, false, false, false, false, false, false, false, false, false, false, false, false, false, false, false, false, false, false] (by kernel_rfl) rfl rfl ⟨H_482.out, H_490.out, (blk_cell H_484.out 10).trans (by rw [eT.out, ← hpr.out]; rfl), (blk_cell H_484.out 2).trans (by rw [eT.out, ← hD.out]; rfl)⟩ (fun hHeld => ?_)
  refine pure_ (i := 0) (N := (some 107)) (v := ?_) (a' := ?_) #[true, false, false, false, false, false, false, false, false, false, false, false, false, false, false, false, false, false, false, false, false, false, false, false, false, false, false, false, false, false, false, false, false, false, false, false, false] rfl rfl (by kernel_rfl) (fun _ _ _ h => h) (Or.inl ⟨by rfl, ?_⟩) ?_ ?_
  rotate_left
  · intro w'
    go_simp
    with_reducible rfl
  rotate_left
  · simp only [Act.put, List.setIfInBounds_toArray, List.set_cons_zero, List.set_cons_succ, i64_w, i32_w]
    rfl
  refine pure_ (i := 1) (N := (some 108)) (v := ?_) (a' := ?_) #[true, true, false, false, false, false, false, false, false, false, false, false, false, false, false, false, false, false, false, false, false, false, false, false, false, false, false, false, false, false, false, false, false, false, false, false, false] rfl rfl (by kernel_rfl) (fun _ _ _ h => h) (Or.inl ⟨by rfl, ?_⟩) ?_ ?_
  rotate_left
  · intro w'
    go_simp
    with_reducible rfl
  rotate_left
  · simp only [Act.put, List.setIfInBounds_toArray, List.set_cons_zero, List.set_cons_succ, i64_w, i32_w]
    rfl
  refine pure_ (i := 2) (N := (some 109)) (v := ?_) (a' := ?_) #[true, true, true, false, false, false, false, false, false, false, false, false, false, false, false, false, false, false, false, false, false, false, false, false, false, false, false, false, false, false, false, false, false, false, false, false, false] rfl rfl (by kernel_rfl) (fun _ _ _ h => h) (Or.inl ⟨by rfl, ?_⟩) ?_ ?_
  rotate_left
  · intro w'
    go_simp
    with_reducible rfl
  rotate_left
  · simp only [Act.put, List.setIfInBounds_toArray, List.set_cons_zero, List.set_cons_succ, i64_w, i32_w]
    rfl
  refine take_ (i := 3) (N := (some 110)) (v := .agg J) (a' := ?_) #[true, true, true, true, false, false, false, false, false, false, false, false, false, false, false, false, false, false, false, false, false, false, false, false, false, false, false, false, false, false, false, false, false, false, false, false, false] rfl rfl (by kernel_rfl) (fun _ _ _ h => h) (Or.inl ⟨by rfl, ?_⟩) hHeld ?_ ?_
  · rintro w' ⟨s0, s1, s2, s3⟩
    exact ld_op 32 _ rfl X_424 rfl s0 Try.underlying32 rfl (by kernel_rfl) zJ.out
  rotate_left
  · simp only [Act.put, List.setIfInBounds_toArray, List.set_cons_zero, List.set_cons_succ, i64_w, i32_w]
    rfl
  refine take_ (i := 4) (N := (some 111)) (v := .agg J) (a' := ?_) #[true, true, true, true, true, false, false, false, false, false, false, false, false, false, false, false, false, false, false, false, false, false, false, false, false, false, false, false, false, false, false, false, false, false, false, false, false] rfl rfl (by kernel_rfl) (fun _ _ _ h => h) (Or.inl ⟨by rfl, ?_⟩) hHeld ?_ ?_
  · rintro w' ⟨s0, s1, s2, s3⟩
    exact ld_op 32 _ rfl X_476 rfl s1 Try.underlying32 rfl (by kernel_rfl) zJ.out
  rotate_left
  · simp only [Act.put, List.setIfInBounds_toArray, List.set_cons_zero, List.set_cons_succ, i64_w, i32_w]
    rfl
  refine pure_ (i := 5) (N := (some 112)) (v := ?_) (a' := ?_) #[true, true, true, true, true, true, false, false, false, false, false, false, false, false, false, false, false, false, false, false, false, false, false, false, false, false, false, false, false, false, false, false, false, false, false, false, false] rfl rfl (by kernel_rfl) (fun _ _ _ h => h) (Or.inl ⟨by rfl, ?_⟩) ?_ ?_
  rotate_left
  · intro w'
    go_simp
    with_reducible rfl
  rotate_left
  · simp only [Act.put, List.setIfInBounds_toArray, List.set_cons_zero, List.set_cons_succ, i64_w, i32_w]
    rfl
  refine pure_ (i := 6) (N := (some 113)) (v := ?_) (a' := ?_) #[true, true, true, true, true, true, true, false, false, false, false, false, false, false, false, false, false, false, false, false, false, false, false, false, false, false, false, false, false, false, false, false, false, false, false, false, false] rfl rfl (by kernel_rfl) (fun _ _ _ h => h) (Or.inl ⟨by rfl, ?_⟩) ?_ ?_
  rotate_left
  · intro w'
    go_simp
    with_reducible rfl
  rotate_left
  · simp only [Act.put, List.setIfInBounds_toArray, List.set_cons_zero, List.set_cons_succ, i64_w, i32_w]
    rfl
  refine pure_ (i := 7) (N := (some 114)) (v := ?_) (a' := ?_) #[true, true, true, true, true, true, true, true, false, false, false, false, false, false, false, false, false, false, false, false, false, false, false, false, false, false, false, false, false, false, false, false, false, false, false, false, false] rfl rfl (by kernel_rfl) (fun _ _ _ h => h) (Or.inl ⟨by rfl, ?_⟩) ?_ ?_
  rotate_left
  · intro w'
    go_simp
    with_reducible rfl
  rotate_left
  · simp only [Act.put, List.setIfInBounds_toArray, List.set_cons_zero, List.set_cons_succ, i64_w, i32_w]
    rfl
  refine take_ (i := 8) (N := (some 115)) (v := .agg J) (a' := ?_) #[true, true, true, true, true, true, true, true, true, false, false, false, false, false, false, false, false, false, false, false, false, false, false, false, false, false, false, false, false, false, false, false, false, false, false, false, false] rfl rfl (by kernel_rfl) (fun _ _ _ h => h) (Or.inl ⟨by rfl, ?_⟩) hHeld ?_ ?_
  · rintro w' ⟨s0, s1, s2, s3⟩
    exact ld_op 32 _ rfl X_424 rfl s0 Try.underlying32 rfl (by kernel_rfl) zJ.out
  rotate_left
  · simp only [Act.put, List.setIfInBounds_toArray, List.set_cons_zero, List.set_cons_succ, i64_w, i32_w]
    rfl
  refine pure_ (i := 10) (N := (some 117)) (v := ?_) (a' := ?_) #[true, true, true, true, true, true, true, true, true, false, true, false, false, false, false, false, false, false, false, false, false, false, false, false, false, false, false, false, false, false, false, false, false, false, false, false, false] rfl rfl (by kernel_rfl) (fun _ _ _ h => h) (Or.inl ⟨by rfl, ?_⟩) ?_ ?_
  rotate_left
  · intro w'
    go_simp
    with_reducible rfl
  rotate_left
  · simp only [Act.put, List.setIfInBounds_toArray, List.set_cons_zero, List.set_cons_succ, i64_w, i32_w]
    rfl
  refine pure_ (i := 11) (N := (some 118)) (v := ?_) (a' := ?_) #[true, true, true, true, true, true, true, true, true, false, true, true, false, false, false, false, false, false, false, false, false, false, false, false, false, false, false, false, false, false, false, false, false, false, false, false, false] rfl rfl (by kernel_rfl) (fun _ _ _ h => h) (Or.inl ⟨by rfl, ?_⟩) ?_ ?_
  rotate_left
  · intro w'
    go_simp
    with_reducible rfl
  rotate_left
  · simp only [Act.put, List.setIfInBounds_toArray, List.set_cons_zero, List.set_cons_succ, i64_w, i32_w]
    rfl
  refine take_ (i := 12) (N := (some 119)) (v := ?_) (a' := ?_) #[true, true, true, true, true, true, true, true, true, false, true, true, true, false, false, false, false, false, false, false, false, false, false, false, false, false, false, false, false, false, false, false, false, false, false, false, false] rfl rfl (by kernel_rfl) (fun _ _ _ h => h) (Or.inl ⟨by rfl, ?_⟩) hHeld ?_ ?_
  rotate_left
  · rintro w' ⟨s0, s1, s2, s3⟩
    go_simp
    with_reducible rfl
  rotate_left
  · simp only [Act.put, List.setIfInBounds_toArray, List.set_cons_zero, List.set_cons_succ, i64_w, i32_w]
    rfl
  refine pure_ (i := 13) (N := (some 120)) (v := ?_) (a' := ?_) #[true, true, true, true, true, true, true, true, true, false, true, true, true, true, false, false, false, false, false, false, false, false, false, false, false, false, false, false, false, false, false, false, false, false, false, false, false] rfl rfl (by kernel_rfl) (fun _ _ _ h => h) (Or.inl ⟨by rfl, ?_⟩) ?_ ?_
  rotate_left
  · intro w'
    go_simp
    with_reducible rfl
  rotate_left
  · simp only [Act.put, List.setIfInBounds_toArray, List.set_cons_zero, List.set_cons_succ, i64_w, i32_w]
    rfl
  refine pure_ (i := 14) (N := (some 121)) (v := ?_) (a' := ?_) #[true, true, true, true, true, true, true, true, true, false, true, true, true, true, true, false, false, false, false, false, false, false, false, false, false, false, false, false, false, false, false, false, false, false, false, false, false] rfl rfl (by kernel_rfl) (fun _ _ _ h => h) (Or.inl ⟨by rfl, ?_⟩) ?_ ?_
  rotate_left
  · intro w'
    go_simp
    with_reducible rfl
  rotate_left
  · simp only [Act.put, List.setIfInBounds_toArray, List.set_cons_zero, List.set_cons_succ, i64_w, i32_w]
    rfl
  refine pure_ (i := 15) (N := (some 122)) (v := ?_) (a' := ?_) #[true, true, true, true, true, true, true, true, true, false, true, true, true, true, true, true, false, false, false, false, false, false, false, false, false, false, false, false, false, false, false, false, false, false, false, false, false] rfl rfl (by kernel_rfl) (fun _ _ _ h => h) (Or.inl ⟨by rfl, ?_⟩) ?_ ?_
  rotate_left
  · intro w'
    go_simp
    with_reducible rfl
  rotate_left
  · simp only [Act.put, List.setIfInBounds_toArray, List.set_cons_zero, List.set_cons_succ, i64_w, i32_w]
    rfl
  refine one_ (i := 9) (N := (some 116)) #[true, true, true, true, true, true, true, true, true, true, true, true, true, true, true, true, false, false, false, false, false, false, false, false, false, false, false, false, false, false, false, false, false, false, false, false, false] rfl rfl (by kernel_rfl) (by decide) (fun K hK => ?_)
  refine goes_ Try.func13 (by kernel_rfl) rfl #[.agg J] (by rfl) rfl rfl (by (try simp only [List.map_toArray, List.map_cons, List.map_nil]); first | done | rfl) ?_
  refine (keyj_c _ _ KK _ _ _ _ _ _ _ _ _ _ eJ.out (by rw [eKK.out, bnd_ini, hpr.out]; rfl)).mono ?_
  rintro e Va ⟨rfl, hb4⟩
  have Hja := Lib.hid ((hb4.block X_424 (blk_lt H_482.out)).trans H_482.out)
  have Hva := Lib.hid ((hb4.block X_476 (blk_lt H_490.out)).trans H_490.out)
  have Hta := Lib.hid ((hb4.block X_434 (blk_lt H_484.out)).trans H_484.out)
  have HEa := Lib.hid ((HE_489.out.drew).trans (hb4.mono (sz_le hB0.out HE_489.out.size)))
  refine ⟨_, rfl, ?_⟩
  refine hK.out _ _ ⟨Hja.out, Hva.out, (blk_cell Hta.out 10).trans (by rw [eT.out, ← hpr.out]; rfl), (blk_cell Hta.out 2).trans (by rw [eT.out, ← hD.out]; rfl)⟩ (fun hHeld => ?_)
  clear hb4 H_482 H_490 H_484 HE_489
  clear hK K
  refine norm_ (a' := ?_) ?_ ?_
  rotate_left
  · show Act.put _ (some 116) _ = _
    simp only [Act.put, List.setIfInBounds_toArray, List.set_cons_zero, List.set_cons_succ, i64_w, i32_w]
    rfl
  refine pure_ (i := 16) (N := (some 123)) (v := ?_) (a' := ?_) #[true, true, true, true, true, true, true, true, true, true, true, true, true, true, true, true, true, false, false, false, false, false, false, false, false, false, false, false, false, false, false, false, false, false, false, false, false] rfl rfl (by kernel_rfl) (fun _ _ _ h => h) (Or.inl ⟨by rfl, ?_⟩) ?_ ?_
  rotate_left
  · intro w'
    go_simp
    with_reducible rfl
  rotate_left
  · simp only [Act.put, List.setIfInBounds_toArray, List.set_cons_zero, List.set_cons_succ, i64_w, i32_w]
    rfl
  refine pure_ (i := 17) (N := (some 124)) (v := ?_) (a' := ?_) #[true, true, true, true, true, true, true, true, true, true, true, true, true, true, true, true, true, true, false, false, false, false, false, false, false, false, false, false, false, false, false, false, false, false, false, false, false] rfl rfl (by kernel_rfl) (fun _ _ _ h => h) (Or.inl ⟨by rfl, ?_⟩) ?_ ?_
  rotate_left
  · intro w'
    go_simp
    with_reducible rfl
  rotate_left
  · simp only [Act.put, List.setIfInBounds_toArray, List.set_cons_zero, List.set_cons_succ, i64_w, i32_w]
    rfl
  refine pure_ (i := 18) (N := (some 125)) (v := ?_) (a' := ?_) #[true, true, true, true, true, true, true, true, true, true, true, true, true, true, true, true, true, true, true, false, false, false, false, false, false, false, false, false, false, false, false, false, false, false, false, false, false] rfl rfl (by kernel_rfl) (fun _ _ _ h => h) (Or.inl ⟨by rfl, ?_⟩) ?_ ?_
  rotate_left
  · intro w'
    go_simp
    with_reducible rfl
  rotate_left
  · simp only [Act.put, List.setIfInBounds_toArray, List.set_cons_zero, List.set_cons_succ, i64_w, i32_w]
    rfl
  refine take_ (i := 19) (N := (some 126)) (v := .agg J) (a' := ?_) #[true, true, true, true, true, true, true, true, true, true, true, true, true, true, true, true, true, true, true, true, false, false, false, false, false, false, false, false, false, false, false, false, false, false, false, false, false] rfl rfl (by kernel_rfl) (fun _ _ _ h => h) (Or.inl ⟨by rfl, ?_⟩) hHeld ?_ ?_
  · rintro w' ⟨s0, s1, s2, s3⟩
    exact ld_op 32 _ rfl X_424 rfl s0 Try.underlying32 rfl (by kernel_rfl) zJ.out
  rotate_left
  · simp only [Act.put, List.setIfInBounds_toArray, List.set_cons_zero, List.set_cons_succ, i64_w, i32_w]
    rfl
  refine pure_ (i := 20) (N := (some 127)) (v := ?_) (a' := ?_) #[true, true, true, true, true, true, true, true, true, true, true, true, true, true, true, true, true, true, true, true, true, false, false, false, false, false, false, false, false, false, false, false, false, false, false, false, false] rfl rfl (by kernel_rfl) (fun _ _ _ h => h) (Or.inl ⟨by rfl, ?_⟩) ?_ ?_
  rotate_left
  · intro w'
    go_simp
    with_reducible rfl
  rotate_left
  · simp only [Act.put, List.setIfInBounds_toArray, List.set_cons_zero, List.set_cons_succ, i64_w, i32_w]
    rfl
  refine pure_ (i := 21) (N := (some 128)) (v := ?_) (a' := ?_) #[true, true, true, true, true, true, true, true, true, true, true, true, true, true, true, true, true, true, true, true, true, true, false, false, false, false, false, false, false, false, false, false, false, false, false, false, false] rfl rfl (by kernel_rfl) (fun _ _ _ h => h) (Or.inl ⟨by rfl, ?_⟩) ?_ ?_
  rotate_left
  · intro w'
    go_simp
    with_reducible rfl
  rotate_left
  · simp only [Act.put, List.setIfInBounds_toArray, List.set_cons_zero, List.set_cons_succ, i64_w, i32_w]
    rfl
  refine take_ (i := 22) (N := (some 129)) (v := ?_) (a' := ?_) #[true, true, true, true, true, true, true, true, true, true, true, true, true, true, true, true, true, true, true, true, true, true, true, false, false, false, false, false, false, false, false, false, false, false, false, false, false] rfl rfl (by kernel_rfl) (fun _ _ _ h => h) (Or.inl ⟨by rfl, ?_⟩) hHeld ?_ ?_
  rotate_left
  · rintro w' ⟨s0, s1, s2, s3⟩
    go_simp
    with_reducible rfl
  rotate_left
  · simp only [Act.put, List.setIfInBounds_toArray, List.set_cons_zero, List.set_cons_succ, i64_w, i32_w]
    rfl
  refine pure_ (i := 23) (N := (some 130)) (v := ?_) (a' := ?_) #[true, true, true, true, true, true, true, true, true, true, true, true, true, true, true, true, true, true, true, true, true, true, true, true, false, false, false, false, false, false, false, false, false, false, false, false, false] rfl rfl (by kernel_rfl) (fun _ _ _ h => h) (Or.inl ⟨by rfl, ?_⟩) ?_ ?_
  rotate_left
  · intro w'
    go_simp
    with_reducible rfl
  rotate_left
  · simp only [Act.put, List.setIfInBounds_toArray, List.set_cons_zero, List.set_cons_succ, i64_w, i32_w]
    rfl
  refine one_ (i := 24) (N := (some 131)) #[true, true, true, true, true, true, true, true, true, true, true, true, true, true, true, true, true, true, true, true, true, true, true, true, true, false, false, false, false, false, false, false, false, false, false, false, false] rfl rfl (by kernel_rfl) (by decide) (fun K hK => ?_)
  refine goes_ Try.func14 (by kernel_rfl) rfl #[.agg J, .int .i64 (rel + D)] (by rfl) rfl rfl (by (try simp only [List.map_toArray, List.map_cons, List.map_nil]); first | done | rfl) ?_
  refine (late_b _ _ (rel + D) (rel + D) true hJ3.out (by simp)).mono ?_
  rintro e Vb ⟨rfl, hb4⟩
  have Hjb := Lib.hid ((hb4.block X_424 (blk_lt Hja.out)).trans Hja.out)
  have Hvb := Lib.hid ((hb4.block X_476 (blk_lt Hva.out)).trans Hva.out)
  have Htb := Lib.hid ((hb4.block X_434 (blk_lt Hta.out)).trans Hta.out)
  have HEb := Lib.hid ((HEa.out).trans (hb4.mono (sz_le hB0.out HEa.out.size)))
  refine ⟨_, rfl, ?_⟩
  refine hK.out _ _ ⟨Hjb.out, Hvb.out, (blk_cell Htb.out 10).trans (by rw [eT.out, ← hpr.out]; rfl), (blk_cell Htb.out 2).trans (by rw [eT.out, ← hD.out]; rfl)⟩ (fun hHeld => ?_)
  clear hb4 Hja Hva Hta HEa
  clear hK K
  refine norm_ (a' := ?_) ?_ ?_
  rotate_left
  · show Act.put _ (some 131) _ = _
    simp only [Act.put, List.setIfInBounds_toArray, List.set_cons_zero, List.set_cons_succ, i64_w, i32_w]
    rfl
  refine pure_ (i := 25) (N := (some 132)) (v := ?_) (a' := ?_) #[true, true, true, true, true, true, true, true, true, true, true, true, true, true, true, true, true, true, true, true, true, true, true, true, true, true, false, false, false, false, false, false, false, false, false, false, false] rfl rfl (by kernel_rfl) (fun _ _ _ h => h) (Or.inl ⟨by rfl, ?_⟩) ?_ ?_
  rotate_left
  · intro w'
    go_simp
    with_reducible rfl
  rotate_left
  · simp only [Act.put, List.setIfInBounds_toArray, List.set_cons_zero, List.set_cons_succ, i64_w, i32_w]
    rfl
  refine pure_ (i := 26) (N := (some 133)) (v := ?_) (a' := ?_) #[true, true, true, true, true, true, true, true, true, true, true, true, true, true, true, true, true, true, true, true, true, true, true, true, true, true, true, false, false, false, false, false, false, false, false, false, false] rfl rfl (by kernel_rfl) (fun _ _ _ h => h) (Or.inl ⟨by rfl, ?_⟩) ?_ ?_
  rotate_left
  · intro w'
    go_simp
    with_reducible rfl
  rotate_left
  · simp only [Act.put, List.setIfInBounds_toArray, List.set_cons_zero, List.set_cons_succ, i64_w, i32_w]
    rfl
  refine take_ (i := 27) (N := (some 134)) (v := .agg J) (a' := ?_) #[true, true, true, true, true, true, true, true, true, true, true, true, true, true, true, true, true, true, true, true, true, true, true, true, true, true, true, true, false, false, false, false, false, false, false, false, false] rfl rfl (by kernel_rfl) (fun _ _ _ h => h) (Or.inl ⟨by rfl, ?_⟩) hHeld ?_ ?_
  · rintro w' ⟨s0, s1, s2, s3⟩
    exact ld_op 32 _ rfl X_424 rfl s0 Try.underlying32 rfl (by kernel_rfl) zJ.out
  rotate_left
  · simp only [Act.put, List.setIfInBounds_toArray, List.set_cons_zero, List.set_cons_succ, i64_w, i32_w]
    rfl
  refine pure_ (i := 28) (N := (some 135)) (v := ?_) (a' := ?_) #[true, true, true, true, true, true, true, true, true, true, true, true, true, true, true, true, true, true, true, true, true, true, true, true, true, true, true, true, true, false, false, false, false, false, false, false, false] rfl rfl (by kernel_rfl) (fun _ _ _ h => h) (Or.inl ⟨by rfl, ?_⟩) ?_ ?_
  rotate_left
  · intro w'
    go_simp
    with_reducible rfl
  rotate_left
  · simp only [Act.put, List.setIfInBounds_toArray, List.set_cons_zero, List.set_cons_succ, i64_w, i32_w]
    rfl
  refine pure_ (i := 29) (N := (some 136)) (v := ?_) (a' := ?_) #[true, true, true, true, true, true, true, true, true, true, true, true, true, true, true, true, true, true, true, true, true, true, true, true, true, true, true, true, true, true, false, false, false, false, false, false, false] rfl rfl (by kernel_rfl) (fun _ _ _ h => h) (Or.inl ⟨by rfl, ?_⟩) ?_ ?_
  rotate_left
  · intro w'
    go_simp
    with_reducible rfl
  rotate_left
  · simp only [Act.put, List.setIfInBounds_toArray, List.set_cons_zero, List.set_cons_succ, i64_w, i32_w]
    rfl
  refine take_ (i := 30) (N := (some 137)) (v := ?_) (a' := ?_) #[true, true, true, true, true, true, true, true, true, true, true, true, true, true, true, true, true, true, true, true, true, true, true, true, true, true, true, true, true, true, true, false, false, false, false, false, false] rfl rfl (by kernel_rfl) (fun _ _ _ h => h) (Or.inl ⟨by rfl, ?_⟩) hHeld ?_ ?_
  rotate_left
  · rintro w' ⟨s0, s1, s2, s3⟩
    go_simp
    with_reducible rfl
  rotate_left
  · simp only [Act.put, List.setIfInBounds_toArray, List.set_cons_zero, List.set_cons_succ, i64_w, i32_w]
    rfl
  refine pure_ (i := 31) (N := (some 138)) (v := ?_) (a' := ?_) #[true, true, true, true, true, true, true, true, true, true, true, true, true, true, true, true, true, true, true, true, true, true, true, true, true, true, true, true, true, true, true, true, false, false, false, false, false] rfl rfl (by kernel_rfl) (fun _ _ _ h => h) (Or.inl ⟨by rfl, ?_⟩) ?_ ?_
  rotate_left
  · intro w'
    go_simp
    with_reducible rfl
  rotate_left
  · simp only [Act.put, List.setIfInBounds_toArray, List.set_cons_zero, List.set_cons_succ, i64_w, i32_w]
    rfl
  refine pure_ (i := 32) (N := (some 139)) (v := ?_) (a' := ?_) #[true, true, true, true, true, true, true, true, true, true, true, true, true, true, true, true, true, true, true, true, true, true, true, true, true, true, true, true, true, true, true, true, true, false, false, false, false] rfl rfl (by kernel_rfl) (fun _ _ _ h => h) (Or.inl ⟨by rfl, ?_⟩) ?_ ?_
  rotate_left
  · intro w'
    go_simp
    with_reducible rfl
  rotate_left
  · simp only [Act.put, List.setIfInBounds_toArray, List.set_cons_zero, List.set_cons_succ, i64_w, i32_w]
    rfl
  refine one_ (i := 33) (N := (some 140)) #[true, true, true, true, true, true, true, true, true, true, true, true, true, true, true, true, true, true, true, true, true, true, true, true, true, true, true, true, true, true, true, true, true, true, false, false, false] rfl rfl (by kernel_rfl) (by decide) (fun K hK => ?_)
  refine goes_ Try.func14 (by kernel_rfl) rfl #[.agg J, .int .i64 (rel + D - 1)] (by rfl) rfl rfl (by (try simp only [List.map_toArray, List.map_cons, List.map_nil]); first | done | rfl) ?_
  refine (late_b _ _ (rel + D) (rel + D - 1) false hJ3.out (by simp; omega)).mono ?_
  rintro e Vc ⟨rfl, hb4⟩
  have Hjc := Lib.hid ((hb4.block X_424 (blk_lt Hjb.out)).trans Hjb.out)
  have Hvc := Lib.hid ((hb4.block X_476 (blk_lt Hvb.out)).trans Hvb.out)
  have Htc := Lib.hid ((hb4.block X_434 (blk_lt Htb.out)).trans Htb.out)
  have HEc := Lib.hid ((HEb.out).trans (hb4.mono (sz_le hB0.out HEb.out.size)))
  refine ⟨_, rfl, ?_⟩
  refine hK.out _ _ ⟨Hjc.out, Hvc.out, (blk_cell Htc.out 10).trans (by rw [eT.out, ← hpr.out]; rfl), (blk_cell Htc.out 2).trans (by rw [eT.out, ← hD.out]; rfl)⟩ (fun hHeld => ?_)
  clear hb4 Hjb Hvb Htb HEb
  clear hK K
  refine norm_ (a' := ?_) ?_ ?_
  rotate_left
  · show Act.put _ (some 140) _ = _
    simp only [Act.put, List.setIfInBounds_toArray, List.set_cons_zero, List.set_cons_succ, i64_w, i32_w]
    rfl
  refine pure_ (i := 34) (N := (some 141)) (v := ?_) (a' := ?_) #[true, true, true, true, true, true, true, true, true, true, true, true, true, true, true, true, true, true, true, true, true, true, true, true, true, true, true, true, true, true, true, true, true, true, true, false, false] rfl rfl (by kernel_rfl) (fun _ _ _ h => h) (Or.inl ⟨by rfl, ?_⟩) ?_ ?_
  rotate_left
  · intro w'
    go_simp
    with_reducible rfl
  rotate_left
  · simp only [Act.put, List.setIfInBounds_toArray, List.set_cons_zero, List.set_cons_succ, i64_w, i32_w]
    rfl
  refine pure_ (i := 35) (N := (some 142)) (v := ?_) (a' := ?_) #[true, true, true, true, true, true, true, true, true, true, true, true, true, true, true, true, true, true, true, true, true, true, true, true, true, true, true, true, true, true, true, true, true, true, true, true, false] rfl rfl (by kernel_rfl) (fun _ _ _ h => h) (Or.inl ⟨by rfl, ?_⟩) ?_ ?_
  rotate_left
  · intro w'
    go_simp
    with_reducible rfl
  rotate_left
  · simp only [Act.put, List.setIfInBounds_toArray, List.set_cons_zero, List.set_cons_succ, i64_w, i32_w]
    rfl
  refine pure_ (i := 36) (N := (some 12)) (v := ?_) (a' := ?_) #[true, true, true, true, true, true, true, true, true, true, true, true, true, true, true, true, true, true, true, true, true, true, true, true, true, true, true, true, true, true, true, true, true, true, true, true, true] rfl rfl (by kernel_rfl) (fun _ _ _ h => h) (Or.inl ⟨by rfl, ?_⟩) ?_ ?_
  rotate_left
  · intro w'
    go_simp
    with_reducible rfl
  rotate_left
  · simp only [Act.put, List.setIfInBounds_toArray, List.set_cons_zero, List.set_cons_succ, i64_w, i32_w]
    rfl
  refine done_ (by kernel_rfl) ?_
  go_wp2
  go_ret
  exact ⟨rfl, by first | exact HEc.out | exact HEc.out.drew | exact pw_below_drewN HEc.out _⟩
set_option maxRecDepth 100000 in
set_option maxHeartbeats 6000000 in
theorem news_top_false (w : World) (B : Int) (ad : Addr) (l : List S28) (cap : Nat) (hc : l.length ≤ cap) (hC : Kd.C k28 w (some ad) l.length l) (i no rel d C : Int) (hi : 0 ≤ i) (hi2 : i < (l.length : Int)) (hno : 0 ≤ no) (hrel : 0 ≤ rel) (hrel2 : rel ≤ 1099511627776) (hCe : (rd_T28 l i).f3 = C) (hd : ¬ d < 1) (hd2 : C < d) (hf : Ev (fun k => pendulumref05_Few.f k B l) true) (hr : Ev (fun k => pendulumref05_Right.f k B l) true) (ok : OkS B l) : Calls Try.prog 3 #[.agg #[.int .i64 B, .slice (some ad) l.length cap], .int .i64 i, .int .i64 no, .int .i64 rel, .int .i64 d, .bool false] w fun e w' => e = .returned (.bool true) ∧ Below w.heap.size w w' := by
  have q0 : decide (i < 0) = false := decide_eq_false (by omega)
  have q1 : decide ((l.length : Int) ≤ i) = false := decide_eq_false (by omega)
  have q2 : decide (no < 0) = false := decide_eq_false (by omega)
  have q3 : decide (rel < 0) = false := decide_eq_false (by omega)
  have q4 : decide (1099511627776 < rel) = false := decide_eq_false (by omega)
  have okt := (ok.2.2.2.2 i.toNat (by omega)).1
  rw [show ((i.toNat : Nat) : Int) = i by omega] at okt
  have hnum := okt.nums
  have hC1 : 1 ≤ C := by omega
  have hCx : C ≤ (rd_T28 l i).f3 := by omega
  obtain ⟨t, ht⟩ : ∃ t, rd_T28 l i = t := ⟨_, rfl⟩
  rw [ht] at hnum hCx okt hCe
  obtain ⟨D, hD⟩ : ∃ D, t.f2 = D := ⟨_, rfl⟩
  rw [hD] at hnum
  have hD1 : 1 ≤ D := by omega
  have hw : wrap64 (rel + D) = rel + D := w64 (by omega) (by omega)
  have hw' : wrap64 (rel + D - 1) = rel + D - 1 := w64 (by omega) (by omega)
  have qd : decide (d < 1) = false := decide_eq_false hd
  have qc : decide (C < d) = true := decide_eq_true hd2
  have hn : Hid (mn (mx d 1) t.f3 = C) := Lib.hid (by rw [hCe]; exact mn_top hd hd2)
  have hv1 : Hid (1 ≤ (C : Int)) := Lib.hid (by omega)
  have hv2 : Hid ((C : Int) ≤ t.f3) := Lib.hid (by omega)
  have qov : decide (C < d) = true := decide_eq_true hd2
  have hov' : Hid (decide (d > (rd_T28 l i).f3) = true) := Lib.hid (by rw [ht, hCe]; exact qov)
  have hr1 : Hid (0 ≤ rel ∧ rel ≤ 1099511627776) := Lib.hid ⟨by omega, by omega⟩
  have hi1 : Hid (0 ≤ i ∧ i < (l.length : Int)) := Lib.hid ⟨by omega, by omega⟩
  have hno1 : Hid (0 ≤ no) := Lib.hid (by omega)
  have hii : i < (l.length : Int) := by omega
  have hi0 : 0 ≤ i := by omega
  clear hnum hCx hrel hrel2 hd hd2
  obtain ⟨Z, eZ⟩ : ∃ A : Array Value, A = #[.int .i64 0, .int .i64 0, .int .i64 0, .int .i64 0, .bool false, .bool false, .bool false, .string ⟨#[]⟩, .int .i64 0, .int .i64 0, .int .i64 0, .int .i64 0, .int .i64 0, .int .i64 0, .int .i64 0, .int .i64 0, .int .i64 0, .int .i64 0, .int .i64 0, .int .i64 0, .int .i64 0, .bool false, .int .i64 0] := ⟨_, rfl⟩
  have zZ : Hid (Z.size = 23) := Lib.hid (by rw [eZ]; rfl)
  have hz : ∀ V : World, (zeroValue 32).run Try.prog V = .ok (.agg Z) V := fun V => by rw [eZ]; kernel_rfl
  replace eZ := Lib.hid eZ
  obtain ⟨J, eJ⟩ : ∃ A, A = JP i no rel (rel + D) false true false ++ RA t (C : Int) (ini t C) := ⟨_, rfl⟩
  have zJ : Hid (J.size = 23) := Lib.hid (by rw [eJ]; exact JJ_size _ _ _ _ _ _ _ _ _ _)
  have oJ : Hid (J.all (·.oneCell') = true) := Lib.hid (by rw [eJ]; exact JJ_one _ _ _ _ _ _ _ _ _ _)
  replace eJ := Lib.hid eJ
  obtain ⟨R0, eR0⟩ : ∃ A, A = RA t (C : Int) ⟨0, 0, false, 0⟩ := ⟨_, rfl⟩
  have zR0 : Hid (R0.size = 16) := Lib.hid (by rw [eR0]; exact RA_size _ _ _)
  have oR0 : Hid (R0.all (·.oneCell') = true) := Lib.hid (by rw [eR0]; exact RA_one _ _ _)
  replace eR0 := Lib.hid eR0
  obtain ⟨R1, eR1⟩ : ∃ A, A = RA t (C : Int) (ini t C) := ⟨_, rfl⟩
  have zR1 : Hid (R1.size = 16) := Lib.hid (by rw [eR1]; exact RA_size _ _ _)
  have oR1 : Hid (R1.all (·.oneCell') = true) := Lib.hid (by rw [eR1]; exact RA_one _ _ _)
  replace eR1 := Lib.hid eR1
  obtain ⟨T, eT⟩ : ∃ A, A = TA t := ⟨_, rfl⟩
  have zT : Hid (T.size = 11) := Lib.hid (by rw [eT]; rfl)
  have oT : Hid (T.all (·.oneCell') = true) := Lib.hid (by rw [eT]; exact TA_one _)
  replace eT := Lib.hid eT
  obtain ⟨U, eU⟩ : ∃ A : Array Value, A = #[.string ⟨#[]⟩, .int .i64 0, .int .i64 0, .int .i64 0, .int .i64 0, .int .i64 0, .int .i64 0, .int .i64 0, .int .i64 0, .int .i64 0, .int .i64 0] := ⟨_, rfl⟩
  have zU : Hid (U.size = 11) := Lib.hid (by rw [eU]; rfl)
  have hzU : ∀ V : World, (zeroValue 28).run Try.prog V = .ok (.agg U) V := fun V => by rw [eU]; kernel_rfl
  replace eU := Lib.hid eU
  obtain ⟨Y, eY⟩ : ∃ A : Array Value, A = #[.string ⟨#[]⟩, .int .i64 0, .int .i64 0, .int .i64 0, .int .i64 0, .int .i64 0, .int .i64 0, .int .i64 0, .int .i64 0, .int .i64 0, .int .i64 0, .int .i64 0, .int .i64 0, .int .i64 0, .bool false, .int .i64 0] := ⟨_, rfl⟩
  have zY : Hid (Y.size = 16) := Lib.hid (by rw [eY]; rfl)
  have hzY : ∀ V : World, (zeroValue 30).run Try.prog V = .ok (.agg Y) V := fun V => by rw [eY]; kernel_rfl
  replace eY := Lib.hid eY
  obtain ⟨PJ, ePJ⟩ : ∃ P : Array Value, P = #[.int .i64 i, .int .i64 no, .int .i64 rel, .int .i64 (rel + D), .bool false, .bool true, .bool false] := ⟨_, rfl⟩
  have hPJ : Hid (PJ ++ R1 = J) := Lib.hid (by rw [ePJ, eR1.out, eJ.out]; rfl)
  replace ePJ := Lib.hid ePJ
  obtain ⟨pr, hpr⟩ : ∃ p, t.f10 = p := ⟨_, rfl⟩
  replace hpr := Lib.hid hpr
  obtain ⟨KK, eKK⟩ : ∃ A : Array Value, A = #[.int .i64 2, .int .i64 pr, .int .i64 rel, .int .i64 i] := ⟨_, rfl⟩
  replace eKK := Lib.hid eKK
  have hjj : Hid (∀ W : World, (binOp .eql 32 (.agg J) (.agg J)).run Try.prog W = .ok (.bool true) W) := Lib.hid (fun W => eq_job W J _ _ _ _ _ _ _ _ _ _ eJ.out)
  have hjg : Hid (∀ (a b : Operand) (W : World), (eqGuard .eql 32 a b (.agg J) (.agg J)).run Try.prog W = .ok () W) := Lib.hid (fun a b W => run_eqGuard_agg W .eql 32 a b _ _ (by kernel_rfl))
  have hkk : Hid (∀ W : World, (binOp .eql 38 (.agg KK) (.agg #[.int .i64 2, .int .i64 pr, .int .i64 rel, .int .i64 i])).run Try.prog W = .ok (.bool true) W) := Lib.hid (fun W => by rw [eKK.out, key_cmp]; simp)
  have hkg : Hid (∀ (a b : Operand) (W : World), (eqGuard .eql 38 a b (.agg KK) (.agg #[.int .i64 2, .int .i64 pr, .int .i64 rel, .int .i64 i])).run Try.prog W = .ok () W) := Lib.hid (fun a b W => run_eqGuard_agg W .eql 38 a b _ _ (by kernel_rfl))
  have hJ3 : Hid (J[3]? = some (.int .i64 (rel + D))) := Lib.hid (by rw [eJ.out]; exact JJ_at _ _ _ _ _ _ _ _ _ _ 3 (by decide))
  have NJ := Lib.hid (fun (W : World) (hW : Below w.heap.size w W) (A0 : Array Value) (eA0 : A0 = #[.int .i64 B, .slice (some ad) l.length cap]) => new_c (B := B) (cap := cap) (x := d) (n := C) (must := false) (Kd.C_below hC hW) hi1.out.1 hi1.out.2 hno1.out hr1.out.1 hr1.out.2 (by rw [ht]; exact okt) (by rw [ht]; exact hn.out) A0 J eA0 (by rw [hov'.out, ht, hD]; exact eJ.out))
  have hrow := Lib.hid (fun (W : World) (B0 : Nat) (h0 : w.heap.size = B0) (hW : Below B0 w W) => row_at4 hC h0 hW hi1.out.1 hi1.out.2 T (by rw [ht]; exact eT.out))
  replace ht := Lib.hid ht
  replace okt := Lib.hid okt
  replace ok := Lib.hid ok
  replace hD := Lib.hid hD
  replace hCe := Lib.hid hCe
  obtain ⟨A0, eA0⟩ : ∃ A0 : Array Value, A0 = #[.int .i64 B, .slice (some ad) l.length cap] := ⟨_, rfl⟩
  rw [← eA0]
  have zA0 : Hid (A0.size = 2) := Lib.hid (by rw [eA0]; rfl)
  replace eA0 := Lib.hid eA0
  obtain ⟨B0, hB0⟩ : ∃ B, w.heap.size = B := ⟨_, rfl⟩
  rw [hB0]
  obtain ⟨V0, hV0⟩ : ∃ V, w.alloc (.cells A0 24) = V := ⟨_, rfl⟩
  have Hs : Hid (V0.heap[B0]? = some (.cells A0 24 (0, 0))) := Lib.hid (by rw [← hV0]; exact (box_new hB0).1)
  have HE : Hid (Below B0 w V0) := Lib.hid (by rw [← hV0, ← hB0]; exact (Below.refl _ _).alloc (Nat.le_refl _) _)
  go_enter Try.func3, Try.ntmps3
  go_upto_region 1 with (fail)
  replace hB0 := Lib.hid hB0
  replace hV0 := Lib.hid hV0
  go_wp2_with fail
  refine (aw_c _).mono ?_; rintro e V_574 ⟨rfl, hb_575⟩
  have H_576 : Hid (V_574.heap[B0]? = some (.cells A0 24 (0, 0))) := Lib.hid ((hb_575.block B0 (blk_lt Hs.out)).trans Hs.out)
  have HE_577 : Hid (Below B0 w V_574) := Lib.hid (HE.out.trans (hb_575.mono (sz_le hB0.out HE.out.size)))
  clear HE Hs
  clear hb_575
  go_wp2_with (first | ((with_reducible refine wpl_gate (T := 24) rfl ?_); refine wpl_ld _ _ rfl (by rfl) B0 rfl H_576.out Try.underlying24 rfl (by kernel_rfl) zA0.out ?_))
  refine (few_c hf hC hc hB0.out HE_577.out _ eA0.out).mono ?_; rintro e V_578 ⟨rfl, hb_579⟩
  have H_580 : Hid (V_578.heap[B0]? = some (.cells A0 24 (0, 0))) := Lib.hid ((hb_579.block B0 (blk_lt H_576.out)).trans H_576.out)
  have HE_581 : Hid (Below B0 w V_578) := Lib.hid (HE_577.out.trans (hb_579.mono (sz_le hB0.out HE_577.out.size)))
  clear HE_577 H_576
  clear hb_579
  go_wp2_with (first | ((with_reducible refine wpl_gate (T := 24) rfl ?_); refine wpl_ld _ _ rfl (by rfl) B0 rfl H_580.out Try.underlying24 rfl (by kernel_rfl) zA0.out ?_))
  refine (right_c hr hC hc hB0.out HE_581.out _ eA0.out).mono ?_; rintro e V_582 ⟨rfl, hb_583⟩
  have H_584 : Hid (V_582.heap[B0]? = some (.cells A0 24 (0, 0))) := Lib.hid ((hb_583.block B0 (blk_lt H_580.out)).trans H_580.out)
  have HE_585 : Hid (Below B0 w V_582) := Lib.hid (HE_581.out.trans (hb_583.mono (sz_le hB0.out HE_581.out.size)))
  clear HE_581 H_580
  clear hb_583
  go_wp2_with (first | ((with_reducible refine wpl_gate (T := 24) rfl ?_); refine wpl_ld _ _ rfl (by rfl) B0 rfl H_584.out Try.underlying24 rfl (by kernel_rfl) zA0.out ?_))
  refine (NJ.out _ (below_to hB0.out HE_585.out) _ eA0.out).mono ?_; rintro e V_586 ⟨rfl, hb_587⟩
  have H_588 : Hid (V_586.heap[B0]? = some (.cells A0 24 (0, 0))) := Lib.hid ((hb_587.block B0 (blk_lt H_584.out)).trans H_584.out)
  have HE_589 : Hid (Below B0 w V_586) := Lib.hid (HE_585.out.trans (hb_587.mono (sz_le hB0.out HE_585.out.size)))
  clear HE_585 H_584
  clear hb_587
  obtain ⟨X_590, hX_592⟩ : ∃ X, V_586.heap.size = X := ⟨_, rfl⟩
  obtain ⟨V_591, q_593_0, q_593_1, q_593_2, q_593_3⟩ := st_new (w := V_586) (T := 32) hX_592 zZ.out zJ.out oJ.out
  have ne_595 : B0 < X_590 := hX_592 ▸ blk_lt H_588.out
  have H_594 : Hid (V_591.heap[B0]? = some (.cells A0 24 (0, 0))) := Lib.hid ((q_593_2 _ ne_595).trans H_588.out)
  have ge_596 : B0 ≤ X_590 := hX_592 ▸ (sz_le hB0.out HE_589.out.size)
  have HE_597 : Hid (Below B0 w V_591) := Lib.hid (q_593_3 _ _ ge_596 HE_589.out)
  have H_598 := Lib.hid q_593_1
  clear q_593_1 q_593_2 q_593_3
  go_upto_region 4 with (fail)
  clear q_593_0 hX_592
  clear HE_589 H_588
  have c_599 : V_591.cell? ⟨B0, 1, none⟩ = some (.slice (some ad) l.length cap) := by rw [blk_cell H_594.out, eA0.out]; rfl
  go_upto_region 6 with (fail)
  obtain ⟨X_600, hX_602⟩ : ∃ X, V_591.heap.size = X := ⟨_, rfl⟩
  obtain ⟨V_601, q_603_0, q_603_1, q_603_2, q_603_3⟩ := st_new (w := V_591) (T := 28) hX_602 zU.out zT.out oT.out
  have ne_605 : B0 < X_600 := hX_602 ▸ blk_lt H_594.out
  have H_604 : Hid (V_601.heap[B0]? = some (.cells A0 24 (0, 0))) := Lib.hid ((q_603_2 _ ne_605).trans H_594.out)
  have ne_607 : X_590 < X_600 := hX_602 ▸ blk_lt H_598.out
  have H_606 : Hid (V_601.heap[X_590]? = some (.cells J 32 (0, 0))) := Lib.hid ((q_603_2 _ ne_607).trans H_598.out)
  have ge_608 : B0 ≤ X_600 := hX_602 ▸ (sz_le hB0.out HE_597.out.size)
  have HE_609 : Hid (Below B0 w V_601) := Lib.hid (q_603_3 _ _ ge_608 HE_597.out)
  have H_610 := Lib.hid q_603_1
  clear q_603_1 q_603_2 q_603_3
  go_upto_region 7 with (first | ((with_reducible refine wpl_gate (T := 28) rfl ?_); refine wpl_ldr _ _ rfl (by rfl) (ad.add (i.toNat * 11)) rfl (hrow.out _ _ hB0.out HE_597.out) Try.underlying28 rfl (by kernel_rfl) zT.out ?_))
  clear q_603_0 hX_602
  clear c_599
  clear HE_597 H_594 H_598
  have c_611 : V_601.cell? ⟨X_600, 3, none⟩ = some (.int .i64 C) := by rw [blk_cell H_610.out, eT.out, ← hCe.out]; rfl
  go_upto_region 12 with (fail)
  clear c_611
  obtain ⟨X_612, hX_614⟩ : ∃ X, V_601.heap.size = X := ⟨_, rfl⟩
  obtain ⟨V_613, q_615_0, q_615_1, q_615_2, q_615_3⟩ := st_new (w := V_601) (T := 30) hX_614 zY.out zR0.out oR0.out
  have ne_617 : B0 < X_612 := hX_614 ▸ blk_lt H_604.out
  have H_616 : Hid (V_613.heap[B0]? = some (.cells A0 24 (0, 0))) := Lib.hid ((q_615_2 _ ne_617).trans H_604.out)
  have ne_619 : X_590 < X_612 := hX_614 ▸ blk_lt H_606.out
  have H_618 : Hid (V_613.heap[X_590]? = some (.cells J 32 (0, 0))) := Lib.hid ((q_615_2 _ ne_619).trans H_606.out)
  have ne_621 : X_600 < X_612 := hX_614 ▸ blk_lt H_610.out
  have H_620 : Hid (V_613.heap[X_600]? = some (.cells T 28 (0, 0))) := Lib.hid ((q_615_2 _ ne_621).trans H_610.out)
  have ge_622 : B0 ≤ X_612 := hX_614 ▸ (sz_le hB0.out HE_609.out.size)
  have HE_623 : Hid (Below B0 w V_613) := Lib.hid (q_615_3 _ _ ge_622 HE_609.out)
  have H_624 := Lib.hid q_615_1
  clear q_615_1 q_615_2 q_615_3
  go_upto_region 13 with (first | ((with_reducible refine wpl_gate (T := 28) rfl ?_); refine wpl_ld _ _ rfl (by rfl) X_600 rfl H_610.out Try.underlying28 rfl (by kernel_rfl) zT.out ?_) | ((with_reducible refine wpl_gateb (T := 30) rfl ?_); refine wpl_bld 30 _ rfl (by rfl) (run_built t C T eT.out (by simp [go_sem]) eR0.out) ?_))
  clear q_615_0 hX_614
  clear HE_609 H_604 H_606 H_610
  go_wp2_with (first | ((with_reducible refine wpl_gate (T := 30) rfl ?_); refine wpl_ld _ _ rfl (by rfl) X_612 rfl H_624.out Try.underlying30 rfl (by kernel_rfl) zR0.out ?_))
  refine (length_c _ t C ⟨0, 0, false, 0⟩ _ eR0.out okt.out hv1.out hv2.out (.inr (len_pos okt.out hv1.out)) (rd (pt t C) (0 : Nat)) (by unfold lenv; rw [if_neg (fun h => by cases h.2)])).mono ?_; rintro e V_625 ⟨rfl, hb_626⟩
  have H_627 : Hid (V_625.heap[B0]? = some (.cells A0 24 (0, 0))) := Lib.hid ((hb_626.block B0 (blk_lt H_616.out)).trans H_616.out)
  have H_628 : Hid (V_625.heap[X_590]? = some (.cells J 32 (0, 0))) := Lib.hid ((hb_626.block X_590 (blk_lt H_618.out)).trans H_618.out)
  have H_629 : Hid (V_625.heap[X_600]? = some (.cells T 28 (0, 0))) := Lib.hid ((hb_626.block X_600 (blk_lt H_620.out)).trans H_620.out)
  have H_630 : Hid (V_625.heap[X_612]? = some (.cells R0 30 (0, 0))) := Lib.hid ((hb_626.block X_612 (blk_lt H_624.out)).trans H_624.out)
  have HE_631 : Hid (Below B0 w V_625) := Lib.hid (HE_623.out.trans (hb_626.mono (sz_le hB0.out HE_623.out.size)))
  clear HE_623 H_616 H_618 H_620 H_624
  clear hb_626
  have cp_633 : V_625.cell? ⟨X_612, 13, none⟩ = some (.int .i64 0) := by rw [blk_cell H_630.out]; exact (by rw [eR0.out]; simp [RA, TA])
  have zp_634 : V_625.frozen? ⟨X_612, 13, none⟩ = false := blk_frozen H_630.out 13
  go_upto_region 14 with (fail)
  have H_635 : Hid ((V_625.setCell ⟨X_612, 13, none⟩ (.int .i64 (rd (pt t C) ((0 : Nat) : Int)))).heap[B0]? = some (.cells A0 24 (0, 0))) := Lib.hid (blk_far H_627.out (Nat.ne_of_lt ne_617) _)
  have H_636 : Hid ((V_625.setCell ⟨X_612, 13, none⟩ (.int .i64 (rd (pt t C) ((0 : Nat) : Int)))).heap[X_590]? = some (.cells J 32 (0, 0))) := Lib.hid (blk_far H_628.out (Nat.ne_of_lt ne_619) _)
  have H_637 : Hid ((V_625.setCell ⟨X_612, 13, none⟩ (.int .i64 (rd (pt t C) ((0 : Nat) : Int)))).heap[X_600]? = some (.cells T 28 (0, 0))) := Lib.hid (blk_far H_629.out (Nat.ne_of_lt ne_621) _)
  have H_638 : Hid ((V_625.setCell ⟨X_612, 13, none⟩ (.int .i64 (rd (pt t C) ((0 : Nat) : Int)))).heap[X_612]? = some (.cells R1 30 (0, 0))) := Lib.hid (blk_put H_630.out 13 _ (by rw [eR0.out, eR1.out]; simp [RA, TA, ini]))
  have HE_639 : Hid (Below B0 w (V_625.setCell ⟨X_612, 13, none⟩ (.int .i64 (rd (pt t C) ((0 : Nat) : Int))))) := Lib.hid (HE_631.out.setCell (p := ⟨X_612, 13, none⟩) ge_622 _)
  clear cp_633 zp_634
  generalize (V_625.setCell ⟨X_612, 13, none⟩ (.int .i64 (rd (pt t C) ((0 : Nat) : Int)))) = V_632 at H_635 H_636 H_637 H_638 HE_639 ⊢
  clear HE_631 H_627 H_628 H_629 H_630
  have c_640 : V_632.cell? ⟨X_600, 2, none⟩ = some (.int .i64 D) := by rw [blk_cell H_637.out, eT.out, ← hD.out]; rfl
  have c_641 : V_632.cell? ⟨X_600, 3, none⟩ = some (.int .i64 C) := by rw [blk_cell H_637.out, eT.out, ← hCe.out]; rfl
  obtain ⟨X_642, hX_644⟩ : ∃ X, V_632.heap.size = X := ⟨_, rfl⟩
  obtain ⟨V_643, q_645_0, q_645_1, q_645_2, q_645_3⟩ := st_new (w := V_632) (T := 32) hX_644 zZ.out zJ.out oJ.out
  have ne_647 : B0 < X_642 := hX_644 ▸ blk_lt H_635.out
  have H_646 : Hid (V_643.heap[B0]? = some (.cells A0 24 (0, 0))) := Lib.hid ((q_645_2 _ ne_647).trans H_635.out)
  have ne_649 : X_590 < X_642 := hX_644 ▸ blk_lt H_636.out
  have H_648 : Hid (V_643.heap[X_590]? = some (.cells J 32 (0, 0))) := Lib.hid ((q_645_2 _ ne_649).trans H_636.out)
  have ne_651 : X_600 < X_642 := hX_644 ▸ blk_lt H_637.out
  have H_650 : Hid (V_643.heap[X_600]? = some (.cells T 28 (0, 0))) := Lib.hid ((q_645_2 _ ne_651).trans H_637.out)
  have ne_653 : X_612 < X_642 := hX_644 ▸ blk_lt H_638.out
  have H_652 : Hid (V_643.heap[X_612]? = some (.cells R1 30 (0, 0))) := Lib.hid ((q_645_2 _ ne_653).trans H_638.out)
  have ge_654 : B0 ≤ X_642 := hX_644 ▸ (sz_le hB0.out HE_639.out.size)
  have HE_655 : Hid (Below B0 w V_643) := Lib.hid (q_645_3 _ _ ge_654 HE_639.out)
  have H_656 := Lib.hid q_645_1
  clear q_645_1 q_645_2 q_645_3
  go_upto_region 15 with (first | ((with_reducible refine wpl_gate (T := 30) rfl ?_); refine wpl_ld _ _ rfl (by rfl) X_612 rfl H_638.out Try.underlying30 rfl (by kernel_rfl) zR1.out ?_) | ((with_reducible refine wpl_gateb (T := 32) rfl ?_); refine wpl_bld 32 _ rfl (by rfl) (job_built i no rel (rel + D) false true R1 zR1.out ePJ.out hPJ.out (by simp [go_sem, hw])) ?_))
  clear q_645_0 hX_644
  clear c_640 c_641
  clear HE_639 H_635 H_636 H_637 H_638
  go_upto_region 18 with (fail)
  have hwi : IntKind.i64.wrap (rel + D) = rel + D := by rw [i64_w]; exact hw
  have hwi' : IntKind.i64.wrap (rel + D - 1) = rel + D - 1 := by rw [i64_w]; exact hw'
  have hjj' := hjj.out
  have hjg' := hjg.out
  have hkk' := hkk.out
  have hkg' := hkg.out
  refine start_ (n := 37) (S := fun w' => w'.heap[X_590]? = some (.cells J 32 (0, 0)) ∧ w'.heap[X_642]? = some (.cells J 32 (0, 0)) ∧ w'.cell? ⟨X_600, 10, none⟩ = some (.int .i64 pr) ∧ w'.cell? ⟨X_600, 2, none⟩ = some (.int .i64 D)) (ds := []) #[false, false, false, false, false, false, false, false, false, false, false, false, false, false, false, false, false, false, false, false, false, false, false, false, false, false, false, false, false, false, false, false, false, false, false, false, false] (by kernel_rfl) rfl rfl ⟨H_648.out, H_656.out, (blk_cell H_650.out 10).trans (by rw [eT.out, ← hpr.out]; rfl), (blk_cell H_650.out 2).trans (by rw [eT.out, ← hD.out]; rfl)⟩ (fun hHeld => ?_)
  refine pure_ (i := 0) (N := (some 107)) (v := ?_) (a' := ?_) #[true, false, false, false, false, false, false, false, false, false, false, false, false, false, false, false, false, false, false, false, false, false, false, false, false, false, false, false, false, false, false, false, false, false, false, false, false] rfl rfl (by kernel_rfl) (fun _ _ _ h => h) (Or.inl ⟨by rfl, ?_⟩) ?_ ?_
  rotate_left
  · intro w'
    go_simp
    with_reducible rfl
  rotate_left
  · simp only [Act.put, List.setIfInBounds_toArray, List.set_cons_zero, List.set_cons_succ, i64_w, i32_w]
    rfl
  refine pure_ (i := 1) (N := (some 108)) (v := ?_) (a' := ?_) #[true, true, false, false, false, false, false, false, false, false, false, false, false, false, false, false, false, false, false, false, false, false, false, false, false, false, false, false, false, false, false, false, false, false, false, false, false] rfl rfl (by kernel_rfl) (fun _ _ _ h => h) (Or.inl ⟨by rfl, ?_⟩) ?_ ?_
  rotate_left
  · intro w'
    go_simp
    with_reducible rfl
  rotate_left
  · simp only [Act.put, List.setIfInBounds_toArray, List.set_cons_zero, List.set_cons_succ, i64_w, i32_w]
    rfl
  refine pure_ (i := 2) (N := (some 109)) (v := ?_) (a' := ?_) #[true, true, true, false, false, false, false, false, false, false, false, false, false, false, false, false, false, false, false, false, false, false, false, false, false, false, false, false, false, false, false, false, false, false, false, false, false] rfl rfl (by kernel_rfl) (fun _ _ _ h => h) (Or.inl ⟨by rfl, ?_⟩) ?_ ?_
  rotate_left
  · intro w'
    go_simp
    with_reducible rfl
  rotate_left
  · simp only [Act.put, List.setIfInBounds_toArray, List.set_cons_zero, List.set_cons_succ, i64_w, i32_w]
    rfl
  refine take_ (i := 3) (N := (some 110)) (v := .agg J) (a' := ?_) #[true, true, true, true, false, false, false, false, false, false, false, false, false, false, false, false, false, false, false, false, false, false, false, false, false, false, false, false, false, false, false, false, false, false, false, false, false] rfl rfl (by kernel_rfl) (fun _ _ _ h => h) (Or.inl ⟨by rfl, ?_⟩) hHeld ?_ ?_
  · rintro w' ⟨s0, s1, s2, s3⟩
    exact ld_op 32 _ rfl X_590 rfl s0 Try.underlying32 rfl (by kernel_rfl) zJ.out
  rotate_left
  · simp only [Act.put, List.setIfInBounds_toArray, List.set_cons_zero, List.set_cons_succ, i64_w, i32_w]
    rfl
  refine take_ (i := 4) (N := (some 111)) (v := .agg J) (a' := ?_) #[true, true, true, true, true, false, false, false, false, false, false, false, false, false, false, false, false, false, false, false, false, false, false, false, false, false, false, false, false, false, false, false, false, false, false, false, false] rfl rfl (by kernel_rfl) (fun _ _ _ h => h) (Or.inl ⟨by rfl, ?_⟩) hHeld ?_ ?_
  · rintro w' ⟨s0, s1, s2, s3⟩
    exact ld_op 32 _ rfl X_642 rfl s1 Try.underlying32 rfl (by kernel_rfl) zJ.out
  rotate_left
  · simp only [Act.put, List.setIfInBounds_toArray, List.set_cons_zero, List.set_cons_succ, i64_w, i32_w]
    rfl
  refine pure_ (i := 5) (N := (some 112)) (v := ?_) (a' := ?_) #[true, true, true, true, true, true, false, false, false, false, false, false, false, false, false, false, false, false, false, false, false, false, false, false, false, false, false, false, false, false, false, false, false, false, false, false, false] rfl rfl (by kernel_rfl) (fun _ _ _ h => h) (Or.inl ⟨by rfl, ?_⟩) ?_ ?_
  rotate_left
  · intro w'
    go_simp
    with_reducible rfl
  rotate_left
  · simp only [Act.put, List.setIfInBounds_toArray, List.set_cons_zero, List.set_cons_succ, i64_w, i32_w]
    rfl
  refine pure_ (i := 6) (N := (some 113)) (v := ?_) (a' := ?_) #[true, true, true, true, true, true, true, false, false, false, false, false, false, false, false, false, false, false, false, false, false, false, false, false, false, false, false, false, false, false, false, false, false, false, false, false, false] rfl rfl (by kernel_rfl) (fun _ _ _ h => h) (Or.inl ⟨by rfl, ?_⟩) ?_ ?_
  rotate_left
  · intro w'
    go_simp
    with_reducible rfl
  rotate_left
  · simp only [Act.put, List.setIfInBounds_toArray, List.set_cons_zero, List.set_cons_succ, i64_w, i32_w]
    rfl
  refine pure_ (i := 7) (N := (some 114)) (v := ?_) (a' := ?_) #[true, true, true, true, true, true, true, true, false, false, false, false, false, false, false, false, false, false, false, false, false, false, false, false, false, false, false, false, false, false, false, false, false, false, false, false, false] rfl rfl (by kernel_rfl) (fun _ _ _ h => h) (Or.inl ⟨by rfl, ?_⟩) ?_ ?_
  rotate_left
  · intro w'
    go_simp
    with_reducible rfl
  rotate_left
  · simp only [Act.put, List.setIfInBounds_toArray, List.set_cons_zero, List.set_cons_succ, i64_w, i32_w]
    rfl
  refine take_ (i := 8) (N := (some 115)) (v := .agg J) (a' := ?_) #[true, true, true, true, true, true, true, true, true, false, false, false, false, false, false, false, false, false, false, false, false, false, false, false, false, false, false, false, false, false, false, false, false, false, false, false, false] rfl rfl (by kernel_rfl) (fun _ _ _ h => h) (Or.inl ⟨by rfl, ?_⟩) hHeld ?_ ?_
  · rintro w' ⟨s0, s1, s2, s3⟩
    exact ld_op 32 _ rfl X_590 rfl s0 Try.underlying32 rfl (by kernel_rfl) zJ.out
  rotate_left
  · simp only [Act.put, List.setIfInBounds_toArray, List.set_cons_zero, List.set_cons_succ, i64_w, i32_w]
    rfl
  refine pure_ (i := 10) (N := (some 117)) (v := ?_) (a' := ?_) #[true, true, true, true, true, true, true, true, true, false, true, false, false, false, false, false, false, false, false, false, false, false, false, false, false, false, false, false, false, false, false, false, false, false, false, false, false] rfl rfl (by kernel_rfl) (fun _ _ _ h => h) (Or.inl ⟨by rfl, ?_⟩) ?_ ?_
  rotate_left
  · intro w'
    go_simp
    with_reducible rfl
  rotate_left
  · simp only [Act.put, List.setIfInBounds_toArray, List.set_cons_zero, List.set_cons_succ, i64_w, i32_w]
    rfl
  refine pure_ (i := 11) (N := (some 118)) (v := ?_) (a' := ?_) #[true, true, true, true, true, true, true, true, true, false, true, true, false, false, false, false, false, false, false, false, false, false, false, false, false, false, false, false, false, false, false, false, false, false, false, false, false] rfl rfl (by kernel_rfl) (fun _ _ _ h => h) (Or.inl ⟨by rfl, ?_⟩) ?_ ?_
  rotate_left
  · intro w'
    go_simp
    with_reducible rfl
  rotate_left
  · simp only [Act.put, List.setIfInBounds_toArray, List.set_cons_zero, List.set_cons_succ, i64_w, i32_w]
    rfl
  refine take_ (i := 12) (N := (some 119)) (v := ?_) (a' := ?_) #[true, true, true, true, true, true, true, true, true, false, true, true, true, false, false, false, false, false, false, false, false, false, false, false, false, false, false, false, false, false, false, false, false, false, false, false, false] rfl rfl (by kernel_rfl) (fun _ _ _ h => h) (Or.inl ⟨by rfl, ?_⟩) hHeld ?_ ?_
  rotate_left
  · rintro w' ⟨s0, s1, s2, s3⟩
    go_simp
    with_reducible rfl
  rotate_left
  · simp only [Act.put, List.setIfInBounds_toArray, List.set_cons_zero, List.set_cons_succ, i64_w, i32_w]
    rfl
  refine pure_ (i := 13) (N := (some 120)) (v := ?_) (a' := ?_) #[true, true, true, true, true, true, true, true, true, false, true, true, true, true, false, false, false, false, false, false, false, false, false, false, false, false, false, false, false, false, false, false, false, false, false, false, false] rfl rfl (by kernel_rfl) (fun _ _ _ h => h) (Or.inl ⟨by rfl, ?_⟩) ?_ ?_
  rotate_left
  · intro w'
    go_simp
    with_reducible rfl
  rotate_left
  · simp only [Act.put, List.setIfInBounds_toArray, List.set_cons_zero, List.set_cons_succ, i64_w, i32_w]
    rfl
  refine pure_ (i := 14) (N := (some 121)) (v := ?_) (a' := ?_) #[true, true, true, true, true, true, true, true, true, false, true, true, true, true, true, false, false, false, false, false, false, false, false, false, false, false, false, false, false, false, false, false, false, false, false, false, false] rfl rfl (by kernel_rfl) (fun _ _ _ h => h) (Or.inl ⟨by rfl, ?_⟩) ?_ ?_
  rotate_left
  · intro w'
    go_simp
    with_reducible rfl
  rotate_left
  · simp only [Act.put, List.setIfInBounds_toArray, List.set_cons_zero, List.set_cons_succ, i64_w, i32_w]
    rfl
  refine pure_ (i := 15) (N := (some 122)) (v := ?_) (a' := ?_) #[true, true, true, true, true, true, true, true, true, false, true, true, true, true, true, true, false, false, false, false, false, false, false, false, false, false, false, false, false, false, false, false, false, false, false, false, false] rfl rfl (by kernel_rfl) (fun _ _ _ h => h) (Or.inl ⟨by rfl, ?_⟩) ?_ ?_
  rotate_left
  · intro w'
    go_simp
    with_reducible rfl
  rotate_left
  · simp only [Act.put, List.setIfInBounds_toArray, List.set_cons_zero, List.set_cons_succ, i64_w, i32_w]
    rfl
  refine one_ (i := 9) (N := (some 116)) #[true, true, true, true, true, true, true, true, true, true, true, true, true, true, true, true, false, false, false, false, false, false, false, false, false, false, false, false, false, false, false, false, false, false, false, false, false] rfl rfl (by kernel_rfl) (by decide) (fun K hK => ?_)
  refine goes_ Try.func13 (by kernel_rfl) rfl #[.agg J] (by rfl) rfl rfl (by (try simp only [List.map_toArray, List.map_cons, List.map_nil]); first | done | rfl) ?_
  refine (keyj_c _ _ KK _ _ _ _ _ _ _ _ _ _ eJ.out (by rw [eKK.out, bnd_ini, hpr.out]; rfl)).mono ?_
  rintro e Va ⟨rfl, hb4⟩
  have Hja := Lib.hid ((hb4.block X_590 (blk_lt H_648.out)).trans H_648.out)
  have Hva := Lib.hid ((hb4.block X_642 (blk_lt H_656.out)).trans H_656.out)
  have Hta := Lib.hid ((hb4.block X_600 (blk_lt H_650.out)).trans H_650.out)
  have HEa := Lib.hid ((HE_655.out.drew).trans (hb4.mono (sz_le hB0.out HE_655.out.size)))
  refine ⟨_, rfl, ?_⟩
  refine hK.out _ _ ⟨Hja.out, Hva.out, (blk_cell Hta.out 10).trans (by rw [eT.out, ← hpr.out]; rfl), (blk_cell Hta.out 2).trans (by rw [eT.out, ← hD.out]; rfl)⟩ (fun hHeld => ?_)
  clear hb4 H_648 H_656 H_650 HE_655
  clear hK K
  refine norm_ (a' := ?_) ?_ ?_
  rotate_left
  · show Act.put _ (some 116) _ = _
    simp only [Act.put, List.setIfInBounds_toArray, List.set_cons_zero, List.set_cons_succ, i64_w, i32_w]
    rfl
  refine pure_ (i := 16) (N := (some 123)) (v := ?_) (a' := ?_) #[true, true, true, true, true, true, true, true, true, true, true, true, true, true, true, true, true, false, false, false, false, false, false, false, false, false, false, false, false, false, false, false, false, false, false, false, false] rfl rfl (by kernel_rfl) (fun _ _ _ h => h) (Or.inl ⟨by rfl, ?_⟩) ?_ ?_
  rotate_left
  · intro w'
    go_simp
    with_reducible rfl
  rotate_left
  · simp only [Act.put, List.setIfInBounds_toArray, List.set_cons_zero, List.set_cons_succ, i64_w, i32_w]
    rfl
  refine pure_ (i := 17) (N := (some 124)) (v := ?_) (a' := ?_) #[true, true, true, true, true, true, true, true, true, true, true, true, true, true, true, true, true, true, false, false, false, false, false, false, false, false, false, false, false, false, false, false, false, false, false, false, false] rfl rfl (by kernel_rfl) (fun _ _ _ h => h) (Or.inl ⟨by rfl, ?_⟩) ?_ ?_
  rotate_left
  · intro w'
    go_simp
    with_reducible rfl
  rotate_left
  · simp only [Act.put, List.setIfInBounds_toArray, List.set_cons_zero, List.set_cons_succ, i64_w, i32_w]
    rfl
  refine pure_ (i := 18) (N := (some 125)) (v := ?_) (a' := ?_) #[true, true, true, true, true, true, true, true, true, true, true, true, true, true, true, true, true, true, true, false, false, false, false, false, false, false, false, false, false, false, false, false, false, false, false, false, false] rfl rfl (by kernel_rfl) (fun _ _ _ h => h) (Or.inl ⟨by rfl, ?_⟩) ?_ ?_
  rotate_left
  · intro w'
    go_simp
    with_reducible rfl
  rotate_left
  · simp only [Act.put, List.setIfInBounds_toArray, List.set_cons_zero, List.set_cons_succ, i64_w, i32_w]
    rfl
  refine take_ (i := 19) (N := (some 126)) (v := .agg J) (a' := ?_) #[true, true, true, true, true, true, true, true, true, true, true, true, true, true, true, true, true, true, true, true, false, false, false, false, false, false, false, false, false, false, false, false, false, false, false, false, false] rfl rfl (by kernel_rfl) (fun _ _ _ h => h) (Or.inl ⟨by rfl, ?_⟩) hHeld ?_ ?_
  · rintro w' ⟨s0, s1, s2, s3⟩
    exact ld_op 32 _ rfl X_590 rfl s0 Try.underlying32 rfl (by kernel_rfl) zJ.out
  rotate_left
  · simp only [Act.put, List.setIfInBounds_toArray, List.set_cons_zero, List.set_cons_succ, i64_w, i32_w]
    rfl
  refine pure_ (i := 20) (N := (some 127)) (v := ?_) (a' := ?_) #[true, true, true, true, true, true, true, true, true, true, true, true, true, true, true, true, true, true, true, true, true, false, false, false, false, false, false, false, false, false, false, false, false, false, false, false, false] rfl rfl (by kernel_rfl) (fun _ _ _ h => h) (Or.inl ⟨by rfl, ?_⟩) ?_ ?_
  rotate_left
  · intro w'
    go_simp
    with_reducible rfl
  rotate_left
  · simp only [Act.put, List.setIfInBounds_toArray, List.set_cons_zero, List.set_cons_succ, i64_w, i32_w]
    rfl
  refine pure_ (i := 21) (N := (some 128)) (v := ?_) (a' := ?_) #[true, true, true, true, true, true, true, true, true, true, true, true, true, true, true, true, true, true, true, true, true, true, false, false, false, false, false, false, false, false, false, false, false, false, false, false, false] rfl rfl (by kernel_rfl) (fun _ _ _ h => h) (Or.inl ⟨by rfl, ?_⟩) ?_ ?_
  rotate_left
  · intro w'
    go_simp
    with_reducible rfl
  rotate_left
  · simp only [Act.put, List.setIfInBounds_toArray, List.set_cons_zero, List.set_cons_succ, i64_w, i32_w]
    rfl
  refine take_ (i := 22) (N := (some 129)) (v := ?_) (a' := ?_) #[true, true, true, true, true, true, true, true, true, true, true, true, true, true, true, true, true, true, true, true, true, true, true, false, false, false, false, false, false, false, false, false, false, false, false, false, false] rfl rfl (by kernel_rfl) (fun _ _ _ h => h) (Or.inl ⟨by rfl, ?_⟩) hHeld ?_ ?_
  rotate_left
  · rintro w' ⟨s0, s1, s2, s3⟩
    go_simp
    with_reducible rfl
  rotate_left
  · simp only [Act.put, List.setIfInBounds_toArray, List.set_cons_zero, List.set_cons_succ, i64_w, i32_w]
    rfl
  refine pure_ (i := 23) (N := (some 130)) (v := ?_) (a' := ?_) #[true, true, true, true, true, true, true, true, true, true, true, true, true, true, true, true, true, true, true, true, true, true, true, true, false, false, false, false, false, false, false, false, false, false, false, false, false] rfl rfl (by kernel_rfl) (fun _ _ _ h => h) (Or.inl ⟨by rfl, ?_⟩) ?_ ?_
  rotate_left
  · intro w'
    go_simp
    with_reducible rfl
  rotate_left
  · simp only [Act.put, List.setIfInBounds_toArray, List.set_cons_zero, List.set_cons_succ, i64_w, i32_w]
    rfl
  refine one_ (i := 24) (N := (some 131)) #[true, true, true, true, true, true, true, true, true, true, true, true, true, true, true, true, true, true, true, true, true, true, true, true, true, false, false, false, false, false, false, false, false, false, false, false, false] rfl rfl (by kernel_rfl) (by decide) (fun K hK => ?_)
  refine goes_ Try.func14 (by kernel_rfl) rfl #[.agg J, .int .i64 (rel + D)] (by rfl) rfl rfl (by (try simp only [List.map_toArray, List.map_cons, List.map_nil]); first | done | rfl) ?_
  refine (late_b _ _ (rel + D) (rel + D) true hJ3.out (by simp)).mono ?_
  rintro e Vb ⟨rfl, hb4⟩
  have Hjb := Lib.hid ((hb4.block X_590 (blk_lt Hja.out)).trans Hja.out)
  have Hvb := Lib.hid ((hb4.block X_642 (blk_lt Hva.out)).trans Hva.out)
  have Htb := Lib.hid ((hb4.block X_600 (blk_lt Hta.out)).trans Hta.out)
  have HEb := Lib.hid ((HEa.out).trans (hb4.mono (sz_le hB0.out HEa.out.size)))
  refine ⟨_, rfl, ?_⟩
  refine hK.out _ _ ⟨Hjb.out, Hvb.out, (blk_cell Htb.out 10).trans (by rw [eT.out, ← hpr.out]; rfl), (blk_cell Htb.out 2).trans (by rw [eT.out, ← hD.out]; rfl)⟩ (fun hHeld => ?_)
  clear hb4 Hja Hva Hta HEa
  clear hK K
  refine norm_ (a' := ?_) ?_ ?_
  rotate_left
  · show Act.put _ (some 131) _ = _
    simp only [Act.put, List.setIfInBounds_toArray, List.set_cons_zero, List.set_cons_succ, i64_w, i32_w]
    rfl
  refine pure_ (i := 25) (N := (some 132)) (v := ?_) (a' := ?_) #[true, true, true, true, true, true, true, true, true, true, true, true, true, true, true, true, true, true, true, true, true, true, true, true, true, true, false, false, false, false, false, false, false, false, false, false, false] rfl rfl (by kernel_rfl) (fun _ _ _ h => h) (Or.inl ⟨by rfl, ?_⟩) ?_ ?_
  rotate_left
  · intro w'
    go_simp
    with_reducible rfl
  rotate_left
  · simp only [Act.put, List.setIfInBounds_toArray, List.set_cons_zero, List.set_cons_succ, i64_w, i32_w]
    rfl
  refine pure_ (i := 26) (N := (some 133)) (v := ?_) (a' := ?_) #[true, true, true, true, true, true, true, true, true, true, true, true, true, true, true, true, true, true, true, true, true, true, true, true, true, true, true, false, false, false, false, false, false, false, false, false, false] rfl rfl (by kernel_rfl) (fun _ _ _ h => h) (Or.inl ⟨by rfl, ?_⟩) ?_ ?_
  rotate_left
  · intro w'
    go_simp
    with_reducible rfl
  rotate_left
  · simp only [Act.put, List.setIfInBounds_toArray, List.set_cons_zero, List.set_cons_succ, i64_w, i32_w]
    rfl
  refine take_ (i := 27) (N := (some 134)) (v := .agg J) (a' := ?_) #[true, true, true, true, true, true, true, true, true, true, true, true, true, true, true, true, true, true, true, true, true, true, true, true, true, true, true, true, false, false, false, false, false, false, false, false, false] rfl rfl (by kernel_rfl) (fun _ _ _ h => h) (Or.inl ⟨by rfl, ?_⟩) hHeld ?_ ?_
  · rintro w' ⟨s0, s1, s2, s3⟩
    exact ld_op 32 _ rfl X_590 rfl s0 Try.underlying32 rfl (by kernel_rfl) zJ.out
  rotate_left
  · simp only [Act.put, List.setIfInBounds_toArray, List.set_cons_zero, List.set_cons_succ, i64_w, i32_w]
    rfl
  refine pure_ (i := 28) (N := (some 135)) (v := ?_) (a' := ?_) #[true, true, true, true, true, true, true, true, true, true, true, true, true, true, true, true, true, true, true, true, true, true, true, true, true, true, true, true, true, false, false, false, false, false, false, false, false] rfl rfl (by kernel_rfl) (fun _ _ _ h => h) (Or.inl ⟨by rfl, ?_⟩) ?_ ?_
  rotate_left
  · intro w'
    go_simp
    with_reducible rfl
  rotate_left
  · simp only [Act.put, List.setIfInBounds_toArray, List.set_cons_zero, List.set_cons_succ, i64_w, i32_w]
    rfl
  refine pure_ (i := 29) (N := (some 136)) (v := ?_) (a' := ?_) #[true, true, true, true, true, true, true, true, true, true, true, true, true, true, true, true, true, true, true, true, true, true, true, true, true, true, true, true, true, true, false, false, false, false, false, false, false] rfl rfl (by kernel_rfl) (fun _ _ _ h => h) (Or.inl ⟨by rfl, ?_⟩) ?_ ?_
  rotate_left
  · intro w'
    go_simp
    with_reducible rfl
  rotate_left
  · simp only [Act.put, List.setIfInBounds_toArray, List.set_cons_zero, List.set_cons_succ, i64_w, i32_w]
    rfl
  refine take_ (i := 30) (N := (some 137)) (v := ?_) (a' := ?_) #[true, true, true, true, true, true, true, true, true, true, true, true, true, true, true, true, true, true, true, true, true, true, true, true, true, true, true, true, true, true, true, false, false, false, false, false, false] rfl rfl (by kernel_rfl) (fun _ _ _ h => h) (Or.inl ⟨by rfl, ?_⟩) hHeld ?_ ?_
  rotate_left
  · rintro w' ⟨s0, s1, s2, s3⟩
    go_simp
    with_reducible rfl
  rotate_left
  · simp only [Act.put, List.setIfInBounds_toArray, List.set_cons_zero, List.set_cons_succ, i64_w, i32_w]
    rfl
  refine pure_ (i := 31) (N := (some 138)) (v := ?_) (a' := ?_) #[true, true, true, true, true, true, true, true, true, true, true, true, true, true, true, true, true, true, true, true, true, true, true, true, true, true, true, true, true, true, true, true, false, false, false, false, false] rfl rfl (by kernel_rfl) (fun _ _ _ h => h) (Or.inl ⟨by rfl, ?_⟩) ?_ ?_
  rotate_left
  · intro w'
    go_simp
    with_reducible rfl
  rotate_left
  · simp only [Act.put, List.setIfInBounds_toArray, List.set_cons_zero, List.set_cons_succ, i64_w, i32_w]
    rfl
  refine pure_ (i := 32) (N := (some 139)) (v := ?_) (a' := ?_) #[true, true, true, true, true, true, true, true, true, true, true, true, true, true, true, true, true, true, true, true, true, true, true, true, true, true, true, true, true, true, true, true, true, false, false, false, false] rfl rfl (by kernel_rfl) (fun _ _ _ h => h) (Or.inl ⟨by rfl, ?_⟩) ?_ ?_
  rotate_left
  · intro w'
    go_simp
    with_reducible rfl
  rotate_left
  · simp only [Act.put, List.setIfInBounds_toArray, List.set_cons_zero, List.set_cons_succ, i64_w, i32_w]
    rfl
  refine one_ (i := 33) (N := (some 140)) #[true, true, true, true, true, true, true, true, true, true, true, true, true, true, true, true, true, true, true, true, true, true, true, true, true, true, true, true, true, true, true, true, true, true, false, false, false] rfl rfl (by kernel_rfl) (by decide) (fun K hK => ?_)
  refine goes_ Try.func14 (by kernel_rfl) rfl #[.agg J, .int .i64 (rel + D - 1)] (by rfl) rfl rfl (by (try simp only [List.map_toArray, List.map_cons, List.map_nil]); first | done | rfl) ?_
  refine (late_b _ _ (rel + D) (rel + D - 1) false hJ3.out (by simp; omega)).mono ?_
  rintro e Vc ⟨rfl, hb4⟩
  have Hjc := Lib.hid ((hb4.block X_590 (blk_lt Hjb.out)).trans Hjb.out)
  have Hvc := Lib.hid ((hb4.block X_642 (blk_lt Hvb.out)).trans Hvb.out)
  have Htc := Lib.hid ((hb4.block X_600 (blk_lt Htb.out)).trans Htb.out)
  have HEc := Lib.hid ((HEb.out).trans (hb4.mono (sz_le hB0.out HEb.out.size)))
  refine ⟨_, rfl, ?_⟩
  refine hK.out _ _ ⟨Hjc.out, Hvc.out, (blk_cell Htc.out 10).trans (by rw [eT.out, ← hpr.out]; rfl), (blk_cell Htc.out 2).trans (by rw [eT.out, ← hD.out]; rfl)⟩ (fun hHeld => ?_)
  clear hb4 Hjb Hvb Htb HEb
  clear hK K
  refine norm_ (a' := ?_) ?_ ?_
  rotate_left
  · show Act.put _ (some 140) _ = _
    simp only [Act.put, List.setIfInBounds_toArray, List.set_cons_zero, List.set_cons_succ, i64_w, i32_w]
    rfl
  refine pure_ (i := 34) (N := (some 141)) (v := ?_) (a' := ?_) #[true, true, true, true, true, true, true, true, true, true, true, true, true, true, true, true, true, true, true, true, true, true, true, true, true, true, true, true, true, true, true, true, true, true, true, false, false] rfl rfl (by kernel_rfl) (fun _ _ _ h => h) (Or.inl ⟨by rfl, ?_⟩) ?_ ?_
  rotate_left
  · intro w'
    go_simp
    with_reducible rfl
  rotate_left
  · simp only [Act.put, List.setIfInBounds_toArray, List.set_cons_zero, List.set_cons_succ, i64_w, i32_w]
    rfl
  refine pure_ (i := 35) (N := (some 142)) (v := ?_) (a' := ?_) #[true, true, true, true, true, true, true, true, true, true, true, true, true, true, true, true, true, true, true, true, true, true, true, true, true, true, true, true, true, true, true, true, true, true, true, true, false] rfl rfl (by kernel_rfl) (fun _ _ _ h => h) (Or.inl ⟨by rfl, ?_⟩) ?_ ?_
  rotate_left
  · intro w'
    go_simp
    with_reducible rfl
  rotate_left
  · simp only [Act.put, List.setIfInBounds_toArray, List.set_cons_zero, List.set_cons_succ, i64_w, i32_w]
    rfl
  refine pure_ (i := 36) (N := (some 12)) (v := ?_) (a' := ?_) #[true, true, true, true, true, true, true, true, true, true, true, true, true, true, true, true, true, true, true, true, true, true, true, true, true, true, true, true, true, true, true, true, true, true, true, true, true] rfl rfl (by kernel_rfl) (fun _ _ _ h => h) (Or.inl ⟨by rfl, ?_⟩) ?_ ?_
  rotate_left
  · intro w'
    go_simp
    with_reducible rfl
  rotate_left
  · simp only [Act.put, List.setIfInBounds_toArray, List.set_cons_zero, List.set_cons_succ, i64_w, i32_w]
    rfl
  refine done_ (by kernel_rfl) ?_
  go_wp2
  go_ret
  exact ⟨rfl, by first | exact HEc.out | exact HEc.out.drew | exact pw_below_drewN HEc.out _⟩
end Go.Proofs.Ytpjehbcchanmhaa.PS
