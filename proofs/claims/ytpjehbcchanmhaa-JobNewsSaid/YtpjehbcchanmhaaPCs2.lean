/- recover.Step: it is done. -/
import Derived.Test.YtpjehbcchanmhaaPCf
import Derived.Lib.Hide
import Derived.Deep.DeepCutAuto
namespace Go.Proofs.Ytpjehbcchanmhaa.PC
open Go.RowKit Go.Proofs.YtpjehbcchanmhaaW.PrintWords Go.Proofs.YtpjehbcchanmhaaW.PrintLast Go.Proofs.YtpjehbcchanmhaaW.PrintMore
set_option linter.unusedVariables false
set_option linter.unusedSimpArgs false
set_option maxRecDepth 100000 in
set_option maxHeartbeats 2000000 in
theorem step_alone (w : World) (a0 : ByteArray) (a1 : Int) (a2 : Int) (a3 : Int) (a4 : Int) (a5 : Int) (a6 : Int) (a7 : Int) (a8 : Int) (a9 : Int) (a10 : Int) (a11 : Int) (a12 : Int) (a13 : Int) (a14 : Bool) (a15 : Int) (a16 : Bool) (k : Nat) (L : List Int) (hs : (a14 || a16) = false) (hl : ¬ wrap64 (a13 - 1) > 0) (h9 : ¬ a9 = 1) (hL : demand_Parts.f k a0 a1 a2 a3 a4 a5 a6 a7 a8 a9 a10 a11 = some L) :
    Calls Try.prog 23 #[.agg #[.string a0, .int .i64 a1, .int .i64 a2, .int .i64 a3, .int .i64 a4, .int .i64 a5, .int .i64 a6, .int .i64 a7, .int .i64 a8, .int .i64 a9, .int .i64 a10, .int .i64 a11, .int .i64 a12, .int .i64 a13, .bool a14, .int .i64 a15], .bool a16] w fun e w' => e = .returned (.tuple #[.agg #[.string a0, .int .i64 a1, .int .i64 a2, .int .i64 a3, .int .i64 a4, .int .i64 a5, .int .i64 a6, .int .i64 a7, .int .i64 a8, .int .i64 a9, .int .i64 a10, .int .i64 a11, .int .i64 a12, .int .i64 (wrap64 (a13 - 1)), .bool false, .int .i64 a15], .int .i64 4]) ∧ Below w.heap.size w w' := by
  have g9 : (a9 == 1) = false := by simpa using h9
  have g9' : (a9 != 1) = true := by simpa using h9
  clear h9
  obtain ⟨W, hW⟩ : ∃ W, W = (w.alloc (.cells #[.string a0, .int .i64 a1, .int .i64 a2, .int .i64 a3, .int .i64 a4, .int .i64 a5, .int .i64 a6, .int .i64 a7, .int .i64 a8, .int .i64 a9, .int .i64 a10, .int .i64 a11, .int .i64 a12, .int .i64 a13, .bool a14, .int .i64 a15] 30)).alloc (.cells #[.string ⟨#[]⟩, .int .i64 0, .int .i64 0, .int .i64 0, .int .i64 0, .int .i64 0, .int .i64 0, .int .i64 0, .int .i64 0, .int .i64 0, .int .i64 0, .int .i64 0, .int .i64 0, .int .i64 0, .bool false, .int .i64 0] 30) := ⟨_, rfl⟩
  obtain ⟨h1, h2, hb⟩ := two_boxed w _ _ hW
  have hz : ∀ V : World, (zeroValue 30).run Try.prog V = .ok (.agg #[.string ⟨#[]⟩, .int .i64 0, .int .i64 0, .int .i64 0, .int .i64 0, .int .i64 0, .int .i64 0, .int .i64 0, .int .i64 0, .int .i64 0, .int .i64 0, .int .i64 0, .int .i64 0, .int .i64 0, .bool false, .int .i64 0]) V := fun V => by kernel_rfl
  obtain ⟨B, hB⟩ : ∃ B, B = w.heap.size := ⟨_, rfl⟩
  rw [← hB] at h1 h2 hb
  have c13 : W.cell? ⟨B, 13, none⟩ = some (.int .i64 a13) := blk_cell h1 13
  have c14 : W.cell? ⟨B, 14, none⟩ = some (.bool a14) := blk_cell h1 14
  have z13 : W.frozen? ⟨B, 13, none⟩ = false := blk_frozen h1 13
  have z14 : W.frozen? ⟨B, 14, none⟩ = false := blk_frozen h1 14
  have HB2 : Hid (((W.setCell ⟨B, 13, none⟩ (.int .i64 (wrap64 (a13 - 1)))).setCell ⟨B, 14, none⟩ (.bool false)).heap[B]? = some (.cells #[.string a0, .int .i64 a1, .int .i64 a2, .int .i64 a3, .int .i64 a4, .int .i64 a5, .int .i64 a6, .int .i64 a7, .int .i64 a8, .int .i64 a9, .int .i64 a10, .int .i64 a11, .int .i64 a12, .int .i64 (wrap64 (a13 - 1)), .bool false, .int .i64 a15] 30 (0, 0))) := Lib.hid (by rw [← hs]; exact blk_put (blk_put h1 13 _ rfl) 14 _ rfl)
  have HR2 : Hid (((W.setCell ⟨B, 13, none⟩ (.int .i64 (wrap64 (a13 - 1)))).setCell ⟨B, 14, none⟩ (.bool false)).heap[B + 1]? = some (.cells #[.string ⟨#[]⟩, .int .i64 0, .int .i64 0, .int .i64 0, .int .i64 0, .int .i64 0, .int .i64 0, .int .i64 0, .int .i64 0, .int .i64 0, .int .i64 0, .int .i64 0, .int .i64 0, .int .i64 0, .bool false, .int .i64 0] 30 (0, 0))) := Lib.hid (blk_far (blk_far h2 (by show B + 1 ≠ B; omega) _) (by show B + 1 ≠ B; omega) _)
  have HBe : Hid (Below B w ((W.setCell ⟨B, 13, none⟩ (.int .i64 (wrap64 (a13 - 1)))).setCell ⟨B, 14, none⟩ (.bool false))) := Lib.hid ((hb.setCell (p := ⟨B, 13, none⟩) (Nat.le_refl _) _).setCell (p := ⟨B, 14, none⟩) (Nat.le_refl _) _)
  replace hW := Lib.hid hW
  replace hB := Lib.hid hB
  replace hs := Lib.hid hs
  clear h1 h2 hb
  go_enter Try.func23, Try.ntmps23
  go_upto_region 1 with (fail)
  rw [← hW.out, ← hB.out]
  go_upto_region 2 with (fail)
  go_cut [] (fun wx => wx = ((W.setCell ⟨B, 13, none⟩ (.int .i64 (wrap64 (a13 - 1)))).setCell ⟨B, 14, none⟩ (.bool false)))
  case first =>
    cases a14 with
    | true => (go_wp2_with fail); go_meet; first | rfl | (rw [← hs.out]; done) | (rw [← hs.out]; rfl)
    | false => (go_wp2_with fail); go_meet; first | rfl | (rw [← hs.out]; done) | (rw [← hs.out]; rfl)
  case rest =>
  obtain rfl := hcut
  generalize (W.setCell ⟨B, 13, none⟩ (.int .i64 (wrap64 (a13 - 1)))).setCell ⟨B, 14, none⟩ (.bool false) = W2 at HB2 HR2 HBe ⊢
  clear c13 c14 z13 z14 hz
  have c0 : W2.cell? ⟨B, 0, none⟩ = some (.string a0) := blk_cell HB2.out 0
  have c1 : W2.cell? ⟨B, 1, none⟩ = some (.int .i64 a1) := blk_cell HB2.out 1
  have c2 : W2.cell? ⟨B, 2, none⟩ = some (.int .i64 a2) := blk_cell HB2.out 2
  have c3 : W2.cell? ⟨B, 3, none⟩ = some (.int .i64 a3) := blk_cell HB2.out 3
  have c4 : W2.cell? ⟨B, 4, none⟩ = some (.int .i64 a4) := blk_cell HB2.out 4
  have c5 : W2.cell? ⟨B, 5, none⟩ = some (.int .i64 a5) := blk_cell HB2.out 5
  have c6 : W2.cell? ⟨B, 6, none⟩ = some (.int .i64 a6) := blk_cell HB2.out 6
  have c7 : W2.cell? ⟨B, 7, none⟩ = some (.int .i64 a7) := blk_cell HB2.out 7
  have c8 : W2.cell? ⟨B, 8, none⟩ = some (.int .i64 a8) := blk_cell HB2.out 8
  have c9 : W2.cell? ⟨B, 9, none⟩ = some (.int .i64 a9) := blk_cell HB2.out 9
  have c10 : W2.cell? ⟨B, 10, none⟩ = some (.int .i64 a10) := blk_cell HB2.out 10
  have c11 : W2.cell? ⟨B, 11, none⟩ = some (.int .i64 a11) := blk_cell HB2.out 11
  have c12 : W2.cell? ⟨B, 12, none⟩ = some (.int .i64 a12) := blk_cell HB2.out 12
  have c13 : W2.cell? ⟨B, 13, none⟩ = some (.int .i64 (wrap64 (a13 - 1))) := blk_cell HB2.out 13
  have c14 : W2.cell? ⟨B, 14, none⟩ = some (.bool false) := blk_cell HB2.out 14
  have c15 : W2.cell? ⟨B, 15, none⟩ = some (.int .i64 a15) := blk_cell HB2.out 15
  have hRlt : B + 1 < W2.heap.size := blk_lt HR2.out
  have hBlt : B < W2.heap.size := blk_lt HB2.out
  have HP := Lib.hid (demand_Parts.calls k a0 a1 a2 a3 a4 a5 a6 a7 a8 a9 a10 a11 L W2 hL)
  have gl : wrap64 (a13 - 1) ≤ 0 := by omega
  clear hL hl
  go_wp2_with fail
  refine HP.out.mono ?_; rintro e w4 ⟨v, rfl, hv, hb4⟩
  clear hv
  have HB : Hid (w4.heap[B]? = some (.cells #[.string a0, .int .i64 a1, .int .i64 a2, .int .i64 a3, .int .i64 a4, .int .i64 a5, .int .i64 a6, .int .i64 a7, .int .i64 a8, .int .i64 a9, .int .i64 a10, .int .i64 a11, .int .i64 a12, .int .i64 (wrap64 (a13 - 1)), .bool false, .int .i64 a15] 30 (0, 0))) := Lib.hid ((hb4.block B hBlt).trans HB2.out)
  have HR : Hid (w4.heap[B + 1]? = some (.cells #[.string ⟨#[]⟩, .int .i64 0, .int .i64 0, .int .i64 0, .int .i64 0, .int .i64 0, .int .i64 0, .int .i64 0, .int .i64 0, .int .i64 0, .int .i64 0, .int .i64 0, .int .i64 0, .int .i64 0, .bool false, .int .i64 0] 30 (0, 0))) := Lib.hid ((hb4.block (B + 1) hRlt).trans HR2.out)
  have HE : Hid (Below B w w4) := Lib.hid (HBe.out.trans (hb4.mono (by omega)))
  clear HB2 HR2 HBe hb4 HP c0 c1 c2 c3 c4 c5 c6 c7 c8 c9 c10 c11 c12 c13 c14 c15
  have c0 : w4.cell? ⟨B, 0, none⟩ = some (.string a0) := blk_cell HB.out 0
  have c1 : w4.cell? ⟨B, 1, none⟩ = some (.int .i64 a1) := blk_cell HB.out 1
  have c2 : w4.cell? ⟨B, 2, none⟩ = some (.int .i64 a2) := blk_cell HB.out 2
  have c3 : w4.cell? ⟨B, 3, none⟩ = some (.int .i64 a3) := blk_cell HB.out 3
  have c4 : w4.cell? ⟨B, 4, none⟩ = some (.int .i64 a4) := blk_cell HB.out 4
  have c5 : w4.cell? ⟨B, 5, none⟩ = some (.int .i64 a5) := blk_cell HB.out 5
  have c6 : w4.cell? ⟨B, 6, none⟩ = some (.int .i64 a6) := blk_cell HB.out 6
  have c7 : w4.cell? ⟨B, 7, none⟩ = some (.int .i64 a7) := blk_cell HB.out 7
  have c8 : w4.cell? ⟨B, 8, none⟩ = some (.int .i64 a8) := blk_cell HB.out 8
  have c9 : w4.cell? ⟨B, 9, none⟩ = some (.int .i64 a9) := blk_cell HB.out 9
  have c10 : w4.cell? ⟨B, 10, none⟩ = some (.int .i64 a10) := blk_cell HB.out 10
  have c11 : w4.cell? ⟨B, 11, none⟩ = some (.int .i64 a11) := blk_cell HB.out 11
  have c12 : w4.cell? ⟨B, 12, none⟩ = some (.int .i64 a12) := blk_cell HB.out 12
  have c13 : w4.cell? ⟨B, 13, none⟩ = some (.int .i64 (wrap64 (a13 - 1))) := blk_cell HB.out 13
  have c14 : w4.cell? ⟨B, 14, none⟩ = some (.bool false) := blk_cell HB.out 14
  have c15 : w4.cell? ⟨B, 15, none⟩ = some (.int .i64 a15) := blk_cell HB.out 15
  have y0 : w4.cell? ⟨B + 1, 0, none⟩ = some (.string ⟨#[]⟩) := blk_cell HR.out 0
  have z0 : w4.frozen? ⟨B + 1, 0, none⟩ = false := blk_frozen HR.out 0
  have y1 : w4.cell? ⟨B + 1, 1, none⟩ = some (.int .i64 0) := blk_cell HR.out 1
  have z1 : w4.frozen? ⟨B + 1, 1, none⟩ = false := blk_frozen HR.out 1
  have y2 : w4.cell? ⟨B + 1, 2, none⟩ = some (.int .i64 0) := blk_cell HR.out 2
  have z2 : w4.frozen? ⟨B + 1, 2, none⟩ = false := blk_frozen HR.out 2
  have y3 : w4.cell? ⟨B + 1, 3, none⟩ = some (.int .i64 0) := blk_cell HR.out 3
  have z3 : w4.frozen? ⟨B + 1, 3, none⟩ = false := blk_frozen HR.out 3
  have y4 : w4.cell? ⟨B + 1, 4, none⟩ = some (.int .i64 0) := blk_cell HR.out 4
  have z4 : w4.frozen? ⟨B + 1, 4, none⟩ = false := blk_frozen HR.out 4
  have y5 : w4.cell? ⟨B + 1, 5, none⟩ = some (.int .i64 0) := blk_cell HR.out 5
  have z5 : w4.frozen? ⟨B + 1, 5, none⟩ = false := blk_frozen HR.out 5
  have y6 : w4.cell? ⟨B + 1, 6, none⟩ = some (.int .i64 0) := blk_cell HR.out 6
  have z6 : w4.frozen? ⟨B + 1, 6, none⟩ = false := blk_frozen HR.out 6
  have y7 : w4.cell? ⟨B + 1, 7, none⟩ = some (.int .i64 0) := blk_cell HR.out 7
  have z7 : w4.frozen? ⟨B + 1, 7, none⟩ = false := blk_frozen HR.out 7
  have y8 : w4.cell? ⟨B + 1, 8, none⟩ = some (.int .i64 0) := blk_cell HR.out 8
  have z8 : w4.frozen? ⟨B + 1, 8, none⟩ = false := blk_frozen HR.out 8
  have y9 : w4.cell? ⟨B + 1, 9, none⟩ = some (.int .i64 0) := blk_cell HR.out 9
  have z9 : w4.frozen? ⟨B + 1, 9, none⟩ = false := blk_frozen HR.out 9
  have y10 : w4.cell? ⟨B + 1, 10, none⟩ = some (.int .i64 0) := blk_cell HR.out 10
  have z10 : w4.frozen? ⟨B + 1, 10, none⟩ = false := blk_frozen HR.out 10
  have y11 : w4.cell? ⟨B + 1, 11, none⟩ = some (.int .i64 0) := blk_cell HR.out 11
  have z11 : w4.frozen? ⟨B + 1, 11, none⟩ = false := blk_frozen HR.out 11
  have y12 : w4.cell? ⟨B + 1, 12, none⟩ = some (.int .i64 0) := blk_cell HR.out 12
  have z12 : w4.frozen? ⟨B + 1, 12, none⟩ = false := blk_frozen HR.out 12
  have y13 : w4.cell? ⟨B + 1, 13, none⟩ = some (.int .i64 0) := blk_cell HR.out 13
  have z13 : w4.frozen? ⟨B + 1, 13, none⟩ = false := blk_frozen HR.out 13
  have y14 : w4.cell? ⟨B + 1, 14, none⟩ = some (.bool false) := blk_cell HR.out 14
  have z14 : w4.frozen? ⟨B + 1, 14, none⟩ = false := blk_frozen HR.out 14
  have y15 : w4.cell? ⟨B + 1, 15, none⟩ = some (.int .i64 0) := blk_cell HR.out 15
  have z15 : w4.frozen? ⟨B + 1, 15, none⟩ = false := blk_frozen HR.out 15
  have HF : Hid (Below B w ((((((((((((((((w4.setCell ⟨B + 1, 0, none⟩ (.string a0)).setCell ⟨B + 1, 1, none⟩ (.int .i64 a1)).setCell ⟨B + 1, 2, none⟩ (.int .i64 a2)).setCell ⟨B + 1, 3, none⟩ (.int .i64 a3)).setCell ⟨B + 1, 4, none⟩ (.int .i64 a4)).setCell ⟨B + 1, 5, none⟩ (.int .i64 a5)).setCell ⟨B + 1, 6, none⟩ (.int .i64 a6)).setCell ⟨B + 1, 7, none⟩ (.int .i64 a7)).setCell ⟨B + 1, 8, none⟩ (.int .i64 a8)).setCell ⟨B + 1, 9, none⟩ (.int .i64 a9)).setCell ⟨B + 1, 10, none⟩ (.int .i64 a10)).setCell ⟨B + 1, 11, none⟩ (.int .i64 a11)).setCell ⟨B + 1, 12, none⟩ (.int .i64 a12)).setCell ⟨B + 1, 13, none⟩ (.int .i64 (wrap64 (a13 - 1)))).setCell ⟨B + 1, 14, none⟩ (.bool false)).setCell ⟨B + 1, 15, none⟩ (.int .i64 a15))) := Lib.hid (be16 _ _ _ _ _ _ _ _ _ _ _ _ _ _ _ _ HE.out (Nat.le_succ B))
  have HS : Hid (((((((((((((((((w4.setCell ⟨B + 1, 0, none⟩ (.string a0)).setCell ⟨B + 1, 1, none⟩ (.int .i64 a1)).setCell ⟨B + 1, 2, none⟩ (.int .i64 a2)).setCell ⟨B + 1, 3, none⟩ (.int .i64 a3)).setCell ⟨B + 1, 4, none⟩ (.int .i64 a4)).setCell ⟨B + 1, 5, none⟩ (.int .i64 a5)).setCell ⟨B + 1, 6, none⟩ (.int .i64 a6)).setCell ⟨B + 1, 7, none⟩ (.int .i64 a7)).setCell ⟨B + 1, 8, none⟩ (.int .i64 a8)).setCell ⟨B + 1, 9, none⟩ (.int .i64 a9)).setCell ⟨B + 1, 10, none⟩ (.int .i64 a10)).setCell ⟨B + 1, 11, none⟩ (.int .i64 a11)).setCell ⟨B + 1, 12, none⟩ (.int .i64 a12)).setCell ⟨B + 1, 13, none⟩ (.int .i64 (wrap64 (a13 - 1)))).setCell ⟨B + 1, 14, none⟩ (.bool false)).setCell ⟨B + 1, 15, none⟩ (.int .i64 a15)).heap[B + 1]? = some (.cells #[.string a0, .int .i64 a1, .int .i64 a2, .int .i64 a3, .int .i64 a4, .int .i64 a5, .int .i64 a6, .int .i64 a7, .int .i64 a8, .int .i64 a9, .int .i64 a10, .int .i64 a11, .int .i64 a12, .int .i64 (wrap64 (a13 - 1)), .bool false, .int .i64 a15] 30 (0, 0))) := Lib.hid (st16 HR.out)
  go_wp2
  generalize ((((((((((((((((w4.setCell ⟨B + 1, 0, none⟩ (.string a0)).setCell ⟨B + 1, 1, none⟩ (.int .i64 a1)).setCell ⟨B + 1, 2, none⟩ (.int .i64 a2)).setCell ⟨B + 1, 3, none⟩ (.int .i64 a3)).setCell ⟨B + 1, 4, none⟩ (.int .i64 a4)).setCell ⟨B + 1, 5, none⟩ (.int .i64 a5)).setCell ⟨B + 1, 6, none⟩ (.int .i64 a6)).setCell ⟨B + 1, 7, none⟩ (.int .i64 a7)).setCell ⟨B + 1, 8, none⟩ (.int .i64 a8)).setCell ⟨B + 1, 9, none⟩ (.int .i64 a9)).setCell ⟨B + 1, 10, none⟩ (.int .i64 a10)).setCell ⟨B + 1, 11, none⟩ (.int .i64 a11)).setCell ⟨B + 1, 12, none⟩ (.int .i64 a12)).setCell ⟨B + 1, 13, none⟩ (.int .i64 (wrap64 (a13 - 1)))).setCell ⟨B + 1, 14, none⟩ (.bool false)).setCell ⟨B + 1, 15, none⟩ (.int .i64 a15)) = W6 at HF HS ⊢
  clear y0 z0 y1 z1 y2 z2 y3 z3 y4 z4 y5 z5 y6 z6 y7 z7 y8 z8 y9 z9 y10 z10 y11 z11 y12 z12 y13 z13 y14 z14 y15 z15 c0 c1 c2 c3 c4 c5 c6 c7 c8 c9 c10 c11 c12 c13 c14 c15
  have c0 : W6.cell? ⟨B + 1, 0, none⟩ = some (.string a0) := blk_cell HS.out 0
  have c1 : W6.cell? ⟨B + 1, 1, none⟩ = some (.int .i64 a1) := blk_cell HS.out 1
  have c2 : W6.cell? ⟨B + 1, 2, none⟩ = some (.int .i64 a2) := blk_cell HS.out 2
  have c3 : W6.cell? ⟨B + 1, 3, none⟩ = some (.int .i64 a3) := blk_cell HS.out 3
  have c4 : W6.cell? ⟨B + 1, 4, none⟩ = some (.int .i64 a4) := blk_cell HS.out 4
  have c5 : W6.cell? ⟨B + 1, 5, none⟩ = some (.int .i64 a5) := blk_cell HS.out 5
  have c6 : W6.cell? ⟨B + 1, 6, none⟩ = some (.int .i64 a6) := blk_cell HS.out 6
  have c7 : W6.cell? ⟨B + 1, 7, none⟩ = some (.int .i64 a7) := blk_cell HS.out 7
  have c8 : W6.cell? ⟨B + 1, 8, none⟩ = some (.int .i64 a8) := blk_cell HS.out 8
  have c9 : W6.cell? ⟨B + 1, 9, none⟩ = some (.int .i64 a9) := blk_cell HS.out 9
  have c10 : W6.cell? ⟨B + 1, 10, none⟩ = some (.int .i64 a10) := blk_cell HS.out 10
  have c11 : W6.cell? ⟨B + 1, 11, none⟩ = some (.int .i64 a11) := blk_cell HS.out 11
  have c12 : W6.cell? ⟨B + 1, 12, none⟩ = some (.int .i64 a12) := blk_cell HS.out 12
  have c13 : W6.cell? ⟨B + 1, 13, none⟩ = some (.int .i64 (wrap64 (a13 - 1))) := blk_cell HS.out 13
  have c14 : W6.cell? ⟨B + 1, 14, none⟩ = some (.bool false) := blk_cell HS.out 14
  have c15 : W6.cell? ⟨B + 1, 15, none⟩ = some (.int .i64 a15) := blk_cell HS.out 15
  refine bodyPost_ret (v := .tuple #[.agg #[.string a0, .int .i64 a1, .int .i64 a2, .int .i64 a3, .int .i64 a4, .int .i64 a5, .int .i64 a6, .int .i64 a7, .int .i64 a8, .int .i64 a9, .int .i64 a10, .int .i64 a11, .int .i64 a12, .int .i64 (wrap64 (a13 - 1)), .bool false, .int .i64 a15], .int .i64 4]) (by simp [results, Try.results23, go_sem, c0, c1, c2, c3, c4, c5, c6, c7, c8, c9, c10, c11, c12, c13, c14, c15]) rfl ⟨rfl, ?_⟩
  rw [← hB.out]
  exact HF.out
set_option maxRecDepth 100000 in
set_option maxHeartbeats 2000000 in
theorem step_last (w : World) (a0 : ByteArray) (a1 : Int) (a2 : Int) (a3 : Int) (a4 : Int) (a5 : Int) (a6 : Int) (a7 : Int) (a8 : Int) (a9 : Int) (a10 : Int) (a11 : Int) (a12 : Int) (a13 : Int) (a14 : Bool) (a15 : Int) (a16 : Bool) (k : Nat) (L : List Int) (hs : (a14 || a16) = false) (hl : ¬ wrap64 (a13 - 1) > 0) (h9 : a9 = 1) (hL : demand_Parts.f k a0 a1 a2 a3 a4 a5 a6 a7 a8 a9 a10 a11 = some L) (hp : a12 = wrap64 ((L.length : Int) - 1)) :
    Calls Try.prog 23 #[.agg #[.string a0, .int .i64 a1, .int .i64 a2, .int .i64 a3, .int .i64 a4, .int .i64 a5, .int .i64 a6, .int .i64 a7, .int .i64 a8, .int .i64 a9, .int .i64 a10, .int .i64 a11, .int .i64 a12, .int .i64 a13, .bool a14, .int .i64 a15], .bool a16] w fun e w' => e = .returned (.tuple #[.agg #[.string a0, .int .i64 a1, .int .i64 a2, .int .i64 a3, .int .i64 a4, .int .i64 a5, .int .i64 a6, .int .i64 a7, .int .i64 a8, .int .i64 a9, .int .i64 a10, .int .i64 a11, .int .i64 a12, .int .i64 (wrap64 (a13 - 1)), .bool false, .int .i64 a15], .int .i64 4]) ∧ Below w.heap.size w w' := by
  have g9 : (a9 == 1) = true := by rw [h9]; rfl
  have g9' : (a9 != 1) = false := by rw [h9]; rfl
  clear h9
  have gp : (a12 == wrap64 ((L.length : Int) - 1)) = true := by rw [← hp]; simp
  clear hp
  obtain ⟨W, hW⟩ : ∃ W, W = (w.alloc (.cells #[.string a0, .int .i64 a1, .int .i64 a2, .int .i64 a3, .int .i64 a4, .int .i64 a5, .int .i64 a6, .int .i64 a7, .int .i64 a8, .int .i64 a9, .int .i64 a10, .int .i64 a11, .int .i64 a12, .int .i64 a13, .bool a14, .int .i64 a15] 30)).alloc (.cells #[.string ⟨#[]⟩, .int .i64 0, .int .i64 0, .int .i64 0, .int .i64 0, .int .i64 0, .int .i64 0, .int .i64 0, .int .i64 0, .int .i64 0, .int .i64 0, .int .i64 0, .int .i64 0, .int .i64 0, .bool false, .int .i64 0] 30) := ⟨_, rfl⟩
  obtain ⟨h1, h2, hb⟩ := two_boxed w _ _ hW
  have hz : ∀ V : World, (zeroValue 30).run Try.prog V = .ok (.agg #[.string ⟨#[]⟩, .int .i64 0, .int .i64 0, .int .i64 0, .int .i64 0, .int .i64 0, .int .i64 0, .int .i64 0, .int .i64 0, .int .i64 0, .int .i64 0, .int .i64 0, .int .i64 0, .int .i64 0, .bool false, .int .i64 0]) V := fun V => by kernel_rfl
  obtain ⟨B, hB⟩ : ∃ B, B = w.heap.size := ⟨_, rfl⟩
  rw [← hB] at h1 h2 hb
  have c13 : W.cell? ⟨B, 13, none⟩ = some (.int .i64 a13) := blk_cell h1 13
  have c14 : W.cell? ⟨B, 14, none⟩ = some (.bool a14) := blk_cell h1 14
  have z13 : W.frozen? ⟨B, 13, none⟩ = false := blk_frozen h1 13
  have z14 : W.frozen? ⟨B, 14, none⟩ = false := blk_frozen h1 14
  have HB2 : Hid (((W.setCell ⟨B, 13, none⟩ (.int .i64 (wrap64 (a13 - 1)))).setCell ⟨B, 14, none⟩ (.bool false)).heap[B]? = some (.cells #[.string a0, .int .i64 a1, .int .i64 a2, .int .i64 a3, .int .i64 a4, .int .i64 a5, .int .i64 a6, .int .i64 a7, .int .i64 a8, .int .i64 a9, .int .i64 a10, .int .i64 a11, .int .i64 a12, .int .i64 (wrap64 (a13 - 1)), .bool false, .int .i64 a15] 30 (0, 0))) := Lib.hid (by rw [← hs]; exact blk_put (blk_put h1 13 _ rfl) 14 _ rfl)
  have HR2 : Hid (((W.setCell ⟨B, 13, none⟩ (.int .i64 (wrap64 (a13 - 1)))).setCell ⟨B, 14, none⟩ (.bool false)).heap[B + 1]? = some (.cells #[.string ⟨#[]⟩, .int .i64 0, .int .i64 0, .int .i64 0, .int .i64 0, .int .i64 0, .int .i64 0, .int .i64 0, .int .i64 0, .int .i64 0, .int .i64 0, .int .i64 0, .int .i64 0, .int .i64 0, .bool false, .int .i64 0] 30 (0, 0))) := Lib.hid (blk_far (blk_far h2 (by show B + 1 ≠ B; omega) _) (by show B + 1 ≠ B; omega) _)
  have HBe : Hid (Below B w ((W.setCell ⟨B, 13, none⟩ (.int .i64 (wrap64 (a13 - 1)))).setCell ⟨B, 14, none⟩ (.bool false))) := Lib.hid ((hb.setCell (p := ⟨B, 13, none⟩) (Nat.le_refl _) _).setCell (p := ⟨B, 14, none⟩) (Nat.le_refl _) _)
  replace hW := Lib.hid hW
  replace hB := Lib.hid hB
  replace hs := Lib.hid hs
  clear h1 h2 hb
  go_enter Try.func23, Try.ntmps23
  go_upto_region 1 with (fail)
  rw [← hW.out, ← hB.out]
  go_upto_region 2 with (fail)
  go_cut [] (fun wx => wx = ((W.setCell ⟨B, 13, none⟩ (.int .i64 (wrap64 (a13 - 1)))).setCell ⟨B, 14, none⟩ (.bool false)))
  case first =>
    cases a14 with
    | true => (go_wp2_with fail); go_meet; first | rfl | (rw [← hs.out]; done) | (rw [← hs.out]; rfl)
    | false => (go_wp2_with fail); go_meet; first | rfl | (rw [← hs.out]; done) | (rw [← hs.out]; rfl)
  case rest =>
  obtain rfl := hcut
  generalize (W.setCell ⟨B, 13, none⟩ (.int .i64 (wrap64 (a13 - 1)))).setCell ⟨B, 14, none⟩ (.bool false) = W2 at HB2 HR2 HBe ⊢
  clear c13 c14 z13 z14 hz
  have c0 : W2.cell? ⟨B, 0, none⟩ = some (.string a0) := blk_cell HB2.out 0
  have c1 : W2.cell? ⟨B, 1, none⟩ = some (.int .i64 a1) := blk_cell HB2.out 1
  have c2 : W2.cell? ⟨B, 2, none⟩ = some (.int .i64 a2) := blk_cell HB2.out 2
  have c3 : W2.cell? ⟨B, 3, none⟩ = some (.int .i64 a3) := blk_cell HB2.out 3
  have c4 : W2.cell? ⟨B, 4, none⟩ = some (.int .i64 a4) := blk_cell HB2.out 4
  have c5 : W2.cell? ⟨B, 5, none⟩ = some (.int .i64 a5) := blk_cell HB2.out 5
  have c6 : W2.cell? ⟨B, 6, none⟩ = some (.int .i64 a6) := blk_cell HB2.out 6
  have c7 : W2.cell? ⟨B, 7, none⟩ = some (.int .i64 a7) := blk_cell HB2.out 7
  have c8 : W2.cell? ⟨B, 8, none⟩ = some (.int .i64 a8) := blk_cell HB2.out 8
  have c9 : W2.cell? ⟨B, 9, none⟩ = some (.int .i64 a9) := blk_cell HB2.out 9
  have c10 : W2.cell? ⟨B, 10, none⟩ = some (.int .i64 a10) := blk_cell HB2.out 10
  have c11 : W2.cell? ⟨B, 11, none⟩ = some (.int .i64 a11) := blk_cell HB2.out 11
  have c12 : W2.cell? ⟨B, 12, none⟩ = some (.int .i64 a12) := blk_cell HB2.out 12
  have c13 : W2.cell? ⟨B, 13, none⟩ = some (.int .i64 (wrap64 (a13 - 1))) := blk_cell HB2.out 13
  have c14 : W2.cell? ⟨B, 14, none⟩ = some (.bool false) := blk_cell HB2.out 14
  have c15 : W2.cell? ⟨B, 15, none⟩ = some (.int .i64 a15) := blk_cell HB2.out 15
  have hRlt : B + 1 < W2.heap.size := blk_lt HR2.out
  have hBlt : B < W2.heap.size := blk_lt HB2.out
  have HP := Lib.hid (demand_Parts.calls k a0 a1 a2 a3 a4 a5 a6 a7 a8 a9 a10 a11 L W2 hL)
  have gl : wrap64 (a13 - 1) ≤ 0 := by omega
  clear hL hl
  go_wp2_with fail
  refine HP.out.mono ?_; rintro e w4 ⟨v, rfl, hv, hb4⟩
  obtain ⟨Av, cv, rfl, hlv, _⟩ := Kd.R_reads hv
  clear hv
  have HB : Hid (w4.heap[B]? = some (.cells #[.string a0, .int .i64 a1, .int .i64 a2, .int .i64 a3, .int .i64 a4, .int .i64 a5, .int .i64 a6, .int .i64 a7, .int .i64 a8, .int .i64 a9, .int .i64 a10, .int .i64 a11, .int .i64 a12, .int .i64 (wrap64 (a13 - 1)), .bool false, .int .i64 a15] 30 (0, 0))) := Lib.hid ((hb4.block B hBlt).trans HB2.out)
  have HR : Hid (w4.heap[B + 1]? = some (.cells #[.string ⟨#[]⟩, .int .i64 0, .int .i64 0, .int .i64 0, .int .i64 0, .int .i64 0, .int .i64 0, .int .i64 0, .int .i64 0, .int .i64 0, .int .i64 0, .int .i64 0, .int .i64 0, .int .i64 0, .bool false, .int .i64 0] 30 (0, 0))) := Lib.hid ((hb4.block (B + 1) hRlt).trans HR2.out)
  have HE : Hid (Below B w w4) := Lib.hid (HBe.out.trans (hb4.mono (by omega)))
  clear HB2 HR2 HBe hb4 HP c0 c1 c2 c3 c4 c5 c6 c7 c8 c9 c10 c11 c12 c13 c14 c15
  have c0 : w4.cell? ⟨B, 0, none⟩ = some (.string a0) := blk_cell HB.out 0
  have c1 : w4.cell? ⟨B, 1, none⟩ = some (.int .i64 a1) := blk_cell HB.out 1
  have c2 : w4.cell? ⟨B, 2, none⟩ = some (.int .i64 a2) := blk_cell HB.out 2
  have c3 : w4.cell? ⟨B, 3, none⟩ = some (.int .i64 a3) := blk_cell HB.out 3
  have c4 : w4.cell? ⟨B, 4, none⟩ = some (.int .i64 a4) := blk_cell HB.out 4
  have c5 : w4.cell? ⟨B, 5, none⟩ = some (.int .i64 a5) := blk_cell HB.out 5
  have c6 : w4.cell? ⟨B, 6, none⟩ = some (.int .i64 a6) := blk_cell HB.out 6
  have c7 : w4.cell? ⟨B, 7, none⟩ = some (.int .i64 a7) := blk_cell HB.out 7
  have c8 : w4.cell? ⟨B, 8, none⟩ = some (.int .i64 a8) := blk_cell HB.out 8
  have c9 : w4.cell? ⟨B, 9, none⟩ = some (.int .i64 a9) := blk_cell HB.out 9
  have c10 : w4.cell? ⟨B, 10, none⟩ = some (.int .i64 a10) := blk_cell HB.out 10
  have c11 : w4.cell? ⟨B, 11, none⟩ = some (.int .i64 a11) := blk_cell HB.out 11
  have c12 : w4.cell? ⟨B, 12, none⟩ = some (.int .i64 a12) := blk_cell HB.out 12
  have c13 : w4.cell? ⟨B, 13, none⟩ = some (.int .i64 (wrap64 (a13 - 1))) := blk_cell HB.out 13
  have c14 : w4.cell? ⟨B, 14, none⟩ = some (.bool false) := blk_cell HB.out 14
  have c15 : w4.cell? ⟨B, 15, none⟩ = some (.int .i64 a15) := blk_cell HB.out 15
  have y0 : w4.cell? ⟨B + 1, 0, none⟩ = some (.string ⟨#[]⟩) := blk_cell HR.out 0
  have z0 : w4.frozen? ⟨B + 1, 0, none⟩ = false := blk_frozen HR.out 0
  have y1 : w4.cell? ⟨B + 1, 1, none⟩ = some (.int .i64 0) := blk_cell HR.out 1
  have z1 : w4.frozen? ⟨B + 1, 1, none⟩ = false := blk_frozen HR.out 1
  have y2 : w4.cell? ⟨B + 1, 2, none⟩ = some (.int .i64 0) := blk_cell HR.out 2
  have z2 : w4.frozen? ⟨B + 1, 2, none⟩ = false := blk_frozen HR.out 2
  have y3 : w4.cell? ⟨B + 1, 3, none⟩ = some (.int .i64 0) := blk_cell HR.out 3
  have z3 : w4.frozen? ⟨B + 1, 3, none⟩ = false := blk_frozen HR.out 3
  have y4 : w4.cell? ⟨B + 1, 4, none⟩ = some (.int .i64 0) := blk_cell HR.out 4
  have z4 : w4.frozen? ⟨B + 1, 4, none⟩ = false := blk_frozen HR.out 4
  have y5 : w4.cell? ⟨B + 1, 5, none⟩ = some (.int .i64 0) := blk_cell HR.out 5
  have z5 : w4.frozen? ⟨B + 1, 5, none⟩ = false := blk_frozen HR.out 5
  have y6 : w4.cell? ⟨B + 1, 6, none⟩ = some (.int .i64 0) := blk_cell HR.out 6
  have z6 : w4.frozen? ⟨B + 1, 6, none⟩ = false := blk_frozen HR.out 6
  have y7 : w4.cell? ⟨B + 1, 7, none⟩ = some (.int .i64 0) := blk_cell HR.out 7
  have z7 : w4.frozen? ⟨B + 1, 7, none⟩ = false := blk_frozen HR.out 7
  have y8 : w4.cell? ⟨B + 1, 8, none⟩ = some (.int .i64 0) := blk_cell HR.out 8
  have z8 : w4.frozen? ⟨B + 1, 8, none⟩ = false := blk_frozen HR.out 8
  have y9 : w4.cell? ⟨B + 1, 9, none⟩ = some (.int .i64 0) := blk_cell HR.out 9
  have z9 : w4.frozen? ⟨B + 1, 9, none⟩ = false := blk_frozen HR.out 9
  have y10 : w4.cell? ⟨B + 1, 10, none⟩ = some (.int .i64 0) := blk_cell HR.out 10
  have z10 : w4.frozen? ⟨B + 1, 10, none⟩ = false := blk_frozen HR.out 10
  have y11 : w4.cell? ⟨B + 1, 11, none⟩ = some (.int .i64 0) := blk_cell HR.out 11
  have z11 : w4.frozen? ⟨B + 1, 11, none⟩ = false := blk_frozen HR.out 11
  have y12 : w4.cell? ⟨B + 1, 12, none⟩ = some (.int .i64 0) := blk_cell HR.out 12
  have z12 : w4.frozen? ⟨B + 1, 12, none⟩ = false := blk_frozen HR.out 12
  have y13 : w4.cell? ⟨B + 1, 13, none⟩ = some (.int .i64 0) := blk_cell HR.out 13
  have z13 : w4.frozen? ⟨B + 1, 13, none⟩ = false := blk_frozen HR.out 13
  have y14 : w4.cell? ⟨B + 1, 14, none⟩ = some (.bool false) := blk_cell HR.out 14
  have z14 : w4.frozen? ⟨B + 1, 14, none⟩ = false := blk_frozen HR.out 14
  have y15 : w4.cell? ⟨B + 1, 15, none⟩ = some (.int .i64 0) := blk_cell HR.out 15
  have z15 : w4.frozen? ⟨B + 1, 15, none⟩ = false := blk_frozen HR.out 15
  have HF : Hid (Below B w ((((((((((((((((w4.setCell ⟨B + 1, 0, none⟩ (.string a0)).setCell ⟨B + 1, 1, none⟩ (.int .i64 a1)).setCell ⟨B + 1, 2, none⟩ (.int .i64 a2)).setCell ⟨B + 1, 3, none⟩ (.int .i64 a3)).setCell ⟨B + 1, 4, none⟩ (.int .i64 a4)).setCell ⟨B + 1, 5, none⟩ (.int .i64 a5)).setCell ⟨B + 1, 6, none⟩ (.int .i64 a6)).setCell ⟨B + 1, 7, none⟩ (.int .i64 a7)).setCell ⟨B + 1, 8, none⟩ (.int .i64 a8)).setCell ⟨B + 1, 9, none⟩ (.int .i64 a9)).setCell ⟨B + 1, 10, none⟩ (.int .i64 a10)).setCell ⟨B + 1, 11, none⟩ (.int .i64 a11)).setCell ⟨B + 1, 12, none⟩ (.int .i64 a12)).setCell ⟨B + 1, 13, none⟩ (.int .i64 (wrap64 (a13 - 1)))).setCell ⟨B + 1, 14, none⟩ (.bool false)).setCell ⟨B + 1, 15, none⟩ (.int .i64 a15))) := Lib.hid (be16 _ _ _ _ _ _ _ _ _ _ _ _ _ _ _ _ HE.out (Nat.le_succ B))
  have HS : Hid (((((((((((((((((w4.setCell ⟨B + 1, 0, none⟩ (.string a0)).setCell ⟨B + 1, 1, none⟩ (.int .i64 a1)).setCell ⟨B + 1, 2, none⟩ (.int .i64 a2)).setCell ⟨B + 1, 3, none⟩ (.int .i64 a3)).setCell ⟨B + 1, 4, none⟩ (.int .i64 a4)).setCell ⟨B + 1, 5, none⟩ (.int .i64 a5)).setCell ⟨B + 1, 6, none⟩ (.int .i64 a6)).setCell ⟨B + 1, 7, none⟩ (.int .i64 a7)).setCell ⟨B + 1, 8, none⟩ (.int .i64 a8)).setCell ⟨B + 1, 9, none⟩ (.int .i64 a9)).setCell ⟨B + 1, 10, none⟩ (.int .i64 a10)).setCell ⟨B + 1, 11, none⟩ (.int .i64 a11)).setCell ⟨B + 1, 12, none⟩ (.int .i64 a12)).setCell ⟨B + 1, 13, none⟩ (.int .i64 (wrap64 (a13 - 1)))).setCell ⟨B + 1, 14, none⟩ (.bool false)).setCell ⟨B + 1, 15, none⟩ (.int .i64 a15)).heap[B + 1]? = some (.cells #[.string a0, .int .i64 a1, .int .i64 a2, .int .i64 a3, .int .i64 a4, .int .i64 a5, .int .i64 a6, .int .i64 a7, .int .i64 a8, .int .i64 a9, .int .i64 a10, .int .i64 a11, .int .i64 a12, .int .i64 (wrap64 (a13 - 1)), .bool false, .int .i64 a15] 30 (0, 0))) := Lib.hid (st16 HR.out)
  go_wp2
  generalize ((((((((((((((((w4.setCell ⟨B + 1, 0, none⟩ (.string a0)).setCell ⟨B + 1, 1, none⟩ (.int .i64 a1)).setCell ⟨B + 1, 2, none⟩ (.int .i64 a2)).setCell ⟨B + 1, 3, none⟩ (.int .i64 a3)).setCell ⟨B + 1, 4, none⟩ (.int .i64 a4)).setCell ⟨B + 1, 5, none⟩ (.int .i64 a5)).setCell ⟨B + 1, 6, none⟩ (.int .i64 a6)).setCell ⟨B + 1, 7, none⟩ (.int .i64 a7)).setCell ⟨B + 1, 8, none⟩ (.int .i64 a8)).setCell ⟨B + 1, 9, none⟩ (.int .i64 a9)).setCell ⟨B + 1, 10, none⟩ (.int .i64 a10)).setCell ⟨B + 1, 11, none⟩ (.int .i64 a11)).setCell ⟨B + 1, 12, none⟩ (.int .i64 a12)).setCell ⟨B + 1, 13, none⟩ (.int .i64 (wrap64 (a13 - 1)))).setCell ⟨B + 1, 14, none⟩ (.bool false)).setCell ⟨B + 1, 15, none⟩ (.int .i64 a15)) = W6 at HF HS ⊢
  clear y0 z0 y1 z1 y2 z2 y3 z3 y4 z4 y5 z5 y6 z6 y7 z7 y8 z8 y9 z9 y10 z10 y11 z11 y12 z12 y13 z13 y14 z14 y15 z15 c0 c1 c2 c3 c4 c5 c6 c7 c8 c9 c10 c11 c12 c13 c14 c15
  have c0 : W6.cell? ⟨B + 1, 0, none⟩ = some (.string a0) := blk_cell HS.out 0
  have c1 : W6.cell? ⟨B + 1, 1, none⟩ = some (.int .i64 a1) := blk_cell HS.out 1
  have c2 : W6.cell? ⟨B + 1, 2, none⟩ = some (.int .i64 a2) := blk_cell HS.out 2
  have c3 : W6.cell? ⟨B + 1, 3, none⟩ = some (.int .i64 a3) := blk_cell HS.out 3
  have c4 : W6.cell? ⟨B + 1, 4, none⟩ = some (.int .i64 a4) := blk_cell HS.out 4
  have c5 : W6.cell? ⟨B + 1, 5, none⟩ = some (.int .i64 a5) := blk_cell HS.out 5
  have c6 : W6.cell? ⟨B + 1, 6, none⟩ = some (.int .i64 a6) := blk_cell HS.out 6
  have c7 : W6.cell? ⟨B + 1, 7, none⟩ = some (.int .i64 a7) := blk_cell HS.out 7
  have c8 : W6.cell? ⟨B + 1, 8, none⟩ = some (.int .i64 a8) := blk_cell HS.out 8
  have c9 : W6.cell? ⟨B + 1, 9, none⟩ = some (.int .i64 a9) := blk_cell HS.out 9
  have c10 : W6.cell? ⟨B + 1, 10, none⟩ = some (.int .i64 a10) := blk_cell HS.out 10
  have c11 : W6.cell? ⟨B + 1, 11, none⟩ = some (.int .i64 a11) := blk_cell HS.out 11
  have c12 : W6.cell? ⟨B + 1, 12, none⟩ = some (.int .i64 a12) := blk_cell HS.out 12
  have c13 : W6.cell? ⟨B + 1, 13, none⟩ = some (.int .i64 (wrap64 (a13 - 1))) := blk_cell HS.out 13
  have c14 : W6.cell? ⟨B + 1, 14, none⟩ = some (.bool false) := blk_cell HS.out 14
  have c15 : W6.cell? ⟨B + 1, 15, none⟩ = some (.int .i64 a15) := blk_cell HS.out 15
  refine bodyPost_ret (v := .tuple #[.agg #[.string a0, .int .i64 a1, .int .i64 a2, .int .i64 a3, .int .i64 a4, .int .i64 a5, .int .i64 a6, .int .i64 a7, .int .i64 a8, .int .i64 a9, .int .i64 a10, .int .i64 a11, .int .i64 a12, .int .i64 (wrap64 (a13 - 1)), .bool false, .int .i64 a15], .int .i64 4]) (by simp [results, Try.results23, go_sem, c0, c1, c2, c3, c4, c5, c6, c7, c8, c9, c10, c11, c12, c13, c14, c15]) rfl ⟨rfl, ?_⟩
  rw [← hB.out]
  exact HF.out
end Go.Proofs.Ytpjehbcchanmhaa.PC
