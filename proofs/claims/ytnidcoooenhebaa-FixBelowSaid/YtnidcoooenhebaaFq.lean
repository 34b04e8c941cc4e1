/- The reference's Next: what it computes. -/
import Derived.Test.YtnidcoooenhebaaFr
import Derived.Test.YtnidcoooenhebaaFp
namespace Go.Proofs.Ytnidcoooenhebaa.PS
open Go.RowKit Go.Proofs.Ytnidcoooenhebaa.PC Go.Proofs.YtnidcoooenhebaaW.PrintWords Go.Proofs.YtnidcoooenhebaaW.PrintLast Go.Proofs.YtnidcoooenhebaaW.PrintMore
attribute [local go_sem] max2_int min2_int max_two min_two max_three min_three max_four min_four   -- for this text's walks alone
set_option linter.unusedVariables false
set_option linter.unusedSimpArgs false
theorem su_snoc : ∀ (l : List Int) (y : Int), su (l ++ [y]) = su l + y := by
  intro l
  induction l with
  | nil => intro y; simp [su]
  | cons x r ih => intro y; simp only [List.cons_append, su, ih]; omega
set_option maxRecDepth 100000 in
set_option maxHeartbeats 6000000 in
theorem rnext_c (w : World) (B : Int) (ad : Addr) (l : List S39) (cap : Nat) (hc : l.length ≤ cap) (hC : Kd.C k39 w (some ad) l.length l) (ok : OkS B l) (i : Int) (hi : 0 ≤ i) (hi1 : i < (l.length : Int)) (g : Int) (hg : 1 ≤ g) (hg2 : g ≤ 1049576) (x : Int) (hx : 0 ≤ x) (hx2 : x ≤ 1048576) (S0 : Array Value) (eS0 : S0 = #[.int .i64 B, .slice (some ad) l.length cap]) : Calls Try.prog 18 #[.agg S0, .int .i64 i, .int .i64 g, .int .i64 x] w fun e w' => e = .returned (.int .i64 (nxt B g l i x)) ∧ Below w.heap.size w w' := by
  obtain ⟨p, hp⟩ : ∃ p, (rd_T39 l i).f10 = p := ⟨_, rfl⟩
  have NB := nx_bd ok hx hx2 hg i
  have oki := (ok.2.2.2.2 i.toNat (by omega)).1
  rw [show ((i.toNat : Nat) : Int) = i by omega] at oki
  have hwb := wh_bd oki
  have hPB := Lib.hid (fun (k : Nat) => pl_bd (p := p) hx hx2 (l := l.take k) (fun y hy => ok.mem y (List.mem_of_mem_take hy)))
  have hBb := ok.1
  have hBb2 := ok.2.1
  obtain ⟨D, hD⟩ : ∃ d, dr l i = d := ⟨_, rfl⟩
  obtain ⟨H, hH⟩ : ∃ d, ah l i = d := ⟨_, rfl⟩
  obtain ⟨M, hM⟩ : ∃ m, mst x B g = m := ⟨_, rfl⟩
  obtain ⟨wi, hwi⟩ : ∃ m, m = wh (rd_T39 l i) := ⟨_, rfl⟩
  have hnx : nxt B g l i x = wi + H + M * (B * D) + su (pl x p l) := by unfold nxt; rw [hH, hM, hD, hp, ← hwi]
  rw [hnx]
  rw [hD, hH, hM] at NB
  rw [← hwi] at hwb
  have hassoc : M * (B * D) = M * B * D := (Int.mul_assoc M B D).symm
  have hMBb := mul_bd (a := M) (b := B) (c := 1049576) (d := 1000) NB.2.2.2.1.1 NB.2.2.2.1.2 (by omega) hBb2
  rw [hassoc] at NB ⊢
  obtain ⟨MB, hMB⟩ : ∃ m, m = M * B := ⟨_, rfl⟩
  rw [← hMB] at NB hMBb ⊢
  obtain ⟨MBD, hMBD⟩ : ∃ m, m = MB * D := ⟨_, rfl⟩
  rw [← hMBD] at NB ⊢
  obtain ⟨⟨nd0, nd1⟩, ⟨nh0, nh1⟩, _, ⟨nm0, nm1⟩, ⟨nq0, nq1⟩⟩ := NB
  obtain ⟨st, hst0⟩ : ∃ s, s = wi + H + MBD := ⟨_, rfl⟩
  rw [← hst0]
  obtain ⟨tot, htot⟩ : ∃ y, y = st + su (pl x p l) := ⟨_, rfl⟩
  rw [← htot]
  have hmost := Lib.hid (fun W : World => rmost_c W x B g hx (by omega) hBb (by omega) hg (by omega) M hM.symm)
  have hwi0 : 0 ≤ wi := by have := oki.nums; omega
  have a1 : IntKind.i64.wrap (wi + H) = wi + H := by rw [i64_w]; exact w64 (by omega) (by omega)
  have a2 : IntKind.i64.wrap (M * B) = MB := by rw [i64_w, ← hMB]; exact w64 (by omega) (by omega)
  have a3 : IntKind.i64.wrap (MB * D) = MBD := by rw [i64_w, ← hMBD]; exact w64 (by omega) (by omega)
  have a4 : IntKind.i64.wrap (wi + H + MBD) = st := by rw [i64_w, ← hst0]; exact w64 (by omega) (by omega)
  have hst1 : Hid (0 ≤ st ∧ st ≤ 1102000000000000) := Lib.hid (by omega)
  obtain ⟨Ti, eTi⟩ : ∃ A, A = TA (rd_T39 l i) := ⟨_, rfl⟩
  have zTi : Hid (Ti.size = 11) := Lib.hid (by rw [eTi]; rfl)
  clear hnx nd0 nd1 nh0 nh1 nm0 nm1 nq0 nq1 hwb hBb hBb2 hMBb hassoc hwi0
  replace hp := Lib.hid hp
  replace hD := Lib.hid hD
  replace hH := Lib.hid hH
  replace hM := Lib.hid hM
  replace hwi := Lib.hid hwi
  replace hMB := Lib.hid hMB
  replace hMBD := Lib.hid hMBD
  replace hst0 := Lib.hid hst0
  replace htot := Lib.hid htot
  replace oki := Lib.hid oki
  replace eTi := Lib.hid eTi
  replace a1 := Lib.hid a1
  replace a2 := Lib.hid a2
  replace a3 := Lib.hid a3
  replace a4 := Lib.hid a4
  have hdear := Lib.hid (fun (W : World) (hW : Below w.heap.size w W) => rdear_c W B ad l cap hc (Kd.C_below hC hW) ok i hi hi1 S0 eS0)
  have hahead := Lib.hid (fun (W : World) (hW : Below w.heap.size w W) => rahead_c W B ad l cap hc (Kd.C_below hC hW) ok i hi hi1 S0 eS0)
  have zS0 : Hid (S0.size = 2) := Lib.hid (by rw [eS0]; rfl)
  replace eS0 := Lib.hid eS0
  have hlen2 := ok.2.2.2.1
  replace ok := Lib.hid ok
  obtain ⟨U, eU⟩ : ∃ A : Array Value, A = #[.string ⟨#[]⟩, .int .i64 0, .int .i64 0, .int .i64 0, .int .i64 0, .int .i64 0, .int .i64 0, .int .i64 0, .int .i64 0, .int .i64 0, .int .i64 0] := ⟨_, rfl⟩
  have zU : Hid (U.size = 11) := Lib.hid (by rw [eU]; rfl)
  have hzU : ∀ V : World, (zeroValue 39).run Try.prog V = .ok (.agg U) V := fun V => by rw [eU]; kernel_rfl
  replace eU := Lib.hid eU
  obtain ⟨B0, hB0⟩ : ∃ B, w.heap.size = B := ⟨_, rfl⟩
  rw [hB0]
  obtain ⟨V0, hV0⟩ : ∃ V, w.alloc (.cells S0 24) = V := ⟨_, rfl⟩
  have Hs : Hid (V0.heap[B0]? = some (.cells S0 24 (0, 0))) := Lib.hid (by rw [← hV0]; exact (box_new hB0).1)
  have HE : Hid (Below B0 w V0) := Lib.hid (by rw [← hV0, ← hB0]; exact (Below.refl _ _).alloc (Nat.le_refl _) _)
  go_enter Try.func18, Try.ntmps18
  go_upto_region 1 with (fail)
  replace hB0 := Lib.hid hB0
  replace hV0 := Lib.hid hV0
  have hdear2 : Hid (∀ W : World, Below B0 w W → Calls Try.prog 15 #[.agg S0, .int .i64 i] W fun e w' => e = .returned (.int .i64 D) ∧ Below W.heap.size W w') := Lib.hid (fun W hW => by have := hdear.out W (hB0.out ▸ hW); rwa [show mxs (fD (rd_T39 l i).f10) l 0 = D from hD.out] at this)
  have hahead2 : Hid (∀ W : World, Below B0 w W → Calls Try.prog 17 #[.agg S0, .int .i64 i] W fun e w' => e = .returned (.int .i64 H) ∧ Below W.heap.size W w') := Lib.hid (fun W hW => by have := hahead.out W (hB0.out ▸ hW); rwa [show mxs (fA (rd_T39 l i).f10) l 0 = H from hH.out] at this)
  have hri := Lib.hid (fun (W : World) (hW : Below B0 w W) => row_a hC hB0.out hW hi hi1 Ti eTi.out)
  clear hdear hahead
  have b1 := a1.out
  have b2 := a2.out
  have b3 := a3.out
  have b4 := a4.out
  refine start_ (n := 24) (S := fun w' => w'.heap[B0]? = some (.cells S0 24 (0, 0)) ∧ w'.cell? ⟨B0, 1, none⟩ = some (.slice (some ad) l.length cap) ∧ w'.cell? ⟨B0, 0, none⟩ = some (.int .i64 B) ∧ ∀ (j : Nat) (v : Value), Ti.toList[j]? = some v → w'.cell? ((ad.add (i.toNat * 11)).add j) = some v) (ds := []) #[false, false, false, false, false, false, false, false, false, false, false, false, false, false, false, false, false, false, false, false, false, false, false, false] (by kernel_rfl) rfl rfl ⟨Hs.out, (blk_cell Hs.out 1).trans (by rw [eS0.out]; rfl), (blk_cell Hs.out 0).trans (by rw [eS0.out]; rfl), hri.out _ HE.out.drew⟩ (fun hHeld => ?_)
  refine pure_ (i := 0) (N := (some 12)) (v := ?_) (a' := ?_) #[true, false, false, false, false, false, false, false, false, false, false, false, false, false, false, false, false, false, false, false, false, false, false, false] rfl rfl (by kernel_rfl) (fun _ _ _ h => h) (Or.inl ⟨by rfl, ?_⟩) ?_ ?_
  rotate_left
  · intro w'
    go_simp
    with_reducible rfl
  rotate_left
  · simp only [Act.put, List.setIfInBounds_toArray, List.set_cons_zero, List.set_cons_succ, i64_w, i32_w]
    rfl
  refine take_ (i := 1) (N := (some 13)) (v := ?_) (a' := ?_) #[true, true, false, false, false, false, false, false, false, false, false, false, false, false, false, false, false, false, false, false, false, false, false, false] rfl rfl (by kernel_rfl) (fun _ _ _ h => h) (Or.inl ⟨by rfl, ?_⟩) hHeld ?_ ?_
  rotate_left
  · rintro w' ⟨s0, s1, s2, s3⟩
    go_simp
    with_reducible rfl
  rotate_left
  · simp only [Act.put, List.setIfInBounds_toArray, List.set_cons_zero, List.set_cons_succ, i64_w, i32_w]
    rfl
  refine pure_ (i := 2) (N := (some 14)) (v := ?_) (a' := ?_) #[true, true, true, false, false, false, false, false, false, false, false, false, false, false, false, false, false, false, false, false, false, false, false, false] rfl rfl (by kernel_rfl) (fun _ _ _ h => h) (Or.inl ⟨by rfl, ?_⟩) ?_ ?_
  rotate_left
  · intro w'
    go_simp
    with_reducible rfl
  rotate_left
  · simp only [Act.put, List.setIfInBounds_toArray, List.set_cons_zero, List.set_cons_succ, i64_w, i32_w]
    rfl
  refine pure_ (i := 3) (N := (some 15)) (v := ?_) (a' := ?_) #[true, true, true, true, false, false, false, false, false, false, false, false, false, false, false, false, false, false, false, false, false, false, false, false] rfl rfl (by kernel_rfl) (fun _ _ _ h => h) (Or.inl ⟨by rfl, ?_⟩) ?_ ?_
  rotate_left
  · intro w'
    go_simp
    with_reducible rfl
  rotate_left
  · simp only [Act.put, List.setIfInBounds_toArray, List.set_cons_zero, List.set_cons_succ, i64_w, i32_w]
    rfl
  refine take_ (i := 4) (N := (some 16)) (v := .agg Ti) (a' := ?_) #[true, true, true, true, true, false, false, false, false, false, false, false, false, false, false, false, false, false, false, false, false, false, false, false] rfl rfl (by kernel_rfl) (fun _ _ _ h => h) (Or.inl ⟨by rfl, ?_⟩) hHeld ?_ ?_
  · rintro w' ⟨s0, s1, s2, s3⟩
    exact ld_opr 39 _ rfl (ad.add (i.toNat * 11)) rfl s3 Try.underlying39 rfl (by kernel_rfl) zTi.out
  rotate_left
  · simp only [Act.put, List.setIfInBounds_toArray, List.set_cons_zero, List.set_cons_succ, i64_w, i32_w]
    rfl
  refine take_ (i := 6) (N := (some 18)) (v := .agg S0) (a' := ?_) #[true, true, true, true, true, false, true, false, false, false, false, false, false, false, false, false, false, false, false, false, false, false, false, false] rfl rfl (by kernel_rfl) (fun _ _ _ h => h) (Or.inl ⟨by rfl, ?_⟩) hHeld ?_ ?_
  · rintro w' ⟨s0, s1, s2, s3⟩
    exact ld_op 24 _ rfl B0 rfl s0 Try.underlying24 rfl (by kernel_rfl) zS0.out
  rotate_left
  · simp only [Act.put, List.setIfInBounds_toArray, List.set_cons_zero, List.set_cons_succ, i64_w, i32_w]
    rfl
  refine pure_ (i := 7) (N := (some 19)) (v := ?_) (a' := ?_) #[true, true, true, true, true, false, true, true, false, false, false, false, false, false, false, false, false, false, false, false, false, false, false, false] rfl rfl (by kernel_rfl) (fun _ _ _ h => h) (Or.inl ⟨by rfl, ?_⟩) ?_ ?_
  rotate_left
  · intro w'
    go_simp
    with_reducible rfl
  rotate_left
  · simp only [Act.put, List.setIfInBounds_toArray, List.set_cons_zero, List.set_cons_succ, i64_w, i32_w]
    rfl
  refine pure_ (i := 10) (N := (some 22)) (v := ?_) (a' := ?_) #[true, true, true, true, true, false, true, true, false, false, true, false, false, false, false, false, false, false, false, false, false, false, false, false] rfl rfl (by kernel_rfl) (fun _ _ _ h => h) (Or.inl ⟨by rfl, ?_⟩) ?_ ?_
  rotate_left
  · intro w'
    go_simp
    with_reducible rfl
  rotate_left
  · simp only [Act.put, List.setIfInBounds_toArray, List.set_cons_zero, List.set_cons_succ, i64_w, i32_w]
    rfl
  refine pure_ (i := 11) (N := (some 23)) (v := ?_) (a' := ?_) #[true, true, true, true, true, false, true, true, false, false, true, true, false, false, false, false, false, false, false, false, false, false, false, false] rfl rfl (by kernel_rfl) (fun _ _ _ h => h) (Or.inl ⟨by rfl, ?_⟩) ?_ ?_
  rotate_left
  · intro w'
    go_simp
    with_reducible rfl
  rotate_left
  · simp only [Act.put, List.setIfInBounds_toArray, List.set_cons_zero, List.set_cons_succ, i64_w, i32_w]
    rfl
  refine take_ (i := 12) (N := (some 24)) (v := ?_) (a' := ?_) #[true, true, true, true, true, false, true, true, false, false, true, true, true, false, false, false, false, false, false, false, false, false, false, false] rfl rfl (by kernel_rfl) (fun _ _ _ h => h) (Or.inl ⟨by rfl, ?_⟩) hHeld ?_ ?_
  rotate_left
  · rintro w' ⟨s0, s1, s2, s3⟩
    go_simp
    with_reducible rfl
  rotate_left
  · simp only [Act.put, List.setIfInBounds_toArray, List.set_cons_zero, List.set_cons_succ, i64_w, i32_w]
    rfl
  refine pure_ (i := 13) (N := (some 25)) (v := ?_) (a' := ?_) #[true, true, true, true, true, false, true, true, false, false, true, true, true, true, false, false, false, false, false, false, false, false, false, false] rfl rfl (by kernel_rfl) (fun _ _ _ h => h) (Or.inl ⟨by rfl, ?_⟩) ?_ ?_
  rotate_left
  · intro w'
    go_simp
    with_reducible rfl
  rotate_left
  · simp only [Act.put, List.setIfInBounds_toArray, List.set_cons_zero, List.set_cons_succ, i64_w, i32_w]
    rfl
  refine pure_ (i := 15) (N := (some 27)) (v := ?_) (a' := ?_) #[true, true, true, true, true, false, true, true, false, false, true, true, true, true, false, true, false, false, false, false, false, false, false, false] rfl rfl (by kernel_rfl) (fun _ _ _ h => h) (Or.inl ⟨by rfl, ?_⟩) ?_ ?_
  rotate_left
  · intro w'
    go_simp
    with_reducible rfl
  rotate_left
  · simp only [Act.put, List.setIfInBounds_toArray, List.set_cons_zero, List.set_cons_succ, i64_w, i32_w]
    rfl
  refine take_ (i := 16) (N := (some 28)) (v := ?_) (a' := ?_) #[true, true, true, true, true, false, true, true, false, false, true, true, true, true, false, true, true, false, false, false, false, false, false, false] rfl rfl (by kernel_rfl) (fun _ _ _ h => h) (Or.inl ⟨by rfl, ?_⟩) hHeld ?_ ?_
  rotate_left
  · rintro w' ⟨s0, s1, s2, s3⟩
    go_simp
    with_reducible rfl
  rotate_left
  · simp only [Act.put, List.setIfInBounds_toArray, List.set_cons_zero, List.set_cons_succ, i64_w, i32_w]
    rfl
  refine take_ (i := 18) (N := (some 30)) (v := .agg S0) (a' := ?_) #[true, true, true, true, true, false, true, true, false, false, true, true, true, true, false, true, true, false, true, false, false, false, false, false] rfl rfl (by kernel_rfl) (fun _ _ _ h => h) (Or.inl ⟨by rfl, ?_⟩) hHeld ?_ ?_
  · rintro w' ⟨s0, s1, s2, s3⟩
    exact ld_op 24 _ rfl B0 rfl s0 Try.underlying24 rfl (by kernel_rfl) zS0.out
  rotate_left
  · simp only [Act.put, List.setIfInBounds_toArray, List.set_cons_zero, List.set_cons_succ, i64_w, i32_w]
    rfl
  refine pure_ (i := 19) (N := (some 31)) (v := ?_) (a' := ?_) #[true, true, true, true, true, false, true, true, false, false, true, true, true, true, false, true, true, false, true, true, false, false, false, false] rfl rfl (by kernel_rfl) (fun _ _ _ h => h) (Or.inl ⟨by rfl, ?_⟩) ?_ ?_
  rotate_left
  · intro w'
    go_simp
    with_reducible rfl
  rotate_left
  · simp only [Act.put, List.setIfInBounds_toArray, List.set_cons_zero, List.set_cons_succ, i64_w, i32_w]
    rfl
  refine one_ (i := 5) (N := (some 17)) #[true, true, true, true, true, true, true, true, false, false, true, true, true, true, false, true, true, false, true, true, false, false, false, false] rfl rfl (by kernel_rfl) (by decide) (fun K hK => ?_)
  refine goes_ Try.func22 (by kernel_rfl) rfl #[.agg Ti] (by rfl) rfl rfl (by (try simp only [List.map_toArray, List.map_cons, List.map_nil]); first | done | rfl) ?_
  refine (rwhole_c oki.out _ _ eTi.out _ hwi.out).mono ?_
  rintro e V3 ⟨rfl, hb4⟩
  have HS3 : Hid (V3.heap[B0]? = some (.cells S0 24 (0, 0))) := Lib.hid ((hb4.block B0 (blk_lt Hs.out)).trans Hs.out)
  have HE3 : Hid (Below B0 w V3) := Lib.hid ((HE.out.drew).trans (hb4.mono (sz_le hB0.out HE.out.size)))
  refine ⟨_, rfl, ?_⟩
  refine hK.out _ _ ⟨HS3.out, (blk_cell HS3.out 1).trans (by rw [eS0.out]; rfl), (blk_cell HS3.out 0).trans (by rw [eS0.out]; rfl), hri.out _ HE3.out⟩ (fun hHeld => ?_)
  clear hb4 Hs HE
  clear hK K
  refine norm_ (a' := ?_) ?_ ?_
  rotate_left
  · show Act.put _ (some 17) _ = _
    simp only [Act.put, List.setIfInBounds_toArray, List.set_cons_zero, List.set_cons_succ, i64_w, i32_w]
    rfl
  refine one_ (i := 8) (N := (some 20)) #[true, true, true, true, true, true, true, true, true, false, true, true, true, true, false, true, true, false, true, true, false, false, false, false] rfl rfl (by kernel_rfl) (by decide) (fun K hK => ?_)
  refine goes_ Try.func17 (by kernel_rfl) rfl #[.agg S0, .int .i64 i] (by rfl) rfl rfl (by (try simp only [List.map_toArray, List.map_cons, List.map_nil]); first | done | rfl) ?_
  refine (hahead2.out _ HE3.out).mono ?_
  rintro e V4 ⟨rfl, hb4⟩
  have HS4 : Hid (V4.heap[B0]? = some (.cells S0 24 (0, 0))) := Lib.hid ((hb4.block B0 (blk_lt HS3.out)).trans HS3.out)
  have HE4 : Hid (Below B0 w V4) := Lib.hid ((HE3.out).trans (hb4.mono (sz_le hB0.out HE3.out.size)))
  refine ⟨_, rfl, ?_⟩
  refine hK.out _ _ ⟨HS4.out, (blk_cell HS4.out 1).trans (by rw [eS0.out]; rfl), (blk_cell HS4.out 0).trans (by rw [eS0.out]; rfl), hri.out _ HE4.out⟩ (fun hHeld => ?_)
  clear hb4 HS3 HE3
  clear hK K
  refine norm_ (a' := ?_) ?_ ?_
  rotate_left
  · show Act.put _ (some 20) _ = _
    simp only [Act.put, List.setIfInBounds_toArray, List.set_cons_zero, List.set_cons_succ, i64_w, i32_w]
    rfl
  refine pure_ (i := 9) (N := (some 21)) (v := ?_) (a' := ?_) #[true, true, true, true, true, true, true, true, true, true, true, true, true, true, false, true, true, false, true, true, false, false, false, false] rfl rfl (by kernel_rfl) (fun _ _ _ h => h) (Or.inl ⟨by rfl, ?_⟩) ?_ ?_
  rotate_left
  · intro w'
    go_simp
    with_reducible rfl
  rotate_left
  · simp only [Act.put, List.setIfInBounds_toArray, List.set_cons_zero, List.set_cons_succ, i64_w, i32_w]
    rfl
  refine one_ (i := 14) (N := (some 26)) #[true, true, true, true, true, true, true, true, true, true, true, true, true, true, true, true, true, false, true, true, false, false, false, false] rfl rfl (by kernel_rfl) (by decide) (fun K hK => ?_)
  refine goes_ Try.func32 (by kernel_rfl) rfl #[.int .i64 x, .int .i64 B, .int .i64 g] (by rfl) rfl rfl (by (try simp only [List.map_toArray, List.map_cons, List.map_nil]); first | done | rfl) ?_
  refine (hmost.out _).mono ?_
  rintro e V5 ⟨rfl, hb4⟩
  have HS5 : Hid (V5.heap[B0]? = some (.cells S0 24 (0, 0))) := Lib.hid ((hb4.block B0 (blk_lt HS4.out)).trans HS4.out)
  have HE5 : Hid (Below B0 w V5) := Lib.hid ((HE4.out).trans (hb4.mono (sz_le hB0.out HE4.out.size)))
  refine ⟨_, rfl, ?_⟩
  refine hK.out _ _ ⟨HS5.out, (blk_cell HS5.out 1).trans (by rw [eS0.out]; rfl), (blk_cell HS5.out 0).trans (by rw [eS0.out]; rfl), hri.out _ HE5.out⟩ (fun hHeld => ?_)
  clear hb4 HS4 HE4
  clear hK K
  refine norm_ (a' := ?_) ?_ ?_
  rotate_left
  · show Act.put _ (some 26) _ = _
    simp only [Act.put, List.setIfInBounds_toArray, List.set_cons_zero, List.set_cons_succ, i64_w, i32_w]
    rfl
  refine pure_ (i := 17) (N := (some 29)) (v := ?_) (a' := ?_) #[true, true, true, true, true, true, true, true, true, true, true, true, true, true, true, true, true, true, true, true, false, false, false, false] rfl rfl (by kernel_rfl) (fun _ _ _ h => h) (Or.inl ⟨by rfl, ?_⟩) ?_ ?_
  rotate_left
  · intro w'
    go_simp
    with_reducible rfl
  rotate_left
  · simp only [Act.put, List.setIfInBounds_toArray, List.set_cons_zero, List.set_cons_succ, i64_w, i32_w]
    rfl
  refine one_ (i := 20) (N := (some 32)) #[true, true, true, true, true, true, true, true, true, true, true, true, true, true, true, true, true, true, true, true, true, false, false, false] rfl rfl (by kernel_rfl) (by decide) (fun K hK => ?_)
  refine goes_ Try.func15 (by kernel_rfl) rfl #[.agg S0, .int .i64 i] (by rfl) rfl rfl (by (try simp only [List.map_toArray, List.map_cons, List.map_nil]); first | done | rfl) ?_
  refine (hdear2.out _ HE5.out).mono ?_
  rintro e V6 ⟨rfl, hb4⟩
  have HS6 : Hid (V6.heap[B0]? = some (.cells S0 24 (0, 0))) := Lib.hid ((hb4.block B0 (blk_lt HS5.out)).trans HS5.out)
  have HE6 : Hid (Below B0 w V6) := Lib.hid ((HE5.out).trans (hb4.mono (sz_le hB0.out HE5.out.size)))
  refine ⟨_, rfl, ?_⟩
  refine hK.out _ _ ⟨HS6.out, (blk_cell HS6.out 1).trans (by rw [eS0.out]; rfl), (blk_cell HS6.out 0).trans (by rw [eS0.out]; rfl), hri.out _ HE6.out⟩ (fun hHeld => ?_)
  clear hb4 HS5 HE5
  clear hK K
  refine norm_ (a' := ?_) ?_ ?_
  rotate_left
  · show Act.put _ (some 32) _ = _
    simp only [Act.put, List.setIfInBounds_toArray, List.set_cons_zero, List.set_cons_succ, i64_w, i32_w]
    rfl
  refine pure_ (i := 21) (N := (some 33)) (v := ?_) (a' := ?_) #[true, true, true, true, true, true, true, true, true, true, true, true, true, true, true, true, true, true, true, true, true, true, false, false] rfl rfl (by kernel_rfl) (fun _ _ _ h => h) (Or.inl ⟨by rfl, ?_⟩) ?_ ?_
  rotate_left
  · intro w'
    go_simp
    with_reducible rfl
  rotate_left
  · simp only [Act.put, List.setIfInBounds_toArray, List.set_cons_zero, List.set_cons_succ, i64_w, i32_w]
    rfl
  refine pure_ (i := 22) (N := (some 34)) (v := ?_) (a' := ?_) #[true, true, true, true, true, true, true, true, true, true, true, true, true, true, true, true, true, true, true, true, true, true, true, false] rfl rfl (by kernel_rfl) (fun _ _ _ h => h) (Or.inl ⟨by rfl, ?_⟩) ?_ ?_
  rotate_left
  · intro w'
    go_simp
    with_reducible rfl
  rotate_left
  · simp only [Act.put, List.setIfInBounds_toArray, List.set_cons_zero, List.set_cons_succ, i64_w, i32_w]
    rfl
  refine pure_ (i := 23) (N := (some 9)) (v := ?_) (a' := ?_) #[true, true, true, true, true, true, true, true, true, true, true, true, true, true, true, true, true, true, true, true, true, true, true, true] rfl rfl (by kernel_rfl) (fun _ _ _ h => h) (Or.inl ⟨by rfl, ?_⟩) ?_ ?_
  rotate_left
  · intro w'
    go_simp
    with_reducible rfl
  rotate_left
  · simp only [Act.put, List.setIfInBounds_toArray, List.set_cons_zero, List.set_cons_succ, i64_w, i32_w]
    rfl
  refine done_ (by kernel_rfl) ?_
  clear b1 b2 b3 b4
  have hI : Hid (V6.heap[B0]? = some (.cells S0 24 (0, 0)) ∧ Below B0 w V6) := Lib.hid ⟨HS6.out, HE6.out⟩
  have hz := hzU
  have hpc := Lib.hid (fun (W : World) (hW : Below B0 w W) => row_c (j := 10) hC hB0.out hW hi hi1 (by rw [← hp.out]; rfl) : ∀ W : World, Below B0 w W → W.cell? ⟨(ad.add (i.toNat * 11)).block, (ad.add (i.toNat * 11)).off + 10, none⟩ = some (.int .i64 p))
  go_wp2_with fail
  go_loopw [9, 10] (fun f j wr => ∃ k : Nat, j = .int .i64 (k : Int) ∧ k ≤ l.length ∧ f = .int .i64 (st + su (pl x p (l.take k))) ∧ wr.heap[B0]? = some (.cells S0 24 (0, 0)) ∧ Below B0 w wr) (fun _ j _ => l.length - (intOf j).toNat)
  case atStart => exact ⟨0, rfl, Nat.zero_le _, by simp [pl, su], hI.out⟩
  case round =>
    clear hI
    obtain ⟨k, rfl, hk, rfl, HS, HE⟩ := hrel
    have c1r := (blk_cell HS 1).trans (show S0[1]? = some (.slice (some ad) l.length cap) by rw [eS0.out]; rfl)
    replace HS := Lib.hid HS
    replace HE := Lib.hid HE
    by_cases hlt : k < l.length
    · skip
      have hkl : (k : Int) < (l.length : Int) := by omega
      have hk0 : (0 : Int) ≤ (k : Int) := by omega
      have hild : decide (k < l.length) = true := by simpa using hlt
      obtain ⟨t, ht⟩ : ∃ t, rd_T39 l k = t := ⟨_, rfl⟩
      have okt := (ok.out.2.2.2.2 k hlt).1
      rw [ht] at okt
      have hstep := pl_take x p hlt
      rw [ht] at hstep
      have hpb := part_bd hx hx2 okt
      have hPk := hPB.out k
      have hsk0 := su_nonneg hPk.1
      have hkl2 : ((l.take k).length : Int) ≤ 16 := by have : (l.take k).length ≤ k := List.length_take_le _ _; omega
      have hnum := okt.nums
      have hst2 := hst1.out
      obtain ⟨q, hq⟩ : ∃ q, q = cl x t.f1 := ⟨_, rfl⟩
      obtain ⟨wt, hwt⟩ : ∃ q, q = wh t := ⟨_, rfl⟩
      rw [← hq, ← hwt] at hstep hpb
      obtain ⟨qw, hqw⟩ : ∃ y, y = q * wt := ⟨_, rfl⟩
      rw [← hqw] at hstep hpb
      obtain ⟨sk, hsk⟩ : ∃ y, y = su (pl x p (l.take k)) := ⟨_, rfl⟩
      rw [← hsk] at hPk hsk0 ⊢
      obtain ⟨T1, hT1⟩ : ∃ y, y = t.f1 := ⟨_, rfl⟩
      rw [← hT1] at hq hnum
      have hcb := cl_bd (a := x) (b := T1) hx (by omega)
      rw [← hq] at hcb
      have d1 : Hid (IntKind.i64.wrap (x + T1) = x + T1) := Lib.hid (by rw [i64_w]; exact w64 (by omega) (by omega))
      have d2 : Hid (IntKind.i64.wrap (x + T1 - 1) = x + T1 - 1) := Lib.hid (by rw [i64_w]; exact w64 (by omega) (by omega))
      have d3 : Hid ((x + T1 - 1).tdiv T1 = q) := Lib.hid (by rw [hq, Int.tdiv_eq_ediv_of_nonneg (by omega)]; rfl)
      have d3' : Hid (IntKind.i64.wrap q = q) := Lib.hid (by rw [i64_w]; exact w64 (by omega) (by omega))
      have d4 : Hid (IntKind.i64.wrap (q * wt) = qw) := Lib.hid (by rw [i64_w, ← hqw]; exact w64 (by omega) (by omega))
      have d5 : Hid (IntKind.i64.wrap (st + sk + qw) = st + sk + qw) := Lib.hid (by rw [i64_w]; exact w64 (by omega) (by omega))
      have hT1p : Hid (0 < T1) := Lib.hid (by omega)
      have hsn : ∀ y, su (pl x p (l.take k) ++ [y]) = sk + y := fun y => by rw [hsk]; exact su_snoc _ _
      obtain ⟨T, eT⟩ : ∃ A, A = TA t := ⟨_, rfl⟩
      have zT : Hid (T.size = 11) := Lib.hid (by rw [eT]; rfl)
      have oT : Hid (T.all (·.oneCell') = true) := Lib.hid (by rw [eT]; exact TA_one _)
      replace eT := Lib.hid eT
      have hrow := Lib.hid (fun (W : World) (hW : Below B0 w W) => row_a hC hB0.out hW hk0 hkl T (by rw [ht]; exact eT.out))
      clear hpb hPk hsk0 hkl2 hnum hcb hst2
      replace ht := Lib.hid ht
      replace okt := Lib.hid okt
      replace hstep := Lib.hid hstep
      replace hq := Lib.hid hq
      replace hwt := Lib.hid hwt
      replace hqw := Lib.hid hqw
      replace hsk := Lib.hid hsk
      replace hT1 := Lib.hid hT1
      replace hsn := Lib.hid hsn
      obtain ⟨X_149, hX_151⟩ : ∃ X, wr.heap.size = X := ⟨_, rfl⟩
      obtain ⟨V_150, q_152_0, q_152_1, q_152_2, q_152_3⟩ := st_new (w := wr) (T := 39) hX_151 zU.out zT.out oT.out
      have ne_154 : B0 < X_149 := hX_151 ▸ blk_lt HS.out
      have H_153 : Hid (V_150.heap[B0]? = some (.cells S0 24 (0, 0))) := Lib.hid ((q_152_2 _ ne_154).trans HS.out)
      have ge_155 : B0 ≤ X_149 := hX_151 ▸ (sz_le hB0.out HE.out.size)
      have HE_156 : Hid (Below B0 w V_150) := Lib.hid (q_152_3 _ _ ge_155 HE.out)
      have H_157 := Lib.hid q_152_1
      clear q_152_1 q_152_2 q_152_3
      go_upto_region 6 with (first | ((with_reducible refine wpl_gate (T := 39) rfl ?_); refine wpl_ldr _ _ rfl (by rfl) (ad.add (((k : Int)).toNat * 11)) rfl (hrow.out _ HE.out) Try.underlying39 rfl (by kernel_rfl) zT.out ?_))
      clear q_152_0 hX_151
      clear c1r
      clear HE HS
      refine start_ (n := 9) (S := fun w' => w'.cell? ⟨X_149, 10, none⟩ = some (.int .i64 t.f10) ∧ w'.cell? ⟨B0, 1, none⟩ = some (.slice (some ad) l.length cap) ∧ w'.cell? ⟨(ad.add (i.toNat * 11)).block, (ad.add (i.toNat * 11)).off + 10, none⟩ = some (.int .i64 p)) (ds := []) #[false, false, false, false, false, false, false, false, false] (by kernel_rfl) rfl rfl ⟨(blk_cell H_157.out 10).trans (by rw [eT.out]; rfl), (blk_cell H_153.out 1).trans (by rw [eS0.out]; rfl), hpc.out _ HE_156.out.drew⟩ (fun hHeld => ?_)
      refine pure_ (i := 0) (N := (some 47)) (v := ?_) (a' := ?_) #[true, false, false, false, false, false, false, false, false] rfl rfl (by kernel_rfl) (fun _ _ _ h => h) (Or.inl ⟨by rfl, ?_⟩) ?_ ?_
      rotate_left
      · intro w'
        go_simp
        with_reducible rfl
      rotate_left
      · simp only [Act.put, List.setIfInBounds_toArray, List.set_cons_zero, List.set_cons_succ, i64_w, i32_w]
        rfl
      refine take_ (i := 1) (N := (some 48)) (v := ?_) (a' := ?_) #[true, true, false, false, false, false, false, false, false] rfl rfl (by kernel_rfl) (fun _ _ _ h => h) (Or.inl ⟨by rfl, ?_⟩) hHeld ?_ ?_
      rotate_left
      · rintro w' ⟨s0, s1, s2⟩
        go_simp
        with_reducible rfl
      rotate_left
      · simp only [Act.put, List.setIfInBounds_toArray, List.set_cons_zero, List.set_cons_succ, i64_w, i32_w]
        rfl
      refine pure_ (i := 2) (N := (some 49)) (v := ?_) (a' := ?_) #[true, true, true, false, false, false, false, false, false] rfl rfl (by kernel_rfl) (fun _ _ _ h => h) (Or.inl ⟨by rfl, ?_⟩) ?_ ?_
      rotate_left
      · intro w'
        go_simp
        with_reducible rfl
      rotate_left
      · simp only [Act.put, List.setIfInBounds_toArray, List.set_cons_zero, List.set_cons_succ, i64_w, i32_w]
        rfl
      refine take_ (i := 3) (N := (some 50)) (v := ?_) (a' := ?_) #[true, true, true, true, false, false, false, false, false] rfl rfl (by kernel_rfl) (fun _ _ _ h => h) (Or.inl ⟨by rfl, ?_⟩) hHeld ?_ ?_
      rotate_left
      · rintro w' ⟨s0, s1, s2⟩
        go_simp
        with_reducible rfl
      rotate_left
      · simp only [Act.put, List.setIfInBounds_toArray, List.set_cons_zero, List.set_cons_succ, i64_w, i32_w]
        rfl
      refine pure_ (i := 4) (N := (some 51)) (v := ?_) (a' := ?_) #[true, true, true, true, true, false, false, false, false] rfl rfl (by kernel_rfl) (fun _ _ _ h => h) (Or.inl ⟨by rfl, ?_⟩) ?_ ?_
      rotate_left
      · intro w'
        go_simp
        with_reducible rfl
      rotate_left
      · simp only [Act.put, List.setIfInBounds_toArray, List.set_cons_zero, List.set_cons_succ, i64_w, i32_w]
        rfl
      refine pure_ (i := 5) (N := (some 52)) (v := ?_) (a' := ?_) #[true, true, true, true, true, true, false, false, false] rfl rfl (by kernel_rfl) (fun _ _ _ h => h) (Or.inl ⟨by rfl, ?_⟩) ?_ ?_
      rotate_left
      · intro w'
        go_simp
        with_reducible rfl
      rotate_left
      · simp only [Act.put, List.setIfInBounds_toArray, List.set_cons_zero, List.set_cons_succ, i64_w, i32_w]
        rfl
      refine pure_ (i := 6) (N := (some 53)) (v := ?_) (a' := ?_) #[true, true, true, true, true, true, true, false, false] rfl rfl (by kernel_rfl) (fun _ _ _ h => h) (Or.inl ⟨by rfl, ?_⟩) ?_ ?_
      rotate_left
      · intro w'
        go_simp
        with_reducible rfl
      rotate_left
      · simp only [Act.put, List.setIfInBounds_toArray, List.set_cons_zero, List.set_cons_succ, i64_w, i32_w]
        rfl
      refine take_ (i := 7) (N := (some 54)) (v := ?_) (a' := ?_) #[true, true, true, true, true, true, true, true, false] rfl rfl (by kernel_rfl) (fun _ _ _ h => h) (Or.inl ⟨by rfl, ?_⟩) hHeld ?_ ?_
      rotate_left
      · rintro w' ⟨s0, s1, s2⟩
        go_simp
        with_reducible rfl
      rotate_left
      · simp only [Act.put, List.setIfInBounds_toArray, List.set_cons_zero, List.set_cons_succ, i64_w, i32_w]
        rfl
      refine pure_ (i := 8) (N := (some 55)) (v := ?_) (a' := ?_) #[true, true, true, true, true, true, true, true, true] rfl rfl (by kernel_rfl) (fun _ _ _ h => h) (Or.inl ⟨by rfl, ?_⟩) ?_ ?_
      rotate_left
      · intro w'
        go_simp
        with_reducible rfl
      rotate_left
      · simp only [Act.put, List.setIfInBounds_toArray, List.set_cons_zero, List.set_cons_succ, i64_w, i32_w]
        rfl
      refine done_ (by kernel_rfl) ?_
      have HsD_159 : Hid (V_150.drew.heap[B0]? = some (.cells S0 24 (0, 0))) := Lib.hid H_153.out
      have HtD_160 : Hid (V_150.drew.heap[X_149]? = some (.cells T 39 (0, 0))) := Lib.hid H_157.out
      have HEVD_158 : Hid (Below B0 w V_150.drew) := Lib.hid HE_156.out.drew
      clear H_153 H_157 HE_156
      generalize V_150.drew = VD_158 at HsD_159 HtD_160 HEVD_158 ⊢
      cases q1 : decide (t.f10 < p) with
      | false =>
          have hst := hstep.out
          rw [if_neg (of_decide_eq_false q1)] at hst
          replace hst := Lib.hid hst
          go_wp2
          go_roundw
          case rel => exact ⟨k + 1, by go_num, by omega, by rw [hst.out, hsk.out], HsD_159.out, HEVD_158.out⟩
          case measure => simp [intOf] <;> omega
      | true =>
          have hst := hstep.out
          rw [if_pos (of_decide_eq_true q1)] at hst
          replace hst := Lib.hid hst
          go_upto_region 7 with (fail)
          have e1 := d1.out
          have e2 := d2.out
          have e3 := d3.out
          have e3' := d3'.out
          have e4 := d4.out
          have e5 := d5.out
          have e6 : ¬ T1 = 0 := by have := hT1p.out; omega
          refine start_ (n := 14) (S := fun w' => w'.heap[X_149]? = some (.cells T 39 (0, 0)) ∧ w'.cell? ⟨X_149, 1, none⟩ = some (.int .i64 T1)) (ds := []) #[false, false, false, false, false, false, false, false, false, false, false, false, false, false] (by kernel_rfl) rfl rfl ⟨HtD_160.out, (blk_cell HtD_160.out 1).trans (by rw [eT.out, hT1.out]; rfl)⟩ (fun hHeld => ?_)
          refine pure_ (i := 0) (N := (some 56)) (v := ?_) (a' := ?_) #[true, false, false, false, false, false, false, false, false, false, false, false, false, false] rfl rfl (by kernel_rfl) (fun _ _ _ h => h) (Or.inl ⟨by rfl, ?_⟩) ?_ ?_
          rotate_left
          · intro w'
            go_simp
            with_reducible rfl
          rotate_left
          · simp only [Act.put, List.setIfInBounds_toArray, List.set_cons_zero, List.set_cons_succ, i64_w, i32_w]
            rfl
          refine pure_ (i := 1) (N := (some 57)) (v := ?_) (a' := ?_) #[true, true, false, false, false, false, false, false, false, false, false, false, false, false] rfl rfl (by kernel_rfl) (fun _ _ _ h => h) (Or.inl ⟨by rfl, ?_⟩) ?_ ?_
          rotate_left
          · intro w'
            go_simp
            with_reducible rfl
          rotate_left
          · simp only [Act.put, List.setIfInBounds_toArray, List.set_cons_zero, List.set_cons_succ, i64_w, i32_w]
            rfl
          refine pure_ (i := 2) (N := (some 58)) (v := ?_) (a' := ?_) #[true, true, true, false, false, false, false, false, false, false, false, false, false, false] rfl rfl (by kernel_rfl) (fun _ _ _ h => h) (Or.inl ⟨by rfl, ?_⟩) ?_ ?_
          rotate_left
          · intro w'
            go_simp
            with_reducible rfl
          rotate_left
          · simp only [Act.put, List.setIfInBounds_toArray, List.set_cons_zero, List.set_cons_succ, i64_w, i32_w]
            rfl
          refine take_ (i := 3) (N := (some 59)) (v := ?_) (a' := ?_) #[true, true, true, true, false, false, false, false, false, false, false, false, false, false] rfl rfl (by kernel_rfl) (fun _ _ _ h => h) (Or.inl ⟨by rfl, ?_⟩) hHeld ?_ ?_
          rotate_left
          · rintro w' ⟨s0, s1⟩
            go_simp
            with_reducible rfl
          rotate_left
          · simp only [Act.put, List.setIfInBounds_toArray, List.set_cons_zero, List.set_cons_succ, i64_w, i32_w]
            rfl
          refine pure_ (i := 4) (N := (some 60)) (v := ?_) (a' := ?_) #[true, true, true, true, true, false, false, false, false, false, false, false, false, false] rfl rfl (by kernel_rfl) (fun _ _ _ h => h) (Or.inl ⟨by rfl, ?_⟩) ?_ ?_
          rotate_left
          · intro w'
            go_simp
            with_reducible rfl
          rotate_left
          · simp only [Act.put, List.setIfInBounds_toArray, List.set_cons_zero, List.set_cons_succ, i64_w, i32_w]
            rfl
          refine pure_ (i := 5) (N := (some 61)) (v := ?_) (a' := ?_) #[true, true, true, true, true, true, false, false, false, false, false, false, false, false] rfl rfl (by kernel_rfl) (fun _ _ _ h => h) (Or.inl ⟨by rfl, ?_⟩) ?_ ?_
          rotate_left
          · intro w'
            go_simp
            with_reducible rfl
          rotate_left
          · simp only [Act.put, List.setIfInBounds_toArray, List.set_cons_zero, List.set_cons_succ, i64_w, i32_w]
            rfl
          refine pure_ (i := 6) (N := (some 62)) (v := ?_) (a' := ?_) #[true, true, true, true, true, true, true, false, false, false, false, false, false, false] rfl rfl (by kernel_rfl) (fun _ _ _ h => h) (Or.inl ⟨by rfl, ?_⟩) ?_ ?_
          rotate_left
          · intro w'
            go_simp
            with_reducible rfl
          rotate_left
          · simp only [Act.put, List.setIfInBounds_toArray, List.set_cons_zero, List.set_cons_succ, i64_w, i32_w]
            rfl
          refine take_ (i := 7) (N := (some 63)) (v := ?_) (a' := ?_) #[true, true, true, true, true, true, true, true, false, false, false, false, false, false] rfl rfl (by kernel_rfl) (fun _ _ _ h => h) (Or.inl ⟨by rfl, ?_⟩) hHeld ?_ ?_
          rotate_left
          · rintro w' ⟨s0, s1⟩
            go_simp
            with_reducible rfl
          rotate_left
          · simp only [Act.put, List.setIfInBounds_toArray, List.set_cons_zero, List.set_cons_succ, i64_w, i32_w]
            rfl
          refine pure_ (i := 8) (N := (some 64)) (v := ?_) (a' := ?_) #[true, true, true, true, true, true, true, true, true, false, false, false, false, false] rfl rfl (by kernel_rfl) (fun _ _ _ h => h) (Or.inl ⟨by rfl, ?_⟩) ?_ ?_
          rotate_left
          · intro w'
            go_simp
            with_reducible rfl
          rotate_left
          · simp only [Act.put, List.setIfInBounds_toArray, List.set_cons_zero, List.set_cons_succ, i64_w, i32_w]
            rfl
          refine take_ (i := 9) (N := (some 65)) (v := .agg T) (a' := ?_) #[true, true, true, true, true, true, true, true, true, true, false, false, false, false] rfl rfl (by kernel_rfl) (fun _ _ _ h => h) (Or.inl ⟨by rfl, ?_⟩) hHeld ?_ ?_
          · rintro w' ⟨s0, s1⟩
            exact ld_op 39 _ rfl X_149 rfl s0 Try.underlying39 rfl (by kernel_rfl) zT.out
          rotate_left
          · simp only [Act.put, List.setIfInBounds_toArray, List.set_cons_zero, List.set_cons_succ, i64_w, i32_w]
            rfl
          refine one_ (i := 10) (N := (some 66)) #[true, true, true, true, true, true, true, true, true, true, true, false, false, false] rfl rfl (by kernel_rfl) (by decide) (fun K hK => ?_)
          refine goes_ Try.func22 (by kernel_rfl) rfl #[.agg T] (by rfl) rfl rfl (by (try simp only [List.map_toArray, List.map_cons, List.map_nil]); first | done | rfl) ?_
          refine (rwhole_c okt.out _ _ eT.out _ hwt.out).mono ?_
          rintro e V9 ⟨rfl, hb4⟩
          have HT9 : Hid (V9.heap[X_149]? = some (.cells T 39 (0, 0))) := Lib.hid ((hb4.block X_149 (blk_lt HtD_160.out)).trans HtD_160.out)
          have HS9 : Hid (V9.heap[B0]? = some (.cells S0 24 (0, 0))) := Lib.hid ((hb4.block B0 (blk_lt HsD_159.out)).trans HsD_159.out)
          have HE9 : Hid (Below B0 w V9) := Lib.hid ((HEVD_158.out.drew).trans (hb4.mono (sz_le hB0.out HEVD_158.out.size)))
          refine ⟨_, rfl, ?_⟩
          refine hK.out _ _ ⟨HT9.out, (blk_cell HT9.out 1).trans (by rw [eT.out, hT1.out]; rfl)⟩ (fun hHeld => ?_)
          clear hb4 HtD_160 HsD_159 HEVD_158
          clear hK K
          refine norm_ (a' := ?_) ?_ ?_
          rotate_left
          · show Act.put _ (some 66) _ = _
            simp only [Act.put, List.setIfInBounds_toArray, List.set_cons_zero, List.set_cons_succ, i64_w, i32_w]
            rfl
          refine pure_ (i := 11) (N := (some 67)) (v := ?_) (a' := ?_) #[true, true, true, true, true, true, true, true, true, true, true, true, false, false] rfl rfl (by kernel_rfl) (fun _ _ _ h => h) (Or.inl ⟨by rfl, ?_⟩) ?_ ?_
          rotate_left
          · intro w'
            go_simp
            with_reducible rfl
          rotate_left
          · simp only [Act.put, List.setIfInBounds_toArray, List.set_cons_zero, List.set_cons_succ, i64_w, i32_w]
            rfl
          refine pure_ (i := 12) (N := (some 68)) (v := ?_) (a' := ?_) #[true, true, true, true, true, true, true, true, true, true, true, true, true, false] rfl rfl (by kernel_rfl) (fun _ _ _ h => h) (Or.inl ⟨by rfl, ?_⟩) ?_ ?_
          rotate_left
          · intro w'
            go_simp
            with_reducible rfl
          rotate_left
          · simp only [Act.put, List.setIfInBounds_toArray, List.set_cons_zero, List.set_cons_succ, i64_w, i32_w]
            rfl
          refine pure_ (i := 13) (N := (some 9)) (v := ?_) (a' := ?_) #[true, true, true, true, true, true, true, true, true, true, true, true, true, true] rfl rfl (by kernel_rfl) (fun _ _ _ h => h) (Or.inl ⟨by rfl, ?_⟩) ?_ ?_
          rotate_left
          · intro w'
            go_simp
            with_reducible rfl
          rotate_left
          · simp only [Act.put, List.setIfInBounds_toArray, List.set_cons_zero, List.set_cons_succ, i64_w, i32_w]
            rfl
          refine done_ (by kernel_rfl) ?_
          clear e1 e2 e3 e3' e4 e5 e6
          go_wp2
          go_roundw
          case rel => exact ⟨k + 1, by go_num, by omega, by rw [hst.out, hsn.out, Int.add_assoc], HS9.out, HE9.out⟩
          case measure => simp [intOf] <;> omega
    · have hkl : k = l.length := by omega
      have hge : decide (k < l.length) = false := by simp; omega
      clear hlt
      go_wp2_with fail
      go_ret
      exact ⟨by rw [htot.out, hkl, List.take_length]; rfl, HE.out⟩
end Go.Proofs.Ytnidcoooenhebaa.PS
