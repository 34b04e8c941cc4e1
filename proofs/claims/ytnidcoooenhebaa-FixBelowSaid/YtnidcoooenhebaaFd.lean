/- fix.Dear and fix.Ahead: what they compute. -/
import Derived.Test.YtnidcoooenhebaaFb
namespace Go.Proofs.Ytnidcoooenhebaa.PS
open Go.RowKit Go.Proofs.Ytnidcoooenhebaa.PC Go.Proofs.YtnidcoooenhebaaW.PrintWords Go.Proofs.YtnidcoooenhebaaW.PrintLast Go.Proofs.YtnidcoooenhebaaW.PrintMore
attribute [local go_sem] max2_int min2_int max_two min_two max_three min_three max_four min_four   -- for this text's walks alone
set_option linter.unusedVariables false
set_option linter.unusedSimpArgs false
set_option maxRecDepth 100000 in
set_option maxHeartbeats 6000000 in
theorem dear_c (w : World) (B : Int) (ad : Addr) (l : List S39) (cap : Nat) (hc : l.length ≤ cap) (hC : Kd.C k39 w (some ad) l.length l) (ok : OkS B l) (i : Int) (hi : 0 ≤ i) (hi1 : i < (l.length : Int)) (S0 : Array Value) (eS0 : S0 = #[.int .i64 B, .slice (some ad) l.length cap]) : Calls Try.prog 14 #[.agg S0, .int .i64 i] w fun e w' => e = .returned (.int .i64 (mxs (fD (rd_T39 l i).f10) l 0)) ∧ Below w.heap.size w w' := by
  obtain ⟨p, hp⟩ : ∃ p, (rd_T39 l i).f10 = p := ⟨_, rfl⟩
  rw [hp]
  replace hp := Lib.hid hp
  have zS0 : Hid (S0.size = 2) := Lib.hid (by rw [eS0]; rfl)
  replace eS0 := Lib.hid eS0
  have hlen2 := ok.2.2.2.1
  replace ok := Lib.hid ok
  obtain ⟨U, eU⟩ : ∃ A : Array Value, A = #[.string ⟨#[]⟩, .int .i64 0, .int .i64 0, .int .i64 0, .int .i64 0, .int .i64 0, .int .i64 0, .int .i64 0, .int .i64 0, .int .i64 0, .int .i64 0] := ⟨_, rfl⟩
  have zU : Hid (U.size = 11) := Lib.hid (by rw [eU]; rfl)
  have hzU : ∀ V : World, (zeroValue 39).run Try.prog V = .ok (.agg U) V := fun V => by rw [eU]; kernel_rfl
  replace eU := Lib.hid eU
  obtain ⟨B0, hB0⟩ : ∃ B, w.heap.size = B := ⟨_, rfl⟩
  rw [hB0]
  obtain ⟨V0, hV0⟩ : ∃ V, w.alloc (.cells S0 24) = V := ⟨_, rfl⟩
  have Hs : Hid (V0.heap[B0]? = some (.cells S0 24 (0, 0))) := Lib.hid (by rw [← hV0]; exact (box_new hB0).1)
  have HE : Hid (Below B0 w V0) := Lib.hid (by rw [← hV0, ← hB0]; exact (Below.refl _ _).alloc (Nat.le_refl _) _)
  go_enter Try.func14, Try.ntmps14
  go_upto_region 1 with (fail)
  replace hB0 := Lib.hid hB0
  replace hV0 := Lib.hid hV0
  have c_1 : V0.cell? ⟨B0, 1, none⟩ = some (.slice (some ad) l.length cap) := by rw [blk_cell Hs.out, eS0.out]; rfl
  have hz := hzU
  have hpc := Lib.hid (fun (W : World) (hW : Below B0 w W) => row_c (j := 10) hC hB0.out hW hi hi1 (by rw [← hp.out]; rfl) : ∀ W : World, Below B0 w W → W.cell? ⟨(ad.add (i.toNat * 11)).block, (ad.add (i.toNat * 11)).off + 10, none⟩ = some (.int .i64 p))
  have hI : Hid (V0.heap[B0]? = some (.cells S0 24 (0, 0))) := Lib.hid Hs.out
  go_wp2_with fail
  go_loopw [5, 11] (fun m j wr => ∃ k : Nat, j = .int .i64 (k : Int) ∧ k ≤ l.length ∧ m = .int .i64 (mxs (fD p) (l.take k) 0) ∧ wr.heap[B0]? = some (.cells S0 24 (0, 0)) ∧ Below B0 w wr) (fun _ j _ => l.length - (intOf j).toNat)
  case atStart => exact ⟨0, rfl, Nat.zero_le _, rfl, hI.out, HE.out⟩
  case round =>
    clear hI Hs HE c_1
    obtain ⟨k, rfl, hk, rfl, HS, HE⟩ := hrel
    by_cases hlt : k < l.length
    · skip
      have hkl : (k : Int) < (l.length : Int) := by omega
      have hk0 : (0 : Int) ≤ (k : Int) := by omega
      have hild : decide (k < l.length) = true := by simpa using hlt
      obtain ⟨t, ht⟩ : ∃ t, rd_T39 l k = t := ⟨_, rfl⟩
      have okt := (ok.out.2.2.2.2 k hlt).1
      have huq : k = i.toNat ∨ ¬ t.f10 = p := by
        by_cases h : k = i.toNat
        · exact .inl h
        · right
          rw [← ht, ← hp.out]
          rcases Nat.lt_or_gt_of_ne h with h | h
          · have := ((ok.out.2.2.2.2 i.toNat (by omega)).2 k (by omega)).1
            rwa [show ((i.toNat : Nat) : Int) = i by omega] at this
          · have := ((ok.out.2.2.2.2 k hlt).2 i.toNat (by omega)).1
            rw [show ((i.toNat : Nat) : Int) = i by omega] at this
            exact fun h => this h.symm
      rw [ht] at okt
      have hstep := mxs_take (fD p) hlt
      rw [ht] at hstep
      obtain ⟨m, hm⟩ : ∃ m, mxs (fD p) (l.take k) 0 = m := ⟨_, rfl⟩
      rw [hm] at hstep ⊢
      obtain ⟨x, hx⟩ : ∃ x, x = ex t := ⟨_, rfl⟩
      rw [← hx] at hstep
      have hwk : wrap64 ((k : Int) + 1) = ((k + 1 : Nat) : Int) := w1 (by omega)
      obtain ⟨T, eT⟩ : ∃ A, A = TA t := ⟨_, rfl⟩
      have zT : Hid (T.size = 11) := Lib.hid (by rw [eT]; rfl)
      have oT : Hid (T.all (·.oneCell') = true) := Lib.hid (by rw [eT]; exact TA_one _)
      replace eT := Lib.hid eT
      have hrow := Lib.hid (fun (W : World) (hW : Below B0 w W) => row_a hC hB0.out hW hk0 hkl T (by rw [ht]; exact eT.out))
      replace ht := Lib.hid ht
      replace hm := Lib.hid hm
      replace hx := Lib.hid hx
      replace okt := Lib.hid okt
      replace hstep := Lib.hid hstep
      replace huq := Lib.hid huq
      replace hwk := Lib.hid hwk
      replace HS := Lib.hid HS
      replace HE := Lib.hid HE
      obtain ⟨X_2, hX_4⟩ : ∃ X, wr.heap.size = X := ⟨_, rfl⟩
      obtain ⟨V_3, q_5_0, q_5_1, q_5_2, q_5_3⟩ := st_new (w := wr) (T := 39) hX_4 zU.out zT.out oT.out
      have ne_7 : B0 < X_2 := hX_4 ▸ blk_lt HS.out
      have H_6 : Hid (V_3.heap[B0]? = some (.cells S0 24 (0, 0))) := Lib.hid ((q_5_2 _ ne_7).trans HS.out)
      have ge_8 : B0 ≤ X_2 := hX_4 ▸ (sz_le hB0.out HE.out.size)
      have HE_9 : Hid (Below B0 w V_3) := Lib.hid (q_5_3 _ _ ge_8 HE.out)
      have H_10 := Lib.hid q_5_1
      clear q_5_1 q_5_2 q_5_3
      go_upto_region 5 with (first | ((with_reducible refine wpl_gate (T := 39) rfl ?_); refine wpl_ldr _ _ rfl (by rfl) (ad.add (((k : Int)).toNat * 11)) rfl (hrow.out _ HE.out) Try.underlying39 rfl (by kernel_rfl) zT.out ?_))
      clear q_5_0 hX_4
      clear HE HS
      cases q1 : decide (t.f10 ≤ p) with
      | true =>
          skip
          refine start_ (n := 14) (S := fun w' => w'.cell? ⟨X_2, 10, none⟩ = some (.int .i64 t.f10) ∧ w'.cell? ⟨X_2, 9, none⟩ = some (.int .i64 t.f9) ∧ w'.cell? ⟨B0, 1, none⟩ = some (.slice (some ad) l.length cap) ∧ w'.cell? ⟨(ad.add (i.toNat * 11)).block, (ad.add (i.toNat * 11)).off + 10, none⟩ = some (.int .i64 p)) (ds := []) #[false, false, false, false, false, false, false, false, false, false, false, false, false, false] (by kernel_rfl) rfl rfl ⟨(blk_cell H_10.out 10).trans (by rw [eT.out]; rfl), (blk_cell H_10.out 9).trans (by rw [eT.out]; rfl), (blk_cell H_6.out 1).trans (by rw [eS0.out]; rfl), hpc.out _ HE_9.out.drew⟩ (fun hHeld => ?_)
          refine pure_ (i := 0) (N := (some 15)) (v := ?_) (a' := ?_) #[true, false, false, false, false, false, false, false, false, false, false, false, false, false] rfl rfl (by kernel_rfl) (fun _ _ _ h => h) (Or.inl ⟨by rfl, ?_⟩) ?_ ?_
          rotate_left
          · intro w'
            go_simp
            with_reducible rfl
          rotate_left
          · simp only [Act.put, List.setIfInBounds_toArray, List.set_cons_zero, List.set_cons_succ, i64_w, i32_w]
            rfl
          refine take_ (i := 1) (N := (some 16)) (v := ?_) (a' := ?_) #[true, true, false, false, false, false, false, false, false, false, false, false, false, false] rfl rfl (by kernel_rfl) (fun _ _ _ h => h) (Or.inl ⟨by rfl, ?_⟩) hHeld ?_ ?_
          rotate_left
          · rintro w' ⟨s0, s1, s2, s3⟩
            go_simp
            with_reducible rfl
          rotate_left
          · simp only [Act.put, List.setIfInBounds_toArray, List.set_cons_zero, List.set_cons_succ, i64_w, i32_w]
            rfl
          refine pure_ (i := 2) (N := (some 17)) (v := ?_) (a' := ?_) #[true, true, true, false, false, false, false, false, false, false, false, false, false, false] rfl rfl (by kernel_rfl) (fun _ _ _ h => h) (Or.inl ⟨by rfl, ?_⟩) ?_ ?_
          rotate_left
          · intro w'
            go_simp
            with_reducible rfl
          rotate_left
          · simp only [Act.put, List.setIfInBounds_toArray, List.set_cons_zero, List.set_cons_succ, i64_w, i32_w]
            rfl
          refine take_ (i := 3) (N := (some 18)) (v := ?_) (a' := ?_) #[true, true, true, true, false, false, false, false, false, false, false, false, false, false] rfl rfl (by kernel_rfl) (fun _ _ _ h => h) (Or.inl ⟨by rfl, ?_⟩) hHeld ?_ ?_
          rotate_left
          · rintro w' ⟨s0, s1, s2, s3⟩
            go_simp
            with_reducible rfl
          rotate_left
          · simp only [Act.put, List.setIfInBounds_toArray, List.set_cons_zero, List.set_cons_succ, i64_w, i32_w]
            rfl
          refine pure_ (i := 4) (N := (some 19)) (v := ?_) (a' := ?_) #[true, true, true, true, true, false, false, false, false, false, false, false, false, false] rfl rfl (by kernel_rfl) (fun _ _ _ h => h) (Or.inl ⟨by rfl, ?_⟩) ?_ ?_
          rotate_left
          · intro w'
            go_simp
            with_reducible rfl
          rotate_left
          · simp only [Act.put, List.setIfInBounds_toArray, List.set_cons_zero, List.set_cons_succ, i64_w, i32_w]
            rfl
          refine pure_ (i := 5) (N := (some 20)) (v := ?_) (a' := ?_) #[true, true, true, true, true, true, false, false, false, false, false, false, false, false] rfl rfl (by kernel_rfl) (fun _ _ _ h => h) (Or.inl ⟨by rfl, ?_⟩) ?_ ?_
          rotate_left
          · intro w'
            go_simp
            with_reducible rfl
          rotate_left
          · simp only [Act.put, List.setIfInBounds_toArray, List.set_cons_zero, List.set_cons_succ, i64_w, i32_w]
            rfl
          refine pure_ (i := 6) (N := (some 21)) (v := ?_) (a' := ?_) #[true, true, true, true, true, true, true, false, false, false, false, false, false, false] rfl rfl (by kernel_rfl) (fun _ _ _ h => h) (Or.inl ⟨by rfl, ?_⟩) ?_ ?_
          rotate_left
          · intro w'
            go_simp
            with_reducible rfl
          rotate_left
          · simp only [Act.put, List.setIfInBounds_toArray, List.set_cons_zero, List.set_cons_succ, i64_w, i32_w]
            rfl
          refine take_ (i := 7) (N := (some 22)) (v := ?_) (a' := ?_) #[true, true, true, true, true, true, true, true, false, false, false, false, false, false] rfl rfl (by kernel_rfl) (fun _ _ _ h => h) (Or.inl ⟨by rfl, ?_⟩) hHeld ?_ ?_
          rotate_left
          · rintro w' ⟨s0, s1, s2, s3⟩
            go_simp
            with_reducible rfl
          rotate_left
          · simp only [Act.put, List.setIfInBounds_toArray, List.set_cons_zero, List.set_cons_succ, i64_w, i32_w]
            rfl
          refine pure_ (i := 8) (N := (some 23)) (v := ?_) (a' := ?_) #[true, true, true, true, true, true, true, true, true, false, false, false, false, false] rfl rfl (by kernel_rfl) (fun _ _ _ h => h) (Or.inl ⟨by rfl, ?_⟩) ?_ ?_
          rotate_left
          · intro w'
            go_simp
            with_reducible rfl
          rotate_left
          · simp only [Act.put, List.setIfInBounds_toArray, List.set_cons_zero, List.set_cons_succ, i64_w, i32_w]
            rfl
          refine pure_ (i := 9) (N := (some 24)) (v := ?_) (a' := ?_) #[true, true, true, true, true, true, true, true, true, true, false, false, false, false] rfl rfl (by kernel_rfl) (fun _ _ _ h => h) (Or.inl ⟨by rfl, ?_⟩) ?_ ?_
          rotate_left
          · intro w'
            go_simp
            with_reducible rfl
          rotate_left
          · simp only [Act.put, List.setIfInBounds_toArray, List.set_cons_zero, List.set_cons_succ, i64_w, i32_w]
            rfl
          refine pure_ (i := 10) (N := (some 25)) (v := undef) (a' := ?_) #[true, true, true, true, true, true, true, true, true, true, true, false, false, false] rfl rfl (by kernel_rfl) (fun _ _ _ h => h) (Or.inr ⟨by rfl, rfl⟩) ?_ ?_
          rotate_left
          · simp only [Act.put, List.setIfInBounds_toArray, List.set_cons_zero, List.set_cons_succ, i64_w, i32_w]
            rfl
          refine pure_ (i := 11) (N := (some 26)) (v := undef) (a' := ?_) #[true, true, true, true, true, true, true, true, true, true, true, true, false, false] rfl rfl (by kernel_rfl) (fun _ _ _ h => h) (Or.inr ⟨by rfl, rfl⟩) ?_ ?_
          rotate_left
          · simp only [Act.put, List.setIfInBounds_toArray, List.set_cons_zero, List.set_cons_succ, i64_w, i32_w]
            rfl
          refine pure_ (i := 12) (N := (some 27)) (v := undef) (a' := ?_) #[true, true, true, true, true, true, true, true, true, true, true, true, true, false] rfl rfl (by kernel_rfl) (fun _ _ _ h => h) (Or.inr ⟨by rfl, rfl⟩) ?_ ?_
          rotate_left
          · simp only [Act.put, List.setIfInBounds_toArray, List.set_cons_zero, List.set_cons_succ, i64_w, i32_w]
            rfl
          refine pure_ (i := 13) (N := (some 28)) (v := ?_) (a' := ?_) #[true, true, true, true, true, true, true, true, true, true, true, true, true, true] rfl rfl (by kernel_rfl) (fun _ _ _ h => h) (Or.inl ⟨by rfl, ?_⟩) ?_ ?_
          rotate_left
          · intro w'
            go_simp
            with_reducible rfl
          rotate_left
          · simp only [Act.put, List.setIfInBounds_toArray, List.set_cons_zero, List.set_cons_succ, i64_w, i32_w]
            rfl
          refine done_ (by kernel_rfl) ?_
          have HsD_12 : Hid (V_3.drew.heap[B0]? = some (.cells S0 24 (0, 0))) := Lib.hid H_6.out
          have HtD_13 : Hid (V_3.drew.heap[X_2]? = some (.cells T 39 (0, 0))) := Lib.hid H_10.out
          have HEVD_11 : Hid (Below B0 w V_3.drew) := Lib.hid HE_9.out.drew
          clear H_6 H_10 HE_9
          generalize V_3.drew = VD_11 at HsD_12 HtD_13 HEVD_11 ⊢
          have hf : fD p t = true := by unfold fD; first | (simp only [q1]; rfl) | (simp only [q1, q2]; rfl)
          have hst := hstep.out
          rw [hf] at hst
          replace hst := Lib.hid hst
          clear hf
          go_wp2_with (first | ((with_reducible refine wpl_gate (T := 39) rfl ?_); refine wpl_ld _ _ rfl (by rfl) X_2 rfl HtD_13.out Try.underlying39 rfl (by kernel_rfl) zT.out ?_))
          refine (extra_c okt.out _ _ eT.out _ hx.out).mono ?_; rintro e V_14 ⟨rfl, hb_15⟩
          have H_16 : Hid (V_14.heap[B0]? = some (.cells S0 24 (0, 0))) := Lib.hid ((hb_15.block B0 (blk_lt HsD_12.out)).trans HsD_12.out)
          have H_17 : Hid (V_14.heap[X_2]? = some (.cells T 39 (0, 0))) := Lib.hid ((hb_15.block X_2 (blk_lt HtD_13.out)).trans HtD_13.out)
          have HE_18 : Hid (Below B0 w V_14) := Lib.hid (HEVD_11.out.trans (hb_15.mono (sz_le hB0.out HEVD_11.out.size)))
          clear HEVD_11 HsD_12 HtD_13
          clear hb_15
          have hwk' := hwk.out
          go_wp2
          clear hwk'
          go_roundw
          case rel => exact ⟨k + 1, rfl, by omega, by rw [hst.out]; simp only [if_true]; first | rfl | (unfold mx; rfl) | (congr 1; unfold mx; omega), H_16.out, HE_18.out⟩
          case measure => simp [intOf] <;> omega
      | false =>
        cases q2 : (t.f9 == 3) with
        | true =>
            skip
            refine start_ (n := 14) (S := fun w' => w'.cell? ⟨X_2, 10, none⟩ = some (.int .i64 t.f10) ∧ w'.cell? ⟨X_2, 9, none⟩ = some (.int .i64 t.f9) ∧ w'.cell? ⟨B0, 1, none⟩ = some (.slice (some ad) l.length cap) ∧ w'.cell? ⟨(ad.add (i.toNat * 11)).block, (ad.add (i.toNat * 11)).off + 10, none⟩ = some (.int .i64 p)) (ds := []) #[false, false, false, false, false, false, false, false, false, false, false, false, false, false] (by kernel_rfl) rfl rfl ⟨(blk_cell H_10.out 10).trans (by rw [eT.out]; rfl), (blk_cell H_10.out 9).trans (by rw [eT.out]; rfl), (blk_cell H_6.out 1).trans (by rw [eS0.out]; rfl), hpc.out _ HE_9.out.drew⟩ (fun hHeld => ?_)
            refine pure_ (i := 0) (N := (some 15)) (v := ?_) (a' := ?_) #[true, false, false, false, false, false, false, false, false, false, false, false, false, false] rfl rfl (by kernel_rfl) (fun _ _ _ h => h) (Or.inl ⟨by rfl, ?_⟩) ?_ ?_
            rotate_left
            · intro w'
              go_simp
              with_reducible rfl
            rotate_left
            · simp only [Act.put, List.setIfInBounds_toArray, List.set_cons_zero, List.set_cons_succ, i64_w, i32_w]
              rfl
            refine take_ (i := 1) (N := (some 16)) (v := ?_) (a' := ?_) #[true, true, false, false, false, false, false, false, false, false, false, false, false, false] rfl rfl (by kernel_rfl) (fun _ _ _ h => h) (Or.inl ⟨by rfl, ?_⟩) hHeld ?_ ?_
            rotate_left
            · rintro w' ⟨s0, s1, s2, s3⟩
              go_simp
              with_reducible rfl
            rotate_left
            · simp only [Act.put, List.setIfInBounds_toArray, List.set_cons_zero, List.set_cons_succ, i64_w, i32_w]
              rfl
            refine pure_ (i := 2) (N := (some 17)) (v := ?_) (a' := ?_) #[true, true, true, false, false, false, false, false, false, false, false, false, false, false] rfl rfl (by kernel_rfl) (fun _ _ _ h => h) (Or.inl ⟨by rfl, ?_⟩) ?_ ?_
            rotate_left
            · intro w'
              go_simp
              with_reducible rfl
            rotate_left
            · simp only [Act.put, List.setIfInBounds_toArray, List.set_cons_zero, List.set_cons_succ, i64_w, i32_w]
              rfl
            refine take_ (i := 3) (N := (some 18)) (v := ?_) (a' := ?_) #[true, true, true, true, false, false, false, false, false, false, false, false, false, false] rfl rfl (by kernel_rfl) (fun _ _ _ h => h) (Or.inl ⟨by rfl, ?_⟩) hHeld ?_ ?_
            rotate_left
            · rintro w' ⟨s0, s1, s2, s3⟩
              go_simp
              with_reducible rfl
            rotate_left
            · simp only [Act.put, List.setIfInBounds_toArray, List.set_cons_zero, List.set_cons_succ, i64_w, i32_w]
              rfl
            refine pure_ (i := 4) (N := (some 19)) (v := ?_) (a' := ?_) #[true, true, true, true, true, false, false, false, false, false, false, false, false, false] rfl rfl (by kernel_rfl) (fun _ _ _ h => h) (Or.inl ⟨by rfl, ?_⟩) ?_ ?_
            rotate_left
            · intro w'
              go_simp
              with_reducible rfl
            rotate_left
            · simp only [Act.put, List.setIfInBounds_toArray, List.set_cons_zero, List.set_cons_succ, i64_w, i32_w]
              rfl
            refine pure_ (i := 5) (N := (some 20)) (v := ?_) (a' := ?_) #[true, true, true, true, true, true, false, false, false, false, false, false, false, false] rfl rfl (by kernel_rfl) (fun _ _ _ h => h) (Or.inl ⟨by rfl, ?_⟩) ?_ ?_
            rotate_left
            · intro w'
              go_simp
              with_reducible rfl
            rotate_left
            · simp only [Act.put, List.setIfInBounds_toArray, List.set_cons_zero, List.set_cons_succ, i64_w, i32_w]
              rfl
            refine pure_ (i := 6) (N := (some 21)) (v := ?_) (a' := ?_) #[true, true, true, true, true, true, true, false, false, false, false, false, false, false] rfl rfl (by kernel_rfl) (fun _ _ _ h => h) (Or.inl ⟨by rfl, ?_⟩) ?_ ?_
            rotate_left
            · intro w'
              go_simp
              with_reducible rfl
            rotate_left
            · simp only [Act.put, List.setIfInBounds_toArray, List.set_cons_zero, List.set_cons_succ, i64_w, i32_w]
              rfl
            refine take_ (i := 7) (N := (some 22)) (v := ?_) (a' := ?_) #[true, true, true, true, true, true, true, true, false, false, false, false, false, false] rfl rfl (by kernel_rfl) (fun _ _ _ h => h) (Or.inl ⟨by rfl, ?_⟩) hHeld ?_ ?_
            rotate_left
            · rintro w' ⟨s0, s1, s2, s3⟩
              go_simp
              with_reducible rfl
            rotate_left
            · simp only [Act.put, List.setIfInBounds_toArray, List.set_cons_zero, List.set_cons_succ, i64_w, i32_w]
              rfl
            refine pure_ (i := 8) (N := (some 23)) (v := ?_) (a' := ?_) #[true, true, true, true, true, true, true, true, true, false, false, false, false, false] rfl rfl (by kernel_rfl) (fun _ _ _ h => h) (Or.inl ⟨by rfl, ?_⟩) ?_ ?_
            rotate_left
            · intro w'
              go_simp
              with_reducible rfl
            rotate_left
            · simp only [Act.put, List.setIfInBounds_toArray, List.set_cons_zero, List.set_cons_succ, i64_w, i32_w]
              rfl
            refine pure_ (i := 9) (N := (some 24)) (v := ?_) (a' := ?_) #[true, true, true, true, true, true, true, true, true, true, false, false, false, false] rfl rfl (by kernel_rfl) (fun _ _ _ h => h) (Or.inl ⟨by rfl, ?_⟩) ?_ ?_
            rotate_left
            · intro w'
              go_simp
              with_reducible rfl
            rotate_left
            · simp only [Act.put, List.setIfInBounds_toArray, List.set_cons_zero, List.set_cons_succ, i64_w, i32_w]
              rfl
            refine pure_ (i := 10) (N := (some 25)) (v := ?_) (a' := ?_) #[true, true, true, true, true, true, true, true, true, true, true, false, false, false] rfl rfl (by kernel_rfl) (fun _ _ _ h => h) (Or.inl ⟨by rfl, ?_⟩) ?_ ?_
            rotate_left
            · intro w'
              go_simp
              with_reducible rfl
            rotate_left
            · simp only [Act.put, List.setIfInBounds_toArray, List.set_cons_zero, List.set_cons_succ, i64_w, i32_w]
              rfl
            refine take_ (i := 11) (N := (some 26)) (v := ?_) (a' := ?_) #[true, true, true, true, true, true, true, true, true, true, true, true, false, false] rfl rfl (by kernel_rfl) (fun _ _ _ h => h) (Or.inl ⟨by rfl, ?_⟩) hHeld ?_ ?_
            rotate_left
            · rintro w' ⟨s0, s1, s2, s3⟩
              go_simp
              with_reducible rfl
            rotate_left
            · simp only [Act.put, List.setIfInBounds_toArray, List.set_cons_zero, List.set_cons_succ, i64_w, i32_w]
              rfl
            refine pure_ (i := 12) (N := (some 27)) (v := ?_) (a' := ?_) #[true, true, true, true, true, true, true, true, true, true, true, true, true, false] rfl rfl (by kernel_rfl) (fun _ _ _ h => h) (Or.inl ⟨by rfl, ?_⟩) ?_ ?_
            rotate_left
            · intro w'
              go_simp
              with_reducible rfl
            rotate_left
            · simp only [Act.put, List.setIfInBounds_toArray, List.set_cons_zero, List.set_cons_succ, i64_w, i32_w]
              rfl
            refine pure_ (i := 13) (N := (some 28)) (v := ?_) (a' := ?_) #[true, true, true, true, true, true, true, true, true, true, true, true, true, true] rfl rfl (by kernel_rfl) (fun _ _ _ h => h) (Or.inl ⟨by rfl, ?_⟩) ?_ ?_
            rotate_left
            · intro w'
              go_simp
              with_reducible rfl
            rotate_left
            · simp only [Act.put, List.setIfInBounds_toArray, List.set_cons_zero, List.set_cons_succ, i64_w, i32_w]
              rfl
            refine done_ (by kernel_rfl) ?_
            have HsD_20 : Hid (V_3.drew.heap[B0]? = some (.cells S0 24 (0, 0))) := Lib.hid H_6.out
            have HtD_21 : Hid (V_3.drew.heap[X_2]? = some (.cells T 39 (0, 0))) := Lib.hid H_10.out
            have HEVD_19 : Hid (Below B0 w V_3.drew) := Lib.hid HE_9.out.drew
            clear H_6 H_10 HE_9
            generalize V_3.drew = VD_19 at HsD_20 HtD_21 HEVD_19 ⊢
            have hf : fD p t = true := by unfold fD; first | (simp only [q1]; rfl) | (simp only [q1, q2]; rfl)
            have hst := hstep.out
            rw [hf] at hst
            replace hst := Lib.hid hst
            clear hf
            go_wp2_with (first | ((with_reducible refine wpl_gate (T := 39) rfl ?_); refine wpl_ld _ _ rfl (by rfl) X_2 rfl HtD_21.out Try.underlying39 rfl (by kernel_rfl) zT.out ?_))
            refine (extra_c okt.out _ _ eT.out _ hx.out).mono ?_; rintro e V_22 ⟨rfl, hb_23⟩
            have H_24 : Hid (V_22.heap[B0]? = some (.cells S0 24 (0, 0))) := Lib.hid ((hb_23.block B0 (blk_lt HsD_20.out)).trans HsD_20.out)
            have H_25 : Hid (V_22.heap[X_2]? = some (.cells T 39 (0, 0))) := Lib.hid ((hb_23.block X_2 (blk_lt HtD_21.out)).trans HtD_21.out)
            have HE_26 : Hid (Below B0 w V_22) := Lib.hid (HEVD_19.out.trans (hb_23.mono (sz_le hB0.out HEVD_19.out.size)))
            clear HEVD_19 HsD_20 HtD_21
            clear hb_23
            have hwk' := hwk.out
            go_wp2
            clear hwk'
            go_roundw
            case rel => exact ⟨k + 1, rfl, by omega, by rw [hst.out]; simp only [if_true]; first | rfl | (unfold mx; rfl) | (congr 1; unfold mx; omega), H_24.out, HE_26.out⟩
            case measure => simp [intOf] <;> omega
        | false =>
            skip
            refine start_ (n := 14) (S := fun w' => w'.cell? ⟨X_2, 10, none⟩ = some (.int .i64 t.f10) ∧ w'.cell? ⟨X_2, 9, none⟩ = some (.int .i64 t.f9) ∧ w'.cell? ⟨B0, 1, none⟩ = some (.slice (some ad) l.length cap) ∧ w'.cell? ⟨(ad.add (i.toNat * 11)).block, (ad.add (i.toNat * 11)).off + 10, none⟩ = some (.int .i64 p)) (ds := []) #[false, false, false, false, false, false, false, false, false, false, false, false, false, false] (by kernel_rfl) rfl rfl ⟨(blk_cell H_10.out 10).trans (by rw [eT.out]; rfl), (blk_cell H_10.out 9).trans (by rw [eT.out]; rfl), (blk_cell H_6.out 1).trans (by rw [eS0.out]; rfl), hpc.out _ HE_9.out.drew⟩ (fun hHeld => ?_)
            refine pure_ (i := 0) (N := (some 15)) (v := ?_) (a' := ?_) #[true, false, false, false, false, false, false, false, false, false, false, false, false, false] rfl rfl (by kernel_rfl) (fun _ _ _ h => h) (Or.inl ⟨by rfl, ?_⟩) ?_ ?_
            rotate_left
            · intro w'
              go_simp
              with_reducible rfl
            rotate_left
            · simp only [Act.put, List.setIfInBounds_toArray, List.set_cons_zero, List.set_cons_succ, i64_w, i32_w]
              rfl
            refine take_ (i := 1) (N := (some 16)) (v := ?_) (a' := ?_) #[true, true, false, false, false, false, false, false, false, false, false, false, false, false] rfl rfl (by kernel_rfl) (fun _ _ _ h => h) (Or.inl ⟨by rfl, ?_⟩) hHeld ?_ ?_
            rotate_left
            · rintro w' ⟨s0, s1, s2, s3⟩
              go_simp
              with_reducible rfl
            rotate_left
            · simp only [Act.put, List.setIfInBounds_toArray, List.set_cons_zero, List.set_cons_succ, i64_w, i32_w]
              rfl
            refine pure_ (i := 2) (N := (some 17)) (v := ?_) (a' := ?_) #[true, true, true, false, false, false, false, false, false, false, false, false, false, false] rfl rfl (by kernel_rfl) (fun _ _ _ h => h) (Or.inl ⟨by rfl, ?_⟩) ?_ ?_
            rotate_left
            · intro w'
              go_simp
              with_reducible rfl
            rotate_left
            · simp only [Act.put, List.setIfInBounds_toArray, List.set_cons_zero, List.set_cons_succ, i64_w, i32_w]
              rfl
            refine take_ (i := 3) (N := (some 18)) (v := ?_) (a' := ?_) #[true, true, true, true, false, false, false, false, false, false, false, false, false, false] rfl rfl (by kernel_rfl) (fun _ _ _ h => h) (Or.inl ⟨by rfl, ?_⟩) hHeld ?_ ?_
            rotate_left
            · rintro w' ⟨s0, s1, s2, s3⟩
              go_simp
              with_reducible rfl
            rotate_left
            · simp only [Act.put, List.setIfInBounds_toArray, List.set_cons_zero, List.set_cons_succ, i64_w, i32_w]
              rfl
            refine pure_ (i := 4) (N := (some 19)) (v := ?_) (a' := ?_) #[true, true, true, true, true, false, false, false, false, false, false, false, false, false] rfl rfl (by kernel_rfl) (fun _ _ _ h => h) (Or.inl ⟨by rfl, ?_⟩) ?_ ?_
            rotate_left
            · intro w'
              go_simp
              with_reducible rfl
            rotate_left
            · simp only [Act.put, List.setIfInBounds_toArray, List.set_cons_zero, List.set_cons_succ, i64_w, i32_w]
              rfl
            refine pure_ (i := 5) (N := (some 20)) (v := ?_) (a' := ?_) #[true, true, true, true, true, true, false, false, false, false, false, false, false, false] rfl rfl (by kernel_rfl) (fun _ _ _ h => h) (Or.inl ⟨by rfl, ?_⟩) ?_ ?_
            rotate_left
            · intro w'
              go_simp
              with_reducible rfl
            rotate_left
            · simp only [Act.put, List.setIfInBounds_toArray, List.set_cons_zero, List.set_cons_succ, i64_w, i32_w]
              rfl
            refine pure_ (i := 6) (N := (some 21)) (v := ?_) (a' := ?_) #[true, true, true, true, true, true, true, false, false, false, false, false, false, false] rfl rfl (by kernel_rfl) (fun _ _ _ h => h) (Or.inl ⟨by rfl, ?_⟩) ?_ ?_
            rotate_left
            · intro w'
              go_simp
              with_reducible rfl
            rotate_left
            · simp only [Act.put, List.setIfInBounds_toArray, List.set_cons_zero, List.set_cons_succ, i64_w, i32_w]
              rfl
            refine take_ (i := 7) (N := (some 22)) (v := ?_) (a' := ?_) #[true, true, true, true, true, true, true, true, false, false, false, false, false, false] rfl rfl (by kernel_rfl) (fun _ _ _ h => h) (Or.inl ⟨by rfl, ?_⟩) hHeld ?_ ?_
            rotate_left
            · rintro w' ⟨s0, s1, s2, s3⟩
              go_simp
              with_reducible rfl
            rotate_left
            · simp only [Act.put, List.setIfInBounds_toArray, List.set_cons_zero, List.set_cons_succ, i64_w, i32_w]
              rfl
            refine pure_ (i := 8) (N := (some 23)) (v := ?_) (a' := ?_) #[true, true, true, true, true, true, true, true, true, false, false, false, false, false] rfl rfl (by kernel_rfl) (fun _ _ _ h => h) (Or.inl ⟨by rfl, ?_⟩) ?_ ?_
            rotate_left
            · intro w'
              go_simp
              with_reducible rfl
            rotate_left
            · simp only [Act.put, List.setIfInBounds_toArray, List.set_cons_zero, List.set_cons_succ, i64_w, i32_w]
              rfl
            refine pure_ (i := 9) (N := (some 24)) (v := ?_) (a' := ?_) #[true, true, true, true, true, true, true, true, true, true, false, false, false, false] rfl rfl (by kernel_rfl) (fun _ _ _ h => h) (Or.inl ⟨by rfl, ?_⟩) ?_ ?_
            rotate_left
            · intro w'
              go_simp
              with_reducible rfl
            rotate_left
            · simp only [Act.put, List.setIfInBounds_toArray, List.set_cons_zero, List.set_cons_succ, i64_w, i32_w]
              rfl
            refine pure_ (i := 10) (N := (some 25)) (v := ?_) (a' := ?_) #[true, true, true, true, true, true, true, true, true, true, true, false, false, false] rfl rfl (by kernel_rfl) (fun _ _ _ h => h) (Or.inl ⟨by rfl, ?_⟩) ?_ ?_
            rotate_left
            · intro w'
              go_simp
              with_reducible rfl
            rotate_left
            · simp only [Act.put, List.setIfInBounds_toArray, List.set_cons_zero, List.set_cons_succ, i64_w, i32_w]
              rfl
            refine take_ (i := 11) (N := (some 26)) (v := ?_) (a' := ?_) #[true, true, true, true, true, true, true, true, true, true, true, true, false, false] rfl rfl (by kernel_rfl) (fun _ _ _ h => h) (Or.inl ⟨by rfl, ?_⟩) hHeld ?_ ?_
            rotate_left
            · rintro w' ⟨s0, s1, s2, s3⟩
              go_simp
              with_reducible rfl
            rotate_left
            · simp only [Act.put, List.setIfInBounds_toArray, List.set_cons_zero, List.set_cons_succ, i64_w, i32_w]
              rfl
            refine pure_ (i := 12) (N := (some 27)) (v := ?_) (a' := ?_) #[true, true, true, true, true, true, true, true, true, true, true, true, true, false] rfl rfl (by kernel_rfl) (fun _ _ _ h => h) (Or.inl ⟨by rfl, ?_⟩) ?_ ?_
            rotate_left
            · intro w'
              go_simp
              with_reducible rfl
            rotate_left
            · simp only [Act.put, List.setIfInBounds_toArray, List.set_cons_zero, List.set_cons_succ, i64_w, i32_w]
              rfl
            refine pure_ (i := 13) (N := (some 28)) (v := ?_) (a' := ?_) #[true, true, true, true, true, true, true, true, true, true, true, true, true, true] rfl rfl (by kernel_rfl) (fun _ _ _ h => h) (Or.inl ⟨by rfl, ?_⟩) ?_ ?_
            rotate_left
            · intro w'
              go_simp
              with_reducible rfl
            rotate_left
            · simp only [Act.put, List.setIfInBounds_toArray, List.set_cons_zero, List.set_cons_succ, i64_w, i32_w]
              rfl
            refine done_ (by kernel_rfl) ?_
            have HsD_28 : Hid (V_3.drew.heap[B0]? = some (.cells S0 24 (0, 0))) := Lib.hid H_6.out
            have HtD_29 : Hid (V_3.drew.heap[X_2]? = some (.cells T 39 (0, 0))) := Lib.hid H_10.out
            have HEVD_27 : Hid (Below B0 w V_3.drew) := Lib.hid HE_9.out.drew
            clear H_6 H_10 HE_9
            generalize V_3.drew = VD_27 at HsD_28 HtD_29 HEVD_27 ⊢
            have hf : fD p t = false := by unfold fD; first | (simp only [q1]; rfl) | (simp only [q1, q2]; rfl)
            have hst := hstep.out
            rw [hf] at hst
            replace hst := Lib.hid hst
            clear hf
            have hwk' := hwk.out
            go_wp2
            clear hwk'
            go_roundw
            case rel => exact ⟨k + 1, rfl, by omega, by rw [hst.out]; rfl, HsD_28.out, HEVD_27.out⟩
            case measure => simp [intOf] <;> omega
    · have hkl : k = l.length := by omega
      have hge : decide (k < l.length) = false := by simp; omega
      clear hlt
      go_wp2_with fail
      go_ret
      exact ⟨by rw [hkl, List.take_length]; rfl, HE⟩
set_option maxRecDepth 100000 in
set_option maxHeartbeats 6000000 in
theorem ahead_c (w : World) (B : Int) (ad : Addr) (l : List S39) (cap : Nat) (hc : l.length ≤ cap) (hC : Kd.C k39 w (some ad) l.length l) (ok : OkS B l) (i : Int) (hi : 0 ≤ i) (hi1 : i < (l.length : Int)) (S0 : Array Value) (eS0 : S0 = #[.int .i64 B, .slice (some ad) l.length cap]) : Calls Try.prog 16 #[.agg S0, .int .i64 i] w fun e w' => e = .returned (.int .i64 (mxs (fA (rd_T39 l i).f10) l 0)) ∧ Below w.heap.size w w' := by
  obtain ⟨p, hp⟩ : ∃ p, (rd_T39 l i).f10 = p := ⟨_, rfl⟩
  rw [hp]
  replace hp := Lib.hid hp
  have zS0 : Hid (S0.size = 2) := Lib.hid (by rw [eS0]; rfl)
  replace eS0 := Lib.hid eS0
  have hlen2 := ok.2.2.2.1
  replace ok := Lib.hid ok
  obtain ⟨U, eU⟩ : ∃ A : Array Value, A = #[.string ⟨#[]⟩, .int .i64 0, .int .i64 0, .int .i64 0, .int .i64 0, .int .i64 0, .int .i64 0, .int .i64 0, .int .i64 0, .int .i64 0, .int .i64 0] := ⟨_, rfl⟩
  have zU : Hid (U.size = 11) := Lib.hid (by rw [eU]; rfl)
  have hzU : ∀ V : World, (zeroValue 39).run Try.prog V = .ok (.agg U) V := fun V => by rw [eU]; kernel_rfl
  replace eU := Lib.hid eU
  obtain ⟨B0, hB0⟩ : ∃ B, w.heap.size = B := ⟨_, rfl⟩
  rw [hB0]
  obtain ⟨V0, hV0⟩ : ∃ V, w.alloc (.cells S0 24) = V := ⟨_, rfl⟩
  have Hs : Hid (V0.heap[B0]? = some (.cells S0 24 (0, 0))) := Lib.hid (by rw [← hV0]; exact (box_new hB0).1)
  have HE : Hid (Below B0 w V0) := Lib.hid (by rw [← hV0, ← hB0]; exact (Below.refl _ _).alloc (Nat.le_refl _) _)
  go_enter Try.func16, Try.ntmps16
  go_upto_region 1 with (fail)
  replace hB0 := Lib.hid hB0
  replace hV0 := Lib.hid hV0
  have c_30 : V0.cell? ⟨B0, 1, none⟩ = some (.slice (some ad) l.length cap) := by rw [blk_cell Hs.out, eS0.out]; rfl
  have hz := hzU
  have hpc := Lib.hid (fun (W : World) (hW : Below B0 w W) => row_c (j := 10) hC hB0.out hW hi hi1 (by rw [← hp.out]; rfl) : ∀ W : World, Below B0 w W → W.cell? ⟨(ad.add (i.toNat * 11)).block, (ad.add (i.toNat * 11)).off + 10, none⟩ = some (.int .i64 p))
  have hI : Hid (V0.heap[B0]? = some (.cells S0 24 (0, 0))) := Lib.hid Hs.out
  go_wp2_with fail
  go_loopw [5, 11] (fun m j wr => ∃ k : Nat, j = .int .i64 (k : Int) ∧ k ≤ l.length ∧ m = .int .i64 (mxs (fA p) (l.take k) 0) ∧ wr.heap[B0]? = some (.cells S0 24 (0, 0)) ∧ Below B0 w wr) (fun _ j _ => l.length - (intOf j).toNat)
  case atStart => exact ⟨0, rfl, Nat.zero_le _, rfl, hI.out, HE.out⟩
  case round =>
    clear hI Hs HE c_30
    obtain ⟨k, rfl, hk, rfl, HS, HE⟩ := hrel
    by_cases hlt : k < l.length
    · skip
      have hkl : (k : Int) < (l.length : Int) := by omega
      have hk0 : (0 : Int) ≤ (k : Int) := by omega
      have hild : decide (k < l.length) = true := by simpa using hlt
      obtain ⟨t, ht⟩ : ∃ t, rd_T39 l k = t := ⟨_, rfl⟩
      have okt := (ok.out.2.2.2.2 k hlt).1
      have huq : k = i.toNat ∨ ¬ t.f10 = p := by
        by_cases h : k = i.toNat
        · exact .inl h
        · right
          rw [← ht, ← hp.out]
          rcases Nat.lt_or_gt_of_ne h with h | h
          · have := ((ok.out.2.2.2.2 i.toNat (by omega)).2 k (by omega)).1
            rwa [show ((i.toNat : Nat) : Int) = i by omega] at this
          · have := ((ok.out.2.2.2.2 k hlt).2 i.toNat (by omega)).1
            rw [show ((i.toNat : Nat) : Int) = i by omega] at this
            exact fun h => this h.symm
      rw [ht] at okt
      have hstep := mxs_take (fA p) hlt
      rw [ht] at hstep
      obtain ⟨m, hm⟩ : ∃ m, mxs (fA p) (l.take k) 0 = m := ⟨_, rfl⟩
      rw [hm] at hstep ⊢
      obtain ⟨x, hx⟩ : ∃ x, x = ex t := ⟨_, rfl⟩
      rw [← hx] at hstep
      have hwk : wrap64 ((k : Int) + 1) = ((k + 1 : Nat) : Int) := w1 (by omega)
      obtain ⟨T, eT⟩ : ∃ A, A = TA t := ⟨_, rfl⟩
      have zT : Hid (T.size = 11) := Lib.hid (by rw [eT]; rfl)
      have oT : Hid (T.all (·.oneCell') = true) := Lib.hid (by rw [eT]; exact TA_one _)
      replace eT := Lib.hid eT
      have hrow := Lib.hid (fun (W : World) (hW : Below B0 w W) => row_a hC hB0.out hW hk0 hkl T (by rw [ht]; exact eT.out))
      replace ht := Lib.hid ht
      replace hm := Lib.hid hm
      replace hx := Lib.hid hx
      replace okt := Lib.hid okt
      replace hstep := Lib.hid hstep
      replace huq := Lib.hid huq
      replace hwk := Lib.hid hwk
      replace HS := Lib.hid HS
      replace HE := Lib.hid HE
      obtain ⟨X_31, hX_33⟩ : ∃ X, wr.heap.size = X := ⟨_, rfl⟩
      obtain ⟨V_32, q_34_0, q_34_1, q_34_2, q_34_3⟩ := st_new (w := wr) (T := 39) hX_33 zU.out zT.out oT.out
      have ne_36 : B0 < X_31 := hX_33 ▸ blk_lt HS.out
      have H_35 : Hid (V_32.heap[B0]? = some (.cells S0 24 (0, 0))) := Lib.hid ((q_34_2 _ ne_36).trans HS.out)
      have ge_37 : B0 ≤ X_31 := hX_33 ▸ (sz_le hB0.out HE.out.size)
      have HE_38 : Hid (Below B0 w V_32) := Lib.hid (q_34_3 _ _ ge_37 HE.out)
      have H_39 := Lib.hid q_34_1
      clear q_34_1 q_34_2 q_34_3
      go_upto_region 5 with (first | ((with_reducible refine wpl_gate (T := 39) rfl ?_); refine wpl_ldr _ _ rfl (by rfl) (ad.add (((k : Int)).toNat * 11)) rfl (hrow.out _ HE.out) Try.underlying39 rfl (by kernel_rfl) zT.out ?_))
      clear q_34_0 hX_33
      clear HE HS
      cases q1 : decide (p ≤ t.f10) with
      | false =>
          skip
          refine start_ (n := 14) (S := fun w' => w'.cell? ⟨X_31, 10, none⟩ = some (.int .i64 t.f10) ∧ w'.cell? ⟨X_31, 9, none⟩ = some (.int .i64 t.f9) ∧ w'.cell? ⟨B0, 1, none⟩ = some (.slice (some ad) l.length cap) ∧ w'.cell? ⟨(ad.add (i.toNat * 11)).block, (ad.add (i.toNat * 11)).off + 10, none⟩ = some (.int .i64 p)) (ds := []) #[false, false, false, false, false, false, false, false, false, false, false, false, false, false] (by kernel_rfl) rfl rfl ⟨(blk_cell H_39.out 10).trans (by rw [eT.out]; rfl), (blk_cell H_39.out 9).trans (by rw [eT.out]; rfl), (blk_cell H_35.out 1).trans (by rw [eS0.out]; rfl), hpc.out _ HE_38.out.drew⟩ (fun hHeld => ?_)
          refine pure_ (i := 0) (N := (some 15)) (v := ?_) (a' := ?_) #[true, false, false, false, false, false, false, false, false, false, false, false, false, false] rfl rfl (by kernel_rfl) (fun _ _ _ h => h) (Or.inl ⟨by rfl, ?_⟩) ?_ ?_
          rotate_left
          · intro w'
            go_simp
            with_reducible rfl
          rotate_left
          · simp only [Act.put, List.setIfInBounds_toArray, List.set_cons_zero, List.set_cons_succ, i64_w, i32_w]
            rfl
          refine take_ (i := 1) (N := (some 16)) (v := ?_) (a' := ?_) #[true, true, false, false, false, false, false, false, false, false, false, false, false, false] rfl rfl (by kernel_rfl) (fun _ _ _ h => h) (Or.inl ⟨by rfl, ?_⟩) hHeld ?_ ?_
          rotate_left
          · rintro w' ⟨s0, s1, s2, s3⟩
            go_simp
            with_reducible rfl
          rotate_left
          · simp only [Act.put, List.setIfInBounds_toArray, List.set_cons_zero, List.set_cons_succ, i64_w, i32_w]
            rfl
          refine pure_ (i := 2) (N := (some 17)) (v := ?_) (a' := ?_) #[true, true, true, false, false, false, false, false, false, false, false, false, false, false] rfl rfl (by kernel_rfl) (fun _ _ _ h => h) (Or.inl ⟨by rfl, ?_⟩) ?_ ?_
          rotate_left
          · intro w'
            go_simp
            with_reducible rfl
          rotate_left
          · simp only [Act.put, List.setIfInBounds_toArray, List.set_cons_zero, List.set_cons_succ, i64_w, i32_w]
            rfl
          refine take_ (i := 3) (N := (some 18)) (v := ?_) (a' := ?_) #[true, true, true, true, false, false, false, false, false, false, false, false, false, false] rfl rfl (by kernel_rfl) (fun _ _ _ h => h) (Or.inl ⟨by rfl, ?_⟩) hHeld ?_ ?_
          rotate_left
          · rintro w' ⟨s0, s1, s2, s3⟩
            go_simp
            with_reducible rfl
          rotate_left
          · simp only [Act.put, List.setIfInBounds_toArray, List.set_cons_zero, List.set_cons_succ, i64_w, i32_w]
            rfl
          refine pure_ (i := 4) (N := (some 19)) (v := ?_) (a' := ?_) #[true, true, true, true, true, false, false, false, false, false, false, false, false, false] rfl rfl (by kernel_rfl) (fun _ _ _ h => h) (Or.inl ⟨by rfl, ?_⟩) ?_ ?_
          rotate_left
          · intro w'
            go_simp
            with_reducible rfl
          rotate_left
          · simp only [Act.put, List.setIfInBounds_toArray, List.set_cons_zero, List.set_cons_succ, i64_w, i32_w]
            rfl
          refine pure_ (i := 5) (N := (some 20)) (v := ?_) (a' := ?_) #[true, true, true, true, true, true, false, false, false, false, false, false, false, false] rfl rfl (by kernel_rfl) (fun _ _ _ h => h) (Or.inl ⟨by rfl, ?_⟩) ?_ ?_
          rotate_left
          · intro w'
            go_simp
            with_reducible rfl
          rotate_left
          · simp only [Act.put, List.setIfInBounds_toArray, List.set_cons_zero, List.set_cons_succ, i64_w, i32_w]
            rfl
          refine pure_ (i := 6) (N := (some 21)) (v := ?_) (a' := ?_) #[true, true, true, true, true, true, true, false, false, false, false, false, false, false] rfl rfl (by kernel_rfl) (fun _ _ _ h => h) (Or.inl ⟨by rfl, ?_⟩) ?_ ?_
          rotate_left
          · intro w'
            go_simp
            with_reducible rfl
          rotate_left
          · simp only [Act.put, List.setIfInBounds_toArray, List.set_cons_zero, List.set_cons_succ, i64_w, i32_w]
            rfl
          refine take_ (i := 7) (N := (some 22)) (v := ?_) (a' := ?_) #[true, true, true, true, true, true, true, true, false, false, false, false, false, false] rfl rfl (by kernel_rfl) (fun _ _ _ h => h) (Or.inl ⟨by rfl, ?_⟩) hHeld ?_ ?_
          rotate_left
          · rintro w' ⟨s0, s1, s2, s3⟩
            go_simp
            with_reducible rfl
          rotate_left
          · simp only [Act.put, List.setIfInBounds_toArray, List.set_cons_zero, List.set_cons_succ, i64_w, i32_w]
            rfl
          refine pure_ (i := 8) (N := (some 23)) (v := ?_) (a' := ?_) #[true, true, true, true, true, true, true, true, true, false, false, false, false, false] rfl rfl (by kernel_rfl) (fun _ _ _ h => h) (Or.inl ⟨by rfl, ?_⟩) ?_ ?_
          rotate_left
          · intro w'
            go_simp
            with_reducible rfl
          rotate_left
          · simp only [Act.put, List.setIfInBounds_toArray, List.set_cons_zero, List.set_cons_succ, i64_w, i32_w]
            rfl
          refine pure_ (i := 9) (N := (some 24)) (v := ?_) (a' := ?_) #[true, true, true, true, true, true, true, true, true, true, false, false, false, false] rfl rfl (by kernel_rfl) (fun _ _ _ h => h) (Or.inl ⟨by rfl, ?_⟩) ?_ ?_
          rotate_left
          · intro w'
            go_simp
            with_reducible rfl
          rotate_left
          · simp only [Act.put, List.setIfInBounds_toArray, List.set_cons_zero, List.set_cons_succ, i64_w, i32_w]
            rfl
          refine pure_ (i := 10) (N := (some 25)) (v := undef) (a' := ?_) #[true, true, true, true, true, true, true, true, true, true, true, false, false, false] rfl rfl (by kernel_rfl) (fun _ _ _ h => h) (Or.inr ⟨by rfl, rfl⟩) ?_ ?_
          rotate_left
          · simp only [Act.put, List.setIfInBounds_toArray, List.set_cons_zero, List.set_cons_succ, i64_w, i32_w]
            rfl
          refine pure_ (i := 11) (N := (some 26)) (v := undef) (a' := ?_) #[true, true, true, true, true, true, true, true, true, true, true, true, false, false] rfl rfl (by kernel_rfl) (fun _ _ _ h => h) (Or.inr ⟨by rfl, rfl⟩) ?_ ?_
          rotate_left
          · simp only [Act.put, List.setIfInBounds_toArray, List.set_cons_zero, List.set_cons_succ, i64_w, i32_w]
            rfl
          refine pure_ (i := 12) (N := (some 27)) (v := undef) (a' := ?_) #[true, true, true, true, true, true, true, true, true, true, true, true, true, false] rfl rfl (by kernel_rfl) (fun _ _ _ h => h) (Or.inr ⟨by rfl, rfl⟩) ?_ ?_
          rotate_left
          · simp only [Act.put, List.setIfInBounds_toArray, List.set_cons_zero, List.set_cons_succ, i64_w, i32_w]
            rfl
          refine pure_ (i := 13) (N := (some 28)) (v := ?_) (a' := ?_) #[true, true, true, true, true, true, true, true, true, true, true, true, true, true] rfl rfl (by kernel_rfl) (fun _ _ _ h => h) (Or.inl ⟨by rfl, ?_⟩) ?_ ?_
          rotate_left
          · intro w'
            go_simp
            with_reducible rfl
          rotate_left
          · simp only [Act.put, List.setIfInBounds_toArray, List.set_cons_zero, List.set_cons_succ, i64_w, i32_w]
            rfl
          refine done_ (by kernel_rfl) ?_
          have HsD_41 : Hid (V_32.drew.heap[B0]? = some (.cells S0 24 (0, 0))) := Lib.hid H_35.out
          have HtD_42 : Hid (V_32.drew.heap[X_31]? = some (.cells T 39 (0, 0))) := Lib.hid H_39.out
          have HEVD_40 : Hid (Below B0 w V_32.drew) := Lib.hid HE_38.out.drew
          clear H_35 H_39 HE_38
          generalize V_32.drew = VD_40 at HsD_41 HtD_42 HEVD_40 ⊢
          have hf : fA p t = false := by unfold fA; first | (simp only [q1]; rfl) | (simp only [q1, q2]; rfl)
          have hst := hstep.out
          rw [hf] at hst
          replace hst := Lib.hid hst
          clear hf
          have hwk' := hwk.out
          go_wp2
          clear hwk'
          go_roundw
          case rel => exact ⟨k + 1, rfl, by omega, by rw [hst.out]; rfl, HsD_41.out, HEVD_40.out⟩
          case measure => simp [intOf] <;> omega
      | true =>
        cases q2 : (t.f9 == 3) with
        | true =>
            skip
            refine start_ (n := 14) (S := fun w' => w'.cell? ⟨X_31, 10, none⟩ = some (.int .i64 t.f10) ∧ w'.cell? ⟨X_31, 9, none⟩ = some (.int .i64 t.f9) ∧ w'.cell? ⟨B0, 1, none⟩ = some (.slice (some ad) l.length cap) ∧ w'.cell? ⟨(ad.add (i.toNat * 11)).block, (ad.add (i.toNat * 11)).off + 10, none⟩ = some (.int .i64 p)) (ds := []) #[false, false, false, false, false, false, false, false, false, false, false, false, false, false] (by kernel_rfl) rfl rfl ⟨(blk_cell H_39.out 10).trans (by rw [eT.out]; rfl), (blk_cell H_39.out 9).trans (by rw [eT.out]; rfl), (blk_cell H_35.out 1).trans (by rw [eS0.out]; rfl), hpc.out _ HE_38.out.drew⟩ (fun hHeld => ?_)
            refine pure_ (i := 0) (N := (some 15)) (v := ?_) (a' := ?_) #[true, false, false, false, false, false, false, false, false, false, false, false, false, false] rfl rfl (by kernel_rfl) (fun _ _ _ h => h) (Or.inl ⟨by rfl, ?_⟩) ?_ ?_
            rotate_left
            · intro w'
              go_simp
              with_reducible rfl
            rotate_left
            · simp only [Act.put, List.setIfInBounds_toArray, List.set_cons_zero, List.set_cons_succ, i64_w, i32_w]
              rfl
            refine take_ (i := 1) (N := (some 16)) (v := ?_) (a' := ?_) #[true, true, false, false, false, false, false, false, false, false, false, false, false, false] rfl rfl (by kernel_rfl) (fun _ _ _ h => h) (Or.inl ⟨by rfl, ?_⟩) hHeld ?_ ?_
            rotate_left
            · rintro w' ⟨s0, s1, s2, s3⟩
              go_simp
              with_reducible rfl
            rotate_left
            · simp only [Act.put, List.setIfInBounds_toArray, List.set_cons_zero, List.set_cons_succ, i64_w, i32_w]
              rfl
            refine pure_ (i := 2) (N := (some 17)) (v := ?_) (a' := ?_) #[true, true, true, false, false, false, false, false, false, false, false, false, false, false] rfl rfl (by kernel_rfl) (fun _ _ _ h => h) (Or.inl ⟨by rfl, ?_⟩) ?_ ?_
            rotate_left
            · intro w'
              go_simp
              with_reducible rfl
            rotate_left
            · simp only [Act.put, List.setIfInBounds_toArray, List.set_cons_zero, List.set_cons_succ, i64_w, i32_w]
              rfl
            refine take_ (i := 3) (N := (some 18)) (v := ?_) (a' := ?_) #[true, true, true, true, false, false, false, false, false, false, false, false, false, false] rfl rfl (by kernel_rfl) (fun _ _ _ h => h) (Or.inl ⟨by rfl, ?_⟩) hHeld ?_ ?_
            rotate_left
            · rintro w' ⟨s0, s1, s2, s3⟩
              go_simp
              with_reducible rfl
            rotate_left
            · simp only [Act.put, List.setIfInBounds_toArray, List.set_cons_zero, List.set_cons_succ, i64_w, i32_w]
              rfl
            refine pure_ (i := 4) (N := (some 19)) (v := ?_) (a' := ?_) #[true, true, true, true, true, false, false, false, false, false, false, false, false, false] rfl rfl (by kernel_rfl) (fun _ _ _ h => h) (Or.inl ⟨by rfl, ?_⟩) ?_ ?_
            rotate_left
            · intro w'
              go_simp
              with_reducible rfl
            rotate_left
            · simp only [Act.put, List.setIfInBounds_toArray, List.set_cons_zero, List.set_cons_succ, i64_w, i32_w]
              rfl
            refine pure_ (i := 5) (N := (some 20)) (v := ?_) (a' := ?_) #[true, true, true, true, true, true, false, false, false, false, false, false, false, false] rfl rfl (by kernel_rfl) (fun _ _ _ h => h) (Or.inl ⟨by rfl, ?_⟩) ?_ ?_
            rotate_left
            · intro w'
              go_simp
              with_reducible rfl
            rotate_left
            · simp only [Act.put, List.setIfInBounds_toArray, List.set_cons_zero, List.set_cons_succ, i64_w, i32_w]
              rfl
            refine pure_ (i := 6) (N := (some 21)) (v := ?_) (a' := ?_) #[true, true, true, true, true, true, true, false, false, false, false, false, false, false] rfl rfl (by kernel_rfl) (fun _ _ _ h => h) (Or.inl ⟨by rfl, ?_⟩) ?_ ?_
            rotate_left
            · intro w'
              go_simp
              with_reducible rfl
            rotate_left
            · simp only [Act.put, List.setIfInBounds_toArray, List.set_cons_zero, List.set_cons_succ, i64_w, i32_w]
              rfl
            refine take_ (i := 7) (N := (some 22)) (v := ?_) (a' := ?_) #[true, true, true, true, true, true, true, true, false, false, false, false, false, false] rfl rfl (by kernel_rfl) (fun _ _ _ h => h) (Or.inl ⟨by rfl, ?_⟩) hHeld ?_ ?_
            rotate_left
            · rintro w' ⟨s0, s1, s2, s3⟩
              go_simp
              with_reducible rfl
            rotate_left
            · simp only [Act.put, List.setIfInBounds_toArray, List.set_cons_zero, List.set_cons_succ, i64_w, i32_w]
              rfl
            refine pure_ (i := 8) (N := (some 23)) (v := ?_) (a' := ?_) #[true, true, true, true, true, true, true, true, true, false, false, false, false, false] rfl rfl (by kernel_rfl) (fun _ _ _ h => h) (Or.inl ⟨by rfl, ?_⟩) ?_ ?_
            rotate_left
            · intro w'
              go_simp
              with_reducible rfl
            rotate_left
            · simp only [Act.put, List.setIfInBounds_toArray, List.set_cons_zero, List.set_cons_succ, i64_w, i32_w]
              rfl
            refine pure_ (i := 9) (N := (some 24)) (v := ?_) (a' := ?_) #[true, true, true, true, true, true, true, true, true, true, false, false, false, false] rfl rfl (by kernel_rfl) (fun _ _ _ h => h) (Or.inl ⟨by rfl, ?_⟩) ?_ ?_
            rotate_left
            · intro w'
              go_simp
              with_reducible rfl
            rotate_left
            · simp only [Act.put, List.setIfInBounds_toArray, List.set_cons_zero, List.set_cons_succ, i64_w, i32_w]
              rfl
            refine pure_ (i := 10) (N := (some 25)) (v := ?_) (a' := ?_) #[true, true, true, true, true, true, true, true, true, true, true, false, false, false] rfl rfl (by kernel_rfl) (fun _ _ _ h => h) (Or.inl ⟨by rfl, ?_⟩) ?_ ?_
            rotate_left
            · intro w'
              go_simp
              with_reducible rfl
            rotate_left
            · simp only [Act.put, List.setIfInBounds_toArray, List.set_cons_zero, List.set_cons_succ, i64_w, i32_w]
              rfl
            refine take_ (i := 11) (N := (some 26)) (v := ?_) (a' := ?_) #[true, true, true, true, true, true, true, true, true, true, true, true, false, false] rfl rfl (by kernel_rfl) (fun _ _ _ h => h) (Or.inl ⟨by rfl, ?_⟩) hHeld ?_ ?_
            rotate_left
            · rintro w' ⟨s0, s1, s2, s3⟩
              go_simp
              with_reducible rfl
            rotate_left
            · simp only [Act.put, List.setIfInBounds_toArray, List.set_cons_zero, List.set_cons_succ, i64_w, i32_w]
              rfl
            refine pure_ (i := 12) (N := (some 27)) (v := ?_) (a' := ?_) #[true, true, true, true, true, true, true, true, true, true, true, true, true, false] rfl rfl (by kernel_rfl) (fun _ _ _ h => h) (Or.inl ⟨by rfl, ?_⟩) ?_ ?_
            rotate_left
            · intro w'
              go_simp
              with_reducible rfl
            rotate_left
            · simp only [Act.put, List.setIfInBounds_toArray, List.set_cons_zero, List.set_cons_succ, i64_w, i32_w]
              rfl
            refine pure_ (i := 13) (N := (some 28)) (v := ?_) (a' := ?_) #[true, true, true, true, true, true, true, true, true, true, true, true, true, true] rfl rfl (by kernel_rfl) (fun _ _ _ h => h) (Or.inl ⟨by rfl, ?_⟩) ?_ ?_
            rotate_left
            · intro w'
              go_simp
              with_reducible rfl
            rotate_left
            · simp only [Act.put, List.setIfInBounds_toArray, List.set_cons_zero, List.set_cons_succ, i64_w, i32_w]
              rfl
            refine done_ (by kernel_rfl) ?_
            have HsD_44 : Hid (V_32.drew.heap[B0]? = some (.cells S0 24 (0, 0))) := Lib.hid H_35.out
            have HtD_45 : Hid (V_32.drew.heap[X_31]? = some (.cells T 39 (0, 0))) := Lib.hid H_39.out
            have HEVD_43 : Hid (Below B0 w V_32.drew) := Lib.hid HE_38.out.drew
            clear H_35 H_39 HE_38
            generalize V_32.drew = VD_43 at HsD_44 HtD_45 HEVD_43 ⊢
            have hf : fA p t = true := by unfold fA; first | (simp only [q1]; rfl) | (simp only [q1, q2]; rfl)
            have hst := hstep.out
            rw [hf] at hst
            replace hst := Lib.hid hst
            clear hf
            go_wp2_with (first | ((with_reducible refine wpl_gate (T := 39) rfl ?_); refine wpl_ld _ _ rfl (by rfl) X_31 rfl HtD_45.out Try.underlying39 rfl (by kernel_rfl) zT.out ?_))
            refine (extra_c okt.out _ _ eT.out _ hx.out).mono ?_; rintro e V_46 ⟨rfl, hb_47⟩
            have H_48 : Hid (V_46.heap[B0]? = some (.cells S0 24 (0, 0))) := Lib.hid ((hb_47.block B0 (blk_lt HsD_44.out)).trans HsD_44.out)
            have H_49 : Hid (V_46.heap[X_31]? = some (.cells T 39 (0, 0))) := Lib.hid ((hb_47.block X_31 (blk_lt HtD_45.out)).trans HtD_45.out)
            have HE_50 : Hid (Below B0 w V_46) := Lib.hid (HEVD_43.out.trans (hb_47.mono (sz_le hB0.out HEVD_43.out.size)))
            clear HEVD_43 HsD_44 HtD_45
            clear hb_47
            have hwk' := hwk.out
            go_wp2
            clear hwk'
            go_roundw
            case rel => exact ⟨k + 1, rfl, by omega, by rw [hst.out]; simp only [if_true]; first | rfl | (unfold mx; rfl) | (congr 1; unfold mx; omega), H_48.out, HE_50.out⟩
            case measure => simp [intOf] <;> omega
        | false =>
            skip
            refine start_ (n := 14) (S := fun w' => w'.cell? ⟨X_31, 10, none⟩ = some (.int .i64 t.f10) ∧ w'.cell? ⟨X_31, 9, none⟩ = some (.int .i64 t.f9) ∧ w'.cell? ⟨B0, 1, none⟩ = some (.slice (some ad) l.length cap) ∧ w'.cell? ⟨(ad.add (i.toNat * 11)).block, (ad.add (i.toNat * 11)).off + 10, none⟩ = some (.int .i64 p)) (ds := []) #[false, false, false, false, false, false, false, false, false, false, false, false, false, false] (by kernel_rfl) rfl rfl ⟨(blk_cell H_39.out 10).trans (by rw [eT.out]; rfl), (blk_cell H_39.out 9).trans (by rw [eT.out]; rfl), (blk_cell H_35.out 1).trans (by rw [eS0.out]; rfl), hpc.out _ HE_38.out.drew⟩ (fun hHeld => ?_)
            refine pure_ (i := 0) (N := (some 15)) (v := ?_) (a' := ?_) #[true, false, false, false, false, false, false, false, false, false, false, false, false, false] rfl rfl (by kernel_rfl) (fun _ _ _ h => h) (Or.inl ⟨by rfl, ?_⟩) ?_ ?_
            rotate_left
            · intro w'
              go_simp
              with_reducible rfl
            rotate_left
            · simp only [Act.put, List.setIfInBounds_toArray, List.set_cons_zero, List.set_cons_succ, i64_w, i32_w]
              rfl
            refine take_ (i := 1) (N := (some 16)) (v := ?_) (a' := ?_) #[true, true, false, false, false, false, false, false, false, false, false, false, false, false] rfl rfl (by kernel_rfl) (fun _ _ _ h => h) (Or.inl ⟨by rfl, ?_⟩) hHeld ?_ ?_
            rotate_left
            · rintro w' ⟨s0, s1, s2, s3⟩
              go_simp
              with_reducible rfl
            rotate_left
            · simp only [Act.put, List.setIfInBounds_toArray, List.set_cons_zero, List.set_cons_succ, i64_w, i32_w]
              rfl
            refine pure_ (i := 2) (N := (some 17)) (v := ?_) (a' := ?_) #[true, true, true, false, false, false, false, false, false, false, false, false, false, false] rfl rfl (by kernel_rfl) (fun _ _ _ h => h) (Or.inl ⟨by rfl, ?_⟩) ?_ ?_
            rotate_left
            · intro w'
              go_simp
              with_reducible rfl
            rotate_left
            · simp only [Act.put, List.setIfInBounds_toArray, List.set_cons_zero, List.set_cons_succ, i64_w, i32_w]
              rfl
            refine take_ (i := 3) (N := (some 18)) (v := ?_) (a' := ?_) #[true, true, true, true, false, false, false, false, false, false, false, false, false, false] rfl rfl (by kernel_rfl) (fun _ _ _ h => h) (Or.inl ⟨by rfl, ?_⟩) hHeld ?_ ?_
            rotate_left
            · rintro w' ⟨s0, s1, s2, s3⟩
              go_simp
              with_reducible rfl
            rotate_left
            · simp only [Act.put, List.setIfInBounds_toArray, List.set_cons_zero, List.set_cons_succ, i64_w, i32_w]
              rfl
            refine pure_ (i := 4) (N := (some 19)) (v := ?_) (a' := ?_) #[true, true, true, true, true, false, false, false, false, false, false, false, false, false] rfl rfl (by kernel_rfl) (fun _ _ _ h => h) (Or.inl ⟨by rfl, ?_⟩) ?_ ?_
            rotate_left
            · intro w'
              go_simp
              with_reducible rfl
            rotate_left
            · simp only [Act.put, List.setIfInBounds_toArray, List.set_cons_zero, List.set_cons_succ, i64_w, i32_w]
              rfl
            refine pure_ (i := 5) (N := (some 20)) (v := ?_) (a' := ?_) #[true, true, true, true, true, true, false, false, false, false, false, false, false, false] rfl rfl (by kernel_rfl) (fun _ _ _ h => h) (Or.inl ⟨by rfl, ?_⟩) ?_ ?_
            rotate_left
            · intro w'
              go_simp
              with_reducible rfl
            rotate_left
            · simp only [Act.put, List.setIfInBounds_toArray, List.set_cons_zero, List.set_cons_succ, i64_w, i32_w]
              rfl
            refine pure_ (i := 6) (N := (some 21)) (v := ?_) (a' := ?_) #[true, true, true, true, true, true, true, false, false, false, false, false, false, false] rfl rfl (by kernel_rfl) (fun _ _ _ h => h) (Or.inl ⟨by rfl, ?_⟩) ?_ ?_
            rotate_left
            · intro w'
              go_simp
              with_reducible rfl
            rotate_left
            · simp only [Act.put, List.setIfInBounds_toArray, List.set_cons_zero, List.set_cons_succ, i64_w, i32_w]
              rfl
            refine take_ (i := 7) (N := (some 22)) (v := ?_) (a' := ?_) #[true, true, true, true, true, true, true, true, false, false, false, false, false, false] rfl rfl (by kernel_rfl) (fun _ _ _ h => h) (Or.inl ⟨by rfl, ?_⟩) hHeld ?_ ?_
            rotate_left
            · rintro w' ⟨s0, s1, s2, s3⟩
              go_simp
              with_reducible rfl
            rotate_left
            · simp only [Act.put, List.setIfInBounds_toArray, List.set_cons_zero, List.set_cons_succ, i64_w, i32_w]
              rfl
            refine pure_ (i := 8) (N := (some 23)) (v := ?_) (a' := ?_) #[true, true, true, true, true, true, true, true, true, false, false, false, false, false] rfl rfl (by kernel_rfl) (fun _ _ _ h => h) (Or.inl ⟨by rfl, ?_⟩) ?_ ?_
            rotate_left
            · intro w'
              go_simp
              with_reducible rfl
            rotate_left
            · simp only [Act.put, List.setIfInBounds_toArray, List.set_cons_zero, List.set_cons_succ, i64_w, i32_w]
              rfl
            refine pure_ (i := 9) (N := (some 24)) (v := ?_) (a' := ?_) #[true, true, true, true, true, true, true, true, true, true, false, false, false, false] rfl rfl (by kernel_rfl) (fun _ _ _ h => h) (Or.inl ⟨by rfl, ?_⟩) ?_ ?_
            rotate_left
            · intro w'
              go_simp
              with_reducible rfl
            rotate_left
            · simp only [Act.put, List.setIfInBounds_toArray, List.set_cons_zero, List.set_cons_succ, i64_w, i32_w]
              rfl
            refine pure_ (i := 10) (N := (some 25)) (v := ?_) (a' := ?_) #[true, true, true, true, true, true, true, true, true, true, true, false, false, false] rfl rfl (by kernel_rfl) (fun _ _ _ h => h) (Or.inl ⟨by rfl, ?_⟩) ?_ ?_
            rotate_left
            · intro w'
              go_simp
              with_reducible rfl
            rotate_left
            · simp only [Act.put, List.setIfInBounds_toArray, List.set_cons_zero, List.set_cons_succ, i64_w, i32_w]
              rfl
            refine take_ (i := 11) (N := (some 26)) (v := ?_) (a' := ?_) #[true, true, true, true, true, true, true, true, true, true, true, true, false, false] rfl rfl (by kernel_rfl) (fun _ _ _ h => h) (Or.inl ⟨by rfl, ?_⟩) hHeld ?_ ?_
            rotate_left
            · rintro w' ⟨s0, s1, s2, s3⟩
              go_simp
              with_reducible rfl
            rotate_left
            · simp only [Act.put, List.setIfInBounds_toArray, List.set_cons_zero, List.set_cons_succ, i64_w, i32_w]
              rfl
            refine pure_ (i := 12) (N := (some 27)) (v := ?_) (a' := ?_) #[true, true, true, true, true, true, true, true, true, true, true, true, true, false] rfl rfl (by kernel_rfl) (fun _ _ _ h => h) (Or.inl ⟨by rfl, ?_⟩) ?_ ?_
            rotate_left
            · intro w'
              go_simp
              with_reducible rfl
            rotate_left
            · simp only [Act.put, List.setIfInBounds_toArray, List.set_cons_zero, List.set_cons_succ, i64_w, i32_w]
              rfl
            refine pure_ (i := 13) (N := (some 28)) (v := ?_) (a' := ?_) #[true, true, true, true, true, true, true, true, true, true, true, true, true, true] rfl rfl (by kernel_rfl) (fun _ _ _ h => h) (Or.inl ⟨by rfl, ?_⟩) ?_ ?_
            rotate_left
            · intro w'
              go_simp
              with_reducible rfl
            rotate_left
            · simp only [Act.put, List.setIfInBounds_toArray, List.set_cons_zero, List.set_cons_succ, i64_w, i32_w]
              rfl
            refine done_ (by kernel_rfl) ?_
            have HsD_52 : Hid (V_32.drew.heap[B0]? = some (.cells S0 24 (0, 0))) := Lib.hid H_35.out
            have HtD_53 : Hid (V_32.drew.heap[X_31]? = some (.cells T 39 (0, 0))) := Lib.hid H_39.out
            have HEVD_51 : Hid (Below B0 w V_32.drew) := Lib.hid HE_38.out.drew
            clear H_35 H_39 HE_38
            generalize V_32.drew = VD_51 at HsD_52 HtD_53 HEVD_51 ⊢
            have hf : fA p t = false := by unfold fA; first | (simp only [q1]; rfl) | (simp only [q1, q2]; rfl)
            have hst := hstep.out
            rw [hf] at hst
            replace hst := Lib.hid hst
            clear hf
            have hwk' := hwk.out
            go_wp2
            clear hwk'
            go_roundw
            case rel => exact ⟨k + 1, rfl, by omega, by rw [hst.out]; rfl, HsD_52.out, HEVD_51.out⟩
            case measure => simp [intOf] <;> omega
    · have hkl : k = l.length := by omega
      have hge : decide (k < l.length) = false := by simp; omega
      clear hlt
      go_wp2_with fail
      go_ret
      exact ⟨by rw [hkl, List.take_length]; rfl, HE⟩
end Go.Proofs.Ytnidcoooenhebaa.PS
