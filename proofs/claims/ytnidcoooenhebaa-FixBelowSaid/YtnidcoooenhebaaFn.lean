/- fix.Next: what it computes. -/
import Derived.Test.YtnidcoooenhebaaFd
import Derived.Test.YtnidcoooenhebaaFm
namespace Go.Proofs.Ytnidcoooenhebaa.PS
open Go.RowKit Go.Proofs.Ytnidcoooenhebaa.PC Go.Proofs.YtnidcoooenhebaaW.PrintWords Go.Proofs.YtnidcoooenhebaaW.PrintLast Go.Proofs.YtnidcoooenhebaaW.PrintMore
attribute [local go_sem] max2_int min2_int max_two min_two max_three min_three max_four min_four   -- for this text's walks alone
set_option linter.unusedVariables false
set_option linter.unusedSimpArgs false
theorem ld_opr {o : Oper} {a : Act} {w : World} (T : TypeId) (x : Operand) (ho : o.op = .load T x) (p : Addr) (hx : a.eval x = .pointer (some p)) {A : Array Value} {n : Nat} {d : TypeDesc}
    (hg : ∀ (j : Nat) (v : Value), A.toList[j]? = some v → w.cell? (p.add j) = some v) (hu : Try.prog.underlying T = some d) (hd : d.isRow = true) (hi : (Try.prog.info? T).map (·.size) = some n) (hA : A.size = n) : (execOp a.eval o).run Try.prog w = .ok (.value (.agg A)) w := by
  have hl : (loadCells p A.toList.length).run Try.prog w = .ok A.toList.toArray w := run_loadCells_list (P := Try.prog) w p A.toList hg
  have hv : (loadVar T p).run Try.prog w = .ok (.agg A) w := by
    cases hq : Try.prog.info? T with
    | none => simp [hq] at hi
    | some i =>
      have hs : i.size = A.toList.length := by simpa [hq, hA] using hi
      have hagg : (isAgg T).run Try.prog w = .ok true w := by
        unfold isAgg
        rw [Sem.run_bind, run_underlying hu w]
        cases d <;> simp_all
      rw [← hs] at hl
      simp only [loadVar, Sem.run_bind, hagg, Result.andThen_ok, if_true, sizeOf, typeInfo, hq, hl, Sem.run_pure]
      simp [hq, hl]
  unfold execOp
  simp only [ho, hx, Instr.loadAt, Instr.sureAddr, Sem.run_bind, Sem.run_pure, Result.andThen_ok, hv]
theorem goesC_ {P : Program} {ops : Array Oper} {Q : Exit → Act → World → Prop} {oi : Oper} {N : Option Tmp} {a : Act} {w : World} {K : Act → World → Prop} {f : FuncId} {fn : Func} {fo : Operand} {xs : Array Operand} {ts : Array TypeId} {caps args0 : Array Value} (hf : P.funcs[f]? = some fn) (hname : (fn.name == "runtime.NumGoroutine") = false) (hb : fn.body.isSome = true) (args : Array Value)
    (hw : Region.wanted oi (yielded ops a.tmps) = true) (hN : oi.dst = N) (hop : oi.op = .call { callee := .value fo, args := xs, argTypes := ts }) (hfo : a.eval fo = .func (.func f) #[] caps) (hargs : xs.map a.eval = args0) (hall : args0 ++ caps = args)
    (h : Calls P f args w fun e w' => ∃ v, e = .returned v ∧ K (a.put N v) w') : if Region.wanted oi (yielded ops a.tmps) = true then Oper.wp P oi a w K Q else K (a.put N undef) w := by
  refine call_ f args hw hN ?_ h
  have he := enters_ hf hname hb args w
  unfold execOp
  simp [hop, resolve, Deferred.ofValue, invoke, hfo, hargs, hall, he]
theorem ps_start {V : World} {base g Bp : Nat} {a b : Int} (hg : V.heap[g]? = some (.cells #[.int .i64 a, .int .i64 b] 3 (0, 0))) (hB : V.heap[Bp]? = some (.cells #[.slice (some ⟨g, 0, none⟩) 2 2] 45 (0, 0))) (hbg : base ≤ g) (hne : g ≠ Bp) : PS V base Bp [a, b] := by
  refine ⟨_, hB, ⟨rfl, .inr ⟨g, 2, _, rfl, hbg, hg, by simp, by decide, rfl, rfl⟩⟩, fun h => hne ?_⟩
  injection h
theorem ps_sum {V : World} {base Bp : Nat} {xs : List Int} (h : PS V base Bp xs) : ∃ A c, V.heap[Bp]? = some (.cells #[.slice A xs.length c] 45 (0, 0)) ∧ Kd.C (Kd.int .i64) V A xs.length xs ∧ xs.length ≤ c := by
  obtain ⟨v, h1, h2, h3⟩ := h
  obtain ⟨A, c, rfl, hc, hr⟩ := own_reads_of_le (enc := Value.int .i64) (d := 0) h2
  exact ⟨A, c, h1, Kd.C_of_reads hr, hc⟩
set_option maxRecDepth 100000 in
set_option maxHeartbeats 6000000 in
theorem next_c (w : World) (B : Int) (ad : Addr) (l : List S39) (cap : Nat) (hc : l.length ≤ cap) (hC : Kd.C k39 w (some ad) l.length l) (ok : OkS B l) (i : Int) (hi : 0 ≤ i) (hi1 : i < (l.length : Int)) (g : Int) (hg : 1 ≤ g) (hg2 : g ≤ 1049576) (x : Int) (hx : 0 ≤ x) (hx2 : x ≤ 1048576) (S0 : Array Value) (eS0 : S0 = #[.int .i64 B, .slice (some ad) l.length cap]) : Calls Try.prog 13 #[.agg S0, .int .i64 i, .int .i64 g, .int .i64 x] w fun e w' => e = .returned (.tuple #[.int .i64 (nxt B g l i x), .bool true]) ∧ Below w.heap.size w w' := by
  obtain ⟨p, hp⟩ : ∃ p, (rd_T39 l i).f10 = p := ⟨_, rfl⟩
  have NB := nx_bd ok hx hx2 hg i
  have oki := (ok.2.2.2.2 i.toNat (by omega)).1
  rw [show ((i.toNat : Nat) : Int) = i by omega] at oki
  have hwb := wh_bd oki
  have hPB := Lib.hid (fun (k : Nat) => pl_bd (p := p) hx hx2 (l := l.take k) (fun y hy => ok.mem y (List.mem_of_mem_take hy)))
  have hBb := ok.1
  have hBb2 := ok.2.1
  obtain ⟨D, hD⟩ : ∃ d, dr l i = d := ⟨_, rfl⟩
  obtain ⟨H, hH⟩ : ∃ d, ah l i = d := ⟨_, rfl⟩
  obtain ⟨M, hM⟩ : ∃ m, mst x B g = m := ⟨_, rfl⟩
  obtain ⟨wi, hwi⟩ : ∃ m, m = wh (rd_T39 l i) := ⟨_, rfl⟩
  have hnx : nxt B g l i x = wi + H + M * (B * D) + su (pl x p l) := by unfold nxt; rw [hH, hM, hD, hp, ← hwi]
  rw [hnx]
  rw [hD, hH, hM] at NB
  rw [← hwi] at hwb
  obtain ⟨BD, hBD⟩ : ∃ m, m = B * D := ⟨_, rfl⟩
  rw [← hBD] at NB ⊢
  obtain ⟨MB, hMB⟩ : ∃ m, m = M * BD := ⟨_, rfl⟩
  rw [← hMB] at NB ⊢
  obtain ⟨⟨nd0, nd1⟩, ⟨nh0, nh1⟩, ⟨nb0, nb1⟩, ⟨nm0, nm1⟩, ⟨nq0, nq1⟩⟩ := NB
  have hadd := Lib.hid (fun (V : World) (Bp : Nat) (hb1 : w.heap.size + 1 ≤ V.heap.size) (hb2 : w.heap.size + 1 ≤ Bp) (hP : PS V (w.heap.size + 1) Bp [wi, H]) => add_c V (w.heap.size + 1) Bp [wi, H] (by simp) hb1 hb2 M BD nm0 (by omega) nb0 (by omega) (by omega) MB hMB hP)
  have hmost := Lib.hid (fun W : World => most_c W x B g hx (by omega) hBb (by omega) hg (by omega) M hM.symm)
  have hwbd : IntKind.i64.wrap (B * D) = BD := by rw [i64_w, ← hBD]; exact w64 (by omega) (by omega)
  obtain ⟨Ti, eTi⟩ : ∃ A, A = TA (rd_T39 l i) := ⟨_, rfl⟩
  have zTi : Hid (Ti.size = 11) := Lib.hid (by rw [eTi]; rfl)
  have hQ := Lib.hid (show 0 ≤ wi ∧ wi ≤ 1049624576 ∧ 0 ≤ H ∧ H ≤ 1049576 ∧ 0 ≤ MB ∧ MB ≤ 1101609779776000 from ⟨by have := oki.nums; omega, hwb.2, nh0, nh1, nq0, nq1⟩)
  obtain ⟨tot, htot⟩ : ∃ y, y = wi + H + MB + su (pl x p l) := ⟨_, rfl⟩
  rw [← htot]
  replace htot := Lib.hid htot
  clear hnx nd0 nd1 nh0 nh1 nb0 nb1 nm0 nm1 nq0 nq1 hwb hBb hBb2
  replace hp := Lib.hid hp
  replace hD := Lib.hid hD
  replace hH := Lib.hid hH
  replace hM := Lib.hid hM
  replace hwi := Lib.hid hwi
  replace hBD := Lib.hid hBD
  replace hMB := Lib.hid hMB
  replace oki := Lib.hid oki
  replace eTi := Lib.hid eTi
  replace hwbd := Lib.hid hwbd
  have hdear := Lib.hid (fun (W : World) (hW : Below w.heap.size w W) => dear_c W B ad l cap hc (Kd.C_below hC hW) ok i hi hi1 S0 eS0)
  have hahead := Lib.hid (fun (W : World) (hW : Below w.heap.size w W) => ahead_c W B ad l cap hc (Kd.C_below hC hW) ok i hi hi1 S0 eS0)
  have zS0 : Hid (S0.size = 2) := Lib.hid (by rw [eS0]; rfl)
  replace eS0 := Lib.hid eS0
  have hlen2 := ok.2.2.2.1
  replace ok := Lib.hid ok
  obtain ⟨U, eU⟩ : ∃ A : Array Value, A = #[.string ⟨#[]⟩, .int .i64 0, .int .i64 0, .int .i64 0, .int .i64 0, .int .i64 0, .int .i64 0, .int .i64 0, .int .i64 0, .int .i64 0, .int .i64 0] := ⟨_, rfl⟩
  have zU : Hid (U.size = 11) := Lib.hid (by rw [eU]; rfl)
  have hzU : ∀ V : World, (zeroValue 39).run Try.prog V = .ok (.agg U) V := fun V => by rw [eU]; kernel_rfl
  replace eU := Lib.hid eU
  obtain ⟨B0, hB0⟩ : ∃ B, w.heap.size = B := ⟨_, rfl⟩
  rw [hB0]
  obtain ⟨V0, hV0⟩ : ∃ V, w.alloc (.cells S0 24) = V := ⟨_, rfl⟩
  have Hs : Hid (V0.heap[B0]? = some (.cells S0 24 (0, 0))) := Lib.hid (by rw [← hV0]; exact (box_new hB0).1)
  have HE : Hid (Below B0 w V0) := Lib.hid (by rw [← hV0, ← hB0]; exact (Below.refl _ _).alloc (Nat.le_refl _) _)
  go_enter Try.func13, Try.ntmps13
  go_upto_region 1 with (fail)
  replace hB0 := Lib.hid hB0
  replace hV0 := Lib.hid hV0
  have hdear2 : Hid (∀ W : World, Below B0 w W → Calls Try.prog 14 #[.agg S0, .int .i64 i] W fun e w' => e = .returned (.int .i64 D) ∧ Below W.heap.size W w') := Lib.hid (fun W hW => by have := hdear.out W (hB0.out ▸ hW); rwa [show mxs (fD (rd_T39 l i).f10) l 0 = D from hD.out] at this)
  have hahead2 : Hid (∀ W : World, Below B0 w W → Calls Try.prog 16 #[.agg S0, .int .i64 i] W fun e w' => e = .returned (.int .i64 H) ∧ Below W.heap.size W w') := Lib.hid (fun W hW => by have := hahead.out W (hB0.out ▸ hW); rwa [show mxs (fA (rd_T39 l i).f10) l 0 = H from hH.out] at this)
  have hri := Lib.hid (fun (W : World) (hW : Below B0 w W) => row_a hC hB0.out hW hi hi1 Ti eTi.out)
  have hsz45 : ∀ V : World, (zeroValue 45).run Try.prog V = .ok (.slice none 0 0) V := fun V => by kernel_rfl
  rw [hB0.out] at hadd
  clear hdear hahead
  refine start_ (n := 12) (S := fun w' => w'.heap[B0]? = some (.cells S0 24 (0, 0)) ∧ w'.cell? ⟨B0, 1, none⟩ = some (.slice (some ad) l.length cap) ∧ ∀ (j : Nat) (v : Value), Ti.toList[j]? = some v → w'.cell? ((ad.add (i.toNat * 11)).add j) = some v) (ds := []) #[false, false, false, false, false, false, false, false, false, false, false, false] (by kernel_rfl) rfl rfl ⟨Hs.out, (blk_cell Hs.out 1).trans (by rw [eS0.out]; rfl), hri.out _ HE.out.drew⟩ (fun hHeld => ?_)
  refine pure_ (i := 0) (N := (some 19)) (v := ?_) (a' := ?_) #[true, false, false, false, false, false, false, false, false, false, false, false] rfl rfl (by kernel_rfl) (fun _ _ _ h => h) (Or.inl ⟨by rfl, ?_⟩) ?_ ?_
  rotate_left
  · intro w'
    go_simp
    with_reducible rfl
  rotate_left
  · simp only [Act.put, List.setIfInBounds_toArray, List.set_cons_zero, List.set_cons_succ, i64_w, i32_w]
    rfl
  refine take_ (i := 1) (N := (some 20)) (v := ?_) (a' := ?_) #[true, true, false, false, false, false, false, false, false, false, false, false] rfl rfl (by kernel_rfl) (fun _ _ _ h => h) (Or.inl ⟨by rfl, ?_⟩) hHeld ?_ ?_
  rotate_left
  · rintro w' ⟨s0, s1, s2⟩
    go_simp
    with_reducible rfl
  rotate_left
  · simp only [Act.put, List.setIfInBounds_toArray, List.set_cons_zero, List.set_cons_succ, i64_w, i32_w]
    rfl
  refine pure_ (i := 2) (N := (some 21)) (v := ?_) (a' := ?_) #[true, true, true, false, false, false, false, false, false, false, false, false] rfl rfl (by kernel_rfl) (fun _ _ _ h => h) (Or.inl ⟨by rfl, ?_⟩) ?_ ?_
  rotate_left
  · intro w'
    go_simp
    with_reducible rfl
  rotate_left
  · simp only [Act.put, List.setIfInBounds_toArray, List.set_cons_zero, List.set_cons_succ, i64_w, i32_w]
    rfl
  refine pure_ (i := 3) (N := (some 22)) (v := ?_) (a' := ?_) #[true, true, true, true, false, false, false, false, false, false, false, false] rfl rfl (by kernel_rfl) (fun _ _ _ h => h) (Or.inl ⟨by rfl, ?_⟩) ?_ ?_
  rotate_left
  · intro w'
    go_simp
    with_reducible rfl
  rotate_left
  · simp only [Act.put, List.setIfInBounds_toArray, List.set_cons_zero, List.set_cons_succ, i64_w, i32_w]
    rfl
  refine take_ (i := 4) (N := (some 23)) (v := .agg Ti) (a' := ?_) #[true, true, true, true, true, false, false, false, false, false, false, false] rfl rfl (by kernel_rfl) (fun _ _ _ h => h) (Or.inl ⟨by rfl, ?_⟩) hHeld ?_ ?_
  · rintro w' ⟨s0, s1, s2⟩
    exact ld_opr 39 _ rfl (ad.add (i.toNat * 11)) rfl s2 Try.underlying39 rfl (by kernel_rfl) zTi.out
  rotate_left
  · simp only [Act.put, List.setIfInBounds_toArray, List.set_cons_zero, List.set_cons_succ, i64_w, i32_w]
    rfl
  refine take_ (i := 6) (N := (some 25)) (v := .agg S0) (a' := ?_) #[true, true, true, true, true, false, true, false, false, false, false, false] rfl rfl (by kernel_rfl) (fun _ _ _ h => h) (Or.inl ⟨by rfl, ?_⟩) hHeld ?_ ?_
  · rintro w' ⟨s0, s1, s2⟩
    exact ld_op 24 _ rfl B0 rfl s0 Try.underlying24 rfl (by kernel_rfl) zS0.out
  rotate_left
  · simp only [Act.put, List.setIfInBounds_toArray, List.set_cons_zero, List.set_cons_succ, i64_w, i32_w]
    rfl
  refine pure_ (i := 7) (N := (some 26)) (v := ?_) (a' := ?_) #[true, true, true, true, true, false, true, true, false, false, false, false] rfl rfl (by kernel_rfl) (fun _ _ _ h => h) (Or.inl ⟨by rfl, ?_⟩) ?_ ?_
  rotate_left
  · intro w'
    go_simp
    with_reducible rfl
  rotate_left
  · simp only [Act.put, List.setIfInBounds_toArray, List.set_cons_zero, List.set_cons_succ, i64_w, i32_w]
    rfl
  refine join_ (σ := Nat × Nat) 1 #[true, true, true, true, true, true, true, true, true, true, true, false] (fun s_ => [(24, .int .i64 wi), (10, .pointer (some ⟨s_.2, 0, none⟩)), (27, .int .i64 H), (28, .slice (some ⟨s_.1, 0, none⟩) 2 2)]) (fun s_ w' => w'.heap[B0]? = some (.cells S0 24 (0, 0)) ∧ w'.heap[s_.1]? = some (.cells #[.int .i64 wi, .int .i64 H] 3 (0, 0)) ∧ w'.heap[s_.2]? = some (.cells #[.slice none 0 0] 45 (0, 0)) ∧ B0 < s_.1 ∧ B0 < s_.2 ∧ s_.1 ≠ s_.2 ∧ Below B0 w w') ?_ ?_
  rotate_left
  · intro hCont
    refine two_ (i := 5) (j := 10) (Ni := some 24) (Nj := some 10) #[true, true, true, true, true, true, true, true, false, false, false, false] #[true, true, true, true, true, false, true, true, false, false, true, false] rfl rfl rfl rfl (by kernel_rfl) (by decide) (by decide) (fun K hK => ?_) (fun K hK => ?_)
    · skip
      refine goes_ Try.func24 (by kernel_rfl) rfl #[.agg Ti] (by rfl) rfl rfl (by (try simp only [List.map_toArray, List.map_cons, List.map_nil]); first | done | rfl) ?_
      refine (whole_c oki.out _ _ eTi.out _ hwi.out).mono ?_
      rintro e k_109V ⟨rfl, hb4⟩
      have k_109S : Hid (k_109V.heap[B0]? = some (.cells S0 24 (0, 0))) := Lib.hid ((hb4.block B0 (blk_lt Hs.out)).trans Hs.out)
      have k_109E : Hid (Below B0 w k_109V) := Lib.hid ((HE.out.drew).trans (hb4.mono (sz_le hB0.out HE.out.size)))
      refine ⟨_, rfl, ?_⟩
      refine hK.out _ _ ⟨k_109S.out, (blk_cell k_109S.out 1).trans (by rw [eS0.out]; rfl), hri.out _ k_109E.out⟩ (fun hHeld => ?_)
      clear hK K
      refine norm_ (a' := ?_) ?_ ?_
      rotate_left
      · show Act.put _ (some 24) _ = _
        simp only [Act.put, List.setIfInBounds_toArray, List.set_cons_zero, List.set_cons_succ, i64_w, i32_w]
        rfl
      refine two_ (i := 8) (j := 10) (Ni := some 27) (Nj := some 10) #[true, true, true, true, true, true, true, true, true, false, false, false] #[true, true, true, true, true, true, true, true, false, false, true, false] rfl rfl rfl rfl (by kernel_rfl) (by decide) (by decide) (fun K hK => ?_) (fun K hK => ?_)
      · skip
        refine goes_ Try.func16 (by kernel_rfl) rfl #[.agg S0, .int .i64 i] (by rfl) rfl rfl (by (try simp only [List.map_toArray, List.map_cons, List.map_nil]); first | done | rfl) ?_
        refine (hahead2.out _ k_109E.out).mono ?_
        rintro e k_110V ⟨rfl, hb4⟩
        have k_110S : Hid (k_110V.heap[B0]? = some (.cells S0 24 (0, 0))) := Lib.hid ((hb4.block B0 (blk_lt k_109S.out)).trans k_109S.out)
        have k_110E : Hid (Below B0 w k_110V) := Lib.hid ((k_109E.out).trans (hb4.mono (sz_le hB0.out k_109E.out.size)))
        refine ⟨_, rfl, ?_⟩
        refine hK.out _ _ ⟨k_110S.out, (blk_cell k_110S.out 1).trans (by rw [eS0.out]; rfl), hri.out _ k_110E.out⟩ (fun hHeld => ?_)
        clear hK K
        refine norm_ (a' := ?_) ?_ ?_
        rotate_left
        · show Act.put _ (some 27) _ = _
          simp only [Act.put, List.setIfInBounds_toArray, List.set_cons_zero, List.set_cons_succ, i64_w, i32_w]
          rfl
        refine two_ (i := 9) (j := 10) (Ni := some 28) (Nj := some 10) #[true, true, true, true, true, true, true, true, true, true, false, false] #[true, true, true, true, true, true, true, true, true, false, true, false] rfl rfl rfl rfl (by kernel_rfl) (by decide) (by decide) (fun K hK => ?_) (fun K hK => ?_)
        · skip
          refine value_ (v := .slice (some ⟨k_110V.heap.size, 0, none⟩) 2 2) (w1 := (k_110V.alloc (.cells #[.int .i64 wi, .int .i64 H] 3))) rfl rfl (by go_simp) ?_
          have k_111S : Hid ((k_110V.alloc (.cells #[.int .i64 wi, .int .i64 H] 3)).heap[B0]? = some (.cells S0 24 (0, 0))) := Lib.hid (blk_alloc k_110S.out _)
          have k_111E : Hid (Below B0 w (k_110V.alloc (.cells #[.int .i64 wi, .int .i64 H] 3))) := Lib.hid ((k_110E.out.alloc (sz_le hB0.out k_110E.out.size) _))
          have k_111R : Hid ((k_110V.alloc (.cells #[.int .i64 wi, .int .i64 H] 3)).heap[k_110V.heap.size]? = some (.cells #[.int .i64 wi, .int .i64 H] 3 (0, 0))) := Lib.hid (blk_new k_110V _)
          refine hK.out _ _ ⟨k_111S.out, (blk_cell k_111S.out 1).trans (by rw [eS0.out]; rfl), hri.out _ k_111E.out⟩ (fun hHeld => ?_)
          clear hK K
          refine norm_ (a' := ?_) ?_ ?_
          rotate_left
          · show Act.put _ (some 28) _ = _
            simp only [Act.put, List.setIfInBounds_toArray, List.set_cons_zero, List.set_cons_succ, i64_w, i32_w]
            rfl
          refine one_ (i := 10) (N := (some 10)) #[true, true, true, true, true, true, true, true, true, true, true, false] rfl rfl (by kernel_rfl) (by decide) (fun K hK => ?_)
          refine value_ (v := .pointer (some ⟨(k_110V.alloc (.cells #[.int .i64 wi, .int .i64 H] 3)).heap.size, 0, none⟩)) (w1 := ((k_110V.alloc (.cells #[.int .i64 wi, .int .i64 H] 3)).alloc (.cells #[.slice none 0 0] 45))) rfl rfl (by go_simp) ?_
          have k_112S : Hid (((k_110V.alloc (.cells #[.int .i64 wi, .int .i64 H] 3)).alloc (.cells #[.slice none 0 0] 45)).heap[B0]? = some (.cells S0 24 (0, 0))) := Lib.hid (blk_alloc k_111S.out _)
          have k_112R : Hid (((k_110V.alloc (.cells #[.int .i64 wi, .int .i64 H] 3)).alloc (.cells #[.slice none 0 0] 45)).heap[k_110V.heap.size]? = some (.cells #[.int .i64 wi, .int .i64 H] 3 (0, 0))) := Lib.hid (blk_alloc k_111R.out _)
          have k_112E : Hid (Below B0 w ((k_110V.alloc (.cells #[.int .i64 wi, .int .i64 H] 3)).alloc (.cells #[.slice none 0 0] 45))) := Lib.hid ((k_111E.out.alloc (sz_le hB0.out k_111E.out.size) _))
          have k_112P : Hid (((k_110V.alloc (.cells #[.int .i64 wi, .int .i64 H] 3)).alloc (.cells #[.slice none 0 0] 45)).heap[(k_110V.alloc (.cells #[.int .i64 wi, .int .i64 H] 3)).heap.size]? = some (.cells #[.slice none 0 0] 45 (0, 0))) := Lib.hid (blk_new (k_110V.alloc (.cells #[.int .i64 wi, .int .i64 H] 3)) _)
          refine hK.out _ _ ⟨k_112S.out, (blk_cell k_112S.out 1).trans (by rw [eS0.out]; rfl), hri.out _ k_112E.out⟩ (fun hHeld => ?_)
          clear hK K
          refine norm_ (a' := ?_) ?_ ?_
          rotate_left
          · show Act.put _ (some 10) _ = _
            simp only [Act.put, List.setIfInBounds_toArray, List.set_cons_zero, List.set_cons_succ, i64_w, i32_w]
            rfl
          exact norm_ (by simp only [putAll, Act.put, List.setIfInBounds_toArray, List.set_cons_zero, List.set_cons_succ]) (hCont (k_110V.heap.size, (k_110V.alloc (.cells #[.int .i64 wi, .int .i64 H] 3)).heap.size) _ ⟨k_112S.out, k_112R.out, k_112P.out, (blk_lt k_110S.out), (blk_lt k_111S.out), (Nat.ne_of_lt (blk_lt k_111R.out)), k_112E.out⟩)
        · skip
          refine value_ (v := .pointer (some ⟨k_110V.heap.size, 0, none⟩)) (w1 := (k_110V.alloc (.cells #[.slice none 0 0] 45))) rfl rfl (by go_simp) ?_
          have k_113S : Hid ((k_110V.alloc (.cells #[.slice none 0 0] 45)).heap[B0]? = some (.cells S0 24 (0, 0))) := Lib.hid (blk_alloc k_110S.out _)
          have k_113E : Hid (Below B0 w (k_110V.alloc (.cells #[.slice none 0 0] 45))) := Lib.hid ((k_110E.out.alloc (sz_le hB0.out k_110E.out.size) _))
          have k_113P : Hid ((k_110V.alloc (.cells #[.slice none 0 0] 45)).heap[k_110V.heap.size]? = some (.cells #[.slice none 0 0] 45 (0, 0))) := Lib.hid (blk_new k_110V _)
          refine hK.out _ _ ⟨k_113S.out, (blk_cell k_113S.out 1).trans (by rw [eS0.out]; rfl), hri.out _ k_113E.out⟩ (fun hHeld => ?_)
          clear hK K
          refine norm_ (a' := ?_) ?_ ?_
          rotate_left
          · show Act.put _ (some 10) _ = _
            simp only [Act.put, List.setIfInBounds_toArray, List.set_cons_zero, List.set_cons_succ, i64_w, i32_w]
            rfl
          refine one_ (i := 9) (N := (some 28)) #[true, true, true, true, true, true, true, true, true, true, true, false] rfl rfl (by kernel_rfl) (by decide) (fun K hK => ?_)
          refine value_ (v := .slice (some ⟨(k_110V.alloc (.cells #[.slice none 0 0] 45)).heap.size, 0, none⟩) 2 2) (w1 := ((k_110V.alloc (.cells #[.slice none 0 0] 45)).alloc (.cells #[.int .i64 wi, .int .i64 H] 3))) rfl rfl (by go_simp) ?_
          have k_114S : Hid (((k_110V.alloc (.cells #[.slice none 0 0] 45)).alloc (.cells #[.int .i64 wi, .int .i64 H] 3)).heap[B0]? = some (.cells S0 24 (0, 0))) := Lib.hid (blk_alloc k_113S.out _)
          have k_114P : Hid (((k_110V.alloc (.cells #[.slice none 0 0] 45)).alloc (.cells #[.int .i64 wi, .int .i64 H] 3)).heap[k_110V.heap.size]? = some (.cells #[.slice none 0 0] 45 (0, 0))) := Lib.hid (blk_alloc k_113P.out _)
          have k_114E : Hid (Below B0 w ((k_110V.alloc (.cells #[.slice none 0 0] 45)).alloc (.cells #[.int .i64 wi, .int .i64 H] 3))) := Lib.hid ((k_113E.out.alloc (sz_le hB0.out k_113E.out.size) _))
          have k_114R : Hid (((k_110V.alloc (.cells #[.slice none 0 0] 45)).alloc (.cells #[.int .i64 wi, .int .i64 H] 3)).heap[(k_110V.alloc (.cells #[.slice none 0 0] 45)).heap.size]? = some (.cells #[.int .i64 wi, .int .i64 H] 3 (0, 0))) := Lib.hid (blk_new (k_110V.alloc (.cells #[.slice none 0 0] 45)) _)
          refine hK.out _ _ ⟨k_114S.out, (blk_cell k_114S.out 1).trans (by rw [eS0.out]; rfl), hri.out _ k_114E.out⟩ (fun hHeld => ?_)
          clear hK K
          refine norm_ (a' := ?_) ?_ ?_
          rotate_left
          · show Act.put _ (some 28) _ = _
            simp only [Act.put, List.setIfInBounds_toArray, List.set_cons_zero, List.set_cons_succ, i64_w, i32_w]
            rfl
          exact norm_ (by simp only [putAll, Act.put, List.setIfInBounds_toArray, List.set_cons_zero, List.set_cons_succ]) (hCont ((k_110V.alloc (.cells #[.slice none 0 0] 45)).heap.size, k_110V.heap.size) _ ⟨k_114S.out, k_114R.out, k_114P.out, (blk_lt k_113S.out), (blk_lt k_110S.out), (Nat.ne_of_gt (blk_lt k_113P.out)), k_114E.out⟩)
      · skip
        refine value_ (v := .pointer (some ⟨k_109V.heap.size, 0, none⟩)) (w1 := (k_109V.alloc (.cells #[.slice none 0 0] 45))) rfl rfl (by go_simp) ?_
        have k_115S : Hid ((k_109V.alloc (.cells #[.slice none 0 0] 45)).heap[B0]? = some (.cells S0 24 (0, 0))) := Lib.hid (blk_alloc k_109S.out _)
        have k_115E : Hid (Below B0 w (k_109V.alloc (.cells #[.slice none 0 0] 45))) := Lib.hid ((k_109E.out.alloc (sz_le hB0.out k_109E.out.size) _))
        have k_115P : Hid ((k_109V.alloc (.cells #[.slice none 0 0] 45)).heap[k_109V.heap.size]? = some (.cells #[.slice none 0 0] 45 (0, 0))) := Lib.hid (blk_new k_109V _)
        refine hK.out _ _ ⟨k_115S.out, (blk_cell k_115S.out 1).trans (by rw [eS0.out]; rfl), hri.out _ k_115E.out⟩ (fun hHeld => ?_)
        clear hK K
        refine norm_ (a' := ?_) ?_ ?_
        rotate_left
        · show Act.put _ (some 10) _ = _
          simp only [Act.put, List.setIfInBounds_toArray, List.set_cons_zero, List.set_cons_succ, i64_w, i32_w]
          rfl
        refine one_ (i := 8) (N := (some 27)) #[true, true, true, true, true, true, true, true, true, false, true, false] rfl rfl (by kernel_rfl) (by decide) (fun K hK => ?_)
        refine goes_ Try.func16 (by kernel_rfl) rfl #[.agg S0, .int .i64 i] (by rfl) rfl rfl (by (try simp only [List.map_toArray, List.map_cons, List.map_nil]); first | done | rfl) ?_
        refine (hahead2.out _ k_115E.out).mono ?_
        rintro e k_116V ⟨rfl, hb4⟩
        have k_116S : Hid (k_116V.heap[B0]? = some (.cells S0 24 (0, 0))) := Lib.hid ((hb4.block B0 (blk_lt k_115S.out)).trans k_115S.out)
        have k_116P : Hid (k_116V.heap[k_109V.heap.size]? = some (.cells #[.slice none 0 0] 45 (0, 0))) := Lib.hid ((hb4.block k_109V.heap.size (blk_lt k_115P.out)).trans k_115P.out)
        have k_116E : Hid (Below B0 w k_116V) := Lib.hid ((k_115E.out).trans (hb4.mono (sz_le hB0.out k_115E.out.size)))
        refine ⟨_, rfl, ?_⟩
        refine hK.out _ _ ⟨k_116S.out, (blk_cell k_116S.out 1).trans (by rw [eS0.out]; rfl), hri.out _ k_116E.out⟩ (fun hHeld => ?_)
        clear hK K
        refine norm_ (a' := ?_) ?_ ?_
        rotate_left
        · show Act.put _ (some 27) _ = _
          simp only [Act.put, List.setIfInBounds_toArray, List.set_cons_zero, List.set_cons_succ, i64_w, i32_w]
          rfl
        refine one_ (i := 9) (N := (some 28)) #[true, true, true, true, true, true, true, true, true, true, true, false] rfl rfl (by kernel_rfl) (by decide) (fun K hK => ?_)
        refine value_ (v := .slice (some ⟨k_116V.heap.size, 0, none⟩) 2 2) (w1 := (k_116V.alloc (.cells #[.int .i64 wi, .int .i64 H] 3))) rfl rfl (by go_simp) ?_
        have k_117S : Hid ((k_116V.alloc (.cells #[.int .i64 wi, .int .i64 H] 3)).heap[B0]? = some (.cells S0 24 (0, 0))) := Lib.hid (blk_alloc k_116S.out _)
        have k_117P : Hid ((k_116V.alloc (.cells #[.int .i64 wi, .int .i64 H] 3)).heap[k_109V.heap.size]? = some (.cells #[.slice none 0 0] 45 (0, 0))) := Lib.hid (blk_alloc k_116P.out _)
        have k_117E : Hid (Below B0 w (k_116V.alloc (.cells #[.int .i64 wi, .int .i64 H] 3))) := Lib.hid ((k_116E.out.alloc (sz_le hB0.out k_116E.out.size) _))
        have k_117R : Hid ((k_116V.alloc (.cells #[.int .i64 wi, .int .i64 H] 3)).heap[k_116V.heap.size]? = some (.cells #[.int .i64 wi, .int .i64 H] 3 (0, 0))) := Lib.hid (blk_new k_116V _)
        refine hK.out _ _ ⟨k_117S.out, (blk_cell k_117S.out 1).trans (by rw [eS0.out]; rfl), hri.out _ k_117E.out⟩ (fun hHeld => ?_)
        clear hK K
        refine norm_ (a' := ?_) ?_ ?_
        rotate_left
        · show Act.put _ (some 28) _ = _
          simp only [Act.put, List.setIfInBounds_toArray, List.set_cons_zero, List.set_cons_succ, i64_w, i32_w]
          rfl
        exact norm_ (by simp only [putAll, Act.put, List.setIfInBounds_toArray, List.set_cons_zero, List.set_cons_succ]) (hCont (k_116V.heap.size, k_109V.heap.size) _ ⟨k_117S.out, k_117R.out, k_117P.out, (blk_lt k_116S.out), (blk_lt k_109S.out), (Nat.ne_of_gt (blk_lt k_116P.out)), k_117E.out⟩)
    · skip
      refine value_ (v := .pointer (some ⟨V0.heap.size, 0, none⟩)) (w1 := (V0.alloc (.cells #[.slice none 0 0] 45)).drew) rfl rfl (by go_simp) ?_
      have k_118S : Hid ((V0.alloc (.cells #[.slice none 0 0] 45)).drew.heap[B0]? = some (.cells S0 24 (0, 0))) := Lib.hid (blk_alloc Hs.out _)
      have k_118E : Hid (Below B0 w (V0.alloc (.cells #[.slice none 0 0] 45)).drew) := Lib.hid ((HE.out.alloc (sz_le hB0.out HE.out.size) _).drew)
      have k_118P : Hid ((V0.alloc (.cells #[.slice none 0 0] 45)).drew.heap[V0.heap.size]? = some (.cells #[.slice none 0 0] 45 (0, 0))) := Lib.hid (blk_new V0 _)
      refine hK.out _ _ ⟨k_118S.out, (blk_cell k_118S.out 1).trans (by rw [eS0.out]; rfl), hri.out _ k_118E.out⟩ (fun hHeld => ?_)
      clear hK K
      refine norm_ (a' := ?_) ?_ ?_
      rotate_left
      · show Act.put _ (some 10) _ = _
        simp only [Act.put, List.setIfInBounds_toArray, List.set_cons_zero, List.set_cons_succ, i64_w, i32_w]
        rfl
      refine one_ (i := 5) (N := (some 24)) #[true, true, true, true, true, true, true, true, false, false, true, false] rfl rfl (by kernel_rfl) (by decide) (fun K hK => ?_)
      refine goes_ Try.func24 (by kernel_rfl) rfl #[.agg Ti] (by rfl) rfl rfl (by (try simp only [List.map_toArray, List.map_cons, List.map_nil]); first | done | rfl) ?_
      refine (whole_c oki.out _ _ eTi.out _ hwi.out).mono ?_
      rintro e k_119V ⟨rfl, hb4⟩
      have k_119S : Hid (k_119V.heap[B0]? = some (.cells S0 24 (0, 0))) := Lib.hid ((hb4.block B0 (blk_lt k_118S.out)).trans k_118S.out)
      have k_119P : Hid (k_119V.heap[V0.heap.size]? = some (.cells #[.slice none 0 0] 45 (0, 0))) := Lib.hid ((hb4.block V0.heap.size (blk_lt k_118P.out)).trans k_118P.out)
      have k_119E : Hid (Below B0 w k_119V) := Lib.hid ((k_118E.out).trans (hb4.mono (sz_le hB0.out k_118E.out.size)))
      refine ⟨_, rfl, ?_⟩
      refine hK.out _ _ ⟨k_119S.out, (blk_cell k_119S.out 1).trans (by rw [eS0.out]; rfl), hri.out _ k_119E.out⟩ (fun hHeld => ?_)
      clear hK K
      refine norm_ (a' := ?_) ?_ ?_
      rotate_left
      · show Act.put _ (some 24) _ = _
        simp only [Act.put, List.setIfInBounds_toArray, List.set_cons_zero, List.set_cons_succ, i64_w, i32_w]
        rfl
      refine one_ (i := 8) (N := (some 27)) #[true, true, true, true, true, true, true, true, true, false, true, false] rfl rfl (by kernel_rfl) (by decide) (fun K hK => ?_)
      refine goes_ Try.func16 (by kernel_rfl) rfl #[.agg S0, .int .i64 i] (by rfl) rfl rfl (by (try simp only [List.map_toArray, List.map_cons, List.map_nil]); first | done | rfl) ?_
      refine (hahead2.out _ k_119E.out).mono ?_
      rintro e k_120V ⟨rfl, hb4⟩
      have k_120S : Hid (k_120V.heap[B0]? = some (.cells S0 24 (0, 0))) := Lib.hid ((hb4.block B0 (blk_lt k_119S.out)).trans k_119S.out)
      have k_120P : Hid (k_120V.heap[V0.heap.size]? = some (.cells #[.slice none 0 0] 45 (0, 0))) := Lib.hid ((hb4.block V0.heap.size (blk_lt k_119P.out)).trans k_119P.out)
      have k_120E : Hid (Below B0 w k_120V) := Lib.hid ((k_119E.out).trans (hb4.mono (sz_le hB0.out k_119E.out.size)))
      refine ⟨_, rfl, ?_⟩
      refine hK.out _ _ ⟨k_120S.out, (blk_cell k_120S.out 1).trans (by rw [eS0.out]; rfl), hri.out _ k_120E.out⟩ (fun hHeld => ?_)
      clear hK K
      refine norm_ (a' := ?_) ?_ ?_
      rotate_left
      · show Act.put _ (some 27) _ = _
        simp only [Act.put, List.setIfInBounds_toArray, List.set_cons_zero, List.set_cons_succ, i64_w, i32_w]
        rfl
      refine one_ (i := 9) (N := (some 28)) #[true, true, true, true, true, true, true, true, true, true, true, false] rfl rfl (by kernel_rfl) (by decide) (fun K hK => ?_)
      refine value_ (v := .slice (some ⟨k_120V.heap.size, 0, none⟩) 2 2) (w1 := (k_120V.alloc (.cells #[.int .i64 wi, .int .i64 H] 3))) rfl rfl (by go_simp) ?_
      have k_121S : Hid ((k_120V.alloc (.cells #[.int .i64 wi, .int .i64 H] 3)).heap[B0]? = some (.cells S0 24 (0, 0))) := Lib.hid (blk_alloc k_120S.out _)
      have k_121P : Hid ((k_120V.alloc (.cells #[.int .i64 wi, .int .i64 H] 3)).heap[V0.heap.size]? = some (.cells #[.slice none 0 0] 45 (0, 0))) := Lib.hid (blk_alloc k_120P.out _)
      have k_121E : Hid (Below B0 w (k_120V.alloc (.cells #[.int .i64 wi, .int .i64 H] 3))) := Lib.hid ((k_120E.out.alloc (sz_le hB0.out k_120E.out.size) _))
      have k_121R : Hid ((k_120V.alloc (.cells #[.int .i64 wi, .int .i64 H] 3)).heap[k_120V.heap.size]? = some (.cells #[.int .i64 wi, .int .i64 H] 3 (0, 0))) := Lib.hid (blk_new k_120V _)
      refine hK.out _ _ ⟨k_121S.out, (blk_cell k_121S.out 1).trans (by rw [eS0.out]; rfl), hri.out _ k_121E.out⟩ (fun hHeld => ?_)
      clear hK K
      refine norm_ (a' := ?_) ?_ ?_
      rotate_left
      · show Act.put _ (some 28) _ = _
        simp only [Act.put, List.setIfInBounds_toArray, List.set_cons_zero, List.set_cons_succ, i64_w, i32_w]
        rfl
      exact norm_ (by simp only [putAll, Act.put, List.setIfInBounds_toArray, List.set_cons_zero, List.set_cons_succ]) (hCont (k_120V.heap.size, V0.heap.size) _ ⟨k_121S.out, k_121R.out, k_121P.out, (blk_lt k_120S.out), (blk_lt Hs.out), (Nat.ne_of_gt (blk_lt k_120P.out)), k_121E.out⟩)
  rintro ⟨g0, Bp⟩ V4 ⟨h0, h1, h2, lt1, lt2, ne12, hbb⟩
  dsimp only at h1 h2 lt1 lt2 ne12
  have HS4 := Lib.hid h0
  have HR4 := Lib.hid h1
  have HP4 := Lib.hid h2
  have HE4 := Lib.hid hbb
  have c45 : V4.cell? ⟨Bp, 0, none⟩ = some (.slice none 0 0) := (blk_cell HP4.out 0).trans rfl
  have z45 := blk_frozen HP4.out 0
  clear h0 h1 h2 hbb
  have hHeld : V4.heap[B0]? = some (.cells S0 24 (0, 0)) ∧ V4.cell? ⟨B0, 1, none⟩ = some (.slice (some ad) l.length cap) ∧ ∀ (j : Nat) (v : Value), Ti.toList[j]? = some v → V4.cell? ((ad.add (i.toNat * 11)).add j) = some v := ⟨HS4.out, (blk_cell HS4.out 1).trans (by rw [eS0.out]; rfl), hri.out _ HE4.out⟩
  refine norm_ (a' := ?_) ?_ ?_
  rotate_left
  · simp only [putAll, Act.put, List.setIfInBounds_toArray, List.set_cons_zero, List.set_cons_succ]
    rfl
  refine one_ (i := 11) (N := none) #[true, true, true, true, true, true, true, true, true, true, true, true] rfl rfl (by kernel_rfl) (by decide) (fun K hK => ?_)
  refine skip_ (w1 := V4.setCell ⟨Bp, 0, none⟩ (.slice (some ⟨g0, 0, none⟩) 2 2)) rfl rfl (by go_simp) ?_
  have HS5 : Hid ((V4.setCell ⟨Bp, 0, none⟩ (.slice (some ⟨g0, 0, none⟩) 2 2)).heap[B0]? = some (.cells S0 24 (0, 0))) := Lib.hid (blk_far HS4.out (Nat.ne_of_lt lt2) _)
  have HE5 : Hid (Below B0 w (V4.setCell ⟨Bp, 0, none⟩ (.slice (some ⟨g0, 0, none⟩) 2 2))) := Lib.hid (HE4.out.setCell (p := ⟨Bp, 0, none⟩) (Nat.le_of_lt lt2) _)
  have HP5 : Hid (PS (V4.setCell ⟨Bp, 0, none⟩ (.slice (some ⟨g0, 0, none⟩) 2 2)) (B0 + 1) Bp [wi, H]) := Lib.hid (ps_start (blk_far HR4.out ne12 _) (blk_put HP4.out 0 _ rfl) lt1 ne12)
  refine hK.out _ _ ⟨HS5.out, (blk_cell HS5.out 1).trans (by rw [eS0.out]; rfl), hri.out _ HE5.out⟩ (fun hHeld => ?_)
  clear hK K
  refine done_ (by kernel_rfl) ?_
  clear hHeld c45 z45 HS4 HR4 HP4 HE4
  generalize V4.setCell ⟨Bp, 0, none⟩ (.slice (some ⟨g0, 0, none⟩) 2 2) = V5 at HS5 HE5 HP5 ⊢
  go_upto_region 3 with (fail)
  have hwb' := hwbd.out
  refine start_ (n := 14) (S := fun w' => w'.heap[B0]? = some (.cells S0 24 (0, 0)) ∧ w'.cell? ⟨B0, 0, none⟩ = some (.int .i64 B)) (ds := []) #[false, false, false, false, false, false, false, false, false, false, false, false, false, false] (by kernel_rfl) rfl rfl ⟨HS5.out, (blk_cell HS5.out 0).trans (by rw [eS0.out]; rfl)⟩ (fun hHeld => ?_)
  refine pure_ (i := 0) (N := (some 30)) (v := ?_) (a' := ?_) #[true, false, false, false, false, false, false, false, false, false, false, false, false, false] rfl rfl (by kernel_rfl) (fun _ _ _ h => h) (Or.inl ⟨by rfl, ?_⟩) ?_ ?_
  rotate_left
  · intro w'
    go_simp
    with_reducible rfl
  rotate_left
  · simp only [Act.put, List.setIfInBounds_toArray, List.set_cons_zero, List.set_cons_succ, i64_w, i32_w]
    rfl
  refine pure_ (i := 1) (N := (some 31)) (v := ?_) (a' := ?_) #[true, true, false, false, false, false, false, false, false, false, false, false, false, false] rfl rfl (by kernel_rfl) (fun _ _ _ h => h) (Or.inl ⟨by rfl, ?_⟩) ?_ ?_
  rotate_left
  · intro w'
    go_simp
    with_reducible rfl
  rotate_left
  · simp only [Act.put, List.setIfInBounds_toArray, List.set_cons_zero, List.set_cons_succ, i64_w, i32_w]
    rfl
  refine pure_ (i := 2) (N := (some 32)) (v := ?_) (a' := ?_) #[true, true, true, false, false, false, false, false, false, false, false, false, false, false] rfl rfl (by kernel_rfl) (fun _ _ _ h => h) (Or.inl ⟨by rfl, ?_⟩) ?_ ?_
  rotate_left
  · intro w'
    go_simp
    with_reducible rfl
  rotate_left
  · simp only [Act.put, List.setIfInBounds_toArray, List.set_cons_zero, List.set_cons_succ, i64_w, i32_w]
    rfl
  refine take_ (i := 3) (N := (some 33)) (v := ?_) (a' := ?_) #[true, true, true, true, false, false, false, false, false, false, false, false, false, false] rfl rfl (by kernel_rfl) (fun _ _ _ h => h) (Or.inl ⟨by rfl, ?_⟩) hHeld ?_ ?_
  rotate_left
  · rintro w' ⟨s0, s1⟩
    go_simp
    with_reducible rfl
  rotate_left
  · simp only [Act.put, List.setIfInBounds_toArray, List.set_cons_zero, List.set_cons_succ, i64_w, i32_w]
    rfl
  refine pure_ (i := 4) (N := (some 34)) (v := ?_) (a' := ?_) #[true, true, true, true, true, false, false, false, false, false, false, false, false, false] rfl rfl (by kernel_rfl) (fun _ _ _ h => h) (Or.inl ⟨by rfl, ?_⟩) ?_ ?_
  rotate_left
  · intro w'
    go_simp
    with_reducible rfl
  rotate_left
  · simp only [Act.put, List.setIfInBounds_toArray, List.set_cons_zero, List.set_cons_succ, i64_w, i32_w]
    rfl
  refine pure_ (i := 6) (N := (some 36)) (v := ?_) (a' := ?_) #[true, true, true, true, true, false, true, false, false, false, false, false, false, false] rfl rfl (by kernel_rfl) (fun _ _ _ h => h) (Or.inl ⟨by rfl, ?_⟩) ?_ ?_
  rotate_left
  · intro w'
    go_simp
    with_reducible rfl
  rotate_left
  · simp only [Act.put, List.setIfInBounds_toArray, List.set_cons_zero, List.set_cons_succ, i64_w, i32_w]
    rfl
  refine take_ (i := 7) (N := (some 37)) (v := ?_) (a' := ?_) #[true, true, true, true, true, false, true, true, false, false, false, false, false, false] rfl rfl (by kernel_rfl) (fun _ _ _ h => h) (Or.inl ⟨by rfl, ?_⟩) hHeld ?_ ?_
  rotate_left
  · rintro w' ⟨s0, s1⟩
    go_simp
    with_reducible rfl
  rotate_left
  · simp only [Act.put, List.setIfInBounds_toArray, List.set_cons_zero, List.set_cons_succ, i64_w, i32_w]
    rfl
  refine take_ (i := 8) (N := (some 38)) (v := .agg S0) (a' := ?_) #[true, true, true, true, true, false, true, true, true, false, false, false, false, false] rfl rfl (by kernel_rfl) (fun _ _ _ h => h) (Or.inl ⟨by rfl, ?_⟩) hHeld ?_ ?_
  · rintro w' ⟨s0, s1⟩
    exact ld_op 24 _ rfl B0 rfl s0 Try.underlying24 rfl (by kernel_rfl) zS0.out
  rotate_left
  · simp only [Act.put, List.setIfInBounds_toArray, List.set_cons_zero, List.set_cons_succ, i64_w, i32_w]
    rfl
  refine pure_ (i := 9) (N := (some 39)) (v := ?_) (a' := ?_) #[true, true, true, true, true, false, true, true, true, true, false, false, false, false] rfl rfl (by kernel_rfl) (fun _ _ _ h => h) (Or.inl ⟨by rfl, ?_⟩) ?_ ?_
  rotate_left
  · intro w'
    go_simp
    with_reducible rfl
  rotate_left
  · simp only [Act.put, List.setIfInBounds_toArray, List.set_cons_zero, List.set_cons_succ, i64_w, i32_w]
    rfl
  refine one_ (i := 5) (N := (some 35)) #[true, true, true, true, true, true, true, true, true, true, false, false, false, false] rfl rfl (by kernel_rfl) (by decide) (fun K hK => ?_)
  refine goes_ Try.func27 (by kernel_rfl) rfl #[.int .i64 x, .int .i64 B, .int .i64 g] (by rfl) rfl rfl (by (try simp only [List.map_toArray, List.map_cons, List.map_nil]); first | done | rfl) ?_
  refine (hmost.out _).mono ?_
  rintro e V6 ⟨rfl, hb4⟩
  have HS6 : Hid (V6.heap[B0]? = some (.cells S0 24 (0, 0))) := Lib.hid ((hb4.block B0 (blk_lt HS5.out)).trans HS5.out)
  have HP6 : Hid (PS V6 (B0 + 1) Bp [wi, H]) := Lib.hid (HP5.out.below ((Below.refl _ _).drew.trans hb4))
  have HE6 : Hid (Below B0 w V6) := Lib.hid ((HE5.out.drew).trans (hb4.mono (sz_le hB0.out HE5.out.size)))
  refine ⟨_, rfl, ?_⟩
  refine hK.out _ _ ⟨HS6.out, (blk_cell HS6.out 0).trans (by rw [eS0.out]; rfl)⟩ (fun hHeld => ?_)
  clear hb4 HS5 HP5 HE5
  clear hK K
  refine norm_ (a' := ?_) ?_ ?_
  rotate_left
  · show Act.put _ (some 35) _ = _
    simp only [Act.put, List.setIfInBounds_toArray, List.set_cons_zero, List.set_cons_succ, i64_w, i32_w]
    rfl
  refine one_ (i := 10) (N := (some 40)) #[true, true, true, true, true, true, true, true, true, true, true, false, false, false] rfl rfl (by kernel_rfl) (by decide) (fun K hK => ?_)
  refine goes_ Try.func14 (by kernel_rfl) rfl #[.agg S0, .int .i64 i] (by rfl) rfl rfl (by (try simp only [List.map_toArray, List.map_cons, List.map_nil]); first | done | rfl) ?_
  refine (hdear2.out _ HE6.out).mono ?_
  rintro e V7 ⟨rfl, hb4⟩
  have HS7 : Hid (V7.heap[B0]? = some (.cells S0 24 (0, 0))) := Lib.hid ((hb4.block B0 (blk_lt HS6.out)).trans HS6.out)
  have HP7 : Hid (PS V7 (B0 + 1) Bp [wi, H]) := Lib.hid (HP6.out.below hb4)
  have HE7 : Hid (Below B0 w V7) := Lib.hid ((HE6.out).trans (hb4.mono (sz_le hB0.out HE6.out.size)))
  refine ⟨_, rfl, ?_⟩
  refine hK.out _ _ ⟨HS7.out, (blk_cell HS7.out 0).trans (by rw [eS0.out]; rfl)⟩ (fun hHeld => ?_)
  clear hb4 HS6 HP6 HE6
  clear hK K
  refine norm_ (a' := ?_) ?_ ?_
  rotate_left
  · show Act.put _ (some 40) _ = _
    simp only [Act.put, List.setIfInBounds_toArray, List.set_cons_zero, List.set_cons_succ, i64_w, i32_w]
    rfl
  refine pure_ (i := 11) (N := (some 41)) (v := ?_) (a' := ?_) #[true, true, true, true, true, true, true, true, true, true, true, true, false, false] rfl rfl (by kernel_rfl) (fun _ _ _ h => h) (Or.inl ⟨by rfl, ?_⟩) ?_ ?_
  rotate_left
  · intro w'
    go_simp
    with_reducible rfl
  rotate_left
  · simp only [Act.put, List.setIfInBounds_toArray, List.set_cons_zero, List.set_cons_succ, i64_w, i32_w]
    rfl
  refine one_ (i := 12) (N := (some 42)) #[true, true, true, true, true, true, true, true, true, true, true, true, true, false] rfl rfl (by kernel_rfl) (by decide) (fun K hK => ?_)
  refine goesC_ (args0 := #[.int .i64 M, .int .i64 BD]) Try.func25 (by kernel_rfl) rfl #[.int .i64 M, .int .i64 BD, .pointer (some ⟨Bp, 0, none⟩)] (by rfl) rfl rfl rfl (by (try simp only [List.map_toArray, List.map_cons, List.map_nil]); first | done | rfl) rfl ?_
  refine (hadd.out V7 Bp (Nat.lt_of_lt_of_le (Nat.lt_succ_self B0) (blk_lt HS7.out)) lt2 HP7.out).mono ?_
  rintro e V8 ⟨rfl, hp8, hb8⟩
  have HP8 := Lib.hid hp8
  have HS8 : Hid (V8.heap[B0]? = some (.cells S0 24 (0, 0))) := Lib.hid ((hb8.block B0 (Nat.lt_succ_self B0)).trans HS7.out)
  have HE8 : Hid (Below B0 w V8) := Lib.hid (HE7.out.trans (hb8.mono (Nat.le_succ B0)))
  refine ⟨_, rfl, ?_⟩
  refine hK.out _ _ ⟨HS8.out, (blk_cell HS8.out 0).trans (by rw [eS0.out]; rfl)⟩ (fun hHeld => ?_)
  clear hp8 hb8 HS7 HP7 HE7
  clear hK K
  refine norm_ (a' := ?_) ?_ ?_
  rotate_left
  · show Act.put _ (some 42) _ = _
    simp only [Act.put, List.setIfInBounds_toArray, List.set_cons_zero, List.set_cons_succ, i64_w, i32_w]
    rfl
  refine pure_ (i := 13) (N := (some 12)) (v := ?_) (a' := ?_) #[true, true, true, true, true, true, true, true, true, true, true, true, true, true] rfl rfl (by kernel_rfl) (fun _ _ _ h => h) (Or.inl ⟨by rfl, ?_⟩) ?_ ?_
  rotate_left
  · intro w'
    go_simp
    with_reducible rfl
  rotate_left
  · simp only [Act.put, List.setIfInBounds_toArray, List.set_cons_zero, List.set_cons_succ, i64_w, i32_w]
    rfl
  refine done_ (by kernel_rfl) ?_
  clear hwb'
  have hI : Hid (PS V8 (B0 + 1) Bp ([wi, H] ++ [MB] ++ pl x p (l.take 0)) ∧ V8.heap[B0]? = some (.cells S0 24 (0, 0)) ∧ Below B0 w V8) := Lib.hid ⟨by simpa [pl] using HP8.out, HS8.out, HE8.out⟩
  have c8 := (blk_cell HS8.out 1).trans (show S0[1]? = some (.slice (some ad) l.length cap) by rw [eS0.out]; rfl)
  skip
  have hpc := Lib.hid (fun (W : World) (hW : Below B0 w W) => row_c (j := 10) hC hB0.out hW hi hi1 (by rw [← hp.out]; rfl) : ∀ W : World, Below B0 w W → W.cell? ⟨(ad.add (i.toNat * 11)).block, (ad.add (i.toNat * 11)).off + 10, none⟩ = some (.int .i64 p))
  have hz := hzU
  go_wp2_with fail
  go_loopw [12, 46] (fun f j wr => ∃ k : Nat, j = .int .i64 (k : Int) ∧ k ≤ l.length ∧ f = .bool true ∧ PS wr (B0 + 1) Bp ([wi, H] ++ [MB] ++ pl x p (l.take k)) ∧ wr.heap[B0]? = some (.cells S0 24 (0, 0)) ∧ Below B0 w wr) (fun _ j _ => l.length - (intOf j).toNat)
  case atStart => exact ⟨0, rfl, Nat.zero_le _, rfl, hI.out⟩
  case round =>
    clear hI c8 HP8 HS8 HE8
    obtain ⟨k, rfl, hk, rfl, hPS, HS, HEw⟩ := hrel
    replace hPS := Lib.hid hPS
    by_cases hlt : k < l.length
    · skip
      have hkl : (k : Int) < (l.length : Int) := by omega
      have hk0 : (0 : Int) ≤ (k : Int) := by omega
      have hild : decide (k < l.length) = true := by simpa using hlt
      obtain ⟨t, ht⟩ : ∃ t, rd_T39 l k = t := ⟨_, rfl⟩
      have okt := (ok.out.2.2.2.2 k hlt).1
      rw [ht] at okt
      have hstep := pl_take x p hlt
      rw [ht] at hstep
      have hpb := part_bd hx hx2 okt
      obtain ⟨q, hq⟩ : ∃ q, q = cl x t.f1 := ⟨_, rfl⟩
      obtain ⟨wt, hwt⟩ : ∃ q, q = wh t := ⟨_, rfl⟩
      rw [← hq, ← hwt] at hstep hpb
      have hnum := okt.nums
      have hcb := cl_bd (a := x) (b := t.f1) hx (by omega)
      rw [← hq] at hcb
      have hwb2 := wh_bd okt
      rw [← hwt] at hwb2
      have hq1 : q ≤ 1048576 := by omega
      have hT1 : Hid (1 ≤ t.f1 ∧ t.f1 ≤ 1048576) := Lib.hid ⟨by omega, by omega⟩
      obtain ⟨qw, hqw⟩ : ∃ y, y = q * wt := ⟨_, rfl⟩
      rw [← hqw] at hstep hpb
      have hlen3 : ([wi, H] ++ [MB] ++ pl x p (l.take k)).length ≤ 1000 := by have := pl_len x p (l.take k); have h2 : (l.take k).length ≤ k := List.length_take_le _ _; simp only [List.length_append, List.length_cons, List.length_nil]; omega
      have hadd2 := Lib.hid (fun (V : World) (hb1 : B0 + 1 ≤ V.heap.size) (hP : PS V (B0 + 1) Bp ([wi, H] ++ [MB] ++ pl x p (l.take k))) => add_c V (B0 + 1) Bp _ hlen3 hb1 lt2 q wt hcb.1 (by omega) (by omega) (by omega) (by omega) qw hqw hP)
      have hceil := Lib.hid (fun W : World => ceil_c W x t.f1 hx (by omega) hT1.out.1 (by omega) q hq)
      obtain ⟨T, eT⟩ : ∃ A, A = TA t := ⟨_, rfl⟩
      have zT : Hid (T.size = 11) := Lib.hid (by rw [eT]; rfl)
      have oT : Hid (T.all (·.oneCell') = true) := Lib.hid (by rw [eT]; exact TA_one _)
      replace eT := Lib.hid eT
      have hrow := Lib.hid (fun (W : World) (hW : Below B0 w W) => row_a hC hB0.out hW hk0 hkl T (by rw [ht]; exact eT.out))
      obtain ⟨NN, hNN⟩ : ∃ n, wr.heap.size = n := ⟨_, rfl⟩
      have hBN : Hid (B0 + 1 ≤ NN) := Lib.hid (by rw [← hNN]; exact blk_lt HS)
      replace hNN := Lib.hid hNN
      have HEr : Hid (Below NN wr wr) := Lib.hid (by rw [← hNN.out]; exact Below.refl _ _)
      clear hnum hcb hwb2 hq1 hpb hlen3
      replace ht := Lib.hid ht
      replace okt := Lib.hid okt
      replace hstep := Lib.hid hstep
      replace hq := Lib.hid hq
      replace hwt := Lib.hid hwt
      replace hqw := Lib.hid hqw
      replace HS := Lib.hid HS
      replace HEw := Lib.hid HEw
      obtain ⟨X_122, hX_124⟩ : ∃ X, wr.heap.size = X := ⟨_, rfl⟩
      obtain ⟨V_123, q_125_0, q_125_1, q_125_2, q_125_3⟩ := st_new (w := wr) (T := 39) hX_124 zU.out zT.out oT.out
      have ne_127 : B0 < X_122 := hX_124 ▸ blk_lt HS.out
      have H_126 : Hid (V_123.heap[B0]? = some (.cells S0 24 (0, 0))) := Lib.hid ((q_125_2 _ ne_127).trans HS.out)
      have ge_128 : NN ≤ X_122 := hX_124 ▸ (sz_le hNN.out HEr.out.size)
      have HE_129 : Hid (Below NN wr V_123) := Lib.hid (q_125_3 _ _ ge_128 HEr.out)
      have H_130 := Lib.hid q_125_1
      clear q_125_1 q_125_2 q_125_3
      go_upto_region 7 with (first | ((with_reducible refine wpl_gate (T := 39) rfl ?_); refine wpl_ldr _ _ rfl (by rfl) (ad.add (((k : Int)).toNat * 11)) rfl (hrow.out _ (HEw.out.trans (HEr.out.mono (Nat.le_trans (Nat.le_succ B0) hBN.out)))) Try.underlying39 rfl (by kernel_rfl) zT.out ?_))
      clear q_125_0 hX_124
      clear HEr HS
      refine start_ (n := 9) (S := fun w' => w'.cell? ⟨X_122, 10, none⟩ = some (.int .i64 t.f10) ∧ w'.cell? ⟨B0, 1, none⟩ = some (.slice (some ad) l.length cap) ∧ w'.cell? ⟨(ad.add (i.toNat * 11)).block, (ad.add (i.toNat * 11)).off + 10, none⟩ = some (.int .i64 p)) (ds := []) #[false, false, false, false, false, false, false, false, false] (by kernel_rfl) rfl rfl ⟨(blk_cell H_130.out 10).trans (by rw [eT.out]; rfl), (blk_cell H_126.out 1).trans (by rw [eS0.out]; rfl), hpc.out _ (HEw.out.trans (HE_129.out.mono (Nat.le_trans (Nat.le_succ B0) hBN.out))).drew⟩ (fun hHeld => ?_)
      refine pure_ (i := 0) (N := (some 50)) (v := ?_) (a' := ?_) #[true, false, false, false, false, false, false, false, false] rfl rfl (by kernel_rfl) (fun _ _ _ h => h) (Or.inl ⟨by rfl, ?_⟩) ?_ ?_
      rotate_left
      · intro w'
        go_simp
        with_reducible rfl
      rotate_left
      · simp only [Act.put, List.setIfInBounds_toArray, List.set_cons_zero, List.set_cons_succ, i64_w, i32_w]
        rfl
      refine take_ (i := 1) (N := (some 51)) (v := ?_) (a' := ?_) #[true, true, false, false, false, false, false, false, false] rfl rfl (by kernel_rfl) (fun _ _ _ h => h) (Or.inl ⟨by rfl, ?_⟩) hHeld ?_ ?_
      rotate_left
      · rintro w' ⟨s0, s1, s2⟩
        go_simp
        with_reducible rfl
      rotate_left
      · simp only [Act.put, List.setIfInBounds_toArray, List.set_cons_zero, List.set_cons_succ, i64_w, i32_w]
        rfl
      refine pure_ (i := 2) (N := (some 52)) (v := ?_) (a' := ?_) #[true, true, true, false, false, false, false, false, false] rfl rfl (by kernel_rfl) (fun _ _ _ h => h) (Or.inl ⟨by rfl, ?_⟩) ?_ ?_
      rotate_left
      · intro w'
        go_simp
        with_reducible rfl
      rotate_left
      · simp only [Act.put, List.setIfInBounds_toArray, List.set_cons_zero, List.set_cons_succ, i64_w, i32_w]
        rfl
      refine take_ (i := 3) (N := (some 53)) (v := ?_) (a' := ?_) #[true, true, true, true, false, false, false, false, false] rfl rfl (by kernel_rfl) (fun _ _ _ h => h) (Or.inl ⟨by rfl, ?_⟩) hHeld ?_ ?_
      rotate_left
      · rintro w' ⟨s0, s1, s2⟩
        go_simp
        with_reducible rfl
      rotate_left
      · simp only [Act.put, List.setIfInBounds_toArray, List.set_cons_zero, List.set_cons_succ, i64_w, i32_w]
        rfl
      refine pure_ (i := 4) (N := (some 54)) (v := ?_) (a' := ?_) #[true, true, true, true, true, false, false, false, false] rfl rfl (by kernel_rfl) (fun _ _ _ h => h) (Or.inl ⟨by rfl, ?_⟩) ?_ ?_
      rotate_left
      · intro w'
        go_simp
        with_reducible rfl
      rotate_left
      · simp only [Act.put, List.setIfInBounds_toArray, List.set_cons_zero, List.set_cons_succ, i64_w, i32_w]
        rfl
      refine pure_ (i := 5) (N := (some 55)) (v := ?_) (a' := ?_) #[true, true, true, true, true, true, false, false, false] rfl rfl (by kernel_rfl) (fun _ _ _ h => h) (Or.inl ⟨by rfl, ?_⟩) ?_ ?_
      rotate_left
      · intro w'
        go_simp
        with_reducible rfl
      rotate_left
      · simp only [Act.put, List.setIfInBounds_toArray, List.set_cons_zero, List.set_cons_succ, i64_w, i32_w]
        rfl
      refine pure_ (i := 6) (N := (some 56)) (v := ?_) (a' := ?_) #[true, true, true, true, true, true, true, false, false] rfl rfl (by kernel_rfl) (fun _ _ _ h => h) (Or.inl ⟨by rfl, ?_⟩) ?_ ?_
      rotate_left
      · intro w'
        go_simp
        with_reducible rfl
      rotate_left
      · simp only [Act.put, List.setIfInBounds_toArray, List.set_cons_zero, List.set_cons_succ, i64_w, i32_w]
        rfl
      refine take_ (i := 7) (N := (some 57)) (v := ?_) (a' := ?_) #[true, true, true, true, true, true, true, true, false] rfl rfl (by kernel_rfl) (fun _ _ _ h => h) (Or.inl ⟨by rfl, ?_⟩) hHeld ?_ ?_
      rotate_left
      · rintro w' ⟨s0, s1, s2⟩
        go_simp
        with_reducible rfl
      rotate_left
      · simp only [Act.put, List.setIfInBounds_toArray, List.set_cons_zero, List.set_cons_succ, i64_w, i32_w]
        rfl
      refine pure_ (i := 8) (N := (some 58)) (v := ?_) (a' := ?_) #[true, true, true, true, true, true, true, true, true] rfl rfl (by kernel_rfl) (fun _ _ _ h => h) (Or.inl ⟨by rfl, ?_⟩) ?_ ?_
      rotate_left
      · intro w'
        go_simp
        with_reducible rfl
      rotate_left
      · simp only [Act.put, List.setIfInBounds_toArray, List.set_cons_zero, List.set_cons_succ, i64_w, i32_w]
        rfl
      refine done_ (by kernel_rfl) ?_
      have HsD_132 : Hid (V_123.drew.heap[B0]? = some (.cells S0 24 (0, 0))) := Lib.hid H_126.out
      have HtD_133 : Hid (V_123.drew.heap[X_122]? = some (.cells T 39 (0, 0))) := Lib.hid H_130.out
      have HEVD_131 : Hid (Below NN wr V_123.drew) := Lib.hid HE_129.out.drew
      clear H_126 H_130 HE_129
      generalize V_123.drew = VD_131 at HsD_132 HtD_133 HEVD_131 ⊢
      cases q1 : decide (t.f10 < p) with
      | false =>
          have hst := hstep.out
          rw [if_neg (of_decide_eq_false q1)] at hst
          replace hst := Lib.hid hst
          go_wp2
          go_roundw
          case rel => exact ⟨k + 1, by go_num, by omega, rfl, by rw [hst.out]; exact (hPS.out.below (below_to hNN.out HEVD_131.out)), HsD_132.out, (HEw.out.trans (HEVD_131.out.mono (Nat.le_trans (Nat.le_succ B0) hBN.out)))⟩
          case measure => simp [intOf] <;> omega
      | true =>
          have hst := hstep.out
          rw [if_pos (of_decide_eq_true q1)] at hst
          replace hst := Lib.hid hst
          have ct1 := (blk_cell HtD_133.out 1).trans (show T[1]? = some (.int .i64 t.f1) by rw [eT.out]; rfl)
          go_wp2_with fail
          refine (hceil.out _).mono ?_; rintro e V_134 ⟨rfl, hb_135⟩
          have H_136 : Hid (V_134.heap[B0]? = some (.cells S0 24 (0, 0))) := Lib.hid ((hb_135.block B0 (blk_lt HsD_132.out)).trans HsD_132.out)
          have H_137 : Hid (V_134.heap[X_122]? = some (.cells T 39 (0, 0))) := Lib.hid ((hb_135.block X_122 (blk_lt HtD_133.out)).trans HtD_133.out)
          have HE_138 : Hid (Below NN wr V_134) := Lib.hid (HEVD_131.out.trans (hb_135.mono (sz_le hNN.out HEVD_131.out.size)))
          clear ct1
          clear HEVD_131 HsD_132 HtD_133
          clear hb_135
          go_wp2_with (first | ((with_reducible refine wpl_gate (T := 39) rfl ?_); refine wpl_ld _ _ rfl (by rfl) X_122 rfl H_137.out Try.underlying39 rfl (by kernel_rfl) zT.out ?_))
          refine (whole_c okt.out _ _ eT.out _ hwt.out).mono ?_; rintro e V_139 ⟨rfl, hb_140⟩
          have H_141 : Hid (V_139.heap[B0]? = some (.cells S0 24 (0, 0))) := Lib.hid ((hb_140.block B0 (blk_lt H_136.out)).trans H_136.out)
          have H_142 : Hid (V_139.heap[X_122]? = some (.cells T 39 (0, 0))) := Lib.hid ((hb_140.block X_122 (blk_lt H_137.out)).trans H_137.out)
          have HE_143 : Hid (Below NN wr V_139) := Lib.hid (HE_138.out.trans (hb_140.mono (sz_le hNN.out HE_138.out.size)))
          clear HE_138 H_136 H_137
          clear hb_140
          go_wp2_with fail
          refine (hadd2.out _ (Nat.le_trans hBN.out (sz_le hNN.out HE_143.out.size)) (hPS.out.below (below_to hNN.out HE_143.out))).mono ?_; rintro e V9 ⟨rfl, hp9, hb9⟩
          have HP9 := Lib.hid hp9
          have HS9 : Hid (V9.heap[B0]? = some (.cells S0 24 (0, 0))) := Lib.hid ((hb9.block B0 (Nat.lt_succ_self B0)).trans H_141.out)
          have HE9 : Hid (Below B0 w V9) := Lib.hid ((HEw.out.trans (HE_143.out.mono (Nat.le_trans (Nat.le_succ B0) hBN.out))).trans (hb9.mono (Nat.le_succ B0)))
          clear hp9 hb9
          go_wp2
          go_roundw
          case rel => exact ⟨k + 1, by go_num, by omega, rfl, by rw [hst.out, ← List.append_assoc]; exact HP9.out, HS9.out, HE9.out⟩
          case measure => simp [intOf] <;> omega
    · have hkl : k = l.length := by omega
      have hge : decide (k < l.length) = false := by simp; omega
      have hPk := (hPB.out k).2
      have hPn := (hPB.out k).1
      have hQ' := hQ.out
      subst hkl
      rw [List.take_length] at hPS hPk hPn
      obtain ⟨L, hL⟩ : ∃ L, L = [wi, H] ++ [MB] ++ pl x p l := ⟨_, rfl⟩
      rw [← hL] at hPS
      have hLs : su L = wi + H + MB + su (pl x p l) := by rw [hL]; simp only [List.cons_append, List.nil_append, su]; omega
      have hLn : ∀ y ∈ L, 0 ≤ y := by
        rw [hL]; intro y hy
        simp only [List.cons_append, List.nil_append, List.mem_cons] at hy
        rcases hy with rfl | rfl | rfl | hy
        · exact hQ'.1
        · exact hQ'.2.2.1
        · exact hQ'.2.2.2.2.1
        · exact hPn y hy
      have hLl : L.length ≤ 1000 := by rw [hL]; have := pl_len x p l; simp only [List.length_append, List.length_cons, List.length_nil]; omega
      have hl16 : (l.length : Int) ≤ 16 := by omega
      have hSb : su L ≤ 4611686018427387904 := by rw [hLs]; omega
      obtain ⟨A, c, hcell, hKC, hcl⟩ := ps_sum hPS.out
      have SC := Lib.hid (sum_c wr A c L hKC hcl hLl hLn hSb tot (by rw [htot.out, hLs]))
      have cB : wr.cell? ⟨Bp, 0, none⟩ = some (.slice A L.length c) := (blk_cell hcell 0).trans rfl
      have HEw' := Lib.hid HEw
      clear hlt hPk hPn hQ' hLs hLn hLl hSb hcell hKC HEw
      replace hL := Lib.hid hL
      go_wp2_with fail
      refine SC.out.mono ?_; rintro e V9 ⟨rfl, hb9⟩
      have HE9 : Hid (Below B0 w V9) := Lib.hid (HEw'.out.trans (hb9.mono (sz_le hB0.out HEw'.out.size)))
      clear hb9
      go_wp2
      go_ret2
      exact ⟨rfl, HE9.out⟩
end Go.Proofs.Ytnidcoooenhebaa.PS
