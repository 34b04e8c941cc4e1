/- sync.Once around the closure that makes a row; what rows.of, Must and Row answer. -/
import Derived.Test.YtlnbpeaoidjinaaPatBody
namespace Go.Proofs.Ytlnbpeaoidjinaa.Pat
open Go.RowKit Go.Proofs.YtlnbpeaoidjinaaW.PrintWords Go.Proofs.YtlnbpeaoidjinaaW.PrintLast Go.Proofs.YtlnbpeaoidjinaaW.PrintMore Go.Proofs.Ytlnbpeaoidjinaa.Ring Go.Proofs.Ytlnbpeaoidjinaa.Args

set_option linter.unusedSimpArgs false
set_option linter.unusedVariables false
theorem disable (w : World) : (callFunc 50 #[]).run Try.prog w = .ok (.value (.tuple #[])) w := run_call_mark0 Try.func50 (by kernel_rfl) (by kernel_rfl) (by kernel_rfl) .disable (by kernel_rfl) w
theorem enable (w : World) : (callFunc 52 #[]).run Try.prog w = .ok (.value (.tuple #[])) w := run_call_mark0 Try.func52 (by kernel_rfl) (by kernel_rfl) (by kernel_rfl) .enable (by kernel_rfl) w
theorem acquire (a : Addr) (w : World) : (callFunc 53 #[.pointer (some a)]).run Try.prog w = .ok (.value (.tuple #[])) w := run_call_marked Try.func53 (by kernel_rfl) (by kernel_rfl) (by kernel_rfl) .acquire (by kernel_rfl) a w
theorem releaseMerge (a : Addr) (w : World) : (callFunc 55 #[.pointer (some a)]).run Try.prog w = .ok (.value (.tuple #[])) w := run_call_marked Try.func55 (by kernel_rfl) (by kernel_rfl) (by kernel_rfl) .releaseMerge (by kernel_rfl) a w

theorem load_zero (a : Addr) (w : World) (hc : w.cell? a = some (.int .u32 0)) : Calls Try.prog 37 #[.pointer (some a)] w fun e w' => e = .returned (.bool false) ∧ w' = w := by
  have hl := run_call_load (P := Try.prog) Try.func41 (by kernel_rfl) (by kernel_rfl) (by kernel_rfl) .u32 (by kernel_rfl) hc
  go_enter Try.func37, Try.ntmps37
  go_wp2
  go_ret
  exact ⟨rfl, rfl⟩
theorem store_deferred (a : Addr) (x : Value) (u : FrameMode) (w : World) (hc : w.cell? a = some x) (hz : w.frozen? a = false) :
    CallsD Try.prog 44 #[.pointer (some a), .bool true] u w fun e u' w' => u' = u ∧ (e = .returned (.tuple #[]) ∧ w' = w.drew.setCell a (.int .u32 1)) := by
  have hc' : w.drew.cell? a = some x := by go_simp
  have hz' : w.drew.frozen? a = false := by go_simp
  have hst := run_call_store (P := Try.prog) Try.func48 (by kernel_rfl) (by kernel_rfl) (by kernel_rfl) (by kernel_rfl) (k := .u32) (y := 1) hc' hz'
  go_enter_d Try.func44, Try.ntmps44
  go_wp2
  go_region_calls
  all_goals (go_end0; exact ⟨rfl, rfl⟩)
theorem unlock_deferred (a : Addr) (u : FrameMode) (w : World) (hc : w.cell? a = some (.int .i32 1)) (hz : w.frozen? a = false) :
    CallsD Try.prog 43 #[.pointer (some a)] u w fun e u' w' => u' = u ∧ (e = .returned (.tuple #[]) ∧ w' = w.setCell a (.int .i32 0)) := by
  have hd := disable
  have he := enable
  have hr := releaseMerge
  have hadd := run_call_add (P := Try.prog) Try.func56 (by kernel_rfl) (by kernel_rfl) (by kernel_rfl) .i32 (by kernel_rfl) (y := -1) (s := 0) hc hz (by simp [go_sem]; rfl)
  have hcv := run_convert_to_unsafe (P := Try.prog) (src := 88) (dst := 92) Try.underlying88 Try.underlying92 (by kernel_rfl) hc
  go_enter_d Try.func43, Try.ntmps43
  go_wp2
  go_end0
  go_wp2
  go_end0
  exact ⟨rfl, rfl⟩
theorem lock_free (a : Addr) (w : World) (hc : w.cell? a = some (.int .i32 0)) (hz : w.frozen? a = false) :
    Calls Try.prog 42 #[.pointer (some a)] w fun e w' => e = .returned (.tuple #[]) ∧ w' = w.setCell a (.int .i32 1) := by
  have hd := disable
  have he := enable
  have ha := acquire
  have hcas := run_call_cas_hit (P := Try.prog) Try.func51 (by kernel_rfl) (by kernel_rfl) (by kernel_rfl) .i32 (by kernel_rfl) (y := 1) hc hz
  have hc' : (w.setCell a (.int .i32 1)).cell? a = some (.int .i32 1) := World.cell?_setCell_same w a _ hc
  have hcv := run_convert_to_unsafe (P := Try.prog) (src := 88) (dst := 92) Try.underlying88 Try.underlying92 (by kernel_rfl) hc'
  go_enter Try.func42, Try.ntmps42
  go_wp2
  first | go_end0 | (simp only [Exit.inBlock, Exit.then]; refine bodyPost_ret (results_none rfl _ _ _) rfl ?_) | refine bodyPost_ret (results_none rfl _ _ _) rfl ?_
  go_wp2
  go_end0
  exact ⟨rfl, rfl⟩
/-- A row that was not yet made. -/
def Fresh (w : World) (R m : Nat) (cur : Array Value) : Prop :=
  w.heap[R]? = some (.cells cur 67 (0, 0)) ∧ cur[4 * m]? = some (.int .u32 0) ∧ cur[4 * m + 1]? = some (.int .i32 0) ∧ cur[4 * m + 3]? = some (.slice none 0 0)
/-- What the closure and sync.Once leave: the row's slice, of new memory. -/
def Done (deep : Bool) (w w' : World) (R m k : Nat) : Prop :=
  ∃ A c, w'.cell? ⟨R, 4 * m + 3, none⟩ = some (.slice A k c) ∧ k ≤ c ∧ ReadsOf Value.bool false w' A k (rowl deep m k k) ∧ Kept w w' (fun b => b = R) ∧ (∀ B, B ≤ R → Below B w w')
set_option maxRecDepth 100000 in
set_option maxHeartbeats 4000000 in
theorem slow_any (deep : Bool) (w : World) (m k : Nat) (h1 : 1 ≤ m) (h2 : m ≤ k) (h3 : k ≤ 64) (R kb xb db mb : Nat) (cur : Array Value)
    (ck : w.cell? ⟨kb, 0, none⟩ = some (.int .i64 (k : Int))) (cx : w.cell? ⟨xb, 0, none⟩ = some (.pointer (some ⟨R, 4 * m, none⟩))) (cd : w.cell? ⟨db, 0, none⟩ = some (.int .i64 (kd deep))) (cm : w.cell? ⟨mb, 0, none⟩ = some (.int .i64 (m : Int)))
    (hF : Fresh w R m cur) (nk : kb ≠ R) (nx : xb ≠ R) (nd : db ≠ R) (nm : mb ≠ R) :
    Calls Try.prog 38 #[.pointer (some ⟨R, 4 * m, none⟩), .func (.func 34) #[] #[.pointer (some ⟨kb, 0, none⟩), .pointer (some ⟨xb, 0, none⟩), .pointer (some ⟨db, 0, none⟩), .pointer (some ⟨mb, 0, none⟩)]] w fun e w' => e = .returned (.tuple #[]) ∧ Done deep w w' R m k := by
  obtain ⟨hR, f0, f1, f3⟩ := hF
  have c0 : w.cell? ⟨R, 4 * m, none⟩ = some (.int .u32 0) := (blk_cell hR _).trans f0
  have c1 : w.cell? ⟨R, 4 * m + 1, none⟩ = some (.int .i32 0) := (blk_cell hR _).trans f1
  have z1 : w.frozen? ⟨R, 4 * m + 1, none⟩ = false := blk_frozen hR _
  have hR1 := blk_set hR (4 * m + 1) (.int .i32 1)
  obtain ⟨w1, hw1⟩ : ∃ W, W = w.setCell ⟨R, 4 * m + 1, none⟩ (.int .i32 1) := ⟨_, rfl⟩
  have HL := lock_free ⟨R, 4 * m + 1, none⟩ w c1 z1
  rw [← hw1] at HL hR1
  have hk1 : Kept w w1 (fun b => b = R) := by rw [hw1]; exact (Kept.refl w (fun b => b = R)).setCell (p := ⟨R, 4 * m + 1, none⟩) (.inl rfl) _
  have hb1 : ∀ B, B ≤ R → Below B w w1 := fun B hB => by rw [hw1]; exact (Below.refl _ _).setCell hB _
  have hc1 : 4 * m + 1 < cur.size := (Array.getElem?_eq_some_iff.1 f1).1
  have hc0 : 4 * m < cur.size := (Array.getElem?_eq_some_iff.1 f0).1
  have d0 : w1.cell? ⟨R, 4 * m, none⟩ = some (.int .u32 0) := (blk_cell hR1 _).trans (by rw [Array.getElem?_setIfInBounds_ne (by omega)]; exact f0)
  have HLD := load_zero ⟨R, 4 * m, none⟩ w1 d0
  have HB := body_any deep w1 m k h1 h2 h3 R kb xb db mb _ (cell_kept ck hk1 nk) (cell_kept cx hk1 nx) (cell_kept cd hk1 nd) (cell_kept cm hk1 nm) hR1 (by rw [Array.getElem?_setIfInBounds_ne (by omega)]; exact f3) nk nx nd nm
  have hc3 : 4 * m + 3 < cur.size := (Array.getElem?_eq_some_iff.1 f3).1
  have HRB : R < w1.heap.size := blk_lt hR1
  have hnot : ∀ (x : Bool) (w : World), (Op.unary .not (.bool x)).run Try.prog w = .ok (.bool (!x)) w := fun _ _ => rfl
  have HK1 := Lib.hid hk1
  have HB1 := Lib.hid hb1
  have F0 := Lib.hid f0
  clear hR hR1 f0 f1 f3 c0 c1 z1 hw1 hk1 hb1 d0 ck cx cd cm
  go_enter_defers Try.func38, Try.ntmps38
  go_wp2_with (first | (go_at_call 42; refine HL.mono ?_; rintro e w' ⟨rfl, rfl⟩) | (go_at_call 37; refine HLD.mono ?_; rintro e w' ⟨rfl, rfl⟩) | (go_at_call 34; refine HB.mono ?_; rintro e w2 ⟨rfl, hm⟩; replace hm := Lib.hid hm))
  obtain ⟨v, hR2, ho2, hk2, hb2⟩ := hm.out
  have g0 : w2.cell? ⟨R, 4 * m, none⟩ = some (.int .u32 0) := (blk_cell hR2 _).trans (by rw [Array.getElem?_setIfInBounds_ne (by omega), Array.getElem?_setIfInBounds_ne (by omega)]; exact F0.out)
  have g1 : w2.cell? ⟨R, 4 * m + 1, none⟩ = some (.int .i32 1) := (blk_cell hR2 _).trans (by rw [Array.getElem?_setIfInBounds_ne (by omega), Array.getElem?_setIfInBounds_self_of_lt hc1])
  have y0 : w2.frozen? ⟨R, 4 * m, none⟩ = false := blk_frozen hR2 _
  have y1 : w2.frozen? ⟨R, 4 * m + 1, none⟩ = false := blk_frozen hR2 _
  refine leaves_cons (f := 44) (args := #[.pointer (some ⟨R, 4 * m, none⟩), .bool true]) (by simp) (by simp [go_sem]) ?_
  refine (store_deferred ⟨R, 4 * m, none⟩ (.int .u32 0) .returning _ ?_ (by simp [y0])).mono ?_
  · exact g0
  rintro e u' w'' ⟨rfl, rfl, rfl⟩
  refine leaves_cons (f := 43) (args := #[.pointer (some ⟨R, 4 * m + 1, none⟩)]) (by simp [settle]) (by simp [go_sem]) ?_
  refine (unlock_deferred ⟨R, 4 * m + 1, none⟩ _ _ ?_ (by simp [y1])).mono ?_
  · refine (World.cell?_setCell_other _ ⟨R, 4 * m, none⟩ ⟨R, 4 * m + 1, none⟩ _ (by simp)).trans ?_
    rw [World.cell?_drew]
    exact g1
  rintro e u' w'' ⟨rfl, rfl, rfl⟩
  have hRb := HRB
  have ho3 := ownsRow_setCell_below (ownsRow_setCell_below (w := w2.drew) (show w2.drew.ownsRow _ 4 1 v k ((rowl deep m k k).map Value.bool) from ho2) (a := ⟨R, 4 * m, none⟩) hRb (.int .u32 1)) (a := ⟨R, 4 * m + 1, none⟩) hRb (.int .i32 0)
  have hR3 := blk_set (blk_set (show w2.drew.heap[R]? = _ from hR2) (4 * m) (.int .u32 1)) (4 * m + 1) (.int .i32 0)
  have hfin : Done deep w ((w2.drew.setCell ⟨R, 4 * m, none⟩ (.int .u32 1)).setCell ⟨R, 4 * m + 1, none⟩ (.int .i32 0)) R m k := by
    obtain ⟨A, c, rfl, hkc, hrd⟩ := own_reads_of_le (enc := Value.bool) (d := false) ho3
    refine ⟨A, c, (blk_cell hR3 _).trans ?_, hkc, hrd, (((HK1.out.then_ hk2 (fun _ h => .inl h)).drew).setCell (p := ⟨R, 4 * m, none⟩) (.inl rfl) _).setCell (p := ⟨R, 4 * m + 1, none⟩) (.inl rfl) _, fun B hB => ((((HB1.out B hB).trans (hb2 B hB)).drew).setCell (p := ⟨R, 4 * m, none⟩) hB _).setCell (p := ⟨R, 4 * m + 1, none⟩) hB _⟩
    rw [Array.getElem?_setIfInBounds_ne (by omega), Array.getElem?_setIfInBounds_ne (by omega), Array.getElem?_setIfInBounds_self_of_lt (by simpa using hc3)]
  simp [Leaves, settle, results, Try.results38]
  exact hfin
/-- '(*sync.Once).Do', not yet done. -/
theorem do_any (deep : Bool) (w : World) (m k : Nat) (h1 : 1 ≤ m) (h2 : m ≤ k) (h3 : k ≤ 64) (R kb xb db mb : Nat) (cur : Array Value)
    (ck : w.cell? ⟨kb, 0, none⟩ = some (.int .i64 (k : Int))) (cx : w.cell? ⟨xb, 0, none⟩ = some (.pointer (some ⟨R, 4 * m, none⟩))) (cd : w.cell? ⟨db, 0, none⟩ = some (.int .i64 (kd deep))) (cm : w.cell? ⟨mb, 0, none⟩ = some (.int .i64 (m : Int)))
    (hF : Fresh w R m cur) (nk : kb ≠ R) (nx : xb ≠ R) (nd : db ≠ R) (nm : mb ≠ R) :
    Calls Try.prog 33 #[.pointer (some ⟨R, 4 * m, none⟩), .func (.func 34) #[] #[.pointer (some ⟨kb, 0, none⟩), .pointer (some ⟨xb, 0, none⟩), .pointer (some ⟨db, 0, none⟩), .pointer (some ⟨mb, 0, none⟩)]] w fun e w' => e = .returned (.tuple #[]) ∧ Done deep w w' R m k := by
  have HLD := load_zero ⟨R, 4 * m, none⟩ w ((blk_cell hF.1 _).trans hF.2.1)
  have HS := slow_any deep w m k h1 h2 h3 R kb xb db mb cur ck cx cd cm hF nk nx nd nm
  have hnot : ∀ (x : Bool) (w : World), (Op.unary .not (.bool x)).run Try.prog w = .ok (.bool (!x)) w := fun _ _ => rfl
  clear ck cx cd cm hF
  go_enter Try.func33, Try.ntmps33
  go_wp2_with (first | (go_at_call 37; refine HLD.mono ?_; rintro e w' ⟨rfl, rfl⟩) | (go_at_call 38; refine HS.mono ?_; rintro e w2 ⟨rfl, hm⟩; replace hm := Lib.hid hm))
  go_end0
  exact ⟨rfl, hm.out⟩
/-- The rows as they are made: none was asked for. -/
def zeroCur : Array Value := ((List.range 260).map fun i => if i % 4 = 0 then Value.int .u32 0 else if i % 4 = 1 then Value.int .i32 0 else if i % 4 = 2 then Value.int .u32 0 else Value.slice none 0 0).toArray
theorem zero_fresh {w : World} {R m : Nat} (h : w.heap[R]? = some (.cells zeroCur 67 (0, 0))) (hm : m ≤ 64) : Fresh w R m zeroCur := by
  refine ⟨h, ?_, ?_, ?_⟩
  · unfold zeroCur; simp [show 4 * m < 260 by omega]
  · unfold zeroCur; simp [show 4 * m + 1 < 260 by omega, show (4 * m + 1) % 4 = 1 by omega]
  · unfold zeroCur; simp [show 4 * m + 3 < 260 by omega, show (4 * m + 3) % 4 = 3 by omega]
set_option maxRecDepth 100000 in
set_option maxHeartbeats 4000000 in
theorem of_any (deep : Bool) (w : World) (m k : Nat) (h1 : 1 ≤ m) (h2 : m ≤ k) (h3 : k ≤ 64) (R : Nat) (hR : w.heap[R]? = some (.cells zeroCur 67 (0, 0))) :
    Calls Try.prog 28 #[.pointer (some ⟨R, 0, none⟩), .int .i64 (kd deep), .int .i64 (m : Int), .int .i64 (k : Int)] w fun e w' => ∃ A c, e = .returned (.slice A k c) ∧ k ≤ c ∧ ReadsOf Value.bool false w' A k (rowl deep m k k) ∧ ∀ B, B ≤ R → Below B w w' := by
  have i1 : (m : Int) < 65 := by omega
  have hRb := blk_lt hR
  obtain ⟨W3, hW⟩ : ∃ W, W = ((w.alloc (.cells #[.int .i64 (kd deep)] 3)).alloc (.cells #[.int .i64 (m : Int)] 3)).alloc (.cells #[.int .i64 (k : Int)] 3) := ⟨_, rfl⟩
  obtain ⟨B, hB⟩ : ∃ B, B = w.heap.size := ⟨_, rfl⟩
  have s3 : W3.heap.size = B + 3 := by rw [hW, hB]; simp
  have b3 : Below B w W3 := by rw [hW, hB]; exact ((Below.refl _ _).alloc (Nat.le_refl _) _ |>.alloc (by simp) _).alloc (by simp; omega) _
  have k3 : W3.cell? ⟨B + 1 + 1, 0, none⟩ = some (.int .i64 (k : Int)) := by rw [hW, hB]; go_simp
  have m3 : W3.cell? ⟨B + 1, 0, none⟩ = some (.int .i64 (m : Int)) := by rw [hW, hB]; go_simp
  have d3 : W3.cell? ⟨B, 0, none⟩ = some (.int .i64 (kd deep)) := by rw [hW, hB]; go_simp
  have hR3 : W3.heap[R]? = some (.cells zeroCur 67 (0, 0)) := (b3.block R (by rw [hB]; exact hRb)).trans hR
  rw [← hB] at hRb
  replace hR := Lib.hid hR
  replace s3 := Lib.hid s3
  replace hW := Lib.hid hW
  replace hB := Lib.hid hB
  go_enter Try.func28, Try.ntmps28
  go_wp2_with fail
  rw [← hW.out, ← hB.out]
  refine start_ (n := 7) (S := fun w' => w'.cell? ⟨B + 1, 0, none⟩ = some (.int .i64 (m : Int))) (ds := [6]) #[false, false, false, false, false, false, false] (by kernel_rfl) rfl rfl m3 (fun hHeld => ?_)
  refine pure_ (i := 0) (N := (some 10)) (v := ?_) (a' := ?_) #[true, false, false, false, false, false, false] rfl rfl (by kernel_rfl) (fun _ _ _ h => h) (Or.inl ⟨by rfl, ?_⟩) ?_ ?_
  rotate_left
  · intro w'
    go_simp
    with_reducible rfl
  rotate_left
  · simp only [Act.put, List.setIfInBounds_toArray, List.set_cons_zero, List.set_cons_succ, i64_w, i32_w]
    rfl
  refine take_ (i := 1) (N := (some 11)) (v := ?_) (a' := ?_) #[true, true, false, false, false, false, false] rfl rfl (by kernel_rfl) (fun _ _ _ h => h) (Or.inl ⟨by rfl, ?_⟩) hHeld ?_ ?_
  rotate_left
  · intro w' s0
    go_simp
    with_reducible rfl
  rotate_left
  · simp only [Act.put, List.setIfInBounds_toArray, List.set_cons_zero, List.set_cons_succ, i64_w, i32_w]
    rfl
  refine pure_ (i := 2) (N := (some 12)) (v := ?_) (a' := ?_) #[true, true, true, false, false, false, false] rfl rfl (by kernel_rfl) (fun _ _ _ h => h) (Or.inl ⟨by rfl, ?_⟩) ?_ ?_
  rotate_left
  · intro w'
    go_simp
    with_reducible rfl
  rotate_left
  · simp only [Act.put, List.setIfInBounds_toArray, List.set_cons_zero, List.set_cons_succ, i64_w, i32_w]
    rfl
  refine pure_ (i := 3) (N := (some 13)) (v := ?_) (a' := ?_) #[true, true, true, true, false, false, false] rfl rfl (by kernel_rfl) (fun _ _ _ h => h) (Or.inl ⟨by rfl, ?_⟩) ?_ ?_
  rotate_left
  · intro w'
    go_simp
    with_reducible rfl
  rotate_left
  · simp only [Act.put, List.setIfInBounds_toArray, List.set_cons_zero, List.set_cons_succ, i64_w, i32_w]
    rfl
  refine pure_ (i := 4) (N := (some 14)) (v := ?_) (a' := ?_) #[true, true, true, true, true, false, false] rfl rfl (by kernel_rfl) (fun _ _ _ h => h) (Or.inl ⟨by rfl, ?_⟩) ?_ ?_
  rotate_left
  · intro w'
    go_simp
    with_reducible rfl
  rotate_left
  · simp only [Act.put, List.setIfInBounds_toArray, List.set_cons_zero, List.set_cons_succ, i64_w, i32_w]
    rfl
  refine one_ (i := 5) (N := (some 9)) #[true, true, true, true, true, true, false] rfl rfl (by kernel_rfl) (by decide) (fun K hK => ?_)
  refine value_ (v := .pointer (some ⟨W3.heap.size, 0, none⟩)) (w1 := (W3.alloc (.cells #[.pointer none] 74)).drew) rfl rfl (by go_simp) ?_
  refine hK.out _ _ ((World.cell?_alloc_past _ _ _ (World.block_lt_of_cell? W3 _ m3)).trans m3) (fun hHeld => ?_)
  clear hK K
  refine norm_ (a' := ?_) ?_ ?_
  rotate_left
  · show Act.put _ (some 9) _ = _
    simp only [Act.put, List.setIfInBounds_toArray, List.set_cons_zero, List.set_cons_succ, i64_w, i32_w]
    rfl
  refine last_ (i := 6) (N := none) #[true, true, true, true, true, true, true] rfl rfl (by kernel_rfl) (by decide) (fun K hK => ?_)
  refine skip_ (w1 := (W3.alloc (.cells #[.pointer (some ⟨R, m * 4, none⟩)] 74)).drew) rfl rfl (by go_simp) ?_
  refine hK.out _ _ ?_
  clear hK K
  refine done_ (by kernel_rfl) ?_
  rw [Nat.mul_comm m 4]
  have hpast : ∀ b v, W3.cell? ⟨b, 0, none⟩ = some v → (W3.alloc (.cells #[.pointer (some ⟨R, 4 * m, none⟩)] 74)).drew.cell? ⟨b, 0, none⟩ = some v := fun b v h => (World.cell?_alloc_past _ _ _ (World.block_lt_of_cell? W3 _ h)).trans h
  have px : (W3.alloc (.cells #[.pointer (some ⟨R, 4 * m, none⟩)] 74)).drew.cell? ⟨W3.heap.size, 0, none⟩ = some (.pointer (some ⟨R, 4 * m, none⟩)) := by go_simp
  have HD := do_any deep (W3.alloc (.cells #[.pointer (some ⟨R, 4 * m, none⟩)] 74)).drew m k h1 h2 h3 R (B + 1 + 1) W3.heap.size B (B + 1) zeroCur (hpast _ _ k3) px (hpast _ _ d3) (hpast _ _ m3) (zero_fresh (blk_alloc hR3 _) (by omega)) (by omega) (by have := s3.out; omega) (by omega) (by omega)
  have hb5 := Lib.hid ((b3.alloc (by have := s3.out; omega) (.cells #[.pointer (some ⟨R, 4 * m, none⟩)] 74)).drew)
  have hne5 : W3.heap.size ≠ R := by have := s3.out; omega
  have hmf : ∀ (fn : Fn) (first cap : Array Value) (w : World), (Instr.makeFunc fn first cap).run Try.prog w = .ok (.func fn first cap) w := fun _ _ _ _ => rfl
  generalize (W3.alloc (.cells #[.pointer (some ⟨R, 4 * m, none⟩)] 74)).drew = W5 at px HD hb5 ⊢
  have PX := Lib.hid px
  clear hpast k3 m3 d3 hR3 b3
  go_wp2_with fail
  refine HD.mono ?_; rintro e w6 ⟨rfl, hm⟩
  obtain ⟨A, c, hc6, hkc, hrd, hkp, hbl⟩ := hm
  have px6 := cell_kept PX.out hkp hne5
  replace hrd := Lib.hid hrd
  replace hbl := Lib.hid hbl
  clear hkp px HD
  go_wp2_with fail
  go_ret
  exact ⟨A, c, rfl, hkc, hrd.out, fun B' hB' => (hb5.out.mono (by omega)).trans (hbl.out B' hB')⟩
theorem zero_rows (w : World) : (zeroValue 67).run Try.prog w = .ok (.agg zeroCur) w := by kernel_rfl
set_option maxRecDepth 100000 in
set_option maxHeartbeats 4000000 in
theorem must_any (deep : Bool) (w : World) (n m k : Nat) (h1 : 1 ≤ m) (h2 : m ≤ k) (h3 : k ≤ 64) (hn : n ≤ 4398046511104) :
    Calls Try.prog 20 #[.int .i64 (kd deep), .int .i64 (n : Int), .int .i64 (m : Int), .int .i64 (k : Int)] w fun e w' => e = .returned (.bool (must deep m k n)) ∧ Below w.heap.size w w' := by
  obtain ⟨r, hr⟩ : ∃ r, r = n % k := ⟨_, rfl⟩
  have hrk : r < k := by rw [hr]; exact Nat.mod_lt _ (by omega)
  have hrt : Int.tmod (n : Int) (k : Int) = (r : Int) := by rw [Int.tmod_eq_emod_of_nonneg (by omega), hr]; simp
  have hrr : (n : Int) % (k : Int) = (r : Int) := by rw [hr]; simp
  have hget : (rowl deep m k k).getD r false = must deep m k n := by
    rw [List.getD_eq_getElem?_getD, rowl, List.getElem?_map, List.getElem?_range hrk]
    simp [must, hr]
  have hk0 : ¬ (k : Int) = 0 := by omega
  have hk2 : ¬ k = 0 := by omega
  have hk1 : ((k : Int) == 0) = false := by rw [beq_eq_false_iff_ne]; omega
  have i3 : (r : Int) < (k : Int) := by omega
  have HO : ∀ W : World, W = (w.alloc (.cells zeroCur 67)).drew → Calls Try.prog 28 #[.pointer (some ⟨w.heap.size, 0, none⟩), .int .i64 (kd deep), .int .i64 (m : Int), .int .i64 (k : Int)] W fun e w' => ∃ A c, e = .returned (.slice A k c) ∧ k ≤ c ∧ ReadsOf Value.bool false w' A k (rowl deep m k k) ∧ ∀ B, B ≤ w.heap.size → Below B w w' := fun W hW => by
    subst hW
    exact (of_any deep (w.alloc (.cells zeroCur 67)).drew m k h1 h2 h3 w.heap.size (blk_new w _)).mono fun _ _ ⟨A, c, he, hkc, hrd, hb⟩ => ⟨A, c, he, hkc, hrd, fun B hB => (((Below.refl B w).alloc hB (.cells zeroCur 67)).drew).trans (hb B hB)⟩
  have hz := zero_rows
  replace hget := Lib.hid hget
  replace HO := Lib.hid HO
  clear hr
  go_enter Try.func20, Try.ntmps20
  go_wp2_with fail
  refine start_ (n := 10) (S := fun _ => True) (ds := []) #[false, false, false, false, false, false, false, false, false, false] (by kernel_rfl) rfl rfl trivial (fun hHeld => ?_)
  refine pure_ (i := 0) (N := (some 10)) (v := ?_) (a' := ?_) #[true, false, false, false, false, false, false, false, false, false] rfl rfl (by kernel_rfl) (fun _ _ _ h => h) (Or.inl ⟨by rfl, ?_⟩) ?_ ?_
  rotate_left
  · intro w'
    go_simp
    with_reducible rfl
  rotate_left
  · simp only [Act.put, List.setIfInBounds_toArray, List.set_cons_zero, List.set_cons_succ, i64_w, i32_w]
    rfl
  refine pure_ (i := 1) (N := (some 11)) (v := ?_) (a' := ?_) #[true, true, false, false, false, false, false, false, false, false] rfl rfl (by kernel_rfl) (fun _ _ _ h => h) (Or.inl ⟨by rfl, ?_⟩) ?_ ?_
  rotate_left
  · intro w'
    go_simp
    with_reducible rfl
  rotate_left
  · simp only [Act.put, List.setIfInBounds_toArray, List.set_cons_zero, List.set_cons_succ, i64_w, i32_w]
    rfl
  refine pure_ (i := 2) (N := (some 12)) (v := ?_) (a' := ?_) #[true, true, true, false, false, false, false, false, false, false] rfl rfl (by kernel_rfl) (fun _ _ _ h => h) (Or.inl ⟨by rfl, ?_⟩) ?_ ?_
  rotate_left
  · intro w'
    go_simp
    with_reducible rfl
  rotate_left
  · simp only [Act.put, List.setIfInBounds_toArray, List.set_cons_zero, List.set_cons_succ, i64_w, i32_w]
    rfl
  refine pure_ (i := 4) (N := (some 14)) (v := ?_) (a' := ?_) #[true, true, true, false, true, false, false, false, false, false] rfl rfl (by kernel_rfl) (fun _ _ _ h => h) (Or.inl ⟨by rfl, ?_⟩) ?_ ?_
  rotate_left
  · intro w'
    go_simp
    with_reducible rfl
  rotate_left
  · simp only [Act.put, List.setIfInBounds_toArray, List.set_cons_zero, List.set_cons_succ, i64_w, i32_w]
    rfl
  refine pure_ (i := 5) (N := (some 15)) (v := ?_) (a' := ?_) #[true, true, true, false, true, true, false, false, false, false] rfl rfl (by kernel_rfl) (fun _ _ _ h => h) (Or.inl ⟨by rfl, ?_⟩) ?_ ?_
  rotate_left
  · intro w'
    go_simp
    with_reducible rfl
  rotate_left
  · simp only [Act.put, List.setIfInBounds_toArray, List.set_cons_zero, List.set_cons_succ, i64_w, i32_w]
    rfl
  refine pure_ (i := 6) (N := (some 16)) (v := ?_) (a' := ?_) #[true, true, true, false, true, true, true, false, false, false] rfl rfl (by kernel_rfl) (fun _ _ _ h => h) (Or.inl ⟨by rfl, ?_⟩) ?_ ?_
  rotate_left
  · intro w'
    go_simp
    with_reducible rfl
  rotate_left
  · simp only [Act.put, List.setIfInBounds_toArray, List.set_cons_zero, List.set_cons_succ, i64_w, i32_w]
    rfl
  refine one_ (i := 3) (N := (some 13)) #[true, true, true, true, true, true, true, false, false, false] rfl rfl (by kernel_rfl) (by decide) (fun K hK => ?_)
  refine goes_ Try.func28 (by kernel_rfl) rfl #[.pointer (some ⟨w.heap.size, 0, none⟩), .int .i64 (kd deep), .int .i64 (m : Int), .int .i64 (k : Int)] (by rfl) rfl rfl (by (try simp only [List.map_toArray, List.map_cons, List.map_nil]); first | done | rfl) ?_
  refine (HO _ rfl).mono ?_
  rintro e w1 ⟨A, c, rfl, hkc, hrd, hb⟩
  refine ⟨_, rfl, ?_⟩
  obtain ⟨ad, rfl, hcell⟩ := hrd.2.2 (by omega)
  have c1 := hcell r hrk
  rw [hget] at c1
  have hb1 := Lib.hid (hb w.heap.size (Nat.le_refl _))
  clear hrd hcell hb
  refine hK.out _ _ trivial (fun hHeld => ?_)
  clear hK K
  refine norm_ (a' := ?_) ?_ ?_
  rotate_left
  · show Act.put _ (some 13) _ = _
    simp only [Act.put, List.setIfInBounds_toArray, List.set_cons_zero, List.set_cons_succ, i64_w, i32_w]
    rfl
  refine pure_ (i := 7) (N := (some 17)) (v := ?_) (a' := ?_) #[true, true, true, true, true, true, true, true, false, false] rfl rfl (by kernel_rfl) (fun _ _ _ h => h) (Or.inl ⟨by rfl, ?_⟩) ?_ ?_
  rotate_left
  · intro w'
    go_simp
    with_reducible rfl
  rotate_left
  · simp only [Act.put, List.setIfInBounds_toArray, List.set_cons_zero, List.set_cons_succ, i64_w, i32_w]
    rfl
  refine one_ (i := 8) (N := (some 18)) #[true, true, true, true, true, true, true, true, true, false] rfl rfl (by kernel_rfl) (by decide) (fun K hK => ?_)
  refine value_ (v := .bool (must deep m k n)) (w1 := w1) rfl rfl (by go_simp) ?_
  refine hK.out _ _ trivial (fun hHeld => ?_)
  clear hK K
  refine norm_ (a' := ?_) ?_ ?_
  rotate_left
  · show Act.put _ (some 18) _ = _
    simp only [Act.put, List.setIfInBounds_toArray, List.set_cons_zero, List.set_cons_succ, i64_w, i32_w]
    rfl
  refine pure_ (i := 9) (N := (some 8)) (v := ?_) (a' := ?_) #[true, true, true, true, true, true, true, true, true, true] rfl rfl (by kernel_rfl) (fun _ _ _ h => h) (Or.inl ⟨by rfl, ?_⟩) ?_ ?_
  rotate_left
  · intro w'
    go_simp
    with_reducible rfl
  rotate_left
  · simp only [Act.put, List.setIfInBounds_toArray, List.set_cons_zero, List.set_cons_succ, i64_w, i32_w]
    rfl
  refine done_ (by kernel_rfl) ?_
  go_wp2
  go_ret
  exact ⟨rfl, hb1.out⟩
end Go.Proofs.Ytlnbpeaoidjinaa.Pat
