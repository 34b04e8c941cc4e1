/- The closure of fix.Next: what it appends. -/
import Derived.Test.YtnidcoooenhebaaFk
namespace Go.Proofs.Ytnidcoooenhebaa.PS
open Go.RowKit Go.Proofs.Ytnidcoooenhebaa.PC Go.Proofs.YtnidcoooenhebaaW.PrintWords Go.Proofs.YtnidcoooenhebaaW.PrintLast Go.Proofs.YtnidcoooenhebaaW.PrintMore
attribute [local go_sem] max2_int min2_int max_two min_two max_three min_three max_four min_four   -- for this text's walks alone
set_option linter.unusedVariables false
set_option linter.unusedSimpArgs false
/-- The parts that were laid so far: a row of the call's own, its slice in a cell. -/
def PS (w : World) (base Bp : Nat) (xs : List Int) : Prop := ∃ v : Value, w.heap[Bp]? = some (.cells #[v] 45 (0, 0)) ∧ w.ownsRow base 3 1 v xs.length (nums .i64 xs) ∧ v.ownBlock ≠ some Bp
theorem own_below {w w1 : World} {base e size n : Nat} {v : Value} {xs : List Value} (h : w.ownsRow base e size v n xs) (hb : Below w.heap.size w w1) : w1.ownsRow base e size v n xs := by
  obtain ⟨h1, h2⟩ := h
  refine ⟨h1, ?_⟩
  rcases h2 with h2 | ⟨g, cap, cur, e1, e2, e3, e4⟩
  · exact .inl h2
  · exact .inr ⟨g, cap, cur, e1, e2, (hb.block g (blk_lt e3)).trans e3, e4⟩
theorem own_is {w : World} {base e size n : Nat} {v : Value} {xs : List Value} (h : w.ownsRow base e size v n xs) : ∃ A c, v = .slice A n c := by
  rcases h.2 with ⟨rfl, h0⟩ | ⟨g, cap, cur, e1, _⟩
  · exact ⟨none, 0, by rw [h0]⟩
  · exact ⟨_, _, e1⟩
theorem own_set {w : World} {base e size n Bp : Nat} {v u : Value} {xs : List Value} (h : w.ownsRow base e size v n xs) (hne : v.ownBlock ≠ some Bp) : (w.setCell ⟨Bp, 0, none⟩ u).ownsRow base e size v n xs := by
  obtain ⟨h1, h2⟩ := h
  refine ⟨h1, ?_⟩
  rcases h2 with h2 | ⟨g, cap, cur, e1, e2, e3, e4⟩
  · exact .inl h2
  · refine .inr ⟨g, cap, cur, e1, e2, blk_far e3 (fun hg => hne ?_) u, e4⟩
    subst e1
    rw [show Bp = g from hg.symm]; rfl
theorem PS.below {w w1 : World} {base Bp : Nat} {xs : List Int} (h : PS w base Bp xs) (hb : Below w.heap.size w w1) : PS w1 base Bp xs := by
  obtain ⟨v, h1, h2, h3⟩ := h
  exact ⟨v, (hb.block Bp (blk_lt h1)).trans h1, own_below h2 hb, h3⟩
set_option maxRecDepth 100000 in
set_option maxHeartbeats 4000000 in
theorem add_c (w : World) (base Bp : Nat) (xs : List Int) (hlen : xs.length ≤ 1000) (hbase : base ≤ w.heap.size) (hBp : base ≤ Bp) (a b : Int) (ha : 0 ≤ a) (ha2 : a ≤ 4611686018427387904) (hb : 0 ≤ b) (hb2 : b ≤ 4611686018427387904) (hab : a * b ≤ 4611686018427387904) (x : Int) (hx : x = a * b) (hP : PS w base Bp xs) :
    Calls Try.prog 25 #[.int .i64 a, .int .i64 b, .pointer (some ⟨Bp, 0, none⟩)] w fun e w' => e = .returned (.bool true) ∧ PS w' base Bp (xs ++ [x]) ∧ Below base w w' := by
  obtain ⟨v, h1, h2, h3⟩ := hP
  obtain ⟨A0, cp, rfl⟩ := own_is h2
  have MC := Lib.hid (fun W => mul_c W a b ha ha2 hb hb2 hab x hx)
  have hH := Lib.hid h1
  have hO := Lib.hid h2
  have hN := Lib.hid h3
  have hE : Hid (Below base w w) := Lib.hid (Below.refl _ _)
  clear h1 h2 h3 ha ha2 hb hb2 hab hx
  go_enter Try.func25, Try.ntmps25
  go_wp2_with fail
  refine (MC.out _).mono ?_; rintro e V1 ⟨rfl, hb1⟩
  have hH1 := Lib.hid ((hb1.block Bp (blk_lt hH.out)).trans hH.out)
  have hO1 := Lib.hid (own_below hO.out hb1)
  have hE1 := Lib.hid (hE.out.trans (hb1.mono hbase))
  have hs1 : base ≤ V1.heap.size := Nat.le_trans hbase hb1.size
  clear hE hH hO hb1
  have c0 : V1.cell? ⟨Bp, 0, none⟩ = some (.slice A0 xs.length cp) := (blk_cell hH1.out 0).trans rfl
  go_wp2_with (at_builtin; refine print_append_num (w0 := w) base rfl (.tmp 14) (.tmp 16) 45 3 .i64 8 rfl Try.underlying45 (by kernel_rfl) (by decide) (.slice A0 xs.length cp) xs x rfl rfl hO1.out hE1.out hs1 (by omega) ?_; intro v2 w2 ho2 hb2 hg2 hat2; obtain ⟨A2, cp2, rfl⟩ := own_is ho2; replace ho2 := Lib.hid ho2; replace hb2 := Lib.hid hb2; replace hat2 := Lib.hid hat2; have hH2 := Lib.hid (blk_grown hH1.out hg2 (fun h => hN.out h.symm)); have c2 := (blk_cell hH2.out 0).trans (show (#[.slice A0 xs.length cp] : Array Value)[0]? = some (.slice A0 xs.length cp) from rfl); have z2 := blk_frozen hH2.out 0; clear hg2)
  go_ret
  have e : (xs ++ [x]).length = xs.length + 1 := by simp
  have ho3 := ho2.out
  have hat3 := hat2.out
  rw [e] at ho3 hat3
  have hv2 : (Value.slice A2 (xs.length + 1) cp2).ownBlock ≠ some Bp := by
    rcases hat3 with h | ⟨g, h, hg⟩
    · rw [h]; exact hN.out
    · rw [h]; intro hc; injection hc with hc; have := blk_lt hH1.out; omega
  exact ⟨rfl, ⟨_, blk_put hH2.out 0 _ rfl, by rw [e]; exact own_set ho3 hv2, hv2⟩, hb2.out.setCell (p := ⟨Bp, 0, none⟩) hBp _⟩
end Go.Proofs.Ytnidcoooenhebaa.PS
