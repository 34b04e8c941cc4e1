-- Out of the print of this seat's functions (print.py), by printshared.sh and mendpc.py.
import Derived.Test.YtnidcoooenhebaaPCx0
import Derived.Test.YtnidcoooenhebaaPCx2
namespace Go.Proofs.Ytnidcoooenhebaa.PC
open Go.RowKit Go.Proofs.YtnidcoooenhebaaW.PrintWords Go.Proofs.YtnidcoooenhebaaW.PrintLast Go.Proofs.YtnidcoooenhebaaW.PrintMore
attribute [local go_sem] max2_int min2_int max_two min_two max_three min_three max_four min_four   -- for this text's walks alone
set_option linter.unusedVariables false
set_option linter.unusedSimpArgs false

/-! ### pendulumref05_Why: function 23 -/
mutual
def pendulumref05_Why.j0 : Nat → Bool → Int → List (S39) → Option (Int × Int)
 | 0, _, _, _ => none
 | k + 1, x17, x140000, x140001 => if x17 = true then (some (1, (-1))) else (if (x140001.length : Int) < 1 then (pendulumref05_Why.j1 k true x140000 x140001) else (pendulumref05_Why.j1 k (decide ((x140001.length : Int) > 16)) x140000 x140001))
def pendulumref05_Why.j1 : Nat → Bool → Int → List (S39) → Option (Int × Int)
 | 0, _, _, _ => none
 | k + 1, x27, x140000, x140001 => if x27 = true then (some (2, (-1))) else (pendulumref05_Why.l0 k 0 x140000 x140001)
def pendulumref05_Why.l0 : Nat → Int → Int → List (S39) → Option (Int × Int)
 | 0, _, _, _ => none
 | k + 1, x4, x140000, x140001 => if x4 < (x140001.length : Int) then (if 0 ≤ x4 then ((pendulumref03_Named.f k ((rd_T39 x140001 x4).f0)).bind fun t142 => (if ((rd_T39 x140001 x4).f10) < 0 then (pendulumref05_Why.j3 k x4 (!t142) true x140000 x140001 ((rd_T39 x140001 x4).f0) ((rd_T39 x140001 x4).f1) ((rd_T39 x140001 x4).f2) ((rd_T39 x140001 x4).f3) ((rd_T39 x140001 x4).f4) ((rd_T39 x140001 x4).f5) ((rd_T39 x140001 x4).f6) ((rd_T39 x140001 x4).f7) ((rd_T39 x140001 x4).f8) ((rd_T39 x140001 x4).f9) ((rd_T39 x140001 x4).f10)) else (pendulumref05_Why.j3 k x4 (!t142) (decide (((rd_T39 x140001 x4).f10) > 255)) x140000 x140001 ((rd_T39 x140001 x4).f0) ((rd_T39 x140001 x4).f1) ((rd_T39 x140001 x4).f2) ((rd_T39 x140001 x4).f3) ((rd_T39 x140001 x4).f4) ((rd_T39 x140001 x4).f5) ((rd_T39 x140001 x4).f6) ((rd_T39 x140001 x4).f7) ((rd_T39 x140001 x4).f8) ((rd_T39 x140001 x4).f9) ((rd_T39 x140001 x4).f10)))) else (none)) else (some (0, (-1)))
def pendulumref05_Why.j3 : Nat → Int → Bool → Bool → Int → List (S39) → ByteArray → Int → Int → Int → Int → Int → Int → Int → Int → Int → Int → Option (Int × Int)
 | 0, _, _, _, _, _, _, _, _, _, _, _, _, _, _, _, _ => none
 | k + 1, x4, x6, x7, x140000, x140001, x142000, x142001, x142002, x142003, x142004, x142005, x142006, x142007, x142008, x142009, x142010 => pendulumref05_Why.l1 k x4 x6 x7 0 x140000 x140001 x142000 x142001 x142002 x142003 x142004 x142005 x142006 x142007 x142008 x142009 x142010
def pendulumref05_Why.l1 : Nat → Int → Bool → Bool → Int → Int → List (S39) → ByteArray → Int → Int → Int → Int → Int → Int → Int → Int → Int → Int → Option (Int × Int)
 | 0, _, _, _, _, _, _, _, _, _, _, _, _, _, _, _, _, _ => none
 | k + 1, x4, x6, x7, x8, x140000, x140001, x142000, x142001, x142002, x142003, x142004, x142005, x142006, x142007, x142008, x142009, x142010 => if x8 < x4 then (if x6 = true then (if x7 = true then (pendulumref05_Why.l1 k x4 true true (wrap64 (x8 + 1)) x140000 x140001 x142000 x142001 x142002 x142003 x142004 x142005 x142006 x142007 x142008 x142009 x142010) else (if 0 ≤ x8 then (if x8 < (x140001.length : Int) then (pendulumref05_Why.l1 k x4 true (((rd_T39 x140001 x8).f10) == x142010) (wrap64 (x8 + 1)) x140000 x140001 x142000 x142001 x142002 x142003 x142004 x142005 x142006 x142007 x142008 x142009 x142010) else (none)) else (none))) else (if 0 ≤ x8 then (if x8 < (x140001.length : Int) then (if x7 = true then (pendulumref05_Why.l1 k x4 (((rd_T39 x140001 x8).f0).toList == x142000.toList) true (wrap64 (x8 + 1)) x140000 x140001 x142000 x142001 x142002 x142003 x142004 x142005 x142006 x142007 x142008 x142009 x142010) else (pendulumref05_Why.l1 k x4 (((rd_T39 x140001 x8).f0).toList == x142000.toList) (((rd_T39 x140001 x8).f10) == x142010) (wrap64 (x8 + 1)) x140000 x140001 x142000 x142001 x142002 x142003 x142004 x142005 x142006 x142007 x142008 x142009 x142010)) else (none)) else (none))) else (if x142009 < 1 then (pendulumref05_Why.j5 k x4 x6 x7 true x140000 x140001 x142000 x142001 x142002 x142003 x142004 x142005 x142006 x142007 x142008 x142009 x142010) else (if x142009 > 3 then (pendulumref05_Why.j5 k x4 x6 x7 true x140000 x140001 x142000 x142001 x142002 x142003 x142004 x142005 x142006 x142007 x142008 x142009 x142010) else (if x142009 = 1 then (if x142005 < 1 then (pendulumref05_Why.j5 k x4 x6 x7 true x140000 x140001 x142000 x142001 x142002 x142003 x142004 x142005 x142006 x142007 x142008 x142009 x142010) else (if x142005 > x142003 then (pendulumref05_Why.j5 k x4 x6 x7 true x140000 x140001 x142000 x142001 x142002 x142003 x142004 x142005 x142006 x142007 x142008 x142009 x142010) else (if x142004 = 0 then (if x142009 > 1 then (if x142004 < 1 then (pendulumref05_Why.j5 k x4 x6 x7 true x140000 x140001 x142000 x142001 x142002 x142003 x142004 x142005 x142006 x142007 x142008 x142009 x142010) else (if x142004 > x142002 then (pendulumref05_Why.j5 k x4 x6 x7 true x140000 x140001 x142000 x142001 x142002 x142003 x142004 x142005 x142006 x142007 x142008 x142009 x142010) else (pendulumref05_Why.j5 k x4 x6 x7 (x142005 != 0) x140000 x140001 x142000 x142001 x142002 x142003 x142004 x142005 x142006 x142007 x142008 x142009 x142010))) else (pendulumref05_Why.j5 k x4 x6 x7 false x140000 x140001 x142000 x142001 x142002 x142003 x142004 x142005 x142006 x142007 x142008 x142009 x142010)) else (pendulumref05_Why.j5 k x4 x6 x7 true x140000 x140001 x142000 x142001 x142002 x142003 x142004 x142005 x142006 x142007 x142008 x142009 x142010)))) else (if x142009 > 1 then (if x142004 < 1 then (pendulumref05_Why.j5 k x4 x6 x7 true x140000 x140001 x142000 x142001 x142002 x142003 x142004 x142005 x142006 x142007 x142008 x142009 x142010) else (if x142004 > x142002 then (pendulumref05_Why.j5 k x4 x6 x7 true x140000 x140001 x142000 x142001 x142002 x142003 x142004 x142005 x142006 x142007 x142008 x142009 x142010) else (pendulumref05_Why.j5 k x4 x6 x7 (x142005 != 0) x140000 x140001 x142000 x142001 x142002 x142003 x142004 x142005 x142006 x142007 x142008 x142009 x142010))) else (pendulumref05_Why.j5 k x4 x6 x7 false x140000 x140001 x142000 x142001 x142002 x142003 x142004 x142005 x142006 x142007 x142008 x142009 x142010)))))
def pendulumref05_Why.j5 : Nat → Int → Bool → Bool → Bool → Int → List (S39) → ByteArray → Int → Int → Int → Int → Int → Int → Int → Int → Int → Int → Option (Int × Int)
 | 0, _, _, _, _, _, _, _, _, _, _, _, _, _, _, _, _, _ => none
 | k + 1, x4, x6, x7, x9, x140000, x140001, x142000, x142001, x142002, x142003, x142004, x142005, x142006, x142007, x142008, x142009, x142010 => if x6 = true then (some (3, x4)) else (if x142003 < 1 then (pendulumref05_Why.j6 k x4 x7 x9 true x140000 x140001 x142000 x142001 x142002 x142003 x142004 x142005 x142006 x142007 x142008 x142009 x142010) else (if x142003 > x142002 then (pendulumref05_Why.j6 k x4 x7 x9 true x140000 x140001 x142000 x142001 x142002 x142003 x142004 x142005 x142006 x142007 x142008 x142009 x142010) else (if x142002 > x142001 then (pendulumref05_Why.j6 k x4 x7 x9 true x140000 x140001 x142000 x142001 x142002 x142003 x142004 x142005 x142006 x142007 x142008 x142009 x142010) else (if x142001 > 1048576 then (pendulumref05_Why.j6 k x4 x7 x9 true x140000 x140001 x142000 x142001 x142002 x142003 x142004 x142005 x142006 x142007 x142008 x142009 x142010) else (if x142006 < 0 then (pendulumref05_Why.j6 k x4 x7 x9 true x140000 x140001 x142000 x142001 x142002 x142003 x142004 x142005 x142006 x142007 x142008 x142009 x142010) else (pendulumref05_Why.j6 k x4 x7 x9 (decide (x142006 > 1000)) x140000 x140001 x142000 x142001 x142002 x142003 x142004 x142005 x142006 x142007 x142008 x142009 x142010))))))
def pendulumref05_Why.j6 : Nat → Int → Bool → Bool → Bool → Int → List (S39) → ByteArray → Int → Int → Int → Int → Int → Int → Int → Int → Int → Int → Option (Int × Int)
 | 0, _, _, _, _, _, _, _, _, _, _, _, _, _, _, _, _, _ => none
 | k + 1, x4, x7, x9, x166, x140000, x140001, x142000, x142001, x142002, x142003, x142004, x142005, x142006, x142007, x142008, x142009, x142010 => if x166 = true then (some (4, x4)) else (if x9 = true then (some (5, x4)) else (if x142007 < 1 then (pendulumref05_Why.j7 k x4 x7 true x140000 x140001) else (if x142007 > x142008 then (pendulumref05_Why.j7 k x4 x7 true x140000 x140001) else (pendulumref05_Why.j7 k x4 x7 (decide (x142008 > 64)) x140000 x140001))))
def pendulumref05_Why.j7 : Nat → Int → Bool → Bool → Int → List (S39) → Option (Int × Int)
 | 0, _, _, _, _, _ => none
 | k + 1, x4, x7, x184, x140000, x140001 => if x184 = true then (some (6, x4)) else (if x7 = true then (some (7, x4)) else (pendulumref05_Why.l0 k (wrap64 (x4 + 1)) x140000 x140001))
end
def pendulumref05_Why.f (k : Nat) (a0_0 : Int) (l0_1 : List (S39)) : Option (Int × Int) := if a0_0 < 1 then (pendulumref05_Why.j0 k true a0_0 l0_1) else (pendulumref05_Why.j0 k (decide (a0_0 > 1000)) a0_0 l0_1)
theorem pendulumref05_Why.mono_l : ∀ k, (∀ y0 y1 y2, LeO (pendulumref05_Why.j0 k y0 y1 y2) (pendulumref05_Why.j0 (k + 1) y0 y1 y2)) ∧ (∀ y0 y1 y2, LeO (pendulumref05_Why.j1 k y0 y1 y2) (pendulumref05_Why.j1 (k + 1) y0 y1 y2)) ∧ (∀ y0 y1 y2, LeO (pendulumref05_Why.l0 k y0 y1 y2) (pendulumref05_Why.l0 (k + 1) y0 y1 y2)) ∧ (∀ y0 y1 y2 y3 y4 y5 y6 y7 y8 y9 y10 y11 y12 y13 y14 y15, LeO (pendulumref05_Why.j3 k y0 y1 y2 y3 y4 y5 y6 y7 y8 y9 y10 y11 y12 y13 y14 y15) (pendulumref05_Why.j3 (k + 1) y0 y1 y2 y3 y4 y5 y6 y7 y8 y9 y10 y11 y12 y13 y14 y15)) ∧ (∀ y0 y1 y2 y3 y4 y5 y6 y7 y8 y9 y10 y11 y12 y13 y14 y15 y16, LeO (pendulumref05_Why.l1 k y0 y1 y2 y3 y4 y5 y6 y7 y8 y9 y10 y11 y12 y13 y14 y15 y16) (pendulumref05_Why.l1 (k + 1) y0 y1 y2 y3 y4 y5 y6 y7 y8 y9 y10 y11 y12 y13 y14 y15 y16)) ∧ (∀ y0 y1 y2 y3 y4 y5 y6 y7 y8 y9 y10 y11 y12 y13 y14 y15 y16, LeO (pendulumref05_Why.j5 k y0 y1 y2 y3 y4 y5 y6 y7 y8 y9 y10 y11 y12 y13 y14 y15 y16) (pendulumref05_Why.j5 (k + 1) y0 y1 y2 y3 y4 y5 y6 y7 y8 y9 y10 y11 y12 y13 y14 y15 y16)) ∧ (∀ y0 y1 y2 y3 y4 y5 y6 y7 y8 y9 y10 y11 y12 y13 y14 y15 y16, LeO (pendulumref05_Why.j6 k y0 y1 y2 y3 y4 y5 y6 y7 y8 y9 y10 y11 y12 y13 y14 y15 y16) (pendulumref05_Why.j6 (k + 1) y0 y1 y2 y3 y4 y5 y6 y7 y8 y9 y10 y11 y12 y13 y14 y15 y16)) ∧ (∀ y0 y1 y2 y3 y4, LeO (pendulumref05_Why.j7 k y0 y1 y2 y3 y4) (pendulumref05_Why.j7 (k + 1) y0 y1 y2 y3 y4))
 | 0 => ⟨fun _ _ _ r h => by simp [pendulumref05_Why.j0] at h, fun _ _ _ r h => by simp [pendulumref05_Why.j1] at h, fun _ _ _ r h => by simp [pendulumref05_Why.l0] at h, fun _ _ _ _ _ _ _ _ _ _ _ _ _ _ _ _ r h => by simp [pendulumref05_Why.j3] at h, fun _ _ _ _ _ _ _ _ _ _ _ _ _ _ _ _ _ r h => by simp [pendulumref05_Why.l1] at h, fun _ _ _ _ _ _ _ _ _ _ _ _ _ _ _ _ _ r h => by simp [pendulumref05_Why.j5] at h, fun _ _ _ _ _ _ _ _ _ _ _ _ _ _ _ _ _ r h => by simp [pendulumref05_Why.j6] at h, fun _ _ _ _ _ r h => by simp [pendulumref05_Why.j7] at h⟩
 | k + 1 => by
  obtain ⟨ih0, ih1, ih2, ih3, ih4, ih5, ih6, ih7⟩ := pendulumref05_Why.mono_l k
  refine ⟨?_, ?_, ?_, ?_, ?_, ?_, ?_, ?_⟩
  ·intro y0 y1 y2
   unfold pendulumref05_Why.j0
   repeat' first
   | (with_reducible exact ih0 _ _ _)
   | (with_reducible exact ih1 _ _ _)
   | (with_reducible exact ih2 _ _ _)
   | (with_reducible exact ih3 _ _ _ _ _ _ _ _ _ _ _ _ _ _ _ _)
   | (with_reducible exact ih4 _ _ _ _ _ _ _ _ _ _ _ _ _ _ _ _ _)
   | (with_reducible exact ih5 _ _ _ _ _ _ _ _ _ _ _ _ _ _ _ _ _)
   | (with_reducible exact ih6 _ _ _ _ _ _ _ _ _ _ _ _ _ _ _ _ _)
   | (with_reducible exact ih7 _ _ _ _ _)
   | (with_reducible exact pendulumref03_Named.mono _ _)
   | (with_reducible exact LeO.refl _)
   | (with_reducible exact LeO.none _)
   | (with_reducible refine LeO.ite ?_ ?_)
   | (with_reducible refine LeO.bind ?_ (fun _ => ?_))
   | exact ih0 _ _ _
   | exact ih1 _ _ _
   | exact ih2 _ _ _
   | exact ih3 _ _ _ _ _ _ _ _ _ _ _ _ _ _ _ _
   | exact ih4 _ _ _ _ _ _ _ _ _ _ _ _ _ _ _ _ _
   | exact ih5 _ _ _ _ _ _ _ _ _ _ _ _ _ _ _ _ _
   | exact ih6 _ _ _ _ _ _ _ _ _ _ _ _ _ _ _ _ _
   | exact ih7 _ _ _ _ _
   | exact pendulumref03_Named.mono _ _
   | exact LeO.none _
   | refine LeO.ite ?_ ?_
   | refine LeO.bind ?_ (fun _ => ?_)
  ·intro y0 y1 y2
   unfold pendulumref05_Why.j1
   repeat' first
   | (with_reducible exact ih0 _ _ _)
   | (with_reducible exact ih1 _ _ _)
   | (with_reducible exact ih2 _ _ _)
   | (with_reducible exact ih3 _ _ _ _ _ _ _ _ _ _ _ _ _ _ _ _)
   | (with_reducible exact ih4 _ _ _ _ _ _ _ _ _ _ _ _ _ _ _ _ _)
   | (with_reducible exact ih5 _ _ _ _ _ _ _ _ _ _ _ _ _ _ _ _ _)
   | (with_reducible exact ih6 _ _ _ _ _ _ _ _ _ _ _ _ _ _ _ _ _)
   | (with_reducible exact ih7 _ _ _ _ _)
   | (with_reducible exact pendulumref03_Named.mono _ _)
   | (with_reducible exact LeO.refl _)
   | (with_reducible exact LeO.none _)
   | (with_reducible refine LeO.ite ?_ ?_)
   | (with_reducible refine LeO.bind ?_ (fun _ => ?_))
   | exact ih0 _ _ _
   | exact ih1 _ _ _
   | exact ih2 _ _ _
   | exact ih3 _ _ _ _ _ _ _ _ _ _ _ _ _ _ _ _
   | exact ih4 _ _ _ _ _ _ _ _ _ _ _ _ _ _ _ _ _
   | exact ih5 _ _ _ _ _ _ _ _ _ _ _ _ _ _ _ _ _
   | exact ih6 _ _ _ _ _ _ _ _ _ _ _ _ _ _ _ _ _
   | exact ih7 _ _ _ _ _
   | exact pendulumref03_Named.mono _ _
   | exact LeO.none _
   | refine LeO.ite ?_ ?_
   | refine LeO.bind ?_ (fun _ => ?_)
  ·intro y0 y1 y2
   unfold pendulumref05_Why.l0
   repeat' first
   | (with_reducible exact ih0 _ _ _)
   | (with_reducible exact ih1 _ _ _)
   | (with_reducible exact ih2 _ _ _)
   | (with_reducible exact ih3 _ _ _ _ _ _ _ _ _ _ _ _ _ _ _ _)
   | (with_reducible exact ih4 _ _ _ _ _ _ _ _ _ _ _ _ _ _ _ _ _)
   | (with_reducible exact ih5 _ _ _ _ _ _ _ _ _ _ _ _ _ _ _ _ _)
   | (with_reducible exact ih6 _ _ _ _ _ _ _ _ _ _ _ _ _ _ _ _ _)
   | (with_reducible exact ih7 _ _ _ _ _)
   | (with_reducible exact pendulumref03_Named.mono _ _)
   | (with_reducible exact LeO.refl _)
   | (with_reducible exact LeO.none _)
   | (with_reducible refine LeO.ite ?_ ?_)
   | (with_reducible refine LeO.bind ?_ (fun _ => ?_))
   | exact ih0 _ _ _
   | exact ih1 _ _ _
   | exact ih2 _ _ _
   | exact ih3 _ _ _ _ _ _ _ _ _ _ _ _ _ _ _ _
   | exact ih4 _ _ _ _ _ _ _ _ _ _ _ _ _ _ _ _ _
   | exact ih5 _ _ _ _ _ _ _ _ _ _ _ _ _ _ _ _ _
   | exact ih6 _ _ _ _ _ _ _ _ _ _ _ _ _ _ _ _ _
   | exact ih7 _ _ _ _ _
   | exact pendulumref03_Named.mono _ _
   | exact LeO.none _
   | refine LeO.ite ?_ ?_
   | refine LeO.bind ?_ (fun _ => ?_)
  ·intro y0 y1 y2 y3 y4 y5 y6 y7 y8 y9 y10 y11 y12 y13 y14 y15
   unfold pendulumref05_Why.j3
   repeat' first
   | (with_reducible exact ih0 _ _ _)
   | (with_reducible exact ih1 _ _ _)
   | (with_reducible exact ih2 _ _ _)
   | (with_reducible exact ih3 _ _ _ _ _ _ _ _ _ _ _ _ _ _ _ _)
   | (with_reducible exact ih4 _ _ _ _ _ _ _ _ _ _ _ _ _ _ _ _ _)
   | (with_reducible exact ih5 _ _ _ _ _ _ _ _ _ _ _ _ _ _ _ _ _)
   | (with_reducible exact ih6 _ _ _ _ _ _ _ _ _ _ _ _ _ _ _ _ _)
   | (with_reducible exact ih7 _ _ _ _ _)
   | (with_reducible exact pendulumref03_Named.mono _ _)
   | (with_reducible exact LeO.refl _)
   | (with_reducible exact LeO.none _)
   | (with_reducible refine LeO.ite ?_ ?_)
   | (with_reducible refine LeO.bind ?_ (fun _ => ?_))
   | exact ih0 _ _ _
   | exact ih1 _ _ _
   | exact ih2 _ _ _
   | exact ih3 _ _ _ _ _ _ _ _ _ _ _ _ _ _ _ _
   | exact ih4 _ _ _ _ _ _ _ _ _ _ _ _ _ _ _ _ _
   | exact ih5 _ _ _ _ _ _ _ _ _ _ _ _ _ _ _ _ _
   | exact ih6 _ _ _ _ _ _ _ _ _ _ _ _ _ _ _ _ _
   | exact ih7 _ _ _ _ _
   | exact pendulumref03_Named.mono _ _
   | exact LeO.none _
   | refine LeO.ite ?_ ?_
   | refine LeO.bind ?_ (fun _ => ?_)
  ·intro y0 y1 y2 y3 y4 y5 y6 y7 y8 y9 y10 y11 y12 y13 y14 y15 y16
   unfold pendulumref05_Why.l1
   repeat' first
   | (with_reducible exact ih0 _ _ _)
   | (with_reducible exact ih1 _ _ _)
   | (with_reducible exact ih2 _ _ _)
   | (with_reducible exact ih3 _ _ _ _ _ _ _ _ _ _ _ _ _ _ _ _)
   | (with_reducible exact ih4 _ _ _ _ _ _ _ _ _ _ _ _ _ _ _ _ _)
   | (with_reducible exact ih5 _ _ _ _ _ _ _ _ _ _ _ _ _ _ _ _ _)
   | (with_reducible exact ih6 _ _ _ _ _ _ _ _ _ _ _ _ _ _ _ _ _)
   | (with_reducible exact ih7 _ _ _ _ _)
   | (with_reducible exact pendulumref03_Named.mono _ _)
   | (with_reducible exact LeO.refl _)
   | (with_reducible exact LeO.none _)
   | (with_reducible refine LeO.ite ?_ ?_)
   | (with_reducible refine LeO.bind ?_ (fun _ => ?_))
   | exact ih0 _ _ _
   | exact ih1 _ _ _
   | exact ih2 _ _ _
   | exact ih3 _ _ _ _ _ _ _ _ _ _ _ _ _ _ _ _
   | exact ih4 _ _ _ _ _ _ _ _ _ _ _ _ _ _ _ _ _
   | exact ih5 _ _ _ _ _ _ _ _ _ _ _ _ _ _ _ _ _
   | exact ih6 _ _ _ _ _ _ _ _ _ _ _ _ _ _ _ _ _
   | exact ih7 _ _ _ _ _
   | exact pendulumref03_Named.mono _ _
   | exact LeO.none _
   | refine LeO.ite ?_ ?_
   | refine LeO.bind ?_ (fun _ => ?_)
  ·intro y0 y1 y2 y3 y4 y5 y6 y7 y8 y9 y10 y11 y12 y13 y14 y15 y16
   unfold pendulumref05_Why.j5
   repeat' first
   | (with_reducible exact ih0 _ _ _)
   | (with_reducible exact ih1 _ _ _)
   | (with_reducible exact ih2 _ _ _)
   | (with_reducible exact ih3 _ _ _ _ _ _ _ _ _ _ _ _ _ _ _ _)
   | (with_reducible exact ih4 _ _ _ _ _ _ _ _ _ _ _ _ _ _ _ _ _)
   | (with_reducible exact ih5 _ _ _ _ _ _ _ _ _ _ _ _ _ _ _ _ _)
   | (with_reducible exact ih6 _ _ _ _ _ _ _ _ _ _ _ _ _ _ _ _ _)
   | (with_reducible exact ih7 _ _ _ _ _)
   | (with_reducible exact pendulumref03_Named.mono _ _)
   | (with_reducible exact LeO.refl _)
   | (with_reducible exact LeO.none _)
   | (with_reducible refine LeO.ite ?_ ?_)
   | (with_reducible refine LeO.bind ?_ (fun _ => ?_))
   | exact ih0 _ _ _
   | exact ih1 _ _ _
   | exact ih2 _ _ _
   | exact ih3 _ _ _ _ _ _ _ _ _ _ _ _ _ _ _ _
   | exact ih4 _ _ _ _ _ _ _ _ _ _ _ _ _ _ _ _ _
   | exact ih5 _ _ _ _ _ _ _ _ _ _ _ _ _ _ _ _ _
   | exact ih6 _ _ _ _ _ _ _ _ _ _ _ _ _ _ _ _ _
   | exact ih7 _ _ _ _ _
   | exact pendulumref03_Named.mono _ _
   | exact LeO.none _
   | refine LeO.ite ?_ ?_
   | refine LeO.bind ?_ (fun _ => ?_)
  ·intro y0 y1 y2 y3 y4 y5 y6 y7 y8 y9 y10 y11 y12 y13 y14 y15 y16
   unfold pendulumref05_Why.j6
   repeat' first
   | (with_reducible exact ih0 _ _ _)
   | (with_reducible exact ih1 _ _ _)
   | (with_reducible exact ih2 _ _ _)
   | (with_reducible exact ih3 _ _ _ _ _ _ _ _ _ _ _ _ _ _ _ _)
   | (with_reducible exact ih4 _ _ _ _ _ _ _ _ _ _ _ _ _ _ _ _ _)
   | (with_reducible exact ih5 _ _ _ _ _ _ _ _ _ _ _ _ _ _ _ _ _)
   | (with_reducible exact ih6 _ _ _ _ _ _ _ _ _ _ _ _ _ _ _ _ _)
   | (with_reducible exact ih7 _ _ _ _ _)
   | (with_reducible exact pendulumref03_Named.mono _ _)
   | (with_reducible exact LeO.refl _)
   | (with_reducible exact LeO.none _)
   | (with_reducible refine LeO.ite ?_ ?_)
   | (with_reducible refine LeO.bind ?_ (fun _ => ?_))
   | exact ih0 _ _ _
   | exact ih1 _ _ _
   | exact ih2 _ _ _
   | exact ih3 _ _ _ _ _ _ _ _ _ _ _ _ _ _ _ _
   | exact ih4 _ _ _ _ _ _ _ _ _ _ _ _ _ _ _ _ _
   | exact ih5 _ _ _ _ _ _ _ _ _ _ _ _ _ _ _ _ _
   | exact ih6 _ _ _ _ _ _ _ _ _ _ _ _ _ _ _ _ _
   | exact ih7 _ _ _ _ _
   | exact pendulumref03_Named.mono _ _
   | exact LeO.none _
   | refine LeO.ite ?_ ?_
   | refine LeO.bind ?_ (fun _ => ?_)
  ·intro y0 y1 y2 y3 y4
   unfold pendulumref05_Why.j7
   repeat' first
   | (with_reducible exact ih0 _ _ _)
   | (with_reducible exact ih1 _ _ _)
   | (with_reducible exact ih2 _ _ _)
   | (with_reducible exact ih3 _ _ _ _ _ _ _ _ _ _ _ _ _ _ _ _)
   | (with_reducible exact ih4 _ _ _ _ _ _ _ _ _ _ _ _ _ _ _ _ _)
   | (with_reducible exact ih5 _ _ _ _ _ _ _ _ _ _ _ _ _ _ _ _ _)
   | (with_reducible exact ih6 _ _ _ _ _ _ _ _ _ _ _ _ _ _ _ _ _)
   | (with_reducible exact ih7 _ _ _ _ _)
   | (with_reducible exact pendulumref03_Named.mono _ _)
   | (with_reducible exact LeO.refl _)
   | (with_reducible exact LeO.none _)
   | (with_reducible refine LeO.ite ?_ ?_)
   | (with_reducible refine LeO.bind ?_ (fun _ => ?_))
   | exact ih0 _ _ _
   | exact ih1 _ _ _
   | exact ih2 _ _ _
   | exact ih3 _ _ _ _ _ _ _ _ _ _ _ _ _ _ _ _
   | exact ih4 _ _ _ _ _ _ _ _ _ _ _ _ _ _ _ _ _
   | exact ih5 _ _ _ _ _ _ _ _ _ _ _ _ _ _ _ _ _
   | exact ih6 _ _ _ _ _ _ _ _ _ _ _ _ _ _ _ _ _
   | exact ih7 _ _ _ _ _
   | exact pendulumref03_Named.mono _ _
   | exact LeO.none _
   | refine LeO.ite ?_ ?_
   | refine LeO.bind ?_ (fun _ => ?_)
theorem pendulumref05_Why.mono : ∀ a0 a1 k, LeO (pendulumref05_Why.f k a0 a1) (pendulumref05_Why.f (k + 1) a0 a1) := by
 intro a0 a1 k
 obtain ⟨ih0, ih1, ih2, ih3, ih4, ih5, ih6, ih7⟩ := pendulumref05_Why.mono_l k
 unfold pendulumref05_Why.f
 repeat' first
   | (with_reducible exact ih0 _ _ _)
   | (with_reducible exact ih1 _ _ _)
   | (with_reducible exact ih2 _ _ _)
   | (with_reducible exact ih3 _ _ _ _ _ _ _ _ _ _ _ _ _ _ _ _)
   | (with_reducible exact ih4 _ _ _ _ _ _ _ _ _ _ _ _ _ _ _ _ _)
   | (with_reducible exact ih5 _ _ _ _ _ _ _ _ _ _ _ _ _ _ _ _ _)
   | (with_reducible exact ih6 _ _ _ _ _ _ _ _ _ _ _ _ _ _ _ _ _)
   | (with_reducible exact ih7 _ _ _ _ _)
   | (with_reducible exact pendulumref03_Named.mono _ _)
   | (with_reducible exact LeO.refl _)
   | (with_reducible exact LeO.none _)
   | (with_reducible refine LeO.ite ?_ ?_)
   | (with_reducible refine LeO.bind ?_ (fun _ => ?_))
   | exact ih0 _ _ _
   | exact ih1 _ _ _
   | exact ih2 _ _ _
   | exact ih3 _ _ _ _ _ _ _ _ _ _ _ _ _ _ _ _
   | exact ih4 _ _ _ _ _ _ _ _ _ _ _ _ _ _ _ _ _
   | exact ih5 _ _ _ _ _ _ _ _ _ _ _ _ _ _ _ _ _
   | exact ih6 _ _ _ _ _ _ _ _ _ _ _ _ _ _ _ _ _
   | exact ih7 _ _ _ _ _
   | exact pendulumref03_Named.mono _ _
   | exact LeO.none _
   | refine LeO.ite ?_ ?_
   | refine LeO.bind ?_ (fun _ => ?_)
set_option maxHeartbeats 80000000 in
set_option maxRecDepth 100000 in
theorem pendulumref05_Why.calls (k : Nat) (a0_0 : Int) (A0_1 : Option Addr) (c0_1 : Nat) (l0_1 : List (S39)) (r1 : Int) (r2 : Int) (w : World) (hr0_1 : Kd.C k39 w A0_1 l0_1.length l0_1) (hc0_1 : l0_1.length ≤ c0_1) (h : pendulumref05_Why.f k a0_0 l0_1 = some (r1, r2)) :
  Calls Try.prog 23 #[.agg #[.int .i64 a0_0, .slice A0_1 l0_1.length c0_1]] w fun e w' => e = .returned (.tuple #[.int .i64 r1, .int .i64 r2]) ∧ Below w.heap.size w w' := by
 have hu24 := Try.underlying24
 have hu39 := Try.underlying39
 have HR0_1 := Aside0.mk hr0_1
 have HC0_1 := Aside0.mk hc0_1
 clear hr0_1 hc0_1
 have HB := Aside0.mk (Below.refl w.heap.size w)
 have H : (if a0_0 < 1 then (pendulumref05_Why.j0 k true a0_0 l0_1) else (pendulumref05_Why.j0 k (decide (a0_0 > 1000)) a0_0 l0_1)) = some (r1, r2) := h
 clear h
 have HC2 := Aside0.mk H
 clear H
 go_enter Try.func23, Try.ntmps23
 go_upto_region 1 with (first | ((with_reducible refine gate_dst (N := 1) rfl ?_); (try (refine gate_guard (by rfl) ?_; dsimp only)); refine box_event ?hg (N := 1) ?hd (cs := #[.int .i64 a0_0, .slice A0_1 l0_1.length c0_1]) (t := 24) ?hr ?_; (case hd => rfl); (case hg => rfl); (case hr => first | (go_simp; done) | (go_simp; rfl)); intro gb139 hg w3 hbox hb; have n0_ := Aside0.mk (below_step (by repeat (first | (with_reducible first | exact HB.out | apply below_alloc | apply pw_below_drewN | apply below_drew1) | exact HB.out)) hb); have n1_ := Aside0.mk (hbox); have n2_ := Aside0.mk ((by rw [hg]; exact (below_size (by repeat (first | (with_reducible first | exact HB.out | apply below_alloc | apply pw_below_drewN | apply below_drew1) | exact HB.out))) : w.heap.size ≤ gb139)); have n3_ := Aside0.mk ((by rw [hg]; exact (below_size (by repeat (first | (with_reducible first | exact HB.out | apply below_alloc | apply pw_below_drewN | apply below_drew1) | exact HB.out))) : w.heap.size ≤ gb139)); clear HB; have HB := n0_; have BK139 := n1_; have GW139 := n2_; have GE139 := n3_; clear n0_ n1_ n2_ n3_; clear hb hbox hg))
 repeat (go_quiet (first | ((with_reducible refine gate_dst (N := 1) rfl ?_); (try (refine gate_guard (by rfl) ?_; dsimp only)); refine box_event ?hg (N := 1) ?hd (cs := #[.int .i64 a0_0, .slice A0_1 l0_1.length c0_1]) (t := 24) ?hr ?_; (case hd => rfl); (case hg => rfl); (case hr => first | (go_simp; done) | (go_simp; rfl)); intro gb139 hg w3 hbox hb; have n0_ := Aside0.mk (below_step (by repeat (first | (with_reducible first | exact HB.out | apply below_alloc | apply pw_below_drewN | apply below_drew1) | exact HB.out)) hb); have n1_ := Aside0.mk (hbox); have n2_ := Aside0.mk ((by rw [hg]; exact (below_size (by repeat (first | (with_reducible first | exact HB.out | apply below_alloc | apply pw_below_drewN | apply below_drew1) | exact HB.out))) : w.heap.size ≤ gb139)); have n3_ := Aside0.mk ((by rw [hg]; exact (below_size (by repeat (first | (with_reducible first | exact HB.out | apply below_alloc | apply pw_below_drewN | apply below_drew1) | exact HB.out))) : w.heap.size ≤ gb139)); clear HB; have HB := n0_; have BK139 := n1_; have GW139 := n2_; have GE139 := n3_; clear n0_ n1_ n2_ n3_; clear hb hbox hg)); go_upto_region 1 with (first | ((with_reducible refine gate_dst (N := 1) rfl ?_); (try (refine gate_guard (by rfl) ?_; dsimp only)); refine box_event ?hg (N := 1) ?hd (cs := #[.int .i64 a0_0, .slice A0_1 l0_1.length c0_1]) (t := 24) ?hr ?_; (case hd => rfl); (case hg => rfl); (case hr => first | (go_simp; done) | (go_simp; rfl)); intro gb139 hg w3 hbox hb; have n0_ := Aside0.mk (below_step (by repeat (first | (with_reducible first | exact HB.out | apply below_alloc | apply pw_below_drewN | apply below_drew1) | exact HB.out)) hb); have n1_ := Aside0.mk (hbox); have n2_ := Aside0.mk ((by rw [hg]; exact (below_size (by repeat (first | (with_reducible first | exact HB.out | apply below_alloc | apply pw_below_drewN | apply below_drew1) | exact HB.out))) : w.heap.size ≤ gb139)); have n3_ := Aside0.mk ((by rw [hg]; exact (below_size (by repeat (first | (with_reducible first | exact HB.out | apply below_alloc | apply pw_below_drewN | apply below_drew1) | exact HB.out))) : w.heap.size ≤ gb139)); clear HB; have HB := n0_; have BK139 := n1_; have GW139 := n2_; have GE139 := n3_; clear n0_ n1_ n2_ n3_; clear hb hbox hg)))
 (try simp only [Act.put, List.setIfInBounds_toArray, List.set_cons_zero, List.set_cons_succ])
 go_cut [17] (fun v17 wc => ∃ (kq : Nat) (x17_1 : Bool), v17 = .bool x17_1 ∧ Aside0 (pendulumref05_Why.j0 kq x17_1 a0_0 l0_1 = some (r1, r2)) ∧ Aside0 (kq ≤ k) ∧ Aside0 (wc.heap[gb139]? = some (.cells #[.int .i64 a0_0, (.slice A0_1 l0_1.length c0_1)] 24 (0, 0))) ∧ Aside0 (Below w.heap.size w wc))
 case first =>
  have H := HC2.out
  clear HC2
  by_cases c4 : a0_0 < 1
  ·rw [if_pos c4] at H
   have c4b0 : decide (a0_0 < 1) = true := decide_eq_true c4
   clear c4
   (first | rw [c4b0] | (simp only [i64_w, i32_w]; rw [c4b0]) | skip)
   have H' := Aside0.mk H
   clear H
   have hcz5_0 : w3.cell? ⟨gb139, 0, none⟩ = some (.int .i64 a0_0) := (blk_cell BK139.out 0).trans rfl
   have hcz5_1 : w3.cell? ⟨gb139, 1, none⟩ = some (.slice A0_1 l0_1.length c0_1) := (blk_cell BK139.out 1).trans rfl
   have hfz5_0 := blk_frozen BK139.out 0
   have hfz5_1 := blk_frozen BK139.out 1
   go_wp2
   repeat (go_quiet (fail); try go_wp2)
   go_meet
   case rel => exact ⟨_, (true), (by first | rfl | (simp; done) | (simp [*]; done)), H', ⟨by first | omega | exact Nat.le_refl _⟩, ⟨by (with_reducible repeat (first | refine blk_drewN ?_ _ | refine blk_drew ?_ | refine blk_alloc ?_ _)); exact BK139.out⟩, ⟨by repeat (first | (with_reducible first | exact HB.out | apply below_alloc | apply pw_below_drewN | apply below_drew1 | refine below_set ?_ GE139.out) | exact HB.out)⟩⟩
  ·rw [if_neg c4] at H
   have c4b0 : decide (a0_0 < 1) = false := decide_eq_false c4
   clear c4
   (first | rw [c4b0] | (simp only [i64_w, i32_w]; rw [c4b0]) | skip)
   have H' := Aside0.mk H
   clear H
   have hcz6_0 : w3.cell? ⟨gb139, 0, none⟩ = some (.int .i64 a0_0) := (blk_cell BK139.out 0).trans rfl
   have hcz6_1 : w3.cell? ⟨gb139, 1, none⟩ = some (.slice A0_1 l0_1.length c0_1) := (blk_cell BK139.out 1).trans rfl
   have hfz6_0 := blk_frozen BK139.out 0
   have hfz6_1 := blk_frozen BK139.out 1
   go_wp2
   repeat (go_quiet (fail); try go_wp2)
   go_meet
   case rel => exact ⟨_, (decide (a0_0 > 1000)), (by first | rfl | (simp; done) | (simp [*]; done)), H', ⟨by first | omega | exact Nat.le_refl _⟩, ⟨by (with_reducible repeat (first | refine blk_drewN ?_ _ | refine blk_drew ?_ | refine blk_alloc ?_ _)); exact BK139.out⟩, ⟨by repeat (first | (with_reducible first | exact HB.out | apply below_alloc | apply pw_below_drewN | apply below_drew1 | refine below_set ?_ GE139.out) | exact HB.out)⟩⟩
 case rest =>
  clear HC2
  try clear c2
  try clear p2
  try clear c4
  try clear c4b0
  try clear hcz5_0
  try clear hcz5_1
  try clear hcz6_0
  try clear hcz6_1
  try clear hfz5_0
  try clear hfz5_1
  try clear hfz6_0
  try clear hfz6_1
  obtain ⟨kq, x17_1, rfl, HA, HJ1, BK139, HB⟩ := hcut
  cases kq with
  | zero => exact absurd HA.out (by simp [pendulumref05_Why.j0])
  | succ kj1 =>
   have H := HA.out
   clear HA
   simp only [pendulumref05_Why.j0] at H
   by_cases c7 : x17_1 = true
   ·subst c7
    have H1 : (some (1, (-1))) = some (r1, r2) := by rw [if_pos rfl] at H; exact H
    clear H
    have H := H1
    clear H1
    simp only [Option.some.injEq, Prod.mk.injEq] at H
    obtain ⟨rfl, rfl⟩ := H
    go_wp2
    repeat (go_quiet (fail); try go_wp2)
    go_ret2
    exact ⟨by first | rfl | (simp [errW_none, errW_some] <;> rfl) | (simp [*, errW_none, errW_some] <;> rfl), by repeat (first | (with_reducible first | exact HB.out | apply below_alloc | apply pw_below_drewN | apply below_drew1 | refine below_set ?_ GE139.out) | exact HB.out)⟩
   ·replace c7 := Bool.eq_false_iff.mpr c7
    subst c7
    have H1 : (if (l0_1.length : Int) < 1 then (pendulumref05_Why.j1 kj1 true a0_0 l0_1) else (pendulumref05_Why.j1 kj1 (decide ((l0_1.length : Int) > 16)) a0_0 l0_1)) = some (r1, r2) := by rw [if_neg (show ¬ (false = true) by decide)] at H; exact H
    clear H
    have H := H1
    clear H1
    have HC8 := Aside0.mk H
    clear H
    go_upto_region 3 with (fail)
    repeat (go_quiet (fail); go_upto_region 3 with (fail))
    go_cut [27] (fun v27 wc => ∃ (kq : Nat) (x27_7 : Bool), v27 = .bool x27_7 ∧ Aside0 (pendulumref05_Why.j1 kq x27_7 a0_0 l0_1 = some (r1, r2)) ∧ Aside0 (kq ≤ kj1) ∧ Aside0 (wc.heap[gb139]? = some (.cells #[.int .i64 a0_0, (.slice A0_1 l0_1.length c0_1)] 24 (0, 0))) ∧ Aside0 (Below w.heap.size w wc))
    case first =>
     have H := HC8.out
     clear HC8
     by_cases c9 : (l0_1.length : Int) < 1
     ·rw [if_pos c9] at H
      have c9b0 : decide ((l0_1.length : Int) < 1) = true := decide_eq_true c9
      have c9b1 : decide (l0_1.length < 1) = true := decide_eq_true (by omega)
      clear c9
      (first | rw [c9b0] | (simp only [i64_w, i32_w]; rw [c9b0]) | skip)
      have H' := Aside0.mk H
      clear H
      have hcz10_0 : wc.cell? ⟨gb139, 0, none⟩ = some (.int .i64 a0_0) := (blk_cell BK139.out 0).trans rfl
      have hcz10_1 : wc.cell? ⟨gb139, 1, none⟩ = some (.slice A0_1 l0_1.length c0_1) := (blk_cell BK139.out 1).trans rfl
      have hfz10_0 := blk_frozen BK139.out 0
      have hfz10_1 := blk_frozen BK139.out 1
      go_wp2
      repeat (go_quiet (fail); try go_wp2)
      go_meet
      case rel => exact ⟨_, (true), (by first | rfl | (simp; done) | (simp [*]; done)), H', ⟨by have := HJ1.out; first | omega | exact Nat.le_refl _⟩, ⟨by (with_reducible repeat (first | refine blk_drewN ?_ _ | refine blk_drew ?_ | refine blk_alloc ?_ _)); exact BK139.out⟩, ⟨by repeat (first | (with_reducible first | exact HB.out | apply below_alloc | apply pw_below_drewN | apply below_drew1 | refine below_set ?_ GE139.out) | exact HB.out)⟩⟩
     ·rw [if_neg c9] at H
      have c9b0 : decide ((l0_1.length : Int) < 1) = false := decide_eq_false c9
      have c9b1 : decide (l0_1.length < 1) = false := decide_eq_false (by omega)
      clear c9
      (first | rw [c9b0] | (simp only [i64_w, i32_w]; rw [c9b0]) | skip)
      have H' := Aside0.mk H
      clear H
      have hcz11_0 : wc.cell? ⟨gb139, 0, none⟩ = some (.int .i64 a0_0) := (blk_cell BK139.out 0).trans rfl
      have hcz11_1 : wc.cell? ⟨gb139, 1, none⟩ = some (.slice A0_1 l0_1.length c0_1) := (blk_cell BK139.out 1).trans rfl
      have hfz11_0 := blk_frozen BK139.out 0
      have hfz11_1 := blk_frozen BK139.out 1
      go_wp2
      repeat (go_quiet (fail); try go_wp2)
      go_meet
      case rel => exact ⟨_, (decide ((l0_1.length : Int) > 16)), (by first | rfl | (simp; done) | (simp [*]; done)), H', ⟨by have := HJ1.out; first | omega | exact Nat.le_refl _⟩, ⟨by (with_reducible repeat (first | refine blk_drewN ?_ _ | refine blk_drew ?_ | refine blk_alloc ?_ _)); exact BK139.out⟩, ⟨by repeat (first | (with_reducible first | exact HB.out | apply below_alloc | apply pw_below_drewN | apply below_drew1 | refine below_set ?_ GE139.out) | exact HB.out)⟩⟩
    case rest =>
     clear HC8
     try clear c2
     try clear p2
     try clear c4
     try clear c4b0
     try clear c7
     try clear c9
     try clear c9b0
     try clear c9b1
     try clear hcz10_0
     try clear hcz10_1
     try clear hcz11_0
     try clear hcz11_1
     try clear hcz5_0
     try clear hcz5_1
     try clear hcz6_0
     try clear hcz6_1
     try clear hfz10_0
     try clear hfz10_1
     try clear hfz11_0
     try clear hfz11_1
     try clear hfz5_0
     try clear hfz5_1
     try clear hfz6_0
     try clear hfz6_1
     try clear p2
     obtain ⟨kq, x27_7, rfl, HA, HJ7, BK139, HB⟩ := hcut
     cases kq with
     | zero => exact absurd HA.out (by simp [pendulumref05_Why.j1])
     | succ kj7 =>
      have H := HA.out
      clear HA
      simp only [pendulumref05_Why.j1] at H
      by_cases c12 : x27_7 = true
      ·subst c12
       have H1 : (some (2, (-1))) = some (r1, r2) := by rw [if_pos rfl] at H; exact H
       clear H
       have H := H1
       clear H1
       simp only [Option.some.injEq, Prod.mk.injEq] at H
       obtain ⟨rfl, rfl⟩ := H
       go_wp2
       repeat (go_quiet (fail); try go_wp2)
       go_ret2
       exact ⟨by first | rfl | (simp [errW_none, errW_some] <;> rfl) | (simp [*, errW_none, errW_some] <;> rfl), by repeat (first | (with_reducible first | exact HB.out | apply below_alloc | apply pw_below_drewN | apply below_drew1 | refine below_set ?_ GE139.out) | exact HB.out)⟩
      ·replace c12 := Bool.eq_false_iff.mpr c12
       subst c12
       have H1 : (pendulumref05_Why.l0 kj7 0 a0_0 l0_1) = some (r1, r2) := by rw [if_neg (show ¬ (false = true) by decide)] at H; exact H
       clear H
       have H := H1
       clear H1
       have H' := Aside0.mk H
       clear H
       go_wp2
       repeat (go_quiet (fail); try go_wp2)
       go_loopg [4] kj7 (fun kq v4 w' => ∃ (x4_3 : Int), v4 = .int .i64 x4_3 ∧ Aside0 (pendulumref05_Why.l0 kq x4_3 a0_0 l0_1 = some (r1, r2)) ∧ Aside0 (kq ≤ kj7) ∧ Aside0 (w'.heap[gb139]? = some (.cells #[.int .i64 a0_0, (.slice A0_1 l0_1.length c0_1)] 24 (0, 0))) ∧ Aside0 (Below w.heap.size w w'))
       case atStart => exact ⟨(0), (by first | rfl | (simp; done) | (simp [*]; done)), H', ⟨Nat.le_refl _⟩, ⟨by (with_reducible repeat (first | refine blk_drewN ?_ _ | refine blk_drew ?_ | refine blk_alloc ?_ _)); exact BK139.out⟩, ⟨by repeat (first | (with_reducible first | exact HB.out | apply below_alloc | apply pw_below_drewN | apply below_drew1 | refine below_set ?_ GE139.out) | exact HB.out)⟩⟩
       case round =>
        clear H'
        try clear c1
        try clear c2
        try clear p2
        try clear c4
        try clear c4b0
        try clear c7
        try clear c9
        try clear c9b0
        try clear c9b1
        try clear c12
        try clear hcz10_0
        try clear hcz10_1
        try clear hcz11_0
        try clear hcz11_1
        try clear hcz5_0
        try clear hcz5_1
        try clear hcz6_0
        try clear hcz6_1
        try clear hfz10_0
        try clear hfz10_1
        try clear hfz11_0
        try clear hfz11_1
        try clear hfz5_0
        try clear hfz5_1
        try clear hfz6_0
        try clear hfz6_1
        try clear p2
        obtain ⟨x4_3, rfl, HA, HK3, BK139, HB⟩ := hrel
        cases gk with
        | zero => exact absurd HA.out (by simp [pendulumref05_Why.l0])
        | succ k3 =>
         have H := HA.out
         clear HA
         simp only [pendulumref05_Why.l0] at H
         by_cases c13 : x4_3 < (l0_1.length : Int)
         ·rw [if_pos c13] at H
          have c13b0 : decide (x4_3 < (l0_1.length : Int)) = true := decide_eq_true c13
          clear c13
          by_cases c14 : 0 ≤ x4_3
          ·rw [if_pos c14] at H
           have c14b0 : decide (0 ≤ x4_3) = true := decide_eq_true c14
           clear c14
           replace H := Option.bind_eq_some_iff.mp H
           obtain ⟨t142, A150, H⟩ := H
           replace H : (if ((rd_T39 l0_1 x4_3).f10) < 0 then (pendulumref05_Why.j3 k3 x4_3 (!t142) true a0_0 l0_1 ((rd_T39 l0_1 x4_3).f0) ((rd_T39 l0_1 x4_3).f1) ((rd_T39 l0_1 x4_3).f2) ((rd_T39 l0_1 x4_3).f3) ((rd_T39 l0_1 x4_3).f4) ((rd_T39 l0_1 x4_3).f5) ((rd_T39 l0_1 x4_3).f6) ((rd_T39 l0_1 x4_3).f7) ((rd_T39 l0_1 x4_3).f8) ((rd_T39 l0_1 x4_3).f9) ((rd_T39 l0_1 x4_3).f10)) else (pendulumref05_Why.j3 k3 x4_3 (!t142) (decide (((rd_T39 l0_1 x4_3).f10) > 255)) a0_0 l0_1 ((rd_T39 l0_1 x4_3).f0) ((rd_T39 l0_1 x4_3).f1) ((rd_T39 l0_1 x4_3).f2) ((rd_T39 l0_1 x4_3).f3) ((rd_T39 l0_1 x4_3).f4) ((rd_T39 l0_1 x4_3).f5) ((rd_T39 l0_1 x4_3).f6) ((rd_T39 l0_1 x4_3).f7) ((rd_T39 l0_1 x4_3).f8) ((rd_T39 l0_1 x4_3).f9) ((rd_T39 l0_1 x4_3).f10))) = some (r1, r2) := H
           have A15 := Aside0.mk A150
           clear A150
           have HC16 := Aside0.mk H
           clear H
           have hcz17_0 : wr.cell? ⟨gb139, 0, none⟩ = some (.int .i64 a0_0) := (blk_cell BK139.out 0).trans rfl
           have hcz17_1 : wr.cell? ⟨gb139, 1, none⟩ = some (.slice A0_1 l0_1.length c0_1) := (blk_cell BK139.out 1).trans rfl
           have hfz17_0 := blk_frozen BK139.out 0
           have hfz17_1 := blk_frozen BK139.out 1
           have p140 : 0 ≤ (x4_3 : Int) := of_decide_eq_true (by first | (with_reducible assumption) | assumption)
           have q140 : x4_3 < (l0_1.length : Int) := of_decide_eq_true (by first | (with_reducible assumption) | assumption)
           obtain ⟨ad140, e140, hx140_0, hx140_1, hx140_2, hx140_3, hx140_4, hx140_5, hx140_6, hx140_7, hx140_8, hx140_9, hx140_10⟩ := at_T39 HR0_1.out x4_3 p140 q140
           cases e140
           replace hx140_0 := (HB.out.cell (World.block_lt_of_cell? w _ hx140_0)).trans hx140_0
           replace hx140_1 := (HB.out.cell (World.block_lt_of_cell? w _ hx140_1)).trans hx140_1
           replace hx140_2 := (HB.out.cell (World.block_lt_of_cell? w _ hx140_2)).trans hx140_2
           replace hx140_3 := (HB.out.cell (World.block_lt_of_cell? w _ hx140_3)).trans hx140_3
           replace hx140_4 := (HB.out.cell (World.block_lt_of_cell? w _ hx140_4)).trans hx140_4
           replace hx140_5 := (HB.out.cell (World.block_lt_of_cell? w _ hx140_5)).trans hx140_5
           replace hx140_6 := (HB.out.cell (World.block_lt_of_cell? w _ hx140_6)).trans hx140_6
           replace hx140_7 := (HB.out.cell (World.block_lt_of_cell? w _ hx140_7)).trans hx140_7
           replace hx140_8 := (HB.out.cell (World.block_lt_of_cell? w _ hx140_8)).trans hx140_8
           replace hx140_9 := (HB.out.cell (World.block_lt_of_cell? w _ hx140_9)).trans hx140_9
           replace hx140_10 := (HB.out.cell (World.block_lt_of_cell? w _ hx140_10)).trans hx140_10
           replace p140 := eq_true p140
           replace q140 := eq_true q140
           go_upto_region 10 with (first | ((with_reducible refine gate_dst (N := 5) rfl ?_); (try (refine gate_guard (by rfl) ?_; dsimp only)); refine box_event ?hg (N := 5) ?hd (cs := #[.string (⟨#[]⟩ : ByteArray), .int .i64 0, .int .i64 0, .int .i64 0, .int .i64 0, .int .i64 0, .int .i64 0, .int .i64 0, .int .i64 0, .int .i64 0, .int .i64 0]) (t := 39) ?hr ?_; (case hd => rfl); (case hg => rfl); (case hr => first | (go_simp; done) | (go_simp; rfl)); intro gb141 hg w18 hbox hb; have n0_ := Aside0.mk (blk_below (g := gb139) (o := .cells #[.int .i64 a0_0, .slice (some ad140) l0_1.length c0_1] 24 (0, 0)) (by (with_reducible repeat (first | refine blk_drewN ?_ _ | refine blk_drew ?_ | refine blk_alloc ?_ _)); exact BK139.out) hb); have n1_ := Aside0.mk (below_step (by repeat (first | (with_reducible first | exact HB.out | apply below_alloc | apply pw_below_drewN | apply below_drew1 | refine below_set ?_ GE139.out) | exact HB.out)) hb); have n2_ := Aside0.mk (hbox); have n3_ := Aside0.mk ((by rw [hg]; exact (below_size (by repeat (first | (with_reducible first | exact HB.out | apply below_alloc | apply pw_below_drewN | apply below_drew1 | refine below_set ?_ GE139.out) | exact HB.out))) : w.heap.size ≤ gb141)); have n4_ := Aside0.mk ((by rw [hg]; exact (below_size (by repeat (first | (with_reducible first | exact HB.out | apply below_alloc | apply pw_below_drewN | apply below_drew1 | refine below_set ?_ GE139.out) | exact HB.out))) : w.heap.size ≤ gb141)); have n5_ := Aside0.mk ((by rw [hg]; exact Nat.ne_of_lt (blk_lt (g := gb139) (o := .cells #[.int .i64 a0_0, .slice (some ad140) l0_1.length c0_1] 24 (0, 0)) (by (with_reducible repeat (first | refine blk_drewN ?_ _ | refine blk_drew ?_ | refine blk_alloc ?_ _)); exact BK139.out)) : gb139 ≠ gb141)); have n6_ := Aside0.mk ((by rw [hg]; exact Nat.ne_of_gt (blk_lt (g := gb139) (o := .cells #[.int .i64 a0_0, .slice (some ad140) l0_1.length c0_1] 24 (0, 0)) (by (with_reducible repeat (first | refine blk_drewN ?_ _ | refine blk_drew ?_ | refine blk_alloc ?_ _)); exact BK139.out)) : gb141 ≠ gb139)); clear BK139; clear HB; have BK139 := n0_; have HB := n1_; have BK141 := n2_; have GW141 := n3_; have GE141 := n4_; have NB139_141 := n5_; have NB141_139 := n6_; clear n0_ n1_ n2_ n3_ n4_ n5_ n6_; clear hb hbox hg; have hnb19 := NB141_139.out; have hnc19 := NB139_141.out; have hcz20_0 : w18.cell? ⟨gb141, 0, none⟩ = some (.string (⟨#[]⟩ : ByteArray)) := (blk_cell BK141.out 0).trans rfl; have hcz20_1 : w18.cell? ⟨gb141, 1, none⟩ = some (.int .i64 0) := (blk_cell BK141.out 1).trans rfl; have hcz20_2 : w18.cell? ⟨gb141, 2, none⟩ = some (.int .i64 0) := (blk_cell BK141.out 2).trans rfl; have hcz20_3 : w18.cell? ⟨gb141, 3, none⟩ = some (.int .i64 0) := (blk_cell BK141.out 3).trans rfl; have hcz20_4 : w18.cell? ⟨gb141, 4, none⟩ = some (.int .i64 0) := (blk_cell BK141.out 4).trans rfl; have hcz20_5 : w18.cell? ⟨gb141, 5, none⟩ = some (.int .i64 0) := (blk_cell BK141.out 5).trans rfl; have hcz20_6 : w18.cell? ⟨gb141, 6, none⟩ = some (.int .i64 0) := (blk_cell BK141.out 6).trans rfl; have hcz20_7 : w18.cell? ⟨gb141, 7, none⟩ = some (.int .i64 0) := (blk_cell BK141.out 7).trans rfl; have hcz20_8 : w18.cell? ⟨gb141, 8, none⟩ = some (.int .i64 0) := (blk_cell BK141.out 8).trans rfl; have hcz20_9 : w18.cell? ⟨gb141, 9, none⟩ = some (.int .i64 0) := (blk_cell BK141.out 9).trans rfl; have hcz20_10 : w18.cell? ⟨gb141, 10, none⟩ = some (.int .i64 0) := (blk_cell BK141.out 10).trans rfl; have hfz20_0 := blk_frozen BK141.out 0; have hfz20_1 := blk_frozen BK141.out 1; have hfz20_2 := blk_frozen BK141.out 2; have hfz20_3 := blk_frozen BK141.out 3; have hfz20_4 := blk_frozen BK141.out 4; have hfz20_5 := blk_frozen BK141.out 5; have hfz20_6 := blk_frozen BK141.out 6; have hfz20_7 := blk_frozen BK141.out 7; have hfz20_8 := blk_frozen BK141.out 8; have hfz20_9 := blk_frozen BK141.out 9; have hfz20_10 := blk_frozen BK141.out 10) | (go_at_call 33; (with_reducible refine (pendulumref03_Named.calls k3 ((rd_T39 l0_1 x4_3).f0) t142 _ A15.out).mono ?_); rintro e w' ⟨rfl, ⟨nd, rfl⟩⟩; (try first | exact ⟨rfl, _, World.drewN_drewN _ _ _⟩ | exact ⟨rfl, _, Eq.trans (World.drewN_drewN _ _ _) (congrArg (World.drewN _) (Nat.add_assoc _ _ _))⟩)))
           repeat (go_quiet (first | ((with_reducible refine gate_dst (N := 5) rfl ?_); (try (refine gate_guard (by rfl) ?_; dsimp only)); refine box_event ?hg (N := 5) ?hd (cs := #[.string (⟨#[]⟩ : ByteArray), .int .i64 0, .int .i64 0, .int .i64 0, .int .i64 0, .int .i64 0, .int .i64 0, .int .i64 0, .int .i64 0, .int .i64 0, .int .i64 0]) (t := 39) ?hr ?_; (case hd => rfl); (case hg => rfl); (case hr => first | (go_simp; done) | (go_simp; rfl)); intro gb141 hg w18 hbox hb; have n0_ := Aside0.mk (blk_below (g := gb139) (o := .cells #[.int .i64 a0_0, .slice (some ad140) l0_1.length c0_1] 24 (0, 0)) (by (with_reducible repeat (first | refine blk_drewN ?_ _ | refine blk_drew ?_ | refine blk_alloc ?_ _)); exact BK139.out) hb); have n1_ := Aside0.mk (below_step (by repeat (first | (with_reducible first | exact HB.out | apply below_alloc | apply pw_below_drewN | apply below_drew1 | refine below_set ?_ GE139.out) | exact HB.out)) hb); have n2_ := Aside0.mk (hbox); have n3_ := Aside0.mk ((by rw [hg]; exact (below_size (by repeat (first | (with_reducible first | exact HB.out | apply below_alloc | apply pw_below_drewN | apply below_drew1 | refine below_set ?_ GE139.out) | exact HB.out))) : w.heap.size ≤ gb141)); have n4_ := Aside0.mk ((by rw [hg]; exact (below_size (by repeat (first | (with_reducible first | exact HB.out | apply below_alloc | apply pw_below_drewN | apply below_drew1 | refine below_set ?_ GE139.out) | exact HB.out))) : w.heap.size ≤ gb141)); have n5_ := Aside0.mk ((by rw [hg]; exact Nat.ne_of_lt (blk_lt (g := gb139) (o := .cells #[.int .i64 a0_0, .slice (some ad140) l0_1.length c0_1] 24 (0, 0)) (by (with_reducible repeat (first | refine blk_drewN ?_ _ | refine blk_drew ?_ | refine blk_alloc ?_ _)); exact BK139.out)) : gb139 ≠ gb141)); have n6_ := Aside0.mk ((by rw [hg]; exact Nat.ne_of_gt (blk_lt (g := gb139) (o := .cells #[.int .i64 a0_0, .slice (some ad140) l0_1.length c0_1] 24 (0, 0)) (by (with_reducible repeat (first | refine blk_drewN ?_ _ | refine blk_drew ?_ | refine blk_alloc ?_ _)); exact BK139.out)) : gb141 ≠ gb139)); clear BK139; clear HB; have BK139 := n0_; have HB := n1_; have BK141 := n2_; have GW141 := n3_; have GE141 := n4_; have NB139_141 := n5_; have NB141_139 := n6_; clear n0_ n1_ n2_ n3_ n4_ n5_ n6_; clear hb hbox hg; have hnb19 := NB141_139.out; have hnc19 := NB139_141.out; have hcz20_0 : w18.cell? ⟨gb141, 0, none⟩ = some (.string (⟨#[]⟩ : ByteArray)) := (blk_cell BK141.out 0).trans rfl; have hcz20_1 : w18.cell? ⟨gb141, 1, none⟩ = some (.int .i64 0) := (blk_cell BK141.out 1).trans rfl; have hcz20_2 : w18.cell? ⟨gb141, 2, none⟩ = some (.int .i64 0) := (blk_cell BK141.out 2).trans rfl; have hcz20_3 : w18.cell? ⟨gb141, 3, none⟩ = some (.int .i64 0) := (blk_cell BK141.out 3).trans rfl; have hcz20_4 : w18.cell? ⟨gb141, 4, none⟩ = some (.int .i64 0) := (blk_cell BK141.out 4).trans rfl; have hcz20_5 : w18.cell? ⟨gb141, 5, none⟩ = some (.int .i64 0) := (blk_cell BK141.out 5).trans rfl; have hcz20_6 : w18.cell? ⟨gb141, 6, none⟩ = some (.int .i64 0) := (blk_cell BK141.out 6).trans rfl; have hcz20_7 : w18.cell? ⟨gb141, 7, none⟩ = some (.int .i64 0) := (blk_cell BK141.out 7).trans rfl; have hcz20_8 : w18.cell? ⟨gb141, 8, none⟩ = some (.int .i64 0) := (blk_cell BK141.out 8).trans rfl; have hcz20_9 : w18.cell? ⟨gb141, 9, none⟩ = some (.int .i64 0) := (blk_cell BK141.out 9).trans rfl; have hcz20_10 : w18.cell? ⟨gb141, 10, none⟩ = some (.int .i64 0) := (blk_cell BK141.out 10).trans rfl; have hfz20_0 := blk_frozen BK141.out 0; have hfz20_1 := blk_frozen BK141.out 1; have hfz20_2 := blk_frozen BK141.out 2; have hfz20_3 := blk_frozen BK141.out 3; have hfz20_4 := blk_frozen BK141.out 4; have hfz20_5 := blk_frozen BK141.out 5; have hfz20_6 := blk_frozen BK141.out 6; have hfz20_7 := blk_frozen BK141.out 7; have hfz20_8 := blk_frozen BK141.out 8; have hfz20_9 := blk_frozen BK141.out 9; have hfz20_10 := blk_frozen BK141.out 10) | (go_at_call 33; (with_reducible refine (pendulumref03_Named.calls k3 ((rd_T39 l0_1 x4_3).f0) t142 _ A15.out).mono ?_); rintro e w' ⟨rfl, ⟨nd, rfl⟩⟩; (try first | exact ⟨rfl, _, World.drewN_drewN _ _ _⟩ | exact ⟨rfl, _, Eq.trans (World.drewN_drewN _ _ _) (congrArg (World.drewN _) (Nat.add_assoc _ _ _))⟩))); go_upto_region 10 with (first | ((with_reducible refine gate_dst (N := 5) rfl ?_); (try (refine gate_guard (by rfl) ?_; dsimp only)); refine box_event ?hg (N := 5) ?hd (cs := #[.string (⟨#[]⟩ : ByteArray), .int .i64 0, .int .i64 0, .int .i64 0, .int .i64 0, .int .i64 0, .int .i64 0, .int .i64 0, .int .i64 0, .int .i64 0, .int .i64 0]) (t := 39) ?hr ?_; (case hd => rfl); (case hg => rfl); (case hr => first | (go_simp; done) | (go_simp; rfl)); intro gb141 hg w18 hbox hb; have n0_ := Aside0.mk (blk_below (g := gb139) (o := .cells #[.int .i64 a0_0, .slice (some ad140) l0_1.length c0_1] 24 (0, 0)) (by (with_reducible repeat (first | refine blk_drewN ?_ _ | refine blk_drew ?_ | refine blk_alloc ?_ _)); exact BK139.out) hb); have n1_ := Aside0.mk (below_step (by repeat (first | (with_reducible first | exact HB.out | apply below_alloc | apply pw_below_drewN | apply below_drew1 | refine below_set ?_ GE139.out) | exact HB.out)) hb); have n2_ := Aside0.mk (hbox); have n3_ := Aside0.mk ((by rw [hg]; exact (below_size (by repeat (first | (with_reducible first | exact HB.out | apply below_alloc | apply pw_below_drewN | apply below_drew1 | refine below_set ?_ GE139.out) | exact HB.out))) : w.heap.size ≤ gb141)); have n4_ := Aside0.mk ((by rw [hg]; exact (below_size (by repeat (first | (with_reducible first | exact HB.out | apply below_alloc | apply pw_below_drewN | apply below_drew1 | refine below_set ?_ GE139.out) | exact HB.out))) : w.heap.size ≤ gb141)); have n5_ := Aside0.mk ((by rw [hg]; exact Nat.ne_of_lt (blk_lt (g := gb139) (o := .cells #[.int .i64 a0_0, .slice (some ad140) l0_1.length c0_1] 24 (0, 0)) (by (with_reducible repeat (first | refine blk_drewN ?_ _ | refine blk_drew ?_ | refine blk_alloc ?_ _)); exact BK139.out)) : gb139 ≠ gb141)); have n6_ := Aside0.mk ((by rw [hg]; exact Nat.ne_of_gt (blk_lt (g := gb139) (o := .cells #[.int .i64 a0_0, .slice (some ad140) l0_1.length c0_1] 24 (0, 0)) (by (with_reducible repeat (first | refine blk_drewN ?_ _ | refine blk_drew ?_ | refine blk_alloc ?_ _)); exact BK139.out)) : gb141 ≠ gb139)); clear BK139; clear HB; have BK139 := n0_; have HB := n1_; have BK141 := n2_; have GW141 := n3_; have GE141 := n4_; have NB139_141 := n5_; have NB141_139 := n6_; clear n0_ n1_ n2_ n3_ n4_ n5_ n6_; clear hb hbox hg; have hnb19 := NB141_139.out; have hnc19 := NB139_141.out; have hcz20_0 : w18.cell? ⟨gb141, 0, none⟩ = some (.string (⟨#[]⟩ : ByteArray)) := (blk_cell BK141.out 0).trans rfl; have hcz20_1 : w18.cell? ⟨gb141, 1, none⟩ = some (.int .i64 0) := (blk_cell BK141.out 1).trans rfl; have hcz20_2 : w18.cell? ⟨gb141, 2, none⟩ = some (.int .i64 0) := (blk_cell BK141.out 2).trans rfl; have hcz20_3 : w18.cell? ⟨gb141, 3, none⟩ = some (.int .i64 0) := (blk_cell BK141.out 3).trans rfl; have hcz20_4 : w18.cell? ⟨gb141, 4, none⟩ = some (.int .i64 0) := (blk_cell BK141.out 4).trans rfl; have hcz20_5 : w18.cell? ⟨gb141, 5, none⟩ = some (.int .i64 0) := (blk_cell BK141.out 5).trans rfl; have hcz20_6 : w18.cell? ⟨gb141, 6, none⟩ = some (.int .i64 0) := (blk_cell BK141.out 6).trans rfl; have hcz20_7 : w18.cell? ⟨gb141, 7, none⟩ = some (.int .i64 0) := (blk_cell BK141.out 7).trans rfl; have hcz20_8 : w18.cell? ⟨gb141, 8, none⟩ = some (.int .i64 0) := (blk_cell BK141.out 8).trans rfl; have hcz20_9 : w18.cell? ⟨gb141, 9, none⟩ = some (.int .i64 0) := (blk_cell BK141.out 9).trans rfl; have hcz20_10 : w18.cell? ⟨gb141, 10, none⟩ = some (.int .i64 0) := (blk_cell BK141.out 10).trans rfl; have hfz20_0 := blk_frozen BK141.out 0; have hfz20_1 := blk_frozen BK141.out 1; have hfz20_2 := blk_frozen BK141.out 2; have hfz20_3 := blk_frozen BK141.out 3; have hfz20_4 := blk_frozen BK141.out 4; have hfz20_5 := blk_frozen BK141.out 5; have hfz20_6 := blk_frozen BK141.out 6; have hfz20_7 := blk_frozen BK141.out 7; have hfz20_8 := blk_frozen BK141.out 8; have hfz20_9 := blk_frozen BK141.out 9; have hfz20_10 := blk_frozen BK141.out 10) | (go_at_call 33; (with_reducible refine (pendulumref03_Named.calls k3 ((rd_T39 l0_1 x4_3).f0) t142 _ A15.out).mono ?_); rintro e w' ⟨rfl, ⟨nd, rfl⟩⟩; (try first | exact ⟨rfl, _, World.drewN_drewN _ _ _⟩ | exact ⟨rfl, _, Eq.trans (World.drewN_drewN _ _ _) (congrArg (World.drewN _) (Nat.add_assoc _ _ _))⟩))))
           (try simp only [Act.put, List.setIfInBounds_toArray, List.set_cons_zero, List.set_cons_succ])
           go_cut [7] (fun v7 wc => ∃ (kq : Nat) (x7_15 : Bool), v7 = .bool x7_15 ∧ Aside0 (pendulumref05_Why.j3 kq x4_3 (!t142) x7_15 a0_0 l0_1 ((rd_T39 l0_1 x4_3).f0) ((rd_T39 l0_1 x4_3).f1) ((rd_T39 l0_1 x4_3).f2) ((rd_T39 l0_1 x4_3).f3) ((rd_T39 l0_1 x4_3).f4) ((rd_T39 l0_1 x4_3).f5) ((rd_T39 l0_1 x4_3).f6) ((rd_T39 l0_1 x4_3).f7) ((rd_T39 l0_1 x4_3).f8) ((rd_T39 l0_1 x4_3).f9) ((rd_T39 l0_1 x4_3).f10) = some (r1, r2)) ∧ Aside0 (kq ≤ k3) ∧ Aside0 (wc.heap[gb139]? = some (.cells #[.int .i64 a0_0, (.slice (some ad140) l0_1.length c0_1)] 24 (0, 0))) ∧ Aside0 (wc.heap[gb141]? = some (.cells #[.string ((rd_T39 l0_1 x4_3).f0), .int .i64 ((rd_T39 l0_1 x4_3).f1), .int .i64 ((rd_T39 l0_1 x4_3).f2), .int .i64 ((rd_T39 l0_1 x4_3).f3), .int .i64 ((rd_T39 l0_1 x4_3).f4), .int .i64 ((rd_T39 l0_1 x4_3).f5), .int .i64 ((rd_T39 l0_1 x4_3).f6), .int .i64 ((rd_T39 l0_1 x4_3).f7), .int .i64 ((rd_T39 l0_1 x4_3).f8), .int .i64 ((rd_T39 l0_1 x4_3).f9), .int .i64 ((rd_T39 l0_1 x4_3).f10)] 39 (0, 0))) ∧ Aside0 (Below w.heap.size w wc))
           case first =>
            have H := HC16.out
            clear HC16
            by_cases c21 : ((rd_T39 l0_1 x4_3).f10) < 0
            ·rw [if_pos c21] at H
             have c21b0 : decide (((rd_T39 l0_1 x4_3).f10) < 0) = true := decide_eq_true c21
             clear c21
             (first | rw [c21b0] | (simp only [i64_w, i32_w]; rw [c21b0]) | skip)
             have H' := Aside0.mk H
             clear H
             have hnb22 := NB141_139.out
             have hnc22 := NB139_141.out
             have hcz23_0 : w18.cell? ⟨gb141, 0, none⟩ = some (.string (⟨#[]⟩ : ByteArray)) := (blk_cell BK141.out 0).trans rfl
             have hcz23_1 : w18.cell? ⟨gb141, 1, none⟩ = some (.int .i64 0) := (blk_cell BK141.out 1).trans rfl
             have hcz23_2 : w18.cell? ⟨gb141, 2, none⟩ = some (.int .i64 0) := (blk_cell BK141.out 2).trans rfl
             have hcz23_3 : w18.cell? ⟨gb141, 3, none⟩ = some (.int .i64 0) := (blk_cell BK141.out 3).trans rfl
             have hcz23_4 : w18.cell? ⟨gb141, 4, none⟩ = some (.int .i64 0) := (blk_cell BK141.out 4).trans rfl
             have hcz23_5 : w18.cell? ⟨gb141, 5, none⟩ = some (.int .i64 0) := (blk_cell BK141.out 5).trans rfl
             have hcz23_6 : w18.cell? ⟨gb141, 6, none⟩ = some (.int .i64 0) := (blk_cell BK141.out 6).trans rfl
             have hcz23_7 : w18.cell? ⟨gb141, 7, none⟩ = some (.int .i64 0) := (blk_cell BK141.out 7).trans rfl
             have hcz23_8 : w18.cell? ⟨gb141, 8, none⟩ = some (.int .i64 0) := (blk_cell BK141.out 8).trans rfl
             have hcz23_9 : w18.cell? ⟨gb141, 9, none⟩ = some (.int .i64 0) := (blk_cell BK141.out 9).trans rfl
             have hcz23_10 : w18.cell? ⟨gb141, 10, none⟩ = some (.int .i64 0) := (blk_cell BK141.out 10).trans rfl
             have hfz23_0 := blk_frozen BK141.out 0
             have hfz23_1 := blk_frozen BK141.out 1
             have hfz23_2 := blk_frozen BK141.out 2
             have hfz23_3 := blk_frozen BK141.out 3
             have hfz23_4 := blk_frozen BK141.out 4
             have hfz23_5 := blk_frozen BK141.out 5
             have hfz23_6 := blk_frozen BK141.out 6
             have hfz23_7 := blk_frozen BK141.out 7
             have hfz23_8 := blk_frozen BK141.out 8
             have hfz23_9 := blk_frozen BK141.out 9
             have hfz23_10 := blk_frozen BK141.out 10
             go_wp2
             repeat (go_quiet (fail); try go_wp2)
             go_meet
             case rel => exact ⟨_, (true), (by first | rfl | (simp; done) | (simp [*]; done)), H', ⟨by have := HJ1.out; have := HJ7.out; have := HK3.out; first | omega | exact Nat.le_refl _⟩, ⟨by (with_reducible repeat (first | refine blk_drewN ?_ _ | refine blk_drew ?_ | refine blk_alloc ?_ _)); refine blk_far ?_ NB139_141.out _; (with_reducible repeat (first | refine blk_drewN ?_ _ | refine blk_drew ?_ | refine blk_alloc ?_ _)); refine blk_far ?_ NB139_141.out _; (with_reducible repeat (first | refine blk_drewN ?_ _ | refine blk_drew ?_ | refine blk_alloc ?_ _)); refine blk_far ?_ NB139_141.out _; (with_reducible repeat (first | refine blk_drewN ?_ _ | refine blk_drew ?_ | refine blk_alloc ?_ _)); refine blk_far ?_ NB139_141.out _; (with_reducible repeat (first | refine blk_drewN ?_ _ | refine blk_drew ?_ | refine blk_alloc ?_ _)); refine blk_far ?_ NB139_141.out _; (with_reducible repeat (first | refine blk_drewN ?_ _ | refine blk_drew ?_ | refine blk_alloc ?_ _)); refine blk_far ?_ NB139_141.out _; (with_reducible repeat (first | refine blk_drewN ?_ _ | refine blk_drew ?_ | refine blk_alloc ?_ _)); refine blk_far ?_ NB139_141.out _; (with_reducible repeat (first | refine blk_drewN ?_ _ | refine blk_drew ?_ | refine blk_alloc ?_ _)); refine blk_far ?_ NB139_141.out _; (with_reducible repeat (first | refine blk_drewN ?_ _ | refine blk_drew ?_ | refine blk_alloc ?_ _)); refine blk_far ?_ NB139_141.out _; (with_reducible repeat (first | refine blk_drewN ?_ _ | refine blk_drew ?_ | refine blk_alloc ?_ _)); refine blk_far ?_ NB139_141.out _; (with_reducible repeat (first | refine blk_drewN ?_ _ | refine blk_drew ?_ | refine blk_alloc ?_ _)); refine blk_far ?_ NB139_141.out _; (with_reducible repeat (first | refine blk_drewN ?_ _ | refine blk_drew ?_ | refine blk_alloc ?_ _)); exact BK139.out⟩, ⟨by (with_reducible repeat (first | refine blk_drewN ?_ _ | refine blk_drew ?_ | refine blk_alloc ?_ _)); refine blk_put (cs := #[.string ((rd_T39 l0_1 x4_3).f0), .int .i64 ((rd_T39 l0_1 x4_3).f1), .int .i64 ((rd_T39 l0_1 x4_3).f2), .int .i64 ((rd_T39 l0_1 x4_3).f3), .int .i64 ((rd_T39 l0_1 x4_3).f4), .int .i64 ((rd_T39 l0_1 x4_3).f5), .int .i64 ((rd_T39 l0_1 x4_3).f6), .int .i64 ((rd_T39 l0_1 x4_3).f7), .int .i64 ((rd_T39 l0_1 x4_3).f8), .int .i64 ((rd_T39 l0_1 x4_3).f9), .int .i64 0]) ?_ 10 _ rfl; (with_reducible repeat (first | refine blk_drewN ?_ _ | refine blk_drew ?_ | refine blk_alloc ?_ _)); refine blk_put (cs := #[.string ((rd_T39 l0_1 x4_3).f0), .int .i64 ((rd_T39 l0_1 x4_3).f1), .int .i64 ((rd_T39 l0_1 x4_3).f2), .int .i64 ((rd_T39 l0_1 x4_3).f3), .int .i64 ((rd_T39 l0_1 x4_3).f4), .int .i64 ((rd_T39 l0_1 x4_3).f5), .int .i64 ((rd_T39 l0_1 x4_3).f6), .int .i64 ((rd_T39 l0_1 x4_3).f7), .int .i64 ((rd_T39 l0_1 x4_3).f8), .int .i64 0, .int .i64 0]) ?_ 9 _ rfl; (with_reducible repeat (first | refine blk_drewN ?_ _ | refine blk_drew ?_ | refine blk_alloc ?_ _)); refine blk_put (cs := #[.string ((rd_T39 l0_1 x4_3).f0), .int .i64 ((rd_T39 l0_1 x4_3).f1), .int .i64 ((rd_T39 l0_1 x4_3).f2), .int .i64 ((rd_T39 l0_1 x4_3).f3), .int .i64 ((rd_T39 l0_1 x4_3).f4), .int .i64 ((rd_T39 l0_1 x4_3).f5), .int .i64 ((rd_T39 l0_1 x4_3).f6), .int .i64 ((rd_T39 l0_1 x4_3).f7), .int .i64 0, .int .i64 0, .int .i64 0]) ?_ 8 _ rfl; (with_reducible repeat (first | refine blk_drewN ?_ _ | refine blk_drew ?_ | refine blk_alloc ?_ _)); refine blk_put (cs := #[.string ((rd_T39 l0_1 x4_3).f0), .int .i64 ((rd_T39 l0_1 x4_3).f1), .int .i64 ((rd_T39 l0_1 x4_3).f2), .int .i64 ((rd_T39 l0_1 x4_3).f3), .int .i64 ((rd_T39 l0_1 x4_3).f4), .int .i64 ((rd_T39 l0_1 x4_3).f5), .int .i64 ((rd_T39 l0_1 x4_3).f6), .int .i64 0, .int .i64 0, .int .i64 0, .int .i64 0]) ?_ 7 _ rfl; (with_reducible repeat (first | refine blk_drewN ?_ _ | refine blk_drew ?_ | refine blk_alloc ?_ _)); refine blk_put (cs := #[.string ((rd_T39 l0_1 x4_3).f0), .int .i64 ((rd_T39 l0_1 x4_3).f1), .int .i64 ((rd_T39 l0_1 x4_3).f2), .int .i64 ((rd_T39 l0_1 x4_3).f3), .int .i64 ((rd_T39 l0_1 x4_3).f4), .int .i64 ((rd_T39 l0_1 x4_3).f5), .int .i64 0, .int .i64 0, .int .i64 0, .int .i64 0, .int .i64 0]) ?_ 6 _ rfl; (with_reducible repeat (first | refine blk_drewN ?_ _ | refine blk_drew ?_ | refine blk_alloc ?_ _)); refine blk_put (cs := #[.string ((rd_T39 l0_1 x4_3).f0), .int .i64 ((rd_T39 l0_1 x4_3).f1), .int .i64 ((rd_T39 l0_1 x4_3).f2), .int .i64 ((rd_T39 l0_1 x4_3).f3), .int .i64 ((rd_T39 l0_1 x4_3).f4), .int .i64 0, .int .i64 0, .int .i64 0, .int .i64 0, .int .i64 0, .int .i64 0]) ?_ 5 _ rfl; (with_reducible repeat (first | refine blk_drewN ?_ _ | refine blk_drew ?_ | refine blk_alloc ?_ _)); refine blk_put (cs := #[.string ((rd_T39 l0_1 x4_3).f0), .int .i64 ((rd_T39 l0_1 x4_3).f1), .int .i64 ((rd_T39 l0_1 x4_3).f2), .int .i64 ((rd_T39 l0_1 x4_3).f3), .int .i64 0, .int .i64 0, .int .i64 0, .int .i64 0, .int .i64 0, .int .i64 0, .int .i64 0]) ?_ 4 _ rfl; (with_reducible repeat (first | refine blk_drewN ?_ _ | refine blk_drew ?_ | refine blk_alloc ?_ _)); refine blk_put (cs := #[.string ((rd_T39 l0_1 x4_3).f0), .int .i64 ((rd_T39 l0_1 x4_3).f1), .int .i64 ((rd_T39 l0_1 x4_3).f2), .int .i64 0, .int .i64 0, .int .i64 0, .int .i64 0, .int .i64 0, .int .i64 0, .int .i64 0, .int .i64 0]) ?_ 3 _ rfl; (with_reducible repeat (first | refine blk_drewN ?_ _ | refine blk_drew ?_ | refine blk_alloc ?_ _)); refine blk_put (cs := #[.string ((rd_T39 l0_1 x4_3).f0), .int .i64 ((rd_T39 l0_1 x4_3).f1), .int .i64 0, .int .i64 0, .int .i64 0, .int .i64 0, .int .i64 0, .int .i64 0, .int .i64 0, .int .i64 0, .int .i64 0]) ?_ 2 _ rfl; (with_reducible repeat (first | refine blk_drewN ?_ _ | refine blk_drew ?_ | refine blk_alloc ?_ _)); refine blk_put (cs := #[.string ((rd_T39 l0_1 x4_3).f0), .int .i64 0, .int .i64 0, .int .i64 0, .int .i64 0, .int .i64 0, .int .i64 0, .int .i64 0, .int .i64 0, .int .i64 0, .int .i64 0]) ?_ 1 _ rfl; (with_reducible repeat (first | refine blk_drewN ?_ _ | refine blk_drew ?_ | refine blk_alloc ?_ _)); refine blk_put (cs := #[.string (⟨#[]⟩ : ByteArray), .int .i64 0, .int .i64 0, .int .i64 0, .int .i64 0, .int .i64 0, .int .i64 0, .int .i64 0, .int .i64 0, .int .i64 0, .int .i64 0]) ?_ 0 _ rfl; (with_reducible repeat (first | refine blk_drewN ?_ _ | refine blk_drew ?_ | refine blk_alloc ?_ _)); exact BK141.out⟩, ⟨by repeat (first | (with_reducible first | exact HB.out | apply below_alloc | apply pw_below_drewN | apply below_drew1 | refine below_set ?_ GE139.out | refine below_set ?_ GE141.out) | exact HB.out)⟩⟩
            ·rw [if_neg c21] at H
             have c21b0 : decide (((rd_T39 l0_1 x4_3).f10) < 0) = false := decide_eq_false c21
             clear c21
             (first | rw [c21b0] | (simp only [i64_w, i32_w]; rw [c21b0]) | skip)
             have H' := Aside0.mk H
             clear H
             have hnb24 := NB141_139.out
             have hnc24 := NB139_141.out
             have hcz25_0 : w18.cell? ⟨gb141, 0, none⟩ = some (.string (⟨#[]⟩ : ByteArray)) := (blk_cell BK141.out 0).trans rfl
             have hcz25_1 : w18.cell? ⟨gb141, 1, none⟩ = some (.int .i64 0) := (blk_cell BK141.out 1).trans rfl
             have hcz25_2 : w18.cell? ⟨gb141, 2, none⟩ = some (.int .i64 0) := (blk_cell BK141.out 2).trans rfl
             have hcz25_3 : w18.cell? ⟨gb141, 3, none⟩ = some (.int .i64 0) := (blk_cell BK141.out 3).trans rfl
             have hcz25_4 : w18.cell? ⟨gb141, 4, none⟩ = some (.int .i64 0) := (blk_cell BK141.out 4).trans rfl
             have hcz25_5 : w18.cell? ⟨gb141, 5, none⟩ = some (.int .i64 0) := (blk_cell BK141.out 5).trans rfl
             have hcz25_6 : w18.cell? ⟨gb141, 6, none⟩ = some (.int .i64 0) := (blk_cell BK141.out 6).trans rfl
             have hcz25_7 : w18.cell? ⟨gb141, 7, none⟩ = some (.int .i64 0) := (blk_cell BK141.out 7).trans rfl
             have hcz25_8 : w18.cell? ⟨gb141, 8, none⟩ = some (.int .i64 0) := (blk_cell BK141.out 8).trans rfl
             have hcz25_9 : w18.cell? ⟨gb141, 9, none⟩ = some (.int .i64 0) := (blk_cell BK141.out 9).trans rfl
             have hcz25_10 : w18.cell? ⟨gb141, 10, none⟩ = some (.int .i64 0) := (blk_cell BK141.out 10).trans rfl
             have hfz25_0 := blk_frozen BK141.out 0
             have hfz25_1 := blk_frozen BK141.out 1
             have hfz25_2 := blk_frozen BK141.out 2
             have hfz25_3 := blk_frozen BK141.out 3
             have hfz25_4 := blk_frozen BK141.out 4
             have hfz25_5 := blk_frozen BK141.out 5
             have hfz25_6 := blk_frozen BK141.out 6
             have hfz25_7 := blk_frozen BK141.out 7
             have hfz25_8 := blk_frozen BK141.out 8
             have hfz25_9 := blk_frozen BK141.out 9
             have hfz25_10 := blk_frozen BK141.out 10
             go_wp2
             repeat (go_quiet (fail); try go_wp2)
             go_meet
             case rel => exact ⟨_, (decide (((rd_T39 l0_1 x4_3).f10) > 255)), (by first | rfl | (simp; done) | (simp [*]; done)), H', ⟨by have := HJ1.out; have := HJ7.out; have := HK3.out; first | omega | exact Nat.le_refl _⟩, ⟨by (with_reducible repeat (first | refine blk_drewN ?_ _ | refine blk_drew ?_ | refine blk_alloc ?_ _)); refine blk_far ?_ NB139_141.out _; (with_reducible repeat (first | refine blk_drewN ?_ _ | refine blk_drew ?_ | refine blk_alloc ?_ _)); refine blk_far ?_ NB139_141.out _; (with_reducible repeat (first | refine blk_drewN ?_ _ | refine blk_drew ?_ | refine blk_alloc ?_ _)); refine blk_far ?_ NB139_141.out _; (with_reducible repeat (first | refine blk_drewN ?_ _ | refine blk_drew ?_ | refine blk_alloc ?_ _)); refine blk_far ?_ NB139_141.out _; (with_reducible repeat (first | refine blk_drewN ?_ _ | refine blk_drew ?_ | refine blk_alloc ?_ _)); refine blk_far ?_ NB139_141.out _; (with_reducible repeat (first | refine blk_drewN ?_ _ | refine blk_drew ?_ | refine blk_alloc ?_ _)); refine blk_far ?_ NB139_141.out _; (with_reducible repeat (first | refine blk_drewN ?_ _ | refine blk_drew ?_ | refine blk_alloc ?_ _)); refine blk_far ?_ NB139_141.out _; (with_reducible repeat (first | refine blk_drewN ?_ _ | refine blk_drew ?_ | refine blk_alloc ?_ _)); refine blk_far ?_ NB139_141.out _; (with_reducible repeat (first | refine blk_drewN ?_ _ | refine blk_drew ?_ | refine blk_alloc ?_ _)); refine blk_far ?_ NB139_141.out _; (with_reducible repeat (first | refine blk_drewN ?_ _ | refine blk_drew ?_ | refine blk_alloc ?_ _)); refine blk_far ?_ NB139_141.out _; (with_reducible repeat (first | refine blk_drewN ?_ _ | refine blk_drew ?_ | refine blk_alloc ?_ _)); refine blk_far ?_ NB139_141.out _; (with_reducible repeat (first | refine blk_drewN ?_ _ | refine blk_drew ?_ | refine blk_alloc ?_ _)); exact BK139.out⟩, ⟨by (with_reducible repeat (first | refine blk_drewN ?_ _ | refine blk_drew ?_ | refine blk_alloc ?_ _)); refine blk_put (cs := #[.string ((rd_T39 l0_1 x4_3).f0), .int .i64 ((rd_T39 l0_1 x4_3).f1), .int .i64 ((rd_T39 l0_1 x4_3).f2), .int .i64 ((rd_T39 l0_1 x4_3).f3), .int .i64 ((rd_T39 l0_1 x4_3).f4), .int .i64 ((rd_T39 l0_1 x4_3).f5), .int .i64 ((rd_T39 l0_1 x4_3).f6), .int .i64 ((rd_T39 l0_1 x4_3).f7), .int .i64 ((rd_T39 l0_1 x4_3).f8), .int .i64 ((rd_T39 l0_1 x4_3).f9), .int .i64 0]) ?_ 10 _ rfl; (with_reducible repeat (first | refine blk_drewN ?_ _ | refine blk_drew ?_ | refine blk_alloc ?_ _)); refine blk_put (cs := #[.string ((rd_T39 l0_1 x4_3).f0), .int .i64 ((rd_T39 l0_1 x4_3).f1), .int .i64 ((rd_T39 l0_1 x4_3).f2), .int .i64 ((rd_T39 l0_1 x4_3).f3), .int .i64 ((rd_T39 l0_1 x4_3).f4), .int .i64 ((rd_T39 l0_1 x4_3).f5), .int .i64 ((rd_T39 l0_1 x4_3).f6), .int .i64 ((rd_T39 l0_1 x4_3).f7), .int .i64 ((rd_T39 l0_1 x4_3).f8), .int .i64 0, .int .i64 0]) ?_ 9 _ rfl; (with_reducible repeat (first | refine blk_drewN ?_ _ | refine blk_drew ?_ | refine blk_alloc ?_ _)); refine blk_put (cs := #[.string ((rd_T39 l0_1 x4_3).f0), .int .i64 ((rd_T39 l0_1 x4_3).f1), .int .i64 ((rd_T39 l0_1 x4_3).f2), .int .i64 ((rd_T39 l0_1 x4_3).f3), .int .i64 ((rd_T39 l0_1 x4_3).f4), .int .i64 ((rd_T39 l0_1 x4_3).f5), .int .i64 ((rd_T39 l0_1 x4_3).f6), .int .i64 ((rd_T39 l0_1 x4_3).f7), .int .i64 0, .int .i64 0, .int .i64 0]) ?_ 8 _ rfl; (with_reducible repeat (first | refine blk_drewN ?_ _ | refine blk_drew ?_ | refine blk_alloc ?_ _)); refine blk_put (cs := #[.string ((rd_T39 l0_1 x4_3).f0), .int .i64 ((rd_T39 l0_1 x4_3).f1), .int .i64 ((rd_T39 l0_1 x4_3).f2), .int .i64 ((rd_T39 l0_1 x4_3).f3), .int .i64 ((rd_T39 l0_1 x4_3).f4), .int .i64 ((rd_T39 l0_1 x4_3).f5), .int .i64 ((rd_T39 l0_1 x4_3).f6), .int .i64 0, .int .i64 0, .int .i64 0, .int .i64 0]) ?_ 7 _ rfl; (with_reducible repeat (first | refine blk_drewN ?_ _ | refine blk_drew ?_ | refine blk_alloc ?_ _)); refine blk_put (cs := #[.string ((rd_T39 l0_1 x4_3).f0), .int .i64 ((rd_T39 l0_1 x4_3).f1), .int .i64 ((rd_T39 l0_1 x4_3).f2), .int .i64 ((rd_T39 l0_1 x4_3).f3), .int .i64 ((rd_T39 l0_1 x4_3).f4), .int .i64 ((rd_T39 l0_1 x4_3).f5), .int .i64 0, .int .i64 0, .int .i64 0, .int .i64 0, .int .i64 0]) ?_ 6 _ rfl; (with_reducible repeat (first | refine blk_drewN ?_ _ | refine blk_drew ?_ | refine blk_alloc ?_ _)); refine blk_put (cs := #[.string ((rd_T39 l0_1 x4_3).f0), .int .i64 ((rd_T39 l0_1 x4_3).f1), .int .i64 ((rd_T39 l0_1 x4_3).f2), .int .i64 ((rd_T39 l0_1 x4_3).f3), .int .i64 ((rd_T39 l0_1 x4_3).f4), .int .i64 0, .int .i64 0, .int .i64 0, .int .i64 0, .int .i64 0, .int .i64 0]) ?_ 5 _ rfl; (with_reducible repeat (first | refine blk_drewN ?_ _ | refine blk_drew ?_ | refine blk_alloc ?_ _)); refine blk_put (cs := #[.string ((rd_T39 l0_1 x4_3).f0), .int .i64 ((rd_T39 l0_1 x4_3).f1), .int .i64 ((rd_T39 l0_1 x4_3).f2), .int .i64 ((rd_T39 l0_1 x4_3).f3), .int .i64 0, .int .i64 0, .int .i64 0, .int .i64 0, .int .i64 0, .int .i64 0, .int .i64 0]) ?_ 4 _ rfl; (with_reducible repeat (first | refine blk_drewN ?_ _ | refine blk_drew ?_ | refine blk_alloc ?_ _)); refine blk_put (cs := #[.string ((rd_T39 l0_1 x4_3).f0), .int .i64 ((rd_T39 l0_1 x4_3).f1), .int .i64 ((rd_T39 l0_1 x4_3).f2), .int .i64 0, .int .i64 0, .int .i64 0, .int .i64 0, .int .i64 0, .int .i64 0, .int .i64 0, .int .i64 0]) ?_ 3 _ rfl; (with_reducible repeat (first | refine blk_drewN ?_ _ | refine blk_drew ?_ | refine blk_alloc ?_ _)); refine blk_put (cs := #[.string ((rd_T39 l0_1 x4_3).f0), .int .i64 ((rd_T39 l0_1 x4_3).f1), .int .i64 0, .int .i64 0, .int .i64 0, .int .i64 0, .int .i64 0, .int .i64 0, .int .i64 0, .int .i64 0, .int .i64 0]) ?_ 2 _ rfl; (with_reducible repeat (first | refine blk_drewN ?_ _ | refine blk_drew ?_ | refine blk_alloc ?_ _)); refine blk_put (cs := #[.string ((rd_T39 l0_1 x4_3).f0), .int .i64 0, .int .i64 0, .int .i64 0, .int .i64 0, .int .i64 0, .int .i64 0, .int .i64 0, .int .i64 0, .int .i64 0, .int .i64 0]) ?_ 1 _ rfl; (with_reducible repeat (first | refine blk_drewN ?_ _ | refine blk_drew ?_ | refine blk_alloc ?_ _)); refine blk_put (cs := #[.string (⟨#[]⟩ : ByteArray), .int .i64 0, .int .i64 0, .int .i64 0, .int .i64 0, .int .i64 0, .int .i64 0, .int .i64 0, .int .i64 0, .int .i64 0, .int .i64 0]) ?_ 0 _ rfl; (with_reducible repeat (first | refine blk_drewN ?_ _ | refine blk_drew ?_ | refine blk_alloc ?_ _)); exact BK141.out⟩, ⟨by repeat (first | (with_reducible first | exact HB.out | apply below_alloc | apply pw_below_drewN | apply below_drew1 | refine below_set ?_ GE139.out | refine below_set ?_ GE141.out) | exact HB.out)⟩⟩
           case rest =>
            clear HC16
            try clear c1
            try clear p1
            try clear q1
            try clear hx1
            try clear c2
            try clear p2
            try clear c4
            try clear c4b0
            try clear c7
            try clear c9
            try clear c9b0
            try clear c9b1
            try clear c12
            try clear c13
            try clear c13b0
            try clear c14
            try clear c14b0
            try clear p14
            try clear q14
            try clear hx14
            try clear c19
            try clear c21
            try clear c21b0
            try clear c22
            try clear c23
            try clear c24
            try clear hcz10_0
            try clear hcz10_1
            try clear hcz11_0
            try clear hcz11_1
            try clear hcz17_0
            try clear hcz17_1
            try clear hcz20_0
            try clear hcz20_1
            try clear hcz20_10
            try clear hcz20_2
            try clear hcz20_3
            try clear hcz20_4
            try clear hcz20_5
            try clear hcz20_6
            try clear hcz20_7
            try clear hcz20_8
            try clear hcz20_9
            try clear hcz23_0
            try clear hcz23_1
            try clear hcz23_10
            try clear hcz23_2
            try clear hcz23_3
            try clear hcz23_4
            try clear hcz23_5
            try clear hcz23_6
            try clear hcz23_7
            try clear hcz23_8
            try clear hcz23_9
            try clear hcz25_0
            try clear hcz25_1
            try clear hcz25_10
            try clear hcz25_2
            try clear hcz25_3
            try clear hcz25_4
            try clear hcz25_5
            try clear hcz25_6
            try clear hcz25_7
            try clear hcz25_8
            try clear hcz25_9
            try clear hcz5_0
            try clear hcz5_1
            try clear hcz6_0
            try clear hcz6_1
            try clear hfz10_0
            try clear hfz10_1
            try clear hfz11_0
            try clear hfz11_1
            try clear hfz17_0
            try clear hfz17_1
            try clear hfz20_0
            try clear hfz20_1
            try clear hfz20_10
            try clear hfz20_2
            try clear hfz20_3
            try clear hfz20_4
            try clear hfz20_5
            try clear hfz20_6
            try clear hfz20_7
            try clear hfz20_8
            try clear hfz20_9
            try clear hfz23_0
            try clear hfz23_1
            try clear hfz23_10
            try clear hfz23_2
            try clear hfz23_3
            try clear hfz23_4
            try clear hfz23_5
            try clear hfz23_6
            try clear hfz23_7
            try clear hfz23_8
            try clear hfz23_9
            try clear hfz25_0
            try clear hfz25_1
            try clear hfz25_10
            try clear hfz25_2
            try clear hfz25_3
            try clear hfz25_4
            try clear hfz25_5
            try clear hfz25_6
            try clear hfz25_7
            try clear hfz25_8
            try clear hfz25_9
            try clear hfz5_0
            try clear hfz5_1
            try clear hfz6_0
            try clear hfz6_1
            try clear hx140_0
            try clear hx140_1
            try clear hx140_10
            try clear hx140_2
            try clear hx140_3
            try clear hx140_4
            try clear hx140_5
            try clear hx140_6
            try clear hx140_7
            try clear hx140_8
            try clear hx140_9
            try clear p140
            try clear p2
            try clear q140
            obtain ⟨kq, x7_15, rfl, HA, HJ15, BK139, BK141, HB⟩ := hcut
            cases kq with
            | zero => exact absurd HA.out (by simp [pendulumref05_Why.j3])
            | succ kj15 =>
             have H := HA.out
             clear HA
             simp only [pendulumref05_Why.j3] at H
             have H' := Aside0.mk H
             clear H
             go_wp2
             repeat (go_quiet (fail); try go_wp2)
             go_loopg [6, 7, 8] kj15 (fun kq v6 v7 v8 w' => ∃ (x6_5 : Bool) (x7_5 : Bool) (x8_5 : Int), v6 = .bool x6_5 ∧ v7 = .bool x7_5 ∧ v8 = .int .i64 x8_5 ∧ Aside0 (pendulumref05_Why.l1 kq x4_3 x6_5 x7_5 x8_5 a0_0 l0_1 ((rd_T39 l0_1 x4_3).f0) ((rd_T39 l0_1 x4_3).f1) ((rd_T39 l0_1 x4_3).f2) ((rd_T39 l0_1 x4_3).f3) ((rd_T39 l0_1 x4_3).f4) ((rd_T39 l0_1 x4_3).f5) ((rd_T39 l0_1 x4_3).f6) ((rd_T39 l0_1 x4_3).f7) ((rd_T39 l0_1 x4_3).f8) ((rd_T39 l0_1 x4_3).f9) ((rd_T39 l0_1 x4_3).f10) = some (r1, r2)) ∧ Aside0 (kq ≤ kj15) ∧ Aside0 (w'.heap[gb139]? = some (.cells #[.int .i64 a0_0, (.slice (some ad140) l0_1.length c0_1)] 24 (0, 0))) ∧ Aside0 (w'.heap[gb141]? = some (.cells #[.string ((rd_T39 l0_1 x4_3).f0), .int .i64 ((rd_T39 l0_1 x4_3).f1), .int .i64 ((rd_T39 l0_1 x4_3).f2), .int .i64 ((rd_T39 l0_1 x4_3).f3), .int .i64 ((rd_T39 l0_1 x4_3).f4), .int .i64 ((rd_T39 l0_1 x4_3).f5), .int .i64 ((rd_T39 l0_1 x4_3).f6), .int .i64 ((rd_T39 l0_1 x4_3).f7), .int .i64 ((rd_T39 l0_1 x4_3).f8), .int .i64 ((rd_T39 l0_1 x4_3).f9), .int .i64 ((rd_T39 l0_1 x4_3).f10)] 39 (0, 0))) ∧ Aside0 (Below w.heap.size w w'))
             case atStart => exact ⟨((!t142)), (x7_15), (0), (by first | rfl | (simp; done) | (simp [*]; done)), (by first | rfl | (simp; done) | (simp [*]; done)), (by first | rfl | (simp; done) | (simp [*]; done)), H', ⟨Nat.le_refl _⟩, ⟨by (with_reducible repeat (first | refine blk_drewN ?_ _ | refine blk_drew ?_ | refine blk_alloc ?_ _)); exact BK139.out⟩, ⟨by (with_reducible repeat (first | refine blk_drewN ?_ _ | refine blk_drew ?_ | refine blk_alloc ?_ _)); exact BK141.out⟩, ⟨by repeat (first | (with_reducible first | exact HB.out | apply below_alloc | apply pw_below_drewN | apply below_drew1 | refine below_set ?_ GE139.out | refine below_set ?_ GE141.out) | exact HB.out)⟩⟩
             case round => as_aux_lemma =>
              clear H'
              try clear c1
              try clear p1
              try clear q1
              try clear hx1
              try clear c2
              try clear p2
              try clear c4
              try clear c4b0
              try clear c7
              try clear c9
              try clear c9b0
              try clear c9b1
              try clear c12
              try clear c13
              try clear c13b0
              try clear c14
              try clear c14b0
              try clear p14
              try clear q14
              try clear hx14
              try clear c19
              try clear c21
              try clear c21b0
              try clear c22
              try clear c23
              try clear c24
              try clear hcz10_0
              try clear hcz10_1
              try clear hcz11_0
              try clear hcz11_1
              try clear hcz17_0
              try clear hcz17_1
              try clear hcz20_0
              try clear hcz20_1
              try clear hcz20_10
              try clear hcz20_2
              try clear hcz20_3
              try clear hcz20_4
              try clear hcz20_5
              try clear hcz20_6
              try clear hcz20_7
              try clear hcz20_8
              try clear hcz20_9
              try clear hcz23_0
              try clear hcz23_1
              try clear hcz23_10
              try clear hcz23_2
              try clear hcz23_3
              try clear hcz23_4
              try clear hcz23_5
              try clear hcz23_6
              try clear hcz23_7
              try clear hcz23_8
              try clear hcz23_9
              try clear hcz25_0
              try clear hcz25_1
              try clear hcz25_10
              try clear hcz25_2
              try clear hcz25_3
              try clear hcz25_4
              try clear hcz25_5
              try clear hcz25_6
              try clear hcz25_7
              try clear hcz25_8
              try clear hcz25_9
              try clear hcz5_0
              try clear hcz5_1
              try clear hcz6_0
              try clear hcz6_1
              try clear hfz10_0
              try clear hfz10_1
              try clear hfz11_0
              try clear hfz11_1
              try clear hfz17_0
              try clear hfz17_1
              try clear hfz20_0
              try clear hfz20_1
              try clear hfz20_10
              try clear hfz20_2
              try clear hfz20_3
              try clear hfz20_4
              try clear hfz20_5
              try clear hfz20_6
              try clear hfz20_7
              try clear hfz20_8
              try clear hfz20_9
              try clear hfz23_0
              try clear hfz23_1
              try clear hfz23_10
              try clear hfz23_2
              try clear hfz23_3
              try clear hfz23_4
              try clear hfz23_5
              try clear hfz23_6
              try clear hfz23_7
              try clear hfz23_8
              try clear hfz23_9
              try clear hfz25_0
              try clear hfz25_1
              try clear hfz25_10
              try clear hfz25_2
              try clear hfz25_3
              try clear hfz25_4
              try clear hfz25_5
              try clear hfz25_6
              try clear hfz25_7
              try clear hfz25_8
              try clear hfz25_9
              try clear hfz5_0
              try clear hfz5_1
              try clear hfz6_0
              try clear hfz6_1
              try clear hx140_0
              try clear hx140_1
              try clear hx140_10
              try clear hx140_2
              try clear hx140_3
              try clear hx140_4
              try clear hx140_5
              try clear hx140_6
              try clear hx140_7
              try clear hx140_8
              try clear hx140_9
              try clear p1
              try clear p14
              try clear p140
              try clear p2
              try clear q1
              try clear q14
              try clear q140
              obtain ⟨x6_5, x7_5, x8_5, rfl, rfl, rfl, HA, HK5, BK139, BK141, HB⟩ := hrel
              cases gk with
              | zero => exact absurd HA.out (by simp [pendulumref05_Why.l1])
              | succ k5 =>
               have H := HA.out
               clear HA
               simp only [pendulumref05_Why.l1] at H
               by_cases c26 : x8_5 < x4_3
               ·rw [if_pos c26] at H
                have c26b0 : decide (x8_5 < x4_3) = true := decide_eq_true c26
                clear c26
                by_cases c27 : x6_5 = true
                ·subst c27
                 have H1 : (if x7_5 = true then (pendulumref05_Why.l1 k5 x4_3 true true (wrap64 (x8_5 + 1)) a0_0 l0_1 ((rd_T39 l0_1 x4_3).f0) ((rd_T39 l0_1 x4_3).f1) ((rd_T39 l0_1 x4_3).f2) ((rd_T39 l0_1 x4_3).f3) ((rd_T39 l0_1 x4_3).f4) ((rd_T39 l0_1 x4_3).f5) ((rd_T39 l0_1 x4_3).f6) ((rd_T39 l0_1 x4_3).f7) ((rd_T39 l0_1 x4_3).f8) ((rd_T39 l0_1 x4_3).f9) ((rd_T39 l0_1 x4_3).f10)) else (if 0 ≤ x8_5 then (if x8_5 < (l0_1.length : Int) then (pendulumref05_Why.l1 k5 x4_3 true (((rd_T39 l0_1 x8_5).f10) == ((rd_T39 l0_1 x4_3).f10)) (wrap64 (x8_5 + 1)) a0_0 l0_1 ((rd_T39 l0_1 x4_3).f0) ((rd_T39 l0_1 x4_3).f1) ((rd_T39 l0_1 x4_3).f2) ((rd_T39 l0_1 x4_3).f3) ((rd_T39 l0_1 x4_3).f4) ((rd_T39 l0_1 x4_3).f5) ((rd_T39 l0_1 x4_3).f6) ((rd_T39 l0_1 x4_3).f7) ((rd_T39 l0_1 x4_3).f8) ((rd_T39 l0_1 x4_3).f9) ((rd_T39 l0_1 x4_3).f10)) else (none)) else (none))) = some (r1, r2) := by rw [if_pos rfl] at H; exact H
                 clear H
                 have H := H1
                 clear H1
                 by_cases c28 : x7_5 = true
                 ·subst c28
                  have H1 : (pendulumref05_Why.l1 k5 x4_3 true true (wrap64 (x8_5 + 1)) a0_0 l0_1 ((rd_T39 l0_1 x4_3).f0) ((rd_T39 l0_1 x4_3).f1) ((rd_T39 l0_1 x4_3).f2) ((rd_T39 l0_1 x4_3).f3) ((rd_T39 l0_1 x4_3).f4) ((rd_T39 l0_1 x4_3).f5) ((rd_T39 l0_1 x4_3).f6) ((rd_T39 l0_1 x4_3).f7) ((rd_T39 l0_1 x4_3).f8) ((rd_T39 l0_1 x4_3).f9) ((rd_T39 l0_1 x4_3).f10)) = some (r1, r2) := by rw [if_pos rfl] at H; exact H
                  clear H
                  have H := H1
                  clear H1
                  have H' := Aside0.mk H
                  clear H
                  go_wp2
                  repeat (go_quiet (fail); try go_wp2)
                  go_roundg k5
                  case measure => have := HJ1.out; have := HJ7.out; have := HK3.out; have := HJ15.out; have := HK5.out; omega
                  case rel => exact ⟨(true), (true), (wrap64 (x8_5 + 1)), (by first | rfl | (simp; done) | (simp [*]; done)), (by first | rfl | (simp; done) | (simp [*]; done)), (by first | rfl | (simp; done) | (simp [*]; done)), H', ⟨by have := HJ1.out; have := HJ7.out; have := HK3.out; have := HJ15.out; have := HK5.out; omega⟩, ⟨by (with_reducible repeat (first | refine blk_drewN ?_ _ | refine blk_drew ?_ | refine blk_alloc ?_ _)); exact BK139.out⟩, ⟨by (with_reducible repeat (first | refine blk_drewN ?_ _ | refine blk_drew ?_ | refine blk_alloc ?_ _)); exact BK141.out⟩, ⟨by repeat (first | (with_reducible first | exact HB.out | apply below_alloc | apply pw_below_drewN | apply below_drew1 | refine below_set ?_ GE139.out | refine below_set ?_ GE141.out) | exact HB.out)⟩⟩
                 ·replace c28 := Bool.eq_false_iff.mpr c28
                  subst c28
                  have H1 : (if 0 ≤ x8_5 then (if x8_5 < (l0_1.length : Int) then (pendulumref05_Why.l1 k5 x4_3 true (((rd_T39 l0_1 x8_5).f10) == ((rd_T39 l0_1 x4_3).f10)) (wrap64 (x8_5 + 1)) a0_0 l0_1 ((rd_T39 l0_1 x4_3).f0) ((rd_T39 l0_1 x4_3).f1) ((rd_T39 l0_1 x4_3).f2) ((rd_T39 l0_1 x4_3).f3) ((rd_T39 l0_1 x4_3).f4) ((rd_T39 l0_1 x4_3).f5) ((rd_T39 l0_1 x4_3).f6) ((rd_T39 l0_1 x4_3).f7) ((rd_T39 l0_1 x4_3).f8) ((rd_T39 l0_1 x4_3).f9) ((rd_T39 l0_1 x4_3).f10)) else (none)) else (none)) = some (r1, r2) := by rw [if_neg (show ¬ (false = true) by decide)] at H; exact H
                  clear H
                  have H := H1
                  clear H1
                  by_cases c29 : 0 ≤ x8_5
                  ·rw [if_pos c29] at H
                   have c29b0 : decide (0 ≤ x8_5) = true := decide_eq_true c29
                   clear c29
                   by_cases c30 : x8_5 < (l0_1.length : Int)
                   ·rw [if_pos c30] at H
                    have c30b0 : decide (x8_5 < (l0_1.length : Int)) = true := decide_eq_true c30
                    clear c30
                    have H' := Aside0.mk H
                    clear H
                    have hnb31 := NB139_141.out
                    have hnc31 := NB141_139.out
                    have hcz32_0 : wr.cell? ⟨gb139, 0, none⟩ = some (.int .i64 a0_0) := (blk_cell BK139.out 0).trans rfl
                    have hcz32_1 : wr.cell? ⟨gb139, 1, none⟩ = some (.slice (some ad140) l0_1.length c0_1) := (blk_cell BK139.out 1).trans rfl
                    have hfz32_0 := blk_frozen BK139.out 0
                    have hfz32_1 := blk_frozen BK139.out 1
                    have p143 : 0 ≤ (x8_5 : Int) := of_decide_eq_true (by first | (with_reducible assumption) | assumption)
                    have q143 : x8_5 < (l0_1.length : Int) := of_decide_eq_true (by first | (with_reducible assumption) | assumption)
                    obtain ⟨ad143, e143, hx143_0, hx143_1, hx143_2, hx143_3, hx143_4, hx143_5, hx143_6, hx143_7, hx143_8, hx143_9, hx143_10⟩ := at_T39 HR0_1.out x8_5 p143 q143
                    obtain rfl : ad140 = ad143 := (by injection e143)
                    replace hx143_0 := (HB.out.cell (World.block_lt_of_cell? w _ hx143_0)).trans hx143_0
                    replace hx143_1 := (HB.out.cell (World.block_lt_of_cell? w _ hx143_1)).trans hx143_1
                    replace hx143_2 := (HB.out.cell (World.block_lt_of_cell? w _ hx143_2)).trans hx143_2
                    replace hx143_3 := (HB.out.cell (World.block_lt_of_cell? w _ hx143_3)).trans hx143_3
                    replace hx143_4 := (HB.out.cell (World.block_lt_of_cell? w _ hx143_4)).trans hx143_4
                    replace hx143_5 := (HB.out.cell (World.block_lt_of_cell? w _ hx143_5)).trans hx143_5
                    replace hx143_6 := (HB.out.cell (World.block_lt_of_cell? w _ hx143_6)).trans hx143_6
                    replace hx143_7 := (HB.out.cell (World.block_lt_of_cell? w _ hx143_7)).trans hx143_7
                    replace hx143_8 := (HB.out.cell (World.block_lt_of_cell? w _ hx143_8)).trans hx143_8
                    replace hx143_9 := (HB.out.cell (World.block_lt_of_cell? w _ hx143_9)).trans hx143_9
                    replace hx143_10 := (HB.out.cell (World.block_lt_of_cell? w _ hx143_10)).trans hx143_10
                    replace p143 := eq_true p143
                    replace q143 := eq_true q143
                    have hcz33_0 : wr.cell? ⟨gb141, 0, none⟩ = some (.string ((rd_T39 l0_1 x4_3).f0)) := (blk_cell BK141.out 0).trans rfl
                    have hcz33_1 : wr.cell? ⟨gb141, 1, none⟩ = some (.int .i64 ((rd_T39 l0_1 x4_3).f1)) := (blk_cell BK141.out 1).trans rfl
                    have hcz33_2 : wr.cell? ⟨gb141, 2, none⟩ = some (.int .i64 ((rd_T39 l0_1 x4_3).f2)) := (blk_cell BK141.out 2).trans rfl
                    have hcz33_3 : wr.cell? ⟨gb141, 3, none⟩ = some (.int .i64 ((rd_T39 l0_1 x4_3).f3)) := (blk_cell BK141.out 3).trans rfl
                    have hcz33_4 : wr.cell? ⟨gb141, 4, none⟩ = some (.int .i64 ((rd_T39 l0_1 x4_3).f4)) := (blk_cell BK141.out 4).trans rfl
                    have hcz33_5 : wr.cell? ⟨gb141, 5, none⟩ = some (.int .i64 ((rd_T39 l0_1 x4_3).f5)) := (blk_cell BK141.out 5).trans rfl
                    have hcz33_6 : wr.cell? ⟨gb141, 6, none⟩ = some (.int .i64 ((rd_T39 l0_1 x4_3).f6)) := (blk_cell BK141.out 6).trans rfl
                    have hcz33_7 : wr.cell? ⟨gb141, 7, none⟩ = some (.int .i64 ((rd_T39 l0_1 x4_3).f7)) := (blk_cell BK141.out 7).trans rfl
                    have hcz33_8 : wr.cell? ⟨gb141, 8, none⟩ = some (.int .i64 ((rd_T39 l0_1 x4_3).f8)) := (blk_cell BK141.out 8).trans rfl
                    have hcz33_9 : wr.cell? ⟨gb141, 9, none⟩ = some (.int .i64 ((rd_T39 l0_1 x4_3).f9)) := (blk_cell BK141.out 9).trans rfl
                    have hcz33_10 : wr.cell? ⟨gb141, 10, none⟩ = some (.int .i64 ((rd_T39 l0_1 x4_3).f10)) := (blk_cell BK141.out 10).trans rfl
                    have hfz33_0 := blk_frozen BK141.out 0
                    have hfz33_1 := blk_frozen BK141.out 1
                    have hfz33_2 := blk_frozen BK141.out 2
                    have hfz33_3 := blk_frozen BK141.out 3
                    have hfz33_4 := blk_frozen BK141.out 4
                    have hfz33_5 := blk_frozen BK141.out 5
                    have hfz33_6 := blk_frozen BK141.out 6
                    have hfz33_7 := blk_frozen BK141.out 7
                    have hfz33_8 := blk_frozen BK141.out 8
                    have hfz33_9 := blk_frozen BK141.out 9
                    have hfz33_10 := blk_frozen BK141.out 10
                    go_wp2
                    repeat (go_quiet (fail); try go_wp2)
                    go_roundg k5
                    case measure => have := HJ1.out; have := HJ7.out; have := HK3.out; have := HJ15.out; have := HK5.out; omega
                    case rel => exact ⟨(true), ((((rd_T39 l0_1 x8_5).f10) == ((rd_T39 l0_1 x4_3).f10))), (wrap64 (x8_5 + 1)), (by first | rfl | (simp; done) | (simp [*]; done)), (by first | rfl | (simp; done) | (simp [*]; done)), (by first | rfl | (simp; done) | (simp [*]; done)), H', ⟨by have := HJ1.out; have := HJ7.out; have := HK3.out; have := HJ15.out; have := HK5.out; omega⟩, ⟨by (with_reducible repeat (first | refine blk_drewN ?_ _ | refine blk_drew ?_ | refine blk_alloc ?_ _)); exact BK139.out⟩, ⟨by (with_reducible repeat (first | refine blk_drewN ?_ _ | refine blk_drew ?_ | refine blk_alloc ?_ _)); exact BK141.out⟩, ⟨by repeat (first | (with_reducible first | exact HB.out | apply below_alloc | apply pw_below_drewN | apply below_drew1 | refine below_set ?_ GE139.out | refine below_set ?_ GE141.out) | exact HB.out)⟩⟩
                   ·rw [if_neg c30] at H
                    exact absurd H (by simp)
                  ·rw [if_neg c29] at H
                   exact absurd H (by simp)
                ·replace c27 := Bool.eq_false_iff.mpr c27
                 subst c27
                 have H1 : (if 0 ≤ x8_5 then (if x8_5 < (l0_1.length : Int) then (if x7_5 = true then (pendulumref05_Why.l1 k5 x4_3 (((rd_T39 l0_1 x8_5).f0).toList == ((rd_T39 l0_1 x4_3).f0).toList) true (wrap64 (x8_5 + 1)) a0_0 l0_1 ((rd_T39 l0_1 x4_3).f0) ((rd_T39 l0_1 x4_3).f1) ((rd_T39 l0_1 x4_3).f2) ((rd_T39 l0_1 x4_3).f3) ((rd_T39 l0_1 x4_3).f4) ((rd_T39 l0_1 x4_3).f5) ((rd_T39 l0_1 x4_3).f6) ((rd_T39 l0_1 x4_3).f7) ((rd_T39 l0_1 x4_3).f8) ((rd_T39 l0_1 x4_3).f9) ((rd_T39 l0_1 x4_3).f10)) else (pendulumref05_Why.l1 k5 x4_3 (((rd_T39 l0_1 x8_5).f0).toList == ((rd_T39 l0_1 x4_3).f0).toList) (((rd_T39 l0_1 x8_5).f10) == ((rd_T39 l0_1 x4_3).f10)) (wrap64 (x8_5 + 1)) a0_0 l0_1 ((rd_T39 l0_1 x4_3).f0) ((rd_T39 l0_1 x4_3).f1) ((rd_T39 l0_1 x4_3).f2) ((rd_T39 l0_1 x4_3).f3) ((rd_T39 l0_1 x4_3).f4) ((rd_T39 l0_1 x4_3).f5) ((rd_T39 l0_1 x4_3).f6) ((rd_T39 l0_1 x4_3).f7) ((rd_T39 l0_1 x4_3).f8) ((rd_T39 l0_1 x4_3).f9) ((rd_T39 l0_1 x4_3).f10))) else (none)) else (none)) = some (r1, r2) := by rw [if_neg (show ¬ (false = true) by decide)] at H; exact H
                 clear H
                 have H := H1
                 clear H1
                 by_cases c34 : 0 ≤ x8_5
                 ·rw [if_pos c34] at H
                  have c34b0 : decide (0 ≤ x8_5) = true := decide_eq_true c34
                  clear c34
                  by_cases c35 : x8_5 < (l0_1.length : Int)
                  ·rw [if_pos c35] at H
                   have c35b0 : decide (x8_5 < (l0_1.length : Int)) = true := decide_eq_true c35
                   clear c35
                   by_cases c36 : x7_5 = true
                   ·subst c36
                    have H1 : (pendulumref05_Why.l1 k5 x4_3 (((rd_T39 l0_1 x8_5).f0).toList == ((rd_T39 l0_1 x4_3).f0).toList) true (wrap64 (x8_5 + 1)) a0_0 l0_1 ((rd_T39 l0_1 x4_3).f0) ((rd_T39 l0_1 x4_3).f1) ((rd_T39 l0_1 x4_3).f2) ((rd_T39 l0_1 x4_3).f3) ((rd_T39 l0_1 x4_3).f4) ((rd_T39 l0_1 x4_3).f5) ((rd_T39 l0_1 x4_3).f6) ((rd_T39 l0_1 x4_3).f7) ((rd_T39 l0_1 x4_3).f8) ((rd_T39 l0_1 x4_3).f9) ((rd_T39 l0_1 x4_3).f10)) = some (r1, r2) := by rw [if_pos rfl] at H; exact H
                    clear H
                    have H := H1
                    clear H1
                    have H' := Aside0.mk H
                    clear H
                    have hnb37 := NB139_141.out
                    have hnc37 := NB141_139.out
                    have hcz38_0 : wr.cell? ⟨gb139, 0, none⟩ = some (.int .i64 a0_0) := (blk_cell BK139.out 0).trans rfl
                    have hcz38_1 : wr.cell? ⟨gb139, 1, none⟩ = some (.slice (some ad140) l0_1.length c0_1) := (blk_cell BK139.out 1).trans rfl
                    have hfz38_0 := blk_frozen BK139.out 0
                    have hfz38_1 := blk_frozen BK139.out 1
                    have p144 : 0 ≤ (x8_5 : Int) := of_decide_eq_true (by first | (with_reducible assumption) | assumption)
                    have q144 : x8_5 < (l0_1.length : Int) := of_decide_eq_true (by first | (with_reducible assumption) | assumption)
                    obtain ⟨ad144, e144, hx144_0, hx144_1, hx144_2, hx144_3, hx144_4, hx144_5, hx144_6, hx144_7, hx144_8, hx144_9, hx144_10⟩ := at_T39 HR0_1.out x8_5 p144 q144
                    obtain rfl : ad140 = ad144 := (by injection e144)
                    replace hx144_0 := (HB.out.cell (World.block_lt_of_cell? w _ hx144_0)).trans hx144_0
                    replace hx144_1 := (HB.out.cell (World.block_lt_of_cell? w _ hx144_1)).trans hx144_1
                    replace hx144_2 := (HB.out.cell (World.block_lt_of_cell? w _ hx144_2)).trans hx144_2
                    replace hx144_3 := (HB.out.cell (World.block_lt_of_cell? w _ hx144_3)).trans hx144_3
                    replace hx144_4 := (HB.out.cell (World.block_lt_of_cell? w _ hx144_4)).trans hx144_4
                    replace hx144_5 := (HB.out.cell (World.block_lt_of_cell? w _ hx144_5)).trans hx144_5
                    replace hx144_6 := (HB.out.cell (World.block_lt_of_cell? w _ hx144_6)).trans hx144_6
                    replace hx144_7 := (HB.out.cell (World.block_lt_of_cell? w _ hx144_7)).trans hx144_7
                    replace hx144_8 := (HB.out.cell (World.block_lt_of_cell? w _ hx144_8)).trans hx144_8
                    replace hx144_9 := (HB.out.cell (World.block_lt_of_cell? w _ hx144_9)).trans hx144_9
                    replace hx144_10 := (HB.out.cell (World.block_lt_of_cell? w _ hx144_10)).trans hx144_10
                    replace p144 := eq_true p144
                    replace q144 := eq_true q144
                    have hcz39_0 : wr.cell? ⟨gb141, 0, none⟩ = some (.string ((rd_T39 l0_1 x4_3).f0)) := (blk_cell BK141.out 0).trans rfl
                    have hcz39_1 : wr.cell? ⟨gb141, 1, none⟩ = some (.int .i64 ((rd_T39 l0_1 x4_3).f1)) := (blk_cell BK141.out 1).trans rfl
                    have hcz39_2 : wr.cell? ⟨gb141, 2, none⟩ = some (.int .i64 ((rd_T39 l0_1 x4_3).f2)) := (blk_cell BK141.out 2).trans rfl
                    have hcz39_3 : wr.cell? ⟨gb141, 3, none⟩ = some (.int .i64 ((rd_T39 l0_1 x4_3).f3)) := (blk_cell BK141.out 3).trans rfl
                    have hcz39_4 : wr.cell? ⟨gb141, 4, none⟩ = some (.int .i64 ((rd_T39 l0_1 x4_3).f4)) := (blk_cell BK141.out 4).trans rfl
                    have hcz39_5 : wr.cell? ⟨gb141, 5, none⟩ = some (.int .i64 ((rd_T39 l0_1 x4_3).f5)) := (blk_cell BK141.out 5).trans rfl
                    have hcz39_6 : wr.cell? ⟨gb141, 6, none⟩ = some (.int .i64 ((rd_T39 l0_1 x4_3).f6)) := (blk_cell BK141.out 6).trans rfl
                    have hcz39_7 : wr.cell? ⟨gb141, 7, none⟩ = some (.int .i64 ((rd_T39 l0_1 x4_3).f7)) := (blk_cell BK141.out 7).trans rfl
                    have hcz39_8 : wr.cell? ⟨gb141, 8, none⟩ = some (.int .i64 ((rd_T39 l0_1 x4_3).f8)) := (blk_cell BK141.out 8).trans rfl
                    have hcz39_9 : wr.cell? ⟨gb141, 9, none⟩ = some (.int .i64 ((rd_T39 l0_1 x4_3).f9)) := (blk_cell BK141.out 9).trans rfl
                    have hcz39_10 : wr.cell? ⟨gb141, 10, none⟩ = some (.int .i64 ((rd_T39 l0_1 x4_3).f10)) := (blk_cell BK141.out 10).trans rfl
                    have hfz39_0 := blk_frozen BK141.out 0
                    have hfz39_1 := blk_frozen BK141.out 1
                    have hfz39_2 := blk_frozen BK141.out 2
                    have hfz39_3 := blk_frozen BK141.out 3
                    have hfz39_4 := blk_frozen BK141.out 4
                    have hfz39_5 := blk_frozen BK141.out 5
                    have hfz39_6 := blk_frozen BK141.out 6
                    have hfz39_7 := blk_frozen BK141.out 7
                    have hfz39_8 := blk_frozen BK141.out 8
                    have hfz39_9 := blk_frozen BK141.out 9
                    have hfz39_10 := blk_frozen BK141.out 10
                    go_wp2
                    repeat (go_quiet (fail); try go_wp2)
                    go_roundg k5
                    case measure => have := HJ1.out; have := HJ7.out; have := HK3.out; have := HJ15.out; have := HK5.out; omega
                    case rel => exact ⟨((((rd_T39 l0_1 x8_5).f0).toList == ((rd_T39 l0_1 x4_3).f0).toList)), (true), (wrap64 (x8_5 + 1)), (by first | rfl | (simp; done) | (simp [*]; done)), (by first | rfl | (simp; done) | (simp [*]; done)), (by first | rfl | (simp; done) | (simp [*]; done)), H', ⟨by have := HJ1.out; have := HJ7.out; have := HK3.out; have := HJ15.out; have := HK5.out; omega⟩, ⟨by (with_reducible repeat (first | refine blk_drewN ?_ _ | refine blk_drew ?_ | refine blk_alloc ?_ _)); exact BK139.out⟩, ⟨by (with_reducible repeat (first | refine blk_drewN ?_ _ | refine blk_drew ?_ | refine blk_alloc ?_ _)); exact BK141.out⟩, ⟨by repeat (first | (with_reducible first | exact HB.out | apply below_alloc | apply pw_below_drewN | apply below_drew1 | refine below_set ?_ GE139.out | refine below_set ?_ GE141.out) | exact HB.out)⟩⟩
                   ·replace c36 := Bool.eq_false_iff.mpr c36
                    subst c36
                    have H1 : (pendulumref05_Why.l1 k5 x4_3 (((rd_T39 l0_1 x8_5).f0).toList == ((rd_T39 l0_1 x4_3).f0).toList) (((rd_T39 l0_1 x8_5).f10) == ((rd_T39 l0_1 x4_3).f10)) (wrap64 (x8_5 + 1)) a0_0 l0_1 ((rd_T39 l0_1 x4_3).f0) ((rd_T39 l0_1 x4_3).f1) ((rd_T39 l0_1 x4_3).f2) ((rd_T39 l0_1 x4_3).f3) ((rd_T39 l0_1 x4_3).f4) ((rd_T39 l0_1 x4_3).f5) ((rd_T39 l0_1 x4_3).f6) ((rd_T39 l0_1 x4_3).f7) ((rd_T39 l0_1 x4_3).f8) ((rd_T39 l0_1 x4_3).f9) ((rd_T39 l0_1 x4_3).f10)) = some (r1, r2) := by rw [if_neg (show ¬ (false = true) by decide)] at H; exact H
                    clear H
                    have H := H1
                    clear H1
                    have H' := Aside0.mk H
                    clear H
                    have hnb40 := NB139_141.out
                    have hnc40 := NB141_139.out
                    have hcz41_0 : wr.cell? ⟨gb139, 0, none⟩ = some (.int .i64 a0_0) := (blk_cell BK139.out 0).trans rfl
                    have hcz41_1 : wr.cell? ⟨gb139, 1, none⟩ = some (.slice (some ad140) l0_1.length c0_1) := (blk_cell BK139.out 1).trans rfl
                    have hfz41_0 := blk_frozen BK139.out 0
                    have hfz41_1 := blk_frozen BK139.out 1
                    have p144 : 0 ≤ (x8_5 : Int) := of_decide_eq_true (by first | (with_reducible assumption) | assumption)
                    have q144 : x8_5 < (l0_1.length : Int) := of_decide_eq_true (by first | (with_reducible assumption) | assumption)
                    obtain ⟨ad144, e144, hx144_0, hx144_1, hx144_2, hx144_3, hx144_4, hx144_5, hx144_6, hx144_7, hx144_8, hx144_9, hx144_10⟩ := at_T39 HR0_1.out x8_5 p144 q144
                    obtain rfl : ad140 = ad144 := (by injection e144)
                    replace hx144_0 := (HB.out.cell (World.block_lt_of_cell? w _ hx144_0)).trans hx144_0
                    replace hx144_1 := (HB.out.cell (World.block_lt_of_cell? w _ hx144_1)).trans hx144_1
                    replace hx144_2 := (HB.out.cell (World.block_lt_of_cell? w _ hx144_2)).trans hx144_2
                    replace hx144_3 := (HB.out.cell (World.block_lt_of_cell? w _ hx144_3)).trans hx144_3
                    replace hx144_4 := (HB.out.cell (World.block_lt_of_cell? w _ hx144_4)).trans hx144_4
                    replace hx144_5 := (HB.out.cell (World.block_lt_of_cell? w _ hx144_5)).trans hx144_5
                    replace hx144_6 := (HB.out.cell (World.block_lt_of_cell? w _ hx144_6)).trans hx144_6
                    replace hx144_7 := (HB.out.cell (World.block_lt_of_cell? w _ hx144_7)).trans hx144_7
                    replace hx144_8 := (HB.out.cell (World.block_lt_of_cell? w _ hx144_8)).trans hx144_8
                    replace hx144_9 := (HB.out.cell (World.block_lt_of_cell? w _ hx144_9)).trans hx144_9
                    replace hx144_10 := (HB.out.cell (World.block_lt_of_cell? w _ hx144_10)).trans hx144_10
                    replace p144 := eq_true p144
                    replace q144 := eq_true q144
                    have hcz42_0 : wr.cell? ⟨gb141, 0, none⟩ = some (.string ((rd_T39 l0_1 x4_3).f0)) := (blk_cell BK141.out 0).trans rfl
                    have hcz42_1 : wr.cell? ⟨gb141, 1, none⟩ = some (.int .i64 ((rd_T39 l0_1 x4_3).f1)) := (blk_cell BK141.out 1).trans rfl
                    have hcz42_2 : wr.cell? ⟨gb141, 2, none⟩ = some (.int .i64 ((rd_T39 l0_1 x4_3).f2)) := (blk_cell BK141.out 2).trans rfl
                    have hcz42_3 : wr.cell? ⟨gb141, 3, none⟩ = some (.int .i64 ((rd_T39 l0_1 x4_3).f3)) := (blk_cell BK141.out 3).trans rfl
                    have hcz42_4 : wr.cell? ⟨gb141, 4, none⟩ = some (.int .i64 ((rd_T39 l0_1 x4_3).f4)) := (blk_cell BK141.out 4).trans rfl
                    have hcz42_5 : wr.cell? ⟨gb141, 5, none⟩ = some (.int .i64 ((rd_T39 l0_1 x4_3).f5)) := (blk_cell BK141.out 5).trans rfl
                    have hcz42_6 : wr.cell? ⟨gb141, 6, none⟩ = some (.int .i64 ((rd_T39 l0_1 x4_3).f6)) := (blk_cell BK141.out 6).trans rfl
                    have hcz42_7 : wr.cell? ⟨gb141, 7, none⟩ = some (.int .i64 ((rd_T39 l0_1 x4_3).f7)) := (blk_cell BK141.out 7).trans rfl
                    have hcz42_8 : wr.cell? ⟨gb141, 8, none⟩ = some (.int .i64 ((rd_T39 l0_1 x4_3).f8)) := (blk_cell BK141.out 8).trans rfl
                    have hcz42_9 : wr.cell? ⟨gb141, 9, none⟩ = some (.int .i64 ((rd_T39 l0_1 x4_3).f9)) := (blk_cell BK141.out 9).trans rfl
                    have hcz42_10 : wr.cell? ⟨gb141, 10, none⟩ = some (.int .i64 ((rd_T39 l0_1 x4_3).f10)) := (blk_cell BK141.out 10).trans rfl
                    have hfz42_0 := blk_frozen BK141.out 0
                    have hfz42_1 := blk_frozen BK141.out 1
                    have hfz42_2 := blk_frozen BK141.out 2
                    have hfz42_3 := blk_frozen BK141.out 3
                    have hfz42_4 := blk_frozen BK141.out 4
                    have hfz42_5 := blk_frozen BK141.out 5
                    have hfz42_6 := blk_frozen BK141.out 6
                    have hfz42_7 := blk_frozen BK141.out 7
                    have hfz42_8 := blk_frozen BK141.out 8
                    have hfz42_9 := blk_frozen BK141.out 9
                    have hfz42_10 := blk_frozen BK141.out 10
                    have p145 : 0 ≤ (x8_5 : Int) := of_decide_eq_true (by first | (with_reducible assumption) | assumption)
                    have q145 : x8_5 < (l0_1.length : Int) := of_decide_eq_true (by first | (with_reducible assumption) | assumption)
                    obtain ⟨ad145, e145, hx145_0, hx145_1, hx145_2, hx145_3, hx145_4, hx145_5, hx145_6, hx145_7, hx145_8, hx145_9, hx145_10⟩ := at_T39 HR0_1.out x8_5 p145 q145
                    obtain rfl : ad140 = ad145 := (by injection e145)
                    replace hx145_0 := (HB.out.cell (World.block_lt_of_cell? w _ hx145_0)).trans hx145_0
                    replace hx145_1 := (HB.out.cell (World.block_lt_of_cell? w _ hx145_1)).trans hx145_1
                    replace hx145_2 := (HB.out.cell (World.block_lt_of_cell? w _ hx145_2)).trans hx145_2
                    replace hx145_3 := (HB.out.cell (World.block_lt_of_cell? w _ hx145_3)).trans hx145_3
                    replace hx145_4 := (HB.out.cell (World.block_lt_of_cell? w _ hx145_4)).trans hx145_4
                    replace hx145_5 := (HB.out.cell (World.block_lt_of_cell? w _ hx145_5)).trans hx145_5
                    replace hx145_6 := (HB.out.cell (World.block_lt_of_cell? w _ hx145_6)).trans hx145_6
                    replace hx145_7 := (HB.out.cell (World.block_lt_of_cell? w _ hx145_7)).trans hx145_7
                    replace hx145_8 := (HB.out.cell (World.block_lt_of_cell? w _ hx145_8)).trans hx145_8
                    replace hx145_9 := (HB.out.cell (World.block_lt_of_cell? w _ hx145_9)).trans hx145_9
                    replace hx145_10 := (HB.out.cell (World.block_lt_of_cell? w _ hx145_10)).trans hx145_10
                    replace p145 := eq_true p145
                    replace q145 := eq_true q145
                    go_wp2
                    repeat (go_quiet (fail); try go_wp2)
                    go_roundg k5
                    case measure => have := HJ1.out; have := HJ7.out; have := HK3.out; have := HJ15.out; have := HK5.out; omega
                    case rel => exact ⟨((((rd_T39 l0_1 x8_5).f0).toList == ((rd_T39 l0_1 x4_3).f0).toList)), ((((rd_T39 l0_1 x8_5).f10) == ((rd_T39 l0_1 x4_3).f10))), (wrap64 (x8_5 + 1)), (by first | rfl | (simp; done) | (simp [*]; done)), (by first | rfl | (simp; done) | (simp [*]; done)), (by first | rfl | (simp; done) | (simp [*]; done)), H', ⟨by have := HJ1.out; have := HJ7.out; have := HK3.out; have := HJ15.out; have := HK5.out; omega⟩, ⟨by (with_reducible repeat (first | refine blk_drewN ?_ _ | refine blk_drew ?_ | refine blk_alloc ?_ _)); exact BK139.out⟩, ⟨by (with_reducible repeat (first | refine blk_drewN ?_ _ | refine blk_drew ?_ | refine blk_alloc ?_ _)); exact BK141.out⟩, ⟨by repeat (first | (with_reducible first | exact HB.out | apply below_alloc | apply pw_below_drewN | apply below_drew1 | refine below_set ?_ GE139.out | refine below_set ?_ GE141.out) | exact HB.out)⟩⟩
                  ·rw [if_neg c35] at H
                   exact absurd H (by simp)
                 ·rw [if_neg c34] at H
                  exact absurd H (by simp)
               ·rw [if_neg c26] at H
                have c26b0 : decide (x8_5 < x4_3) = false := decide_eq_false c26
                clear c26
                have HC43 := Aside0.mk H
                clear H
                go_upto_region 16 with (fail)
                repeat (go_quiet (fail); go_upto_region 16 with (fail))
                go_cut [9] (fun v9 wc => ∃ (kq : Nat) (x9_42 : Bool), v9 = .bool x9_42 ∧ Aside0 (pendulumref05_Why.j5 kq x4_3 x6_5 x7_5 x9_42 a0_0 l0_1 ((rd_T39 l0_1 x4_3).f0) ((rd_T39 l0_1 x4_3).f1) ((rd_T39 l0_1 x4_3).f2) ((rd_T39 l0_1 x4_3).f3) ((rd_T39 l0_1 x4_3).f4) ((rd_T39 l0_1 x4_3).f5) ((rd_T39 l0_1 x4_3).f6) ((rd_T39 l0_1 x4_3).f7) ((rd_T39 l0_1 x4_3).f8) ((rd_T39 l0_1 x4_3).f9) ((rd_T39 l0_1 x4_3).f10) = some (r1, r2)) ∧ Aside0 (kq ≤ k5) ∧ Aside0 (wc.heap[gb139]? = some (.cells #[.int .i64 a0_0, (.slice (some ad140) l0_1.length c0_1)] 24 (0, 0))) ∧ Aside0 (wc.heap[gb141]? = some (.cells #[.string ((rd_T39 l0_1 x4_3).f0), .int .i64 ((rd_T39 l0_1 x4_3).f1), .int .i64 ((rd_T39 l0_1 x4_3).f2), .int .i64 ((rd_T39 l0_1 x4_3).f3), .int .i64 ((rd_T39 l0_1 x4_3).f4), .int .i64 ((rd_T39 l0_1 x4_3).f5), .int .i64 ((rd_T39 l0_1 x4_3).f6), .int .i64 ((rd_T39 l0_1 x4_3).f7), .int .i64 ((rd_T39 l0_1 x4_3).f8), .int .i64 ((rd_T39 l0_1 x4_3).f9), .int .i64 ((rd_T39 l0_1 x4_3).f10)] 39 (0, 0))) ∧ Aside0 (Below w.heap.size w wc))
                case first => as_aux_lemma =>
                 have H := HC43.out
                 clear HC43
                 by_cases c44 : ((rd_T39 l0_1 x4_3).f9) < 1
                 ·rw [if_pos c44] at H
                  have c44b0 : decide (((rd_T39 l0_1 x4_3).f9) < 1) = true := decide_eq_true c44
                  clear c44
                  (first | rw [c44b0] | (simp only [i64_w, i32_w]; rw [c44b0]) | skip)
                  have H' := Aside0.mk H
                  clear H
                  have hnb45 := NB141_139.out
                  have hnc45 := NB139_141.out
                  have hcz46_0 : wr.cell? ⟨gb141, 0, none⟩ = some (.string ((rd_T39 l0_1 x4_3).f0)) := (blk_cell BK141.out 0).trans rfl
                  have hcz46_1 : wr.cell? ⟨gb141, 1, none⟩ = some (.int .i64 ((rd_T39 l0_1 x4_3).f1)) := (blk_cell BK141.out 1).trans rfl
                  have hcz46_2 : wr.cell? ⟨gb141, 2, none⟩ = some (.int .i64 ((rd_T39 l0_1 x4_3).f2)) := (blk_cell BK141.out 2).trans rfl
                  have hcz46_3 : wr.cell? ⟨gb141, 3, none⟩ = some (.int .i64 ((rd_T39 l0_1 x4_3).f3)) := (blk_cell BK141.out 3).trans rfl
                  have hcz46_4 : wr.cell? ⟨gb141, 4, none⟩ = some (.int .i64 ((rd_T39 l0_1 x4_3).f4)) := (blk_cell BK141.out 4).trans rfl
                  have hcz46_5 : wr.cell? ⟨gb141, 5, none⟩ = some (.int .i64 ((rd_T39 l0_1 x4_3).f5)) := (blk_cell BK141.out 5).trans rfl
                  have hcz46_6 : wr.cell? ⟨gb141, 6, none⟩ = some (.int .i64 ((rd_T39 l0_1 x4_3).f6)) := (blk_cell BK141.out 6).trans rfl
                  have hcz46_7 : wr.cell? ⟨gb141, 7, none⟩ = some (.int .i64 ((rd_T39 l0_1 x4_3).f7)) := (blk_cell BK141.out 7).trans rfl
                  have hcz46_8 : wr.cell? ⟨gb141, 8, none⟩ = some (.int .i64 ((rd_T39 l0_1 x4_3).f8)) := (blk_cell BK141.out 8).trans rfl
                  have hcz46_9 : wr.cell? ⟨gb141, 9, none⟩ = some (.int .i64 ((rd_T39 l0_1 x4_3).f9)) := (blk_cell BK141.out 9).trans rfl
                  have hcz46_10 : wr.cell? ⟨gb141, 10, none⟩ = some (.int .i64 ((rd_T39 l0_1 x4_3).f10)) := (blk_cell BK141.out 10).trans rfl
                  have hfz46_0 := blk_frozen BK141.out 0
                  have hfz46_1 := blk_frozen BK141.out 1
                  have hfz46_2 := blk_frozen BK141.out 2
                  have hfz46_3 := blk_frozen BK141.out 3
                  have hfz46_4 := blk_frozen BK141.out 4
                  have hfz46_5 := blk_frozen BK141.out 5
                  have hfz46_6 := blk_frozen BK141.out 6
                  have hfz46_7 := blk_frozen BK141.out 7
                  have hfz46_8 := blk_frozen BK141.out 8
                  have hfz46_9 := blk_frozen BK141.out 9
                  have hfz46_10 := blk_frozen BK141.out 10
                  go_wp2
                  repeat (go_quiet (fail); try go_wp2)
                  go_meet
                  case rel => exact ⟨_, (true), (by first | rfl | (simp; done) | (simp [*]; done)), H', ⟨by have := HJ1.out; have := HJ7.out; have := HK3.out; have := HJ15.out; have := HK5.out; first | omega | exact Nat.le_refl _⟩, ⟨by (with_reducible repeat (first | refine blk_drewN ?_ _ | refine blk_drew ?_ | refine blk_alloc ?_ _)); exact BK139.out⟩, ⟨by (with_reducible repeat (first | refine blk_drewN ?_ _ | refine blk_drew ?_ | refine blk_alloc ?_ _)); exact BK141.out⟩, ⟨by repeat (first | (with_reducible first | exact HB.out | apply below_alloc | apply pw_below_drewN | apply below_drew1 | refine below_set ?_ GE139.out | refine below_set ?_ GE141.out) | exact HB.out)⟩⟩
                 ·rw [if_neg c44] at H
                  have c44b0 : decide (((rd_T39 l0_1 x4_3).f9) < 1) = false := decide_eq_false c44
                  clear c44
                  (first | rw [c44b0] | (simp only [i64_w, i32_w]; rw [c44b0]) | skip)
                  by_cases c47 : ((rd_T39 l0_1 x4_3).f9) > 3
                  ·rw [if_pos c47] at H
                   have c47b0 : decide (3 < ((rd_T39 l0_1 x4_3).f9)) = true := decide_eq_true c47
                   clear c47
                   have H' := Aside0.mk H
                   clear H
                   have hnb48 := NB141_139.out
                   have hnc48 := NB139_141.out
                   have hcz49_0 : wr.cell? ⟨gb141, 0, none⟩ = some (.string ((rd_T39 l0_1 x4_3).f0)) := (blk_cell BK141.out 0).trans rfl
                   have hcz49_1 : wr.cell? ⟨gb141, 1, none⟩ = some (.int .i64 ((rd_T39 l0_1 x4_3).f1)) := (blk_cell BK141.out 1).trans rfl
                   have hcz49_2 : wr.cell? ⟨gb141, 2, none⟩ = some (.int .i64 ((rd_T39 l0_1 x4_3).f2)) := (blk_cell BK141.out 2).trans rfl
                   have hcz49_3 : wr.cell? ⟨gb141, 3, none⟩ = some (.int .i64 ((rd_T39 l0_1 x4_3).f3)) := (blk_cell BK141.out 3).trans rfl
                   have hcz49_4 : wr.cell? ⟨gb141, 4, none⟩ = some (.int .i64 ((rd_T39 l0_1 x4_3).f4)) := (blk_cell BK141.out 4).trans rfl
                   have hcz49_5 : wr.cell? ⟨gb141, 5, none⟩ = some (.int .i64 ((rd_T39 l0_1 x4_3).f5)) := (blk_cell BK141.out 5).trans rfl
                   have hcz49_6 : wr.cell? ⟨gb141, 6, none⟩ = some (.int .i64 ((rd_T39 l0_1 x4_3).f6)) := (blk_cell BK141.out 6).trans rfl
                   have hcz49_7 : wr.cell? ⟨gb141, 7, none⟩ = some (.int .i64 ((rd_T39 l0_1 x4_3).f7)) := (blk_cell BK141.out 7).trans rfl
                   have hcz49_8 : wr.cell? ⟨gb141, 8, none⟩ = some (.int .i64 ((rd_T39 l0_1 x4_3).f8)) := (blk_cell BK141.out 8).trans rfl
                   have hcz49_9 : wr.cell? ⟨gb141, 9, none⟩ = some (.int .i64 ((rd_T39 l0_1 x4_3).f9)) := (blk_cell BK141.out 9).trans rfl
                   have hcz49_10 : wr.cell? ⟨gb141, 10, none⟩ = some (.int .i64 ((rd_T39 l0_1 x4_3).f10)) := (blk_cell BK141.out 10).trans rfl
                   have hfz49_0 := blk_frozen BK141.out 0
                   have hfz49_1 := blk_frozen BK141.out 1
                   have hfz49_2 := blk_frozen BK141.out 2
                   have hfz49_3 := blk_frozen BK141.out 3
                   have hfz49_4 := blk_frozen BK141.out 4
                   have hfz49_5 := blk_frozen BK141.out 5
                   have hfz49_6 := blk_frozen BK141.out 6
                   have hfz49_7 := blk_frozen BK141.out 7
                   have hfz49_8 := blk_frozen BK141.out 8
                   have hfz49_9 := blk_frozen BK141.out 9
                   have hfz49_10 := blk_frozen BK141.out 10
                   go_wp2
                   repeat (go_quiet (fail); try go_wp2)
                   go_meet
                   case rel => exact ⟨_, (true), (by first | rfl | (simp; done) | (simp [*]; done)), H', ⟨by have := HJ1.out; have := HJ7.out; have := HK3.out; have := HJ15.out; have := HK5.out; first | omega | exact Nat.le_refl _⟩, ⟨by (with_reducible repeat (first | refine blk_drewN ?_ _ | refine blk_drew ?_ | refine blk_alloc ?_ _)); exact BK139.out⟩, ⟨by (with_reducible repeat (first | refine blk_drewN ?_ _ | refine blk_drew ?_ | refine blk_alloc ?_ _)); exact BK141.out⟩, ⟨by repeat (first | (with_reducible first | exact HB.out | apply below_alloc | apply pw_below_drewN | apply below_drew1 | refine below_set ?_ GE139.out | refine below_set ?_ GE141.out) | exact HB.out)⟩⟩
                  ·rw [if_neg c47] at H
                   have c47b0 : decide (3 < ((rd_T39 l0_1 x4_3).f9)) = false := decide_eq_false c47
                   clear c47
                   by_cases c50 : ((rd_T39 l0_1 x4_3).f9) = 1
                   ·rw [if_pos c50] at H
                    have c50b0 : (((rd_T39 l0_1 x4_3).f9) == 1) = true := beq_iff_eq.mpr c50
                    have c50b1 : (((rd_T39 l0_1 x4_3).f9) != 1) = false := bne_eq_false_iff_eq.mpr c50
                    clear c50
                    by_cases c51 : ((rd_T39 l0_1 x4_3).f5) < 1
                    ·rw [if_pos c51] at H
                     have c51b0 : decide (((rd_T39 l0_1 x4_3).f5) < 1) = true := decide_eq_true c51
                     clear c51
                     have H' := Aside0.mk H
                     clear H
                     have hnb52 := NB141_139.out
                     have hnc52 := NB139_141.out
                     have hcz53_0 : wr.cell? ⟨gb141, 0, none⟩ = some (.string ((rd_T39 l0_1 x4_3).f0)) := (blk_cell BK141.out 0).trans rfl
                     have hcz53_1 : wr.cell? ⟨gb141, 1, none⟩ = some (.int .i64 ((rd_T39 l0_1 x4_3).f1)) := (blk_cell BK141.out 1).trans rfl
                     have hcz53_2 : wr.cell? ⟨gb141, 2, none⟩ = some (.int .i64 ((rd_T39 l0_1 x4_3).f2)) := (blk_cell BK141.out 2).trans rfl
                     have hcz53_3 : wr.cell? ⟨gb141, 3, none⟩ = some (.int .i64 ((rd_T39 l0_1 x4_3).f3)) := (blk_cell BK141.out 3).trans rfl
                     have hcz53_4 : wr.cell? ⟨gb141, 4, none⟩ = some (.int .i64 ((rd_T39 l0_1 x4_3).f4)) := (blk_cell BK141.out 4).trans rfl
                     have hcz53_5 : wr.cell? ⟨gb141, 5, none⟩ = some (.int .i64 ((rd_T39 l0_1 x4_3).f5)) := (blk_cell BK141.out 5).trans rfl
                     have hcz53_6 : wr.cell? ⟨gb141, 6, none⟩ = some (.int .i64 ((rd_T39 l0_1 x4_3).f6)) := (blk_cell BK141.out 6).trans rfl
                     have hcz53_7 : wr.cell? ⟨gb141, 7, none⟩ = some (.int .i64 ((rd_T39 l0_1 x4_3).f7)) := (blk_cell BK141.out 7).trans rfl
                     have hcz53_8 : wr.cell? ⟨gb141, 8, none⟩ = some (.int .i64 ((rd_T39 l0_1 x4_3).f8)) := (blk_cell BK141.out 8).trans rfl
                     have hcz53_9 : wr.cell? ⟨gb141, 9, none⟩ = some (.int .i64 ((rd_T39 l0_1 x4_3).f9)) := (blk_cell BK141.out 9).trans rfl
                     have hcz53_10 : wr.cell? ⟨gb141, 10, none⟩ = some (.int .i64 ((rd_T39 l0_1 x4_3).f10)) := (blk_cell BK141.out 10).trans rfl
                     have hfz53_0 := blk_frozen BK141.out 0
                     have hfz53_1 := blk_frozen BK141.out 1
                     have hfz53_2 := blk_frozen BK141.out 2
                     have hfz53_3 := blk_frozen BK141.out 3
                     have hfz53_4 := blk_frozen BK141.out 4
                     have hfz53_5 := blk_frozen BK141.out 5
                     have hfz53_6 := blk_frozen BK141.out 6
                     have hfz53_7 := blk_frozen BK141.out 7
                     have hfz53_8 := blk_frozen BK141.out 8
                     have hfz53_9 := blk_frozen BK141.out 9
                     have hfz53_10 := blk_frozen BK141.out 10
                     go_wp2
                     repeat (go_quiet (fail); try go_wp2)
                     go_meet
                     case rel => exact ⟨_, (true), (by first | rfl | (simp; done) | (simp [*]; done)), H', ⟨by have := HJ1.out; have := HJ7.out; have := HK3.out; have := HJ15.out; have := HK5.out; first | omega | exact Nat.le_refl _⟩, ⟨by (with_reducible repeat (first | refine blk_drewN ?_ _ | refine blk_drew ?_ | refine blk_alloc ?_ _)); exact BK139.out⟩, ⟨by (with_reducible repeat (first | refine blk_drewN ?_ _ | refine blk_drew ?_ | refine blk_alloc ?_ _)); exact BK141.out⟩, ⟨by repeat (first | (with_reducible first | exact HB.out | apply below_alloc | apply pw_below_drewN | apply below_drew1 | refine below_set ?_ GE139.out | refine below_set ?_ GE141.out) | exact HB.out)⟩⟩
                    ·rw [if_neg c51] at H
                     have c51b0 : decide (((rd_T39 l0_1 x4_3).f5) < 1) = false := decide_eq_false c51
                     clear c51
                     by_cases c54 : ((rd_T39 l0_1 x4_3).f5) > ((rd_T39 l0_1 x4_3).f3)
                     ·rw [if_pos c54] at H
                      have c54b0 : decide (((rd_T39 l0_1 x4_3).f3) < ((rd_T39 l0_1 x4_3).f5)) = true := decide_eq_true c54
                      clear c54
                      have H' := Aside0.mk H
                      clear H
                      have hnb55 := NB141_139.out
                      have hnc55 := NB139_141.out
                      have hcz56_0 : wr.cell? ⟨gb141, 0, none⟩ = some (.string ((rd_T39 l0_1 x4_3).f0)) := (blk_cell BK141.out 0).trans rfl
                      have hcz56_1 : wr.cell? ⟨gb141, 1, none⟩ = some (.int .i64 ((rd_T39 l0_1 x4_3).f1)) := (blk_cell BK141.out 1).trans rfl
                      have hcz56_2 : wr.cell? ⟨gb141, 2, none⟩ = some (.int .i64 ((rd_T39 l0_1 x4_3).f2)) := (blk_cell BK141.out 2).trans rfl
                      have hcz56_3 : wr.cell? ⟨gb141, 3, none⟩ = some (.int .i64 ((rd_T39 l0_1 x4_3).f3)) := (blk_cell BK141.out 3).trans rfl
                      have hcz56_4 : wr.cell? ⟨gb141, 4, none⟩ = some (.int .i64 ((rd_T39 l0_1 x4_3).f4)) := (blk_cell BK141.out 4).trans rfl
                      have hcz56_5 : wr.cell? ⟨gb141, 5, none⟩ = some (.int .i64 ((rd_T39 l0_1 x4_3).f5)) := (blk_cell BK141.out 5).trans rfl
                      have hcz56_6 : wr.cell? ⟨gb141, 6, none⟩ = some (.int .i64 ((rd_T39 l0_1 x4_3).f6)) := (blk_cell BK141.out 6).trans rfl
                      have hcz56_7 : wr.cell? ⟨gb141, 7, none⟩ = some (.int .i64 ((rd_T39 l0_1 x4_3).f7)) := (blk_cell BK141.out 7).trans rfl
                      have hcz56_8 : wr.cell? ⟨gb141, 8, none⟩ = some (.int .i64 ((rd_T39 l0_1 x4_3).f8)) := (blk_cell BK141.out 8).trans rfl
                      have hcz56_9 : wr.cell? ⟨gb141, 9, none⟩ = some (.int .i64 ((rd_T39 l0_1 x4_3).f9)) := (blk_cell BK141.out 9).trans rfl
                      have hcz56_10 : wr.cell? ⟨gb141, 10, none⟩ = some (.int .i64 ((rd_T39 l0_1 x4_3).f10)) := (blk_cell BK141.out 10).trans rfl
                      have hfz56_0 := blk_frozen BK141.out 0
                      have hfz56_1 := blk_frozen BK141.out 1
                      have hfz56_2 := blk_frozen BK141.out 2
                      have hfz56_3 := blk_frozen BK141.out 3
                      have hfz56_4 := blk_frozen BK141.out 4
                      have hfz56_5 := blk_frozen BK141.out 5
                      have hfz56_6 := blk_frozen BK141.out 6
                      have hfz56_7 := blk_frozen BK141.out 7
                      have hfz56_8 := blk_frozen BK141.out 8
                      have hfz56_9 := blk_frozen BK141.out 9
                      have hfz56_10 := blk_frozen BK141.out 10
                      go_wp2
                      repeat (go_quiet (fail); try go_wp2)
                      go_meet
                      case rel => exact ⟨_, (true), (by first | rfl | (simp; done) | (simp [*]; done)), H', ⟨by have := HJ1.out; have := HJ7.out; have := HK3.out; have := HJ15.out; have := HK5.out; first | omega | exact Nat.le_refl _⟩, ⟨by (with_reducible repeat (first | refine blk_drewN ?_ _ | refine blk_drew ?_ | refine blk_alloc ?_ _)); exact BK139.out⟩, ⟨by (with_reducible repeat (first | refine blk_drewN ?_ _ | refine blk_drew ?_ | refine blk_alloc ?_ _)); exact BK141.out⟩, ⟨by repeat (first | (with_reducible first | exact HB.out | apply below_alloc | apply pw_below_drewN | apply below_drew1 | refine below_set ?_ GE139.out | refine below_set ?_ GE141.out) | exact HB.out)⟩⟩
                     ·rw [if_neg c54] at H
                      have c54b0 : decide (((rd_T39 l0_1 x4_3).f3) < ((rd_T39 l0_1 x4_3).f5)) = false := decide_eq_false c54
                      clear c54
                      by_cases c57 : ((rd_T39 l0_1 x4_3).f4) = 0
                      ·rw [if_pos c57] at H
                       have c57b0 : (((rd_T39 l0_1 x4_3).f4) == 0) = true := beq_iff_eq.mpr c57
                       have c57b1 : (((rd_T39 l0_1 x4_3).f4) != 0) = false := bne_eq_false_iff_eq.mpr c57
                       clear c57
                       by_cases c58 : ((rd_T39 l0_1 x4_3).f9) > 1
                       ·rw [if_pos c58] at H
                        have c58b0 : decide (1 < ((rd_T39 l0_1 x4_3).f9)) = true := decide_eq_true c58
                        clear c58
                        by_cases c59 : ((rd_T39 l0_1 x4_3).f4) < 1
                        ·rw [if_pos c59] at H
                         have c59b0 : decide (((rd_T39 l0_1 x4_3).f4) < 1) = true := decide_eq_true c59
                         clear c59
                         have H' := Aside0.mk H
                         clear H
                         have hnb60 := NB141_139.out
                         have hnc60 := NB139_141.out
                         have hcz61_0 : wr.cell? ⟨gb141, 0, none⟩ = some (.string ((rd_T39 l0_1 x4_3).f0)) := (blk_cell BK141.out 0).trans rfl
                         have hcz61_1 : wr.cell? ⟨gb141, 1, none⟩ = some (.int .i64 ((rd_T39 l0_1 x4_3).f1)) := (blk_cell BK141.out 1).trans rfl
                         have hcz61_2 : wr.cell? ⟨gb141, 2, none⟩ = some (.int .i64 ((rd_T39 l0_1 x4_3).f2)) := (blk_cell BK141.out 2).trans rfl
                         have hcz61_3 : wr.cell? ⟨gb141, 3, none⟩ = some (.int .i64 ((rd_T39 l0_1 x4_3).f3)) := (blk_cell BK141.out 3).trans rfl
                         have hcz61_4 : wr.cell? ⟨gb141, 4, none⟩ = some (.int .i64 ((rd_T39 l0_1 x4_3).f4)) := (blk_cell BK141.out 4).trans rfl
                         have hcz61_5 : wr.cell? ⟨gb141, 5, none⟩ = some (.int .i64 ((rd_T39 l0_1 x4_3).f5)) := (blk_cell BK141.out 5).trans rfl
                         have hcz61_6 : wr.cell? ⟨gb141, 6, none⟩ = some (.int .i64 ((rd_T39 l0_1 x4_3).f6)) := (blk_cell BK141.out 6).trans rfl
                         have hcz61_7 : wr.cell? ⟨gb141, 7, none⟩ = some (.int .i64 ((rd_T39 l0_1 x4_3).f7)) := (blk_cell BK141.out 7).trans rfl
                         have hcz61_8 : wr.cell? ⟨gb141, 8, none⟩ = some (.int .i64 ((rd_T39 l0_1 x4_3).f8)) := (blk_cell BK141.out 8).trans rfl
                         have hcz61_9 : wr.cell? ⟨gb141, 9, none⟩ = some (.int .i64 ((rd_T39 l0_1 x4_3).f9)) := (blk_cell BK141.out 9).trans rfl
                         have hcz61_10 : wr.cell? ⟨gb141, 10, none⟩ = some (.int .i64 ((rd_T39 l0_1 x4_3).f10)) := (blk_cell BK141.out 10).trans rfl
                         have hfz61_0 := blk_frozen BK141.out 0
                         have hfz61_1 := blk_frozen BK141.out 1
                         have hfz61_2 := blk_frozen BK141.out 2
                         have hfz61_3 := blk_frozen BK141.out 3
                         have hfz61_4 := blk_frozen BK141.out 4
                         have hfz61_5 := blk_frozen BK141.out 5
                         have hfz61_6 := blk_frozen BK141.out 6
                         have hfz61_7 := blk_frozen BK141.out 7
                         have hfz61_8 := blk_frozen BK141.out 8
                         have hfz61_9 := blk_frozen BK141.out 9
                         have hfz61_10 := blk_frozen BK141.out 10
                         go_wp2
                         repeat (go_quiet (fail); try go_wp2)
                         go_meet
                         case rel => exact ⟨_, (true), (by first | rfl | (simp; done) | (simp [*]; done)), H', ⟨by have := HJ1.out; have := HJ7.out; have := HK3.out; have := HJ15.out; have := HK5.out; first | omega | exact Nat.le_refl _⟩, ⟨by (with_reducible repeat (first | refine blk_drewN ?_ _ | refine blk_drew ?_ | refine blk_alloc ?_ _)); exact BK139.out⟩, ⟨by (with_reducible repeat (first | refine blk_drewN ?_ _ | refine blk_drew ?_ | refine blk_alloc ?_ _)); exact BK141.out⟩, ⟨by repeat (first | (with_reducible first | exact HB.out | apply below_alloc | apply pw_below_drewN | apply below_drew1 | refine below_set ?_ GE139.out | refine below_set ?_ GE141.out) | exact HB.out)⟩⟩
                        ·rw [if_neg c59] at H
                         have c59b0 : decide (((rd_T39 l0_1 x4_3).f4) < 1) = false := decide_eq_false c59
                         clear c59
                         by_cases c62 : ((rd_T39 l0_1 x4_3).f4) > ((rd_T39 l0_1 x4_3).f2)
                         ·rw [if_pos c62] at H
                          have c62b0 : decide (((rd_T39 l0_1 x4_3).f2) < ((rd_T39 l0_1 x4_3).f4)) = true := decide_eq_true c62
                          clear c62
                          have H' := Aside0.mk H
                          clear H
                          have hnb63 := NB141_139.out
                          have hnc63 := NB139_141.out
                          have hcz64_0 : wr.cell? ⟨gb141, 0, none⟩ = some (.string ((rd_T39 l0_1 x4_3).f0)) := (blk_cell BK141.out 0).trans rfl
                          have hcz64_1 : wr.cell? ⟨gb141, 1, none⟩ = some (.int .i64 ((rd_T39 l0_1 x4_3).f1)) := (blk_cell BK141.out 1).trans rfl
                          have hcz64_2 : wr.cell? ⟨gb141, 2, none⟩ = some (.int .i64 ((rd_T39 l0_1 x4_3).f2)) := (blk_cell BK141.out 2).trans rfl
                          have hcz64_3 : wr.cell? ⟨gb141, 3, none⟩ = some (.int .i64 ((rd_T39 l0_1 x4_3).f3)) := (blk_cell BK141.out 3).trans rfl
                          have hcz64_4 : wr.cell? ⟨gb141, 4, none⟩ = some (.int .i64 ((rd_T39 l0_1 x4_3).f4)) := (blk_cell BK141.out 4).trans rfl
                          have hcz64_5 : wr.cell? ⟨gb141, 5, none⟩ = some (.int .i64 ((rd_T39 l0_1 x4_3).f5)) := (blk_cell BK141.out 5).trans rfl
                          have hcz64_6 : wr.cell? ⟨gb141, 6, none⟩ = some (.int .i64 ((rd_T39 l0_1 x4_3).f6)) := (blk_cell BK141.out 6).trans rfl
                          have hcz64_7 : wr.cell? ⟨gb141, 7, none⟩ = some (.int .i64 ((rd_T39 l0_1 x4_3).f7)) := (blk_cell BK141.out 7).trans rfl
                          have hcz64_8 : wr.cell? ⟨gb141, 8, none⟩ = some (.int .i64 ((rd_T39 l0_1 x4_3).f8)) := (blk_cell BK141.out 8).trans rfl
                          have hcz64_9 : wr.cell? ⟨gb141, 9, none⟩ = some (.int .i64 ((rd_T39 l0_1 x4_3).f9)) := (blk_cell BK141.out 9).trans rfl
                          have hcz64_10 : wr.cell? ⟨gb141, 10, none⟩ = some (.int .i64 ((rd_T39 l0_1 x4_3).f10)) := (blk_cell BK141.out 10).trans rfl
                          have hfz64_0 := blk_frozen BK141.out 0
                          have hfz64_1 := blk_frozen BK141.out 1
                          have hfz64_2 := blk_frozen BK141.out 2
                          have hfz64_3 := blk_frozen BK141.out 3
                          have hfz64_4 := blk_frozen BK141.out 4
                          have hfz64_5 := blk_frozen BK141.out 5
                          have hfz64_6 := blk_frozen BK141.out 6
                          have hfz64_7 := blk_frozen BK141.out 7
                          have hfz64_8 := blk_frozen BK141.out 8
                          have hfz64_9 := blk_frozen BK141.out 9
                          have hfz64_10 := blk_frozen BK141.out 10
                          go_wp2
                          repeat (go_quiet (fail); try go_wp2)
                          go_meet
                          case rel => exact ⟨_, (true), (by first | rfl | (simp; done) | (simp [*]; done)), H', ⟨by have := HJ1.out; have := HJ7.out; have := HK3.out; have := HJ15.out; have := HK5.out; first | omega | exact Nat.le_refl _⟩, ⟨by (with_reducible repeat (first | refine blk_drewN ?_ _ | refine blk_drew ?_ | refine blk_alloc ?_ _)); exact BK139.out⟩, ⟨by (with_reducible repeat (first | refine blk_drewN ?_ _ | refine blk_drew ?_ | refine blk_alloc ?_ _)); exact BK141.out⟩, ⟨by repeat (first | (with_reducible first | exact HB.out | apply below_alloc | apply pw_below_drewN | apply below_drew1 | refine below_set ?_ GE139.out | refine below_set ?_ GE141.out) | exact HB.out)⟩⟩
                         ·rw [if_neg c62] at H
                          have c62b0 : decide (((rd_T39 l0_1 x4_3).f2) < ((rd_T39 l0_1 x4_3).f4)) = false := decide_eq_false c62
                          clear c62
                          have H' := Aside0.mk H
                          clear H
                          have hnb65 := NB141_139.out
                          have hnc65 := NB139_141.out
                          have hcz66_0 : wr.cell? ⟨gb141, 0, none⟩ = some (.string ((rd_T39 l0_1 x4_3).f0)) := (blk_cell BK141.out 0).trans rfl
                          have hcz66_1 : wr.cell? ⟨gb141, 1, none⟩ = some (.int .i64 ((rd_T39 l0_1 x4_3).f1)) := (blk_cell BK141.out 1).trans rfl
                          have hcz66_2 : wr.cell? ⟨gb141, 2, none⟩ = some (.int .i64 ((rd_T39 l0_1 x4_3).f2)) := (blk_cell BK141.out 2).trans rfl
                          have hcz66_3 : wr.cell? ⟨gb141, 3, none⟩ = some (.int .i64 ((rd_T39 l0_1 x4_3).f3)) := (blk_cell BK141.out 3).trans rfl
                          have hcz66_4 : wr.cell? ⟨gb141, 4, none⟩ = some (.int .i64 ((rd_T39 l0_1 x4_3).f4)) := (blk_cell BK141.out 4).trans rfl
                          have hcz66_5 : wr.cell? ⟨gb141, 5, none⟩ = some (.int .i64 ((rd_T39 l0_1 x4_3).f5)) := (blk_cell BK141.out 5).trans rfl
                          have hcz66_6 : wr.cell? ⟨gb141, 6, none⟩ = some (.int .i64 ((rd_T39 l0_1 x4_3).f6)) := (blk_cell BK141.out 6).trans rfl
                          have hcz66_7 : wr.cell? ⟨gb141, 7, none⟩ = some (.int .i64 ((rd_T39 l0_1 x4_3).f7)) := (blk_cell BK141.out 7).trans rfl
                          have hcz66_8 : wr.cell? ⟨gb141, 8, none⟩ = some (.int .i64 ((rd_T39 l0_1 x4_3).f8)) := (blk_cell BK141.out 8).trans rfl
                          have hcz66_9 : wr.cell? ⟨gb141, 9, none⟩ = some (.int .i64 ((rd_T39 l0_1 x4_3).f9)) := (blk_cell BK141.out 9).trans rfl
                          have hcz66_10 : wr.cell? ⟨gb141, 10, none⟩ = some (.int .i64 ((rd_T39 l0_1 x4_3).f10)) := (blk_cell BK141.out 10).trans rfl
                          have hfz66_0 := blk_frozen BK141.out 0
                          have hfz66_1 := blk_frozen BK141.out 1
                          have hfz66_2 := blk_frozen BK141.out 2
                          have hfz66_3 := blk_frozen BK141.out 3
                          have hfz66_4 := blk_frozen BK141.out 4
                          have hfz66_5 := blk_frozen BK141.out 5
                          have hfz66_6 := blk_frozen BK141.out 6
                          have hfz66_7 := blk_frozen BK141.out 7
                          have hfz66_8 := blk_frozen BK141.out 8
                          have hfz66_9 := blk_frozen BK141.out 9
                          have hfz66_10 := blk_frozen BK141.out 10
                          go_wp2
                          repeat (go_quiet (fail); try go_wp2)
                          go_meet
                          case rel => exact ⟨_, ((((rd_T39 l0_1 x4_3).f5) != 0)), (by first | rfl | (simp; done) | (simp [*]; done)), H', ⟨by have := HJ1.out; have := HJ7.out; have := HK3.out; have := HJ15.out; have := HK5.out; first | omega | exact Nat.le_refl _⟩, ⟨by (with_reducible repeat (first | refine blk_drewN ?_ _ | refine blk_drew ?_ | refine blk_alloc ?_ _)); exact BK139.out⟩, ⟨by (with_reducible repeat (first | refine blk_drewN ?_ _ | refine blk_drew ?_ | refine blk_alloc ?_ _)); exact BK141.out⟩, ⟨by repeat (first | (with_reducible first | exact HB.out | apply below_alloc | apply pw_below_drewN | apply below_drew1 | refine below_set ?_ GE139.out | refine below_set ?_ GE141.out) | exact HB.out)⟩⟩
                       ·rw [if_neg c58] at H
                        have c58b0 : decide (1 < ((rd_T39 l0_1 x4_3).f9)) = false := decide_eq_false c58
                        clear c58
                        have H' := Aside0.mk H
                        clear H
                        have hnb67 := NB141_139.out
                        have hnc67 := NB139_141.out
                        have hcz68_0 : wr.cell? ⟨gb141, 0, none⟩ = some (.string ((rd_T39 l0_1 x4_3).f0)) := (blk_cell BK141.out 0).trans rfl
                        have hcz68_1 : wr.cell? ⟨gb141, 1, none⟩ = some (.int .i64 ((rd_T39 l0_1 x4_3).f1)) := (blk_cell BK141.out 1).trans rfl
                        have hcz68_2 : wr.cell? ⟨gb141, 2, none⟩ = some (.int .i64 ((rd_T39 l0_1 x4_3).f2)) := (blk_cell BK141.out 2).trans rfl
                        have hcz68_3 : wr.cell? ⟨gb141, 3, none⟩ = some (.int .i64 ((rd_T39 l0_1 x4_3).f3)) := (blk_cell BK141.out 3).trans rfl
                        have hcz68_4 : wr.cell? ⟨gb141, 4, none⟩ = some (.int .i64 ((rd_T39 l0_1 x4_3).f4)) := (blk_cell BK141.out 4).trans rfl
                        have hcz68_5 : wr.cell? ⟨gb141, 5, none⟩ = some (.int .i64 ((rd_T39 l0_1 x4_3).f5)) := (blk_cell BK141.out 5).trans rfl
                        have hcz68_6 : wr.cell? ⟨gb141, 6, none⟩ = some (.int .i64 ((rd_T39 l0_1 x4_3).f6)) := (blk_cell BK141.out 6).trans rfl
                        have hcz68_7 : wr.cell? ⟨gb141, 7, none⟩ = some (.int .i64 ((rd_T39 l0_1 x4_3).f7)) := (blk_cell BK141.out 7).trans rfl
                        have hcz68_8 : wr.cell? ⟨gb141, 8, none⟩ = some (.int .i64 ((rd_T39 l0_1 x4_3).f8)) := (blk_cell BK141.out 8).trans rfl
                        have hcz68_9 : wr.cell? ⟨gb141, 9, none⟩ = some (.int .i64 ((rd_T39 l0_1 x4_3).f9)) := (blk_cell BK141.out 9).trans rfl
                        have hcz68_10 : wr.cell? ⟨gb141, 10, none⟩ = some (.int .i64 ((rd_T39 l0_1 x4_3).f10)) := (blk_cell BK141.out 10).trans rfl
                        have hfz68_0 := blk_frozen BK141.out 0
                        have hfz68_1 := blk_frozen BK141.out 1
                        have hfz68_2 := blk_frozen BK141.out 2
                        have hfz68_3 := blk_frozen BK141.out 3
                        have hfz68_4 := blk_frozen BK141.out 4
                        have hfz68_5 := blk_frozen BK141.out 5
                        have hfz68_6 := blk_frozen BK141.out 6
                        have hfz68_7 := blk_frozen BK141.out 7
                        have hfz68_8 := blk_frozen BK141.out 8
                        have hfz68_9 := blk_frozen BK141.out 9
                        have hfz68_10 := blk_frozen BK141.out 10
                        go_wp2
                        repeat (go_quiet (fail); try go_wp2)
                        go_meet
                        case rel => exact ⟨_, (false), (by first | rfl | (simp; done) | (simp [*]; done)), H', ⟨by have := HJ1.out; have := HJ7.out; have := HK3.out; have := HJ15.out; have := HK5.out; first | omega | exact Nat.le_refl _⟩, ⟨by (with_reducible repeat (first | refine blk_drewN ?_ _ | refine blk_drew ?_ | refine blk_alloc ?_ _)); exact BK139.out⟩, ⟨by (with_reducible repeat (first | refine blk_drewN ?_ _ | refine blk_drew ?_ | refine blk_alloc ?_ _)); exact BK141.out⟩, ⟨by repeat (first | (with_reducible first | exact HB.out | apply below_alloc | apply pw_below_drewN | apply below_drew1 | refine below_set ?_ GE139.out | refine below_set ?_ GE141.out) | exact HB.out)⟩⟩
                      ·rw [if_neg c57] at H
                       have c57b0 : (((rd_T39 l0_1 x4_3).f4) == 0) = false := beq_eq_false_iff_ne.mpr c57
                       have c57b1 : (((rd_T39 l0_1 x4_3).f4) != 0) = true := bne_iff_ne.mpr c57
                       have H' := Aside0.mk H
                       clear H
                       have hnb69 := NB141_139.out
                       have hnc69 := NB139_141.out
                       have hcz70_0 : wr.cell? ⟨gb141, 0, none⟩ = some (.string ((rd_T39 l0_1 x4_3).f0)) := (blk_cell BK141.out 0).trans rfl
                       have hcz70_1 : wr.cell? ⟨gb141, 1, none⟩ = some (.int .i64 ((rd_T39 l0_1 x4_3).f1)) := (blk_cell BK141.out 1).trans rfl
                       have hcz70_2 : wr.cell? ⟨gb141, 2, none⟩ = some (.int .i64 ((rd_T39 l0_1 x4_3).f2)) := (blk_cell BK141.out 2).trans rfl
                       have hcz70_3 : wr.cell? ⟨gb141, 3, none⟩ = some (.int .i64 ((rd_T39 l0_1 x4_3).f3)) := (blk_cell BK141.out 3).trans rfl
                       have hcz70_4 : wr.cell? ⟨gb141, 4, none⟩ = some (.int .i64 ((rd_T39 l0_1 x4_3).f4)) := (blk_cell BK141.out 4).trans rfl
                       have hcz70_5 : wr.cell? ⟨gb141, 5, none⟩ = some (.int .i64 ((rd_T39 l0_1 x4_3).f5)) := (blk_cell BK141.out 5).trans rfl
                       have hcz70_6 : wr.cell? ⟨gb141, 6, none⟩ = some (.int .i64 ((rd_T39 l0_1 x4_3).f6)) := (blk_cell BK141.out 6).trans rfl
                       have hcz70_7 : wr.cell? ⟨gb141, 7, none⟩ = some (.int .i64 ((rd_T39 l0_1 x4_3).f7)) := (blk_cell BK141.out 7).trans rfl
                       have hcz70_8 : wr.cell? ⟨gb141, 8, none⟩ = some (.int .i64 ((rd_T39 l0_1 x4_3).f8)) := (blk_cell BK141.out 8).trans rfl
                       have hcz70_9 : wr.cell? ⟨gb141, 9, none⟩ = some (.int .i64 ((rd_T39 l0_1 x4_3).f9)) := (blk_cell BK141.out 9).trans rfl
                       have hcz70_10 : wr.cell? ⟨gb141, 10, none⟩ = some (.int .i64 ((rd_T39 l0_1 x4_3).f10)) := (blk_cell BK141.out 10).trans rfl
                       have hfz70_0 := blk_frozen BK141.out 0
                       have hfz70_1 := blk_frozen BK141.out 1
                       have hfz70_2 := blk_frozen BK141.out 2
                       have hfz70_3 := blk_frozen BK141.out 3
                       have hfz70_4 := blk_frozen BK141.out 4
                       have hfz70_5 := blk_frozen BK141.out 5
                       have hfz70_6 := blk_frozen BK141.out 6
                       have hfz70_7 := blk_frozen BK141.out 7
                       have hfz70_8 := blk_frozen BK141.out 8
                       have hfz70_9 := blk_frozen BK141.out 9
                       have hfz70_10 := blk_frozen BK141.out 10
                       go_wp2
                       repeat (go_quiet (fail); try go_wp2)
                       go_meet
                       case rel => exact ⟨_, (true), (by first | rfl | (simp; done) | (simp [*]; done)), H', ⟨by have := HJ1.out; have := HJ7.out; have := HK3.out; have := HJ15.out; have := HK5.out; first | omega | exact Nat.le_refl _⟩, ⟨by (with_reducible repeat (first | refine blk_drewN ?_ _ | refine blk_drew ?_ | refine blk_alloc ?_ _)); exact BK139.out⟩, ⟨by (with_reducible repeat (first | refine blk_drewN ?_ _ | refine blk_drew ?_ | refine blk_alloc ?_ _)); exact BK141.out⟩, ⟨by repeat (first | (with_reducible first | exact HB.out | apply below_alloc | apply pw_below_drewN | apply below_drew1 | refine below_set ?_ GE139.out | refine below_set ?_ GE141.out) | exact HB.out)⟩⟩
                   ·rw [if_neg c50] at H
                    have c50b0 : (((rd_T39 l0_1 x4_3).f9) == 1) = false := beq_eq_false_iff_ne.mpr c50
                    have c50b1 : (((rd_T39 l0_1 x4_3).f9) != 1) = true := bne_iff_ne.mpr c50
                    by_cases c71 : ((rd_T39 l0_1 x4_3).f9) > 1
                    ·rw [if_pos c71] at H
                     have c71b0 : decide (1 < ((rd_T39 l0_1 x4_3).f9)) = true := decide_eq_true c71
                     clear c71
                     by_cases c72 : ((rd_T39 l0_1 x4_3).f4) < 1
                     ·rw [if_pos c72] at H
                      have c72b0 : decide (((rd_T39 l0_1 x4_3).f4) < 1) = true := decide_eq_true c72
                      clear c72
                      have H' := Aside0.mk H
                      clear H
                      have hnb73 := NB141_139.out
                      have hnc73 := NB139_141.out
                      have hcz74_0 : wr.cell? ⟨gb141, 0, none⟩ = some (.string ((rd_T39 l0_1 x4_3).f0)) := (blk_cell BK141.out 0).trans rfl
                      have hcz74_1 : wr.cell? ⟨gb141, 1, none⟩ = some (.int .i64 ((rd_T39 l0_1 x4_3).f1)) := (blk_cell BK141.out 1).trans rfl
                      have hcz74_2 : wr.cell? ⟨gb141, 2, none⟩ = some (.int .i64 ((rd_T39 l0_1 x4_3).f2)) := (blk_cell BK141.out 2).trans rfl
                      have hcz74_3 : wr.cell? ⟨gb141, 3, none⟩ = some (.int .i64 ((rd_T39 l0_1 x4_3).f3)) := (blk_cell BK141.out 3).trans rfl
                      have hcz74_4 : wr.cell? ⟨gb141, 4, none⟩ = some (.int .i64 ((rd_T39 l0_1 x4_3).f4)) := (blk_cell BK141.out 4).trans rfl
                      have hcz74_5 : wr.cell? ⟨gb141, 5, none⟩ = some (.int .i64 ((rd_T39 l0_1 x4_3).f5)) := (blk_cell BK141.out 5).trans rfl
                      have hcz74_6 : wr.cell? ⟨gb141, 6, none⟩ = some (.int .i64 ((rd_T39 l0_1 x4_3).f6)) := (blk_cell BK141.out 6).trans rfl
                      have hcz74_7 : wr.cell? ⟨gb141, 7, none⟩ = some (.int .i64 ((rd_T39 l0_1 x4_3).f7)) := (blk_cell BK141.out 7).trans rfl
                      have hcz74_8 : wr.cell? ⟨gb141, 8, none⟩ = some (.int .i64 ((rd_T39 l0_1 x4_3).f8)) := (blk_cell BK141.out 8).trans rfl
                      have hcz74_9 : wr.cell? ⟨gb141, 9, none⟩ = some (.int .i64 ((rd_T39 l0_1 x4_3).f9)) := (blk_cell BK141.out 9).trans rfl
                      have hcz74_10 : wr.cell? ⟨gb141, 10, none⟩ = some (.int .i64 ((rd_T39 l0_1 x4_3).f10)) := (blk_cell BK141.out 10).trans rfl
                      have hfz74_0 := blk_frozen BK141.out 0
                      have hfz74_1 := blk_frozen BK141.out 1
                      have hfz74_2 := blk_frozen BK141.out 2
                      have hfz74_3 := blk_frozen BK141.out 3
                      have hfz74_4 := blk_frozen BK141.out 4
                      have hfz74_5 := blk_frozen BK141.out 5
                      have hfz74_6 := blk_frozen BK141.out 6
                      have hfz74_7 := blk_frozen BK141.out 7
                      have hfz74_8 := blk_frozen BK141.out 8
                      have hfz74_9 := blk_frozen BK141.out 9
                      have hfz74_10 := blk_frozen BK141.out 10
                      go_wp2
                      repeat (go_quiet (fail); try go_wp2)
                      go_meet
                      case rel => exact ⟨_, (true), (by first | rfl | (simp; done) | (simp [*]; done)), H', ⟨by have := HJ1.out; have := HJ7.out; have := HK3.out; have := HJ15.out; have := HK5.out; first | omega | exact Nat.le_refl _⟩, ⟨by (with_reducible repeat (first | refine blk_drewN ?_ _ | refine blk_drew ?_ | refine blk_alloc ?_ _)); exact BK139.out⟩, ⟨by (with_reducible repeat (first | refine blk_drewN ?_ _ | refine blk_drew ?_ | refine blk_alloc ?_ _)); exact BK141.out⟩, ⟨by repeat (first | (with_reducible first | exact HB.out | apply below_alloc | apply pw_below_drewN | apply below_drew1 | refine below_set ?_ GE139.out | refine below_set ?_ GE141.out) | exact HB.out)⟩⟩
                     ·rw [if_neg c72] at H
                      have c72b0 : decide (((rd_T39 l0_1 x4_3).f4) < 1) = false := decide_eq_false c72
                      clear c72
                      by_cases c75 : ((rd_T39 l0_1 x4_3).f4) > ((rd_T39 l0_1 x4_3).f2)
                      ·rw [if_pos c75] at H
                       have c75b0 : decide (((rd_T39 l0_1 x4_3).f2) < ((rd_T39 l0_1 x4_3).f4)) = true := decide_eq_true c75
                       clear c75
                       have H' := Aside0.mk H
                       clear H
                       have hnb76 := NB141_139.out
                       have hnc76 := NB139_141.out
                       have hcz77_0 : wr.cell? ⟨gb141, 0, none⟩ = some (.string ((rd_T39 l0_1 x4_3).f0)) := (blk_cell BK141.out 0).trans rfl
                       have hcz77_1 : wr.cell? ⟨gb141, 1, none⟩ = some (.int .i64 ((rd_T39 l0_1 x4_3).f1)) := (blk_cell BK141.out 1).trans rfl
                       have hcz77_2 : wr.cell? ⟨gb141, 2, none⟩ = some (.int .i64 ((rd_T39 l0_1 x4_3).f2)) := (blk_cell BK141.out 2).trans rfl
                       have hcz77_3 : wr.cell? ⟨gb141, 3, none⟩ = some (.int .i64 ((rd_T39 l0_1 x4_3).f3)) := (blk_cell BK141.out 3).trans rfl
                       have hcz77_4 : wr.cell? ⟨gb141, 4, none⟩ = some (.int .i64 ((rd_T39 l0_1 x4_3).f4)) := (blk_cell BK141.out 4).trans rfl
                       have hcz77_5 : wr.cell? ⟨gb141, 5, none⟩ = some (.int .i64 ((rd_T39 l0_1 x4_3).f5)) := (blk_cell BK141.out 5).trans rfl
                       have hcz77_6 : wr.cell? ⟨gb141, 6, none⟩ = some (.int .i64 ((rd_T39 l0_1 x4_3).f6)) := (blk_cell BK141.out 6).trans rfl
                       have hcz77_7 : wr.cell? ⟨gb141, 7, none⟩ = some (.int .i64 ((rd_T39 l0_1 x4_3).f7)) := (blk_cell BK141.out 7).trans rfl
                       have hcz77_8 : wr.cell? ⟨gb141, 8, none⟩ = some (.int .i64 ((rd_T39 l0_1 x4_3).f8)) := (blk_cell BK141.out 8).trans rfl
                       have hcz77_9 : wr.cell? ⟨gb141, 9, none⟩ = some (.int .i64 ((rd_T39 l0_1 x4_3).f9)) := (blk_cell BK141.out 9).trans rfl
                       have hcz77_10 : wr.cell? ⟨gb141, 10, none⟩ = some (.int .i64 ((rd_T39 l0_1 x4_3).f10)) := (blk_cell BK141.out 10).trans rfl
                       have hfz77_0 := blk_frozen BK141.out 0
                       have hfz77_1 := blk_frozen BK141.out 1
                       have hfz77_2 := blk_frozen BK141.out 2
                       have hfz77_3 := blk_frozen BK141.out 3
                       have hfz77_4 := blk_frozen BK141.out 4
                       have hfz77_5 := blk_frozen BK141.out 5
                       have hfz77_6 := blk_frozen BK141.out 6
                       have hfz77_7 := blk_frozen BK141.out 7
                       have hfz77_8 := blk_frozen BK141.out 8
                       have hfz77_9 := blk_frozen BK141.out 9
                       have hfz77_10 := blk_frozen BK141.out 10
                       go_wp2
                       repeat (go_quiet (fail); try go_wp2)
                       go_meet
                       case rel => exact ⟨_, (true), (by first | rfl | (simp; done) | (simp [*]; done)), H', ⟨by have := HJ1.out; have := HJ7.out; have := HK3.out; have := HJ15.out; have := HK5.out; first | omega | exact Nat.le_refl _⟩, ⟨by (with_reducible repeat (first | refine blk_drewN ?_ _ | refine blk_drew ?_ | refine blk_alloc ?_ _)); exact BK139.out⟩, ⟨by (with_reducible repeat (first | refine blk_drewN ?_ _ | refine blk_drew ?_ | refine blk_alloc ?_ _)); exact BK141.out⟩, ⟨by repeat (first | (with_reducible first | exact HB.out | apply below_alloc | apply pw_below_drewN | apply below_drew1 | refine below_set ?_ GE139.out | refine below_set ?_ GE141.out) | exact HB.out)⟩⟩
                      ·rw [if_neg c75] at H
                       have c75b0 : decide (((rd_T39 l0_1 x4_3).f2) < ((rd_T39 l0_1 x4_3).f4)) = false := decide_eq_false c75
                       clear c75
                       have H' := Aside0.mk H
                       clear H
                       have hnb78 := NB141_139.out
                       have hnc78 := NB139_141.out
                       have hcz79_0 : wr.cell? ⟨gb141, 0, none⟩ = some (.string ((rd_T39 l0_1 x4_3).f0)) := (blk_cell BK141.out 0).trans rfl
                       have hcz79_1 : wr.cell? ⟨gb141, 1, none⟩ = some (.int .i64 ((rd_T39 l0_1 x4_3).f1)) := (blk_cell BK141.out 1).trans rfl
                       have hcz79_2 : wr.cell? ⟨gb141, 2, none⟩ = some (.int .i64 ((rd_T39 l0_1 x4_3).f2)) := (blk_cell BK141.out 2).trans rfl
                       have hcz79_3 : wr.cell? ⟨gb141, 3, none⟩ = some (.int .i64 ((rd_T39 l0_1 x4_3).f3)) := (blk_cell BK141.out 3).trans rfl
                       have hcz79_4 : wr.cell? ⟨gb141, 4, none⟩ = some (.int .i64 ((rd_T39 l0_1 x4_3).f4)) := (blk_cell BK141.out 4).trans rfl
                       have hcz79_5 : wr.cell? ⟨gb141, 5, none⟩ = some (.int .i64 ((rd_T39 l0_1 x4_3).f5)) := (blk_cell BK141.out 5).trans rfl
                       have hcz79_6 : wr.cell? ⟨gb141, 6, none⟩ = some (.int .i64 ((rd_T39 l0_1 x4_3).f6)) := (blk_cell BK141.out 6).trans rfl
                       have hcz79_7 : wr.cell? ⟨gb141, 7, none⟩ = some (.int .i64 ((rd_T39 l0_1 x4_3).f7)) := (blk_cell BK141.out 7).trans rfl
                       have hcz79_8 : wr.cell? ⟨gb141, 8, none⟩ = some (.int .i64 ((rd_T39 l0_1 x4_3).f8)) := (blk_cell BK141.out 8).trans rfl
                       have hcz79_9 : wr.cell? ⟨gb141, 9, none⟩ = some (.int .i64 ((rd_T39 l0_1 x4_3).f9)) := (blk_cell BK141.out 9).trans rfl
                       have hcz79_10 : wr.cell? ⟨gb141, 10, none⟩ = some (.int .i64 ((rd_T39 l0_1 x4_3).f10)) := (blk_cell BK141.out 10).trans rfl
                       have hfz79_0 := blk_frozen BK141.out 0
                       have hfz79_1 := blk_frozen BK141.out 1
                       have hfz79_2 := blk_frozen BK141.out 2
                       have hfz79_3 := blk_frozen BK141.out 3
                       have hfz79_4 := blk_frozen BK141.out 4
                       have hfz79_5 := blk_frozen BK141.out 5
                       have hfz79_6 := blk_frozen BK141.out 6
                       have hfz79_7 := blk_frozen BK141.out 7
                       have hfz79_8 := blk_frozen BK141.out 8
                       have hfz79_9 := blk_frozen BK141.out 9
                       have hfz79_10 := blk_frozen BK141.out 10
                       go_wp2
                       repeat (go_quiet (fail); try go_wp2)
                       go_meet
                       case rel => exact ⟨_, ((((rd_T39 l0_1 x4_3).f5) != 0)), (by first | rfl | (simp; done) | (simp [*]; done)), H', ⟨by have := HJ1.out; have := HJ7.out; have := HK3.out; have := HJ15.out; have := HK5.out; first | omega | exact Nat.le_refl _⟩, ⟨by (with_reducible repeat (first | refine blk_drewN ?_ _ | refine blk_drew ?_ | refine blk_alloc ?_ _)); exact BK139.out⟩, ⟨by (with_reducible repeat (first | refine blk_drewN ?_ _ | refine blk_drew ?_ | refine blk_alloc ?_ _)); exact BK141.out⟩, ⟨by repeat (first | (with_reducible first | exact HB.out | apply below_alloc | apply pw_below_drewN | apply below_drew1 | refine below_set ?_ GE139.out | refine below_set ?_ GE141.out) | exact HB.out)⟩⟩
                    ·rw [if_neg c71] at H
                     have c71b0 : decide (1 < ((rd_T39 l0_1 x4_3).f9)) = false := decide_eq_false c71
                     clear c71
                     have H' := Aside0.mk H
                     clear H
                     have hnb80 := NB141_139.out
                     have hnc80 := NB139_141.out
                     have hcz81_0 : wr.cell? ⟨gb141, 0, none⟩ = some (.string ((rd_T39 l0_1 x4_3).f0)) := (blk_cell BK141.out 0).trans rfl
                     have hcz81_1 : wr.cell? ⟨gb141, 1, none⟩ = some (.int .i64 ((rd_T39 l0_1 x4_3).f1)) := (blk_cell BK141.out 1).trans rfl
                     have hcz81_2 : wr.cell? ⟨gb141, 2, none⟩ = some (.int .i64 ((rd_T39 l0_1 x4_3).f2)) := (blk_cell BK141.out 2).trans rfl
                     have hcz81_3 : wr.cell? ⟨gb141, 3, none⟩ = some (.int .i64 ((rd_T39 l0_1 x4_3).f3)) := (blk_cell BK141.out 3).trans rfl
                     have hcz81_4 : wr.cell? ⟨gb141, 4, none⟩ = some (.int .i64 ((rd_T39 l0_1 x4_3).f4)) := (blk_cell BK141.out 4).trans rfl
                     have hcz81_5 : wr.cell? ⟨gb141, 5, none⟩ = some (.int .i64 ((rd_T39 l0_1 x4_3).f5)) := (blk_cell BK141.out 5).trans rfl
                     have hcz81_6 : wr.cell? ⟨gb141, 6, none⟩ = some (.int .i64 ((rd_T39 l0_1 x4_3).f6)) := (blk_cell BK141.out 6).trans rfl
                     have hcz81_7 : wr.cell? ⟨gb141, 7, none⟩ = some (.int .i64 ((rd_T39 l0_1 x4_3).f7)) := (blk_cell BK141.out 7).trans rfl
                     have hcz81_8 : wr.cell? ⟨gb141, 8, none⟩ = some (.int .i64 ((rd_T39 l0_1 x4_3).f8)) := (blk_cell BK141.out 8).trans rfl
                     have hcz81_9 : wr.cell? ⟨gb141, 9, none⟩ = some (.int .i64 ((rd_T39 l0_1 x4_3).f9)) := (blk_cell BK141.out 9).trans rfl
                     have hcz81_10 : wr.cell? ⟨gb141, 10, none⟩ = some (.int .i64 ((rd_T39 l0_1 x4_3).f10)) := (blk_cell BK141.out 10).trans rfl
                     have hfz81_0 := blk_frozen BK141.out 0
                     have hfz81_1 := blk_frozen BK141.out 1
                     have hfz81_2 := blk_frozen BK141.out 2
                     have hfz81_3 := blk_frozen BK141.out 3
                     have hfz81_4 := blk_frozen BK141.out 4
                     have hfz81_5 := blk_frozen BK141.out 5
                     have hfz81_6 := blk_frozen BK141.out 6
                     have hfz81_7 := blk_frozen BK141.out 7
                     have hfz81_8 := blk_frozen BK141.out 8
                     have hfz81_9 := blk_frozen BK141.out 9
                     have hfz81_10 := blk_frozen BK141.out 10
                     go_wp2
                     repeat (go_quiet (fail); try go_wp2)
                     go_meet
                     case rel => exact ⟨_, (false), (by first | rfl | (simp; done) | (simp [*]; done)), H', ⟨by have := HJ1.out; have := HJ7.out; have := HK3.out; have := HJ15.out; have := HK5.out; first | omega | exact Nat.le_refl _⟩, ⟨by (with_reducible repeat (first | refine blk_drewN ?_ _ | refine blk_drew ?_ | refine blk_alloc ?_ _)); exact BK139.out⟩, ⟨by (with_reducible repeat (first | refine blk_drewN ?_ _ | refine blk_drew ?_ | refine blk_alloc ?_ _)); exact BK141.out⟩, ⟨by repeat (first | (with_reducible first | exact HB.out | apply below_alloc | apply pw_below_drewN | apply below_drew1 | refine below_set ?_ GE139.out | refine below_set ?_ GE141.out) | exact HB.out)⟩⟩
                case rest =>
                 clear HC43
                 try clear p1
                 try clear q1
                 try clear hx1
                 try clear c2
                 try clear p2
                 try clear c3
                 try clear c4
                 try clear c5
                 try clear c6
                 try clear p6
                 try clear c7
                 try clear c8
                 try clear p14
                 try clear q14
                 try clear hx14
                 try clear c26
                 try clear c26b0
                 try clear c34
                 try clear c35
                 try clear c36
                 try clear c40
                 try clear c44
                 try clear c44b0
                 try clear c45
                 try clear c47
                 try clear c47b0
                 try clear c48
                 try clear c50
                 try clear c50b0
                 try clear c50b1
                 try clear c51
                 try clear c51b0
                 try clear c52
                 try clear c54
                 try clear c54b0
                 try clear c55
                 try clear c57
                 try clear c57b0
                 try clear c57b1
                 try clear c58
                 try clear c58b0
                 try clear c59
                 try clear c59b0
                 try clear c60
                 try clear c62
                 try clear c62b0
                 try clear c63
                 try clear p64
                 try clear c65
                 try clear c67
                 try clear c69
                 try clear c71
                 try clear c71b0
                 try clear c72
                 try clear c72b0
                 try clear c73
                 try clear c75
                 try clear c75b0
                 try clear c76
                 try clear c78
                 try clear c80
                 try clear hcz39_0
                 try clear hcz39_1
                 try clear hcz39_10
                 try clear hcz39_2
                 try clear hcz39_3
                 try clear hcz39_4
                 try clear hcz39_5
                 try clear hcz39_6
                 try clear hcz39_7
                 try clear hcz39_8
                 try clear hcz39_9
                 try clear hcz41_0
                 try clear hcz41_1
                 try clear hcz42_0
                 try clear hcz42_1
                 try clear hcz42_10
                 try clear hcz42_2
                 try clear hcz42_3
                 try clear hcz42_4
                 try clear hcz42_5
                 try clear hcz42_6
                 try clear hcz42_7
                 try clear hcz42_8
                 try clear hcz42_9
                 try clear hcz46_0
                 try clear hcz46_1
                 try clear hcz46_10
                 try clear hcz46_2
                 try clear hcz46_3
                 try clear hcz46_4
                 try clear hcz46_5
                 try clear hcz46_6
                 try clear hcz46_7
                 try clear hcz46_8
                 try clear hcz46_9
                 try clear hcz49_0
                 try clear hcz49_1
                 try clear hcz49_10
                 try clear hcz49_2
                 try clear hcz49_3
                 try clear hcz49_4
                 try clear hcz49_5
                 try clear hcz49_6
                 try clear hcz49_7
                 try clear hcz49_8
                 try clear hcz49_9
                 try clear hcz53_0
                 try clear hcz53_1
                 try clear hcz53_10
                 try clear hcz53_2
                 try clear hcz53_3
                 try clear hcz53_4
                 try clear hcz53_5
                 try clear hcz53_6
                 try clear hcz53_7
                 try clear hcz53_8
                 try clear hcz53_9
                 try clear hcz56_0
                 try clear hcz56_1
                 try clear hcz56_10
                 try clear hcz56_2
                 try clear hcz56_3
                 try clear hcz56_4
                 try clear hcz56_5
                 try clear hcz56_6
                 try clear hcz56_7
                 try clear hcz56_8
                 try clear hcz56_9
                 try clear hcz61_0
                 try clear hcz61_1
                 try clear hcz61_10
                 try clear hcz61_2
                 try clear hcz61_3
                 try clear hcz61_4
                 try clear hcz61_5
                 try clear hcz61_6
                 try clear hcz61_7
                 try clear hcz61_8
                 try clear hcz61_9
                 try clear hcz64_0
                 try clear hcz64_1
                 try clear hcz64_10
                 try clear hcz64_2
                 try clear hcz64_3
                 try clear hcz64_4
                 try clear hcz64_5
                 try clear hcz64_6
                 try clear hcz64_7
                 try clear hcz64_8
                 try clear hcz64_9
                 try clear hcz66_0
                 try clear hcz66_1
                 try clear hcz66_10
                 try clear hcz66_2
                 try clear hcz66_3
                 try clear hcz66_4
                 try clear hcz66_5
                 try clear hcz66_6
                 try clear hcz66_7
                 try clear hcz66_8
                 try clear hcz66_9
                 try clear hcz68_0
                 try clear hcz68_1
                 try clear hcz68_10
                 try clear hcz68_2
                 try clear hcz68_3
                 try clear hcz68_4
                 try clear hcz68_5
                 try clear hcz68_6
                 try clear hcz68_7
                 try clear hcz68_8
                 try clear hcz68_9
                 try clear hcz70_0
                 try clear hcz70_1
                 try clear hcz70_10
                 try clear hcz70_2
                 try clear hcz70_3
                 try clear hcz70_4
                 try clear hcz70_5
                 try clear hcz70_6
                 try clear hcz70_7
                 try clear hcz70_8
                 try clear hcz70_9
                 try clear hcz74_0
                 try clear hcz74_1
                 try clear hcz74_10
                 try clear hcz74_2
                 try clear hcz74_3
                 try clear hcz74_4
                 try clear hcz74_5
                 try clear hcz74_6
                 try clear hcz74_7
                 try clear hcz74_8
                 try clear hcz74_9
                 try clear hcz77_0
                 try clear hcz77_1
                 try clear hcz77_10
                 try clear hcz77_2
                 try clear hcz77_3
                 try clear hcz77_4
                 try clear hcz77_5
                 try clear hcz77_6
                 try clear hcz77_7
                 try clear hcz77_8
                 try clear hcz77_9
                 try clear hcz79_0
                 try clear hcz79_1
                 try clear hcz79_10
                 try clear hcz79_2
                 try clear hcz79_3
                 try clear hcz79_4
                 try clear hcz79_5
                 try clear hcz79_6
                 try clear hcz79_7
                 try clear hcz79_8
                 try clear hcz79_9
                 try clear hcz81_0
                 try clear hcz81_1
                 try clear hcz81_10
                 try clear hcz81_2
                 try clear hcz81_3
                 try clear hcz81_4
                 try clear hcz81_5
                 try clear hcz81_6
                 try clear hcz81_7
                 try clear hcz81_8
                 try clear hcz81_9
                 try clear hfz39_0
                 try clear hfz39_1
                 try clear hfz39_10
                 try clear hfz39_2
                 try clear hfz39_3
                 try clear hfz39_4
                 try clear hfz39_5
                 try clear hfz39_6
                 try clear hfz39_7
                 try clear hfz39_8
                 try clear hfz39_9
                 try clear hfz41_0
                 try clear hfz41_1
                 try clear hfz42_0
                 try clear hfz42_1
                 try clear hfz42_10
                 try clear hfz42_2
                 try clear hfz42_3
                 try clear hfz42_4
                 try clear hfz42_5
                 try clear hfz42_6
                 try clear hfz42_7
                 try clear hfz42_8
                 try clear hfz42_9
                 try clear hfz46_0
                 try clear hfz46_1
                 try clear hfz46_10
                 try clear hfz46_2
                 try clear hfz46_3
                 try clear hfz46_4
                 try clear hfz46_5
                 try clear hfz46_6
                 try clear hfz46_7
                 try clear hfz46_8
                 try clear hfz46_9
                 try clear hfz49_0
                 try clear hfz49_1
                 try clear hfz49_10
                 try clear hfz49_2
                 try clear hfz49_3
                 try clear hfz49_4
                 try clear hfz49_5
                 try clear hfz49_6
                 try clear hfz49_7
                 try clear hfz49_8
                 try clear hfz49_9
                 try clear hfz53_0
                 try clear hfz53_1
                 try clear hfz53_10
                 try clear hfz53_2
                 try clear hfz53_3
                 try clear hfz53_4
                 try clear hfz53_5
                 try clear hfz53_6
                 try clear hfz53_7
                 try clear hfz53_8
                 try clear hfz53_9
                 try clear hfz56_0
                 try clear hfz56_1
                 try clear hfz56_10
                 try clear hfz56_2
                 try clear hfz56_3
                 try clear hfz56_4
                 try clear hfz56_5
                 try clear hfz56_6
                 try clear hfz56_7
                 try clear hfz56_8
                 try clear hfz56_9
                 try clear hfz61_0
                 try clear hfz61_1
                 try clear hfz61_10
                 try clear hfz61_2
                 try clear hfz61_3
                 try clear hfz61_4
                 try clear hfz61_5
                 try clear hfz61_6
                 try clear hfz61_7
                 try clear hfz61_8
                 try clear hfz61_9
                 try clear hfz64_0
                 try clear hfz64_1
                 try clear hfz64_10
                 try clear hfz64_2
                 try clear hfz64_3
                 try clear hfz64_4
                 try clear hfz64_5
                 try clear hfz64_6
                 try clear hfz64_7
                 try clear hfz64_8
                 try clear hfz64_9
                 try clear hfz66_0
                 try clear hfz66_1
                 try clear hfz66_10
                 try clear hfz66_2
                 try clear hfz66_3
                 try clear hfz66_4
                 try clear hfz66_5
                 try clear hfz66_6
                 try clear hfz66_7
                 try clear hfz66_8
                 try clear hfz66_9
                 try clear hfz68_0
                 try clear hfz68_1
                 try clear hfz68_10
                 try clear hfz68_2
                 try clear hfz68_3
                 try clear hfz68_4
                 try clear hfz68_5
                 try clear hfz68_6
                 try clear hfz68_7
                 try clear hfz68_8
                 try clear hfz68_9
                 try clear hfz70_0
                 try clear hfz70_1
                 try clear hfz70_10
                 try clear hfz70_2
                 try clear hfz70_3
                 try clear hfz70_4
                 try clear hfz70_5
                 try clear hfz70_6
                 try clear hfz70_7
                 try clear hfz70_8
                 try clear hfz70_9
                 try clear hfz74_0
                 try clear hfz74_1
                 try clear hfz74_10
                 try clear hfz74_2
                 try clear hfz74_3
                 try clear hfz74_4
                 try clear hfz74_5
                 try clear hfz74_6
                 try clear hfz74_7
                 try clear hfz74_8
                 try clear hfz74_9
                 try clear hfz77_0
                 try clear hfz77_1
                 try clear hfz77_10
                 try clear hfz77_2
                 try clear hfz77_3
                 try clear hfz77_4
                 try clear hfz77_5
                 try clear hfz77_6
                 try clear hfz77_7
                 try clear hfz77_8
                 try clear hfz77_9
                 try clear hfz79_0
                 try clear hfz79_1
                 try clear hfz79_10
                 try clear hfz79_2
                 try clear hfz79_3
                 try clear hfz79_4
                 try clear hfz79_5
                 try clear hfz79_6
                 try clear hfz79_7
                 try clear hfz79_8
                 try clear hfz79_9
                 try clear hfz81_0
                 try clear hfz81_1
                 try clear hfz81_10
                 try clear hfz81_2
                 try clear hfz81_3
                 try clear hfz81_4
                 try clear hfz81_5
                 try clear hfz81_6
                 try clear hfz81_7
                 try clear hfz81_8
                 try clear hfz81_9
                 try clear hx144_0
                 try clear hx144_1
                 try clear hx144_10
                 try clear hx144_2
                 try clear hx144_3
                 try clear hx144_4
                 try clear hx144_5
                 try clear hx144_6
                 try clear hx144_7
                 try clear hx144_8
                 try clear hx144_9
                 try clear hx145_0
                 try clear hx145_1
                 try clear hx145_10
                 try clear hx145_2
                 try clear hx145_3
                 try clear hx145_4
                 try clear hx145_5
                 try clear hx145_6
                 try clear hx145_7
                 try clear hx145_8
                 try clear hx145_9
                 try clear p144
                 try clear p145
                 try clear q144
                 try clear q145
                 obtain ⟨kq, x9_42, rfl, HA, HJ42, BK139, BK141, HB⟩ := hcut
                 cases kq with
                 | zero => exact absurd HA.out (by simp [pendulumref05_Why.j5])
                 | succ kj42 =>
                  have H := HA.out
                  clear HA
                  simp only [pendulumref05_Why.j5] at H
                  by_cases c82 : x6_5 = true
                  ·subst c82
                   have H1 : (some (3, x4_3)) = some (r1, r2) := by rw [if_pos rfl] at H; exact H
                   clear H
                   have H := H1
                   clear H1
                   simp only [Option.some.injEq, Prod.mk.injEq] at H
                   obtain ⟨rfl, rfl⟩ := H
                   go_wp2
                   repeat (go_quiet (fail); try go_wp2)
                   go_ret2
                   exact ⟨by first | rfl | (simp [errW_none, errW_some] <;> rfl) | (simp [*, errW_none, errW_some] <;> rfl), by repeat (first | (with_reducible first | exact HB.out | apply below_alloc | apply pw_below_drewN | apply below_drew1 | refine below_set ?_ GE139.out | refine below_set ?_ GE141.out) | exact HB.out)⟩
                  ·replace c82 := Bool.eq_false_iff.mpr c82
                   subst c82
                   have H1 : (if ((rd_T39 l0_1 x4_3).f3) < 1 then (pendulumref05_Why.j6 kj42 x4_3 x7_5 x9_42 true a0_0 l0_1 ((rd_T39 l0_1 x4_3).f0) ((rd_T39 l0_1 x4_3).f1) ((rd_T39 l0_1 x4_3).f2) ((rd_T39 l0_1 x4_3).f3) ((rd_T39 l0_1 x4_3).f4) ((rd_T39 l0_1 x4_3).f5) ((rd_T39 l0_1 x4_3).f6) ((rd_T39 l0_1 x4_3).f7) ((rd_T39 l0_1 x4_3).f8) ((rd_T39 l0_1 x4_3).f9) ((rd_T39 l0_1 x4_3).f10)) else (if ((rd_T39 l0_1 x4_3).f3) > ((rd_T39 l0_1 x4_3).f2) then (pendulumref05_Why.j6 kj42 x4_3 x7_5 x9_42 true a0_0 l0_1 ((rd_T39 l0_1 x4_3).f0) ((rd_T39 l0_1 x4_3).f1) ((rd_T39 l0_1 x4_3).f2) ((rd_T39 l0_1 x4_3).f3) ((rd_T39 l0_1 x4_3).f4) ((rd_T39 l0_1 x4_3).f5) ((rd_T39 l0_1 x4_3).f6) ((rd_T39 l0_1 x4_3).f7) ((rd_T39 l0_1 x4_3).f8) ((rd_T39 l0_1 x4_3).f9) ((rd_T39 l0_1 x4_3).f10)) else (if ((rd_T39 l0_1 x4_3).f2) > ((rd_T39 l0_1 x4_3).f1) then (pendulumref05_Why.j6 kj42 x4_3 x7_5 x9_42 true a0_0 l0_1 ((rd_T39 l0_1 x4_3).f0) ((rd_T39 l0_1 x4_3).f1) ((rd_T39 l0_1 x4_3).f2) ((rd_T39 l0_1 x4_3).f3) ((rd_T39 l0_1 x4_3).f4) ((rd_T39 l0_1 x4_3).f5) ((rd_T39 l0_1 x4_3).f6) ((rd_T39 l0_1 x4_3).f7) ((rd_T39 l0_1 x4_3).f8) ((rd_T39 l0_1 x4_3).f9) ((rd_T39 l0_1 x4_3).f10)) else (if ((rd_T39 l0_1 x4_3).f1) > 1048576 then (pendulumref05_Why.j6 kj42 x4_3 x7_5 x9_42 true a0_0 l0_1 ((rd_T39 l0_1 x4_3).f0) ((rd_T39 l0_1 x4_3).f1) ((rd_T39 l0_1 x4_3).f2) ((rd_T39 l0_1 x4_3).f3) ((rd_T39 l0_1 x4_3).f4) ((rd_T39 l0_1 x4_3).f5) ((rd_T39 l0_1 x4_3).f6) ((rd_T39 l0_1 x4_3).f7) ((rd_T39 l0_1 x4_3).f8) ((rd_T39 l0_1 x4_3).f9) ((rd_T39 l0_1 x4_3).f10)) else (if ((rd_T39 l0_1 x4_3).f6) < 0 then (pendulumref05_Why.j6 kj42 x4_3 x7_5 x9_42 true a0_0 l0_1 ((rd_T39 l0_1 x4_3).f0) ((rd_T39 l0_1 x4_3).f1) ((rd_T39 l0_1 x4_3).f2) ((rd_T39 l0_1 x4_3).f3) ((rd_T39 l0_1 x4_3).f4) ((rd_T39 l0_1 x4_3).f5) ((rd_T39 l0_1 x4_3).f6) ((rd_T39 l0_1 x4_3).f7) ((rd_T39 l0_1 x4_3).f8) ((rd_T39 l0_1 x4_3).f9) ((rd_T39 l0_1 x4_3).f10)) else (pendulumref05_Why.j6 kj42 x4_3 x7_5 x9_42 (decide (((rd_T39 l0_1 x4_3).f6) > 1000)) a0_0 l0_1 ((rd_T39 l0_1 x4_3).f0) ((rd_T39 l0_1 x4_3).f1) ((rd_T39 l0_1 x4_3).f2) ((rd_T39 l0_1 x4_3).f3) ((rd_T39 l0_1 x4_3).f4) ((rd_T39 l0_1 x4_3).f5) ((rd_T39 l0_1 x4_3).f6) ((rd_T39 l0_1 x4_3).f7) ((rd_T39 l0_1 x4_3).f8) ((rd_T39 l0_1 x4_3).f9) ((rd_T39 l0_1 x4_3).f10))))))) = some (r1, r2) := by rw [if_neg (show ¬ (false = true) by decide)] at H; exact H
                   clear H
                   have H := H1
                   clear H1
                   have HC83 := Aside0.mk H
                   clear H
                   go_upto_region 19 with (fail)
                   repeat (go_quiet (fail); go_upto_region 19 with (fail))
                   go_cut [166] (fun v166 wc => ∃ (kq : Nat) (x166_82 : Bool), v166 = .bool x166_82 ∧ Aside0 (pendulumref05_Why.j6 kq x4_3 x7_5 x9_42 x166_82 a0_0 l0_1 ((rd_T39 l0_1 x4_3).f0) ((rd_T39 l0_1 x4_3).f1) ((rd_T39 l0_1 x4_3).f2) ((rd_T39 l0_1 x4_3).f3) ((rd_T39 l0_1 x4_3).f4) ((rd_T39 l0_1 x4_3).f5) ((rd_T39 l0_1 x4_3).f6) ((rd_T39 l0_1 x4_3).f7) ((rd_T39 l0_1 x4_3).f8) ((rd_T39 l0_1 x4_3).f9) ((rd_T39 l0_1 x4_3).f10) = some (r1, r2)) ∧ Aside0 (kq ≤ kj42) ∧ Aside0 (wc.heap[gb139]? = some (.cells #[.int .i64 a0_0, (.slice (some ad140) l0_1.length c0_1)] 24 (0, 0))) ∧ Aside0 (wc.heap[gb141]? = some (.cells #[.string ((rd_T39 l0_1 x4_3).f0), .int .i64 ((rd_T39 l0_1 x4_3).f1), .int .i64 ((rd_T39 l0_1 x4_3).f2), .int .i64 ((rd_T39 l0_1 x4_3).f3), .int .i64 ((rd_T39 l0_1 x4_3).f4), .int .i64 ((rd_T39 l0_1 x4_3).f5), .int .i64 ((rd_T39 l0_1 x4_3).f6), .int .i64 ((rd_T39 l0_1 x4_3).f7), .int .i64 ((rd_T39 l0_1 x4_3).f8), .int .i64 ((rd_T39 l0_1 x4_3).f9), .int .i64 ((rd_T39 l0_1 x4_3).f10)] 39 (0, 0))) ∧ Aside0 (Below w.heap.size w wc))
                   case first => as_aux_lemma =>
                    have H := HC83.out
                    clear HC83
                    by_cases c84 : ((rd_T39 l0_1 x4_3).f3) < 1
                    ·rw [if_pos c84] at H
                     have c84b0 : decide (((rd_T39 l0_1 x4_3).f3) < 1) = true := decide_eq_true c84
                     clear c84
                     (first | rw [c84b0] | (simp only [i64_w, i32_w]; rw [c84b0]) | skip)
                     have H' := Aside0.mk H
                     clear H
                     have hnb85 := NB141_139.out
                     have hnc85 := NB139_141.out
                     have hcz86_0 : wc.cell? ⟨gb141, 0, none⟩ = some (.string ((rd_T39 l0_1 x4_3).f0)) := (blk_cell BK141.out 0).trans rfl
                     have hcz86_1 : wc.cell? ⟨gb141, 1, none⟩ = some (.int .i64 ((rd_T39 l0_1 x4_3).f1)) := (blk_cell BK141.out 1).trans rfl
                     have hcz86_2 : wc.cell? ⟨gb141, 2, none⟩ = some (.int .i64 ((rd_T39 l0_1 x4_3).f2)) := (blk_cell BK141.out 2).trans rfl
                     have hcz86_3 : wc.cell? ⟨gb141, 3, none⟩ = some (.int .i64 ((rd_T39 l0_1 x4_3).f3)) := (blk_cell BK141.out 3).trans rfl
                     have hcz86_4 : wc.cell? ⟨gb141, 4, none⟩ = some (.int .i64 ((rd_T39 l0_1 x4_3).f4)) := (blk_cell BK141.out 4).trans rfl
                     have hcz86_5 : wc.cell? ⟨gb141, 5, none⟩ = some (.int .i64 ((rd_T39 l0_1 x4_3).f5)) := (blk_cell BK141.out 5).trans rfl
                     have hcz86_6 : wc.cell? ⟨gb141, 6, none⟩ = some (.int .i64 ((rd_T39 l0_1 x4_3).f6)) := (blk_cell BK141.out 6).trans rfl
                     have hcz86_7 : wc.cell? ⟨gb141, 7, none⟩ = some (.int .i64 ((rd_T39 l0_1 x4_3).f7)) := (blk_cell BK141.out 7).trans rfl
                     have hcz86_8 : wc.cell? ⟨gb141, 8, none⟩ = some (.int .i64 ((rd_T39 l0_1 x4_3).f8)) := (blk_cell BK141.out 8).trans rfl
                     have hcz86_9 : wc.cell? ⟨gb141, 9, none⟩ = some (.int .i64 ((rd_T39 l0_1 x4_3).f9)) := (blk_cell BK141.out 9).trans rfl
                     have hcz86_10 : wc.cell? ⟨gb141, 10, none⟩ = some (.int .i64 ((rd_T39 l0_1 x4_3).f10)) := (blk_cell BK141.out 10).trans rfl
                     have hfz86_0 := blk_frozen BK141.out 0
                     have hfz86_1 := blk_frozen BK141.out 1
                     have hfz86_2 := blk_frozen BK141.out 2
                     have hfz86_3 := blk_frozen BK141.out 3
                     have hfz86_4 := blk_frozen BK141.out 4
                     have hfz86_5 := blk_frozen BK141.out 5
                     have hfz86_6 := blk_frozen BK141.out 6
                     have hfz86_7 := blk_frozen BK141.out 7
                     have hfz86_8 := blk_frozen BK141.out 8
                     have hfz86_9 := blk_frozen BK141.out 9
                     have hfz86_10 := blk_frozen BK141.out 10
                     go_wp2
                     repeat (go_quiet (fail); try go_wp2)
                     go_meet
                     case rel => exact ⟨_, (true), (by first | rfl | (simp; done) | (simp [*]; done)), H', ⟨by have := HJ1.out; have := HJ7.out; have := HK3.out; have := HJ15.out; have := HK5.out; have := HJ42.out; first | omega | exact Nat.le_refl _⟩, ⟨by (with_reducible repeat (first | refine blk_drewN ?_ _ | refine blk_drew ?_ | refine blk_alloc ?_ _)); exact BK139.out⟩, ⟨by (with_reducible repeat (first | refine blk_drewN ?_ _ | refine blk_drew ?_ | refine blk_alloc ?_ _)); exact BK141.out⟩, ⟨by repeat (first | (with_reducible first | exact HB.out | apply below_alloc | apply pw_below_drewN | apply below_drew1 | refine below_set ?_ GE139.out | refine below_set ?_ GE141.out) | exact HB.out)⟩⟩
                    ·rw [if_neg c84] at H
                     have c84b0 : decide (((rd_T39 l0_1 x4_3).f3) < 1) = false := decide_eq_false c84
                     clear c84
                     (first | rw [c84b0] | (simp only [i64_w, i32_w]; rw [c84b0]) | skip)
                     by_cases c87 : ((rd_T39 l0_1 x4_3).f3) > ((rd_T39 l0_1 x4_3).f2)
                     ·rw [if_pos c87] at H
                      have c87b0 : decide (((rd_T39 l0_1 x4_3).f2) < ((rd_T39 l0_1 x4_3).f3)) = true := decide_eq_true c87
                      clear c87
                      have H' := Aside0.mk H
                      clear H
                      have hnb88 := NB141_139.out
                      have hnc88 := NB139_141.out
                      have hcz89_0 : wc.cell? ⟨gb141, 0, none⟩ = some (.string ((rd_T39 l0_1 x4_3).f0)) := (blk_cell BK141.out 0).trans rfl
                      have hcz89_1 : wc.cell? ⟨gb141, 1, none⟩ = some (.int .i64 ((rd_T39 l0_1 x4_3).f1)) := (blk_cell BK141.out 1).trans rfl
                      have hcz89_2 : wc.cell? ⟨gb141, 2, none⟩ = some (.int .i64 ((rd_T39 l0_1 x4_3).f2)) := (blk_cell BK141.out 2).trans rfl
                      have hcz89_3 : wc.cell? ⟨gb141, 3, none⟩ = some (.int .i64 ((rd_T39 l0_1 x4_3).f3)) := (blk_cell BK141.out 3).trans rfl
                      have hcz89_4 : wc.cell? ⟨gb141, 4, none⟩ = some (.int .i64 ((rd_T39 l0_1 x4_3).f4)) := (blk_cell BK141.out 4).trans rfl
                      have hcz89_5 : wc.cell? ⟨gb141, 5, none⟩ = some (.int .i64 ((rd_T39 l0_1 x4_3).f5)) := (blk_cell BK141.out 5).trans rfl
                      have hcz89_6 : wc.cell? ⟨gb141, 6, none⟩ = some (.int .i64 ((rd_T39 l0_1 x4_3).f6)) := (blk_cell BK141.out 6).trans rfl
                      have hcz89_7 : wc.cell? ⟨gb141, 7, none⟩ = some (.int .i64 ((rd_T39 l0_1 x4_3).f7)) := (blk_cell BK141.out 7).trans rfl
                      have hcz89_8 : wc.cell? ⟨gb141, 8, none⟩ = some (.int .i64 ((rd_T39 l0_1 x4_3).f8)) := (blk_cell BK141.out 8).trans rfl
                      have hcz89_9 : wc.cell? ⟨gb141, 9, none⟩ = some (.int .i64 ((rd_T39 l0_1 x4_3).f9)) := (blk_cell BK141.out 9).trans rfl
                      have hcz89_10 : wc.cell? ⟨gb141, 10, none⟩ = some (.int .i64 ((rd_T39 l0_1 x4_3).f10)) := (blk_cell BK141.out 10).trans rfl
                      have hfz89_0 := blk_frozen BK141.out 0
                      have hfz89_1 := blk_frozen BK141.out 1
                      have hfz89_2 := blk_frozen BK141.out 2
                      have hfz89_3 := blk_frozen BK141.out 3
                      have hfz89_4 := blk_frozen BK141.out 4
                      have hfz89_5 := blk_frozen BK141.out 5
                      have hfz89_6 := blk_frozen BK141.out 6
                      have hfz89_7 := blk_frozen BK141.out 7
                      have hfz89_8 := blk_frozen BK141.out 8
                      have hfz89_9 := blk_frozen BK141.out 9
                      have hfz89_10 := blk_frozen BK141.out 10
                      go_wp2
                      repeat (go_quiet (fail); try go_wp2)
                      go_meet
                      case rel => exact ⟨_, (true), (by first | rfl | (simp; done) | (simp [*]; done)), H', ⟨by have := HJ1.out; have := HJ7.out; have := HK3.out; have := HJ15.out; have := HK5.out; have := HJ42.out; first | omega | exact Nat.le_refl _⟩, ⟨by (with_reducible repeat (first | refine blk_drewN ?_ _ | refine blk_drew ?_ | refine blk_alloc ?_ _)); exact BK139.out⟩, ⟨by (with_reducible repeat (first | refine blk_drewN ?_ _ | refine blk_drew ?_ | refine blk_alloc ?_ _)); exact BK141.out⟩, ⟨by repeat (first | (with_reducible first | exact HB.out | apply below_alloc | apply pw_below_drewN | apply below_drew1 | refine below_set ?_ GE139.out | refine below_set ?_ GE141.out) | exact HB.out)⟩⟩
                     ·rw [if_neg c87] at H
                      have c87b0 : decide (((rd_T39 l0_1 x4_3).f2) < ((rd_T39 l0_1 x4_3).f3)) = false := decide_eq_false c87
                      clear c87
                      by_cases c90 : ((rd_T39 l0_1 x4_3).f2) > ((rd_T39 l0_1 x4_3).f1)
                      ·rw [if_pos c90] at H
                       have c90b0 : decide (((rd_T39 l0_1 x4_3).f1) < ((rd_T39 l0_1 x4_3).f2)) = true := decide_eq_true c90
                       clear c90
                       have H' := Aside0.mk H
                       clear H
                       have hnb91 := NB141_139.out
                       have hnc91 := NB139_141.out
                       have hcz92_0 : wc.cell? ⟨gb141, 0, none⟩ = some (.string ((rd_T39 l0_1 x4_3).f0)) := (blk_cell BK141.out 0).trans rfl
                       have hcz92_1 : wc.cell? ⟨gb141, 1, none⟩ = some (.int .i64 ((rd_T39 l0_1 x4_3).f1)) := (blk_cell BK141.out 1).trans rfl
                       have hcz92_2 : wc.cell? ⟨gb141, 2, none⟩ = some (.int .i64 ((rd_T39 l0_1 x4_3).f2)) := (blk_cell BK141.out 2).trans rfl
                       have hcz92_3 : wc.cell? ⟨gb141, 3, none⟩ = some (.int .i64 ((rd_T39 l0_1 x4_3).f3)) := (blk_cell BK141.out 3).trans rfl
                       have hcz92_4 : wc.cell? ⟨gb141, 4, none⟩ = some (.int .i64 ((rd_T39 l0_1 x4_3).f4)) := (blk_cell BK141.out 4).trans rfl
                       have hcz92_5 : wc.cell? ⟨gb141, 5, none⟩ = some (.int .i64 ((rd_T39 l0_1 x4_3).f5)) := (blk_cell BK141.out 5).trans rfl
                       have hcz92_6 : wc.cell? ⟨gb141, 6, none⟩ = some (.int .i64 ((rd_T39 l0_1 x4_3).f6)) := (blk_cell BK141.out 6).trans rfl
                       have hcz92_7 : wc.cell? ⟨gb141, 7, none⟩ = some (.int .i64 ((rd_T39 l0_1 x4_3).f7)) := (blk_cell BK141.out 7).trans rfl
                       have hcz92_8 : wc.cell? ⟨gb141, 8, none⟩ = some (.int .i64 ((rd_T39 l0_1 x4_3).f8)) := (blk_cell BK141.out 8).trans rfl
                       have hcz92_9 : wc.cell? ⟨gb141, 9, none⟩ = some (.int .i64 ((rd_T39 l0_1 x4_3).f9)) := (blk_cell BK141.out 9).trans rfl
                       have hcz92_10 : wc.cell? ⟨gb141, 10, none⟩ = some (.int .i64 ((rd_T39 l0_1 x4_3).f10)) := (blk_cell BK141.out 10).trans rfl
                       have hfz92_0 := blk_frozen BK141.out 0
                       have hfz92_1 := blk_frozen BK141.out 1
                       have hfz92_2 := blk_frozen BK141.out 2
                       have hfz92_3 := blk_frozen BK141.out 3
                       have hfz92_4 := blk_frozen BK141.out 4
                       have hfz92_5 := blk_frozen BK141.out 5
                       have hfz92_6 := blk_frozen BK141.out 6
                       have hfz92_7 := blk_frozen BK141.out 7
                       have hfz92_8 := blk_frozen BK141.out 8
                       have hfz92_9 := blk_frozen BK141.out 9
                       have hfz92_10 := blk_frozen BK141.out 10
                       go_wp2
                       repeat (go_quiet (fail); try go_wp2)
                       go_meet
                       case rel => exact ⟨_, (true), (by first | rfl | (simp; done) | (simp [*]; done)), H', ⟨by have := HJ1.out; have := HJ7.out; have := HK3.out; have := HJ15.out; have := HK5.out; have := HJ42.out; first | omega | exact Nat.le_refl _⟩, ⟨by (with_reducible repeat (first | refine blk_drewN ?_ _ | refine blk_drew ?_ | refine blk_alloc ?_ _)); exact BK139.out⟩, ⟨by (with_reducible repeat (first | refine blk_drewN ?_ _ | refine blk_drew ?_ | refine blk_alloc ?_ _)); exact BK141.out⟩, ⟨by repeat (first | (with_reducible first | exact HB.out | apply below_alloc | apply pw_below_drewN | apply below_drew1 | refine below_set ?_ GE139.out | refine below_set ?_ GE141.out) | exact HB.out)⟩⟩
                      ·rw [if_neg c90] at H
                       have c90b0 : decide (((rd_T39 l0_1 x4_3).f1) < ((rd_T39 l0_1 x4_3).f2)) = false := decide_eq_false c90
                       clear c90
                       by_cases c93 : ((rd_T39 l0_1 x4_3).f1) > 1048576
                       ·rw [if_pos c93] at H
                        have c93b0 : decide (1048576 < ((rd_T39 l0_1 x4_3).f1)) = true := decide_eq_true c93
                        clear c93
                        have H' := Aside0.mk H
                        clear H
                        have hnb94 := NB141_139.out
                        have hnc94 := NB139_141.out
                        have hcz95_0 : wc.cell? ⟨gb141, 0, none⟩ = some (.string ((rd_T39 l0_1 x4_3).f0)) := (blk_cell BK141.out 0).trans rfl
                        have hcz95_1 : wc.cell? ⟨gb141, 1, none⟩ = some (.int .i64 ((rd_T39 l0_1 x4_3).f1)) := (blk_cell BK141.out 1).trans rfl
                        have hcz95_2 : wc.cell? ⟨gb141, 2, none⟩ = some (.int .i64 ((rd_T39 l0_1 x4_3).f2)) := (blk_cell BK141.out 2).trans rfl
                        have hcz95_3 : wc.cell? ⟨gb141, 3, none⟩ = some (.int .i64 ((rd_T39 l0_1 x4_3).f3)) := (blk_cell BK141.out 3).trans rfl
                        have hcz95_4 : wc.cell? ⟨gb141, 4, none⟩ = some (.int .i64 ((rd_T39 l0_1 x4_3).f4)) := (blk_cell BK141.out 4).trans rfl
                        have hcz95_5 : wc.cell? ⟨gb141, 5, none⟩ = some (.int .i64 ((rd_T39 l0_1 x4_3).f5)) := (blk_cell BK141.out 5).trans rfl
                        have hcz95_6 : wc.cell? ⟨gb141, 6, none⟩ = some (.int .i64 ((rd_T39 l0_1 x4_3).f6)) := (blk_cell BK141.out 6).trans rfl
                        have hcz95_7 : wc.cell? ⟨gb141, 7, none⟩ = some (.int .i64 ((rd_T39 l0_1 x4_3).f7)) := (blk_cell BK141.out 7).trans rfl
                        have hcz95_8 : wc.cell? ⟨gb141, 8, none⟩ = some (.int .i64 ((rd_T39 l0_1 x4_3).f8)) := (blk_cell BK141.out 8).trans rfl
                        have hcz95_9 : wc.cell? ⟨gb141, 9, none⟩ = some (.int .i64 ((rd_T39 l0_1 x4_3).f9)) := (blk_cell BK141.out 9).trans rfl
                        have hcz95_10 : wc.cell? ⟨gb141, 10, none⟩ = some (.int .i64 ((rd_T39 l0_1 x4_3).f10)) := (blk_cell BK141.out 10).trans rfl
                        have hfz95_0 := blk_frozen BK141.out 0
                        have hfz95_1 := blk_frozen BK141.out 1
                        have hfz95_2 := blk_frozen BK141.out 2
                        have hfz95_3 := blk_frozen BK141.out 3
                        have hfz95_4 := blk_frozen BK141.out 4
                        have hfz95_5 := blk_frozen BK141.out 5
                        have hfz95_6 := blk_frozen BK141.out 6
                        have hfz95_7 := blk_frozen BK141.out 7
                        have hfz95_8 := blk_frozen BK141.out 8
                        have hfz95_9 := blk_frozen BK141.out 9
                        have hfz95_10 := blk_frozen BK141.out 10
                        go_wp2
                        repeat (go_quiet (fail); try go_wp2)
                        go_meet
                        case rel => exact ⟨_, (true), (by first | rfl | (simp; done) | (simp [*]; done)), H', ⟨by have := HJ1.out; have := HJ7.out; have := HK3.out; have := HJ15.out; have := HK5.out; have := HJ42.out; first | omega | exact Nat.le_refl _⟩, ⟨by (with_reducible repeat (first | refine blk_drewN ?_ _ | refine blk_drew ?_ | refine blk_alloc ?_ _)); exact BK139.out⟩, ⟨by (with_reducible repeat (first | refine blk_drewN ?_ _ | refine blk_drew ?_ | refine blk_alloc ?_ _)); exact BK141.out⟩, ⟨by repeat (first | (with_reducible first | exact HB.out | apply below_alloc | apply pw_below_drewN | apply below_drew1 | refine below_set ?_ GE139.out | refine below_set ?_ GE141.out) | exact HB.out)⟩⟩
                       ·rw [if_neg c93] at H
                        have c93b0 : decide (1048576 < ((rd_T39 l0_1 x4_3).f1)) = false := decide_eq_false c93
                        clear c93
                        by_cases c96 : ((rd_T39 l0_1 x4_3).f6) < 0
                        ·rw [if_pos c96] at H
                         have c96b0 : decide (((rd_T39 l0_1 x4_3).f6) < 0) = true := decide_eq_true c96
                         clear c96
                         have H' := Aside0.mk H
                         clear H
                         have hnb97 := NB141_139.out
                         have hnc97 := NB139_141.out
                         have hcz98_0 : wc.cell? ⟨gb141, 0, none⟩ = some (.string ((rd_T39 l0_1 x4_3).f0)) := (blk_cell BK141.out 0).trans rfl
                         have hcz98_1 : wc.cell? ⟨gb141, 1, none⟩ = some (.int .i64 ((rd_T39 l0_1 x4_3).f1)) := (blk_cell BK141.out 1).trans rfl
                         have hcz98_2 : wc.cell? ⟨gb141, 2, none⟩ = some (.int .i64 ((rd_T39 l0_1 x4_3).f2)) := (blk_cell BK141.out 2).trans rfl
                         have hcz98_3 : wc.cell? ⟨gb141, 3, none⟩ = some (.int .i64 ((rd_T39 l0_1 x4_3).f3)) := (blk_cell BK141.out 3).trans rfl
                         have hcz98_4 : wc.cell? ⟨gb141, 4, none⟩ = some (.int .i64 ((rd_T39 l0_1 x4_3).f4)) := (blk_cell BK141.out 4).trans rfl
                         have hcz98_5 : wc.cell? ⟨gb141, 5, none⟩ = some (.int .i64 ((rd_T39 l0_1 x4_3).f5)) := (blk_cell BK141.out 5).trans rfl
                         have hcz98_6 : wc.cell? ⟨gb141, 6, none⟩ = some (.int .i64 ((rd_T39 l0_1 x4_3).f6)) := (blk_cell BK141.out 6).trans rfl
                         have hcz98_7 : wc.cell? ⟨gb141, 7, none⟩ = some (.int .i64 ((rd_T39 l0_1 x4_3).f7)) := (blk_cell BK141.out 7).trans rfl
                         have hcz98_8 : wc.cell? ⟨gb141, 8, none⟩ = some (.int .i64 ((rd_T39 l0_1 x4_3).f8)) := (blk_cell BK141.out 8).trans rfl
                         have hcz98_9 : wc.cell? ⟨gb141, 9, none⟩ = some (.int .i64 ((rd_T39 l0_1 x4_3).f9)) := (blk_cell BK141.out 9).trans rfl
                         have hcz98_10 : wc.cell? ⟨gb141, 10, none⟩ = some (.int .i64 ((rd_T39 l0_1 x4_3).f10)) := (blk_cell BK141.out 10).trans rfl
                         have hfz98_0 := blk_frozen BK141.out 0
                         have hfz98_1 := blk_frozen BK141.out 1
                         have hfz98_2 := blk_frozen BK141.out 2
                         have hfz98_3 := blk_frozen BK141.out 3
                         have hfz98_4 := blk_frozen BK141.out 4
                         have hfz98_5 := blk_frozen BK141.out 5
                         have hfz98_6 := blk_frozen BK141.out 6
                         have hfz98_7 := blk_frozen BK141.out 7
                         have hfz98_8 := blk_frozen BK141.out 8
                         have hfz98_9 := blk_frozen BK141.out 9
                         have hfz98_10 := blk_frozen BK141.out 10
                         go_wp2
                         repeat (go_quiet (fail); try go_wp2)
                         go_meet
                         case rel => exact ⟨_, (true), (by first | rfl | (simp; done) | (simp [*]; done)), H', ⟨by have := HJ1.out; have := HJ7.out; have := HK3.out; have := HJ15.out; have := HK5.out; have := HJ42.out; first | omega | exact Nat.le_refl _⟩, ⟨by (with_reducible repeat (first | refine blk_drewN ?_ _ | refine blk_drew ?_ | refine blk_alloc ?_ _)); exact BK139.out⟩, ⟨by (with_reducible repeat (first | refine blk_drewN ?_ _ | refine blk_drew ?_ | refine blk_alloc ?_ _)); exact BK141.out⟩, ⟨by repeat (first | (with_reducible first | exact HB.out | apply below_alloc | apply pw_below_drewN | apply below_drew1 | refine below_set ?_ GE139.out | refine below_set ?_ GE141.out) | exact HB.out)⟩⟩
                        ·rw [if_neg c96] at H
                         have c96b0 : decide (((rd_T39 l0_1 x4_3).f6) < 0) = false := decide_eq_false c96
                         clear c96
                         have H' := Aside0.mk H
                         clear H
                         have hnb99 := NB141_139.out
                         have hnc99 := NB139_141.out
                         have hcz100_0 : wc.cell? ⟨gb141, 0, none⟩ = some (.string ((rd_T39 l0_1 x4_3).f0)) := (blk_cell BK141.out 0).trans rfl
                         have hcz100_1 : wc.cell? ⟨gb141, 1, none⟩ = some (.int .i64 ((rd_T39 l0_1 x4_3).f1)) := (blk_cell BK141.out 1).trans rfl
                         have hcz100_2 : wc.cell? ⟨gb141, 2, none⟩ = some (.int .i64 ((rd_T39 l0_1 x4_3).f2)) := (blk_cell BK141.out 2).trans rfl
                         have hcz100_3 : wc.cell? ⟨gb141, 3, none⟩ = some (.int .i64 ((rd_T39 l0_1 x4_3).f3)) := (blk_cell BK141.out 3).trans rfl
                         have hcz100_4 : wc.cell? ⟨gb141, 4, none⟩ = some (.int .i64 ((rd_T39 l0_1 x4_3).f4)) := (blk_cell BK141.out 4).trans rfl
                         have hcz100_5 : wc.cell? ⟨gb141, 5, none⟩ = some (.int .i64 ((rd_T39 l0_1 x4_3).f5)) := (blk_cell BK141.out 5).trans rfl
                         have hcz100_6 : wc.cell? ⟨gb141, 6, none⟩ = some (.int .i64 ((rd_T39 l0_1 x4_3).f6)) := (blk_cell BK141.out 6).trans rfl
                         have hcz100_7 : wc.cell? ⟨gb141, 7, none⟩ = some (.int .i64 ((rd_T39 l0_1 x4_3).f7)) := (blk_cell BK141.out 7).trans rfl
                         have hcz100_8 : wc.cell? ⟨gb141, 8, none⟩ = some (.int .i64 ((rd_T39 l0_1 x4_3).f8)) := (blk_cell BK141.out 8).trans rfl
                         have hcz100_9 : wc.cell? ⟨gb141, 9, none⟩ = some (.int .i64 ((rd_T39 l0_1 x4_3).f9)) := (blk_cell BK141.out 9).trans rfl
                         have hcz100_10 : wc.cell? ⟨gb141, 10, none⟩ = some (.int .i64 ((rd_T39 l0_1 x4_3).f10)) := (blk_cell BK141.out 10).trans rfl
                         have hfz100_0 := blk_frozen BK141.out 0
                         have hfz100_1 := blk_frozen BK141.out 1
                         have hfz100_2 := blk_frozen BK141.out 2
                         have hfz100_3 := blk_frozen BK141.out 3
                         have hfz100_4 := blk_frozen BK141.out 4
                         have hfz100_5 := blk_frozen BK141.out 5
                         have hfz100_6 := blk_frozen BK141.out 6
                         have hfz100_7 := blk_frozen BK141.out 7
                         have hfz100_8 := blk_frozen BK141.out 8
                         have hfz100_9 := blk_frozen BK141.out 9
                         have hfz100_10 := blk_frozen BK141.out 10
                         go_wp2
                         repeat (go_quiet (fail); try go_wp2)
                         go_meet
                         case rel => exact ⟨_, (decide (((rd_T39 l0_1 x4_3).f6) > 1000)), (by first | rfl | (simp; done) | (simp [*]; done)), H', ⟨by have := HJ1.out; have := HJ7.out; have := HK3.out; have := HJ15.out; have := HK5.out; have := HJ42.out; first | omega | exact Nat.le_refl _⟩, ⟨by (with_reducible repeat (first | refine blk_drewN ?_ _ | refine blk_drew ?_ | refine blk_alloc ?_ _)); exact BK139.out⟩, ⟨by (with_reducible repeat (first | refine blk_drewN ?_ _ | refine blk_drew ?_ | refine blk_alloc ?_ _)); exact BK141.out⟩, ⟨by repeat (first | (with_reducible first | exact HB.out | apply below_alloc | apply pw_below_drewN | apply below_drew1 | refine below_set ?_ GE139.out | refine below_set ?_ GE141.out) | exact HB.out)⟩⟩
                   case rest =>
                    clear HC83
                    try clear p1
                    try clear q1
                    try clear hx1
                    try clear p2
                    try clear c8
                    try clear c9
                    try clear p14
                    try clear q14
                    try clear hx14
                    try clear c82
                    try clear c84
                    try clear c84b0
                    try clear c85
                    try clear c87
                    try clear c87b0
                    try clear c88
                    try clear c90
                    try clear c90b0
                    try clear c91
                    try clear c93
                    try clear c93b0
                    try clear c94
                    try clear c96
                    try clear c96b0
                    try clear c97
                    try clear c99
                    try clear hcz100_0
                    try clear hcz100_1
                    try clear hcz100_10
                    try clear hcz100_2
                    try clear hcz100_3
                    try clear hcz100_4
                    try clear hcz100_5
                    try clear hcz100_6
                    try clear hcz100_7
                    try clear hcz100_8
                    try clear hcz100_9
                    try clear hcz41_1
                    try clear hcz42_0
                    try clear hcz42_1
                    try clear hcz42_10
                    try clear hcz42_2
                    try clear hcz42_3
                    try clear hcz42_4
                    try clear hcz42_5
                    try clear hcz42_6
                    try clear hcz42_7
                    try clear hcz42_8
                    try clear hcz42_9
                    try clear hcz46_0
                    try clear hcz46_1
                    try clear hcz46_10
                    try clear hcz46_2
                    try clear hcz46_3
                    try clear hcz46_4
                    try clear hcz46_5
                    try clear hcz46_6
                    try clear hcz46_7
                    try clear hcz46_8
                    try clear hcz46_9
                    try clear hcz49_0
                    try clear hcz49_1
                    try clear hcz49_10
                    try clear hcz49_2
                    try clear hcz49_3
                    try clear hcz49_4
                    try clear hcz49_5
                    try clear hcz49_6
                    try clear hcz49_7
                    try clear hcz49_8
                    try clear hcz49_9
                    try clear hcz53_0
                    try clear hcz53_1
                    try clear hcz53_10
                    try clear hcz53_2
                    try clear hcz53_3
                    try clear hcz53_4
                    try clear hcz53_5
                    try clear hcz53_6
                    try clear hcz53_7
                    try clear hcz53_8
                    try clear hcz53_9
                    try clear hcz56_0
                    try clear hcz56_1
                    try clear hcz56_10
                    try clear hcz56_2
                    try clear hcz56_3
                    try clear hcz56_4
                    try clear hcz56_5
                    try clear hcz56_6
                    try clear hcz56_7
                    try clear hcz56_8
                    try clear hcz56_9
                    try clear hcz61_0
                    try clear hcz61_1
                    try clear hcz61_10
                    try clear hcz61_2
                    try clear hcz61_3
                    try clear hcz61_4
                    try clear hcz61_5
                    try clear hcz61_6
                    try clear hcz61_7
                    try clear hcz61_8
                    try clear hcz61_9
                    try clear hcz64_0
                    try clear hcz64_1
                    try clear hcz64_10
                    try clear hcz64_2
                    try clear hcz64_3
                    try clear hcz64_4
                    try clear hcz64_5
                    try clear hcz64_6
                    try clear hcz64_7
                    try clear hcz64_8
                    try clear hcz64_9
                    try clear hcz66_0
                    try clear hcz66_1
                    try clear hcz66_10
                    try clear hcz66_2
                    try clear hcz66_3
                    try clear hcz66_4
                    try clear hcz66_5
                    try clear hcz66_6
                    try clear hcz66_7
                    try clear hcz66_8
                    try clear hcz66_9
                    try clear hcz68_0
                    try clear hcz68_1
                    try clear hcz68_10
                    try clear hcz68_2
                    try clear hcz68_3
                    try clear hcz68_4
                    try clear hcz68_5
                    try clear hcz68_6
                    try clear hcz68_7
                    try clear hcz68_8
                    try clear hcz68_9
                    try clear hcz70_0
                    try clear hcz70_1
                    try clear hcz70_10
                    try clear hcz70_2
                    try clear hcz70_3
                    try clear hcz70_4
                    try clear hcz70_5
                    try clear hcz70_6
                    try clear hcz70_7
                    try clear hcz70_8
                    try clear hcz70_9
                    try clear hcz74_0
                    try clear hcz74_1
                    try clear hcz74_10
                    try clear hcz74_2
                    try clear hcz74_3
                    try clear hcz74_4
                    try clear hcz74_5
                    try clear hcz74_6
                    try clear hcz74_7
                    try clear hcz74_8
                    try clear hcz74_9
                    try clear hcz77_0
                    try clear hcz77_1
                    try clear hcz77_10
                    try clear hcz77_2
                    try clear hcz77_3
                    try clear hcz77_4
                    try clear hcz77_5
                    try clear hcz77_6
                    try clear hcz77_7
                    try clear hcz77_8
                    try clear hcz77_9
                    try clear hcz79_0
                    try clear hcz79_1
                    try clear hcz79_10
                    try clear hcz79_2
                    try clear hcz79_3
                    try clear hcz79_4
                    try clear hcz79_5
                    try clear hcz79_6
                    try clear hcz79_7
                    try clear hcz79_8
                    try clear hcz79_9
                    try clear hcz81_0
                    try clear hcz81_1
                    try clear hcz81_10
                    try clear hcz81_2
                    try clear hcz81_3
                    try clear hcz81_4
                    try clear hcz81_5
                    try clear hcz81_6
                    try clear hcz81_7
                    try clear hcz81_8
                    try clear hcz81_9
                    try clear hcz86_0
                    try clear hcz86_1
                    try clear hcz86_10
                    try clear hcz86_2
                    try clear hcz86_3
                    try clear hcz86_4
                    try clear hcz86_5
                    try clear hcz86_6
                    try clear hcz86_7
                    try clear hcz86_8
                    try clear hcz86_9
                    try clear hcz89_0
                    try clear hcz89_1
                    try clear hcz89_10
                    try clear hcz89_2
                    try clear hcz89_3
                    try clear hcz89_4
                    try clear hcz89_5
                    try clear hcz89_6
                    try clear hcz89_7
                    try clear hcz89_8
                    try clear hcz89_9
                    try clear hcz92_0
                    try clear hcz92_1
                    try clear hcz92_10
                    try clear hcz92_2
                    try clear hcz92_3
                    try clear hcz92_4
                    try clear hcz92_5
                    try clear hcz92_6
                    try clear hcz92_7
                    try clear hcz92_8
                    try clear hcz92_9
                    try clear hcz95_0
                    try clear hcz95_1
                    try clear hcz95_10
                    try clear hcz95_2
                    try clear hcz95_3
                    try clear hcz95_4
                    try clear hcz95_5
                    try clear hcz95_6
                    try clear hcz95_7
                    try clear hcz95_8
                    try clear hcz95_9
                    try clear hcz98_0
                    try clear hcz98_1
                    try clear hcz98_10
                    try clear hcz98_2
                    try clear hcz98_3
                    try clear hcz98_4
                    try clear hcz98_5
                    try clear hcz98_6
                    try clear hcz98_7
                    try clear hcz98_8
                    try clear hcz98_9
                    try clear hfz100_0
                    try clear hfz100_1
                    try clear hfz100_10
                    try clear hfz100_2
                    try clear hfz100_3
                    try clear hfz100_4
                    try clear hfz100_5
                    try clear hfz100_6
                    try clear hfz100_7
                    try clear hfz100_8
                    try clear hfz100_9
                    try clear hfz39_0
                    try clear hfz39_1
                    try clear hfz39_10
                    try clear hfz39_2
                    try clear hfz39_3
                    try clear hfz39_4
                    try clear hfz39_5
                    try clear hfz39_6
                    try clear hfz39_7
                    try clear hfz39_8
                    try clear hfz39_9
                    try clear hfz41_0
                    try clear hfz41_1
                    try clear hfz42_0
                    try clear hfz42_1
                    try clear hfz42_10
                    try clear hfz42_2
                    try clear hfz42_3
                    try clear hfz42_4
                    try clear hfz42_5
                    try clear hfz42_6
                    try clear hfz42_7
                    try clear hfz42_8
                    try clear hfz42_9
                    try clear hfz46_0
                    try clear hfz46_1
                    try clear hfz46_10
                    try clear hfz46_2
                    try clear hfz46_3
                    try clear hfz46_4
                    try clear hfz46_5
                    try clear hfz46_6
                    try clear hfz46_7
                    try clear hfz46_8
                    try clear hfz46_9
                    try clear hfz49_0
                    try clear hfz49_1
                    try clear hfz49_10
                    try clear hfz49_2
                    try clear hfz49_3
                    try clear hfz49_4
                    try clear hfz49_5
                    try clear hfz49_6
                    try clear hfz49_7
                    try clear hfz49_8
                    try clear hfz49_9
                    try clear hfz53_0
                    try clear hfz53_1
                    try clear hfz53_10
                    try clear hfz53_2
                    try clear hfz53_3
                    try clear hfz53_4
                    try clear hfz53_5
                    try clear hfz53_6
                    try clear hfz53_7
                    try clear hfz53_8
                    try clear hfz53_9
                    try clear hfz56_0
                    try clear hfz56_1
                    try clear hfz56_10
                    try clear hfz56_2
                    try clear hfz56_3
                    try clear hfz56_4
                    try clear hfz56_5
                    try clear hfz56_6
                    try clear hfz56_7
                    try clear hfz56_8
                    try clear hfz56_9
                    try clear hfz61_0
                    try clear hfz61_1
                    try clear hfz61_10
                    try clear hfz61_2
                    try clear hfz61_3
                    try clear hfz61_4
                    try clear hfz61_5
                    try clear hfz61_6
                    try clear hfz61_7
                    try clear hfz61_8
                    try clear hfz61_9
                    try clear hfz64_0
                    try clear hfz64_1
                    try clear hfz64_10
                    try clear hfz64_2
                    try clear hfz64_3
                    try clear hfz64_4
                    try clear hfz64_5
                    try clear hfz64_6
                    try clear hfz64_7
                    try clear hfz64_8
                    try clear hfz64_9
                    try clear hfz66_0
                    try clear hfz66_1
                    try clear hfz66_10
                    try clear hfz66_2
                    try clear hfz66_3
                    try clear hfz66_4
                    try clear hfz66_5
                    try clear hfz66_6
                    try clear hfz66_7
                    try clear hfz66_8
                    try clear hfz66_9
                    try clear hfz68_0
                    try clear hfz68_1
                    try clear hfz68_10
                    try clear hfz68_2
                    try clear hfz68_3
                    try clear hfz68_4
                    try clear hfz68_5
                    try clear hfz68_6
                    try clear hfz68_7
                    try clear hfz68_8
                    try clear hfz68_9
                    try clear hfz70_0
                    try clear hfz70_1
                    try clear hfz70_10
                    try clear hfz70_2
                    try clear hfz70_3
                    try clear hfz70_4
                    try clear hfz70_5
                    try clear hfz70_6
                    try clear hfz70_7
                    try clear hfz70_8
                    try clear hfz70_9
                    try clear hfz74_0
                    try clear hfz74_1
                    try clear hfz74_10
                    try clear hfz74_2
                    try clear hfz74_3
                    try clear hfz74_4
                    try clear hfz74_5
                    try clear hfz74_6
                    try clear hfz74_7
                    try clear hfz74_8
                    try clear hfz74_9
                    try clear hfz77_0
                    try clear hfz77_1
                    try clear hfz77_10
                    try clear hfz77_2
                    try clear hfz77_3
                    try clear hfz77_4
                    try clear hfz77_5
                    try clear hfz77_6
                    try clear hfz77_7
                    try clear hfz77_8
                    try clear hfz77_9
                    try clear hfz79_0
                    try clear hfz79_1
                    try clear hfz79_10
                    try clear hfz79_2
                    try clear hfz79_3
                    try clear hfz79_4
                    try clear hfz79_5
                    try clear hfz79_6
                    try clear hfz79_7
                    try clear hfz79_8
                    try clear hfz79_9
                    try clear hfz81_0
                    try clear hfz81_1
                    try clear hfz81_10
                    try clear hfz81_2
                    try clear hfz81_3
                    try clear hfz81_4
                    try clear hfz81_5
                    try clear hfz81_6
                    try clear hfz81_7
                    try clear hfz81_8
                    try clear hfz81_9
                    try clear hfz86_0
                    try clear hfz86_1
                    try clear hfz86_10
                    try clear hfz86_2
                    try clear hfz86_3
                    try clear hfz86_4
                    try clear hfz86_5
                    try clear hfz86_6
                    try clear hfz86_7
                    try clear hfz86_8
                    try clear hfz86_9
                    try clear hfz89_0
                    try clear hfz89_1
                    try clear hfz89_10
                    try clear hfz89_2
                    try clear hfz89_3
                    try clear hfz89_4
                    try clear hfz89_5
                    try clear hfz89_6
                    try clear hfz89_7
                    try clear hfz89_8
                    try clear hfz89_9
                    try clear hfz92_0
                    try clear hfz92_1
                    try clear hfz92_10
                    try clear hfz92_2
                    try clear hfz92_3
                    try clear hfz92_4
                    try clear hfz92_5
                    try clear hfz92_6
                    try clear hfz92_7
                    try clear hfz92_8
                    try clear hfz92_9
                    try clear hfz95_0
                    try clear hfz95_1
                    try clear hfz95_10
                    try clear hfz95_2
                    try clear hfz95_3
                    try clear hfz95_4
                    try clear hfz95_5
                    try clear hfz95_6
                    try clear hfz95_7
                    try clear hfz95_8
                    try clear hfz95_9
                    try clear hfz98_0
                    try clear hfz98_1
                    try clear hfz98_10
                    try clear hfz98_2
                    try clear hfz98_3
                    try clear hfz98_4
                    try clear hfz98_5
                    try clear hfz98_6
                    try clear hfz98_7
                    try clear hfz98_8
                    try clear hfz98_9
                    try clear hx144_0
                    try clear hx144_1
                    try clear hx144_10
                    try clear hx144_2
                    try clear hx144_3
                    try clear hx144_4
                    try clear hx144_5
                    try clear hx144_6
                    try clear hx144_7
                    try clear hx144_8
                    try clear hx144_9
                    try clear hx145_0
                    try clear hx145_1
                    try clear hx145_10
                    try clear hx145_2
                    try clear hx145_3
                    try clear hx145_4
                    try clear hx145_5
                    try clear hx145_6
                    try clear hx145_7
                    try clear hx145_8
                    try clear hx145_9
                    try clear p144
                    try clear p145
                    try clear q144
                    try clear q145
                    obtain ⟨kq, x166_82, rfl, HA, HJ82, BK139, BK141, HB⟩ := hcut
                    cases kq with
                    | zero => exact absurd HA.out (by simp [pendulumref05_Why.j6])
                    | succ kj82 =>
                     have H := HA.out
                     clear HA
                     simp only [pendulumref05_Why.j6] at H
                     by_cases c101 : x166_82 = true
                     ·subst c101
                      have H1 : (some (4, x4_3)) = some (r1, r2) := by rw [if_pos rfl] at H; exact H
                      clear H
                      have H := H1
                      clear H1
                      simp only [Option.some.injEq, Prod.mk.injEq] at H
                      obtain ⟨rfl, rfl⟩ := H
                      go_wp2
                      repeat (go_quiet (fail); try go_wp2)
                      go_ret2
                      exact ⟨by first | rfl | (simp [errW_none, errW_some] <;> rfl) | (simp [*, errW_none, errW_some] <;> rfl), by repeat (first | (with_reducible first | exact HB.out | apply below_alloc | apply pw_below_drewN | apply below_drew1 | refine below_set ?_ GE139.out | refine below_set ?_ GE141.out) | exact HB.out)⟩
                     ·replace c101 := Bool.eq_false_iff.mpr c101
                      subst c101
                      have H1 : (if x9_42 = true then (some (5, x4_3)) else (if ((rd_T39 l0_1 x4_3).f7) < 1 then (pendulumref05_Why.j7 kj82 x4_3 x7_5 true a0_0 l0_1) else (if ((rd_T39 l0_1 x4_3).f7) > ((rd_T39 l0_1 x4_3).f8) then (pendulumref05_Why.j7 kj82 x4_3 x7_5 true a0_0 l0_1) else (pendulumref05_Why.j7 kj82 x4_3 x7_5 (decide (((rd_T39 l0_1 x4_3).f8) > 64)) a0_0 l0_1)))) = some (r1, r2) := by rw [if_neg (show ¬ (false = true) by decide)] at H; exact H
                      clear H
                      have H := H1
                      clear H1
                      by_cases c102 : x9_42 = true
                      ·subst c102
                       have H1 : (some (5, x4_3)) = some (r1, r2) := by rw [if_pos rfl] at H; exact H
                       clear H
                       have H := H1
                       clear H1
                       simp only [Option.some.injEq, Prod.mk.injEq] at H
                       obtain ⟨rfl, rfl⟩ := H
                       go_wp2
                       repeat (go_quiet (fail); try go_wp2)
                       go_ret2
                       exact ⟨by first | rfl | (simp [errW_none, errW_some] <;> rfl) | (simp [*, errW_none, errW_some] <;> rfl), by repeat (first | (with_reducible first | exact HB.out | apply below_alloc | apply pw_below_drewN | apply below_drew1 | refine below_set ?_ GE139.out | refine below_set ?_ GE141.out) | exact HB.out)⟩
                      ·replace c102 := Bool.eq_false_iff.mpr c102
                       subst c102
                       have H1 : (if ((rd_T39 l0_1 x4_3).f7) < 1 then (pendulumref05_Why.j7 kj82 x4_3 x7_5 true a0_0 l0_1) else (if ((rd_T39 l0_1 x4_3).f7) > ((rd_T39 l0_1 x4_3).f8) then (pendulumref05_Why.j7 kj82 x4_3 x7_5 true a0_0 l0_1) else (pendulumref05_Why.j7 kj82 x4_3 x7_5 (decide (((rd_T39 l0_1 x4_3).f8) > 64)) a0_0 l0_1))) = some (r1, r2) := by rw [if_neg (show ¬ (false = true) by decide)] at H; exact H
                       clear H
                       have H := H1
                       clear H1
                       have HC103 := Aside0.mk H
                       clear H
                       go_upto_region 23 with (fail)
                       repeat (go_quiet (fail); go_upto_region 23 with (fail))
                       go_cut [184] (fun v184 wc => ∃ (kq : Nat) (x184_102 : Bool), v184 = .bool x184_102 ∧ Aside0 (pendulumref05_Why.j7 kq x4_3 x7_5 x184_102 a0_0 l0_1 = some (r1, r2)) ∧ Aside0 (kq ≤ kj82) ∧ Aside0 (wc.heap[gb139]? = some (.cells #[.int .i64 a0_0, (.slice (some ad140) l0_1.length c0_1)] 24 (0, 0))) ∧ Aside0 (wc.heap[gb141]? = some (.cells #[.string ((rd_T39 l0_1 x4_3).f0), .int .i64 ((rd_T39 l0_1 x4_3).f1), .int .i64 ((rd_T39 l0_1 x4_3).f2), .int .i64 ((rd_T39 l0_1 x4_3).f3), .int .i64 ((rd_T39 l0_1 x4_3).f4), .int .i64 ((rd_T39 l0_1 x4_3).f5), .int .i64 ((rd_T39 l0_1 x4_3).f6), .int .i64 ((rd_T39 l0_1 x4_3).f7), .int .i64 ((rd_T39 l0_1 x4_3).f8), .int .i64 ((rd_T39 l0_1 x4_3).f9), .int .i64 ((rd_T39 l0_1 x4_3).f10)] 39 (0, 0))) ∧ Aside0 (Below w.heap.size w wc))
                       case first => as_aux_lemma =>
                        have H := HC103.out
                        clear HC103
                        by_cases c104 : ((rd_T39 l0_1 x4_3).f7) < 1
                        ·rw [if_pos c104] at H
                         have c104b0 : decide (((rd_T39 l0_1 x4_3).f7) < 1) = true := decide_eq_true c104
                         clear c104
                         (first | rw [c104b0] | (simp only [i64_w, i32_w]; rw [c104b0]) | skip)
                         have H' := Aside0.mk H
                         clear H
                         have hnb105 := NB141_139.out
                         have hnc105 := NB139_141.out
                         have hcz106_0 : wc.cell? ⟨gb141, 0, none⟩ = some (.string ((rd_T39 l0_1 x4_3).f0)) := (blk_cell BK141.out 0).trans rfl
                         have hcz106_1 : wc.cell? ⟨gb141, 1, none⟩ = some (.int .i64 ((rd_T39 l0_1 x4_3).f1)) := (blk_cell BK141.out 1).trans rfl
                         have hcz106_2 : wc.cell? ⟨gb141, 2, none⟩ = some (.int .i64 ((rd_T39 l0_1 x4_3).f2)) := (blk_cell BK141.out 2).trans rfl
                         have hcz106_3 : wc.cell? ⟨gb141, 3, none⟩ = some (.int .i64 ((rd_T39 l0_1 x4_3).f3)) := (blk_cell BK141.out 3).trans rfl
                         have hcz106_4 : wc.cell? ⟨gb141, 4, none⟩ = some (.int .i64 ((rd_T39 l0_1 x4_3).f4)) := (blk_cell BK141.out 4).trans rfl
                         have hcz106_5 : wc.cell? ⟨gb141, 5, none⟩ = some (.int .i64 ((rd_T39 l0_1 x4_3).f5)) := (blk_cell BK141.out 5).trans rfl
                         have hcz106_6 : wc.cell? ⟨gb141, 6, none⟩ = some (.int .i64 ((rd_T39 l0_1 x4_3).f6)) := (blk_cell BK141.out 6).trans rfl
                         have hcz106_7 : wc.cell? ⟨gb141, 7, none⟩ = some (.int .i64 ((rd_T39 l0_1 x4_3).f7)) := (blk_cell BK141.out 7).trans rfl
                         have hcz106_8 : wc.cell? ⟨gb141, 8, none⟩ = some (.int .i64 ((rd_T39 l0_1 x4_3).f8)) := (blk_cell BK141.out 8).trans rfl
                         have hcz106_9 : wc.cell? ⟨gb141, 9, none⟩ = some (.int .i64 ((rd_T39 l0_1 x4_3).f9)) := (blk_cell BK141.out 9).trans rfl
                         have hcz106_10 : wc.cell? ⟨gb141, 10, none⟩ = some (.int .i64 ((rd_T39 l0_1 x4_3).f10)) := (blk_cell BK141.out 10).trans rfl
                         have hfz106_0 := blk_frozen BK141.out 0
                         have hfz106_1 := blk_frozen BK141.out 1
                         have hfz106_2 := blk_frozen BK141.out 2
                         have hfz106_3 := blk_frozen BK141.out 3
                         have hfz106_4 := blk_frozen BK141.out 4
                         have hfz106_5 := blk_frozen BK141.out 5
                         have hfz106_6 := blk_frozen BK141.out 6
                         have hfz106_7 := blk_frozen BK141.out 7
                         have hfz106_8 := blk_frozen BK141.out 8
                         have hfz106_9 := blk_frozen BK141.out 9
                         have hfz106_10 := blk_frozen BK141.out 10
                         go_wp2
                         repeat (go_quiet (fail); try go_wp2)
                         go_meet
                         case rel => exact ⟨_, (true), (by first | rfl | (simp; done) | (simp [*]; done)), H', ⟨by have := HJ1.out; have := HJ7.out; have := HK3.out; have := HJ15.out; have := HK5.out; have := HJ42.out; have := HJ82.out; first | omega | exact Nat.le_refl _⟩, ⟨by (with_reducible repeat (first | refine blk_drewN ?_ _ | refine blk_drew ?_ | refine blk_alloc ?_ _)); exact BK139.out⟩, ⟨by (with_reducible repeat (first | refine blk_drewN ?_ _ | refine blk_drew ?_ | refine blk_alloc ?_ _)); exact BK141.out⟩, ⟨by repeat (first | (with_reducible first | exact HB.out | apply below_alloc | apply pw_below_drewN | apply below_drew1 | refine below_set ?_ GE139.out | refine below_set ?_ GE141.out) | exact HB.out)⟩⟩
                        ·rw [if_neg c104] at H
                         have c104b0 : decide (((rd_T39 l0_1 x4_3).f7) < 1) = false := decide_eq_false c104
                         clear c104
                         (first | rw [c104b0] | (simp only [i64_w, i32_w]; rw [c104b0]) | skip)
                         by_cases c107 : ((rd_T39 l0_1 x4_3).f7) > ((rd_T39 l0_1 x4_3).f8)
                         ·rw [if_pos c107] at H
                          have c107b0 : decide (((rd_T39 l0_1 x4_3).f8) < ((rd_T39 l0_1 x4_3).f7)) = true := decide_eq_true c107
                          clear c107
                          have H' := Aside0.mk H
                          clear H
                          have hnb108 := NB141_139.out
                          have hnc108 := NB139_141.out
                          have hcz109_0 : wc.cell? ⟨gb141, 0, none⟩ = some (.string ((rd_T39 l0_1 x4_3).f0)) := (blk_cell BK141.out 0).trans rfl
                          have hcz109_1 : wc.cell? ⟨gb141, 1, none⟩ = some (.int .i64 ((rd_T39 l0_1 x4_3).f1)) := (blk_cell BK141.out 1).trans rfl
                          have hcz109_2 : wc.cell? ⟨gb141, 2, none⟩ = some (.int .i64 ((rd_T39 l0_1 x4_3).f2)) := (blk_cell BK141.out 2).trans rfl
                          have hcz109_3 : wc.cell? ⟨gb141, 3, none⟩ = some (.int .i64 ((rd_T39 l0_1 x4_3).f3)) := (blk_cell BK141.out 3).trans rfl
                          have hcz109_4 : wc.cell? ⟨gb141, 4, none⟩ = some (.int .i64 ((rd_T39 l0_1 x4_3).f4)) := (blk_cell BK141.out 4).trans rfl
                          have hcz109_5 : wc.cell? ⟨gb141, 5, none⟩ = some (.int .i64 ((rd_T39 l0_1 x4_3).f5)) := (blk_cell BK141.out 5).trans rfl
                          have hcz109_6 : wc.cell? ⟨gb141, 6, none⟩ = some (.int .i64 ((rd_T39 l0_1 x4_3).f6)) := (blk_cell BK141.out 6).trans rfl
                          have hcz109_7 : wc.cell? ⟨gb141, 7, none⟩ = some (.int .i64 ((rd_T39 l0_1 x4_3).f7)) := (blk_cell BK141.out 7).trans rfl
                          have hcz109_8 : wc.cell? ⟨gb141, 8, none⟩ = some (.int .i64 ((rd_T39 l0_1 x4_3).f8)) := (blk_cell BK141.out 8).trans rfl
                          have hcz109_9 : wc.cell? ⟨gb141, 9, none⟩ = some (.int .i64 ((rd_T39 l0_1 x4_3).f9)) := (blk_cell BK141.out 9).trans rfl
                          have hcz109_10 : wc.cell? ⟨gb141, 10, none⟩ = some (.int .i64 ((rd_T39 l0_1 x4_3).f10)) := (blk_cell BK141.out 10).trans rfl
                          have hfz109_0 := blk_frozen BK141.out 0
                          have hfz109_1 := blk_frozen BK141.out 1
                          have hfz109_2 := blk_frozen BK141.out 2
                          have hfz109_3 := blk_frozen BK141.out 3
                          have hfz109_4 := blk_frozen BK141.out 4
                          have hfz109_5 := blk_frozen BK141.out 5
                          have hfz109_6 := blk_frozen BK141.out 6
                          have hfz109_7 := blk_frozen BK141.out 7
                          have hfz109_8 := blk_frozen BK141.out 8
                          have hfz109_9 := blk_frozen BK141.out 9
                          have hfz109_10 := blk_frozen BK141.out 10
                          go_wp2
                          repeat (go_quiet (fail); try go_wp2)
                          go_meet
                          case rel => exact ⟨_, (true), (by first | rfl | (simp; done) | (simp [*]; done)), H', ⟨by have := HJ1.out; have := HJ7.out; have := HK3.out; have := HJ15.out; have := HK5.out; have := HJ42.out; have := HJ82.out; first | omega | exact Nat.le_refl _⟩, ⟨by (with_reducible repeat (first | refine blk_drewN ?_ _ | refine blk_drew ?_ | refine blk_alloc ?_ _)); exact BK139.out⟩, ⟨by (with_reducible repeat (first | refine blk_drewN ?_ _ | refine blk_drew ?_ | refine blk_alloc ?_ _)); exact BK141.out⟩, ⟨by repeat (first | (with_reducible first | exact HB.out | apply below_alloc | apply pw_below_drewN | apply below_drew1 | refine below_set ?_ GE139.out | refine below_set ?_ GE141.out) | exact HB.out)⟩⟩
                         ·rw [if_neg c107] at H
                          have c107b0 : decide (((rd_T39 l0_1 x4_3).f8) < ((rd_T39 l0_1 x4_3).f7)) = false := decide_eq_false c107
                          clear c107
                          have H' := Aside0.mk H
                          clear H
                          have hnb110 := NB141_139.out
                          have hnc110 := NB139_141.out
                          have hcz111_0 : wc.cell? ⟨gb141, 0, none⟩ = some (.string ((rd_T39 l0_1 x4_3).f0)) := (blk_cell BK141.out 0).trans rfl
                          have hcz111_1 : wc.cell? ⟨gb141, 1, none⟩ = some (.int .i64 ((rd_T39 l0_1 x4_3).f1)) := (blk_cell BK141.out 1).trans rfl
                          have hcz111_2 : wc.cell? ⟨gb141, 2, none⟩ = some (.int .i64 ((rd_T39 l0_1 x4_3).f2)) := (blk_cell BK141.out 2).trans rfl
                          have hcz111_3 : wc.cell? ⟨gb141, 3, none⟩ = some (.int .i64 ((rd_T39 l0_1 x4_3).f3)) := (blk_cell BK141.out 3).trans rfl
                          have hcz111_4 : wc.cell? ⟨gb141, 4, none⟩ = some (.int .i64 ((rd_T39 l0_1 x4_3).f4)) := (blk_cell BK141.out 4).trans rfl
                          have hcz111_5 : wc.cell? ⟨gb141, 5, none⟩ = some (.int .i64 ((rd_T39 l0_1 x4_3).f5)) := (blk_cell BK141.out 5).trans rfl
                          have hcz111_6 : wc.cell? ⟨gb141, 6, none⟩ = some (.int .i64 ((rd_T39 l0_1 x4_3).f6)) := (blk_cell BK141.out 6).trans rfl
                          have hcz111_7 : wc.cell? ⟨gb141, 7, none⟩ = some (.int .i64 ((rd_T39 l0_1 x4_3).f7)) := (blk_cell BK141.out 7).trans rfl
                          have hcz111_8 : wc.cell? ⟨gb141, 8, none⟩ = some (.int .i64 ((rd_T39 l0_1 x4_3).f8)) := (blk_cell BK141.out 8).trans rfl
                          have hcz111_9 : wc.cell? ⟨gb141, 9, none⟩ = some (.int .i64 ((rd_T39 l0_1 x4_3).f9)) := (blk_cell BK141.out 9).trans rfl
                          have hcz111_10 : wc.cell? ⟨gb141, 10, none⟩ = some (.int .i64 ((rd_T39 l0_1 x4_3).f10)) := (blk_cell BK141.out 10).trans rfl
                          have hfz111_0 := blk_frozen BK141.out 0
                          have hfz111_1 := blk_frozen BK141.out 1
                          have hfz111_2 := blk_frozen BK141.out 2
                          have hfz111_3 := blk_frozen BK141.out 3
                          have hfz111_4 := blk_frozen BK141.out 4
                          have hfz111_5 := blk_frozen BK141.out 5
                          have hfz111_6 := blk_frozen BK141.out 6
                          have hfz111_7 := blk_frozen BK141.out 7
                          have hfz111_8 := blk_frozen BK141.out 8
                          have hfz111_9 := blk_frozen BK141.out 9
                          have hfz111_10 := blk_frozen BK141.out 10
                          go_wp2
                          repeat (go_quiet (fail); try go_wp2)
                          go_meet
                          case rel => exact ⟨_, (decide (((rd_T39 l0_1 x4_3).f8) > 64)), (by first | rfl | (simp; done) | (simp [*]; done)), H', ⟨by have := HJ1.out; have := HJ7.out; have := HK3.out; have := HJ15.out; have := HK5.out; have := HJ42.out; have := HJ82.out; first | omega | exact Nat.le_refl _⟩, ⟨by (with_reducible repeat (first | refine blk_drewN ?_ _ | refine blk_drew ?_ | refine blk_alloc ?_ _)); exact BK139.out⟩, ⟨by (with_reducible repeat (first | refine blk_drewN ?_ _ | refine blk_drew ?_ | refine blk_alloc ?_ _)); exact BK141.out⟩, ⟨by repeat (first | (with_reducible first | exact HB.out | apply below_alloc | apply pw_below_drewN | apply below_drew1 | refine below_set ?_ GE139.out | refine below_set ?_ GE141.out) | exact HB.out)⟩⟩
                       case rest => as_aux_lemma =>
                        clear HC103
                        try clear c1
                        try clear p1
                        try clear q1
                        try clear hx1
                        try clear p2
                        try clear c10
                        try clear c11
                        try clear p14
                        try clear q14
                        try clear hx14
                        try clear c101
                        try clear c102
                        try clear c104
                        try clear c104b0
                        try clear c105
                        try clear c107
                        try clear c107b0
                        try clear c108
                        try clear c110
                        try clear hcz106_0
                        try clear hcz106_1
                        try clear hcz106_10
                        try clear hcz106_2
                        try clear hcz106_3
                        try clear hcz106_4
                        try clear hcz106_5
                        try clear hcz106_6
                        try clear hcz106_7
                        try clear hcz106_8
                        try clear hcz106_9
                        try clear hcz109_0
                        try clear hcz109_1
                        try clear hcz109_10
                        try clear hcz109_2
                        try clear hcz109_3
                        try clear hcz109_4
                        try clear hcz109_5
                        try clear hcz109_6
                        try clear hcz109_7
                        try clear hcz109_8
                        try clear hcz109_9
                        try clear hcz111_0
                        try clear hcz111_1
                        try clear hcz111_10
                        try clear hcz111_2
                        try clear hcz111_3
                        try clear hcz111_4
                        try clear hcz111_5
                        try clear hcz111_6
                        try clear hcz111_7
                        try clear hcz111_8
                        try clear hcz111_9
                        try clear hcz49_4
                        try clear hcz49_5
                        try clear hcz49_6
                        try clear hcz49_7
                        try clear hcz49_8
                        try clear hcz49_9
                        try clear hcz53_0
                        try clear hcz53_1
                        try clear hcz53_10
                        try clear hcz53_2
                        try clear hcz53_3
                        try clear hcz53_4
                        try clear hcz53_5
                        try clear hcz53_6
                        try clear hcz53_7
                        try clear hcz53_8
                        try clear hcz53_9
                        try clear hcz56_0
                        try clear hcz56_1
                        try clear hcz56_10
                        try clear hcz56_2
                        try clear hcz56_3
                        try clear hcz56_4
                        try clear hcz56_5
                        try clear hcz56_6
                        try clear hcz56_7
                        try clear hcz56_8
                        try clear hcz56_9
                        try clear hcz61_0
                        try clear hcz61_1
                        try clear hcz61_10
                        try clear hcz61_2
                        try clear hcz61_3
                        try clear hcz61_4
                        try clear hcz61_5
                        try clear hcz61_6
                        try clear hcz61_7
                        try clear hcz61_8
                        try clear hcz61_9
                        try clear hcz64_0
                        try clear hcz64_1
                        try clear hcz64_10
                        try clear hcz64_2
                        try clear hcz64_3
                        try clear hcz64_4
                        try clear hcz64_5
                        try clear hcz64_6
                        try clear hcz64_7
                        try clear hcz64_8
                        try clear hcz64_9
                        try clear hcz66_0
                        try clear hcz66_1
                        try clear hcz66_10
                        try clear hcz66_2
                        try clear hcz66_3
                        try clear hcz66_4
                        try clear hcz66_5
                        try clear hcz66_6
                        try clear hcz66_7
                        try clear hcz66_8
                        try clear hcz66_9
                        try clear hcz68_0
                        try clear hcz68_1
                        try clear hcz68_10
                        try clear hcz68_2
                        try clear hcz68_3
                        try clear hcz68_4
                        try clear hcz68_5
                        try clear hcz68_6
                        try clear hcz68_7
                        try clear hcz68_8
                        try clear hcz68_9
                        try clear hcz70_0
                        try clear hcz70_1
                        try clear hcz70_10
                        try clear hcz70_2
                        try clear hcz70_3
                        try clear hcz70_4
                        try clear hcz70_5
                        try clear hcz70_6
                        try clear hcz70_7
                        try clear hcz70_8
                        try clear hcz70_9
                        try clear hcz74_0
                        try clear hcz74_1
                        try clear hcz74_10
                        try clear hcz74_2
                        try clear hcz74_3
                        try clear hcz74_4
                        try clear hcz74_5
                        try clear hcz74_6
                        try clear hcz74_7
                        try clear hcz74_8
                        try clear hcz74_9
                        try clear hcz77_0
                        try clear hcz77_1
                        try clear hcz77_10
                        try clear hcz77_2
                        try clear hcz77_3
                        try clear hcz77_4
                        try clear hcz77_5
                        try clear hcz77_6
                        try clear hcz77_7
                        try clear hcz77_8
                        try clear hcz77_9
                        try clear hcz79_0
                        try clear hcz79_1
                        try clear hcz79_10
                        try clear hcz79_2
                        try clear hcz79_3
                        try clear hcz79_4
                        try clear hcz79_5
                        try clear hcz79_6
                        try clear hcz79_7
                        try clear hcz79_8
                        try clear hcz79_9
                        try clear hcz81_0
                        try clear hcz81_1
                        try clear hcz81_10
                        try clear hcz81_2
                        try clear hcz81_3
                        try clear hcz81_4
                        try clear hcz81_5
                        try clear hcz81_6
                        try clear hcz81_7
                        try clear hcz81_8
                        try clear hcz81_9
                        try clear hcz86_0
                        try clear hcz86_1
                        try clear hcz86_10
                        try clear hcz86_2
                        try clear hcz86_3
                        try clear hcz86_4
                        try clear hcz86_5
                        try clear hcz86_6
                        try clear hcz86_7
                        try clear hcz86_8
                        try clear hcz86_9
                        try clear hcz89_0
                        try clear hcz89_1
                        try clear hcz89_10
                        try clear hcz89_2
                        try clear hcz89_3
                        try clear hcz89_4
                        try clear hcz89_5
                        try clear hcz89_6
                        try clear hcz89_7
                        try clear hcz89_8
                        try clear hcz89_9
                        try clear hcz92_0
                        try clear hcz92_1
                        try clear hcz92_10
                        try clear hcz92_2
                        try clear hcz92_3
                        try clear hcz92_4
                        try clear hcz92_5
                        try clear hcz92_6
                        try clear hcz92_7
                        try clear hcz92_8
                        try clear hcz92_9
                        try clear hcz95_0
                        try clear hcz95_1
                        try clear hcz95_10
                        try clear hcz95_2
                        try clear hcz95_3
                        try clear hcz95_4
                        try clear hcz95_5
                        try clear hcz95_6
                        try clear hcz95_7
                        try clear hcz95_8
                        try clear hcz95_9
                        try clear hcz98_0
                        try clear hcz98_1
                        try clear hcz98_10
                        try clear hcz98_2
                        try clear hcz98_3
                        try clear hcz98_4
                        try clear hcz98_5
                        try clear hcz98_6
                        try clear hcz98_7
                        try clear hcz98_8
                        try clear hcz98_9
                        try clear hfz100_0
                        try clear hfz100_1
                        try clear hfz100_10
                        try clear hfz100_2
                        try clear hfz100_3
                        try clear hfz100_4
                        try clear hfz100_5
                        try clear hfz100_6
                        try clear hfz100_7
                        try clear hfz100_8
                        try clear hfz100_9
                        try clear hfz106_0
                        try clear hfz106_1
                        try clear hfz106_10
                        try clear hfz106_2
                        try clear hfz106_3
                        try clear hfz106_4
                        try clear hfz106_5
                        try clear hfz106_6
                        try clear hfz106_7
                        try clear hfz106_8
                        try clear hfz106_9
                        try clear hfz109_0
                        try clear hfz109_1
                        try clear hfz109_10
                        try clear hfz109_2
                        try clear hfz109_3
                        try clear hfz109_4
                        try clear hfz109_5
                        try clear hfz109_6
                        try clear hfz109_7
                        try clear hfz109_8
                        try clear hfz109_9
                        try clear hfz111_0
                        try clear hfz111_1
                        try clear hfz111_10
                        try clear hfz111_2
                        try clear hfz111_3
                        try clear hfz111_4
                        try clear hfz111_5
                        try clear hfz111_6
                        try clear hfz111_7
                        try clear hfz111_8
                        try clear hfz111_9
                        try clear hfz39_0
                        try clear hfz39_1
                        try clear hfz39_10
                        try clear hfz39_2
                        try clear hfz39_3
                        try clear hfz39_4
                        try clear hfz39_5
                        try clear hfz39_6
                        try clear hfz39_7
                        try clear hfz39_8
                        try clear hfz39_9
                        try clear hfz41_0
                        try clear hfz41_1
                        try clear hfz42_0
                        try clear hfz42_1
                        try clear hfz42_10
                        try clear hfz42_2
                        try clear hfz42_3
                        try clear hfz42_4
                        try clear hfz42_5
                        try clear hfz42_6
                        try clear hfz42_7
                        try clear hfz42_8
                        try clear hfz42_9
                        try clear hfz46_0
                        try clear hfz46_1
                        try clear hfz46_10
                        try clear hfz46_2
                        try clear hfz46_3
                        try clear hfz46_4
                        try clear hfz46_5
                        try clear hfz46_6
                        try clear hfz46_7
                        try clear hfz46_8
                        try clear hfz46_9
                        try clear hfz49_0
                        try clear hfz49_1
                        try clear hfz49_10
                        try clear hfz49_2
                        try clear hfz49_3
                        try clear hfz49_4
                        try clear hfz49_5
                        try clear hfz49_6
                        try clear hfz49_7
                        try clear hfz49_8
                        try clear hfz49_9
                        try clear hfz53_0
                        try clear hfz53_1
                        try clear hfz53_10
                        try clear hfz53_2
                        try clear hfz53_3
                        try clear hfz53_4
                        try clear hfz53_5
                        try clear hfz53_6
                        try clear hfz53_7
                        try clear hfz53_8
                        try clear hfz53_9
                        try clear hfz56_0
                        try clear hfz56_1
                        try clear hfz56_10
                        try clear hfz56_2
                        try clear hfz56_3
                        try clear hfz56_4
                        try clear hfz56_5
                        try clear hfz56_6
                        try clear hfz56_7
                        try clear hfz56_8
                        try clear hfz56_9
                        try clear hfz61_0
                        try clear hfz61_1
                        try clear hfz61_10
                        try clear hfz61_2
                        try clear hfz61_3
                        try clear hfz61_4
                        try clear hfz61_5
                        try clear hfz61_6
                        try clear hfz61_7
                        try clear hfz61_8
                        try clear hfz61_9
                        try clear hfz64_0
                        try clear hfz64_1
                        try clear hfz64_10
                        try clear hfz64_2
                        try clear hfz64_3
                        try clear hfz64_4
                        try clear hfz64_5
                        try clear hfz64_6
                        try clear hfz64_7
                        try clear hfz64_8
                        try clear hfz64_9
                        try clear hfz66_0
                        try clear hfz66_1
                        try clear hfz66_10
                        try clear hfz66_2
                        try clear hfz66_3
                        try clear hfz66_4
                        try clear hfz66_5
                        try clear hfz66_6
                        try clear hfz66_7
                        try clear hfz66_8
                        try clear hfz66_9
                        try clear hfz68_0
                        try clear hfz68_1
                        try clear hfz68_10
                        try clear hfz68_2
                        try clear hfz68_3
                        try clear hfz68_4
                        try clear hfz68_5
                        try clear hfz68_6
                        try clear hfz68_7
                        try clear hfz68_8
                        try clear hfz68_9
                        try clear hfz70_0
                        try clear hfz70_1
                        try clear hfz70_10
                        try clear hfz70_2
                        try clear hfz70_3
                        try clear hfz70_4
                        try clear hfz70_5
                        try clear hfz70_6
                        try clear hfz70_7
                        try clear hfz70_8
                        try clear hfz70_9
                        try clear hfz74_0
                        try clear hfz74_1
                        try clear hfz74_10
                        try clear hfz74_2
                        try clear hfz74_3
                        try clear hfz74_4
                        try clear hfz74_5
                        try clear hfz74_6
                        try clear hfz74_7
                        try clear hfz74_8
                        try clear hfz74_9
                        try clear hfz77_0
                        try clear hfz77_1
                        try clear hfz77_10
                        try clear hfz77_2
                        try clear hfz77_3
                        try clear hfz77_4
                        try clear hfz77_5
                        try clear hfz77_6
                        try clear hfz77_7
                        try clear hfz77_8
                        try clear hfz77_9
                        try clear hfz79_0
                        try clear hfz79_1
                        try clear hfz79_10
                        try clear hfz79_2
                        try clear hfz79_3
                        try clear hfz79_4
                        try clear hfz79_5
                        try clear hfz79_6
                        try clear hfz79_7
                        try clear hfz79_8
                        try clear hfz79_9
                        try clear hfz81_0
                        try clear hfz81_1
                        try clear hfz81_10
                        try clear hfz81_2
                        try clear hfz81_3
                        try clear hfz81_4
                        try clear hfz81_5
                        try clear hfz81_6
                        try clear hfz81_7
                        try clear hfz81_8
                        try clear hfz81_9
                        try clear hfz86_0
                        try clear hfz86_1
                        try clear hfz86_10
                        try clear hfz86_2
                        try clear hfz86_3
                        try clear hfz86_4
                        try clear hfz86_5
                        try clear hfz86_6
                        try clear hfz86_7
                        try clear hfz86_8
                        try clear hfz86_9
                        try clear hfz89_0
                        try clear hfz89_1
                        try clear hfz89_10
                        try clear hfz89_2
                        try clear hfz89_3
                        try clear hfz89_4
                        try clear hfz89_5
                        try clear hfz89_6
                        try clear hfz89_7
                        try clear hfz89_8
                        try clear hfz89_9
                        try clear hfz92_0
                        try clear hfz92_1
                        try clear hfz92_10
                        try clear hfz92_2
                        try clear hfz92_3
                        try clear hfz92_4
                        try clear hfz92_5
                        try clear hfz92_6
                        try clear hfz92_7
                        try clear hfz92_8
                        try clear hfz92_9
                        try clear hfz95_0
                        try clear hfz95_1
                        try clear hfz95_10
                        try clear hfz95_2
                        try clear hfz95_3
                        try clear hfz95_4
                        try clear hfz95_5
                        try clear hfz95_6
                        try clear hfz95_7
                        try clear hfz95_8
                        try clear hfz95_9
                        try clear hfz98_0
                        try clear hfz98_1
                        try clear hfz98_10
                        try clear hfz98_2
                        try clear hfz98_3
                        try clear hfz98_4
                        try clear hfz98_5
                        try clear hfz98_6
                        try clear hfz98_7
                        try clear hfz98_8
                        try clear hfz98_9
                        try clear hx144_0
                        try clear hx144_1
                        try clear hx144_10
                        try clear hx144_2
                        try clear hx144_3
                        try clear hx144_4
                        try clear hx144_5
                        try clear hx144_6
                        try clear hx144_7
                        try clear hx144_8
                        try clear hx144_9
                        try clear hx145_0
                        try clear hx145_1
                        try clear hx145_10
                        try clear hx145_2
                        try clear hx145_3
                        try clear hx145_4
                        try clear hx145_5
                        try clear hx145_6
                        try clear hx145_7
                        try clear hx145_8
                        try clear hx145_9
                        try clear p144
                        try clear p145
                        try clear q144
                        try clear q145
                        obtain ⟨kq, x184_102, rfl, HA, HJ102, BK139, BK141, HB⟩ := hcut
                        cases kq with
                        | zero => exact absurd HA.out (by simp [pendulumref05_Why.j7])
                        | succ kj102 =>
                         have H := HA.out
                         clear HA
                         simp only [pendulumref05_Why.j7] at H
                         by_cases c112 : x184_102 = true
                         ·subst c112
                          have H1 : (some (6, x4_3)) = some (r1, r2) := by rw [if_pos rfl] at H; exact H
                          clear H
                          have H := H1
                          clear H1
                          simp only [Option.some.injEq, Prod.mk.injEq] at H
                          obtain ⟨rfl, rfl⟩ := H
                          go_wp2
                          repeat (go_quiet (fail); try go_wp2)
                          go_ret2
                          exact ⟨by first | rfl | (simp [errW_none, errW_some] <;> rfl) | (simp [*, errW_none, errW_some] <;> rfl), by repeat (first | (with_reducible first | exact HB.out | apply below_alloc | apply pw_below_drewN | apply below_drew1 | refine below_set ?_ GE139.out | refine below_set ?_ GE141.out) | exact HB.out)⟩
                         ·replace c112 := Bool.eq_false_iff.mpr c112
                          subst c112
                          have H1 : (if x7_5 = true then (some (7, x4_3)) else (pendulumref05_Why.l0 kj102 (wrap64 (x4_3 + 1)) a0_0 l0_1)) = some (r1, r2) := by rw [if_neg (show ¬ (false = true) by decide)] at H; exact H
                          clear H
                          have H := H1
                          clear H1
                          by_cases c113 : x7_5 = true
                          ·subst c113
                           have H1 : (some (7, x4_3)) = some (r1, r2) := by rw [if_pos rfl] at H; exact H
                           clear H
                           have H := H1
                           clear H1
                           simp only [Option.some.injEq, Prod.mk.injEq] at H
                           obtain ⟨rfl, rfl⟩ := H
                           go_wp2
                           repeat (go_quiet (fail); try go_wp2)
                           go_ret2
                           exact ⟨by first | rfl | (simp [errW_none, errW_some] <;> rfl) | (simp [*, errW_none, errW_some] <;> rfl), by repeat (first | (with_reducible first | exact HB.out | apply below_alloc | apply pw_below_drewN | apply below_drew1 | refine below_set ?_ GE139.out | refine below_set ?_ GE141.out) | exact HB.out)⟩
                          ·replace c113 := Bool.eq_false_iff.mpr c113
                           subst c113
                           have H1 : (pendulumref05_Why.l0 kj102 (wrap64 (x4_3 + 1)) a0_0 l0_1) = some (r1, r2) := by rw [if_neg (show ¬ (false = true) by decide)] at H; exact H
                           clear H
                           have H := H1
                           clear H1
                           have H' := Aside0.mk H
                           clear H
                           go_wp2
                           repeat (go_quiet (fail); try go_wp2)
                           go_roundg kj102
                           case measure => have := HJ1.out; have := HJ7.out; have := HK3.out; have := HJ15.out; have := HK5.out; have := HJ42.out; have := HJ82.out; have := HJ102.out; omega
                           case rel => exact ⟨(wrap64 (x4_3 + 1)), (by first | rfl | (simp; done) | (simp [*]; done)), H', ⟨by have := HJ1.out; have := HJ7.out; have := HK3.out; have := HJ15.out; have := HK5.out; have := HJ42.out; have := HJ82.out; have := HJ102.out; omega⟩, ⟨by (with_reducible repeat (first | refine blk_drewN ?_ _ | refine blk_drew ?_ | refine blk_alloc ?_ _)); exact BK139.out⟩, ⟨by repeat (first | (with_reducible first | exact HB.out | apply below_alloc | apply pw_below_drewN | apply below_drew1 | refine below_set ?_ GE139.out | refine below_set ?_ GE141.out) | exact HB.out)⟩⟩
          ·rw [if_neg c14] at H
           exact absurd H (by simp)
         ·rw [if_neg c13] at H
          have c13b0 : decide (x4_3 < (l0_1.length : Int)) = false := decide_eq_false c13
          clear c13
          simp only [Option.some.injEq, Prod.mk.injEq] at H
          obtain ⟨rfl, rfl⟩ := H
          have hcz114_0 : wr.cell? ⟨gb139, 0, none⟩ = some (.int .i64 a0_0) := (blk_cell BK139.out 0).trans rfl
          have hcz114_1 : wr.cell? ⟨gb139, 1, none⟩ = some (.slice A0_1 l0_1.length c0_1) := (blk_cell BK139.out 1).trans rfl
          have hfz114_0 := blk_frozen BK139.out 0
          have hfz114_1 := blk_frozen BK139.out 1
          go_wp2
          repeat (go_quiet (fail); try go_wp2)
          go_ret2
          exact ⟨by first | rfl | (simp [errW_none, errW_some] <;> rfl) | (simp [*, errW_none, errW_some] <;> rfl), by repeat (first | (with_reducible first | exact HB.out | apply below_alloc | apply pw_below_drewN | apply below_drew1 | refine below_set ?_ GE139.out) | exact HB.out)⟩

end Go.Proofs.Ytnidcoooenhebaa.PC
