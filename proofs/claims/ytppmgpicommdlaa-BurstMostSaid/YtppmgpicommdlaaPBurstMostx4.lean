-- PRINTED BY print.sh 35421559b90ae4d0a3588c463048766b98c2df88dd9212a6774a882060cdf62d: not written by this session
import Derived.Test.YtppmgpicommdlaaPBurstMostx0
import Derived.Test.YtppmgpicommdlaaPBurstMostx1
import Derived.Test.YtppmgpicommdlaaPBurstMostx2
import Derived.Test.YtppmgpicommdlaaPBurstMostx3
namespace Go.Proofs.Ytppmgpicommdlaa.PBurstMost
open Go.RowKit Go.Proofs.YtppmgpicommdlaaW.PrintWords Go.Proofs.YtppmgpicommdlaaW.PrintLast Go.Proofs.YtppmgpicommdlaaW.PrintMore
attribute [local go_sem] max2_int min2_int max_two min_two max_three min_three max_four min_four   -- for this text's walks alone
set_option linter.unusedVariables false
set_option linter.unusedSimpArgs false

/-! ### pendulumlaw18_BurstMost: function 5 -/
mutual
def pendulumlaw18_BurstMost.j0 : Nat → List Int → List Int → Int → Int → Int → Int → Bool → Option (Bool)
  | 0, _, _, _, _, _, _, _ => none
  | k + 1, x0, x1, x2, x3, x4, x5, x32 => if x32 = true then ((pendulumlaw18_awake.f k).bind fun t157 => (some t157)) else ((pendulumref18_Made.f k x0 x1 (wrap64 (1 + (wrap64 (Int.tmod x2 9)))) (wrap64 (1 + (wrap64 (x3))))).bind fun t158 => (pendulumlaw18_BurstMost.l0 k x4 x5 (wrap64 (1 + (wrap64 (Int.tmod x2 9)))) (wrap64 (1 + (wrap64 (x3)))) t158 1))
def pendulumlaw18_BurstMost.l0 : Nat → Int → Int → Int → Int → List Int → Int → Option (Bool)
  | 0, _, _, _, _, _, _ => none
  | k + 1, x4, x5, x13, x14, x15, x16 => if x16 < (x15.length : Int) then (if 0 ≤ (wrap64 (x16 - 1)) then (if (wrap64 (x16 - 1)) < (x15.length : Int) then (if 0 ≤ x16 then (if (rd x15 (wrap64 (x16 - 1))) ≥ (rd x15 x16) then (some true) else (pendulumlaw18_BurstMost.l0 k x4 x5 x13 x14 x15 (wrap64 (x16 + 1)))) else (none)) else (none)) else (none)) else ((burst_Legal.f k x15 x13 x14).bind fun t163 => (if t163 = true then ((burst_Starts.f k x15 x13).bind fun t165 => (pendulumlaw18_BurstMost.l1 k x5 x13 x14 x15 (wrap64 (x4)) (wrap64 ((wrap64 (x4)) + (wrap64 (x5)))) t165 0 0)) else ((pendulumref18_Legal.f k x15 x13 x14).bind fun t164 => (some (!t164)))))
def pendulumlaw18_BurstMost.l1 : Nat → Int → Int → Int → List Int → Int → Int → List Int → Int → Int → Option (Bool)
  | 0, _, _, _, _, _, _, _, _, _ => none
  | k + 1, x5, x13, x14, x15, x17, x18, x19, x20, x21 => if x21 < (x19.length : Int) then (if 0 ≤ x21 then (if (wrap64 (x21 + 1)) < (x19.length : Int) then (if 0 ≤ (wrap64 (x21 + 1)) then (pendulumlaw18_BurstMost.j3 k x5 x13 x14 x15 x17 x18 x19 x20 x21 (wrap64 ((rd x19 x21) + x13)) (decide ((rd x19 (wrap64 (x21 + 1))) < (wrap64 ((rd x19 x21) + x13))))) else (none)) else (pendulumlaw18_BurstMost.j3 k x5 x13 x14 x15 x17 x18 x19 x20 x21 (wrap64 ((rd x19 x21) + x13)) false)) else (none)) else ((burst_Most.f k (wrap64 (x5)) x13 x14).bind fun t168 => (if x20 ≤ t168 then ((burst_In.f k x15 x17 x18).bind fun t169 => (some (decide (t169 ≤ (wrap64 (x13 * t168)))))) else (some false)))
def pendulumlaw18_BurstMost.j3 : Nat → Int → Int → Int → List Int → Int → Int → List Int → Int → Int → Int → Bool → Option (Bool)
  | 0, _, _, _, _, _, _, _, _, _, _, _ => none
  | k + 1, x5, x13, x14, x15, x17, x18, x19, x20, x21, x22, x106 => if x106 = true then (if 0 ≤ (wrap64 (x21 + 1)) then (if (wrap64 (x21 + 1)) < (x19.length : Int) then (pendulumlaw18_BurstMost.j4 k x5 x13 x14 x15 x17 x18 x19 x20 x21 (rd x19 (wrap64 (x21 + 1)))) else (none)) else (none)) else (pendulumlaw18_BurstMost.j4 k x5 x13 x14 x15 x17 x18 x19 x20 x21 x22)
def pendulumlaw18_BurstMost.j4 : Nat → Int → Int → Int → List Int → Int → Int → List Int → Int → Int → Int → Option (Bool)
  | 0, _, _, _, _, _, _, _, _, _, _ => none
  | k + 1, x5, x13, x14, x15, x17, x18, x19, x20, x21, x22 => if 0 ≤ x21 then (if x21 < (x19.length : Int) then (if x17 > (rd x19 x21) then (pendulumlaw18_BurstMost.j5 k x5 x13 x14 x15 x17 x18 x19 x20 x21 x22 x17) else (pendulumlaw18_BurstMost.j5 k x5 x13 x14 x15 x17 x18 x19 x20 x21 x22 (rd x19 x21))) else (none)) else (none)
def pendulumlaw18_BurstMost.j5 : Nat → Int → Int → Int → List Int → Int → Int → List Int → Int → Int → Int → Int → Option (Bool)
  | 0, _, _, _, _, _, _, _, _, _, _, _ => none
  | k + 1, x5, x13, x14, x15, x17, x18, x19, x20, x21, x22, x23 => if x18 < x22 then (if x23 < x18 then ((burst_In.f k x15 x23 x18).bind fun t174 => (if t174 > 0 then (pendulumlaw18_BurstMost.l1 k x5 x13 x14 x15 x17 x18 x19 (wrap64 (x20 + 1)) (wrap64 (x21 + 1))) else (pendulumlaw18_BurstMost.l1 k x5 x13 x14 x15 x17 x18 x19 x20 (wrap64 (x21 + 1))))) else (pendulumlaw18_BurstMost.l1 k x5 x13 x14 x15 x17 x18 x19 x20 (wrap64 (x21 + 1)))) else (if x23 < x22 then ((burst_In.f k x15 x23 x22).bind fun t175 => (if t175 > 0 then (pendulumlaw18_BurstMost.l1 k x5 x13 x14 x15 x17 x18 x19 (wrap64 (x20 + 1)) (wrap64 (x21 + 1))) else (pendulumlaw18_BurstMost.l1 k x5 x13 x14 x15 x17 x18 x19 x20 (wrap64 (x21 + 1))))) else (pendulumlaw18_BurstMost.l1 k x5 x13 x14 x15 x17 x18 x19 x20 (wrap64 (x21 + 1))))
end
def pendulumlaw18_BurstMost.f (k : Nat) (l0 : List Int) (l1 : List Int) (a2 : Int) (a3 : Int) (a4 : Int) (a5 : Int) : Option (Bool) := (pendulumlaw18_awake.f k).bind fun t156 => (if t156 = true then (pendulumlaw18_BurstMost.j0 k l0 l1 a2 a3 a4 a5 (decide ((l0.length : Int) > 60))) else (pendulumlaw18_BurstMost.j0 k l0 l1 a2 a3 a4 a5 true))
theorem pendulumlaw18_BurstMost.mono_l : ∀ k, (∀ y0 y1 y2 y3 y4 y5 y6, LeO (pendulumlaw18_BurstMost.j0 k y0 y1 y2 y3 y4 y5 y6) (pendulumlaw18_BurstMost.j0 (k + 1) y0 y1 y2 y3 y4 y5 y6)) ∧ (∀ y0 y1 y2 y3 y4 y5, LeO (pendulumlaw18_BurstMost.l0 k y0 y1 y2 y3 y4 y5) (pendulumlaw18_BurstMost.l0 (k + 1) y0 y1 y2 y3 y4 y5)) ∧ (∀ y0 y1 y2 y3 y4 y5 y6 y7 y8, LeO (pendulumlaw18_BurstMost.l1 k y0 y1 y2 y3 y4 y5 y6 y7 y8) (pendulumlaw18_BurstMost.l1 (k + 1) y0 y1 y2 y3 y4 y5 y6 y7 y8)) ∧ (∀ y0 y1 y2 y3 y4 y5 y6 y7 y8 y9 y10, LeO (pendulumlaw18_BurstMost.j3 k y0 y1 y2 y3 y4 y5 y6 y7 y8 y9 y10) (pendulumlaw18_BurstMost.j3 (k + 1) y0 y1 y2 y3 y4 y5 y6 y7 y8 y9 y10)) ∧ (∀ y0 y1 y2 y3 y4 y5 y6 y7 y8 y9, LeO (pendulumlaw18_BurstMost.j4 k y0 y1 y2 y3 y4 y5 y6 y7 y8 y9) (pendulumlaw18_BurstMost.j4 (k + 1) y0 y1 y2 y3 y4 y5 y6 y7 y8 y9)) ∧ (∀ y0 y1 y2 y3 y4 y5 y6 y7 y8 y9 y10, LeO (pendulumlaw18_BurstMost.j5 k y0 y1 y2 y3 y4 y5 y6 y7 y8 y9 y10) (pendulumlaw18_BurstMost.j5 (k + 1) y0 y1 y2 y3 y4 y5 y6 y7 y8 y9 y10))
  | 0 => ⟨fun _ _ _ _ _ _ _ r h => by simp [pendulumlaw18_BurstMost.j0] at h, fun _ _ _ _ _ _ r h => by simp [pendulumlaw18_BurstMost.l0] at h, fun _ _ _ _ _ _ _ _ _ r h => by simp [pendulumlaw18_BurstMost.l1] at h, fun _ _ _ _ _ _ _ _ _ _ _ r h => by simp [pendulumlaw18_BurstMost.j3] at h, fun _ _ _ _ _ _ _ _ _ _ r h => by simp [pendulumlaw18_BurstMost.j4] at h, fun _ _ _ _ _ _ _ _ _ _ _ r h => by simp [pendulumlaw18_BurstMost.j5] at h⟩
  | k + 1 => by
    obtain ⟨ih0, ih1, ih2, ih3, ih4, ih5⟩ := pendulumlaw18_BurstMost.mono_l k
    refine ⟨?_, ?_, ?_, ?_, ?_, ?_⟩
    · intro y0 y1 y2 y3 y4 y5 y6
      unfold pendulumlaw18_BurstMost.j0
      repeat' first
      | (with_reducible exact ih0 _ _ _ _ _ _ _)
      | (with_reducible exact ih1 _ _ _ _ _ _)
      | (with_reducible exact ih2 _ _ _ _ _ _ _ _ _)
      | (with_reducible exact ih3 _ _ _ _ _ _ _ _ _ _ _)
      | (with_reducible exact ih4 _ _ _ _ _ _ _ _ _ _)
      | (with_reducible exact ih5 _ _ _ _ _ _ _ _ _ _ _)
      | (with_reducible exact burst_In.mono _ _ _ _)
      | (with_reducible exact burst_Legal.mono _ _ _ _)
      | (with_reducible exact burst_Most.mono _ _ _ _)
      | (with_reducible exact burst_Starts.mono _ _ _)
      | (with_reducible exact pendulumlaw18_awake.mono _)
      | (with_reducible exact pendulumref18_Legal.mono _ _ _ _)
      | (with_reducible exact pendulumref18_Made.mono _ _ _ _ _)
      | (with_reducible exact LeO.refl _)
      | (with_reducible exact LeO.none _)
      | (with_reducible refine LeO.ite ?_ ?_)
      | (with_reducible refine LeO.bind ?_ (fun _ => ?_))
      | exact ih0 _ _ _ _ _ _ _
      | exact ih1 _ _ _ _ _ _
      | exact ih2 _ _ _ _ _ _ _ _ _
      | exact ih3 _ _ _ _ _ _ _ _ _ _ _
      | exact ih4 _ _ _ _ _ _ _ _ _ _
      | exact ih5 _ _ _ _ _ _ _ _ _ _ _
      | exact burst_In.mono _ _ _ _
      | exact burst_Legal.mono _ _ _ _
      | exact burst_Most.mono _ _ _ _
      | exact burst_Starts.mono _ _ _
      | exact pendulumlaw18_awake.mono _
      | exact pendulumref18_Legal.mono _ _ _ _
      | exact pendulumref18_Made.mono _ _ _ _ _
      | exact LeO.none _
      | refine LeO.ite ?_ ?_
      | refine LeO.bind ?_ (fun _ => ?_)
    · intro y0 y1 y2 y3 y4 y5
      unfold pendulumlaw18_BurstMost.l0
      repeat' first
      | (with_reducible exact ih0 _ _ _ _ _ _ _)
      | (with_reducible exact ih1 _ _ _ _ _ _)
      | (with_reducible exact ih2 _ _ _ _ _ _ _ _ _)
      | (with_reducible exact ih3 _ _ _ _ _ _ _ _ _ _ _)
      | (with_reducible exact ih4 _ _ _ _ _ _ _ _ _ _)
      | (with_reducible exact ih5 _ _ _ _ _ _ _ _ _ _ _)
      | (with_reducible exact burst_In.mono _ _ _ _)
      | (with_reducible exact burst_Legal.mono _ _ _ _)
      | (with_reducible exact burst_Most.mono _ _ _ _)
      | (with_reducible exact burst_Starts.mono _ _ _)
      | (with_reducible exact pendulumlaw18_awake.mono _)
      | (with_reducible exact pendulumref18_Legal.mono _ _ _ _)
      | (with_reducible exact pendulumref18_Made.mono _ _ _ _ _)
      | (with_reducible exact LeO.refl _)
      | (with_reducible exact LeO.none _)
      | (with_reducible refine LeO.ite ?_ ?_)
      | (with_reducible refine LeO.bind ?_ (fun _ => ?_))
      | exact ih0 _ _ _ _ _ _ _
      | exact ih1 _ _ _ _ _ _
      | exact ih2 _ _ _ _ _ _ _ _ _
      | exact ih3 _ _ _ _ _ _ _ _ _ _ _
      | exact ih4 _ _ _ _ _ _ _ _ _ _
      | exact ih5 _ _ _ _ _ _ _ _ _ _ _
      | exact burst_In.mono _ _ _ _
      | exact burst_Legal.mono _ _ _ _
      | exact burst_Most.mono _ _ _ _
      | exact burst_Starts.mono _ _ _
      | exact pendulumlaw18_awake.mono _
      | exact pendulumref18_Legal.mono _ _ _ _
      | exact pendulumref18_Made.mono _ _ _ _ _
      | exact LeO.none _
      | refine LeO.ite ?_ ?_
      | refine LeO.bind ?_ (fun _ => ?_)
    · intro y0 y1 y2 y3 y4 y5 y6 y7 y8
      unfold pendulumlaw18_BurstMost.l1
      repeat' first
      | (with_reducible exact ih0 _ _ _ _ _ _ _)
      | (with_reducible exact ih1 _ _ _ _ _ _)
      | (with_reducible exact ih2 _ _ _ _ _ _ _ _ _)
      | (with_reducible exact ih3 _ _ _ _ _ _ _ _ _ _ _)
      | (with_reducible exact ih4 _ _ _ _ _ _ _ _ _ _)
      | (with_reducible exact ih5 _ _ _ _ _ _ _ _ _ _ _)
      | (with_reducible exact burst_In.mono _ _ _ _)
      | (with_reducible exact burst_Legal.mono _ _ _ _)
      | (with_reducible exact burst_Most.mono _ _ _ _)
      | (with_reducible exact burst_Starts.mono _ _ _)
      | (with_reducible exact pendulumlaw18_awake.mono _)
      | (with_reducible exact pendulumref18_Legal.mono _ _ _ _)
      | (with_reducible exact pendulumref18_Made.mono _ _ _ _ _)
      | (with_reducible exact LeO.refl _)
      | (with_reducible exact LeO.none _)
      | (with_reducible refine LeO.ite ?_ ?_)
      | (with_reducible refine LeO.bind ?_ (fun _ => ?_))
      | exact ih0 _ _ _ _ _ _ _
      | exact ih1 _ _ _ _ _ _
      | exact ih2 _ _ _ _ _ _ _ _ _
      | exact ih3 _ _ _ _ _ _ _ _ _ _ _
      | exact ih4 _ _ _ _ _ _ _ _ _ _
      | exact ih5 _ _ _ _ _ _ _ _ _ _ _
      | exact burst_In.mono _ _ _ _
      | exact burst_Legal.mono _ _ _ _
      | exact burst_Most.mono _ _ _ _
      | exact burst_Starts.mono _ _ _
      | exact pendulumlaw18_awake.mono _
      | exact pendulumref18_Legal.mono _ _ _ _
      | exact pendulumref18_Made.mono _ _ _ _ _
      | exact LeO.none _
      | refine LeO.ite ?_ ?_
      | refine LeO.bind ?_ (fun _ => ?_)
    · intro y0 y1 y2 y3 y4 y5 y6 y7 y8 y9 y10
      unfold pendulumlaw18_BurstMost.j3
      repeat' first
      | (with_reducible exact ih0 _ _ _ _ _ _ _)
      | (with_reducible exact ih1 _ _ _ _ _ _)
      | (with_reducible exact ih2 _ _ _ _ _ _ _ _ _)
      | (with_reducible exact ih3 _ _ _ _ _ _ _ _ _ _ _)
      | (with_reducible exact ih4 _ _ _ _ _ _ _ _ _ _)
      | (with_reducible exact ih5 _ _ _ _ _ _ _ _ _ _ _)
      | (with_reducible exact burst_In.mono _ _ _ _)
      | (with_reducible exact burst_Legal.mono _ _ _ _)
      | (with_reducible exact burst_Most.mono _ _ _ _)
      | (with_reducible exact burst_Starts.mono _ _ _)
      | (with_reducible exact pendulumlaw18_awake.mono _)
      | (with_reducible exact pendulumref18_Legal.mono _ _ _ _)
      | (with_reducible exact pendulumref18_Made.mono _ _ _ _ _)
      | (with_reducible exact LeO.refl _)
      | (with_reducible exact LeO.none _)
      | (with_reducible refine LeO.ite ?_ ?_)
      | (with_reducible refine LeO.bind ?_ (fun _ => ?_))
      | exact ih0 _ _ _ _ _ _ _
      | exact ih1 _ _ _ _ _ _
      | exact ih2 _ _ _ _ _ _ _ _ _
      | exact ih3 _ _ _ _ _ _ _ _ _ _ _
      | exact ih4 _ _ _ _ _ _ _ _ _ _
      | exact ih5 _ _ _ _ _ _ _ _ _ _ _
      | exact burst_In.mono _ _ _ _
      | exact burst_Legal.mono _ _ _ _
      | exact burst_Most.mono _ _ _ _
      | exact burst_Starts.mono _ _ _
      | exact pendulumlaw18_awake.mono _
      | exact pendulumref18_Legal.mono _ _ _ _
      | exact pendulumref18_Made.mono _ _ _ _ _
      | exact LeO.none _
      | refine LeO.ite ?_ ?_
      | refine LeO.bind ?_ (fun _ => ?_)
    · intro y0 y1 y2 y3 y4 y5 y6 y7 y8 y9
      unfold pendulumlaw18_BurstMost.j4
      repeat' first
      | (with_reducible exact ih0 _ _ _ _ _ _ _)
      | (with_reducible exact ih1 _ _ _ _ _ _)
      | (with_reducible exact ih2 _ _ _ _ _ _ _ _ _)
      | (with_reducible exact ih3 _ _ _ _ _ _ _ _ _ _ _)
      | (with_reducible exact ih4 _ _ _ _ _ _ _ _ _ _)
      | (with_reducible exact ih5 _ _ _ _ _ _ _ _ _ _ _)
      | (with_reducible exact burst_In.mono _ _ _ _)
      | (with_reducible exact burst_Legal.mono _ _ _ _)
      | (with_reducible exact burst_Most.mono _ _ _ _)
      | (with_reducible exact burst_Starts.mono _ _ _)
      | (with_reducible exact pendulumlaw18_awake.mono _)
      | (with_reducible exact pendulumref18_Legal.mono _ _ _ _)
      | (with_reducible exact pendulumref18_Made.mono _ _ _ _ _)
      | (with_reducible exact LeO.refl _)
      | (with_reducible exact LeO.none _)
      | (with_reducible refine LeO.ite ?_ ?_)
      | (with_reducible refine LeO.bind ?_ (fun _ => ?_))
      | exact ih0 _ _ _ _ _ _ _
      | exact ih1 _ _ _ _ _ _
      | exact ih2 _ _ _ _ _ _ _ _ _
      | exact ih3 _ _ _ _ _ _ _ _ _ _ _
      | exact ih4 _ _ _ _ _ _ _ _ _ _
      | exact ih5 _ _ _ _ _ _ _ _ _ _ _
      | exact burst_In.mono _ _ _ _
      | exact burst_Legal.mono _ _ _ _
      | exact burst_Most.mono _ _ _ _
      | exact burst_Starts.mono _ _ _
      | exact pendulumlaw18_awake.mono _
      | exact pendulumref18_Legal.mono _ _ _ _
      | exact pendulumref18_Made.mono _ _ _ _ _
      | exact LeO.none _
      | refine LeO.ite ?_ ?_
      | refine LeO.bind ?_ (fun _ => ?_)
    · intro y0 y1 y2 y3 y4 y5 y6 y7 y8 y9 y10
      unfold pendulumlaw18_BurstMost.j5
      repeat' first
      | (with_reducible exact ih0 _ _ _ _ _ _ _)
      | (with_reducible exact ih1 _ _ _ _ _ _)
      | (with_reducible exact ih2 _ _ _ _ _ _ _ _ _)
      | (with_reducible exact ih3 _ _ _ _ _ _ _ _ _ _ _)
      | (with_reducible exact ih4 _ _ _ _ _ _ _ _ _ _)
      | (with_reducible exact ih5 _ _ _ _ _ _ _ _ _ _ _)
      | (with_reducible exact burst_In.mono _ _ _ _)
      | (with_reducible exact burst_Legal.mono _ _ _ _)
      | (with_reducible exact burst_Most.mono _ _ _ _)
      | (with_reducible exact burst_Starts.mono _ _ _)
      | (with_reducible exact pendulumlaw18_awake.mono _)
      | (with_reducible exact pendulumref18_Legal.mono _ _ _ _)
      | (with_reducible exact pendulumref18_Made.mono _ _ _ _ _)
      | (with_reducible exact LeO.refl _)
      | (with_reducible exact LeO.none _)
      | (with_reducible refine LeO.ite ?_ ?_)
      | (with_reducible refine LeO.bind ?_ (fun _ => ?_))
      | exact ih0 _ _ _ _ _ _ _
      | exact ih1 _ _ _ _ _ _
      | exact ih2 _ _ _ _ _ _ _ _ _
      | exact ih3 _ _ _ _ _ _ _ _ _ _ _
      | exact ih4 _ _ _ _ _ _ _ _ _ _
      | exact ih5 _ _ _ _ _ _ _ _ _ _ _
      | exact burst_In.mono _ _ _ _
      | exact burst_Legal.mono _ _ _ _
      | exact burst_Most.mono _ _ _ _
      | exact burst_Starts.mono _ _ _
      | exact pendulumlaw18_awake.mono _
      | exact pendulumref18_Legal.mono _ _ _ _
      | exact pendulumref18_Made.mono _ _ _ _ _
      | exact LeO.none _
      | refine LeO.ite ?_ ?_
      | refine LeO.bind ?_ (fun _ => ?_)
theorem pendulumlaw18_BurstMost.mono : ∀ a0 a1 a2 a3 a4 a5 k, LeO (pendulumlaw18_BurstMost.f k a0 a1 a2 a3 a4 a5) (pendulumlaw18_BurstMost.f (k + 1) a0 a1 a2 a3 a4 a5) := by
  intro a0 a1 a2 a3 a4 a5 k
  obtain ⟨ih0, ih1, ih2, ih3, ih4, ih5⟩ := pendulumlaw18_BurstMost.mono_l k
  unfold pendulumlaw18_BurstMost.f
  repeat' first
      | (with_reducible exact ih0 _ _ _ _ _ _ _)
      | (with_reducible exact ih1 _ _ _ _ _ _)
      | (with_reducible exact ih2 _ _ _ _ _ _ _ _ _)
      | (with_reducible exact ih3 _ _ _ _ _ _ _ _ _ _ _)
      | (with_reducible exact ih4 _ _ _ _ _ _ _ _ _ _)
      | (with_reducible exact ih5 _ _ _ _ _ _ _ _ _ _ _)
      | (with_reducible exact burst_In.mono _ _ _ _)
      | (with_reducible exact burst_Legal.mono _ _ _ _)
      | (with_reducible exact burst_Most.mono _ _ _ _)
      | (with_reducible exact burst_Starts.mono _ _ _)
      | (with_reducible exact pendulumlaw18_awake.mono _)
      | (with_reducible exact pendulumref18_Legal.mono _ _ _ _)
      | (with_reducible exact pendulumref18_Made.mono _ _ _ _ _)
      | (with_reducible exact LeO.refl _)
      | (with_reducible exact LeO.none _)
      | (with_reducible refine LeO.ite ?_ ?_)
      | (with_reducible refine LeO.bind ?_ (fun _ => ?_))
      | exact ih0 _ _ _ _ _ _ _
      | exact ih1 _ _ _ _ _ _
      | exact ih2 _ _ _ _ _ _ _ _ _
      | exact ih3 _ _ _ _ _ _ _ _ _ _ _
      | exact ih4 _ _ _ _ _ _ _ _ _ _
      | exact ih5 _ _ _ _ _ _ _ _ _ _ _
      | exact burst_In.mono _ _ _ _
      | exact burst_Legal.mono _ _ _ _
      | exact burst_Most.mono _ _ _ _
      | exact burst_Starts.mono _ _ _
      | exact pendulumlaw18_awake.mono _
      | exact pendulumref18_Legal.mono _ _ _ _
      | exact pendulumref18_Made.mono _ _ _ _ _
      | exact LeO.none _
      | refine LeO.ite ?_ ?_
      | refine LeO.bind ?_ (fun _ => ?_)
set_option maxHeartbeats 8000000 in
set_option maxRecDepth 100000 in
theorem pendulumlaw18_BurstMost.calls (k : Nat) (A0 : Option Addr) (c0 : Nat) (l0 : List Int) (A1 : Option Addr) (c1 : Nat) (l1 : List Int) (a2 : Int) (a3 : Int) (a4 : Int) (a5 : Int) (r : Bool) (w : World) (hr0 : Kd.C (Kd.int .u8) w A0 l0.length l0) (hc0 : l0.length ≤ c0) (hr1 : Kd.C (Kd.int .u8) w A1 l1.length l1) (hc1 : l1.length ≤ c1) (h : pendulumlaw18_BurstMost.f k l0 l1 a2 a3 a4 a5 = some r) :
    Calls Try.prog 5 #[.slice A0 l0.length c0, .slice A1 l1.length c1, .int .u8 a2, .int .u8 a3, .int .u16 a4, .int .u16 a5] w fun e w' => e = .returned (.bool r) ∧ Below w.heap.size w w' := by
  have HR0 := Aside0.mk hr0
  have HC0 := Aside0.mk hc0
  clear hr0 hc0
  have HR1 := Aside0.mk hr1
  have HC1 := Aside0.mk hc1
  clear hr1 hc1
  have HB := Aside0.mk (Below.refl w.heap.size w)
  have H : ((pendulumlaw18_awake.f k).bind fun t156 => (if t156 = true then (pendulumlaw18_BurstMost.j0 k l0 l1 a2 a3 a4 a5 (decide ((l0.length : Int) > 60))) else (pendulumlaw18_BurstMost.j0 k l0 l1 a2 a3 a4 a5 true))) = some r := h
  clear h
  have HC7 := Aside0.mk H
  clear H
  go_enter Try.func5, Try.ntmps5
  go_upto_region 1 with (fail)
  repeat (go_quiet (fail); go_upto_region 1 with (fail))
  go_cut [32] (fun v32 wc => ∃ (kq : Nat) (x32_6 : Bool), v32 = .bool x32_6 ∧ Aside0 (pendulumlaw18_BurstMost.j0 kq l0 l1 a2 a3 a4 a5 x32_6 = some r) ∧ Aside0 (kq ≤ k) ∧ Aside0 (Below w.heap.size w wc))
  case first =>
    have H := HC7.out
    clear HC7
    replace H := Option.bind_eq_some_iff.mp H
    obtain ⟨t156, A80, H⟩ := H
    replace H : (if t156 = true then (pendulumlaw18_BurstMost.j0 k l0 l1 a2 a3 a4 a5 (decide ((l0.length : Int) > 60))) else (pendulumlaw18_BurstMost.j0 k l0 l1 a2 a3 a4 a5 true)) = some r := H
    have A8 := Aside0.mk A80
    clear A80
    by_cases c9 : t156 = true
    · subst c9
      have H1 : (pendulumlaw18_BurstMost.j0 k l0 l1 a2 a3 a4 a5 (decide ((l0.length : Int) > 60))) = some r := by rw [if_pos rfl] at H; exact H
      clear H
      have H := H1
      clear H1
      have H' := Aside0.mk H
      clear H
      go_wp2_with (first | (go_at_call 9; (with_reducible refine (pendulumlaw18_awake.calls k  true _ A8.out).mono ?_); rintro e w10 ⟨rfl, hb⟩; have n0_ := Aside0.mk (below_step (by repeat (first | (with_reducible first | exact HB.out | apply below_alloc | apply pw_below_drewN | apply below_drew1) | exact HB.out)) hb); clear HB; have HB := n0_; clear n0_; (try clear hb); (try clear hb2); (try clear hk); (try clear hi)))
      repeat (go_quiet (first | (go_at_call 9; (with_reducible refine (pendulumlaw18_awake.calls k  true _ A8.out).mono ?_); rintro e w10 ⟨rfl, hb⟩; have n0_ := Aside0.mk (below_step (by repeat (first | (with_reducible first | exact HB.out | apply below_alloc | apply pw_below_drewN | apply below_drew1) | exact HB.out)) hb); clear HB; have HB := n0_; clear n0_; (try clear hb); (try clear hb2); (try clear hk); (try clear hi))); try go_wp2_with (first | (go_at_call 9; (with_reducible refine (pendulumlaw18_awake.calls k  true _ A8.out).mono ?_); rintro e w10 ⟨rfl, hb⟩; have n0_ := Aside0.mk (below_step (by repeat (first | (with_reducible first | exact HB.out | apply below_alloc | apply pw_below_drewN | apply below_drew1) | exact HB.out)) hb); clear HB; have HB := n0_; clear n0_; (try clear hb); (try clear hb2); (try clear hk); (try clear hi))))
      go_meet
      case rel => exact ⟨_, (decide ((l0.length : Int) > 60)), (by first | rfl | (simp; done) | (simp [*]; done)), H', ⟨by first | omega | exact Nat.le_refl _⟩, ⟨by repeat (first | (with_reducible first | exact HB.out | apply below_alloc | apply pw_below_drewN | apply below_drew1) | exact HB.out)⟩⟩
    · replace c9 := Bool.eq_false_iff.mpr c9
      subst c9
      have H1 : (pendulumlaw18_BurstMost.j0 k l0 l1 a2 a3 a4 a5 true) = some r := by rw [if_neg (show ¬ (false = true) by decide)] at H; exact H
      clear H
      have H := H1
      clear H1
      have H' := Aside0.mk H
      clear H
      go_wp2_with (first | (go_at_call 9; (with_reducible refine (pendulumlaw18_awake.calls k  false _ A8.out).mono ?_); rintro e w11 ⟨rfl, hb⟩; have n0_ := Aside0.mk (below_step (by repeat (first | (with_reducible first | exact HB.out | apply below_alloc | apply pw_below_drewN | apply below_drew1) | exact HB.out)) hb); clear HB; have HB := n0_; clear n0_; (try clear hb); (try clear hb2); (try clear hk); (try clear hi)))
      repeat (go_quiet (first | (go_at_call 9; (with_reducible refine (pendulumlaw18_awake.calls k  false _ A8.out).mono ?_); rintro e w11 ⟨rfl, hb⟩; have n0_ := Aside0.mk (below_step (by repeat (first | (with_reducible first | exact HB.out | apply below_alloc | apply pw_below_drewN | apply below_drew1) | exact HB.out)) hb); clear HB; have HB := n0_; clear n0_; (try clear hb); (try clear hb2); (try clear hk); (try clear hi))); try go_wp2_with (first | (go_at_call 9; (with_reducible refine (pendulumlaw18_awake.calls k  false _ A8.out).mono ?_); rintro e w11 ⟨rfl, hb⟩; have n0_ := Aside0.mk (below_step (by repeat (first | (with_reducible first | exact HB.out | apply below_alloc | apply pw_below_drewN | apply below_drew1) | exact HB.out)) hb); clear HB; have HB := n0_; clear n0_; (try clear hb); (try clear hb2); (try clear hk); (try clear hi))))
      go_meet
      case rel => exact ⟨_, (true), (by first | rfl | (simp; done) | (simp [*]; done)), H', ⟨by first | omega | exact Nat.le_refl _⟩, ⟨by repeat (first | (with_reducible first | exact HB.out | apply below_alloc | apply pw_below_drewN | apply below_drew1) | exact HB.out)⟩⟩
  case rest =>
    clear HC7
    try clear c1
    try clear p2
    try clear c5
    try clear c9
    obtain ⟨kq, x32_6, rfl, HA, HJ6, HB⟩ := hcut
    cases kq with
    | zero => exact absurd HA.out (by simp [pendulumlaw18_BurstMost.j0])
    | succ kj6 =>
      have H := HA.out
      clear HA
      simp only [pendulumlaw18_BurstMost.j0] at H
      by_cases c12 : x32_6 = true
      · subst c12
        have H1 : ((pendulumlaw18_awake.f kj6).bind fun t157 => (some t157)) = some r := by rw [if_pos rfl] at H; exact H
        clear H
        have H := H1
        clear H1
        replace H := Option.bind_eq_some_iff.mp H
        obtain ⟨t157, A130, H⟩ := H
        replace H : (some t157) = some r := H
        have A13 := Aside0.mk A130
        clear A130
        obtain rfl := Option.some.inj H
        go_wp2_with (first | (go_at_call 9; (with_reducible refine (pendulumlaw18_awake.calls kj6  t157 _ A13.out).mono ?_); rintro e w14 ⟨rfl, hb⟩; have n0_ := Aside0.mk (below_step (by repeat (first | (with_reducible first | exact HB.out | apply below_alloc | apply pw_below_drewN | apply below_drew1) | exact HB.out)) hb); clear HB; have HB := n0_; clear n0_; (try clear hb); (try clear hb2); (try clear hk); (try clear hi)))
        repeat (go_quiet (first | (go_at_call 9; (with_reducible refine (pendulumlaw18_awake.calls kj6  t157 _ A13.out).mono ?_); rintro e w14 ⟨rfl, hb⟩; have n0_ := Aside0.mk (below_step (by repeat (first | (with_reducible first | exact HB.out | apply below_alloc | apply pw_below_drewN | apply below_drew1) | exact HB.out)) hb); clear HB; have HB := n0_; clear n0_; (try clear hb); (try clear hb2); (try clear hk); (try clear hi))); try go_wp2_with (first | (go_at_call 9; (with_reducible refine (pendulumlaw18_awake.calls kj6  t157 _ A13.out).mono ?_); rintro e w14 ⟨rfl, hb⟩; have n0_ := Aside0.mk (below_step (by repeat (first | (with_reducible first | exact HB.out | apply below_alloc | apply pw_below_drewN | apply below_drew1) | exact HB.out)) hb); clear HB; have HB := n0_; clear n0_; (try clear hb); (try clear hb2); (try clear hk); (try clear hi))))
        go_ret
        exact ⟨by first | rfl | (simp [errW_none, errW_some] <;> rfl) | (simp [*, errW_none, errW_some] <;> rfl), by repeat (first | (with_reducible first | exact HB.out | apply below_alloc | apply pw_below_drewN | apply below_drew1) | exact HB.out)⟩
      · replace c12 := Bool.eq_false_iff.mpr c12
        subst c12
        have H1 : ((pendulumref18_Made.f kj6 l0 l1 (wrap64 (1 + (wrap64 (Int.tmod a2 9)))) (wrap64 (1 + (wrap64 (a3))))).bind fun t158 => (pendulumlaw18_BurstMost.l0 kj6 a4 a5 (wrap64 (1 + (wrap64 (Int.tmod a2 9)))) (wrap64 (1 + (wrap64 (a3)))) t158 1)) = some r := by rw [if_neg (show ¬ (false = true) by decide)] at H; exact H
        clear H
        have H := H1
        clear H1
        replace H := Option.bind_eq_some_iff.mp H
        obtain ⟨t158, A150, H⟩ := H
        replace H : (pendulumlaw18_BurstMost.l0 kj6 a4 a5 (wrap64 (1 + (wrap64 (Int.tmod a2 9)))) (wrap64 (1 + (wrap64 (a3)))) t158 1) = some r := H
        have A15 := Aside0.mk A150
        clear A150
        have H' := Aside0.mk H
        clear H
        go_wp2_with (first | (go_at_call 21; (with_reducible refine (pendulumref18_Made.calls kj6 _ _ l0 _ _ l1 (wrap64 (1 + (wrap64 (Int.tmod a2 9)))) (wrap64 (1 + (wrap64 (a3)))) t158 _ ?side1 ?side2 ?side3 ?side4 A15.out).mono ?_); (case side1 => repeat (first | exact (Kd.C_below HR0.out HB.out) | (with_reducible refine Kd.C_alloc ?_ _) | (with_reducible refine Kd.C_drewN ?_ _) | (with_reducible refine Kd.C_drew ?_))); (case side2 => exact HC0.out); (case side3 => repeat (first | exact (Kd.C_below HR1.out HB.out) | (with_reducible refine Kd.C_alloc ?_ _) | (with_reducible refine Kd.C_drewN ?_ _) | (with_reducible refine Kd.C_drew ?_))); (case side4 => exact HC1.out); rintro e w16 ⟨v159, rfl, ho0, hb⟩; have n0_ := Aside0.mk (Kd.R_lower ho0 (below_size (by repeat (first | (with_reducible first | exact HB.out | apply below_alloc | apply pw_below_drewN | apply below_drew1) | exact HB.out)))); have n1_ := Aside0.mk (below_step (by repeat (first | (with_reducible first | exact HB.out | apply below_alloc | apply pw_below_drewN | apply below_drew1) | exact HB.out)) hb); clear HB; have HO160 := n0_; have HB := n1_; clear n0_ n1_; (try clear hb); (try clear hb2); (try clear hk); (try clear hi); (try clear ho0)))
        repeat (go_quiet (first | (go_at_call 21; (with_reducible refine (pendulumref18_Made.calls kj6 _ _ l0 _ _ l1 (wrap64 (1 + (wrap64 (Int.tmod a2 9)))) (wrap64 (1 + (wrap64 (a3)))) t158 _ ?side1 ?side2 ?side3 ?side4 A15.out).mono ?_); (case side1 => repeat (first | exact (Kd.C_below HR0.out HB.out) | (with_reducible refine Kd.C_alloc ?_ _) | (with_reducible refine Kd.C_drewN ?_ _) | (with_reducible refine Kd.C_drew ?_))); (case side2 => exact HC0.out); (case side3 => repeat (first | exact (Kd.C_below HR1.out HB.out) | (with_reducible refine Kd.C_alloc ?_ _) | (with_reducible refine Kd.C_drewN ?_ _) | (with_reducible refine Kd.C_drew ?_))); (case side4 => exact HC1.out); rintro e w16 ⟨v159, rfl, ho0, hb⟩; have n0_ := Aside0.mk (Kd.R_lower ho0 (below_size (by repeat (first | (with_reducible first | exact HB.out | apply below_alloc | apply pw_below_drewN | apply below_drew1) | exact HB.out)))); have n1_ := Aside0.mk (below_step (by repeat (first | (with_reducible first | exact HB.out | apply below_alloc | apply pw_below_drewN | apply below_drew1) | exact HB.out)) hb); clear HB; have HO160 := n0_; have HB := n1_; clear n0_ n1_; (try clear hb); (try clear hb2); (try clear hk); (try clear hi); (try clear ho0))); try go_wp2_with (first | (go_at_call 21; (with_reducible refine (pendulumref18_Made.calls kj6 _ _ l0 _ _ l1 (wrap64 (1 + (wrap64 (Int.tmod a2 9)))) (wrap64 (1 + (wrap64 (a3)))) t158 _ ?side1 ?side2 ?side3 ?side4 A15.out).mono ?_); (case side1 => repeat (first | exact (Kd.C_below HR0.out HB.out) | (with_reducible refine Kd.C_alloc ?_ _) | (with_reducible refine Kd.C_drewN ?_ _) | (with_reducible refine Kd.C_drew ?_))); (case side2 => exact HC0.out); (case side3 => repeat (first | exact (Kd.C_below HR1.out HB.out) | (with_reducible refine Kd.C_alloc ?_ _) | (with_reducible refine Kd.C_drewN ?_ _) | (with_reducible refine Kd.C_drew ?_))); (case side4 => exact HC1.out); rintro e w16 ⟨v159, rfl, ho0, hb⟩; have n0_ := Aside0.mk (Kd.R_lower ho0 (below_size (by repeat (first | (with_reducible first | exact HB.out | apply below_alloc | apply pw_below_drewN | apply below_drew1) | exact HB.out)))); have n1_ := Aside0.mk (below_step (by repeat (first | (with_reducible first | exact HB.out | apply below_alloc | apply pw_below_drewN | apply below_drew1) | exact HB.out)) hb); clear HB; have HO160 := n0_; have HB := n1_; clear n0_ n1_; (try clear hb); (try clear hb2); (try clear hk); (try clear hi); (try clear ho0))))
        go_loopg [16] kj6 (fun kq v16 w' => ∃ (x16_2 : Int), v16 = .int .i64 x16_2 ∧ Aside0 (pendulumlaw18_BurstMost.l0 kq a4 a5 (wrap64 (1 + (wrap64 (Int.tmod a2 9)))) (wrap64 (1 + (wrap64 (a3)))) t158 x16_2 = some r) ∧ Aside0 (kq ≤ kj6) ∧ Aside0 (Kd.R (Kd.int .i64) 3 w' w.heap.size (fun _ => True) v159 t158) ∧ Aside0 (Below w.heap.size w w'))
        case atStart => exact ⟨(1), (by first | rfl | (simp; done) | (simp [*]; done)), H', ⟨Nat.le_refl _⟩, ⟨by (with_reducible repeat (first | apply Kd.R_alloc | apply Kd.R_drewN | apply Kd.R_drew)); exact HO160.out⟩, ⟨by repeat (first | (with_reducible first | exact HB.out | apply below_alloc | apply pw_below_drewN | apply below_drew1) | exact HB.out)⟩⟩
        case round =>
          clear H'
          try clear c1
          try clear p2
          try clear c5
          try clear p6
          try clear c9
          try clear c12
          try clear p2
          obtain ⟨x16_2, rfl, HA, HK2, HO_15, HB⟩ := hrel
          cases gk with
          | zero => exact absurd HA.out (by simp [pendulumlaw18_BurstMost.l0])
          | succ k2 =>
            have H := HA.out
            clear HA
            simp only [pendulumlaw18_BurstMost.l0] at H
            by_cases c17 : x16_2 < (t158.length : Int)
            · rw [if_pos c17] at H
              have c17b0 : decide (x16_2 < (t158.length : Int)) = true := decide_eq_true c17
              clear c17
              obtain ⟨ji18, hji18⟩ : ∃ j_ : Int, (wrap64 (x16_2 - 1)) = j_ := ⟨_, rfl⟩
              replace H : (if 0 ≤ (ji18) then (if (ji18) < (t158.length : Int) then (if 0 ≤ x16_2 then (if (rd t158 (ji18)) ≥ (rd t158 x16_2) then (some true) else (pendulumlaw18_BurstMost.l0 k2 a4 a5 (wrap64 (1 + (wrap64 (Int.tmod a2 9)))) (wrap64 (1 + (wrap64 (a3)))) t158 (wrap64 (x16_2 + 1)))) else (none)) else (none)) else (none)) = some r := by first | (rw [hji18] at H; exact H) | (simp only [hji18] at H ⊢; exact H)
              have hji18w : (IntKind.i64.wrap (x16_2 - 1)) = ji18 := (i64_w _).trans hji18
              by_cases c19 : 0 ≤ (ji18)
              · rw [if_pos c19] at H
                have c19b0 : decide (0 ≤ (ji18)) = true := decide_eq_true c19
                clear c19
                by_cases c20 : (ji18) < (t158.length : Int)
                · rw [if_pos c20] at H
                  have c20b0 : decide ((ji18) < (t158.length : Int)) = true := decide_eq_true c20
                  clear c20
                  by_cases c21 : 0 ≤ x16_2
                  · rw [if_pos c21] at H
                    have c21b0 : decide (0 ≤ x16_2) = true := decide_eq_true c21
                    clear c21
                    by_cases c22 : (rd t158 (ji18)) ≥ (rd t158 x16_2)
                    · rw [if_pos c22] at H
                      have c22b0 : decide ((rd t158 x16_2) ≤ (rd t158 (ji18))) = true := decide_eq_true c22
                      clear c22
                      obtain rfl := Option.some.inj H
                      obtain ⟨Ao23, co23, eo23⟩ := Kd.R_slice HO_15.out
                      subst eo23
                      have p161 : 0 ≤ ((ji18) : Int) := of_decide_eq_true (by first | (with_reducible assumption) | assumption)
                      have q161 : (ji18) < (t158.length : Int) := of_decide_eq_true (by first | (with_reducible assumption) | assumption)
                      obtain ⟨ad161, e161, hx161_0⟩ := Kd.at_int (Kd.R_reads' HO_15.out).2.2 (ji18) p161 q161
                      cases e161
                      replace p161 := eq_true p161
                      replace q161 := eq_true q161
                      have p162 : 0 ≤ (x16_2 : Int) := of_decide_eq_true (by first | (with_reducible assumption) | assumption)
                      have q162 : x16_2 < (t158.length : Int) := of_decide_eq_true (by first | (with_reducible assumption) | assumption)
                      obtain ⟨ad162, e162, hx162_0⟩ := Kd.at_int (Kd.R_reads' HO_15.out).2.2 x16_2 p162 q162
                      obtain rfl : ad161 = ad162 := (by injection e162)
                      replace p162 := eq_true p162
                      replace q162 := eq_true q162
                      go_wp2
                      repeat (go_quiet (fail); try go_wp2)
                      go_ret
                      exact ⟨by first | rfl | (simp [errW_none, errW_some] <;> rfl) | (simp only [← hji18]; first | rfl | (simp [errW_none, errW_some] <;> rfl)) | (simp [*, errW_none, errW_some] <;> rfl), by repeat (first | (with_reducible first | exact HB.out | apply below_alloc | apply pw_below_drewN | apply below_drew1) | exact HB.out)⟩
                    · rw [if_neg c22] at H
                      have c22b0 : decide ((rd t158 x16_2) ≤ (rd t158 (ji18))) = false := decide_eq_false c22
                      clear c22
                      have H' := Aside0.mk H
                      clear H
                      obtain ⟨Ao24, co24, eo24⟩ := Kd.R_slice HO_15.out
                      subst eo24
                      have p161 : 0 ≤ ((ji18) : Int) := of_decide_eq_true (by first | (with_reducible assumption) | assumption)
                      have q161 : (ji18) < (t158.length : Int) := of_decide_eq_true (by first | (with_reducible assumption) | assumption)
                      obtain ⟨ad161, e161, hx161_0⟩ := Kd.at_int (Kd.R_reads' HO_15.out).2.2 (ji18) p161 q161
                      cases e161
                      replace p161 := eq_true p161
                      replace q161 := eq_true q161
                      have p162 : 0 ≤ (x16_2 : Int) := of_decide_eq_true (by first | (with_reducible assumption) | assumption)
                      have q162 : x16_2 < (t158.length : Int) := of_decide_eq_true (by first | (with_reducible assumption) | assumption)
                      obtain ⟨ad162, e162, hx162_0⟩ := Kd.at_int (Kd.R_reads' HO_15.out).2.2 x16_2 p162 q162
                      obtain rfl : ad161 = ad162 := (by injection e162)
                      replace p162 := eq_true p162
                      replace q162 := eq_true q162
                      go_wp2
                      repeat (go_quiet (fail); try go_wp2)
                      go_roundg k2
                      case measure => have := HJ6.out; have := HK2.out; omega
                      case rel => exact ⟨(wrap64 (x16_2 + 1)), (by first | rfl | (simp; done) | (simp [*]; done)), H', ⟨by have := HJ6.out; have := HK2.out; omega⟩, ⟨by (with_reducible repeat (first | apply Kd.R_alloc | apply Kd.R_drewN | apply Kd.R_drew)); exact HO_15.out⟩, ⟨by repeat (first | (with_reducible first | exact HB.out | apply below_alloc | apply pw_below_drewN | apply below_drew1) | exact HB.out)⟩⟩
                  · rw [if_neg c21] at H
                    exact absurd H (by simp)
                · rw [if_neg c20] at H
                  exact absurd H (by simp)
              · rw [if_neg c19] at H
                exact absurd H (by simp)
            · rw [if_neg c17] at H
              have c17b0 : decide (x16_2 < (t158.length : Int)) = false := decide_eq_false c17
              clear c17
              replace H := Option.bind_eq_some_iff.mp H
              obtain ⟨t163, A250, H⟩ := H
              replace H : (if t163 = true then ((burst_Starts.f k2 t158 (wrap64 (1 + (wrap64 (Int.tmod a2 9))))).bind fun t165 => (pendulumlaw18_BurstMost.l1 k2 a5 (wrap64 (1 + (wrap64 (Int.tmod a2 9)))) (wrap64 (1 + (wrap64 (a3)))) t158 (wrap64 (a4)) (wrap64 ((wrap64 (a4)) + (wrap64 (a5)))) t165 0 0)) else ((pendulumref18_Legal.f k2 t158 (wrap64 (1 + (wrap64 (Int.tmod a2 9)))) (wrap64 (1 + (wrap64 (a3))))).bind fun t164 => (some (!t164)))) = some r := H
              have A25 := Aside0.mk A250
              clear A250
              by_cases c26 : t163 = true
              · subst c26
                have H1 : ((burst_Starts.f k2 t158 (wrap64 (1 + (wrap64 (Int.tmod a2 9))))).bind fun t165 => (pendulumlaw18_BurstMost.l1 k2 a5 (wrap64 (1 + (wrap64 (Int.tmod a2 9)))) (wrap64 (1 + (wrap64 (a3)))) t158 (wrap64 (a4)) (wrap64 ((wrap64 (a4)) + (wrap64 (a5)))) t165 0 0)) = some r := by rw [if_pos rfl] at H; exact H
                clear H
                have H := H1
                clear H1
                replace H := Option.bind_eq_some_iff.mp H
                obtain ⟨t165, A270, H⟩ := H
                replace H : (pendulumlaw18_BurstMost.l1 k2 a5 (wrap64 (1 + (wrap64 (Int.tmod a2 9)))) (wrap64 (1 + (wrap64 (a3)))) t158 (wrap64 (a4)) (wrap64 ((wrap64 (a4)) + (wrap64 (a5)))) t165 0 0) = some r := H
                have A27 := Aside0.mk A270
                clear A270
                have H' := Aside0.mk H
                clear H
                obtain ⟨Ao28, co28, eo28⟩ := Kd.R_slice HO_15.out
                subst eo28
                go_wp2_with (first | (go_at_call 16; (with_reducible refine (burst_Legal.calls k2 _ _ t158 (wrap64 (1 + (wrap64 (Int.tmod a2 9)))) (wrap64 (1 + (wrap64 (a3)))) true _ ?side1 ?side2 A25.out).mono ?_); (case side1 => repeat (first | exact (Kd.R_reads' HO_15.out).2.2 | (with_reducible refine Kd.C_alloc ?_ _) | (with_reducible refine Kd.C_drewN ?_ _) | (with_reducible refine Kd.C_drew ?_))); (case side2 => exact (Kd.R_reads' HO_15.out).2.1); rintro e w29 ⟨rfl, hb⟩; have n0_ := Aside0.mk (Kd.R_below (by (with_reducible repeat (first | apply Kd.R_alloc | apply Kd.R_drewN | apply Kd.R_drew)); exact HO_15.out) hb); have n1_ := Aside0.mk (below_step (by repeat (first | (with_reducible first | exact HB.out | apply below_alloc | apply pw_below_drewN | apply below_drew1) | exact HB.out)) hb); clear HO_15; clear HB; have HO_15 := n0_; have HB := n1_; clear n0_ n1_; (try clear hb); (try clear hb2); (try clear hk); (try clear hi)) | (go_at_call 14; (with_reducible refine (burst_Starts.calls k2 _ _ t158 (wrap64 (1 + (wrap64 (Int.tmod a2 9)))) t165 _ ?side1 ?side2 A27.out).mono ?_); (case side1 => repeat (first | exact (Kd.R_reads' HO_15.out).2.2 | (with_reducible refine Kd.C_alloc ?_ _) | (with_reducible refine Kd.C_drewN ?_ _) | (with_reducible refine Kd.C_drew ?_))); (case side2 => exact (Kd.R_reads' HO_15.out).2.1); rintro e w30 ⟨v166, rfl, ho0, hb⟩; have n0_ := Aside0.mk (Kd.R_elder' (by (with_reducible repeat (first | apply Kd.R_alloc | apply Kd.R_drewN | apply Kd.R_drew)); exact HO_15.out) (Kd.R_base ho0) hb); have n1_ := Aside0.mk (Kd.R_lower (Kd.R_new' ho0 (Kd.R_lt (by (with_reducible repeat (first | apply Kd.R_alloc | apply Kd.R_drewN | apply Kd.R_drew)); exact HO_15.out))) (below_size (by repeat (first | (with_reducible first | exact HB.out | apply below_alloc | apply pw_below_drewN | apply below_drew1) | exact HB.out)))); have n2_ := Aside0.mk (below_step (by repeat (first | (with_reducible first | exact HB.out | apply below_alloc | apply pw_below_drewN | apply below_drew1) | exact HB.out)) hb); clear HO_15; clear HB; have HO_15 := n0_; have HO167 := n1_; have HB := n2_; clear n0_ n1_ n2_; (try clear hb); (try clear hb2); (try clear hk); (try clear hi); (try clear ho0)))
                repeat (go_quiet (first | (go_at_call 16; (with_reducible refine (burst_Legal.calls k2 _ _ t158 (wrap64 (1 + (wrap64 (Int.tmod a2 9)))) (wrap64 (1 + (wrap64 (a3)))) true _ ?side1 ?side2 A25.out).mono ?_); (case side1 => repeat (first | exact (Kd.R_reads' HO_15.out).2.2 | (with_reducible refine Kd.C_alloc ?_ _) | (with_reducible refine Kd.C_drewN ?_ _) | (with_reducible refine Kd.C_drew ?_))); (case side2 => exact (Kd.R_reads' HO_15.out).2.1); rintro e w29 ⟨rfl, hb⟩; have n0_ := Aside0.mk (Kd.R_below (by (with_reducible repeat (first | apply Kd.R_alloc | apply Kd.R_drewN | apply Kd.R_drew)); exact HO_15.out) hb); have n1_ := Aside0.mk (below_step (by repeat (first | (with_reducible first | exact HB.out | apply below_alloc | apply pw_below_drewN | apply below_drew1) | exact HB.out)) hb); clear HO_15; clear HB; have HO_15 := n0_; have HB := n1_; clear n0_ n1_; (try clear hb); (try clear hb2); (try clear hk); (try clear hi)) | (go_at_call 14; (with_reducible refine (burst_Starts.calls k2 _ _ t158 (wrap64 (1 + (wrap64 (Int.tmod a2 9)))) t165 _ ?side1 ?side2 A27.out).mono ?_); (case side1 => repeat (first | exact (Kd.R_reads' HO_15.out).2.2 | (with_reducible refine Kd.C_alloc ?_ _) | (with_reducible refine Kd.C_drewN ?_ _) | (with_reducible refine Kd.C_drew ?_))); (case side2 => exact (Kd.R_reads' HO_15.out).2.1); rintro e w30 ⟨v166, rfl, ho0, hb⟩; have n0_ := Aside0.mk (Kd.R_elder' (by (with_reducible repeat (first | apply Kd.R_alloc | apply Kd.R_drewN | apply Kd.R_drew)); exact HO_15.out) (Kd.R_base ho0) hb); have n1_ := Aside0.mk (Kd.R_lower (Kd.R_new' ho0 (Kd.R_lt (by (with_reducible repeat (first | apply Kd.R_alloc | apply Kd.R_drewN | apply Kd.R_drew)); exact HO_15.out))) (below_size (by repeat (first | (with_reducible first | exact HB.out | apply below_alloc | apply pw_below_drewN | apply below_drew1) | exact HB.out)))); have n2_ := Aside0.mk (below_step (by repeat (first | (with_reducible first | exact HB.out | apply below_alloc | apply pw_below_drewN | apply below_drew1) | exact HB.out)) hb); clear HO_15; clear HB; have HO_15 := n0_; have HO167 := n1_; have HB := n2_; clear n0_ n1_ n2_; (try clear hb); (try clear hb2); (try clear hk); (try clear hi); (try clear ho0))); try go_wp2_with (first | (go_at_call 16; (with_reducible refine (burst_Legal.calls k2 _ _ t158 (wrap64 (1 + (wrap64 (Int.tmod a2 9)))) (wrap64 (1 + (wrap64 (a3)))) true _ ?side1 ?side2 A25.out).mono ?_); (case side1 => repeat (first | exact (Kd.R_reads' HO_15.out).2.2 | (with_reducible refine Kd.C_alloc ?_ _) | (with_reducible refine Kd.C_drewN ?_ _) | (with_reducible refine Kd.C_drew ?_))); (case side2 => exact (Kd.R_reads' HO_15.out).2.1); rintro e w29 ⟨rfl, hb⟩; have n0_ := Aside0.mk (Kd.R_below (by (with_reducible repeat (first | apply Kd.R_alloc | apply Kd.R_drewN | apply Kd.R_drew)); exact HO_15.out) hb); have n1_ := Aside0.mk (below_step (by repeat (first | (with_reducible first | exact HB.out | apply below_alloc | apply pw_below_drewN | apply below_drew1) | exact HB.out)) hb); clear HO_15; clear HB; have HO_15 := n0_; have HB := n1_; clear n0_ n1_; (try clear hb); (try clear hb2); (try clear hk); (try clear hi)) | (go_at_call 14; (with_reducible refine (burst_Starts.calls k2 _ _ t158 (wrap64 (1 + (wrap64 (Int.tmod a2 9)))) t165 _ ?side1 ?side2 A27.out).mono ?_); (case side1 => repeat (first | exact (Kd.R_reads' HO_15.out).2.2 | (with_reducible refine Kd.C_alloc ?_ _) | (with_reducible refine Kd.C_drewN ?_ _) | (with_reducible refine Kd.C_drew ?_))); (case side2 => exact (Kd.R_reads' HO_15.out).2.1); rintro e w30 ⟨v166, rfl, ho0, hb⟩; have n0_ := Aside0.mk (Kd.R_elder' (by (with_reducible repeat (first | apply Kd.R_alloc | apply Kd.R_drewN | apply Kd.R_drew)); exact HO_15.out) (Kd.R_base ho0) hb); have n1_ := Aside0.mk (Kd.R_lower (Kd.R_new' ho0 (Kd.R_lt (by (with_reducible repeat (first | apply Kd.R_alloc | apply Kd.R_drewN | apply Kd.R_drew)); exact HO_15.out))) (below_size (by repeat (first | (with_reducible first | exact HB.out | apply below_alloc | apply pw_below_drewN | apply below_drew1) | exact HB.out)))); have n2_ := Aside0.mk (below_step (by repeat (first | (with_reducible first | exact HB.out | apply below_alloc | apply pw_below_drewN | apply below_drew1) | exact HB.out)) hb); clear HO_15; clear HB; have HO_15 := n0_; have HO167 := n1_; have HB := n2_; clear n0_ n1_ n2_; (try clear hb); (try clear hb2); (try clear hk); (try clear hi); (try clear ho0))))
                go_loopg [20, 21] k2 (fun kq v20 v21 w' => ∃ (x20_3 : Int) (x21_3 : Int), v20 = .int .i64 x20_3 ∧ v21 = .int .i64 x21_3 ∧ Aside0 (pendulumlaw18_BurstMost.l1 kq a5 (wrap64 (1 + (wrap64 (Int.tmod a2 9)))) (wrap64 (1 + (wrap64 (a3)))) t158 (wrap64 (a4)) (wrap64 ((wrap64 (a4)) + (wrap64 (a5)))) t165 x20_3 x21_3 = some r) ∧ Aside0 (kq ≤ k2) ∧ Aside0 (Kd.R (Kd.int .i64) 3 w' w.heap.size (fun k_ => some k_ ≠ (v166 : Value).ownBlock) (.slice Ao28 t158.length co28) t158) ∧ Aside0 (Kd.R (Kd.int .i64) 3 w' w.heap.size (fun k_ => some k_ ≠ ((.slice Ao28 t158.length co28) : Value).ownBlock) v166 t165) ∧ Aside0 (Below w.heap.size w w'))
                case atStart => exact ⟨(0), (0), (by first | rfl | (simp; done) | (simp [*]; done)), (by first | rfl | (simp; done) | (simp [*]; done)), H', ⟨Nat.le_refl _⟩, ⟨by (with_reducible repeat (first | apply Kd.R_alloc | apply Kd.R_drewN | apply Kd.R_drew)); exact Kd.R_mono HO_15.out (fun _ hk => hk.2)⟩, ⟨by (with_reducible repeat (first | apply Kd.R_alloc | apply Kd.R_drewN | apply Kd.R_drew)); exact Kd.R_mono HO167.out (fun _ hk => hk.2)⟩, ⟨by repeat (first | (with_reducible first | exact HB.out | apply below_alloc | apply pw_below_drewN | apply below_drew1) | exact HB.out)⟩⟩
                case round =>
                  clear H'
                  try clear c1
                  try clear p1
                  try clear q1
                  try clear hx1
                  try clear c2
                  try clear p2
                  try clear c5
                  try clear p6
                  try clear c9
                  try clear c12
                  try clear p16
                  try clear q16
                  try clear hx16
                  try clear c17
                  try clear c17b0
                  try clear c19
                  try clear c19b0
                  try clear c20
                  try clear c20b0
                  try clear c21
                  try clear c21b0
                  try clear c22
                  try clear c22b0
                  try clear c26
                  try clear hx161_0
                  try clear hx162_0
                  try clear p161
                  try clear p162
                  try clear p2
                  try clear p6
                  try clear q161
                  try clear q162
                  obtain ⟨x20_3, x21_3, rfl, rfl, HA, HK3, HO_15, HO_19, HB⟩ := hrel
                  cases gk with
                  | zero => exact absurd HA.out (by simp [pendulumlaw18_BurstMost.l1])
                  | succ k3 =>
                    have H := HA.out
                    clear HA
                    simp only [pendulumlaw18_BurstMost.l1] at H
                    by_cases c31 : x21_3 < (t165.length : Int)
                    · rw [if_pos c31] at H
                      have c31b0 : decide (x21_3 < (t165.length : Int)) = true := decide_eq_true c31
                      clear c31
                      by_cases c32 : 0 ≤ x21_3
                      · rw [if_pos c32] at H
                        have c32b0 : decide (0 ≤ x21_3) = true := decide_eq_true c32
                        clear c32
                        have HC33 := Aside0.mk H
                        clear H
                        obtain ⟨Ao34, co34, eo34⟩ := Kd.R_slice HO_19.out
                        subst eo34
                        have p170 : 0 ≤ (x21_3 : Int) := of_decide_eq_true (by first | (with_reducible assumption) | assumption)
                        have q170 : x21_3 < (t165.length : Int) := of_decide_eq_true (by first | (with_reducible assumption) | assumption)
                        obtain ⟨ad170, e170, hx170_0⟩ := Kd.at_int (Kd.R_reads' HO_19.out).2.2 x21_3 p170 q170
                        cases e170
                        replace p170 := eq_true p170
                        replace q170 := eq_true q170
                        go_upto_region 21 with (fail)
                        repeat (go_quiet (fail); go_upto_region 21 with (fail))
                        go_cut [106] (fun v106 wc => ∃ (kq : Nat) (x106_32 : Bool), v106 = .bool x106_32 ∧ Aside0 (pendulumlaw18_BurstMost.j3 kq a5 (wrap64 (1 + (wrap64 (Int.tmod a2 9)))) (wrap64 (1 + (wrap64 (a3)))) t158 (wrap64 (a4)) (wrap64 ((wrap64 (a4)) + (wrap64 (a5)))) t165 x20_3 x21_3 (wrap64 ((rd t165 x21_3) + (wrap64 (1 + (wrap64 (Int.tmod a2 9)))))) x106_32 = some r) ∧ Aside0 (kq ≤ k3) ∧ Aside0 (Kd.R (Kd.int .i64) 3 wc w.heap.size (fun k_ => some k_ ≠ ((.slice (some ad170) t165.length co34) : Value).ownBlock) (.slice Ao28 t158.length co28) t158) ∧ Aside0 (Kd.R (Kd.int .i64) 3 wc w.heap.size (fun k_ => some k_ ≠ ((.slice Ao28 t158.length co28) : Value).ownBlock) (.slice (some ad170) t165.length co34) t165) ∧ Aside0 (Below w.heap.size w wc))
                        case first =>
                          have H := HC33.out
                          clear HC33
                          by_cases c35 : (wrap64 (x21_3 + 1)) < (t165.length : Int)
                          · rw [if_pos c35] at H
                            have c35b0 : decide ((wrap64 (x21_3 + 1)) < (t165.length : Int)) = true := decide_eq_true c35
                            clear c35
                            (first | rw [c35b0] | (simp only [i64_w, i32_w]; rw [c35b0]) | skip)
                            obtain ⟨ji36, hji36⟩ : ∃ j_ : Int, (wrap64 (x21_3 + 1)) = j_ := ⟨_, rfl⟩
                            replace H : (if 0 ≤ (ji36) then (pendulumlaw18_BurstMost.j3 k3 a5 (wrap64 (1 + (wrap64 (Int.tmod a2 9)))) (wrap64 (1 + (wrap64 (a3)))) t158 (wrap64 (a4)) (wrap64 ((wrap64 (a4)) + (wrap64 (a5)))) t165 x20_3 x21_3 (wrap64 ((rd t165 x21_3) + (wrap64 (1 + (wrap64 (Int.tmod a2 9)))))) (decide ((rd t165 (ji36)) < (wrap64 ((rd t165 x21_3) + (wrap64 (1 + (wrap64 (Int.tmod a2 9))))))))) else (none)) = some r := by first | (rw [hji36] at H; exact H) | (simp only [hji36] at H ⊢; exact H)
                            (try rw [hji36] at c35b0)
                            have hji36w : (IntKind.i64.wrap (x21_3 + 1)) = ji36 := (i64_w _).trans hji36
                            by_cases c37 : 0 ≤ (ji36)
                            · rw [if_pos c37] at H
                              have c37b0 : decide (0 ≤ (ji36)) = true := decide_eq_true c37
                              clear c37
                              have H' := Aside0.mk H
                              clear H
                              have p171 : 0 ≤ ((ji36) : Int) := of_decide_eq_true (by first | (with_reducible assumption) | assumption)
                              have q171 : (ji36) < (t165.length : Int) := of_decide_eq_true (by first | (with_reducible assumption) | assumption)
                              obtain ⟨ad171, e171, hx171_0⟩ := Kd.at_int (Kd.R_reads' HO_19.out).2.2 (ji36) p171 q171
                              obtain rfl : ad170 = ad171 := (by injection e171)
                              replace p171 := eq_true p171
                              replace q171 := eq_true q171
                              go_wp2
                              repeat (go_quiet (fail); try go_wp2)
                              go_meet
                              case rel => exact ⟨_, (decide ((rd t165 (ji36)) < (wrap64 ((rd t165 x21_3) + (wrap64 (1 + (wrap64 (Int.tmod a2 9)))))))), (by first | rfl | (simp; done) | (simp only [← hji36] <;> (first | rfl | simp)) | (simp [*]; done)), H', ⟨by have := HJ6.out; have := HK2.out; have := HK3.out; first | omega | exact Nat.le_refl _⟩, ⟨by (with_reducible repeat (first | apply Kd.R_alloc | apply Kd.R_drewN | apply Kd.R_drew)); exact HO_15.out⟩, ⟨by (with_reducible repeat (first | apply Kd.R_alloc | apply Kd.R_drewN | apply Kd.R_drew)); exact HO_19.out⟩, ⟨by repeat (first | (with_reducible first | exact HB.out | apply below_alloc | apply pw_below_drewN | apply below_drew1) | exact HB.out)⟩⟩
                            · rw [if_neg c37] at H
                              exact absurd H (by simp)
                          · rw [if_neg c35] at H
                            have c35b0 : decide ((wrap64 (x21_3 + 1)) < (t165.length : Int)) = false := decide_eq_false c35
                            clear c35
                            (first | rw [c35b0] | (simp only [i64_w, i32_w]; rw [c35b0]) | skip)
                            have H' := Aside0.mk H
                            clear H
                            go_wp2
                            repeat (go_quiet (fail); try go_wp2)
                            go_meet
                            case rel => exact ⟨_, (false), (by first | rfl | (simp; done) | (simp [*]; done)), H', ⟨by have := HJ6.out; have := HK2.out; have := HK3.out; first | omega | exact Nat.le_refl _⟩, ⟨by (with_reducible repeat (first | apply Kd.R_alloc | apply Kd.R_drewN | apply Kd.R_drew)); exact HO_15.out⟩, ⟨by (with_reducible repeat (first | apply Kd.R_alloc | apply Kd.R_drewN | apply Kd.R_drew)); exact HO_19.out⟩, ⟨by repeat (first | (with_reducible first | exact HB.out | apply below_alloc | apply pw_below_drewN | apply below_drew1) | exact HB.out)⟩⟩
                        case rest =>
                          clear HC33
                          try clear c1
                          try clear p1
                          try clear q1
                          try clear hx1
                          try clear c2
                          try clear p2
                          try clear c3
                          try clear c5
                          try clear p6
                          try clear c9
                          try clear c12
                          try clear p16
                          try clear q16
                          try clear hx16
                          try clear c17
                          try clear c17b0
                          try clear p17
                          try clear q17
                          try clear hx17
                          try clear c19
                          try clear c19b0
                          try clear c20
                          try clear c20b0
                          try clear c21
                          try clear c21b0
                          try clear c22
                          try clear c22b0
                          try clear c26
                          try clear c31
                          try clear c31b0
                          try clear c32
                          try clear c32b0
                          try clear c35
                          try clear c35b0
                          try clear c37
                          try clear c37b0
                          try clear hx161_0
                          try clear hx162_0
                          try clear hx170_0
                          try clear hx171_0
                          try clear p1
                          try clear p16
                          try clear p161
                          try clear p162
                          try clear p170
                          try clear p171
                          try clear p2
                          try clear p6
                          try clear q1
                          try clear q16
                          try clear q161
                          try clear q162
                          try clear q170
                          try clear q171
                          obtain ⟨kq, x106_32, rfl, HA, HJ32, HO_15, HO_19, HB⟩ := hcut
                          cases kq with
                          | zero => exact absurd HA.out (by simp [pendulumlaw18_BurstMost.j3])
                          | succ kj32 =>
                            have H := HA.out
                            clear HA
                            simp only [pendulumlaw18_BurstMost.j3] at H
                            have HC38 := Aside0.mk H
                            clear H
                            go_upto_if 106 with (fail)
                            repeat (go_quiet (fail); go_upto_if 106 with (fail))
                            go_cut [22] (fun v22 wc => ∃ (kq : Nat) (x22_37 : Int), v22 = .int .i64 x22_37 ∧ Aside0 (pendulumlaw18_BurstMost.j4 kq a5 (wrap64 (1 + (wrap64 (Int.tmod a2 9)))) (wrap64 (1 + (wrap64 (a3)))) t158 (wrap64 (a4)) (wrap64 ((wrap64 (a4)) + (wrap64 (a5)))) t165 x20_3 x21_3 x22_37 = some r) ∧ Aside0 (kq ≤ kj32) ∧ Aside0 (Kd.R (Kd.int .i64) 3 wc w.heap.size (fun k_ => some k_ ≠ ((.slice (some ad170) t165.length co34) : Value).ownBlock) (.slice Ao28 t158.length co28) t158) ∧ Aside0 (Kd.R (Kd.int .i64) 3 wc w.heap.size (fun k_ => some k_ ≠ ((.slice Ao28 t158.length co28) : Value).ownBlock) (.slice (some ad170) t165.length co34) t165) ∧ Aside0 (Below w.heap.size w wc))
                            case first =>
                              have H := HC38.out
                              clear HC38
                              by_cases c39 : x106_32 = true
                              · subst c39
                                have H1 : (if 0 ≤ (wrap64 (x21_3 + 1)) then (if (wrap64 (x21_3 + 1)) < (t165.length : Int) then (pendulumlaw18_BurstMost.j4 kj32 a5 (wrap64 (1 + (wrap64 (Int.tmod a2 9)))) (wrap64 (1 + (wrap64 (a3)))) t158 (wrap64 (a4)) (wrap64 ((wrap64 (a4)) + (wrap64 (a5)))) t165 x20_3 x21_3 (rd t165 (wrap64 (x21_3 + 1)))) else (none)) else (none)) = some r := by rw [if_pos rfl] at H; exact H
                                clear H
                                have H := H1
                                clear H1
                                obtain ⟨ji40, hji40⟩ : ∃ j_ : Int, (wrap64 (x21_3 + 1)) = j_ := ⟨_, rfl⟩
                                replace H : (if 0 ≤ (ji40) then (if (ji40) < (t165.length : Int) then (pendulumlaw18_BurstMost.j4 kj32 a5 (wrap64 (1 + (wrap64 (Int.tmod a2 9)))) (wrap64 (1 + (wrap64 (a3)))) t158 (wrap64 (a4)) (wrap64 ((wrap64 (a4)) + (wrap64 (a5)))) t165 x20_3 x21_3 (rd t165 (ji40))) else (none)) else (none)) = some r := by first | (rw [hji40] at H; exact H) | (simp only [hji40] at H ⊢; exact H)
                                have hji40w : (IntKind.i64.wrap (x21_3 + 1)) = ji40 := (i64_w _).trans hji40
                                by_cases c41 : 0 ≤ (ji40)
                                · rw [if_pos c41] at H
                                  have c41b0 : decide (0 ≤ (ji40)) = true := decide_eq_true c41
                                  clear c41
                                  (first | rw [c41b0] | (simp only [i64_w, i32_w]; rw [c41b0]) | skip)
                                  by_cases c42 : (ji40) < (t165.length : Int)
                                  · rw [if_pos c42] at H
                                    have c42b0 : decide ((ji40) < (t165.length : Int)) = true := decide_eq_true c42
                                    clear c42
                                    have H' := Aside0.mk H
                                    clear H
                                    have p172 : 0 ≤ ((ji40) : Int) := of_decide_eq_true (by first | (with_reducible assumption) | assumption)
                                    have q172 : (ji40) < (t165.length : Int) := of_decide_eq_true (by first | (with_reducible assumption) | assumption)
                                    obtain ⟨ad172, e172, hx172_0⟩ := Kd.at_int (Kd.R_reads' HO_19.out).2.2 (ji40) p172 q172
                                    obtain rfl : ad170 = ad172 := (by injection e172)
                                    replace p172 := eq_true p172
                                    replace q172 := eq_true q172
                                    go_wp2
                                    repeat (go_quiet (fail); try go_wp2)
                                    go_meet
                                    case rel => exact ⟨_, (rd t165 (ji40)), (by first | rfl | (simp; done) | (simp only [← hji40] <;> (first | rfl | simp)) | (simp [*]; done)), H', ⟨by have := HJ6.out; have := HK2.out; have := HK3.out; have := HJ32.out; first | omega | exact Nat.le_refl _⟩, ⟨by (with_reducible repeat (first | apply Kd.R_alloc | apply Kd.R_drewN | apply Kd.R_drew)); exact HO_15.out⟩, ⟨by (with_reducible repeat (first | apply Kd.R_alloc | apply Kd.R_drewN | apply Kd.R_drew)); exact HO_19.out⟩, ⟨by repeat (first | (with_reducible first | exact HB.out | apply below_alloc | apply pw_below_drewN | apply below_drew1) | exact HB.out)⟩⟩
                                  · rw [if_neg c42] at H
                                    exact absurd H (by simp)
                                · rw [if_neg c41] at H
                                  exact absurd H (by simp)
                              · replace c39 := Bool.eq_false_iff.mpr c39
                                subst c39
                                have H1 : (pendulumlaw18_BurstMost.j4 kj32 a5 (wrap64 (1 + (wrap64 (Int.tmod a2 9)))) (wrap64 (1 + (wrap64 (a3)))) t158 (wrap64 (a4)) (wrap64 ((wrap64 (a4)) + (wrap64 (a5)))) t165 x20_3 x21_3 (wrap64 ((rd t165 x21_3) + (wrap64 (1 + (wrap64 (Int.tmod a2 9))))))) = some r := by rw [if_neg (show ¬ (false = true) by decide)] at H; exact H
                                clear H
                                have H := H1
                                clear H1
                                have H' := Aside0.mk H
                                clear H
                                go_wp2
                                repeat (go_quiet (fail); try go_wp2)
                                go_meet
                                case rel => exact ⟨_, ((wrap64 ((rd t165 x21_3) + (wrap64 (1 + (wrap64 (Int.tmod a2 9))))))), (by first | rfl | (simp; done) | (simp [*]; done)), H', ⟨by have := HJ6.out; have := HK2.out; have := HK3.out; have := HJ32.out; first | omega | exact Nat.le_refl _⟩, ⟨by (with_reducible repeat (first | apply Kd.R_alloc | apply Kd.R_drewN | apply Kd.R_drew)); exact HO_15.out⟩, ⟨by (with_reducible repeat (first | apply Kd.R_alloc | apply Kd.R_drewN | apply Kd.R_drew)); exact HO_19.out⟩, ⟨by repeat (first | (with_reducible first | exact HB.out | apply below_alloc | apply pw_below_drewN | apply below_drew1) | exact HB.out)⟩⟩
                            case rest =>
                              clear HC38
                              try clear c1
                              try clear p1
                              try clear q1
                              try clear hx1
                              try clear c2
                              try clear p2
                              try clear c3
                              try clear c4
                              try clear c5
                              try clear p6
                              try clear c9
                              try clear c12
                              try clear p16
                              try clear q16
                              try clear hx16
                              try clear c17
                              try clear c17b0
                              try clear p17
                              try clear q17
                              try clear hx17
                              try clear c19
                              try clear c19b0
                              try clear c20
                              try clear c20b0
                              try clear c21
                              try clear c21b0
                              try clear c22
                              try clear c22b0
                              try clear c26
                              try clear c31
                              try clear c31b0
                              try clear c32
                              try clear c32b0
                              try clear c35
                              try clear c35b0
                              try clear c37
                              try clear c37b0
                              try clear c39
                              try clear c41
                              try clear c41b0
                              try clear c42
                              try clear c42b0
                              try clear hx161_0
                              try clear hx162_0
                              try clear hx170_0
                              try clear hx171_0
                              try clear hx172_0
                              try clear p1
                              try clear p16
                              try clear p161
                              try clear p162
                              try clear p17
                              try clear p170
                              try clear p171
                              try clear p172
                              try clear p2
                              try clear p6
                              try clear q1
                              try clear q16
                              try clear q161
                              try clear q162
                              try clear q17
                              try clear q170
                              try clear q171
                              try clear q172
                              obtain ⟨kq, x22_37, rfl, HA, HJ37, HO_15, HO_19, HB⟩ := hcut
                              cases kq with
                              | zero => exact absurd HA.out (by simp [pendulumlaw18_BurstMost.j4])
                              | succ kj37 =>
                                have H := HA.out
                                clear HA
                                simp only [pendulumlaw18_BurstMost.j4] at H
                                by_cases c43 : 0 ≤ x21_3
                                · rw [if_pos c43] at H
                                  have c43b0 : decide (0 ≤ x21_3) = true := decide_eq_true c43
                                  clear c43
                                  by_cases c44 : x21_3 < (t165.length : Int)
                                  · rw [if_pos c44] at H
                                    have c44b0 : decide (x21_3 < (t165.length : Int)) = true := decide_eq_true c44
                                    clear c44
                                    have HC45 := Aside0.mk H
                                    clear H
                                    have p173 : 0 ≤ (x21_3 : Int) := of_decide_eq_true (by first | (with_reducible assumption) | assumption)
                                    have q173 : x21_3 < (t165.length : Int) := of_decide_eq_true (by first | (with_reducible assumption) | assumption)
                                    obtain ⟨ad173, e173, hx173_0⟩ := Kd.at_int (Kd.R_reads' HO_19.out).2.2 x21_3 p173 q173
                                    obtain rfl : ad170 = ad173 := (by injection e173)
                                    replace p173 := eq_true p173
                                    replace q173 := eq_true q173
                                    go_upto_if 118 with (fail)
                                    repeat (go_quiet (fail); go_upto_if 118 with (fail))
                                    go_cut [23] (fun v23 wc => ∃ (kq : Nat) (x23_44 : Int), v23 = .int .i64 x23_44 ∧ Aside0 (pendulumlaw18_BurstMost.j5 kq a5 (wrap64 (1 + (wrap64 (Int.tmod a2 9)))) (wrap64 (1 + (wrap64 (a3)))) t158 (wrap64 (a4)) (wrap64 ((wrap64 (a4)) + (wrap64 (a5)))) t165 x20_3 x21_3 x22_37 x23_44 = some r) ∧ Aside0 (kq ≤ kj37) ∧ Aside0 (Kd.R (Kd.int .i64) 3 wc w.heap.size (fun k_ => some k_ ≠ ((.slice (some ad170) t165.length co34) : Value).ownBlock) (.slice Ao28 t158.length co28) t158) ∧ Aside0 (Kd.R (Kd.int .i64) 3 wc w.heap.size (fun k_ => some k_ ≠ ((.slice Ao28 t158.length co28) : Value).ownBlock) (.slice (some ad170) t165.length co34) t165) ∧ Aside0 (Below w.heap.size w wc))
                                    case first =>
                                      have H := HC45.out
                                      clear HC45
                                      by_cases c46 : (wrap64 (a4)) > (rd t165 x21_3)
                                      · rw [if_pos c46] at H
                                        have c46b0 : decide ((rd t165 x21_3) < (wrap64 (a4))) = true := decide_eq_true c46
                                        clear c46
                                        (first | rw [c46b0] | (simp only [i64_w, i32_w]; rw [c46b0]) | skip)
                                        have H' := Aside0.mk H
                                        clear H
                                        go_wp2
                                        repeat (go_quiet (fail); try go_wp2)
                                        go_meet
                                        case rel => exact ⟨_, ((wrap64 (a4))), (by first | rfl | (simp; done) | (simp [*]; done)), H', ⟨by have := HJ6.out; have := HK2.out; have := HK3.out; have := HJ32.out; have := HJ37.out; first | omega | exact Nat.le_refl _⟩, ⟨by (with_reducible repeat (first | apply Kd.R_alloc | apply Kd.R_drewN | apply Kd.R_drew)); exact HO_15.out⟩, ⟨by (with_reducible repeat (first | apply Kd.R_alloc | apply Kd.R_drewN | apply Kd.R_drew)); exact HO_19.out⟩, ⟨by repeat (first | (with_reducible first | exact HB.out | apply below_alloc | apply pw_below_drewN | apply below_drew1) | exact HB.out)⟩⟩
                                      · rw [if_neg c46] at H
                                        have c46b0 : decide ((rd t165 x21_3) < (wrap64 (a4))) = false := decide_eq_false c46
                                        clear c46
                                        (first | rw [c46b0] | (simp only [i64_w, i32_w]; rw [c46b0]) | skip)
                                        have H' := Aside0.mk H
                                        clear H
                                        go_wp2
                                        repeat (go_quiet (fail); try go_wp2)
                                        go_meet
                                        case rel => exact ⟨_, (rd t165 x21_3), (by first | rfl | (simp; done) | (simp [*]; done)), H', ⟨by have := HJ6.out; have := HK2.out; have := HK3.out; have := HJ32.out; have := HJ37.out; first | omega | exact Nat.le_refl _⟩, ⟨by (with_reducible repeat (first | apply Kd.R_alloc | apply Kd.R_drewN | apply Kd.R_drew)); exact HO_15.out⟩, ⟨by (with_reducible repeat (first | apply Kd.R_alloc | apply Kd.R_drewN | apply Kd.R_drew)); exact HO_19.out⟩, ⟨by repeat (first | (with_reducible first | exact HB.out | apply below_alloc | apply pw_below_drewN | apply below_drew1) | exact HB.out)⟩⟩
                                    case rest =>
                                      clear HC45
                                      try clear c1
                                      try clear p1
                                      try clear q1
                                      try clear hx1
                                      try clear c2
                                      try clear p2
                                      try clear c3
                                      try clear c4
                                      try clear c5
                                      try clear p6
                                      try clear c9
                                      try clear c12
                                      try clear p16
                                      try clear q16
                                      try clear hx16
                                      try clear c17
                                      try clear c17b0
                                      try clear p17
                                      try clear q17
                                      try clear hx17
                                      try clear c19
                                      try clear c19b0
                                      try clear c20
                                      try clear c20b0
                                      try clear c21
                                      try clear c21b0
                                      try clear c22
                                      try clear c22b0
                                      try clear c26
                                      try clear c31
                                      try clear c31b0
                                      try clear c32
                                      try clear c32b0
                                      try clear c35
                                      try clear c35b0
                                      try clear c37
                                      try clear c37b0
                                      try clear c39
                                      try clear c41
                                      try clear c41b0
                                      try clear c42
                                      try clear c42b0
                                      try clear c43
                                      try clear c43b0
                                      try clear c44
                                      try clear c44b0
                                      try clear c46
                                      try clear c46b0
                                      try clear hx161_0
                                      try clear hx162_0
                                      try clear hx170_0
                                      try clear hx171_0
                                      try clear hx172_0
                                      try clear hx173_0
                                      try clear p1
                                      try clear p16
                                      try clear p161
                                      try clear p162
                                      try clear p17
                                      try clear p170
                                      try clear p171
                                      try clear p172
                                      try clear p173
                                      try clear p2
                                      try clear p6
                                      try clear q1
                                      try clear q16
                                      try clear q161
                                      try clear q162
                                      try clear q17
                                      try clear q170
                                      try clear q171
                                      try clear q172
                                      try clear q173
                                      obtain ⟨kq, x23_44, rfl, HA, HJ44, HO_15, HO_19, HB⟩ := hcut
                                      cases kq with
                                      | zero => exact absurd HA.out (by simp [pendulumlaw18_BurstMost.j5])
                                      | succ kj44 =>
                                        have H := HA.out
                                        clear HA
                                        simp only [pendulumlaw18_BurstMost.j5] at H
                                        by_cases c47 : (wrap64 ((wrap64 (a4)) + (wrap64 (a5)))) < x22_37
                                        · rw [if_pos c47] at H
                                          have c47b0 : decide ((wrap64 ((wrap64 (a4)) + (wrap64 (a5)))) < x22_37) = true := decide_eq_true c47
                                          clear c47
                                          by_cases c48 : x23_44 < (wrap64 ((wrap64 (a4)) + (wrap64 (a5))))
                                          · rw [if_pos c48] at H
                                            have c48b0 : decide (x23_44 < (wrap64 ((wrap64 (a4)) + (wrap64 (a5))))) = true := decide_eq_true c48
                                            clear c48
                                            replace H := Option.bind_eq_some_iff.mp H
                                            obtain ⟨t174, A490, H⟩ := H
                                            replace H : (if t174 > 0 then (pendulumlaw18_BurstMost.l1 kj44 a5 (wrap64 (1 + (wrap64 (Int.tmod a2 9)))) (wrap64 (1 + (wrap64 (a3)))) t158 (wrap64 (a4)) (wrap64 ((wrap64 (a4)) + (wrap64 (a5)))) t165 (wrap64 (x20_3 + 1)) (wrap64 (x21_3 + 1))) else (pendulumlaw18_BurstMost.l1 kj44 a5 (wrap64 (1 + (wrap64 (Int.tmod a2 9)))) (wrap64 (1 + (wrap64 (a3)))) t158 (wrap64 (a4)) (wrap64 ((wrap64 (a4)) + (wrap64 (a5)))) t165 x20_3 (wrap64 (x21_3 + 1)))) = some r := H
                                            have A49 := Aside0.mk A490
                                            clear A490
                                            by_cases c50 : t174 > 0
                                            · rw [if_pos c50] at H
                                              have c50b0 : decide (0 < t174) = true := decide_eq_true c50
                                              clear c50
                                              have H' := Aside0.mk H
                                              clear H
                                              go_wp2_with (first | (go_at_call 18; (with_reducible refine (burst_In.calls kj44 _ _ t158 x23_44 (wrap64 ((wrap64 (a4)) + (wrap64 (a5)))) t174 _ ?side1 ?side2 A49.out).mono ?_); (case side1 => repeat (first | exact (Kd.R_reads' HO_15.out).2.2 | (with_reducible refine Kd.C_alloc ?_ _) | (with_reducible refine Kd.C_drewN ?_ _) | (with_reducible refine Kd.C_drew ?_))); (case side2 => exact (Kd.R_reads' HO_15.out).2.1); rintro e w' ⟨rfl, ⟨nd, rfl⟩⟩; (try first | exact ⟨rfl, _, World.drewN_drewN _ _ _⟩ | exact ⟨rfl, _, Eq.trans (World.drewN_drewN _ _ _) (congrArg (World.drewN _) (Nat.add_assoc _ _ _))⟩)))
                                              repeat (go_quiet (first | (go_at_call 18; (with_reducible refine (burst_In.calls kj44 _ _ t158 x23_44 (wrap64 ((wrap64 (a4)) + (wrap64 (a5)))) t174 _ ?side1 ?side2 A49.out).mono ?_); (case side1 => repeat (first | exact (Kd.R_reads' HO_15.out).2.2 | (with_reducible refine Kd.C_alloc ?_ _) | (with_reducible refine Kd.C_drewN ?_ _) | (with_reducible refine Kd.C_drew ?_))); (case side2 => exact (Kd.R_reads' HO_15.out).2.1); rintro e w' ⟨rfl, ⟨nd, rfl⟩⟩; (try first | exact ⟨rfl, _, World.drewN_drewN _ _ _⟩ | exact ⟨rfl, _, Eq.trans (World.drewN_drewN _ _ _) (congrArg (World.drewN _) (Nat.add_assoc _ _ _))⟩))); try go_wp2_with (first | (go_at_call 18; (with_reducible refine (burst_In.calls kj44 _ _ t158 x23_44 (wrap64 ((wrap64 (a4)) + (wrap64 (a5)))) t174 _ ?side1 ?side2 A49.out).mono ?_); (case side1 => repeat (first | exact (Kd.R_reads' HO_15.out).2.2 | (with_reducible refine Kd.C_alloc ?_ _) | (with_reducible refine Kd.C_drewN ?_ _) | (with_reducible refine Kd.C_drew ?_))); (case side2 => exact (Kd.R_reads' HO_15.out).2.1); rintro e w' ⟨rfl, ⟨nd, rfl⟩⟩; (try first | exact ⟨rfl, _, World.drewN_drewN _ _ _⟩ | exact ⟨rfl, _, Eq.trans (World.drewN_drewN _ _ _) (congrArg (World.drewN _) (Nat.add_assoc _ _ _))⟩))))
                                              go_roundg kj44
                                              case measure => have := HJ6.out; have := HK2.out; have := HK3.out; have := HJ32.out; have := HJ37.out; have := HJ44.out; omega
                                              case rel => exact ⟨(wrap64 (x20_3 + 1)), (wrap64 (x21_3 + 1)), (by first | rfl | (simp; done) | (simp [*]; done)), (by first | rfl | (simp; done) | (simp [*]; done)), H', ⟨by have := HJ6.out; have := HK2.out; have := HK3.out; have := HJ32.out; have := HJ37.out; have := HJ44.out; omega⟩, ⟨by (with_reducible repeat (first | apply Kd.R_alloc | apply Kd.R_drewN | apply Kd.R_drew)); exact HO_15.out⟩, ⟨by (with_reducible repeat (first | apply Kd.R_alloc | apply Kd.R_drewN | apply Kd.R_drew)); exact HO_19.out⟩, ⟨by repeat (first | (with_reducible first | exact HB.out | apply below_alloc | apply pw_below_drewN | apply below_drew1) | exact HB.out)⟩⟩
                                            · rw [if_neg c50] at H
                                              have c50b0 : decide (0 < t174) = false := decide_eq_false c50
                                              clear c50
                                              have H' := Aside0.mk H
                                              clear H
                                              go_wp2_with (first | (go_at_call 18; (with_reducible refine (burst_In.calls kj44 _ _ t158 x23_44 (wrap64 ((wrap64 (a4)) + (wrap64 (a5)))) t174 _ ?side1 ?side2 A49.out).mono ?_); (case side1 => repeat (first | exact (Kd.R_reads' HO_15.out).2.2 | (with_reducible refine Kd.C_alloc ?_ _) | (with_reducible refine Kd.C_drewN ?_ _) | (with_reducible refine Kd.C_drew ?_))); (case side2 => exact (Kd.R_reads' HO_15.out).2.1); rintro e w' ⟨rfl, ⟨nd, rfl⟩⟩; (try first | exact ⟨rfl, _, World.drewN_drewN _ _ _⟩ | exact ⟨rfl, _, Eq.trans (World.drewN_drewN _ _ _) (congrArg (World.drewN _) (Nat.add_assoc _ _ _))⟩)))
                                              repeat (go_quiet (first | (go_at_call 18; (with_reducible refine (burst_In.calls kj44 _ _ t158 x23_44 (wrap64 ((wrap64 (a4)) + (wrap64 (a5)))) t174 _ ?side1 ?side2 A49.out).mono ?_); (case side1 => repeat (first | exact (Kd.R_reads' HO_15.out).2.2 | (with_reducible refine Kd.C_alloc ?_ _) | (with_reducible refine Kd.C_drewN ?_ _) | (with_reducible refine Kd.C_drew ?_))); (case side2 => exact (Kd.R_reads' HO_15.out).2.1); rintro e w' ⟨rfl, ⟨nd, rfl⟩⟩; (try first | exact ⟨rfl, _, World.drewN_drewN _ _ _⟩ | exact ⟨rfl, _, Eq.trans (World.drewN_drewN _ _ _) (congrArg (World.drewN _) (Nat.add_assoc _ _ _))⟩))); try go_wp2_with (first | (go_at_call 18; (with_reducible refine (burst_In.calls kj44 _ _ t158 x23_44 (wrap64 ((wrap64 (a4)) + (wrap64 (a5)))) t174 _ ?side1 ?side2 A49.out).mono ?_); (case side1 => repeat (first | exact (Kd.R_reads' HO_15.out).2.2 | (with_reducible refine Kd.C_alloc ?_ _) | (with_reducible refine Kd.C_drewN ?_ _) | (with_reducible refine Kd.C_drew ?_))); (case side2 => exact (Kd.R_reads' HO_15.out).2.1); rintro e w' ⟨rfl, ⟨nd, rfl⟩⟩; (try first | exact ⟨rfl, _, World.drewN_drewN _ _ _⟩ | exact ⟨rfl, _, Eq.trans (World.drewN_drewN _ _ _) (congrArg (World.drewN _) (Nat.add_assoc _ _ _))⟩))))
                                              go_roundg kj44
                                              case measure => have := HJ6.out; have := HK2.out; have := HK3.out; have := HJ32.out; have := HJ37.out; have := HJ44.out; omega
                                              case rel => exact ⟨(x20_3), (wrap64 (x21_3 + 1)), (by first | rfl | (simp; done) | (simp [*]; done)), (by first | rfl | (simp; done) | (simp [*]; done)), H', ⟨by have := HJ6.out; have := HK2.out; have := HK3.out; have := HJ32.out; have := HJ37.out; have := HJ44.out; omega⟩, ⟨by (with_reducible repeat (first | apply Kd.R_alloc | apply Kd.R_drewN | apply Kd.R_drew)); exact HO_15.out⟩, ⟨by (with_reducible repeat (first | apply Kd.R_alloc | apply Kd.R_drewN | apply Kd.R_drew)); exact HO_19.out⟩, ⟨by repeat (first | (with_reducible first | exact HB.out | apply below_alloc | apply pw_below_drewN | apply below_drew1) | exact HB.out)⟩⟩
                                          · rw [if_neg c48] at H
                                            have c48b0 : decide (x23_44 < (wrap64 ((wrap64 (a4)) + (wrap64 (a5))))) = false := decide_eq_false c48
                                            clear c48
                                            have H' := Aside0.mk H
                                            clear H
                                            go_wp2
                                            repeat (go_quiet (fail); try go_wp2)
                                            go_roundg kj44
                                            case measure => have := HJ6.out; have := HK2.out; have := HK3.out; have := HJ32.out; have := HJ37.out; have := HJ44.out; omega
                                            case rel => exact ⟨(x20_3), (wrap64 (x21_3 + 1)), (by first | rfl | (simp; done) | (simp [*]; done)), (by first | rfl | (simp; done) | (simp [*]; done)), H', ⟨by have := HJ6.out; have := HK2.out; have := HK3.out; have := HJ32.out; have := HJ37.out; have := HJ44.out; omega⟩, ⟨by (with_reducible repeat (first | apply Kd.R_alloc | apply Kd.R_drewN | apply Kd.R_drew)); exact HO_15.out⟩, ⟨by (with_reducible repeat (first | apply Kd.R_alloc | apply Kd.R_drewN | apply Kd.R_drew)); exact HO_19.out⟩, ⟨by repeat (first | (with_reducible first | exact HB.out | apply below_alloc | apply pw_below_drewN | apply below_drew1) | exact HB.out)⟩⟩
                                        · rw [if_neg c47] at H
                                          have c47b0 : decide ((wrap64 ((wrap64 (a4)) + (wrap64 (a5)))) < x22_37) = false := decide_eq_false c47
                                          clear c47
                                          by_cases c51 : x23_44 < x22_37
                                          · rw [if_pos c51] at H
                                            have c51b0 : decide (x23_44 < x22_37) = true := decide_eq_true c51
                                            clear c51
                                            replace H := Option.bind_eq_some_iff.mp H
                                            obtain ⟨t175, A520, H⟩ := H
                                            replace H : (if t175 > 0 then (pendulumlaw18_BurstMost.l1 kj44 a5 (wrap64 (1 + (wrap64 (Int.tmod a2 9)))) (wrap64 (1 + (wrap64 (a3)))) t158 (wrap64 (a4)) (wrap64 ((wrap64 (a4)) + (wrap64 (a5)))) t165 (wrap64 (x20_3 + 1)) (wrap64 (x21_3 + 1))) else (pendulumlaw18_BurstMost.l1 kj44 a5 (wrap64 (1 + (wrap64 (Int.tmod a2 9)))) (wrap64 (1 + (wrap64 (a3)))) t158 (wrap64 (a4)) (wrap64 ((wrap64 (a4)) + (wrap64 (a5)))) t165 x20_3 (wrap64 (x21_3 + 1)))) = some r := H
                                            have A52 := Aside0.mk A520
                                            clear A520
                                            by_cases c53 : t175 > 0
                                            · rw [if_pos c53] at H
                                              have c53b0 : decide (0 < t175) = true := decide_eq_true c53
                                              clear c53
                                              have H' := Aside0.mk H
                                              clear H
                                              go_wp2_with (first | (go_at_call 18; (with_reducible refine (burst_In.calls kj44 _ _ t158 x23_44 x22_37 t175 _ ?side1 ?side2 A52.out).mono ?_); (case side1 => repeat (first | exact (Kd.R_reads' HO_15.out).2.2 | (with_reducible refine Kd.C_alloc ?_ _) | (with_reducible refine Kd.C_drewN ?_ _) | (with_reducible refine Kd.C_drew ?_))); (case side2 => exact (Kd.R_reads' HO_15.out).2.1); rintro e w' ⟨rfl, ⟨nd, rfl⟩⟩; (try first | exact ⟨rfl, _, World.drewN_drewN _ _ _⟩ | exact ⟨rfl, _, Eq.trans (World.drewN_drewN _ _ _) (congrArg (World.drewN _) (Nat.add_assoc _ _ _))⟩)))
                                              repeat (go_quiet (first | (go_at_call 18; (with_reducible refine (burst_In.calls kj44 _ _ t158 x23_44 x22_37 t175 _ ?side1 ?side2 A52.out).mono ?_); (case side1 => repeat (first | exact (Kd.R_reads' HO_15.out).2.2 | (with_reducible refine Kd.C_alloc ?_ _) | (with_reducible refine Kd.C_drewN ?_ _) | (with_reducible refine Kd.C_drew ?_))); (case side2 => exact (Kd.R_reads' HO_15.out).2.1); rintro e w' ⟨rfl, ⟨nd, rfl⟩⟩; (try first | exact ⟨rfl, _, World.drewN_drewN _ _ _⟩ | exact ⟨rfl, _, Eq.trans (World.drewN_drewN _ _ _) (congrArg (World.drewN _) (Nat.add_assoc _ _ _))⟩))); try go_wp2_with (first | (go_at_call 18; (with_reducible refine (burst_In.calls kj44 _ _ t158 x23_44 x22_37 t175 _ ?side1 ?side2 A52.out).mono ?_); (case side1 => repeat (first | exact (Kd.R_reads' HO_15.out).2.2 | (with_reducible refine Kd.C_alloc ?_ _) | (with_reducible refine Kd.C_drewN ?_ _) | (with_reducible refine Kd.C_drew ?_))); (case side2 => exact (Kd.R_reads' HO_15.out).2.1); rintro e w' ⟨rfl, ⟨nd, rfl⟩⟩; (try first | exact ⟨rfl, _, World.drewN_drewN _ _ _⟩ | exact ⟨rfl, _, Eq.trans (World.drewN_drewN _ _ _) (congrArg (World.drewN _) (Nat.add_assoc _ _ _))⟩))))
                                              go_roundg kj44
                                              case measure => have := HJ6.out; have := HK2.out; have := HK3.out; have := HJ32.out; have := HJ37.out; have := HJ44.out; omega
                                              case rel => exact ⟨(wrap64 (x20_3 + 1)), (wrap64 (x21_3 + 1)), (by first | rfl | (simp; done) | (simp [*]; done)), (by first | rfl | (simp; done) | (simp [*]; done)), H', ⟨by have := HJ6.out; have := HK2.out; have := HK3.out; have := HJ32.out; have := HJ37.out; have := HJ44.out; omega⟩, ⟨by (with_reducible repeat (first | apply Kd.R_alloc | apply Kd.R_drewN | apply Kd.R_drew)); exact HO_15.out⟩, ⟨by (with_reducible repeat (first | apply Kd.R_alloc | apply Kd.R_drewN | apply Kd.R_drew)); exact HO_19.out⟩, ⟨by repeat (first | (with_reducible first | exact HB.out | apply below_alloc | apply pw_below_drewN | apply below_drew1) | exact HB.out)⟩⟩
                                            · rw [if_neg c53] at H
                                              have c53b0 : decide (0 < t175) = false := decide_eq_false c53
                                              clear c53
                                              have H' := Aside0.mk H
                                              clear H
                                              go_wp2_with (first | (go_at_call 18; (with_reducible refine (burst_In.calls kj44 _ _ t158 x23_44 x22_37 t175 _ ?side1 ?side2 A52.out).mono ?_); (case side1 => repeat (first | exact (Kd.R_reads' HO_15.out).2.2 | (with_reducible refine Kd.C_alloc ?_ _) | (with_reducible refine Kd.C_drewN ?_ _) | (with_reducible refine Kd.C_drew ?_))); (case side2 => exact (Kd.R_reads' HO_15.out).2.1); rintro e w' ⟨rfl, ⟨nd, rfl⟩⟩; (try first | exact ⟨rfl, _, World.drewN_drewN _ _ _⟩ | exact ⟨rfl, _, Eq.trans (World.drewN_drewN _ _ _) (congrArg (World.drewN _) (Nat.add_assoc _ _ _))⟩)))
                                              repeat (go_quiet (first | (go_at_call 18; (with_reducible refine (burst_In.calls kj44 _ _ t158 x23_44 x22_37 t175 _ ?side1 ?side2 A52.out).mono ?_); (case side1 => repeat (first | exact (Kd.R_reads' HO_15.out).2.2 | (with_reducible refine Kd.C_alloc ?_ _) | (with_reducible refine Kd.C_drewN ?_ _) | (with_reducible refine Kd.C_drew ?_))); (case side2 => exact (Kd.R_reads' HO_15.out).2.1); rintro e w' ⟨rfl, ⟨nd, rfl⟩⟩; (try first | exact ⟨rfl, _, World.drewN_drewN _ _ _⟩ | exact ⟨rfl, _, Eq.trans (World.drewN_drewN _ _ _) (congrArg (World.drewN _) (Nat.add_assoc _ _ _))⟩))); try go_wp2_with (first | (go_at_call 18; (with_reducible refine (burst_In.calls kj44 _ _ t158 x23_44 x22_37 t175 _ ?side1 ?side2 A52.out).mono ?_); (case side1 => repeat (first | exact (Kd.R_reads' HO_15.out).2.2 | (with_reducible refine Kd.C_alloc ?_ _) | (with_reducible refine Kd.C_drewN ?_ _) | (with_reducible refine Kd.C_drew ?_))); (case side2 => exact (Kd.R_reads' HO_15.out).2.1); rintro e w' ⟨rfl, ⟨nd, rfl⟩⟩; (try first | exact ⟨rfl, _, World.drewN_drewN _ _ _⟩ | exact ⟨rfl, _, Eq.trans (World.drewN_drewN _ _ _) (congrArg (World.drewN _) (Nat.add_assoc _ _ _))⟩))))
                                              go_roundg kj44
                                              case measure => have := HJ6.out; have := HK2.out; have := HK3.out; have := HJ32.out; have := HJ37.out; have := HJ44.out; omega
                                              case rel => exact ⟨(x20_3), (wrap64 (x21_3 + 1)), (by first | rfl | (simp; done) | (simp [*]; done)), (by first | rfl | (simp; done) | (simp [*]; done)), H', ⟨by have := HJ6.out; have := HK2.out; have := HK3.out; have := HJ32.out; have := HJ37.out; have := HJ44.out; omega⟩, ⟨by (with_reducible repeat (first | apply Kd.R_alloc | apply Kd.R_drewN | apply Kd.R_drew)); exact HO_15.out⟩, ⟨by (with_reducible repeat (first | apply Kd.R_alloc | apply Kd.R_drewN | apply Kd.R_drew)); exact HO_19.out⟩, ⟨by repeat (first | (with_reducible first | exact HB.out | apply below_alloc | apply pw_below_drewN | apply below_drew1) | exact HB.out)⟩⟩
                                          · rw [if_neg c51] at H
                                            have c51b0 : decide (x23_44 < x22_37) = false := decide_eq_false c51
                                            clear c51
                                            have H' := Aside0.mk H
                                            clear H
                                            go_wp2
                                            repeat (go_quiet (fail); try go_wp2)
                                            go_roundg kj44
                                            case measure => have := HJ6.out; have := HK2.out; have := HK3.out; have := HJ32.out; have := HJ37.out; have := HJ44.out; omega
                                            case rel => exact ⟨(x20_3), (wrap64 (x21_3 + 1)), (by first | rfl | (simp; done) | (simp [*]; done)), (by first | rfl | (simp; done) | (simp [*]; done)), H', ⟨by have := HJ6.out; have := HK2.out; have := HK3.out; have := HJ32.out; have := HJ37.out; have := HJ44.out; omega⟩, ⟨by (with_reducible repeat (first | apply Kd.R_alloc | apply Kd.R_drewN | apply Kd.R_drew)); exact HO_15.out⟩, ⟨by (with_reducible repeat (first | apply Kd.R_alloc | apply Kd.R_drewN | apply Kd.R_drew)); exact HO_19.out⟩, ⟨by repeat (first | (with_reducible first | exact HB.out | apply below_alloc | apply pw_below_drewN | apply below_drew1) | exact HB.out)⟩⟩
                                  · rw [if_neg c44] at H
                                    exact absurd H (by simp)
                                · rw [if_neg c43] at H
                                  exact absurd H (by simp)
                      · rw [if_neg c32] at H
                        exact absurd H (by simp)
                    · rw [if_neg c31] at H
                      have c31b0 : decide (x21_3 < (t165.length : Int)) = false := decide_eq_false c31
                      clear c31
                      replace H := Option.bind_eq_some_iff.mp H
                      obtain ⟨t168, A540, H⟩ := H
                      replace H : (if x20_3 ≤ t168 then ((burst_In.f k3 t158 (wrap64 (a4)) (wrap64 ((wrap64 (a4)) + (wrap64 (a5))))).bind fun t169 => (some (decide (t169 ≤ (wrap64 ((wrap64 (1 + (wrap64 (Int.tmod a2 9)))) * t168)))))) else (some false)) = some r := H
                      have A54 := Aside0.mk A540
                      clear A540
                      by_cases c55 : x20_3 ≤ t168
                      · rw [if_pos c55] at H
                        have c55b0 : decide (x20_3 ≤ t168) = true := decide_eq_true c55
                        clear c55
                        replace H := Option.bind_eq_some_iff.mp H
                        obtain ⟨t169, A560, H⟩ := H
                        replace H : (some (decide (t169 ≤ (wrap64 ((wrap64 (1 + (wrap64 (Int.tmod a2 9)))) * t168))))) = some r := H
                        have A56 := Aside0.mk A560
                        clear A560
                        obtain rfl := Option.some.inj H
                        obtain ⟨Ao57, co57, eo57⟩ := Kd.R_slice HO_19.out
                        subst eo57
                        go_wp2_with (first | (go_at_call 19; (with_reducible refine (burst_Most.calls k3 (wrap64 (a5)) (wrap64 (1 + (wrap64 (Int.tmod a2 9)))) (wrap64 (1 + (wrap64 (a3)))) t168 _ A54.out).mono ?_); rintro e w' ⟨rfl, ⟨nd, rfl⟩⟩; (try first | exact ⟨rfl, _, World.drewN_drewN _ _ _⟩ | exact ⟨rfl, _, Eq.trans (World.drewN_drewN _ _ _) (congrArg (World.drewN _) (Nat.add_assoc _ _ _))⟩)) | (go_at_call 18; (with_reducible refine (burst_In.calls k3 _ _ t158 (wrap64 (a4)) (wrap64 ((wrap64 (a4)) + (wrap64 (a5)))) t169 _ ?side1 ?side2 A56.out).mono ?_); (case side1 => repeat (first | exact (Kd.R_reads' HO_15.out).2.2 | (with_reducible refine Kd.C_alloc ?_ _) | (with_reducible refine Kd.C_drewN ?_ _) | (with_reducible refine Kd.C_drew ?_))); (case side2 => exact (Kd.R_reads' HO_15.out).2.1); rintro e w' ⟨rfl, ⟨nd, rfl⟩⟩; (try first | exact ⟨rfl, _, World.drewN_drewN _ _ _⟩ | exact ⟨rfl, _, Eq.trans (World.drewN_drewN _ _ _) (congrArg (World.drewN _) (Nat.add_assoc _ _ _))⟩)))
                        repeat (go_quiet (first | (go_at_call 19; (with_reducible refine (burst_Most.calls k3 (wrap64 (a5)) (wrap64 (1 + (wrap64 (Int.tmod a2 9)))) (wrap64 (1 + (wrap64 (a3)))) t168 _ A54.out).mono ?_); rintro e w' ⟨rfl, ⟨nd, rfl⟩⟩; (try first | exact ⟨rfl, _, World.drewN_drewN _ _ _⟩ | exact ⟨rfl, _, Eq.trans (World.drewN_drewN _ _ _) (congrArg (World.drewN _) (Nat.add_assoc _ _ _))⟩)) | (go_at_call 18; (with_reducible refine (burst_In.calls k3 _ _ t158 (wrap64 (a4)) (wrap64 ((wrap64 (a4)) + (wrap64 (a5)))) t169 _ ?side1 ?side2 A56.out).mono ?_); (case side1 => repeat (first | exact (Kd.R_reads' HO_15.out).2.2 | (with_reducible refine Kd.C_alloc ?_ _) | (with_reducible refine Kd.C_drewN ?_ _) | (with_reducible refine Kd.C_drew ?_))); (case side2 => exact (Kd.R_reads' HO_15.out).2.1); rintro e w' ⟨rfl, ⟨nd, rfl⟩⟩; (try first | exact ⟨rfl, _, World.drewN_drewN _ _ _⟩ | exact ⟨rfl, _, Eq.trans (World.drewN_drewN _ _ _) (congrArg (World.drewN _) (Nat.add_assoc _ _ _))⟩))); try go_wp2_with (first | (go_at_call 19; (with_reducible refine (burst_Most.calls k3 (wrap64 (a5)) (wrap64 (1 + (wrap64 (Int.tmod a2 9)))) (wrap64 (1 + (wrap64 (a3)))) t168 _ A54.out).mono ?_); rintro e w' ⟨rfl, ⟨nd, rfl⟩⟩; (try first | exact ⟨rfl, _, World.drewN_drewN _ _ _⟩ | exact ⟨rfl, _, Eq.trans (World.drewN_drewN _ _ _) (congrArg (World.drewN _) (Nat.add_assoc _ _ _))⟩)) | (go_at_call 18; (with_reducible refine (burst_In.calls k3 _ _ t158 (wrap64 (a4)) (wrap64 ((wrap64 (a4)) + (wrap64 (a5)))) t169 _ ?side1 ?side2 A56.out).mono ?_); (case side1 => repeat (first | exact (Kd.R_reads' HO_15.out).2.2 | (with_reducible refine Kd.C_alloc ?_ _) | (with_reducible refine Kd.C_drewN ?_ _) | (with_reducible refine Kd.C_drew ?_))); (case side2 => exact (Kd.R_reads' HO_15.out).2.1); rintro e w' ⟨rfl, ⟨nd, rfl⟩⟩; (try first | exact ⟨rfl, _, World.drewN_drewN _ _ _⟩ | exact ⟨rfl, _, Eq.trans (World.drewN_drewN _ _ _) (congrArg (World.drewN _) (Nat.add_assoc _ _ _))⟩))))
                        go_ret
                        exact ⟨by first | rfl | (simp [errW_none, errW_some] <;> rfl) | (simp [*, errW_none, errW_some] <;> rfl), by repeat (first | (with_reducible first | exact HB.out | apply below_alloc | apply pw_below_drewN | apply below_drew1) | exact HB.out)⟩
                      · rw [if_neg c55] at H
                        have c55b0 : decide (x20_3 ≤ t168) = false := decide_eq_false c55
                        clear c55
                        obtain rfl := Option.some.inj H
                        obtain ⟨Ao58, co58, eo58⟩ := Kd.R_slice HO_19.out
                        subst eo58
                        go_wp2_with (first | (go_at_call 19; (with_reducible refine (burst_Most.calls k3 (wrap64 (a5)) (wrap64 (1 + (wrap64 (Int.tmod a2 9)))) (wrap64 (1 + (wrap64 (a3)))) t168 _ A54.out).mono ?_); rintro e w' ⟨rfl, ⟨nd, rfl⟩⟩; (try first | exact ⟨rfl, _, World.drewN_drewN _ _ _⟩ | exact ⟨rfl, _, Eq.trans (World.drewN_drewN _ _ _) (congrArg (World.drewN _) (Nat.add_assoc _ _ _))⟩)))
                        repeat (go_quiet (first | (go_at_call 19; (with_reducible refine (burst_Most.calls k3 (wrap64 (a5)) (wrap64 (1 + (wrap64 (Int.tmod a2 9)))) (wrap64 (1 + (wrap64 (a3)))) t168 _ A54.out).mono ?_); rintro e w' ⟨rfl, ⟨nd, rfl⟩⟩; (try first | exact ⟨rfl, _, World.drewN_drewN _ _ _⟩ | exact ⟨rfl, _, Eq.trans (World.drewN_drewN _ _ _) (congrArg (World.drewN _) (Nat.add_assoc _ _ _))⟩))); try go_wp2_with (first | (go_at_call 19; (with_reducible refine (burst_Most.calls k3 (wrap64 (a5)) (wrap64 (1 + (wrap64 (Int.tmod a2 9)))) (wrap64 (1 + (wrap64 (a3)))) t168 _ A54.out).mono ?_); rintro e w' ⟨rfl, ⟨nd, rfl⟩⟩; (try first | exact ⟨rfl, _, World.drewN_drewN _ _ _⟩ | exact ⟨rfl, _, Eq.trans (World.drewN_drewN _ _ _) (congrArg (World.drewN _) (Nat.add_assoc _ _ _))⟩))))
                        go_ret
                        exact ⟨by first | rfl | (simp [errW_none, errW_some] <;> rfl) | (simp [*, errW_none, errW_some] <;> rfl), by repeat (first | (with_reducible first | exact HB.out | apply below_alloc | apply pw_below_drewN | apply below_drew1) | exact HB.out)⟩
              · replace c26 := Bool.eq_false_iff.mpr c26
                subst c26
                have H1 : ((pendulumref18_Legal.f k2 t158 (wrap64 (1 + (wrap64 (Int.tmod a2 9)))) (wrap64 (1 + (wrap64 (a3))))).bind fun t164 => (some (!t164))) = some r := by rw [if_neg (show ¬ (false = true) by decide)] at H; exact H
                clear H
                have H := H1
                clear H1
                replace H := Option.bind_eq_some_iff.mp H
                obtain ⟨t164, A590, H⟩ := H
                replace H : (some (!t164)) = some r := H
                have A59 := Aside0.mk A590
                clear A590
                obtain rfl := Option.some.inj H
                obtain ⟨Ao60, co60, eo60⟩ := Kd.R_slice HO_15.out
                subst eo60
                go_wp2_with (first | (go_at_call 16; (with_reducible refine (burst_Legal.calls k2 _ _ t158 (wrap64 (1 + (wrap64 (Int.tmod a2 9)))) (wrap64 (1 + (wrap64 (a3)))) false _ ?side1 ?side2 A25.out).mono ?_); (case side1 => repeat (first | exact (Kd.R_reads' HO_15.out).2.2 | (with_reducible refine Kd.C_alloc ?_ _) | (with_reducible refine Kd.C_drewN ?_ _) | (with_reducible refine Kd.C_drew ?_))); (case side2 => exact (Kd.R_reads' HO_15.out).2.1); rintro e w61 ⟨rfl, hb⟩; have n0_ := Aside0.mk (Kd.R_below (by (with_reducible repeat (first | apply Kd.R_alloc | apply Kd.R_drewN | apply Kd.R_drew)); exact HO_15.out) hb); have n1_ := Aside0.mk (below_step (by repeat (first | (with_reducible first | exact HB.out | apply below_alloc | apply pw_below_drewN | apply below_drew1) | exact HB.out)) hb); clear HO_15; clear HB; have HO_15 := n0_; have HB := n1_; clear n0_ n1_; (try clear hb); (try clear hb2); (try clear hk); (try clear hi)) | (go_at_call 17; (with_reducible refine (pendulumref18_Legal.calls k2 _ _ t158 (wrap64 (1 + (wrap64 (Int.tmod a2 9)))) (wrap64 (1 + (wrap64 (a3)))) t164 _ ?side1 ?side2 A59.out).mono ?_); (case side1 => repeat (first | exact (Kd.R_reads' HO_15.out).2.2 | (with_reducible refine Kd.C_alloc ?_ _) | (with_reducible refine Kd.C_drewN ?_ _) | (with_reducible refine Kd.C_drew ?_))); (case side2 => exact (Kd.R_reads' HO_15.out).2.1); rintro e w62 ⟨rfl, hb⟩; have n0_ := Aside0.mk (Kd.R_below (by (with_reducible repeat (first | apply Kd.R_alloc | apply Kd.R_drewN | apply Kd.R_drew)); exact HO_15.out) hb); have n1_ := Aside0.mk (below_step (by repeat (first | (with_reducible first | exact HB.out | apply below_alloc | apply pw_below_drewN | apply below_drew1) | exact HB.out)) hb); clear HO_15; clear HB; have HO_15 := n0_; have HB := n1_; clear n0_ n1_; (try clear hb); (try clear hb2); (try clear hk); (try clear hi)))
                repeat (go_quiet (first | (go_at_call 16; (with_reducible refine (burst_Legal.calls k2 _ _ t158 (wrap64 (1 + (wrap64 (Int.tmod a2 9)))) (wrap64 (1 + (wrap64 (a3)))) false _ ?side1 ?side2 A25.out).mono ?_); (case side1 => repeat (first | exact (Kd.R_reads' HO_15.out).2.2 | (with_reducible refine Kd.C_alloc ?_ _) | (with_reducible refine Kd.C_drewN ?_ _) | (with_reducible refine Kd.C_drew ?_))); (case side2 => exact (Kd.R_reads' HO_15.out).2.1); rintro e w61 ⟨rfl, hb⟩; have n0_ := Aside0.mk (Kd.R_below (by (with_reducible repeat (first | apply Kd.R_alloc | apply Kd.R_drewN | apply Kd.R_drew)); exact HO_15.out) hb); have n1_ := Aside0.mk (below_step (by repeat (first | (with_reducible first | exact HB.out | apply below_alloc | apply pw_below_drewN | apply below_drew1) | exact HB.out)) hb); clear HO_15; clear HB; have HO_15 := n0_; have HB := n1_; clear n0_ n1_; (try clear hb); (try clear hb2); (try clear hk); (try clear hi)) | (go_at_call 17; (with_reducible refine (pendulumref18_Legal.calls k2 _ _ t158 (wrap64 (1 + (wrap64 (Int.tmod a2 9)))) (wrap64 (1 + (wrap64 (a3)))) t164 _ ?side1 ?side2 A59.out).mono ?_); (case side1 => repeat (first | exact (Kd.R_reads' HO_15.out).2.2 | (with_reducible refine Kd.C_alloc ?_ _) | (with_reducible refine Kd.C_drewN ?_ _) | (with_reducible refine Kd.C_drew ?_))); (case side2 => exact (Kd.R_reads' HO_15.out).2.1); rintro e w62 ⟨rfl, hb⟩; have n0_ := Aside0.mk (Kd.R_below (by (with_reducible repeat (first | apply Kd.R_alloc | apply Kd.R_drewN | apply Kd.R_drew)); exact HO_15.out) hb); have n1_ := Aside0.mk (below_step (by repeat (first | (with_reducible first | exact HB.out | apply below_alloc | apply pw_below_drewN | apply below_drew1) | exact HB.out)) hb); clear HO_15; clear HB; have HO_15 := n0_; have HB := n1_; clear n0_ n1_; (try clear hb); (try clear hb2); (try clear hk); (try clear hi))); try go_wp2_with (first | (go_at_call 16; (with_reducible refine (burst_Legal.calls k2 _ _ t158 (wrap64 (1 + (wrap64 (Int.tmod a2 9)))) (wrap64 (1 + (wrap64 (a3)))) false _ ?side1 ?side2 A25.out).mono ?_); (case side1 => repeat (first | exact (Kd.R_reads' HO_15.out).2.2 | (with_reducible refine Kd.C_alloc ?_ _) | (with_reducible refine Kd.C_drewN ?_ _) | (with_reducible refine Kd.C_drew ?_))); (case side2 => exact (Kd.R_reads' HO_15.out).2.1); rintro e w61 ⟨rfl, hb⟩; have n0_ := Aside0.mk (Kd.R_below (by (with_reducible repeat (first | apply Kd.R_alloc | apply Kd.R_drewN | apply Kd.R_drew)); exact HO_15.out) hb); have n1_ := Aside0.mk (below_step (by repeat (first | (with_reducible first | exact HB.out | apply below_alloc | apply pw_below_drewN | apply below_drew1) | exact HB.out)) hb); clear HO_15; clear HB; have HO_15 := n0_; have HB := n1_; clear n0_ n1_; (try clear hb); (try clear hb2); (try clear hk); (try clear hi)) | (go_at_call 17; (with_reducible refine (pendulumref18_Legal.calls k2 _ _ t158 (wrap64 (1 + (wrap64 (Int.tmod a2 9)))) (wrap64 (1 + (wrap64 (a3)))) t164 _ ?side1 ?side2 A59.out).mono ?_); (case side1 => repeat (first | exact (Kd.R_reads' HO_15.out).2.2 | (with_reducible refine Kd.C_alloc ?_ _) | (with_reducible refine Kd.C_drewN ?_ _) | (with_reducible refine Kd.C_drew ?_))); (case side2 => exact (Kd.R_reads' HO_15.out).2.1); rintro e w62 ⟨rfl, hb⟩; have n0_ := Aside0.mk (Kd.R_below (by (with_reducible repeat (first | apply Kd.R_alloc | apply Kd.R_drewN | apply Kd.R_drew)); exact HO_15.out) hb); have n1_ := Aside0.mk (below_step (by repeat (first | (with_reducible first | exact HB.out | apply below_alloc | apply pw_below_drewN | apply below_drew1) | exact HB.out)) hb); clear HO_15; clear HB; have HO_15 := n0_; have HB := n1_; clear n0_ n1_; (try clear hb); (try clear hb2); (try clear hk); (try clear hi))))
                go_ret
                exact ⟨by first | rfl | (simp [errW_none, errW_some] <;> rfl) | (simp [*, errW_none, errW_some] <;> rfl), by repeat (first | (with_reducible first | exact HB.out | apply below_alloc | apply pw_below_drewN | apply below_drew1) | exact HB.out)⟩

/-- THE ONE PURE STATEMENT of pendulumlaw18_BurstMost: yours. -/
def pendulumlaw18_BurstMost.Pure : Prop := ∀ (l0 : List Int) (l1 : List Int) (a2 : Int) (a3 : Int) (a4 : Int) (a5 : Int), l0.length ≤ maxLen → l0.length * 1 ≤ 140737488351232 → (∀ x ∈ l0, (Lit.int .u8 x).wf = true) → l1.length ≤ maxLen → l1.length * 1 ≤ 140737488351232 → (∀ x ∈ l1, (Lit.int .u8 x).wf = true) → (Lit.int .u8 a2).wf = true → (Lit.int .u8 a3).wf = true → (Lit.int .u16 a4).wf = true → (Lit.int .u16 a5).wf = true → ∃ k, pendulumlaw18_BurstMost.f k l0 l1 a2 a3 a4 a5 = some true
theorem pendulumlaw18_BurstMost.walk (P : pendulumlaw18_BurstMost.Pure) (a0 : Option Addr) (len0 cap0 : Nat) (z0 : List Int) (a1 : Option Addr) (len1 cap1 : Nat) (z1 : List Int) (a2 : Int) (a3 : Int) (a4 : Int) (a5 : Int) (w : World) (w0 : (a0 = none ∧ len0 = 0 ∧ cap0 = 0 ∧ z0 = []) ∨ ∃ x, a0 = some x ∧ len0 ≤ cap0 ∧ cap0 ≤ maxLen ∧ z0.length = cap0 ∧ (∀ i, i < z0.length → w.cell? (x.add i) = some (.int .u8 (z0.getD i 0))) ∧ ∀ n ∈ z0, (Lit.int .u8 n).wf = true) (y0 : len0 * 1 ≤ 140737488351232) (w1 : (a1 = none ∧ len1 = 0 ∧ cap1 = 0 ∧ z1 = []) ∨ ∃ x, a1 = some x ∧ len1 ≤ cap1 ∧ cap1 ≤ maxLen ∧ z1.length = cap1 ∧ (∀ i, i < z1.length → w.cell? (x.add i) = some (.int .u8 (z1.getD i 0))) ∧ ∀ n ∈ z1, (Lit.int .u8 n).wf = true) (y1 : len1 * 1 ≤ 140737488351232) (w2 : (Lit.int .u8 a2).wf = true) (w3 : (Lit.int .u8 a3).wf = true) (w4 : (Lit.int .u16 a4).wf = true) (w5 : (Lit.int .u16 a5).wf = true) :
    Calls Try.prog 5 #[.slice a0 len0 cap0, .slice a1 len1 cap1, .int .u8 a2, .int .u8 a3, .int .u16 a4, .int .u16 a5] w fun e w' => e = .returned (.bool true) ∧ Below w.heap.size w w' := by
  obtain ⟨l0, rfl, hr0, hm0, hw0, hc0⟩ := ReadsInt.ofRowC w0
  obtain ⟨l1, rfl, hr1, hm1, hw1, hc1⟩ := ReadsInt.ofRowC w1
  obtain ⟨k, h⟩ := P l0 l1 a2 a3 a4 a5 hm0 y0 hw0 hm1 y1 hw1 w2 w3 w4 w5
  refine (pendulumlaw18_BurstMost.calls k _ _ l0 _ _ l1 a2 a3 a4 a5 true w (Kd.C_of_reads (d := (0 : Int)) (h1 := fun _ => rfl) hr0) hc0 (Kd.C_of_reads (d := (0 : Int)) (h1 := fun _ => rfl) hr1) hc1 h).mono ?_
  rintro e w' ⟨rfl, hd⟩
  exact ⟨rfl, hd⟩

end Go.Proofs.Ytppmgpicommdlaa.PBurstMost
