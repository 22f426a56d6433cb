/- Written by wip/pr2, a program of this session. -/
import Derived.Test.YtejndaljfbclnaaDoorQFnNumbersx0
import Derived.Test.YtejndaljfbclnaaDoorQFnNumbersx1
import Derived.Test.YtejndaljfbclnaaDoorLim
namespace Go.Proofs.YtejndaljfbclnaaDoor.QFnNumbers
open Go.RowKit Go.Proofs.YtejndaljfbclnaaDoorW.PrintWords Go.Proofs.YtejndaljfbclnaaDoorW.PrintLast Go.Proofs.YtejndaljfbclnaaDoorW.PrintMore
attribute [local go_sem] max2_int min2_int max_two min_two max_three min_three max_four min_four   -- for this text's walks alone
set_option linter.unusedVariables false
set_option linter.unusedSimpArgs false
set_option maxHeartbeats 8000000

open Go.Proofs.YtejndaljfbclnaaDoorW.Lims
/-! ### spec_DecFront -/
mutual
def spec_DecFront.j1 : Nat → ByteArray → Int → Option (Int × Int)
  | 0, _, _ => none
  | k + 1, x0, x4 => if x4 < (x0.size : Int) then (if 0 ≤ x4 then (spec_DecFront.j2 k x0 x4 ((bt x0 x4) == 45)) else (none)) else (spec_DecFront.j2 k x0 x4 false)
def spec_DecFront.j2 : Nat → ByteArray → Int → Bool → Option (Int × Int)
  | 0, _, _, _ => none
  | k + 1, x0, x4, x5 => if x4 < (x0.size : Int) then (if 0 ≤ x4 then (if (bt x0 x4) = 45 then (spec_DecFront.j3 k x0 x4 x5 true) else (spec_DecFront.j3 k x0 x4 x5 ((bt x0 x4) == 43))) else (none)) else (spec_DecFront.j3 k x0 x4 x5 false)
def spec_DecFront.j3 : Nat → ByteArray → Int → Bool → Bool → Option (Int × Int)
  | 0, _, _, _, _ => none
  | k + 1, x0, x4, x5, x46 => if x46 = true then (spec_DecFront.j4 k x0 (wrap64 (x4 + 1)) x5) else (spec_DecFront.j4 k x0 x4 x5)
def spec_DecFront.j4 : Nat → ByteArray → Int → Bool → Option (Int × Int)
  | 0, _, _, _ => none
  | k + 1, x0, x4, x5 => spec_DecFront.l1 k x0 x4 x5 0 0
def spec_DecFront.l1 : Nat → ByteArray → Int → Bool → Int → Int → Option (Int × Int)
  | 0, _, _, _, _, _ => none
  | k + 1, x0, x4, x5, x6, x7 => if x4 < (x0.size : Int) then (if 0 ≤ x4 then ((spec_l2Digit.f (bt x0 x4)).bind fun t224 => (spec_DecFront.j6 k x0 x4 x5 x6 x7 t224)) else (none)) else (spec_DecFront.j6 k x0 x4 x5 x6 x7 false)
def spec_DecFront.j6 : Nat → ByteArray → Int → Bool → Int → Int → Bool → Option (Int × Int)
  | 0, _, _, _, _, _, _ => none
  | k + 1, x0, x4, x5, x6, x7, x58 => if x58 = true then (if x6 ≤ 9000000000000 then (if 0 ≤ x4 then (if x4 < (x0.size : Int) then (spec_DecFront.l1 k x0 (wrap64 (x4 + 1)) x5 (wrap64 ((wrap64 (10 * x6)) + (wrap64 ((wrap64 ((wrap64 (bt x0 x4)) - 48)) * 1000000)))) (wrap64 (x7 + 1))) else (none)) else (none)) else (spec_DecFront.l1 k x0 (wrap64 (x4 + 1)) x5 x6 (wrap64 (x7 + 1)))) else (if (wrap64 (x4 + 1)) < (x0.size : Int) then (if 0 ≤ x4 then (if x4 < (x0.size : Int) then (if (bt x0 x4) = 46 then (if 0 ≤ (wrap64 (x4 + 1)) then ((spec_l2Digit.f (bt x0 (wrap64 (x4 + 1)))).bind fun t225 => (spec_DecFront.j7 k x0 x4 x5 x6 x7 t225)) else (none)) else (spec_DecFront.j7 k x0 x4 x5 x6 x7 false)) else (none)) else (none)) else (spec_DecFront.j7 k x0 x4 x5 x6 x7 false))
def spec_DecFront.j7 : Nat → ByteArray → Int → Bool → Int → Int → Bool → Option (Int × Int)
  | 0, _, _, _, _, _, _ => none
  | k + 1, x0, x4, x5, x6, x7, x91 => if x91 = true then (spec_DecFront.l2 k x0 (wrap64 (x4 + 1)) x5 x6 x7 100000) else (spec_DecFront.j9 k x4 x5 x6 x7)
def spec_DecFront.j9 : Nat → Int → Bool → Int → Int → Option (Int × Int)
  | 0, _, _, _, _ => none
  | k + 1, x4, x5, x6, x7 => if x7 = 0 then (spec_DecFront.j10 k x4 x5 x6 true) else (spec_DecFront.j10 k x4 x5 x6 (decide (x6 > 9000000000000)))
def spec_DecFront.j10 : Nat → Int → Bool → Int → Bool → Option (Int × Int)
  | 0, _, _, _, _ => none
  | k + 1, x4, x5, x6, x124 => if x124 = true then (some (0, 0)) else (if x5 = true then (some (wrap64 (-x6), x4)) else (some (x6, x4)))
def spec_DecFront.l2 : Nat → ByteArray → Int → Bool → Int → Int → Int → Option (Int × Int)
  | 0, _, _, _, _, _, _ => none
  | k + 1, x0, x4, x5, x6, x7, x8 => if x4 < (x0.size : Int) then (if 0 ≤ x4 then ((spec_l2Digit.f (bt x0 x4)).bind fun t226 => (if t226 = true then (spec_DecFront.l2 k x0 (wrap64 (x4 + 1)) x5 (wrap64 (x6 + (wrap64 ((wrap64 ((wrap64 (bt x0 x4)) - 48)) * x8)))) (wrap64 (x7 + 1)) (wrap64 (Int.tdiv x8 10))) else (spec_DecFront.j9 k x4 x5 x6 x7))) else (none)) else (spec_DecFront.j9 k x4 x5 x6 x7)
def spec_DecFront.l0 : Nat → ByteArray → Int → Option (Int × Int)
  | 0, _, _ => none
  | k + 1, x0, x4 => if x4 < (x0.size : Int) then (if 0 ≤ x4 then (if (bt x0 x4) = 32 then (spec_DecFront.l0 k x0 (wrap64 (x4 + 1))) else (spec_DecFront.j1 k x0 x4)) else (none)) else (spec_DecFront.j1 k x0 x4)
end
def spec_DecFront.f (k : Nat) (a0 : ByteArray) : Option (Int × Int) := spec_DecFront.l0 k a0 0
theorem spec_DecFront.mono_l : ∀ k, (∀ y0 y1, LeO (spec_DecFront.j1 k y0 y1) (spec_DecFront.j1 (k + 1) y0 y1)) ∧ (∀ y0 y1 y2, LeO (spec_DecFront.j2 k y0 y1 y2) (spec_DecFront.j2 (k + 1) y0 y1 y2)) ∧ (∀ y0 y1 y2 y3, LeO (spec_DecFront.j3 k y0 y1 y2 y3) (spec_DecFront.j3 (k + 1) y0 y1 y2 y3)) ∧ (∀ y0 y1 y2, LeO (spec_DecFront.j4 k y0 y1 y2) (spec_DecFront.j4 (k + 1) y0 y1 y2)) ∧ (∀ y0 y1 y2 y3 y4, LeO (spec_DecFront.l1 k y0 y1 y2 y3 y4) (spec_DecFront.l1 (k + 1) y0 y1 y2 y3 y4)) ∧ (∀ y0 y1 y2 y3 y4 y5, LeO (spec_DecFront.j6 k y0 y1 y2 y3 y4 y5) (spec_DecFront.j6 (k + 1) y0 y1 y2 y3 y4 y5)) ∧ (∀ y0 y1 y2 y3 y4 y5, LeO (spec_DecFront.j7 k y0 y1 y2 y3 y4 y5) (spec_DecFront.j7 (k + 1) y0 y1 y2 y3 y4 y5)) ∧ (∀ y0 y1 y2 y3, LeO (spec_DecFront.j9 k y0 y1 y2 y3) (spec_DecFront.j9 (k + 1) y0 y1 y2 y3)) ∧ (∀ y0 y1 y2 y3, LeO (spec_DecFront.j10 k y0 y1 y2 y3) (spec_DecFront.j10 (k + 1) y0 y1 y2 y3)) ∧ (∀ y0 y1 y2 y3 y4 y5, LeO (spec_DecFront.l2 k y0 y1 y2 y3 y4 y5) (spec_DecFront.l2 (k + 1) y0 y1 y2 y3 y4 y5)) ∧ (∀ y0 y1, LeO (spec_DecFront.l0 k y0 y1) (spec_DecFront.l0 (k + 1) y0 y1))
  | 0 => ⟨fun _ _ r h => by simp [spec_DecFront.j1] at h, fun _ _ _ r h => by simp [spec_DecFront.j2] at h, fun _ _ _ _ r h => by simp [spec_DecFront.j3] at h, fun _ _ _ r h => by simp [spec_DecFront.j4] at h, fun _ _ _ _ _ r h => by simp [spec_DecFront.l1] at h, fun _ _ _ _ _ _ r h => by simp [spec_DecFront.j6] at h, fun _ _ _ _ _ _ r h => by simp [spec_DecFront.j7] at h, fun _ _ _ _ r h => by simp [spec_DecFront.j9] at h, fun _ _ _ _ r h => by simp [spec_DecFront.j10] at h, fun _ _ _ _ _ _ r h => by simp [spec_DecFront.l2] at h, fun _ _ r h => by simp [spec_DecFront.l0] at h⟩
  | k + 1 => by
    obtain ⟨ih0, ih1, ih2, ih3, ih4, ih5, ih6, ih7, ih8, ih9, ih10⟩ := spec_DecFront.mono_l k
    refine ⟨?_, ?_, ?_, ?_, ?_, ?_, ?_, ?_, ?_, ?_, ?_⟩
    · intro y0 y1
      unfold spec_DecFront.j1
      repeat' first
      | (with_reducible exact ih0 _ _)
      | (with_reducible exact ih1 _ _ _)
      | (with_reducible exact ih2 _ _ _ _)
      | (with_reducible exact ih3 _ _ _)
      | (with_reducible exact ih4 _ _ _ _ _)
      | (with_reducible exact ih5 _ _ _ _ _ _)
      | (with_reducible exact ih6 _ _ _ _ _ _)
      | (with_reducible exact ih7 _ _ _ _)
      | (with_reducible exact ih8 _ _ _ _)
      | (with_reducible exact ih9 _ _ _ _ _ _)
      | (with_reducible exact ih10 _ _)
      | (with_reducible exact LeO.refl _)
      | (with_reducible exact LeO.none _)
      | (with_reducible refine LeO.ite ?_ ?_)
      | (with_reducible refine LeO.bind ?_ (fun _ => ?_))
      | exact ih0 _ _
      | exact ih1 _ _ _
      | exact ih2 _ _ _ _
      | exact ih3 _ _ _
      | exact ih4 _ _ _ _ _
      | exact ih5 _ _ _ _ _ _
      | exact ih6 _ _ _ _ _ _
      | exact ih7 _ _ _ _
      | exact ih8 _ _ _ _
      | exact ih9 _ _ _ _ _ _
      | exact ih10 _ _
      | exact LeO.none _
      | refine LeO.ite ?_ ?_
      | refine LeO.bind ?_ (fun _ => ?_)
    · intro y0 y1 y2
      unfold spec_DecFront.j2
      repeat' first
      | (with_reducible exact ih0 _ _)
      | (with_reducible exact ih1 _ _ _)
      | (with_reducible exact ih2 _ _ _ _)
      | (with_reducible exact ih3 _ _ _)
      | (with_reducible exact ih4 _ _ _ _ _)
      | (with_reducible exact ih5 _ _ _ _ _ _)
      | (with_reducible exact ih6 _ _ _ _ _ _)
      | (with_reducible exact ih7 _ _ _ _)
      | (with_reducible exact ih8 _ _ _ _)
      | (with_reducible exact ih9 _ _ _ _ _ _)
      | (with_reducible exact ih10 _ _)
      | (with_reducible exact LeO.refl _)
      | (with_reducible exact LeO.none _)
      | (with_reducible refine LeO.ite ?_ ?_)
      | (with_reducible refine LeO.bind ?_ (fun _ => ?_))
      | exact ih0 _ _
      | exact ih1 _ _ _
      | exact ih2 _ _ _ _
      | exact ih3 _ _ _
      | exact ih4 _ _ _ _ _
      | exact ih5 _ _ _ _ _ _
      | exact ih6 _ _ _ _ _ _
      | exact ih7 _ _ _ _
      | exact ih8 _ _ _ _
      | exact ih9 _ _ _ _ _ _
      | exact ih10 _ _
      | exact LeO.none _
      | refine LeO.ite ?_ ?_
      | refine LeO.bind ?_ (fun _ => ?_)
    · intro y0 y1 y2 y3
      unfold spec_DecFront.j3
      repeat' first
      | (with_reducible exact ih0 _ _)
      | (with_reducible exact ih1 _ _ _)
      | (with_reducible exact ih2 _ _ _ _)
      | (with_reducible exact ih3 _ _ _)
      | (with_reducible exact ih4 _ _ _ _ _)
      | (with_reducible exact ih5 _ _ _ _ _ _)
      | (with_reducible exact ih6 _ _ _ _ _ _)
      | (with_reducible exact ih7 _ _ _ _)
      | (with_reducible exact ih8 _ _ _ _)
      | (with_reducible exact ih9 _ _ _ _ _ _)
      | (with_reducible exact ih10 _ _)
      | (with_reducible exact LeO.refl _)
      | (with_reducible exact LeO.none _)
      | (with_reducible refine LeO.ite ?_ ?_)
      | (with_reducible refine LeO.bind ?_ (fun _ => ?_))
      | exact ih0 _ _
      | exact ih1 _ _ _
      | exact ih2 _ _ _ _
      | exact ih3 _ _ _
      | exact ih4 _ _ _ _ _
      | exact ih5 _ _ _ _ _ _
      | exact ih6 _ _ _ _ _ _
      | exact ih7 _ _ _ _
      | exact ih8 _ _ _ _
      | exact ih9 _ _ _ _ _ _
      | exact ih10 _ _
      | exact LeO.none _
      | refine LeO.ite ?_ ?_
      | refine LeO.bind ?_ (fun _ => ?_)
    · intro y0 y1 y2
      unfold spec_DecFront.j4
      repeat' first
      | (with_reducible exact ih0 _ _)
      | (with_reducible exact ih1 _ _ _)
      | (with_reducible exact ih2 _ _ _ _)
      | (with_reducible exact ih3 _ _ _)
      | (with_reducible exact ih4 _ _ _ _ _)
      | (with_reducible exact ih5 _ _ _ _ _ _)
      | (with_reducible exact ih6 _ _ _ _ _ _)
      | (with_reducible exact ih7 _ _ _ _)
      | (with_reducible exact ih8 _ _ _ _)
      | (with_reducible exact ih9 _ _ _ _ _ _)
      | (with_reducible exact ih10 _ _)
      | (with_reducible exact LeO.refl _)
      | (with_reducible exact LeO.none _)
      | (with_reducible refine LeO.ite ?_ ?_)
      | (with_reducible refine LeO.bind ?_ (fun _ => ?_))
      | exact ih0 _ _
      | exact ih1 _ _ _
      | exact ih2 _ _ _ _
      | exact ih3 _ _ _
      | exact ih4 _ _ _ _ _
      | exact ih5 _ _ _ _ _ _
      | exact ih6 _ _ _ _ _ _
      | exact ih7 _ _ _ _
      | exact ih8 _ _ _ _
      | exact ih9 _ _ _ _ _ _
      | exact ih10 _ _
      | exact LeO.none _
      | refine LeO.ite ?_ ?_
      | refine LeO.bind ?_ (fun _ => ?_)
    · intro y0 y1 y2 y3 y4
      unfold spec_DecFront.l1
      repeat' first
      | (with_reducible exact ih0 _ _)
      | (with_reducible exact ih1 _ _ _)
      | (with_reducible exact ih2 _ _ _ _)
      | (with_reducible exact ih3 _ _ _)
      | (with_reducible exact ih4 _ _ _ _ _)
      | (with_reducible exact ih5 _ _ _ _ _ _)
      | (with_reducible exact ih6 _ _ _ _ _ _)
      | (with_reducible exact ih7 _ _ _ _)
      | (with_reducible exact ih8 _ _ _ _)
      | (with_reducible exact ih9 _ _ _ _ _ _)
      | (with_reducible exact ih10 _ _)
      | (with_reducible exact LeO.refl _)
      | (with_reducible exact LeO.none _)
      | (with_reducible refine LeO.ite ?_ ?_)
      | (with_reducible refine LeO.bind ?_ (fun _ => ?_))
      | exact ih0 _ _
      | exact ih1 _ _ _
      | exact ih2 _ _ _ _
      | exact ih3 _ _ _
      | exact ih4 _ _ _ _ _
      | exact ih5 _ _ _ _ _ _
      | exact ih6 _ _ _ _ _ _
      | exact ih7 _ _ _ _
      | exact ih8 _ _ _ _
      | exact ih9 _ _ _ _ _ _
      | exact ih10 _ _
      | exact LeO.none _
      | refine LeO.ite ?_ ?_
      | refine LeO.bind ?_ (fun _ => ?_)
    · intro y0 y1 y2 y3 y4 y5
      unfold spec_DecFront.j6
      repeat' first
      | (with_reducible exact ih0 _ _)
      | (with_reducible exact ih1 _ _ _)
      | (with_reducible exact ih2 _ _ _ _)
      | (with_reducible exact ih3 _ _ _)
      | (with_reducible exact ih4 _ _ _ _ _)
      | (with_reducible exact ih5 _ _ _ _ _ _)
      | (with_reducible exact ih6 _ _ _ _ _ _)
      | (with_reducible exact ih7 _ _ _ _)
      | (with_reducible exact ih8 _ _ _ _)
      | (with_reducible exact ih9 _ _ _ _ _ _)
      | (with_reducible exact ih10 _ _)
      | (with_reducible exact LeO.refl _)
      | (with_reducible exact LeO.none _)
      | (with_reducible refine LeO.ite ?_ ?_)
      | (with_reducible refine LeO.bind ?_ (fun _ => ?_))
      | exact ih0 _ _
      | exact ih1 _ _ _
      | exact ih2 _ _ _ _
      | exact ih3 _ _ _
      | exact ih4 _ _ _ _ _
      | exact ih5 _ _ _ _ _ _
      | exact ih6 _ _ _ _ _ _
      | exact ih7 _ _ _ _
      | exact ih8 _ _ _ _
      | exact ih9 _ _ _ _ _ _
      | exact ih10 _ _
      | exact LeO.none _
      | refine LeO.ite ?_ ?_
      | refine LeO.bind ?_ (fun _ => ?_)
    · intro y0 y1 y2 y3 y4 y5
      unfold spec_DecFront.j7
      repeat' first
      | (with_reducible exact ih0 _ _)
      | (with_reducible exact ih1 _ _ _)
      | (with_reducible exact ih2 _ _ _ _)
      | (with_reducible exact ih3 _ _ _)
      | (with_reducible exact ih4 _ _ _ _ _)
      | (with_reducible exact ih5 _ _ _ _ _ _)
      | (with_reducible exact ih6 _ _ _ _ _ _)
      | (with_reducible exact ih7 _ _ _ _)
      | (with_reducible exact ih8 _ _ _ _)
      | (with_reducible exact ih9 _ _ _ _ _ _)
      | (with_reducible exact ih10 _ _)
      | (with_reducible exact LeO.refl _)
      | (with_reducible exact LeO.none _)
      | (with_reducible refine LeO.ite ?_ ?_)
      | (with_reducible refine LeO.bind ?_ (fun _ => ?_))
      | exact ih0 _ _
      | exact ih1 _ _ _
      | exact ih2 _ _ _ _
      | exact ih3 _ _ _
      | exact ih4 _ _ _ _ _
      | exact ih5 _ _ _ _ _ _
      | exact ih6 _ _ _ _ _ _
      | exact ih7 _ _ _ _
      | exact ih8 _ _ _ _
      | exact ih9 _ _ _ _ _ _
      | exact ih10 _ _
      | exact LeO.none _
      | refine LeO.ite ?_ ?_
      | refine LeO.bind ?_ (fun _ => ?_)
    · intro y0 y1 y2 y3
      unfold spec_DecFront.j9
      repeat' first
      | (with_reducible exact ih0 _ _)
      | (with_reducible exact ih1 _ _ _)
      | (with_reducible exact ih2 _ _ _ _)
      | (with_reducible exact ih3 _ _ _)
      | (with_reducible exact ih4 _ _ _ _ _)
      | (with_reducible exact ih5 _ _ _ _ _ _)
      | (with_reducible exact ih6 _ _ _ _ _ _)
      | (with_reducible exact ih7 _ _ _ _)
      | (with_reducible exact ih8 _ _ _ _)
      | (with_reducible exact ih9 _ _ _ _ _ _)
      | (with_reducible exact ih10 _ _)
      | (with_reducible exact LeO.refl _)
      | (with_reducible exact LeO.none _)
      | (with_reducible refine LeO.ite ?_ ?_)
      | (with_reducible refine LeO.bind ?_ (fun _ => ?_))
      | exact ih0 _ _
      | exact ih1 _ _ _
      | exact ih2 _ _ _ _
      | exact ih3 _ _ _
      | exact ih4 _ _ _ _ _
      | exact ih5 _ _ _ _ _ _
      | exact ih6 _ _ _ _ _ _
      | exact ih7 _ _ _ _
      | exact ih8 _ _ _ _
      | exact ih9 _ _ _ _ _ _
      | exact ih10 _ _
      | exact LeO.none _
      | refine LeO.ite ?_ ?_
      | refine LeO.bind ?_ (fun _ => ?_)
    · intro y0 y1 y2 y3
      unfold spec_DecFront.j10
      repeat' first
      | (with_reducible exact ih0 _ _)
      | (with_reducible exact ih1 _ _ _)
      | (with_reducible exact ih2 _ _ _ _)
      | (with_reducible exact ih3 _ _ _)
      | (with_reducible exact ih4 _ _ _ _ _)
      | (with_reducible exact ih5 _ _ _ _ _ _)
      | (with_reducible exact ih6 _ _ _ _ _ _)
      | (with_reducible exact ih7 _ _ _ _)
      | (with_reducible exact ih8 _ _ _ _)
      | (with_reducible exact ih9 _ _ _ _ _ _)
      | (with_reducible exact ih10 _ _)
      | (with_reducible exact LeO.refl _)
      | (with_reducible exact LeO.none _)
      | (with_reducible refine LeO.ite ?_ ?_)
      | (with_reducible refine LeO.bind ?_ (fun _ => ?_))
      | exact ih0 _ _
      | exact ih1 _ _ _
      | exact ih2 _ _ _ _
      | exact ih3 _ _ _
      | exact ih4 _ _ _ _ _
      | exact ih5 _ _ _ _ _ _
      | exact ih6 _ _ _ _ _ _
      | exact ih7 _ _ _ _
      | exact ih8 _ _ _ _
      | exact ih9 _ _ _ _ _ _
      | exact ih10 _ _
      | exact LeO.none _
      | refine LeO.ite ?_ ?_
      | refine LeO.bind ?_ (fun _ => ?_)
    · intro y0 y1 y2 y3 y4 y5
      unfold spec_DecFront.l2
      repeat' first
      | (with_reducible exact ih0 _ _)
      | (with_reducible exact ih1 _ _ _)
      | (with_reducible exact ih2 _ _ _ _)
      | (with_reducible exact ih3 _ _ _)
      | (with_reducible exact ih4 _ _ _ _ _)
      | (with_reducible exact ih5 _ _ _ _ _ _)
      | (with_reducible exact ih6 _ _ _ _ _ _)
      | (with_reducible exact ih7 _ _ _ _)
      | (with_reducible exact ih8 _ _ _ _)
      | (with_reducible exact ih9 _ _ _ _ _ _)
      | (with_reducible exact ih10 _ _)
      | (with_reducible exact LeO.refl _)
      | (with_reducible exact LeO.none _)
      | (with_reducible refine LeO.ite ?_ ?_)
      | (with_reducible refine LeO.bind ?_ (fun _ => ?_))
      | exact ih0 _ _
      | exact ih1 _ _ _
      | exact ih2 _ _ _ _
      | exact ih3 _ _ _
      | exact ih4 _ _ _ _ _
      | exact ih5 _ _ _ _ _ _
      | exact ih6 _ _ _ _ _ _
      | exact ih7 _ _ _ _
      | exact ih8 _ _ _ _
      | exact ih9 _ _ _ _ _ _
      | exact ih10 _ _
      | exact LeO.none _
      | refine LeO.ite ?_ ?_
      | refine LeO.bind ?_ (fun _ => ?_)
    · intro y0 y1
      unfold spec_DecFront.l0
      repeat' first
      | (with_reducible exact ih0 _ _)
      | (with_reducible exact ih1 _ _ _)
      | (with_reducible exact ih2 _ _ _ _)
      | (with_reducible exact ih3 _ _ _)
      | (with_reducible exact ih4 _ _ _ _ _)
      | (with_reducible exact ih5 _ _ _ _ _ _)
      | (with_reducible exact ih6 _ _ _ _ _ _)
      | (with_reducible exact ih7 _ _ _ _)
      | (with_reducible exact ih8 _ _ _ _)
      | (with_reducible exact ih9 _ _ _ _ _ _)
      | (with_reducible exact ih10 _ _)
      | (with_reducible exact LeO.refl _)
      | (with_reducible exact LeO.none _)
      | (with_reducible refine LeO.ite ?_ ?_)
      | (with_reducible refine LeO.bind ?_ (fun _ => ?_))
      | exact ih0 _ _
      | exact ih1 _ _ _
      | exact ih2 _ _ _ _
      | exact ih3 _ _ _
      | exact ih4 _ _ _ _ _
      | exact ih5 _ _ _ _ _ _
      | exact ih6 _ _ _ _ _ _
      | exact ih7 _ _ _ _
      | exact ih8 _ _ _ _
      | exact ih9 _ _ _ _ _ _
      | exact ih10 _ _
      | exact LeO.none _
      | refine LeO.ite ?_ ?_
      | refine LeO.bind ?_ (fun _ => ?_)
theorem spec_DecFront.mono : ∀ a0 k, LeO (spec_DecFront.f k a0) (spec_DecFront.f (k + 1) a0) := by
  intro a0 k
  obtain ⟨ih0, ih1, ih2, ih3, ih4, ih5, ih6, ih7, ih8, ih9, ih10⟩ := spec_DecFront.mono_l k
  unfold spec_DecFront.f
  repeat' first
      | (with_reducible exact ih0 _ _)
      | (with_reducible exact ih1 _ _ _)
      | (with_reducible exact ih2 _ _ _ _)
      | (with_reducible exact ih3 _ _ _)
      | (with_reducible exact ih4 _ _ _ _ _)
      | (with_reducible exact ih5 _ _ _ _ _ _)
      | (with_reducible exact ih6 _ _ _ _ _ _)
      | (with_reducible exact ih7 _ _ _ _)
      | (with_reducible exact ih8 _ _ _ _)
      | (with_reducible exact ih9 _ _ _ _ _ _)
      | (with_reducible exact ih10 _ _)
      | (with_reducible exact LeO.refl _)
      | (with_reducible exact LeO.none _)
      | (with_reducible refine LeO.ite ?_ ?_)
      | (with_reducible refine LeO.bind ?_ (fun _ => ?_))
      | exact ih0 _ _
      | exact ih1 _ _ _
      | exact ih2 _ _ _ _
      | exact ih3 _ _ _
      | exact ih4 _ _ _ _ _
      | exact ih5 _ _ _ _ _ _
      | exact ih6 _ _ _ _ _ _
      | exact ih7 _ _ _ _
      | exact ih8 _ _ _ _
      | exact ih9 _ _ _ _ _ _
      | exact ih10 _ _
      | exact LeO.none _
      | refine LeO.ite ?_ ?_
      | refine LeO.bind ?_ (fun _ => ?_)
noncomputable def spec_DecFront.j1v (x0 : ByteArray) (x4 : Int) : Option (Int × Int) := limOf (fun k => spec_DecFront.j1 k x0 x4)
theorem spec_DecFront.j1_lim (x0 : ByteArray) (x4 : Int) : Lim (fun k => spec_DecFront.j1 k x0 x4) (spec_DecFront.j1v x0 x4) := Lim.of (fun k => (spec_DecFront.mono_l k).1 x0 x4)
noncomputable def spec_DecFront.j2v (x0 : ByteArray) (x4 : Int) (x5 : Bool) : Option (Int × Int) := limOf (fun k => spec_DecFront.j2 k x0 x4 x5)
theorem spec_DecFront.j2_lim (x0 : ByteArray) (x4 : Int) (x5 : Bool) : Lim (fun k => spec_DecFront.j2 k x0 x4 x5) (spec_DecFront.j2v x0 x4 x5) := Lim.of (fun k => (spec_DecFront.mono_l k).2.1 x0 x4 x5)
noncomputable def spec_DecFront.j3v (x0 : ByteArray) (x4 : Int) (x5 : Bool) (x46 : Bool) : Option (Int × Int) := limOf (fun k => spec_DecFront.j3 k x0 x4 x5 x46)
theorem spec_DecFront.j3_lim (x0 : ByteArray) (x4 : Int) (x5 : Bool) (x46 : Bool) : Lim (fun k => spec_DecFront.j3 k x0 x4 x5 x46) (spec_DecFront.j3v x0 x4 x5 x46) := Lim.of (fun k => (spec_DecFront.mono_l k).2.2.1 x0 x4 x5 x46)
noncomputable def spec_DecFront.j4v (x0 : ByteArray) (x4 : Int) (x5 : Bool) : Option (Int × Int) := limOf (fun k => spec_DecFront.j4 k x0 x4 x5)
theorem spec_DecFront.j4_lim (x0 : ByteArray) (x4 : Int) (x5 : Bool) : Lim (fun k => spec_DecFront.j4 k x0 x4 x5) (spec_DecFront.j4v x0 x4 x5) := Lim.of (fun k => (spec_DecFront.mono_l k).2.2.2.1 x0 x4 x5)
noncomputable def spec_DecFront.l1v (x0 : ByteArray) (x4 : Int) (x5 : Bool) (x6 : Int) (x7 : Int) : Option (Int × Int) := limOf (fun k => spec_DecFront.l1 k x0 x4 x5 x6 x7)
theorem spec_DecFront.l1_lim (x0 : ByteArray) (x4 : Int) (x5 : Bool) (x6 : Int) (x7 : Int) : Lim (fun k => spec_DecFront.l1 k x0 x4 x5 x6 x7) (spec_DecFront.l1v x0 x4 x5 x6 x7) := Lim.of (fun k => (spec_DecFront.mono_l k).2.2.2.2.1 x0 x4 x5 x6 x7)
noncomputable def spec_DecFront.j6v (x0 : ByteArray) (x4 : Int) (x5 : Bool) (x6 : Int) (x7 : Int) (x58 : Bool) : Option (Int × Int) := limOf (fun k => spec_DecFront.j6 k x0 x4 x5 x6 x7 x58)
theorem spec_DecFront.j6_lim (x0 : ByteArray) (x4 : Int) (x5 : Bool) (x6 : Int) (x7 : Int) (x58 : Bool) : Lim (fun k => spec_DecFront.j6 k x0 x4 x5 x6 x7 x58) (spec_DecFront.j6v x0 x4 x5 x6 x7 x58) := Lim.of (fun k => (spec_DecFront.mono_l k).2.2.2.2.2.1 x0 x4 x5 x6 x7 x58)
noncomputable def spec_DecFront.j7v (x0 : ByteArray) (x4 : Int) (x5 : Bool) (x6 : Int) (x7 : Int) (x91 : Bool) : Option (Int × Int) := limOf (fun k => spec_DecFront.j7 k x0 x4 x5 x6 x7 x91)
theorem spec_DecFront.j7_lim (x0 : ByteArray) (x4 : Int) (x5 : Bool) (x6 : Int) (x7 : Int) (x91 : Bool) : Lim (fun k => spec_DecFront.j7 k x0 x4 x5 x6 x7 x91) (spec_DecFront.j7v x0 x4 x5 x6 x7 x91) := Lim.of (fun k => (spec_DecFront.mono_l k).2.2.2.2.2.2.1 x0 x4 x5 x6 x7 x91)
noncomputable def spec_DecFront.j9v (x4 : Int) (x5 : Bool) (x6 : Int) (x7 : Int) : Option (Int × Int) := limOf (fun k => spec_DecFront.j9 k x4 x5 x6 x7)
theorem spec_DecFront.j9_lim (x4 : Int) (x5 : Bool) (x6 : Int) (x7 : Int) : Lim (fun k => spec_DecFront.j9 k x4 x5 x6 x7) (spec_DecFront.j9v x4 x5 x6 x7) := Lim.of (fun k => (spec_DecFront.mono_l k).2.2.2.2.2.2.2.1 x4 x5 x6 x7)
noncomputable def spec_DecFront.j10v (x4 : Int) (x5 : Bool) (x6 : Int) (x124 : Bool) : Option (Int × Int) := limOf (fun k => spec_DecFront.j10 k x4 x5 x6 x124)
theorem spec_DecFront.j10_lim (x4 : Int) (x5 : Bool) (x6 : Int) (x124 : Bool) : Lim (fun k => spec_DecFront.j10 k x4 x5 x6 x124) (spec_DecFront.j10v x4 x5 x6 x124) := Lim.of (fun k => (spec_DecFront.mono_l k).2.2.2.2.2.2.2.2.1 x4 x5 x6 x124)
noncomputable def spec_DecFront.l2v (x0 : ByteArray) (x4 : Int) (x5 : Bool) (x6 : Int) (x7 : Int) (x8 : Int) : Option (Int × Int) := limOf (fun k => spec_DecFront.l2 k x0 x4 x5 x6 x7 x8)
theorem spec_DecFront.l2_lim (x0 : ByteArray) (x4 : Int) (x5 : Bool) (x6 : Int) (x7 : Int) (x8 : Int) : Lim (fun k => spec_DecFront.l2 k x0 x4 x5 x6 x7 x8) (spec_DecFront.l2v x0 x4 x5 x6 x7 x8) := Lim.of (fun k => (spec_DecFront.mono_l k).2.2.2.2.2.2.2.2.2.1 x0 x4 x5 x6 x7 x8)
noncomputable def spec_DecFront.l0v (x0 : ByteArray) (x4 : Int) : Option (Int × Int) := limOf (fun k => spec_DecFront.l0 k x0 x4)
theorem spec_DecFront.l0_lim (x0 : ByteArray) (x4 : Int) : Lim (fun k => spec_DecFront.l0 k x0 x4) (spec_DecFront.l0v x0 x4) := Lim.of (fun k => (spec_DecFront.mono_l k).2.2.2.2.2.2.2.2.2.2 x0 x4)
noncomputable def spec_DecFront.fv (a0 : ByteArray) : Option (Int × Int) := limOf (fun k => spec_DecFront.f k a0)
theorem spec_DecFront.f_lim (a0 : ByteArray) : Lim (fun k => spec_DecFront.f k a0) (spec_DecFront.fv a0) := Lim.of (fun k => spec_DecFront.mono a0 k)
set_option maxHeartbeats 4000000 in
theorem spec_DecFront.j1v_eq (x0 : ByteArray) (x4 : Int) : spec_DecFront.j1v x0 x4 = (if x4 < (x0.size : Int) then (if 0 ≤ x4 then (spec_DecFront.j2v x0 x4 ((bt x0 x4) == 45)) else (none)) else (spec_DecFront.j2v x0 x4 false)) := by
  refine Lim.succ (spec_DecFront.j1_lim x0 x4) ?_
  simp only [spec_DecFront.j1]
  repeat' first
    | (with_reducible apply spec_DecFront.j2_lim)
    | (with_reducible exact Lim.const _)
    | (with_reducible refine Lim.ite ?_ ?_)
    | (with_reducible refine Lim.bind ?_ (fun _ => ?_))
    | apply spec_DecFront.j2_lim
    | exact Lim.const _
    | refine Lim.ite ?_ ?_
    | refine Lim.bind ?_ (fun _ => ?_)
set_option maxHeartbeats 4000000 in
theorem spec_DecFront.j2v_eq (x0 : ByteArray) (x4 : Int) (x5 : Bool) : spec_DecFront.j2v x0 x4 x5 = (if x4 < (x0.size : Int) then (if 0 ≤ x4 then (if (bt x0 x4) = 45 then (spec_DecFront.j3v x0 x4 x5 true) else (spec_DecFront.j3v x0 x4 x5 ((bt x0 x4) == 43))) else (none)) else (spec_DecFront.j3v x0 x4 x5 false)) := by
  refine Lim.succ (spec_DecFront.j2_lim x0 x4 x5) ?_
  simp only [spec_DecFront.j2]
  repeat' first
    | (with_reducible apply spec_DecFront.j3_lim)
    | (with_reducible exact Lim.const _)
    | (with_reducible refine Lim.ite ?_ ?_)
    | (with_reducible refine Lim.bind ?_ (fun _ => ?_))
    | apply spec_DecFront.j3_lim
    | exact Lim.const _
    | refine Lim.ite ?_ ?_
    | refine Lim.bind ?_ (fun _ => ?_)
set_option maxHeartbeats 4000000 in
theorem spec_DecFront.j3v_eq (x0 : ByteArray) (x4 : Int) (x5 : Bool) (x46 : Bool) : spec_DecFront.j3v x0 x4 x5 x46 = (if x46 = true then (spec_DecFront.j4v x0 (wrap64 (x4 + 1)) x5) else (spec_DecFront.j4v x0 x4 x5)) := by
  refine Lim.succ (spec_DecFront.j3_lim x0 x4 x5 x46) ?_
  simp only [spec_DecFront.j3]
  repeat' first
    | (with_reducible apply spec_DecFront.j4_lim)
    | (with_reducible exact Lim.const _)
    | (with_reducible refine Lim.ite ?_ ?_)
    | (with_reducible refine Lim.bind ?_ (fun _ => ?_))
    | apply spec_DecFront.j4_lim
    | exact Lim.const _
    | refine Lim.ite ?_ ?_
    | refine Lim.bind ?_ (fun _ => ?_)
set_option maxHeartbeats 4000000 in
theorem spec_DecFront.j4v_eq (x0 : ByteArray) (x4 : Int) (x5 : Bool) : spec_DecFront.j4v x0 x4 x5 = (spec_DecFront.l1v x0 x4 x5 0 0) := by
  refine Lim.succ (spec_DecFront.j4_lim x0 x4 x5) ?_
  simp only [spec_DecFront.j4]
  repeat' first
    | (with_reducible apply spec_DecFront.l1_lim)
    | (with_reducible exact Lim.const _)
    | (with_reducible refine Lim.ite ?_ ?_)
    | (with_reducible refine Lim.bind ?_ (fun _ => ?_))
    | apply spec_DecFront.l1_lim
    | exact Lim.const _
    | refine Lim.ite ?_ ?_
    | refine Lim.bind ?_ (fun _ => ?_)
set_option maxHeartbeats 4000000 in
theorem spec_DecFront.l1v_eq (x0 : ByteArray) (x4 : Int) (x5 : Bool) (x6 : Int) (x7 : Int) : spec_DecFront.l1v x0 x4 x5 x6 x7 = (if x4 < (x0.size : Int) then (if 0 ≤ x4 then ((spec_l2Digit.f (bt x0 x4)).bind fun t224 => (spec_DecFront.j6v x0 x4 x5 x6 x7 t224)) else (none)) else (spec_DecFront.j6v x0 x4 x5 x6 x7 false)) := by
  refine Lim.succ (spec_DecFront.l1_lim x0 x4 x5 x6 x7) ?_
  simp only [spec_DecFront.l1]
  repeat' first
    | (with_reducible apply spec_DecFront.j6_lim)
    | (with_reducible exact Lim.const _)
    | (with_reducible refine Lim.ite ?_ ?_)
    | (with_reducible refine Lim.bind ?_ (fun _ => ?_))
    | apply spec_DecFront.j6_lim
    | exact Lim.const _
    | refine Lim.ite ?_ ?_
    | refine Lim.bind ?_ (fun _ => ?_)
set_option maxHeartbeats 4000000 in
theorem spec_DecFront.j6v_eq (x0 : ByteArray) (x4 : Int) (x5 : Bool) (x6 : Int) (x7 : Int) (x58 : Bool) : spec_DecFront.j6v x0 x4 x5 x6 x7 x58 = (if x58 = true then (if x6 ≤ 9000000000000 then (if 0 ≤ x4 then (if x4 < (x0.size : Int) then (spec_DecFront.l1v x0 (wrap64 (x4 + 1)) x5 (wrap64 ((wrap64 (10 * x6)) + (wrap64 ((wrap64 ((wrap64 (bt x0 x4)) - 48)) * 1000000)))) (wrap64 (x7 + 1))) else (none)) else (none)) else (spec_DecFront.l1v x0 (wrap64 (x4 + 1)) x5 x6 (wrap64 (x7 + 1)))) else (if (wrap64 (x4 + 1)) < (x0.size : Int) then (if 0 ≤ x4 then (if x4 < (x0.size : Int) then (if (bt x0 x4) = 46 then (if 0 ≤ (wrap64 (x4 + 1)) then ((spec_l2Digit.f (bt x0 (wrap64 (x4 + 1)))).bind fun t225 => (spec_DecFront.j7v x0 x4 x5 x6 x7 t225)) else (none)) else (spec_DecFront.j7v x0 x4 x5 x6 x7 false)) else (none)) else (none)) else (spec_DecFront.j7v x0 x4 x5 x6 x7 false))) := by
  refine Lim.succ (spec_DecFront.j6_lim x0 x4 x5 x6 x7 x58) ?_
  simp only [spec_DecFront.j6]
  repeat' first
    | (with_reducible apply spec_DecFront.j7_lim)
    | (with_reducible apply spec_DecFront.l1_lim)
    | (with_reducible exact Lim.const _)
    | (with_reducible refine Lim.ite ?_ ?_)
    | (with_reducible refine Lim.bind ?_ (fun _ => ?_))
    | apply spec_DecFront.j7_lim
    | apply spec_DecFront.l1_lim
    | exact Lim.const _
    | refine Lim.ite ?_ ?_
    | refine Lim.bind ?_ (fun _ => ?_)
set_option maxHeartbeats 4000000 in
theorem spec_DecFront.j7v_eq (x0 : ByteArray) (x4 : Int) (x5 : Bool) (x6 : Int) (x7 : Int) (x91 : Bool) : spec_DecFront.j7v x0 x4 x5 x6 x7 x91 = (if x91 = true then (spec_DecFront.l2v x0 (wrap64 (x4 + 1)) x5 x6 x7 100000) else (spec_DecFront.j9v x4 x5 x6 x7)) := by
  refine Lim.succ (spec_DecFront.j7_lim x0 x4 x5 x6 x7 x91) ?_
  simp only [spec_DecFront.j7]
  repeat' first
    | (with_reducible apply spec_DecFront.j9_lim)
    | (with_reducible apply spec_DecFront.l2_lim)
    | (with_reducible exact Lim.const _)
    | (with_reducible refine Lim.ite ?_ ?_)
    | (with_reducible refine Lim.bind ?_ (fun _ => ?_))
    | apply spec_DecFront.j9_lim
    | apply spec_DecFront.l2_lim
    | exact Lim.const _
    | refine Lim.ite ?_ ?_
    | refine Lim.bind ?_ (fun _ => ?_)
set_option maxHeartbeats 4000000 in
theorem spec_DecFront.j9v_eq (x4 : Int) (x5 : Bool) (x6 : Int) (x7 : Int) : spec_DecFront.j9v x4 x5 x6 x7 = (if x7 = 0 then (spec_DecFront.j10v x4 x5 x6 true) else (spec_DecFront.j10v x4 x5 x6 (decide (x6 > 9000000000000)))) := by
  refine Lim.succ (spec_DecFront.j9_lim x4 x5 x6 x7) ?_
  simp only [spec_DecFront.j9]
  repeat' first
    | (with_reducible apply spec_DecFront.j10_lim)
    | (with_reducible exact Lim.const _)
    | (with_reducible refine Lim.ite ?_ ?_)
    | (with_reducible refine Lim.bind ?_ (fun _ => ?_))
    | apply spec_DecFront.j10_lim
    | exact Lim.const _
    | refine Lim.ite ?_ ?_
    | refine Lim.bind ?_ (fun _ => ?_)
set_option maxHeartbeats 4000000 in
theorem spec_DecFront.j10v_eq (x4 : Int) (x5 : Bool) (x6 : Int) (x124 : Bool) : spec_DecFront.j10v x4 x5 x6 x124 = (if x124 = true then (some (0, 0)) else (if x5 = true then (some (wrap64 (-x6), x4)) else (some (x6, x4)))) := by
  refine Lim.succ (spec_DecFront.j10_lim x4 x5 x6 x124) ?_
  simp only [spec_DecFront.j10]
  repeat' first
    | (with_reducible exact Lim.const _)
    | (with_reducible refine Lim.ite ?_ ?_)
    | (with_reducible refine Lim.bind ?_ (fun _ => ?_))
    | exact Lim.const _
    | refine Lim.ite ?_ ?_
    | refine Lim.bind ?_ (fun _ => ?_)
set_option maxHeartbeats 4000000 in
theorem spec_DecFront.l2v_eq (x0 : ByteArray) (x4 : Int) (x5 : Bool) (x6 : Int) (x7 : Int) (x8 : Int) : spec_DecFront.l2v x0 x4 x5 x6 x7 x8 = (if x4 < (x0.size : Int) then (if 0 ≤ x4 then ((spec_l2Digit.f (bt x0 x4)).bind fun t226 => (if t226 = true then (spec_DecFront.l2v x0 (wrap64 (x4 + 1)) x5 (wrap64 (x6 + (wrap64 ((wrap64 ((wrap64 (bt x0 x4)) - 48)) * x8)))) (wrap64 (x7 + 1)) (wrap64 (Int.tdiv x8 10))) else (spec_DecFront.j9v x4 x5 x6 x7))) else (none)) else (spec_DecFront.j9v x4 x5 x6 x7)) := by
  refine Lim.succ (spec_DecFront.l2_lim x0 x4 x5 x6 x7 x8) ?_
  simp only [spec_DecFront.l2]
  repeat' first
    | (with_reducible apply spec_DecFront.j9_lim)
    | (with_reducible apply spec_DecFront.l2_lim)
    | (with_reducible exact Lim.const _)
    | (with_reducible refine Lim.ite ?_ ?_)
    | (with_reducible refine Lim.bind ?_ (fun _ => ?_))
    | apply spec_DecFront.j9_lim
    | apply spec_DecFront.l2_lim
    | exact Lim.const _
    | refine Lim.ite ?_ ?_
    | refine Lim.bind ?_ (fun _ => ?_)
set_option maxHeartbeats 4000000 in
theorem spec_DecFront.l0v_eq (x0 : ByteArray) (x4 : Int) : spec_DecFront.l0v x0 x4 = (if x4 < (x0.size : Int) then (if 0 ≤ x4 then (if (bt x0 x4) = 32 then (spec_DecFront.l0v x0 (wrap64 (x4 + 1))) else (spec_DecFront.j1v x0 x4)) else (none)) else (spec_DecFront.j1v x0 x4)) := by
  refine Lim.succ (spec_DecFront.l0_lim x0 x4) ?_
  simp only [spec_DecFront.l0]
  repeat' first
    | (with_reducible apply spec_DecFront.j1_lim)
    | (with_reducible apply spec_DecFront.l0_lim)
    | (with_reducible exact Lim.const _)
    | (with_reducible refine Lim.ite ?_ ?_)
    | (with_reducible refine Lim.bind ?_ (fun _ => ?_))
    | apply spec_DecFront.j1_lim
    | apply spec_DecFront.l0_lim
    | exact Lim.const _
    | refine Lim.ite ?_ ?_
    | refine Lim.bind ?_ (fun _ => ?_)
set_option maxHeartbeats 4000000 in
theorem spec_DecFront.fv_eq (a0 : ByteArray) : spec_DecFront.fv a0 = (spec_DecFront.l0v a0 0) := by
  refine Lim.eq (spec_DecFront.f_lim a0) ?_
  simp only [spec_DecFront.f]
  repeat' first
    | (with_reducible apply spec_DecFront.l0_lim)
    | (with_reducible exact Lim.const _)
    | (with_reducible refine Lim.ite ?_ ?_)
    | (with_reducible refine Lim.bind ?_ (fun _ => ?_))
    | apply spec_DecFront.l0_lim
    | exact Lim.const _
    | refine Lim.ite ?_ ?_
    | refine Lim.bind ?_ (fun _ => ?_)

/-! ### spec_DecLooks -/
def spec_DecLooks.l0 : Nat → ByteArray → Int → Int → Option (Int × Bool)
  | 0, _, _, _ => none
  | k + 1, x0, x4, x5 => if x5 < (x0.size : Int) then (if 0 ≤ x5 then (if (bt x0 x5) = 32 then (spec_DecLooks.l0 k x0 x4 (wrap64 (x5 + 1))) else (some (0, false))) else (none)) else (some (x4, true))
def spec_DecLooks.f (k : Nat) (a0 : ByteArray) : Option (Int × Bool) := (spec_DecFront.f k a0).bind fun bt227 => (if bt227.2 = 0 then (some (0, false)) else (spec_DecLooks.l0 k a0 bt227.1 bt227.2))
theorem spec_DecLooks.mono_l : ∀ k, (∀ y0 y1 y2, LeO (spec_DecLooks.l0 k y0 y1 y2) (spec_DecLooks.l0 (k + 1) y0 y1 y2))
  | 0 => fun _ _ _ r h => by simp [spec_DecLooks.l0] at h
  | k + 1 => by
    have ih0 := spec_DecLooks.mono_l k
    · intro y0 y1 y2
      unfold spec_DecLooks.l0
      repeat' first
      | (with_reducible exact ih0 _ _ _)
      | (with_reducible exact spec_DecFront.mono _ _)
      | (with_reducible exact LeO.refl _)
      | (with_reducible exact LeO.none _)
      | (with_reducible refine LeO.ite ?_ ?_)
      | (with_reducible refine LeO.bind ?_ (fun _ => ?_))
      | exact ih0 _ _ _
      | exact spec_DecFront.mono _ _
      | exact LeO.none _
      | refine LeO.ite ?_ ?_
      | refine LeO.bind ?_ (fun _ => ?_)
theorem spec_DecLooks.mono : ∀ a0 k, LeO (spec_DecLooks.f k a0) (spec_DecLooks.f (k + 1) a0) := by
  intro a0 k
  have ih0 := spec_DecLooks.mono_l k
  unfold spec_DecLooks.f
  repeat' first
      | (with_reducible exact ih0 _ _ _)
      | (with_reducible exact spec_DecFront.mono _ _)
      | (with_reducible exact LeO.refl _)
      | (with_reducible exact LeO.none _)
      | (with_reducible refine LeO.ite ?_ ?_)
      | (with_reducible refine LeO.bind ?_ (fun _ => ?_))
      | exact ih0 _ _ _
      | exact spec_DecFront.mono _ _
      | exact LeO.none _
      | refine LeO.ite ?_ ?_
      | refine LeO.bind ?_ (fun _ => ?_)
noncomputable def spec_DecLooks.l0v (x0 : ByteArray) (x4 : Int) (x5 : Int) : Option (Int × Bool) := limOf (fun k => spec_DecLooks.l0 k x0 x4 x5)
theorem spec_DecLooks.l0_lim (x0 : ByteArray) (x4 : Int) (x5 : Int) : Lim (fun k => spec_DecLooks.l0 k x0 x4 x5) (spec_DecLooks.l0v x0 x4 x5) := Lim.of (fun k => spec_DecLooks.mono_l k x0 x4 x5)
noncomputable def spec_DecLooks.fv (a0 : ByteArray) : Option (Int × Bool) := limOf (fun k => spec_DecLooks.f k a0)
theorem spec_DecLooks.f_lim (a0 : ByteArray) : Lim (fun k => spec_DecLooks.f k a0) (spec_DecLooks.fv a0) := Lim.of (fun k => spec_DecLooks.mono a0 k)
set_option maxHeartbeats 4000000 in
theorem spec_DecLooks.l0v_eq (x0 : ByteArray) (x4 : Int) (x5 : Int) : spec_DecLooks.l0v x0 x4 x5 = (if x5 < (x0.size : Int) then (if 0 ≤ x5 then (if (bt x0 x5) = 32 then (spec_DecLooks.l0v x0 x4 (wrap64 (x5 + 1))) else (some (0, false))) else (none)) else (some (x4, true))) := by
  refine Lim.succ (spec_DecLooks.l0_lim x0 x4 x5) ?_
  simp only [spec_DecLooks.l0]
  repeat' first
    | (with_reducible apply spec_DecLooks.l0_lim)
    | (with_reducible exact Lim.const _)
    | (with_reducible refine Lim.ite ?_ ?_)
    | (with_reducible refine Lim.bind ?_ (fun _ => ?_))
    | apply spec_DecLooks.l0_lim
    | exact Lim.const _
    | refine Lim.ite ?_ ?_
    | refine Lim.bind ?_ (fun _ => ?_)
set_option maxHeartbeats 4000000 in
theorem spec_DecLooks.fv_eq (a0 : ByteArray) : spec_DecLooks.fv a0 = ((spec_DecFront.fv a0).bind fun bt227 => (if bt227.2 = 0 then (some (0, false)) else (spec_DecLooks.l0v a0 bt227.1 bt227.2))) := by
  refine Lim.eq (spec_DecLooks.f_lim a0) ?_
  simp only [spec_DecLooks.f]
  repeat' first
    | (with_reducible apply spec_DecFront.f_lim)
    | (with_reducible apply spec_DecLooks.l0_lim)
    | (with_reducible exact Lim.const _)
    | (with_reducible refine Lim.ite ?_ ?_)
    | (with_reducible refine Lim.bind ?_ (fun _ => ?_))
    | apply spec_DecFront.f_lim
    | apply spec_DecLooks.l0_lim
    | exact Lim.const _
    | refine Lim.ite ?_ ?_
    | refine Lim.bind ?_ (fun _ => ?_)

/-! ### spec_DrawDecFront -/
def spec_DrawDecFront.f (k : Nat) (l0 : List Int) : Option (ByteArray) := (spec_l1New.f k l0).bind fun bt229 => ((spec_l2DrawText.f k bt229.1 bt229.2.1 bt229.2.2).bind fun bt233 => (some bt233.1))
theorem spec_DrawDecFront.mono : ∀ a0 k, LeO (spec_DrawDecFront.f k a0) (spec_DrawDecFront.f (k + 1) a0) := by
  intro a0 k
  unfold spec_DrawDecFront.f
  repeat' first
      | (with_reducible exact spec_l1New.mono _ _)
      | (with_reducible exact spec_l2DrawText.mono _ _ _ _)
      | (with_reducible exact LeO.refl _)
      | (with_reducible exact LeO.none _)
      | (with_reducible refine LeO.ite ?_ ?_)
      | (with_reducible refine LeO.bind ?_ (fun _ => ?_))
      | exact spec_l1New.mono _ _
      | exact spec_l2DrawText.mono _ _ _ _
      | exact LeO.none _
      | refine LeO.ite ?_ ?_
      | refine LeO.bind ?_ (fun _ => ?_)
noncomputable def spec_DrawDecFront.fv (l0 : List Int) : Option (ByteArray) := limOf (fun k => spec_DrawDecFront.f k l0)
theorem spec_DrawDecFront.f_lim (l0 : List Int) : Lim (fun k => spec_DrawDecFront.f k l0) (spec_DrawDecFront.fv l0) := Lim.of (fun k => spec_DrawDecFront.mono l0 k)
set_option maxHeartbeats 4000000 in
theorem spec_DrawDecFront.fv_eq (l0 : List Int) : spec_DrawDecFront.fv l0 = ((spec_l1New.fv l0).bind fun bt229 => ((spec_l2DrawText.fv bt229.1 bt229.2.1 bt229.2.2).bind fun bt233 => (some bt233.1))) := by
  refine Lim.eq (spec_DrawDecFront.f_lim l0) ?_
  simp only [spec_DrawDecFront.f]
  repeat' first
    | (with_reducible apply spec_l1New.f_lim)
    | (with_reducible apply spec_l2DrawText.f_lim)
    | (with_reducible exact Lim.const _)
    | (with_reducible refine Lim.ite ?_ ?_)
    | (with_reducible refine Lim.bind ?_ (fun _ => ?_))
    | apply spec_l1New.f_lim
    | apply spec_l2DrawText.f_lim
    | exact Lim.const _
    | refine Lim.ite ?_ ?_
    | refine Lim.bind ?_ (fun _ => ?_)

/-! ### laws_FnNumbers -/
mutual
def laws_FnNumbers.j0 : Nat → List Int → Bool → Option (Bool)
  | 0, _, _ => none
  | k + 1, x0, x47 => if x47 = true then (some false) else ((spec_DrawDecLooks.f k x0).bind fun t243 => ((impl_DecLooks.f k t243).bind fun bt244 => ((spec_DecLooks.f k t243).bind fun bt246 => ((spec_DrawDecFront.f k x0).bind fun t248 => ((impl_DecFront.f k t248).bind fun bt249 => ((spec_DecFront.f k t248).bind fun bt251 => (if (bt244.2 != bt246.2) = true then (laws_FnNumbers.j1 k bt244.1 true) else (if bt244.1 = bt246.1 then (if bt249.1 = bt251.1 then (if bt249.2 = bt251.2 then (if bt249.2 > (t248.size : Int) then (laws_FnNumbers.j1 k bt244.1 true) else ((impl_DecOk.f bt249.1).bind fun t253 => (if t253 = true then ((impl_DecOk.f bt244.1).bind fun t254 => (laws_FnNumbers.j1 k bt244.1 (!t254))) else (laws_FnNumbers.j1 k bt244.1 true)))) else (laws_FnNumbers.j1 k bt244.1 true)) else (laws_FnNumbers.j1 k bt244.1 true)) else (laws_FnNumbers.j1 k bt244.1 true)))))))))
def laws_FnNumbers.j1 : Nat → Int → Bool → Option (Bool)
  | 0, _, _ => none
  | k + 1, x8, x105 => if x105 = true then (some false) else ((impl_DecText.f k x8).bind fun t255 => ((impl_DecLooks.f k t255).bind fun bt256 => (if bt256.2 = true then (some (bt256.1 == x8)) else (some false))))
end
def laws_FnNumbers.f (k : Nat) (l0 : List Int) : Option (Bool) := (laws_big.f l0).bind fun t236 => (if t236 = true then (some true) else ((spec_DrawDecText.f k l0).bind fun t237 => ((impl_DecText.f k t237).bind fun t238 => ((impl_DecLooks.f k t238).bind fun bt239 => ((spec_DecText.f k t237).bind fun t241 => (if t238.toList = t241.toList then ((impl_DecOk.f t237).bind fun t242 => (if (bt239.2 != t242) = true then (laws_FnNumbers.j0 k l0 true) else (if bt239.2 = true then (laws_FnNumbers.j0 k l0 (bt239.1 != t237)) else (laws_FnNumbers.j0 k l0 false)))) else (laws_FnNumbers.j0 k l0 true)))))))
theorem laws_FnNumbers.mono_l : ∀ k, (∀ y0 y1, LeO (laws_FnNumbers.j0 k y0 y1) (laws_FnNumbers.j0 (k + 1) y0 y1)) ∧ (∀ y0 y1, LeO (laws_FnNumbers.j1 k y0 y1) (laws_FnNumbers.j1 (k + 1) y0 y1))
  | 0 => ⟨fun _ _ r h => by simp [laws_FnNumbers.j0] at h, fun _ _ r h => by simp [laws_FnNumbers.j1] at h⟩
  | k + 1 => by
    obtain ⟨ih0, ih1⟩ := laws_FnNumbers.mono_l k
    refine ⟨?_, ?_⟩
    · intro y0 y1
      unfold laws_FnNumbers.j0
      repeat' first
      | (with_reducible exact ih0 _ _)
      | (with_reducible exact ih1 _ _)
      | (with_reducible exact impl_DecFront.mono _ _)
      | (with_reducible exact impl_DecLooks.mono _ _)
      | (with_reducible exact impl_DecText.mono _ _)
      | (with_reducible exact spec_DecFront.mono _ _)
      | (with_reducible exact spec_DecLooks.mono _ _)
      | (with_reducible exact spec_DecText.mono _ _)
      | (with_reducible exact spec_DrawDecFront.mono _ _)
      | (with_reducible exact spec_DrawDecLooks.mono _ _)
      | (with_reducible exact spec_DrawDecText.mono _ _)
      | (with_reducible exact LeO.refl _)
      | (with_reducible exact LeO.none _)
      | (with_reducible refine LeO.ite ?_ ?_)
      | (with_reducible refine LeO.bind ?_ (fun _ => ?_))
      | exact ih0 _ _
      | exact ih1 _ _
      | exact impl_DecFront.mono _ _
      | exact impl_DecLooks.mono _ _
      | exact impl_DecText.mono _ _
      | exact spec_DecFront.mono _ _
      | exact spec_DecLooks.mono _ _
      | exact spec_DecText.mono _ _
      | exact spec_DrawDecFront.mono _ _
      | exact spec_DrawDecLooks.mono _ _
      | exact spec_DrawDecText.mono _ _
      | exact LeO.none _
      | refine LeO.ite ?_ ?_
      | refine LeO.bind ?_ (fun _ => ?_)
    · intro y0 y1
      unfold laws_FnNumbers.j1
      repeat' first
      | (with_reducible exact ih0 _ _)
      | (with_reducible exact ih1 _ _)
      | (with_reducible exact impl_DecFront.mono _ _)
      | (with_reducible exact impl_DecLooks.mono _ _)
      | (with_reducible exact impl_DecText.mono _ _)
      | (with_reducible exact spec_DecFront.mono _ _)
      | (with_reducible exact spec_DecLooks.mono _ _)
      | (with_reducible exact spec_DecText.mono _ _)
      | (with_reducible exact spec_DrawDecFront.mono _ _)
      | (with_reducible exact spec_DrawDecLooks.mono _ _)
      | (with_reducible exact spec_DrawDecText.mono _ _)
      | (with_reducible exact LeO.refl _)
      | (with_reducible exact LeO.none _)
      | (with_reducible refine LeO.ite ?_ ?_)
      | (with_reducible refine LeO.bind ?_ (fun _ => ?_))
      | exact ih0 _ _
      | exact ih1 _ _
      | exact impl_DecFront.mono _ _
      | exact impl_DecLooks.mono _ _
      | exact impl_DecText.mono _ _
      | exact spec_DecFront.mono _ _
      | exact spec_DecLooks.mono _ _
      | exact spec_DecText.mono _ _
      | exact spec_DrawDecFront.mono _ _
      | exact spec_DrawDecLooks.mono _ _
      | exact spec_DrawDecText.mono _ _
      | exact LeO.none _
      | refine LeO.ite ?_ ?_
      | refine LeO.bind ?_ (fun _ => ?_)
theorem laws_FnNumbers.mono : ∀ a0 k, LeO (laws_FnNumbers.f k a0) (laws_FnNumbers.f (k + 1) a0) := by
  intro a0 k
  obtain ⟨ih0, ih1⟩ := laws_FnNumbers.mono_l k
  unfold laws_FnNumbers.f
  repeat' first
      | (with_reducible exact ih0 _ _)
      | (with_reducible exact ih1 _ _)
      | (with_reducible exact impl_DecFront.mono _ _)
      | (with_reducible exact impl_DecLooks.mono _ _)
      | (with_reducible exact impl_DecText.mono _ _)
      | (with_reducible exact spec_DecFront.mono _ _)
      | (with_reducible exact spec_DecLooks.mono _ _)
      | (with_reducible exact spec_DecText.mono _ _)
      | (with_reducible exact spec_DrawDecFront.mono _ _)
      | (with_reducible exact spec_DrawDecLooks.mono _ _)
      | (with_reducible exact spec_DrawDecText.mono _ _)
      | (with_reducible exact LeO.refl _)
      | (with_reducible exact LeO.none _)
      | (with_reducible refine LeO.ite ?_ ?_)
      | (with_reducible refine LeO.bind ?_ (fun _ => ?_))
      | exact ih0 _ _
      | exact ih1 _ _
      | exact impl_DecFront.mono _ _
      | exact impl_DecLooks.mono _ _
      | exact impl_DecText.mono _ _
      | exact spec_DecFront.mono _ _
      | exact spec_DecLooks.mono _ _
      | exact spec_DecText.mono _ _
      | exact spec_DrawDecFront.mono _ _
      | exact spec_DrawDecLooks.mono _ _
      | exact spec_DrawDecText.mono _ _
      | exact LeO.none _
      | refine LeO.ite ?_ ?_
      | refine LeO.bind ?_ (fun _ => ?_)
noncomputable def laws_FnNumbers.j0v (x0 : List Int) (x47 : Bool) : Option (Bool) := limOf (fun k => laws_FnNumbers.j0 k x0 x47)
theorem laws_FnNumbers.j0_lim (x0 : List Int) (x47 : Bool) : Lim (fun k => laws_FnNumbers.j0 k x0 x47) (laws_FnNumbers.j0v x0 x47) := Lim.of (fun k => (laws_FnNumbers.mono_l k).1 x0 x47)
noncomputable def laws_FnNumbers.j1v (x8 : Int) (x105 : Bool) : Option (Bool) := limOf (fun k => laws_FnNumbers.j1 k x8 x105)
theorem laws_FnNumbers.j1_lim (x8 : Int) (x105 : Bool) : Lim (fun k => laws_FnNumbers.j1 k x8 x105) (laws_FnNumbers.j1v x8 x105) := Lim.of (fun k => (laws_FnNumbers.mono_l k).2 x8 x105)
noncomputable def laws_FnNumbers.fv (l0 : List Int) : Option (Bool) := limOf (fun k => laws_FnNumbers.f k l0)
theorem laws_FnNumbers.f_lim (l0 : List Int) : Lim (fun k => laws_FnNumbers.f k l0) (laws_FnNumbers.fv l0) := Lim.of (fun k => laws_FnNumbers.mono l0 k)
set_option maxHeartbeats 4000000 in
theorem laws_FnNumbers.j0v_eq (x0 : List Int) (x47 : Bool) : laws_FnNumbers.j0v x0 x47 = (if x47 = true then (some false) else ((spec_DrawDecLooks.fv x0).bind fun t243 => ((impl_DecLooks.fv t243).bind fun bt244 => ((spec_DecLooks.fv t243).bind fun bt246 => ((spec_DrawDecFront.fv x0).bind fun t248 => ((impl_DecFront.fv t248).bind fun bt249 => ((spec_DecFront.fv t248).bind fun bt251 => (if (bt244.2 != bt246.2) = true then (laws_FnNumbers.j1v bt244.1 true) else (if bt244.1 = bt246.1 then (if bt249.1 = bt251.1 then (if bt249.2 = bt251.2 then (if bt249.2 > (t248.size : Int) then (laws_FnNumbers.j1v bt244.1 true) else ((impl_DecOk.f bt249.1).bind fun t253 => (if t253 = true then ((impl_DecOk.f bt244.1).bind fun t254 => (laws_FnNumbers.j1v bt244.1 (!t254))) else (laws_FnNumbers.j1v bt244.1 true)))) else (laws_FnNumbers.j1v bt244.1 true)) else (laws_FnNumbers.j1v bt244.1 true)) else (laws_FnNumbers.j1v bt244.1 true)))))))))) := by
  refine Lim.succ (laws_FnNumbers.j0_lim x0 x47) ?_
  simp only [laws_FnNumbers.j0]
  repeat' first
    | (with_reducible apply impl_DecFront.f_lim)
    | (with_reducible apply impl_DecLooks.f_lim)
    | (with_reducible apply laws_FnNumbers.j1_lim)
    | (with_reducible apply spec_DecFront.f_lim)
    | (with_reducible apply spec_DecLooks.f_lim)
    | (with_reducible apply spec_DrawDecFront.f_lim)
    | (with_reducible apply spec_DrawDecLooks.f_lim)
    | (with_reducible exact Lim.const _)
    | (with_reducible refine Lim.ite ?_ ?_)
    | (with_reducible refine Lim.bind ?_ (fun _ => ?_))
    | apply impl_DecFront.f_lim
    | apply impl_DecLooks.f_lim
    | apply laws_FnNumbers.j1_lim
    | apply spec_DecFront.f_lim
    | apply spec_DecLooks.f_lim
    | apply spec_DrawDecFront.f_lim
    | apply spec_DrawDecLooks.f_lim
    | exact Lim.const _
    | refine Lim.ite ?_ ?_
    | refine Lim.bind ?_ (fun _ => ?_)
set_option maxHeartbeats 4000000 in
theorem laws_FnNumbers.j1v_eq (x8 : Int) (x105 : Bool) : laws_FnNumbers.j1v x8 x105 = (if x105 = true then (some false) else ((impl_DecText.fv x8).bind fun t255 => ((impl_DecLooks.fv t255).bind fun bt256 => (if bt256.2 = true then (some (bt256.1 == x8)) else (some false))))) := by
  refine Lim.succ (laws_FnNumbers.j1_lim x8 x105) ?_
  simp only [laws_FnNumbers.j1]
  repeat' first
    | (with_reducible apply impl_DecLooks.f_lim)
    | (with_reducible apply impl_DecText.f_lim)
    | (with_reducible exact Lim.const _)
    | (with_reducible refine Lim.ite ?_ ?_)
    | (with_reducible refine Lim.bind ?_ (fun _ => ?_))
    | apply impl_DecLooks.f_lim
    | apply impl_DecText.f_lim
    | exact Lim.const _
    | refine Lim.ite ?_ ?_
    | refine Lim.bind ?_ (fun _ => ?_)
set_option maxHeartbeats 4000000 in
theorem laws_FnNumbers.fv_eq (l0 : List Int) : laws_FnNumbers.fv l0 = ((laws_big.f l0).bind fun t236 => (if t236 = true then (some true) else ((spec_DrawDecText.fv l0).bind fun t237 => ((impl_DecText.fv t237).bind fun t238 => ((impl_DecLooks.fv t238).bind fun bt239 => ((spec_DecText.fv t237).bind fun t241 => (if t238.toList = t241.toList then ((impl_DecOk.f t237).bind fun t242 => (if (bt239.2 != t242) = true then (laws_FnNumbers.j0v l0 true) else (if bt239.2 = true then (laws_FnNumbers.j0v l0 (bt239.1 != t237)) else (laws_FnNumbers.j0v l0 false)))) else (laws_FnNumbers.j0v l0 true)))))))) := by
  refine Lim.eq (laws_FnNumbers.f_lim l0) ?_
  simp only [laws_FnNumbers.f]
  repeat' first
    | (with_reducible apply impl_DecLooks.f_lim)
    | (with_reducible apply impl_DecText.f_lim)
    | (with_reducible apply laws_FnNumbers.j0_lim)
    | (with_reducible apply spec_DecText.f_lim)
    | (with_reducible apply spec_DrawDecText.f_lim)
    | (with_reducible exact Lim.const _)
    | (with_reducible refine Lim.ite ?_ ?_)
    | (with_reducible refine Lim.bind ?_ (fun _ => ?_))
    | apply impl_DecLooks.f_lim
    | apply impl_DecText.f_lim
    | apply laws_FnNumbers.j0_lim
    | apply spec_DecText.f_lim
    | apply spec_DrawDecText.f_lim
    | exact Lim.const _
    | refine Lim.ite ?_ ?_
    | refine Lim.bind ?_ (fun _ => ?_)

end Go.Proofs.YtejndaljfbclnaaDoor.QFnNumbers
