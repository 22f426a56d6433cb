/- Written by wip/pr2, a program of this session. -/
import Derived.Test.YtelaipnanpfniaaDoorQFnTokensx0
import Derived.Test.YtelaipnanpfniaaDoorWFnTokens
namespace Go.Proofs.YtelaipnanpfniaaDoor.QFnTokens
open Go.RowKit Go.Proofs.YtelaipnanpfniaaDoorW.PrintWords Go.Proofs.YtelaipnanpfniaaDoorW.PrintLast Go.Proofs.YtelaipnanpfniaaDoorW.PrintMore
attribute [local go_sem] max2_int min2_int max_two min_two max_three min_three max_four min_four   -- for this text's walks alone
set_option linter.unusedVariables false
set_option linter.unusedSimpArgs false
set_option maxHeartbeats 8000000

open Go.Proofs.YtelaipnanpfniaaDoorW.Lims
/-! ### spec_l7Letter -/
def spec_l7Letter.f (a0 : Int) : Option (Bool) := if a0 ≥ 97 then (if a0 ≤ 122 then (some true) else (if a0 ≥ 65 then (some (decide (a0 ≤ 90))) else (some false))) else (if a0 ≥ 65 then (some (decide (a0 ≤ 90))) else (some false))

/-! ### spec_l2Digit -/
def spec_l2Digit.f (a0 : Int) : Option (Bool) := if a0 ≥ 48 then (some (decide (a0 ≤ 57))) else (some false)

/-! ### spec_DecFront -/
mutual
def spec_DecFront.j1 : Nat → ByteArray → Int → Option (Int × Int)
  | 0, _, _ => none
  | k + 1, x0, x4 => if x4 < (x0.size : Int) then (if 0 ≤ x4 then (spec_DecFront.j2 k x0 x4 ((bt x0 x4) == 45)) else (none)) else (spec_DecFront.j2 k x0 x4 false)
def spec_DecFront.j2 : Nat → ByteArray → Int → Bool → Option (Int × Int)
  | 0, _, _, _ => none
  | k + 1, x0, x4, x5 => if x4 < (x0.size : Int) then (if 0 ≤ x4 then (if (bt x0 x4) = 45 then (spec_DecFront.j3 k x0 x4 x5 true) else (spec_DecFront.j3 k x0 x4 x5 ((bt x0 x4) == 43))) else (none)) else (spec_DecFront.j3 k x0 x4 x5 false)
def spec_DecFront.j3 : Nat → ByteArray → Int → Bool → Bool → Option (Int × Int)
  | 0, _, _, _, _ => none
  | k + 1, x0, x4, x5, x46 => if x46 = true then (spec_DecFront.j4 k x0 (wrap64 (x4 + 1)) x5) else (spec_DecFront.j4 k x0 x4 x5)
def spec_DecFront.j4 : Nat → ByteArray → Int → Bool → Option (Int × Int)
  | 0, _, _, _ => none
  | k + 1, x0, x4, x5 => spec_DecFront.l1 k x0 x4 x5 0 0
def spec_DecFront.l1 : Nat → ByteArray → Int → Bool → Int → Int → Option (Int × Int)
  | 0, _, _, _, _, _ => none
  | k + 1, x0, x4, x5, x6, x7 => if x4 < (x0.size : Int) then (if 0 ≤ x4 then ((spec_l2Digit.f (bt x0 x4)).bind fun t101 => (spec_DecFront.j6 k x0 x4 x5 x6 x7 t101)) else (none)) else (spec_DecFront.j6 k x0 x4 x5 x6 x7 false)
def spec_DecFront.j6 : Nat → ByteArray → Int → Bool → Int → Int → Bool → Option (Int × Int)
  | 0, _, _, _, _, _, _ => none
  | k + 1, x0, x4, x5, x6, x7, x58 => if x58 = true then (if x6 ≤ 9000000000000 then (if 0 ≤ x4 then (if x4 < (x0.size : Int) then (spec_DecFront.l1 k x0 (wrap64 (x4 + 1)) x5 (wrap64 ((wrap64 (10 * x6)) + (wrap64 ((wrap64 ((wrap64 (bt x0 x4)) - 48)) * 1000000)))) (wrap64 (x7 + 1))) else (none)) else (none)) else (spec_DecFront.l1 k x0 (wrap64 (x4 + 1)) x5 x6 (wrap64 (x7 + 1)))) else (if (wrap64 (x4 + 1)) < (x0.size : Int) then (if 0 ≤ x4 then (if x4 < (x0.size : Int) then (if (bt x0 x4) = 46 then (if 0 ≤ (wrap64 (x4 + 1)) then ((spec_l2Digit.f (bt x0 (wrap64 (x4 + 1)))).bind fun t102 => (spec_DecFront.j7 k x0 x4 x5 x6 x7 t102)) else (none)) else (spec_DecFront.j7 k x0 x4 x5 x6 x7 false)) else (none)) else (none)) else (spec_DecFront.j7 k x0 x4 x5 x6 x7 false))
def spec_DecFront.j7 : Nat → ByteArray → Int → Bool → Int → Int → Bool → Option (Int × Int)
  | 0, _, _, _, _, _, _ => none
  | k + 1, x0, x4, x5, x6, x7, x91 => if x91 = true then (spec_DecFront.l2 k x0 (wrap64 (x4 + 1)) x5 x6 x7 100000) else (spec_DecFront.j9 k x4 x5 x6 x7)
def spec_DecFront.j9 : Nat → Int → Bool → Int → Int → Option (Int × Int)
  | 0, _, _, _, _ => none
  | k + 1, x4, x5, x6, x7 => if x7 = 0 then (spec_DecFront.j10 k x4 x5 x6 true) else (spec_DecFront.j10 k x4 x5 x6 (decide (x6 > 9000000000000)))
def spec_DecFront.j10 : Nat → Int → Bool → Int → Bool → Option (Int × Int)
  | 0, _, _, _, _ => none
  | k + 1, x4, x5, x6, x124 => if x124 = true then (some (0, 0)) else (if x5 = true then (some (wrap64 (-x6), x4)) else (some (x6, x4)))
def spec_DecFront.l2 : Nat → ByteArray → Int → Bool → Int → Int → Int → Option (Int × Int)
  | 0, _, _, _, _, _, _ => none
  | k + 1, x0, x4, x5, x6, x7, x8 => if x4 < (x0.size : Int) then (if 0 ≤ x4 then ((spec_l2Digit.f (bt x0 x4)).bind fun t103 => (if t103 = true then (spec_DecFront.l2 k x0 (wrap64 (x4 + 1)) x5 (wrap64 (x6 + (wrap64 ((wrap64 ((wrap64 (bt x0 x4)) - 48)) * x8)))) (wrap64 (x7 + 1)) (wrap64 (Int.tdiv x8 10))) else (spec_DecFront.j9 k x4 x5 x6 x7))) else (none)) else (spec_DecFront.j9 k x4 x5 x6 x7)
def spec_DecFront.l0 : Nat → ByteArray → Int → Option (Int × Int)
  | 0, _, _ => none
  | k + 1, x0, x4 => if x4 < (x0.size : Int) then (if 0 ≤ x4 then (if (bt x0 x4) = 32 then (spec_DecFront.l0 k x0 (wrap64 (x4 + 1))) else (spec_DecFront.j1 k x0 x4)) else (none)) else (spec_DecFront.j1 k x0 x4)
end
def spec_DecFront.f (k : Nat) (a0 : ByteArray) : Option (Int × Int) := spec_DecFront.l0 k a0 0
theorem spec_DecFront.mono_l : ∀ k, (∀ y0 y1, LeO (spec_DecFront.j1 k y0 y1) (spec_DecFront.j1 (k + 1) y0 y1)) ∧ (∀ y0 y1 y2, LeO (spec_DecFront.j2 k y0 y1 y2) (spec_DecFront.j2 (k + 1) y0 y1 y2)) ∧ (∀ y0 y1 y2 y3, LeO (spec_DecFront.j3 k y0 y1 y2 y3) (spec_DecFront.j3 (k + 1) y0 y1 y2 y3)) ∧ (∀ y0 y1 y2, LeO (spec_DecFront.j4 k y0 y1 y2) (spec_DecFront.j4 (k + 1) y0 y1 y2)) ∧ (∀ y0 y1 y2 y3 y4, LeO (spec_DecFront.l1 k y0 y1 y2 y3 y4) (spec_DecFront.l1 (k + 1) y0 y1 y2 y3 y4)) ∧ (∀ y0 y1 y2 y3 y4 y5, LeO (spec_DecFront.j6 k y0 y1 y2 y3 y4 y5) (spec_DecFront.j6 (k + 1) y0 y1 y2 y3 y4 y5)) ∧ (∀ y0 y1 y2 y3 y4 y5, LeO (spec_DecFront.j7 k y0 y1 y2 y3 y4 y5) (spec_DecFront.j7 (k + 1) y0 y1 y2 y3 y4 y5)) ∧ (∀ y0 y1 y2 y3, LeO (spec_DecFront.j9 k y0 y1 y2 y3) (spec_DecFront.j9 (k + 1) y0 y1 y2 y3)) ∧ (∀ y0 y1 y2 y3, LeO (spec_DecFront.j10 k y0 y1 y2 y3) (spec_DecFront.j10 (k + 1) y0 y1 y2 y3)) ∧ (∀ y0 y1 y2 y3 y4 y5, LeO (spec_DecFront.l2 k y0 y1 y2 y3 y4 y5) (spec_DecFront.l2 (k + 1) y0 y1 y2 y3 y4 y5)) ∧ (∀ y0 y1, LeO (spec_DecFront.l0 k y0 y1) (spec_DecFront.l0 (k + 1) y0 y1))
  | 0 => ⟨fun _ _ r h => by simp [spec_DecFront.j1] at h, fun _ _ _ r h => by simp [spec_DecFront.j2] at h, fun _ _ _ _ r h => by simp [spec_DecFront.j3] at h, fun _ _ _ r h => by simp [spec_DecFront.j4] at h, fun _ _ _ _ _ r h => by simp [spec_DecFront.l1] at h, fun _ _ _ _ _ _ r h => by simp [spec_DecFront.j6] at h, fun _ _ _ _ _ _ r h => by simp [spec_DecFront.j7] at h, fun _ _ _ _ r h => by simp [spec_DecFront.j9] at h, fun _ _ _ _ r h => by simp [spec_DecFront.j10] at h, fun _ _ _ _ _ _ r h => by simp [spec_DecFront.l2] at h, fun _ _ r h => by simp [spec_DecFront.l0] at h⟩
  | k + 1 => by
    obtain ⟨ih0, ih1, ih2, ih3, ih4, ih5, ih6, ih7, ih8, ih9, ih10⟩ := spec_DecFront.mono_l k
    refine ⟨?_, ?_, ?_, ?_, ?_, ?_, ?_, ?_, ?_, ?_, ?_⟩
    · intro y0 y1
      unfold spec_DecFront.j1
      repeat' first
      | (with_reducible exact ih0 _ _)
      | (with_reducible exact ih1 _ _ _)
      | (with_reducible exact ih2 _ _ _ _)
      | (with_reducible exact ih3 _ _ _)
      | (with_reducible exact ih4 _ _ _ _ _)
      | (with_reducible exact ih5 _ _ _ _ _ _)
      | (with_reducible exact ih6 _ _ _ _ _ _)
      | (with_reducible exact ih7 _ _ _ _)
      | (with_reducible exact ih8 _ _ _ _)
      | (with_reducible exact ih9 _ _ _ _ _ _)
      | (with_reducible exact ih10 _ _)
      | (with_reducible exact LeO.refl _)
      | (with_reducible exact LeO.none _)
      | (with_reducible refine LeO.ite ?_ ?_)
      | (with_reducible refine LeO.bind ?_ (fun _ => ?_))
      | exact ih0 _ _
      | exact ih1 _ _ _
      | exact ih2 _ _ _ _
      | exact ih3 _ _ _
      | exact ih4 _ _ _ _ _
      | exact ih5 _ _ _ _ _ _
      | exact ih6 _ _ _ _ _ _
      | exact ih7 _ _ _ _
      | exact ih8 _ _ _ _
      | exact ih9 _ _ _ _ _ _
      | exact ih10 _ _
      | exact LeO.none _
      | refine LeO.ite ?_ ?_
      | refine LeO.bind ?_ (fun _ => ?_)
    · intro y0 y1 y2
      unfold spec_DecFront.j2
      repeat' first
      | (with_reducible exact ih0 _ _)
      | (with_reducible exact ih1 _ _ _)
      | (with_reducible exact ih2 _ _ _ _)
      | (with_reducible exact ih3 _ _ _)
      | (with_reducible exact ih4 _ _ _ _ _)
      | (with_reducible exact ih5 _ _ _ _ _ _)
      | (with_reducible exact ih6 _ _ _ _ _ _)
      | (with_reducible exact ih7 _ _ _ _)
      | (with_reducible exact ih8 _ _ _ _)
      | (with_reducible exact ih9 _ _ _ _ _ _)
      | (with_reducible exact ih10 _ _)
      | (with_reducible exact LeO.refl _)
      | (with_reducible exact LeO.none _)
      | (with_reducible refine LeO.ite ?_ ?_)
      | (with_reducible refine LeO.bind ?_ (fun _ => ?_))
      | exact ih0 _ _
      | exact ih1 _ _ _
      | exact ih2 _ _ _ _
      | exact ih3 _ _ _
      | exact ih4 _ _ _ _ _
      | exact ih5 _ _ _ _ _ _
      | exact ih6 _ _ _ _ _ _
      | exact ih7 _ _ _ _
      | exact ih8 _ _ _ _
      | exact ih9 _ _ _ _ _ _
      | exact ih10 _ _
      | exact LeO.none _
      | refine LeO.ite ?_ ?_
      | refine LeO.bind ?_ (fun _ => ?_)
    · intro y0 y1 y2 y3
      unfold spec_DecFront.j3
      repeat' first
      | (with_reducible exact ih0 _ _)
      | (with_reducible exact ih1 _ _ _)
      | (with_reducible exact ih2 _ _ _ _)
      | (with_reducible exact ih3 _ _ _)
      | (with_reducible exact ih4 _ _ _ _ _)
      | (with_reducible exact ih5 _ _ _ _ _ _)
      | (with_reducible exact ih6 _ _ _ _ _ _)
      | (with_reducible exact ih7 _ _ _ _)
      | (with_reducible exact ih8 _ _ _ _)
      | (with_reducible exact ih9 _ _ _ _ _ _)
      | (with_reducible exact ih10 _ _)
      | (with_reducible exact LeO.refl _)
      | (with_reducible exact LeO.none _)
      | (with_reducible refine LeO.ite ?_ ?_)
      | (with_reducible refine LeO.bind ?_ (fun _ => ?_))
      | exact ih0 _ _
      | exact ih1 _ _ _
      | exact ih2 _ _ _ _
      | exact ih3 _ _ _
      | exact ih4 _ _ _ _ _
      | exact ih5 _ _ _ _ _ _
      | exact ih6 _ _ _ _ _ _
      | exact ih7 _ _ _ _
      | exact ih8 _ _ _ _
      | exact ih9 _ _ _ _ _ _
      | exact ih10 _ _
      | exact LeO.none _
      | refine LeO.ite ?_ ?_
      | refine LeO.bind ?_ (fun _ => ?_)
    · intro y0 y1 y2
      unfold spec_DecFront.j4
      repeat' first
      | (with_reducible exact ih0 _ _)
      | (with_reducible exact ih1 _ _ _)
      | (with_reducible exact ih2 _ _ _ _)
      | (with_reducible exact ih3 _ _ _)
      | (with_reducible exact ih4 _ _ _ _ _)
      | (with_reducible exact ih5 _ _ _ _ _ _)
      | (with_reducible exact ih6 _ _ _ _ _ _)
      | (with_reducible exact ih7 _ _ _ _)
      | (with_reducible exact ih8 _ _ _ _)
      | (with_reducible exact ih9 _ _ _ _ _ _)
      | (with_reducible exact ih10 _ _)
      | (with_reducible exact LeO.refl _)
      | (with_reducible exact LeO.none _)
      | (with_reducible refine LeO.ite ?_ ?_)
      | (with_reducible refine LeO.bind ?_ (fun _ => ?_))
      | exact ih0 _ _
      | exact ih1 _ _ _
      | exact ih2 _ _ _ _
      | exact ih3 _ _ _
      | exact ih4 _ _ _ _ _
      | exact ih5 _ _ _ _ _ _
      | exact ih6 _ _ _ _ _ _
      | exact ih7 _ _ _ _
      | exact ih8 _ _ _ _
      | exact ih9 _ _ _ _ _ _
      | exact ih10 _ _
      | exact LeO.none _
      | refine LeO.ite ?_ ?_
      | refine LeO.bind ?_ (fun _ => ?_)
    · intro y0 y1 y2 y3 y4
      unfold spec_DecFront.l1
      repeat' first
      | (with_reducible exact ih0 _ _)
      | (with_reducible exact ih1 _ _ _)
      | (with_reducible exact ih2 _ _ _ _)
      | (with_reducible exact ih3 _ _ _)
      | (with_reducible exact ih4 _ _ _ _ _)
      | (with_reducible exact ih5 _ _ _ _ _ _)
      | (with_reducible exact ih6 _ _ _ _ _ _)
      | (with_reducible exact ih7 _ _ _ _)
      | (with_reducible exact ih8 _ _ _ _)
      | (with_reducible exact ih9 _ _ _ _ _ _)
      | (with_reducible exact ih10 _ _)
      | (with_reducible exact LeO.refl _)
      | (with_reducible exact LeO.none _)
      | (with_reducible refine LeO.ite ?_ ?_)
      | (with_reducible refine LeO.bind ?_ (fun _ => ?_))
      | exact ih0 _ _
      | exact ih1 _ _ _
      | exact ih2 _ _ _ _
      | exact ih3 _ _ _
      | exact ih4 _ _ _ _ _
      | exact ih5 _ _ _ _ _ _
      | exact ih6 _ _ _ _ _ _
      | exact ih7 _ _ _ _
      | exact ih8 _ _ _ _
      | exact ih9 _ _ _ _ _ _
      | exact ih10 _ _
      | exact LeO.none _
      | refine LeO.ite ?_ ?_
      | refine LeO.bind ?_ (fun _ => ?_)
    · intro y0 y1 y2 y3 y4 y5
      unfold spec_DecFront.j6
      repeat' first
      | (with_reducible exact ih0 _ _)
      | (with_reducible exact ih1 _ _ _)
      | (with_reducible exact ih2 _ _ _ _)
      | (with_reducible exact ih3 _ _ _)
      | (with_reducible exact ih4 _ _ _ _ _)
      | (with_reducible exact ih5 _ _ _ _ _ _)
      | (with_reducible exact ih6 _ _ _ _ _ _)
      | (with_reducible exact ih7 _ _ _ _)
      | (with_reducible exact ih8 _ _ _ _)
      | (with_reducible exact ih9 _ _ _ _ _ _)
      | (with_reducible exact ih10 _ _)
      | (with_reducible exact LeO.refl _)
      | (with_reducible exact LeO.none _)
      | (with_reducible refine LeO.ite ?_ ?_)
      | (with_reducible refine LeO.bind ?_ (fun _ => ?_))
      | exact ih0 _ _
      | exact ih1 _ _ _
      | exact ih2 _ _ _ _
      | exact ih3 _ _ _
      | exact ih4 _ _ _ _ _
      | exact ih5 _ _ _ _ _ _
      | exact ih6 _ _ _ _ _ _
      | exact ih7 _ _ _ _
      | exact ih8 _ _ _ _
      | exact ih9 _ _ _ _ _ _
      | exact ih10 _ _
      | exact LeO.none _
      | refine LeO.ite ?_ ?_
      | refine LeO.bind ?_ (fun _ => ?_)
    · intro y0 y1 y2 y3 y4 y5
      unfold spec_DecFront.j7
      repeat' first
      | (with_reducible exact ih0 _ _)
      | (with_reducible exact ih1 _ _ _)
      | (with_reducible exact ih2 _ _ _ _)
      | (with_reducible exact ih3 _ _ _)
      | (with_reducible exact ih4 _ _ _ _ _)
      | (with_reducible exact ih5 _ _ _ _ _ _)
      | (with_reducible exact ih6 _ _ _ _ _ _)
      | (with_reducible exact ih7 _ _ _ _)
      | (with_reducible exact ih8 _ _ _ _)
      | (with_reducible exact ih9 _ _ _ _ _ _)
      | (with_reducible exact ih10 _ _)
      | (with_reducible exact LeO.refl _)
      | (with_reducible exact LeO.none _)
      | (with_reducible refine LeO.ite ?_ ?_)
      | (with_reducible refine LeO.bind ?_ (fun _ => ?_))
      | exact ih0 _ _
      | exact ih1 _ _ _
      | exact ih2 _ _ _ _
      | exact ih3 _ _ _
      | exact ih4 _ _ _ _ _
      | exact ih5 _ _ _ _ _ _
      | exact ih6 _ _ _ _ _ _
      | exact ih7 _ _ _ _
      | exact ih8 _ _ _ _
      | exact ih9 _ _ _ _ _ _
      | exact ih10 _ _
      | exact LeO.none _
      | refine LeO.ite ?_ ?_
      | refine LeO.bind ?_ (fun _ => ?_)
    · intro y0 y1 y2 y3
      unfold spec_DecFront.j9
      repeat' first
      | (with_reducible exact ih0 _ _)
      | (with_reducible exact ih1 _ _ _)
      | (with_reducible exact ih2 _ _ _ _)
      | (with_reducible exact ih3 _ _ _)
      | (with_reducible exact ih4 _ _ _ _ _)
      | (with_reducible exact ih5 _ _ _ _ _ _)
      | (with_reducible exact ih6 _ _ _ _ _ _)
      | (with_reducible exact ih7 _ _ _ _)
      | (with_reducible exact ih8 _ _ _ _)
      | (with_reducible exact ih9 _ _ _ _ _ _)
      | (with_reducible exact ih10 _ _)
      | (with_reducible exact LeO.refl _)
      | (with_reducible exact LeO.none _)
      | (with_reducible refine LeO.ite ?_ ?_)
      | (with_reducible refine LeO.bind ?_ (fun _ => ?_))
      | exact ih0 _ _
      | exact ih1 _ _ _
      | exact ih2 _ _ _ _
      | exact ih3 _ _ _
      | exact ih4 _ _ _ _ _
      | exact ih5 _ _ _ _ _ _
      | exact ih6 _ _ _ _ _ _
      | exact ih7 _ _ _ _
      | exact ih8 _ _ _ _
      | exact ih9 _ _ _ _ _ _
      | exact ih10 _ _
      | exact LeO.none _
      | refine LeO.ite ?_ ?_
      | refine LeO.bind ?_ (fun _ => ?_)
    · intro y0 y1 y2 y3
      unfold spec_DecFront.j10
      repeat' first
      | (with_reducible exact ih0 _ _)
      | (with_reducible exact ih1 _ _ _)
      | (with_reducible exact ih2 _ _ _ _)
      | (with_reducible exact ih3 _ _ _)
      | (with_reducible exact ih4 _ _ _ _ _)
      | (with_reducible exact ih5 _ _ _ _ _ _)
      | (with_reducible exact ih6 _ _ _ _ _ _)
      | (with_reducible exact ih7 _ _ _ _)
      | (with_reducible exact ih8 _ _ _ _)
      | (with_reducible exact ih9 _ _ _ _ _ _)
      | (with_reducible exact ih10 _ _)
      | (with_reducible exact LeO.refl _)
      | (with_reducible exact LeO.none _)
      | (with_reducible refine LeO.ite ?_ ?_)
      | (with_reducible refine LeO.bind ?_ (fun _ => ?_))
      | exact ih0 _ _
      | exact ih1 _ _ _
      | exact ih2 _ _ _ _
      | exact ih3 _ _ _
      | exact ih4 _ _ _ _ _
      | exact ih5 _ _ _ _ _ _
      | exact ih6 _ _ _ _ _ _
      | exact ih7 _ _ _ _
      | exact ih8 _ _ _ _
      | exact ih9 _ _ _ _ _ _
      | exact ih10 _ _
      | exact LeO.none _
      | refine LeO.ite ?_ ?_
      | refine LeO.bind ?_ (fun _ => ?_)
    · intro y0 y1 y2 y3 y4 y5
      unfold spec_DecFront.l2
      repeat' first
      | (with_reducible exact ih0 _ _)
      | (with_reducible exact ih1 _ _ _)
      | (with_reducible exact ih2 _ _ _ _)
      | (with_reducible exact ih3 _ _ _)
      | (with_reducible exact ih4 _ _ _ _ _)
      | (with_reducible exact ih5 _ _ _ _ _ _)
      | (with_reducible exact ih6 _ _ _ _ _ _)
      | (with_reducible exact ih7 _ _ _ _)
      | (with_reducible exact ih8 _ _ _ _)
      | (with_reducible exact ih9 _ _ _ _ _ _)
      | (with_reducible exact ih10 _ _)
      | (with_reducible exact LeO.refl _)
      | (with_reducible exact LeO.none _)
      | (with_reducible refine LeO.ite ?_ ?_)
      | (with_reducible refine LeO.bind ?_ (fun _ => ?_))
      | exact ih0 _ _
      | exact ih1 _ _ _
      | exact ih2 _ _ _ _
      | exact ih3 _ _ _
      | exact ih4 _ _ _ _ _
      | exact ih5 _ _ _ _ _ _
      | exact ih6 _ _ _ _ _ _
      | exact ih7 _ _ _ _
      | exact ih8 _ _ _ _
      | exact ih9 _ _ _ _ _ _
      | exact ih10 _ _
      | exact LeO.none _
      | refine LeO.ite ?_ ?_
      | refine LeO.bind ?_ (fun _ => ?_)
    · intro y0 y1
      unfold spec_DecFront.l0
      repeat' first
      | (with_reducible exact ih0 _ _)
      | (with_reducible exact ih1 _ _ _)
      | (with_reducible exact ih2 _ _ _ _)
      | (with_reducible exact ih3 _ _ _)
      | (with_reducible exact ih4 _ _ _ _ _)
      | (with_reducible exact ih5 _ _ _ _ _ _)
      | (with_reducible exact ih6 _ _ _ _ _ _)
      | (with_reducible exact ih7 _ _ _ _)
      | (with_reducible exact ih8 _ _ _ _)
      | (with_reducible exact ih9 _ _ _ _ _ _)
      | (with_reducible exact ih10 _ _)
      | (with_reducible exact LeO.refl _)
      | (with_reducible exact LeO.none _)
      | (with_reducible refine LeO.ite ?_ ?_)
      | (with_reducible refine LeO.bind ?_ (fun _ => ?_))
      | exact ih0 _ _
      | exact ih1 _ _ _
      | exact ih2 _ _ _ _
      | exact ih3 _ _ _
      | exact ih4 _ _ _ _ _
      | exact ih5 _ _ _ _ _ _
      | exact ih6 _ _ _ _ _ _
      | exact ih7 _ _ _ _
      | exact ih8 _ _ _ _
      | exact ih9 _ _ _ _ _ _
      | exact ih10 _ _
      | exact LeO.none _
      | refine LeO.ite ?_ ?_
      | refine LeO.bind ?_ (fun _ => ?_)
theorem spec_DecFront.mono : ∀ a0 k, LeO (spec_DecFront.f k a0) (spec_DecFront.f (k + 1) a0) := by
  intro a0 k
  obtain ⟨ih0, ih1, ih2, ih3, ih4, ih5, ih6, ih7, ih8, ih9, ih10⟩ := spec_DecFront.mono_l k
  unfold spec_DecFront.f
  repeat' first
      | (with_reducible exact ih0 _ _)
      | (with_reducible exact ih1 _ _ _)
      | (with_reducible exact ih2 _ _ _ _)
      | (with_reducible exact ih3 _ _ _)
      | (with_reducible exact ih4 _ _ _ _ _)
      | (with_reducible exact ih5 _ _ _ _ _ _)
      | (with_reducible exact ih6 _ _ _ _ _ _)
      | (with_reducible exact ih7 _ _ _ _)
      | (with_reducible exact ih8 _ _ _ _)
      | (with_reducible exact ih9 _ _ _ _ _ _)
      | (with_reducible exact ih10 _ _)
      | (with_reducible exact LeO.refl _)
      | (with_reducible exact LeO.none _)
      | (with_reducible refine LeO.ite ?_ ?_)
      | (with_reducible refine LeO.bind ?_ (fun _ => ?_))
      | exact ih0 _ _
      | exact ih1 _ _ _
      | exact ih2 _ _ _ _
      | exact ih3 _ _ _
      | exact ih4 _ _ _ _ _
      | exact ih5 _ _ _ _ _ _
      | exact ih6 _ _ _ _ _ _
      | exact ih7 _ _ _ _
      | exact ih8 _ _ _ _
      | exact ih9 _ _ _ _ _ _
      | exact ih10 _ _
      | exact LeO.none _
      | refine LeO.ite ?_ ?_
      | refine LeO.bind ?_ (fun _ => ?_)
noncomputable def spec_DecFront.j1v (x0 : ByteArray) (x4 : Int) : Option (Int × Int) := limOf (fun k => spec_DecFront.j1 k x0 x4)
theorem spec_DecFront.j1_lim (x0 : ByteArray) (x4 : Int) : Lim (fun k => spec_DecFront.j1 k x0 x4) (spec_DecFront.j1v x0 x4) := Lim.of (fun k => (spec_DecFront.mono_l k).1 x0 x4)
noncomputable def spec_DecFront.j2v (x0 : ByteArray) (x4 : Int) (x5 : Bool) : Option (Int × Int) := limOf (fun k => spec_DecFront.j2 k x0 x4 x5)
theorem spec_DecFront.j2_lim (x0 : ByteArray) (x4 : Int) (x5 : Bool) : Lim (fun k => spec_DecFront.j2 k x0 x4 x5) (spec_DecFront.j2v x0 x4 x5) := Lim.of (fun k => (spec_DecFront.mono_l k).2.1 x0 x4 x5)
noncomputable def spec_DecFront.j3v (x0 : ByteArray) (x4 : Int) (x5 : Bool) (x46 : Bool) : Option (Int × Int) := limOf (fun k => spec_DecFront.j3 k x0 x4 x5 x46)
theorem spec_DecFront.j3_lim (x0 : ByteArray) (x4 : Int) (x5 : Bool) (x46 : Bool) : Lim (fun k => spec_DecFront.j3 k x0 x4 x5 x46) (spec_DecFront.j3v x0 x4 x5 x46) := Lim.of (fun k => (spec_DecFront.mono_l k).2.2.1 x0 x4 x5 x46)
noncomputable def spec_DecFront.j4v (x0 : ByteArray) (x4 : Int) (x5 : Bool) : Option (Int × Int) := limOf (fun k => spec_DecFront.j4 k x0 x4 x5)
theorem spec_DecFront.j4_lim (x0 : ByteArray) (x4 : Int) (x5 : Bool) : Lim (fun k => spec_DecFront.j4 k x0 x4 x5) (spec_DecFront.j4v x0 x4 x5) := Lim.of (fun k => (spec_DecFront.mono_l k).2.2.2.1 x0 x4 x5)
noncomputable def spec_DecFront.l1v (x0 : ByteArray) (x4 : Int) (x5 : Bool) (x6 : Int) (x7 : Int) : Option (Int × Int) := limOf (fun k => spec_DecFront.l1 k x0 x4 x5 x6 x7)
theorem spec_DecFront.l1_lim (x0 : ByteArray) (x4 : Int) (x5 : Bool) (x6 : Int) (x7 : Int) : Lim (fun k => spec_DecFront.l1 k x0 x4 x5 x6 x7) (spec_DecFront.l1v x0 x4 x5 x6 x7) := Lim.of (fun k => (spec_DecFront.mono_l k).2.2.2.2.1 x0 x4 x5 x6 x7)
noncomputable def spec_DecFront.j6v (x0 : ByteArray) (x4 : Int) (x5 : Bool) (x6 : Int) (x7 : Int) (x58 : Bool) : Option (Int × Int) := limOf (fun k => spec_DecFront.j6 k x0 x4 x5 x6 x7 x58)
theorem spec_DecFront.j6_lim (x0 : ByteArray) (x4 : Int) (x5 : Bool) (x6 : Int) (x7 : Int) (x58 : Bool) : Lim (fun k => spec_DecFront.j6 k x0 x4 x5 x6 x7 x58) (spec_DecFront.j6v x0 x4 x5 x6 x7 x58) := Lim.of (fun k => (spec_DecFront.mono_l k).2.2.2.2.2.1 x0 x4 x5 x6 x7 x58)
noncomputable def spec_DecFront.j7v (x0 : ByteArray) (x4 : Int) (x5 : Bool) (x6 : Int) (x7 : Int) (x91 : Bool) : Option (Int × Int) := limOf (fun k => spec_DecFront.j7 k x0 x4 x5 x6 x7 x91)
theorem spec_DecFront.j7_lim (x0 : ByteArray) (x4 : Int) (x5 : Bool) (x6 : Int) (x7 : Int) (x91 : Bool) : Lim (fun k => spec_DecFront.j7 k x0 x4 x5 x6 x7 x91) (spec_DecFront.j7v x0 x4 x5 x6 x7 x91) := Lim.of (fun k => (spec_DecFront.mono_l k).2.2.2.2.2.2.1 x0 x4 x5 x6 x7 x91)
noncomputable def spec_DecFront.j9v (x4 : Int) (x5 : Bool) (x6 : Int) (x7 : Int) : Option (Int × Int) := limOf (fun k => spec_DecFront.j9 k x4 x5 x6 x7)
theorem spec_DecFront.j9_lim (x4 : Int) (x5 : Bool) (x6 : Int) (x7 : Int) : Lim (fun k => spec_DecFront.j9 k x4 x5 x6 x7) (spec_DecFront.j9v x4 x5 x6 x7) := Lim.of (fun k => (spec_DecFront.mono_l k).2.2.2.2.2.2.2.1 x4 x5 x6 x7)
noncomputable def spec_DecFront.j10v (x4 : Int) (x5 : Bool) (x6 : Int) (x124 : Bool) : Option (Int × Int) := limOf (fun k => spec_DecFront.j10 k x4 x5 x6 x124)
theorem spec_DecFront.j10_lim (x4 : Int) (x5 : Bool) (x6 : Int) (x124 : Bool) : Lim (fun k => spec_DecFront.j10 k x4 x5 x6 x124) (spec_DecFront.j10v x4 x5 x6 x124) := Lim.of (fun k => (spec_DecFront.mono_l k).2.2.2.2.2.2.2.2.1 x4 x5 x6 x124)
noncomputable def spec_DecFront.l2v (x0 : ByteArray) (x4 : Int) (x5 : Bool) (x6 : Int) (x7 : Int) (x8 : Int) : Option (Int × Int) := limOf (fun k => spec_DecFront.l2 k x0 x4 x5 x6 x7 x8)
theorem spec_DecFront.l2_lim (x0 : ByteArray) (x4 : Int) (x5 : Bool) (x6 : Int) (x7 : Int) (x8 : Int) : Lim (fun k => spec_DecFront.l2 k x0 x4 x5 x6 x7 x8) (spec_DecFront.l2v x0 x4 x5 x6 x7 x8) := Lim.of (fun k => (spec_DecFront.mono_l k).2.2.2.2.2.2.2.2.2.1 x0 x4 x5 x6 x7 x8)
noncomputable def spec_DecFront.l0v (x0 : ByteArray) (x4 : Int) : Option (Int × Int) := limOf (fun k => spec_DecFront.l0 k x0 x4)
theorem spec_DecFront.l0_lim (x0 : ByteArray) (x4 : Int) : Lim (fun k => spec_DecFront.l0 k x0 x4) (spec_DecFront.l0v x0 x4) := Lim.of (fun k => (spec_DecFront.mono_l k).2.2.2.2.2.2.2.2.2.2 x0 x4)
noncomputable def spec_DecFront.fv (a0 : ByteArray) : Option (Int × Int) := limOf (fun k => spec_DecFront.f k a0)
theorem spec_DecFront.f_lim (a0 : ByteArray) : Lim (fun k => spec_DecFront.f k a0) (spec_DecFront.fv a0) := Lim.of (fun k => spec_DecFront.mono a0 k)
set_option maxHeartbeats 4000000 in
theorem spec_DecFront.j1v_eq (x0 : ByteArray) (x4 : Int) : spec_DecFront.j1v x0 x4 = (if x4 < (x0.size : Int) then (if 0 ≤ x4 then (spec_DecFront.j2v x0 x4 ((bt x0 x4) == 45)) else (none)) else (spec_DecFront.j2v x0 x4 false)) := by
  refine Lim.succ (spec_DecFront.j1_lim x0 x4) ?_
  simp only [spec_DecFront.j1]
  repeat' first
    | (with_reducible apply spec_DecFront.j2_lim)
    | (with_reducible exact Lim.const _)
    | (with_reducible refine Lim.ite ?_ ?_)
    | (with_reducible refine Lim.bind ?_ (fun _ => ?_))
    | apply spec_DecFront.j2_lim
    | exact Lim.const _
    | refine Lim.ite ?_ ?_
    | refine Lim.bind ?_ (fun _ => ?_)
set_option maxHeartbeats 4000000 in
theorem spec_DecFront.j2v_eq (x0 : ByteArray) (x4 : Int) (x5 : Bool) : spec_DecFront.j2v x0 x4 x5 = (if x4 < (x0.size : Int) then (if 0 ≤ x4 then (if (bt x0 x4) = 45 then (spec_DecFront.j3v x0 x4 x5 true) else (spec_DecFront.j3v x0 x4 x5 ((bt x0 x4) == 43))) else (none)) else (spec_DecFront.j3v x0 x4 x5 false)) := by
  refine Lim.succ (spec_DecFront.j2_lim x0 x4 x5) ?_
  simp only [spec_DecFront.j2]
  repeat' first
    | (with_reducible apply spec_DecFront.j3_lim)
    | (with_reducible exact Lim.const _)
    | (with_reducible refine Lim.ite ?_ ?_)
    | (with_reducible refine Lim.bind ?_ (fun _ => ?_))
    | apply spec_DecFront.j3_lim
    | exact Lim.const _
    | refine Lim.ite ?_ ?_
    | refine Lim.bind ?_ (fun _ => ?_)
set_option maxHeartbeats 4000000 in
theorem spec_DecFront.j3v_eq (x0 : ByteArray) (x4 : Int) (x5 : Bool) (x46 : Bool) : spec_DecFront.j3v x0 x4 x5 x46 = (if x46 = true then (spec_DecFront.j4v x0 (wrap64 (x4 + 1)) x5) else (spec_DecFront.j4v x0 x4 x5)) := by
  refine Lim.succ (spec_DecFront.j3_lim x0 x4 x5 x46) ?_
  simp only [spec_DecFront.j3]
  repeat' first
    | (with_reducible apply spec_DecFront.j4_lim)
    | (with_reducible exact Lim.const _)
    | (with_reducible refine Lim.ite ?_ ?_)
    | (with_reducible refine Lim.bind ?_ (fun _ => ?_))
    | apply spec_DecFront.j4_lim
    | exact Lim.const _
    | refine Lim.ite ?_ ?_
    | refine Lim.bind ?_ (fun _ => ?_)
set_option maxHeartbeats 4000000 in
theorem spec_DecFront.j4v_eq (x0 : ByteArray) (x4 : Int) (x5 : Bool) : spec_DecFront.j4v x0 x4 x5 = (spec_DecFront.l1v x0 x4 x5 0 0) := by
  refine Lim.succ (spec_DecFront.j4_lim x0 x4 x5) ?_
  simp only [spec_DecFront.j4]
  repeat' first
    | (with_reducible apply spec_DecFront.l1_lim)
    | (with_reducible exact Lim.const _)
    | (with_reducible refine Lim.ite ?_ ?_)
    | (with_reducible refine Lim.bind ?_ (fun _ => ?_))
    | apply spec_DecFront.l1_lim
    | exact Lim.const _
    | refine Lim.ite ?_ ?_
    | refine Lim.bind ?_ (fun _ => ?_)
set_option maxHeartbeats 4000000 in
theorem spec_DecFront.l1v_eq (x0 : ByteArray) (x4 : Int) (x5 : Bool) (x6 : Int) (x7 : Int) : spec_DecFront.l1v x0 x4 x5 x6 x7 = (if x4 < (x0.size : Int) then (if 0 ≤ x4 then ((spec_l2Digit.f (bt x0 x4)).bind fun t101 => (spec_DecFront.j6v x0 x4 x5 x6 x7 t101)) else (none)) else (spec_DecFront.j6v x0 x4 x5 x6 x7 false)) := by
  refine Lim.succ (spec_DecFront.l1_lim x0 x4 x5 x6 x7) ?_
  simp only [spec_DecFront.l1]
  repeat' first
    | (with_reducible apply spec_DecFront.j6_lim)
    | (with_reducible exact Lim.const _)
    | (with_reducible refine Lim.ite ?_ ?_)
    | (with_reducible refine Lim.bind ?_ (fun _ => ?_))
    | apply spec_DecFront.j6_lim
    | exact Lim.const _
    | refine Lim.ite ?_ ?_
    | refine Lim.bind ?_ (fun _ => ?_)
set_option maxHeartbeats 4000000 in
theorem spec_DecFront.j6v_eq (x0 : ByteArray) (x4 : Int) (x5 : Bool) (x6 : Int) (x7 : Int) (x58 : Bool) : spec_DecFront.j6v x0 x4 x5 x6 x7 x58 = (if x58 = true then (if x6 ≤ 9000000000000 then (if 0 ≤ x4 then (if x4 < (x0.size : Int) then (spec_DecFront.l1v x0 (wrap64 (x4 + 1)) x5 (wrap64 ((wrap64 (10 * x6)) + (wrap64 ((wrap64 ((wrap64 (bt x0 x4)) - 48)) * 1000000)))) (wrap64 (x7 + 1))) else (none)) else (none)) else (spec_DecFront.l1v x0 (wrap64 (x4 + 1)) x5 x6 (wrap64 (x7 + 1)))) else (if (wrap64 (x4 + 1)) < (x0.size : Int) then (if 0 ≤ x4 then (if x4 < (x0.size : Int) then (if (bt x0 x4) = 46 then (if 0 ≤ (wrap64 (x4 + 1)) then ((spec_l2Digit.f (bt x0 (wrap64 (x4 + 1)))).bind fun t102 => (spec_DecFront.j7v x0 x4 x5 x6 x7 t102)) else (none)) else (spec_DecFront.j7v x0 x4 x5 x6 x7 false)) else (none)) else (none)) else (spec_DecFront.j7v x0 x4 x5 x6 x7 false))) := by
  refine Lim.succ (spec_DecFront.j6_lim x0 x4 x5 x6 x7 x58) ?_
  simp only [spec_DecFront.j6]
  repeat' first
    | (with_reducible apply spec_DecFront.j7_lim)
    | (with_reducible apply spec_DecFront.l1_lim)
    | (with_reducible exact Lim.const _)
    | (with_reducible refine Lim.ite ?_ ?_)
    | (with_reducible refine Lim.bind ?_ (fun _ => ?_))
    | apply spec_DecFront.j7_lim
    | apply spec_DecFront.l1_lim
    | exact Lim.const _
    | refine Lim.ite ?_ ?_
    | refine Lim.bind ?_ (fun _ => ?_)
set_option maxHeartbeats 4000000 in
theorem spec_DecFront.j7v_eq (x0 : ByteArray) (x4 : Int) (x5 : Bool) (x6 : Int) (x7 : Int) (x91 : Bool) : spec_DecFront.j7v x0 x4 x5 x6 x7 x91 = (if x91 = true then (spec_DecFront.l2v x0 (wrap64 (x4 + 1)) x5 x6 x7 100000) else (spec_DecFront.j9v x4 x5 x6 x7)) := by
  refine Lim.succ (spec_DecFront.j7_lim x0 x4 x5 x6 x7 x91) ?_
  simp only [spec_DecFront.j7]
  repeat' first
    | (with_reducible apply spec_DecFront.j9_lim)
    | (with_reducible apply spec_DecFront.l2_lim)
    | (with_reducible exact Lim.const _)
    | (with_reducible refine Lim.ite ?_ ?_)
    | (with_reducible refine Lim.bind ?_ (fun _ => ?_))
    | apply spec_DecFront.j9_lim
    | apply spec_DecFront.l2_lim
    | exact Lim.const _
    | refine Lim.ite ?_ ?_
    | refine Lim.bind ?_ (fun _ => ?_)
set_option maxHeartbeats 4000000 in
theorem spec_DecFront.j9v_eq (x4 : Int) (x5 : Bool) (x6 : Int) (x7 : Int) : spec_DecFront.j9v x4 x5 x6 x7 = (if x7 = 0 then (spec_DecFront.j10v x4 x5 x6 true) else (spec_DecFront.j10v x4 x5 x6 (decide (x6 > 9000000000000)))) := by
  refine Lim.succ (spec_DecFront.j9_lim x4 x5 x6 x7) ?_
  simp only [spec_DecFront.j9]
  repeat' first
    | (with_reducible apply spec_DecFront.j10_lim)
    | (with_reducible exact Lim.const _)
    | (with_reducible refine Lim.ite ?_ ?_)
    | (with_reducible refine Lim.bind ?_ (fun _ => ?_))
    | apply spec_DecFront.j10_lim
    | exact Lim.const _
    | refine Lim.ite ?_ ?_
    | refine Lim.bind ?_ (fun _ => ?_)
set_option maxHeartbeats 4000000 in
theorem spec_DecFront.j10v_eq (x4 : Int) (x5 : Bool) (x6 : Int) (x124 : Bool) : spec_DecFront.j10v x4 x5 x6 x124 = (if x124 = true then (some (0, 0)) else (if x5 = true then (some (wrap64 (-x6), x4)) else (some (x6, x4)))) := by
  refine Lim.succ (spec_DecFront.j10_lim x4 x5 x6 x124) ?_
  simp only [spec_DecFront.j10]
  repeat' first
    | (with_reducible exact Lim.const _)
    | (with_reducible refine Lim.ite ?_ ?_)
    | (with_reducible refine Lim.bind ?_ (fun _ => ?_))
    | exact Lim.const _
    | refine Lim.ite ?_ ?_
    | refine Lim.bind ?_ (fun _ => ?_)
set_option maxHeartbeats 4000000 in
theorem spec_DecFront.l2v_eq (x0 : ByteArray) (x4 : Int) (x5 : Bool) (x6 : Int) (x7 : Int) (x8 : Int) : spec_DecFront.l2v x0 x4 x5 x6 x7 x8 = (if x4 < (x0.size : Int) then (if 0 ≤ x4 then ((spec_l2Digit.f (bt x0 x4)).bind fun t103 => (if t103 = true then (spec_DecFront.l2v x0 (wrap64 (x4 + 1)) x5 (wrap64 (x6 + (wrap64 ((wrap64 ((wrap64 (bt x0 x4)) - 48)) * x8)))) (wrap64 (x7 + 1)) (wrap64 (Int.tdiv x8 10))) else (spec_DecFront.j9v x4 x5 x6 x7))) else (none)) else (spec_DecFront.j9v x4 x5 x6 x7)) := by
  refine Lim.succ (spec_DecFront.l2_lim x0 x4 x5 x6 x7 x8) ?_
  simp only [spec_DecFront.l2]
  repeat' first
    | (with_reducible apply spec_DecFront.j9_lim)
    | (with_reducible apply spec_DecFront.l2_lim)
    | (with_reducible exact Lim.const _)
    | (with_reducible refine Lim.ite ?_ ?_)
    | (with_reducible refine Lim.bind ?_ (fun _ => ?_))
    | apply spec_DecFront.j9_lim
    | apply spec_DecFront.l2_lim
    | exact Lim.const _
    | refine Lim.ite ?_ ?_
    | refine Lim.bind ?_ (fun _ => ?_)
set_option maxHeartbeats 4000000 in
theorem spec_DecFront.l0v_eq (x0 : ByteArray) (x4 : Int) : spec_DecFront.l0v x0 x4 = (if x4 < (x0.size : Int) then (if 0 ≤ x4 then (if (bt x0 x4) = 32 then (spec_DecFront.l0v x0 (wrap64 (x4 + 1))) else (spec_DecFront.j1v x0 x4)) else (none)) else (spec_DecFront.j1v x0 x4)) := by
  refine Lim.succ (spec_DecFront.l0_lim x0 x4) ?_
  simp only [spec_DecFront.l0]
  repeat' first
    | (with_reducible apply spec_DecFront.j1_lim)
    | (with_reducible apply spec_DecFront.l0_lim)
    | (with_reducible exact Lim.const _)
    | (with_reducible refine Lim.ite ?_ ?_)
    | (with_reducible refine Lim.bind ?_ (fun _ => ?_))
    | apply spec_DecFront.j1_lim
    | apply spec_DecFront.l0_lim
    | exact Lim.const _
    | refine Lim.ite ?_ ?_
    | refine Lim.bind ?_ (fun _ => ?_)
set_option maxHeartbeats 4000000 in
theorem spec_DecFront.fv_eq (a0 : ByteArray) : spec_DecFront.fv a0 = (spec_DecFront.l0v a0 0) := by
  refine Lim.eq (spec_DecFront.f_lim a0) ?_
  simp only [spec_DecFront.f]
  repeat' first
    | (with_reducible apply spec_DecFront.l0_lim)
    | (with_reducible exact Lim.const _)
    | (with_reducible refine Lim.ite ?_ ?_)
    | (with_reducible refine Lim.bind ?_ (fun _ => ?_))
    | apply spec_DecFront.l0_lim
    | exact Lim.const _
    | refine Lim.ite ?_ ?_
    | refine Lim.bind ?_ (fun _ => ?_)

/-! ### spec_l7Number -/
mutual
def spec_l7Number.j1 : Nat → ByteArray → Int → Int → Option (Int × Int × Bool)
  | 0, _, _, _ => none
  | k + 1, x0, x1, x7 => if (wrap64 (x7 + 1)) < (x0.size : Int) then (if 0 ≤ x7 then (if x7 < (x0.size : Int) then (if (bt x0 x7) = 46 then (if 0 ≤ (wrap64 (x7 + 1)) then ((spec_l2Digit.f (bt x0 (wrap64 (x7 + 1)))).bind fun t105 => (spec_l7Number.j2 k x0 x1 x7 t105)) else (none)) else (spec_l7Number.j2 k x0 x1 x7 false)) else (none)) else (none)) else (spec_l7Number.j2 k x0 x1 x7 false)
def spec_l7Number.j2 : Nat → ByteArray → Int → Int → Bool → Option (Int × Int × Bool)
  | 0, _, _, _, _ => none
  | k + 1, x0, x1, x7, x41 => if x41 = true then (spec_l7Number.l1 k x0 x1 (wrap64 (x7 + 1)) x7) else (if 0 ≤ x1 then (if x1 ≤ x7 then (if x7 ≤ (x0.size : Int) then ((spec_DecFront.f k (x0.extract (x1 : Int).toNat (x7 : Int).toNat)).bind fun bt111 => (some (bt111.1, x7, (bt111.2 == (wrap64 (x7 - x1)))))) else (none)) else (none)) else (none))
def spec_l7Number.l1 : Nat → ByteArray → Int → Int → Int → Option (Int × Int × Bool)
  | 0, _, _, _, _ => none
  | k + 1, x0, x1, x7, x8 => if x7 < (x0.size : Int) then (if 0 ≤ x7 then ((spec_l2Digit.f (bt x0 x7)).bind fun t106 => (if t106 = true then (spec_l7Number.l1 k x0 x1 (wrap64 (x7 + 1)) x8) else (if (wrap64 (x7 - x8)) > 7 then (some (0, x7, false)) else (if 0 ≤ x1 then (if x1 ≤ x7 then (if x7 ≤ (x0.size : Int) then ((spec_DecFront.f k (x0.extract (x1 : Int).toNat (x7 : Int).toNat)).bind fun bt107 => (some (bt107.1, x7, (bt107.2 == (wrap64 (x7 - x1)))))) else (none)) else (none)) else (none))))) else (none)) else (if (wrap64 (x7 - x8)) > 7 then (some (0, x7, false)) else (if 0 ≤ x1 then (if x1 ≤ x7 then (if x7 ≤ (x0.size : Int) then ((spec_DecFront.f k (x0.extract (x1 : Int).toNat (x7 : Int).toNat)).bind fun bt109 => (some (bt109.1, x7, (bt109.2 == (wrap64 (x7 - x1)))))) else (none)) else (none)) else (none)))
def spec_l7Number.l0 : Nat → ByteArray → Int → Int → Option (Int × Int × Bool)
  | 0, _, _, _ => none
  | k + 1, x0, x1, x7 => if x7 < (x0.size : Int) then (if 0 ≤ x7 then ((spec_l2Digit.f (bt x0 x7)).bind fun t104 => (if t104 = true then (spec_l7Number.l0 k x0 x1 (wrap64 (x7 + 1))) else (spec_l7Number.j1 k x0 x1 x7))) else (none)) else (spec_l7Number.j1 k x0 x1 x7)
end
def spec_l7Number.f (k : Nat) (a0 : ByteArray) (a1 : Int) : Option (Int × Int × Bool) := spec_l7Number.l0 k a0 a1 a1
theorem spec_l7Number.mono_l : ∀ k, (∀ y0 y1 y2, LeO (spec_l7Number.j1 k y0 y1 y2) (spec_l7Number.j1 (k + 1) y0 y1 y2)) ∧ (∀ y0 y1 y2 y3, LeO (spec_l7Number.j2 k y0 y1 y2 y3) (spec_l7Number.j2 (k + 1) y0 y1 y2 y3)) ∧ (∀ y0 y1 y2 y3, LeO (spec_l7Number.l1 k y0 y1 y2 y3) (spec_l7Number.l1 (k + 1) y0 y1 y2 y3)) ∧ (∀ y0 y1 y2, LeO (spec_l7Number.l0 k y0 y1 y2) (spec_l7Number.l0 (k + 1) y0 y1 y2))
  | 0 => ⟨fun _ _ _ r h => by simp [spec_l7Number.j1] at h, fun _ _ _ _ r h => by simp [spec_l7Number.j2] at h, fun _ _ _ _ r h => by simp [spec_l7Number.l1] at h, fun _ _ _ r h => by simp [spec_l7Number.l0] at h⟩
  | k + 1 => by
    obtain ⟨ih0, ih1, ih2, ih3⟩ := spec_l7Number.mono_l k
    refine ⟨?_, ?_, ?_, ?_⟩
    · intro y0 y1 y2
      unfold spec_l7Number.j1
      repeat' first
      | (with_reducible exact ih0 _ _ _)
      | (with_reducible exact ih1 _ _ _ _)
      | (with_reducible exact ih2 _ _ _ _)
      | (with_reducible exact ih3 _ _ _)
      | (with_reducible exact spec_DecFront.mono _ _)
      | (with_reducible exact LeO.refl _)
      | (with_reducible exact LeO.none _)
      | (with_reducible refine LeO.ite ?_ ?_)
      | (with_reducible refine LeO.bind ?_ (fun _ => ?_))
      | exact ih0 _ _ _
      | exact ih1 _ _ _ _
      | exact ih2 _ _ _ _
      | exact ih3 _ _ _
      | exact spec_DecFront.mono _ _
      | exact LeO.none _
      | refine LeO.ite ?_ ?_
      | refine LeO.bind ?_ (fun _ => ?_)
    · intro y0 y1 y2 y3
      unfold spec_l7Number.j2
      repeat' first
      | (with_reducible exact ih0 _ _ _)
      | (with_reducible exact ih1 _ _ _ _)
      | (with_reducible exact ih2 _ _ _ _)
      | (with_reducible exact ih3 _ _ _)
      | (with_reducible exact spec_DecFront.mono _ _)
      | (with_reducible exact LeO.refl _)
      | (with_reducible exact LeO.none _)
      | (with_reducible refine LeO.ite ?_ ?_)
      | (with_reducible refine LeO.bind ?_ (fun _ => ?_))
      | exact ih0 _ _ _
      | exact ih1 _ _ _ _
      | exact ih2 _ _ _ _
      | exact ih3 _ _ _
      | exact spec_DecFront.mono _ _
      | exact LeO.none _
      | refine LeO.ite ?_ ?_
      | refine LeO.bind ?_ (fun _ => ?_)
    · intro y0 y1 y2 y3
      unfold spec_l7Number.l1
      repeat' first
      | (with_reducible exact ih0 _ _ _)
      | (with_reducible exact ih1 _ _ _ _)
      | (with_reducible exact ih2 _ _ _ _)
      | (with_reducible exact ih3 _ _ _)
      | (with_reducible exact spec_DecFront.mono _ _)
      | (with_reducible exact LeO.refl _)
      | (with_reducible exact LeO.none _)
      | (with_reducible refine LeO.ite ?_ ?_)
      | (with_reducible refine LeO.bind ?_ (fun _ => ?_))
      | exact ih0 _ _ _
      | exact ih1 _ _ _ _
      | exact ih2 _ _ _ _
      | exact ih3 _ _ _
      | exact spec_DecFront.mono _ _
      | exact LeO.none _
      | refine LeO.ite ?_ ?_
      | refine LeO.bind ?_ (fun _ => ?_)
    · intro y0 y1 y2
      unfold spec_l7Number.l0
      repeat' first
      | (with_reducible exact ih0 _ _ _)
      | (with_reducible exact ih1 _ _ _ _)
      | (with_reducible exact ih2 _ _ _ _)
      | (with_reducible exact ih3 _ _ _)
      | (with_reducible exact spec_DecFront.mono _ _)
      | (with_reducible exact LeO.refl _)
      | (with_reducible exact LeO.none _)
      | (with_reducible refine LeO.ite ?_ ?_)
      | (with_reducible refine LeO.bind ?_ (fun _ => ?_))
      | exact ih0 _ _ _
      | exact ih1 _ _ _ _
      | exact ih2 _ _ _ _
      | exact ih3 _ _ _
      | exact spec_DecFront.mono _ _
      | exact LeO.none _
      | refine LeO.ite ?_ ?_
      | refine LeO.bind ?_ (fun _ => ?_)
theorem spec_l7Number.mono : ∀ a0 a1 k, LeO (spec_l7Number.f k a0 a1) (spec_l7Number.f (k + 1) a0 a1) := by
  intro a0 a1 k
  obtain ⟨ih0, ih1, ih2, ih3⟩ := spec_l7Number.mono_l k
  unfold spec_l7Number.f
  repeat' first
      | (with_reducible exact ih0 _ _ _)
      | (with_reducible exact ih1 _ _ _ _)
      | (with_reducible exact ih2 _ _ _ _)
      | (with_reducible exact ih3 _ _ _)
      | (with_reducible exact spec_DecFront.mono _ _)
      | (with_reducible exact LeO.refl _)
      | (with_reducible exact LeO.none _)
      | (with_reducible refine LeO.ite ?_ ?_)
      | (with_reducible refine LeO.bind ?_ (fun _ => ?_))
      | exact ih0 _ _ _
      | exact ih1 _ _ _ _
      | exact ih2 _ _ _ _
      | exact ih3 _ _ _
      | exact spec_DecFront.mono _ _
      | exact LeO.none _
      | refine LeO.ite ?_ ?_
      | refine LeO.bind ?_ (fun _ => ?_)
noncomputable def spec_l7Number.j1v (x0 : ByteArray) (x1 : Int) (x7 : Int) : Option (Int × Int × Bool) := limOf (fun k => spec_l7Number.j1 k x0 x1 x7)
theorem spec_l7Number.j1_lim (x0 : ByteArray) (x1 : Int) (x7 : Int) : Lim (fun k => spec_l7Number.j1 k x0 x1 x7) (spec_l7Number.j1v x0 x1 x7) := Lim.of (fun k => (spec_l7Number.mono_l k).1 x0 x1 x7)
noncomputable def spec_l7Number.j2v (x0 : ByteArray) (x1 : Int) (x7 : Int) (x41 : Bool) : Option (Int × Int × Bool) := limOf (fun k => spec_l7Number.j2 k x0 x1 x7 x41)
theorem spec_l7Number.j2_lim (x0 : ByteArray) (x1 : Int) (x7 : Int) (x41 : Bool) : Lim (fun k => spec_l7Number.j2 k x0 x1 x7 x41) (spec_l7Number.j2v x0 x1 x7 x41) := Lim.of (fun k => (spec_l7Number.mono_l k).2.1 x0 x1 x7 x41)
noncomputable def spec_l7Number.l1v (x0 : ByteArray) (x1 : Int) (x7 : Int) (x8 : Int) : Option (Int × Int × Bool) := limOf (fun k => spec_l7Number.l1 k x0 x1 x7 x8)
theorem spec_l7Number.l1_lim (x0 : ByteArray) (x1 : Int) (x7 : Int) (x8 : Int) : Lim (fun k => spec_l7Number.l1 k x0 x1 x7 x8) (spec_l7Number.l1v x0 x1 x7 x8) := Lim.of (fun k => (spec_l7Number.mono_l k).2.2.1 x0 x1 x7 x8)
noncomputable def spec_l7Number.l0v (x0 : ByteArray) (x1 : Int) (x7 : Int) : Option (Int × Int × Bool) := limOf (fun k => spec_l7Number.l0 k x0 x1 x7)
theorem spec_l7Number.l0_lim (x0 : ByteArray) (x1 : Int) (x7 : Int) : Lim (fun k => spec_l7Number.l0 k x0 x1 x7) (spec_l7Number.l0v x0 x1 x7) := Lim.of (fun k => (spec_l7Number.mono_l k).2.2.2 x0 x1 x7)
noncomputable def spec_l7Number.fv (a0 : ByteArray) (a1 : Int) : Option (Int × Int × Bool) := limOf (fun k => spec_l7Number.f k a0 a1)
theorem spec_l7Number.f_lim (a0 : ByteArray) (a1 : Int) : Lim (fun k => spec_l7Number.f k a0 a1) (spec_l7Number.fv a0 a1) := Lim.of (fun k => spec_l7Number.mono a0 a1 k)
set_option maxHeartbeats 4000000 in
theorem spec_l7Number.j1v_eq (x0 : ByteArray) (x1 : Int) (x7 : Int) : spec_l7Number.j1v x0 x1 x7 = (if (wrap64 (x7 + 1)) < (x0.size : Int) then (if 0 ≤ x7 then (if x7 < (x0.size : Int) then (if (bt x0 x7) = 46 then (if 0 ≤ (wrap64 (x7 + 1)) then ((spec_l2Digit.f (bt x0 (wrap64 (x7 + 1)))).bind fun t105 => (spec_l7Number.j2v x0 x1 x7 t105)) else (none)) else (spec_l7Number.j2v x0 x1 x7 false)) else (none)) else (none)) else (spec_l7Number.j2v x0 x1 x7 false)) := by
  refine Lim.succ (spec_l7Number.j1_lim x0 x1 x7) ?_
  simp only [spec_l7Number.j1]
  repeat' first
    | (with_reducible apply spec_l7Number.j2_lim)
    | (with_reducible exact Lim.const _)
    | (with_reducible refine Lim.ite ?_ ?_)
    | (with_reducible refine Lim.bind ?_ (fun _ => ?_))
    | apply spec_l7Number.j2_lim
    | exact Lim.const _
    | refine Lim.ite ?_ ?_
    | refine Lim.bind ?_ (fun _ => ?_)
set_option maxHeartbeats 4000000 in
theorem spec_l7Number.j2v_eq (x0 : ByteArray) (x1 : Int) (x7 : Int) (x41 : Bool) : spec_l7Number.j2v x0 x1 x7 x41 = (if x41 = true then (spec_l7Number.l1v x0 x1 (wrap64 (x7 + 1)) x7) else (if 0 ≤ x1 then (if x1 ≤ x7 then (if x7 ≤ (x0.size : Int) then ((spec_DecFront.fv (x0.extract (x1 : Int).toNat (x7 : Int).toNat)).bind fun bt111 => (some (bt111.1, x7, (bt111.2 == (wrap64 (x7 - x1)))))) else (none)) else (none)) else (none))) := by
  refine Lim.succ (spec_l7Number.j2_lim x0 x1 x7 x41) ?_
  simp only [spec_l7Number.j2]
  repeat' first
    | (with_reducible apply spec_DecFront.f_lim)
    | (with_reducible apply spec_l7Number.l1_lim)
    | (with_reducible exact Lim.const _)
    | (with_reducible refine Lim.ite ?_ ?_)
    | (with_reducible refine Lim.bind ?_ (fun _ => ?_))
    | apply spec_DecFront.f_lim
    | apply spec_l7Number.l1_lim
    | exact Lim.const _
    | refine Lim.ite ?_ ?_
    | refine Lim.bind ?_ (fun _ => ?_)
set_option maxHeartbeats 4000000 in
theorem spec_l7Number.l1v_eq (x0 : ByteArray) (x1 : Int) (x7 : Int) (x8 : Int) : spec_l7Number.l1v x0 x1 x7 x8 = (if x7 < (x0.size : Int) then (if 0 ≤ x7 then ((spec_l2Digit.f (bt x0 x7)).bind fun t106 => (if t106 = true then (spec_l7Number.l1v x0 x1 (wrap64 (x7 + 1)) x8) else (if (wrap64 (x7 - x8)) > 7 then (some (0, x7, false)) else (if 0 ≤ x1 then (if x1 ≤ x7 then (if x7 ≤ (x0.size : Int) then ((spec_DecFront.fv (x0.extract (x1 : Int).toNat (x7 : Int).toNat)).bind fun bt107 => (some (bt107.1, x7, (bt107.2 == (wrap64 (x7 - x1)))))) else (none)) else (none)) else (none))))) else (none)) else (if (wrap64 (x7 - x8)) > 7 then (some (0, x7, false)) else (if 0 ≤ x1 then (if x1 ≤ x7 then (if x7 ≤ (x0.size : Int) then ((spec_DecFront.fv (x0.extract (x1 : Int).toNat (x7 : Int).toNat)).bind fun bt109 => (some (bt109.1, x7, (bt109.2 == (wrap64 (x7 - x1)))))) else (none)) else (none)) else (none)))) := by
  refine Lim.succ (spec_l7Number.l1_lim x0 x1 x7 x8) ?_
  simp only [spec_l7Number.l1]
  repeat' first
    | (with_reducible apply spec_DecFront.f_lim)
    | (with_reducible apply spec_l7Number.l1_lim)
    | (with_reducible exact Lim.const _)
    | (with_reducible refine Lim.ite ?_ ?_)
    | (with_reducible refine Lim.bind ?_ (fun _ => ?_))
    | apply spec_DecFront.f_lim
    | apply spec_l7Number.l1_lim
    | exact Lim.const _
    | refine Lim.ite ?_ ?_
    | refine Lim.bind ?_ (fun _ => ?_)
set_option maxHeartbeats 4000000 in
theorem spec_l7Number.l0v_eq (x0 : ByteArray) (x1 : Int) (x7 : Int) : spec_l7Number.l0v x0 x1 x7 = (if x7 < (x0.size : Int) then (if 0 ≤ x7 then ((spec_l2Digit.f (bt x0 x7)).bind fun t104 => (if t104 = true then (spec_l7Number.l0v x0 x1 (wrap64 (x7 + 1))) else (spec_l7Number.j1v x0 x1 x7))) else (none)) else (spec_l7Number.j1v x0 x1 x7)) := by
  refine Lim.succ (spec_l7Number.l0_lim x0 x1 x7) ?_
  simp only [spec_l7Number.l0]
  repeat' first
    | (with_reducible apply spec_l7Number.j1_lim)
    | (with_reducible apply spec_l7Number.l0_lim)
    | (with_reducible exact Lim.const _)
    | (with_reducible refine Lim.ite ?_ ?_)
    | (with_reducible refine Lim.bind ?_ (fun _ => ?_))
    | apply spec_l7Number.j1_lim
    | apply spec_l7Number.l0_lim
    | exact Lim.const _
    | refine Lim.ite ?_ ?_
    | refine Lim.bind ?_ (fun _ => ?_)
set_option maxHeartbeats 4000000 in
theorem spec_l7Number.fv_eq (a0 : ByteArray) (a1 : Int) : spec_l7Number.fv a0 a1 = (spec_l7Number.l0v a0 a1 a1) := by
  refine Lim.eq (spec_l7Number.f_lim a0 a1) ?_
  simp only [spec_l7Number.f]
  repeat' first
    | (with_reducible apply spec_l7Number.l0_lim)
    | (with_reducible exact Lim.const _)
    | (with_reducible refine Lim.ite ?_ ?_)
    | (with_reducible refine Lim.bind ?_ (fun _ => ?_))
    | apply spec_l7Number.l0_lim
    | exact Lim.const _
    | refine Lim.ite ?_ ?_
    | refine Lim.bind ?_ (fun _ => ?_)

/-! ### spec_l7Text -/
def spec_l7Text.l0 : Nat → ByteArray → List Int → Int → Option (ByteArray × Int × Bool)
  | 0, _, _, _ => none
  | k + 1, x0, x7, x8 => if x8 < (x0.size : Int) then (if 0 ≤ x8 then (if (bt x0 x8) = 34 then (some (strOfNums x7, wrap64 (x8 + 1), true)) else (if (bt x0 x8) = 10 then (some ((⟨#[]⟩ : ByteArray), 0, false)) else (if (bt x0 x8) = 92 then (if (wrap64 (x8 + 1)) ≥ (x0.size : Int) then (some ((⟨#[]⟩ : ByteArray), 0, false)) else (if 0 ≤ (wrap64 (x8 + 1)) then (if (wrap64 (x8 + 1)) < (x0.size : Int) then (if (bt x0 (wrap64 (x8 + 1))) = 10 then (some ((⟨#[]⟩ : ByteArray), 0, false)) else (if x7.length < 140737488355328 then (spec_l7Text.l0 k x0 (x7 ++ [bt x0 (wrap64 (x8 + 1))]) (wrap64 ((wrap64 (x8 + 1)) + 1))) else (none))) else (none)) else (none))) else (if x7.length < 140737488355328 then (spec_l7Text.l0 k x0 (x7 ++ [bt x0 x8]) (wrap64 (x8 + 1))) else (none))))) else (none)) else (some ((⟨#[]⟩ : ByteArray), 0, false))
def spec_l7Text.f (k : Nat) (a0 : ByteArray) (a1 : Int) : Option (ByteArray × Int × Bool) := spec_l7Text.l0 k a0 (([] : List Int)) (wrap64 (a1 + 1))
theorem spec_l7Text.mono_l : ∀ k, (∀ y0 y1 y2, LeO (spec_l7Text.l0 k y0 y1 y2) (spec_l7Text.l0 (k + 1) y0 y1 y2))
  | 0 => fun _ _ _ r h => by simp [spec_l7Text.l0] at h
  | k + 1 => by
    have ih0 := spec_l7Text.mono_l k
    · intro y0 y1 y2
      unfold spec_l7Text.l0
      repeat' first
      | (with_reducible exact ih0 _ _ _)
      | (with_reducible exact LeO.refl _)
      | (with_reducible exact LeO.none _)
      | (with_reducible refine LeO.ite ?_ ?_)
      | (with_reducible refine LeO.bind ?_ (fun _ => ?_))
      | exact ih0 _ _ _
      | exact LeO.none _
      | refine LeO.ite ?_ ?_
      | refine LeO.bind ?_ (fun _ => ?_)
theorem spec_l7Text.mono : ∀ a0 a1 k, LeO (spec_l7Text.f k a0 a1) (spec_l7Text.f (k + 1) a0 a1) := by
  intro a0 a1 k
  have ih0 := spec_l7Text.mono_l k
  unfold spec_l7Text.f
  repeat' first
      | (with_reducible exact ih0 _ _ _)
      | (with_reducible exact LeO.refl _)
      | (with_reducible exact LeO.none _)
      | (with_reducible refine LeO.ite ?_ ?_)
      | (with_reducible refine LeO.bind ?_ (fun _ => ?_))
      | exact ih0 _ _ _
      | exact LeO.none _
      | refine LeO.ite ?_ ?_
      | refine LeO.bind ?_ (fun _ => ?_)
noncomputable def spec_l7Text.l0v (x0 : ByteArray) (x7 : List Int) (x8 : Int) : Option (ByteArray × Int × Bool) := limOf (fun k => spec_l7Text.l0 k x0 x7 x8)
theorem spec_l7Text.l0_lim (x0 : ByteArray) (x7 : List Int) (x8 : Int) : Lim (fun k => spec_l7Text.l0 k x0 x7 x8) (spec_l7Text.l0v x0 x7 x8) := Lim.of (fun k => spec_l7Text.mono_l k x0 x7 x8)
noncomputable def spec_l7Text.fv (a0 : ByteArray) (a1 : Int) : Option (ByteArray × Int × Bool) := limOf (fun k => spec_l7Text.f k a0 a1)
theorem spec_l7Text.f_lim (a0 : ByteArray) (a1 : Int) : Lim (fun k => spec_l7Text.f k a0 a1) (spec_l7Text.fv a0 a1) := Lim.of (fun k => spec_l7Text.mono a0 a1 k)
set_option maxHeartbeats 4000000 in
theorem spec_l7Text.l0v_eq (x0 : ByteArray) (x7 : List Int) (x8 : Int) : spec_l7Text.l0v x0 x7 x8 = (if x8 < (x0.size : Int) then (if 0 ≤ x8 then (if (bt x0 x8) = 34 then (some (strOfNums x7, wrap64 (x8 + 1), true)) else (if (bt x0 x8) = 10 then (some ((⟨#[]⟩ : ByteArray), 0, false)) else (if (bt x0 x8) = 92 then (if (wrap64 (x8 + 1)) ≥ (x0.size : Int) then (some ((⟨#[]⟩ : ByteArray), 0, false)) else (if 0 ≤ (wrap64 (x8 + 1)) then (if (wrap64 (x8 + 1)) < (x0.size : Int) then (if (bt x0 (wrap64 (x8 + 1))) = 10 then (some ((⟨#[]⟩ : ByteArray), 0, false)) else (if x7.length < 140737488355328 then (spec_l7Text.l0v x0 (x7 ++ [bt x0 (wrap64 (x8 + 1))]) (wrap64 ((wrap64 (x8 + 1)) + 1))) else (none))) else (none)) else (none))) else (if x7.length < 140737488355328 then (spec_l7Text.l0v x0 (x7 ++ [bt x0 x8]) (wrap64 (x8 + 1))) else (none))))) else (none)) else (some ((⟨#[]⟩ : ByteArray), 0, false))) := by
  refine Lim.succ (spec_l7Text.l0_lim x0 x7 x8) ?_
  simp only [spec_l7Text.l0]
  repeat' first
    | (with_reducible apply spec_l7Text.l0_lim)
    | (with_reducible exact Lim.const _)
    | (with_reducible refine Lim.ite ?_ ?_)
    | (with_reducible refine Lim.bind ?_ (fun _ => ?_))
    | apply spec_l7Text.l0_lim
    | exact Lim.const _
    | refine Lim.ite ?_ ?_
    | refine Lim.bind ?_ (fun _ => ?_)
set_option maxHeartbeats 4000000 in
theorem spec_l7Text.fv_eq (a0 : ByteArray) (a1 : Int) : spec_l7Text.fv a0 a1 = (spec_l7Text.l0v a0 (([] : List Int)) (wrap64 (a1 + 1))) := by
  refine Lim.eq (spec_l7Text.f_lim a0 a1) ?_
  simp only [spec_l7Text.f]
  repeat' first
    | (with_reducible apply spec_l7Text.l0_lim)
    | (with_reducible exact Lim.const _)
    | (with_reducible refine Lim.ite ?_ ?_)
    | (with_reducible refine Lim.bind ?_ (fun _ => ?_))
    | apply spec_l7Text.l0_lim
    | exact Lim.const _
    | refine Lim.ite ?_ ?_
    | refine Lim.bind ?_ (fun _ => ?_)

/-! ### spec_l1In -/
def spec_l1In.f (a0 : Int) (a1 : Int) (a2 : Int) : Option (Bool) := if a0 ≥ a1 then (some (decide (a0 ≤ a2))) else (some false)

/-! ### spec_l7After -/
def spec_l7After.f (l0 : List (S32)) : Option (Bool) := if (l0.length : Int) = 0 then (some false) else (if 0 ≤ (wrap64 ((l0.length : Int) - 1)) then (if (wrap64 ((l0.length : Int) - 1)) < (l0.length : Int) then (if ((rd_T32 l0 (wrap64 ((l0.length : Int) - 1))).f0) = 5 then (if ((rd_T32 l0 (wrap64 ((l0.length : Int) - 1))).f1).toList = ([41] : List UInt8) then (some true) else (if ((rd_T32 l0 (wrap64 ((l0.length : Int) - 1))).f1).toList = ([93] : List UInt8) then (some true) else ((spec_l1In.f ((rd_T32 l0 (wrap64 ((l0.length : Int) - 1))).f0) 1 4).bind fun t124 => (some t124)))) else ((spec_l1In.f ((rd_T32 l0 (wrap64 ((l0.length : Int) - 1))).f0) 1 4).bind fun t125 => (some t125))) else (none)) else (none))

end Go.Proofs.YtelaipnanpfniaaDoor.QFnTokens
