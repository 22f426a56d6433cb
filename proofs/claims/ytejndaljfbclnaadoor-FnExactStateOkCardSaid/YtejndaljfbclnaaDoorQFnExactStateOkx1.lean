/- Written by wip/pr2, a program of this session. -/
import Derived.Test.YtejndaljfbclnaaDoorQFnExactStateOkx0
import Derived.Test.YtejndaljfbclnaaDoorWFnExactStateOk
namespace Go.Proofs.YtejndaljfbclnaaDoor.QFnExactStateOk
open Go.RowKit Go.Proofs.YtejndaljfbclnaaDoorW.PrintWords Go.Proofs.YtejndaljfbclnaaDoorW.PrintLast Go.Proofs.YtejndaljfbclnaaDoorW.PrintMore
attribute [local go_sem] max2_int min2_int max_two min_two max_three min_three max_four min_four   -- for this text's walks alone
set_option linter.unusedVariables false
set_option linter.unusedSimpArgs false
set_option maxHeartbeats 8000000

open Go.Proofs.YtejndaljfbclnaaDoorW.Lims
/-! ### laws_szVal -/
def laws_szVal.f (a0_0 : Int) (a0_1 : Int) (a0_2 : ByteArray) (a1 : Int) : Option (Int) := if (wrap64 (a1 - (a0_2.size : Int))) < 0 then (some (-1)) else (some (wrap64 (a1 - (a0_2.size : Int))))

/-! ### laws_szValS -/
def laws_szValS.l0 : Nat → List (S23) → Int → Int → Option (Int)
  | 0, _, _, _ => none
  | k + 1, x0, x1, x5 => if x5 < (x0.length : Int) then (if 0 ≤ x5 then ((laws_szVal.f ((rd_T23 x0 x5).f0) ((rd_T23 x0 x5).f1) ((rd_T23 x0 x5).f2) x1).bind fun t103 => (if t103 < 0 then (some (-1)) else (laws_szValS.l0 k x0 t103 (wrap64 (x5 + 1))))) else (none)) else (some x1)
def laws_szValS.f (k : Nat) (l0 : List (S23)) (a1 : Int) : Option (Int) := if (wrap64 (a1 - (l0.length : Int))) < 0 then (some (-1)) else (laws_szValS.l0 k l0 (wrap64 (a1 - (l0.length : Int))) 0)
theorem laws_szValS.mono_l : ∀ k, (∀ y0 y1 y2, LeO (laws_szValS.l0 k y0 y1 y2) (laws_szValS.l0 (k + 1) y0 y1 y2))
  | 0 => fun _ _ _ r h => by simp [laws_szValS.l0] at h
  | k + 1 => by
    have ih0 := laws_szValS.mono_l k
    · intro y0 y1 y2
      unfold laws_szValS.l0
      repeat' first
      | (with_reducible exact ih0 _ _ _)
      | (with_reducible exact LeO.refl _)
      | (with_reducible exact LeO.none _)
      | (with_reducible refine LeO.ite ?_ ?_)
      | (with_reducible refine LeO.bind ?_ (fun _ => ?_))
      | exact ih0 _ _ _
      | exact LeO.none _
      | refine LeO.ite ?_ ?_
      | refine LeO.bind ?_ (fun _ => ?_)
theorem laws_szValS.mono : ∀ a0 a1 k, LeO (laws_szValS.f k a0 a1) (laws_szValS.f (k + 1) a0 a1) := by
  intro a0 a1 k
  have ih0 := laws_szValS.mono_l k
  unfold laws_szValS.f
  repeat' first
      | (with_reducible exact ih0 _ _ _)
      | (with_reducible exact LeO.refl _)
      | (with_reducible exact LeO.none _)
      | (with_reducible refine LeO.ite ?_ ?_)
      | (with_reducible refine LeO.bind ?_ (fun _ => ?_))
      | exact ih0 _ _ _
      | exact LeO.none _
      | refine LeO.ite ?_ ?_
      | refine LeO.bind ?_ (fun _ => ?_)
noncomputable def laws_szValS.l0v (x0 : List (S23)) (x1 : Int) (x5 : Int) : Option (Int) := limOf (fun k => laws_szValS.l0 k x0 x1 x5)
theorem laws_szValS.l0_lim (x0 : List (S23)) (x1 : Int) (x5 : Int) : Lim (fun k => laws_szValS.l0 k x0 x1 x5) (laws_szValS.l0v x0 x1 x5) := Lim.of (fun k => laws_szValS.mono_l k x0 x1 x5)
noncomputable def laws_szValS.fv (l0 : List (S23)) (a1 : Int) : Option (Int) := limOf (fun k => laws_szValS.f k l0 a1)
theorem laws_szValS.f_lim (l0 : List (S23)) (a1 : Int) : Lim (fun k => laws_szValS.f k l0 a1) (laws_szValS.fv l0 a1) := Lim.of (fun k => laws_szValS.mono l0 a1 k)
set_option maxHeartbeats 4000000 in
theorem laws_szValS.l0v_eq (x0 : List (S23)) (x1 : Int) (x5 : Int) : laws_szValS.l0v x0 x1 x5 = (if x5 < (x0.length : Int) then (if 0 ≤ x5 then ((laws_szVal.f ((rd_T23 x0 x5).f0) ((rd_T23 x0 x5).f1) ((rd_T23 x0 x5).f2) x1).bind fun t103 => (if t103 < 0 then (some (-1)) else (laws_szValS.l0v x0 t103 (wrap64 (x5 + 1))))) else (none)) else (some x1)) := by
  refine Lim.succ (laws_szValS.l0_lim x0 x1 x5) ?_
  simp only [laws_szValS.l0]
  repeat' first
    | (with_reducible apply laws_szValS.l0_lim)
    | (with_reducible exact Lim.const _)
    | (with_reducible refine Lim.ite ?_ ?_)
    | (with_reducible refine Lim.bind ?_ (fun _ => ?_))
    | apply laws_szValS.l0_lim
    | exact Lim.const _
    | refine Lim.ite ?_ ?_
    | refine Lim.bind ?_ (fun _ => ?_)
set_option maxHeartbeats 4000000 in
theorem laws_szValS.fv_eq (l0 : List (S23)) (a1 : Int) : laws_szValS.fv l0 a1 = (if (wrap64 (a1 - (l0.length : Int))) < 0 then (some (-1)) else (laws_szValS.l0v l0 (wrap64 (a1 - (l0.length : Int))) 0)) := by
  refine Lim.eq (laws_szValS.f_lim l0 a1) ?_
  simp only [laws_szValS.f]
  repeat' first
    | (with_reducible apply laws_szValS.l0_lim)
    | (with_reducible exact Lim.const _)
    | (with_reducible refine Lim.ite ?_ ?_)
    | (with_reducible refine Lim.bind ?_ (fun _ => ?_))
    | apply laws_szValS.l0_lim
    | exact Lim.const _
    | refine Lim.ite ?_ ?_
    | refine Lim.bind ?_ (fun _ => ?_)

/-! ### laws_szCell -/
def laws_szCell.f (a0_0 : Int) (a0_1 : ByteArray) (a0_2 : Int) (a0_3 : Int) (a0_4 : ByteArray) (a1 : Int) : Option (Int) := if (wrap64 (a1 - (a0_1.size : Int))) < 0 then (some (-1)) else ((laws_szVal.f a0_2 a0_3 a0_4 (wrap64 (a1 - (a0_1.size : Int)))).bind fun t105 => (if t105 < 0 then (some (-1)) else (some t105)))

/-! ### laws_szCellS -/
def laws_szCellS.l0 : Nat → List (S128) → Int → Int → Option (Int)
  | 0, _, _, _ => none
  | k + 1, x0, x1, x5 => if x5 < (x0.length : Int) then (if 0 ≤ x5 then ((laws_szCell.f ((rd_T128 x0 x5).f0) ((rd_T128 x0 x5).f1) ((rd_T128 x0 x5).f2.f0) ((rd_T128 x0 x5).f2.f1) ((rd_T128 x0 x5).f2.f2) x1).bind fun t107 => (if t107 < 0 then (some (-1)) else (laws_szCellS.l0 k x0 t107 (wrap64 (x5 + 1))))) else (none)) else (some x1)
def laws_szCellS.f (k : Nat) (l0 : List (S128)) (a1 : Int) : Option (Int) := if (wrap64 (a1 - (l0.length : Int))) < 0 then (some (-1)) else (laws_szCellS.l0 k l0 (wrap64 (a1 - (l0.length : Int))) 0)
theorem laws_szCellS.mono_l : ∀ k, (∀ y0 y1 y2, LeO (laws_szCellS.l0 k y0 y1 y2) (laws_szCellS.l0 (k + 1) y0 y1 y2))
  | 0 => fun _ _ _ r h => by simp [laws_szCellS.l0] at h
  | k + 1 => by
    have ih0 := laws_szCellS.mono_l k
    · intro y0 y1 y2
      unfold laws_szCellS.l0
      repeat' first
      | (with_reducible exact ih0 _ _ _)
      | (with_reducible exact LeO.refl _)
      | (with_reducible exact LeO.none _)
      | (with_reducible refine LeO.ite ?_ ?_)
      | (with_reducible refine LeO.bind ?_ (fun _ => ?_))
      | exact ih0 _ _ _
      | exact LeO.none _
      | refine LeO.ite ?_ ?_
      | refine LeO.bind ?_ (fun _ => ?_)
theorem laws_szCellS.mono : ∀ a0 a1 k, LeO (laws_szCellS.f k a0 a1) (laws_szCellS.f (k + 1) a0 a1) := by
  intro a0 a1 k
  have ih0 := laws_szCellS.mono_l k
  unfold laws_szCellS.f
  repeat' first
      | (with_reducible exact ih0 _ _ _)
      | (with_reducible exact LeO.refl _)
      | (with_reducible exact LeO.none _)
      | (with_reducible refine LeO.ite ?_ ?_)
      | (with_reducible refine LeO.bind ?_ (fun _ => ?_))
      | exact ih0 _ _ _
      | exact LeO.none _
      | refine LeO.ite ?_ ?_
      | refine LeO.bind ?_ (fun _ => ?_)
noncomputable def laws_szCellS.l0v (x0 : List (S128)) (x1 : Int) (x5 : Int) : Option (Int) := limOf (fun k => laws_szCellS.l0 k x0 x1 x5)
theorem laws_szCellS.l0_lim (x0 : List (S128)) (x1 : Int) (x5 : Int) : Lim (fun k => laws_szCellS.l0 k x0 x1 x5) (laws_szCellS.l0v x0 x1 x5) := Lim.of (fun k => laws_szCellS.mono_l k x0 x1 x5)
noncomputable def laws_szCellS.fv (l0 : List (S128)) (a1 : Int) : Option (Int) := limOf (fun k => laws_szCellS.f k l0 a1)
theorem laws_szCellS.f_lim (l0 : List (S128)) (a1 : Int) : Lim (fun k => laws_szCellS.f k l0 a1) (laws_szCellS.fv l0 a1) := Lim.of (fun k => laws_szCellS.mono l0 a1 k)
set_option maxHeartbeats 4000000 in
theorem laws_szCellS.l0v_eq (x0 : List (S128)) (x1 : Int) (x5 : Int) : laws_szCellS.l0v x0 x1 x5 = (if x5 < (x0.length : Int) then (if 0 ≤ x5 then ((laws_szCell.f ((rd_T128 x0 x5).f0) ((rd_T128 x0 x5).f1) ((rd_T128 x0 x5).f2.f0) ((rd_T128 x0 x5).f2.f1) ((rd_T128 x0 x5).f2.f2) x1).bind fun t107 => (if t107 < 0 then (some (-1)) else (laws_szCellS.l0v x0 t107 (wrap64 (x5 + 1))))) else (none)) else (some x1)) := by
  refine Lim.succ (laws_szCellS.l0_lim x0 x1 x5) ?_
  simp only [laws_szCellS.l0]
  repeat' first
    | (with_reducible apply laws_szCellS.l0_lim)
    | (with_reducible exact Lim.const _)
    | (with_reducible refine Lim.ite ?_ ?_)
    | (with_reducible refine Lim.bind ?_ (fun _ => ?_))
    | apply laws_szCellS.l0_lim
    | exact Lim.const _
    | refine Lim.ite ?_ ?_
    | refine Lim.bind ?_ (fun _ => ?_)
set_option maxHeartbeats 4000000 in
theorem laws_szCellS.fv_eq (l0 : List (S128)) (a1 : Int) : laws_szCellS.fv l0 a1 = (if (wrap64 (a1 - (l0.length : Int))) < 0 then (some (-1)) else (laws_szCellS.l0v l0 (wrap64 (a1 - (l0.length : Int))) 0)) := by
  refine Lim.eq (laws_szCellS.f_lim l0 a1) ?_
  simp only [laws_szCellS.f]
  repeat' first
    | (with_reducible apply laws_szCellS.l0_lim)
    | (with_reducible exact Lim.const _)
    | (with_reducible refine Lim.ite ?_ ?_)
    | (with_reducible refine Lim.bind ?_ (fun _ => ?_))
    | apply laws_szCellS.l0_lim
    | exact Lim.const _
    | refine Lim.ite ?_ ?_
    | refine Lim.bind ?_ (fun _ => ?_)

/-! ### laws_szState -/
def laws_szState.f (k : Nat) (l0_0 : List (S23)) (l0_1 : List (S128)) (a0_2 : Int) (a0_3 : Int) (a1 : Int) : Option (Int) := (laws_szValS.f k l0_0 a1).bind fun t109 => (if t109 < 0 then (some (-1)) else ((laws_szCellS.f k l0_1 t109).bind fun t110 => (if t110 < 0 then (some (-1)) else (some t110))))
theorem laws_szState.mono : ∀ a0 a1 a2 a3 a4 k, LeO (laws_szState.f k a0 a1 a2 a3 a4) (laws_szState.f (k + 1) a0 a1 a2 a3 a4) := by
  intro a0 a1 a2 a3 a4 k
  unfold laws_szState.f
  repeat' first
      | (with_reducible exact laws_szCellS.mono _ _ _)
      | (with_reducible exact laws_szValS.mono _ _ _)
      | (with_reducible exact LeO.refl _)
      | (with_reducible exact LeO.none _)
      | (with_reducible refine LeO.ite ?_ ?_)
      | (with_reducible refine LeO.bind ?_ (fun _ => ?_))
      | exact laws_szCellS.mono _ _ _
      | exact laws_szValS.mono _ _ _
      | exact LeO.none _
      | refine LeO.ite ?_ ?_
      | refine LeO.bind ?_ (fun _ => ?_)
noncomputable def laws_szState.fv (l0_0 : List (S23)) (l0_1 : List (S128)) (a0_2 : Int) (a0_3 : Int) (a1 : Int) : Option (Int) := limOf (fun k => laws_szState.f k l0_0 l0_1 a0_2 a0_3 a1)
theorem laws_szState.f_lim (l0_0 : List (S23)) (l0_1 : List (S128)) (a0_2 : Int) (a0_3 : Int) (a1 : Int) : Lim (fun k => laws_szState.f k l0_0 l0_1 a0_2 a0_3 a1) (laws_szState.fv l0_0 l0_1 a0_2 a0_3 a1) := Lim.of (fun k => laws_szState.mono l0_0 l0_1 a0_2 a0_3 a1 k)
set_option maxHeartbeats 4000000 in
theorem laws_szState.fv_eq (l0_0 : List (S23)) (l0_1 : List (S128)) (a0_2 : Int) (a0_3 : Int) (a1 : Int) : laws_szState.fv l0_0 l0_1 a0_2 a0_3 a1 = ((laws_szValS.fv l0_0 a1).bind fun t109 => (if t109 < 0 then (some (-1)) else ((laws_szCellS.fv l0_1 t109).bind fun t110 => (if t110 < 0 then (some (-1)) else (some t110))))) := by
  refine Lim.eq (laws_szState.f_lim l0_0 l0_1 a0_2 a0_3 a1) ?_
  simp only [laws_szState.f]
  repeat' first
    | (with_reducible apply laws_szCellS.f_lim)
    | (with_reducible apply laws_szValS.f_lim)
    | (with_reducible exact Lim.const _)
    | (with_reducible refine Lim.ite ?_ ?_)
    | (with_reducible refine Lim.bind ?_ (fun _ => ?_))
    | apply laws_szCellS.f_lim
    | apply laws_szValS.f_lim
    | exact Lim.const _
    | refine Lim.ite ?_ ?_
    | refine Lim.bind ?_ (fun _ => ?_)

/-! ### spec_l2Digit -/
def spec_l2Digit.f (a0 : Int) : Option (Bool) := if a0 ≥ 48 then (some (decide (a0 ≤ 57))) else (some false)

/-! ### spec_DecFront -/
mutual
def spec_DecFront.j1 : Nat → ByteArray → Int → Option (Int × Int)
  | 0, _, _ => none
  | k + 1, x0, x4 => if x4 < (x0.size : Int) then (if 0 ≤ x4 then (spec_DecFront.j2 k x0 x4 ((bt x0 x4) == 45)) else (none)) else (spec_DecFront.j2 k x0 x4 false)
def spec_DecFront.j2 : Nat → ByteArray → Int → Bool → Option (Int × Int)
  | 0, _, _, _ => none
  | k + 1, x0, x4, x5 => if x4 < (x0.size : Int) then (if 0 ≤ x4 then (if (bt x0 x4) = 45 then (spec_DecFront.j3 k x0 x4 x5 true) else (spec_DecFront.j3 k x0 x4 x5 ((bt x0 x4) == 43))) else (none)) else (spec_DecFront.j3 k x0 x4 x5 false)
def spec_DecFront.j3 : Nat → ByteArray → Int → Bool → Bool → Option (Int × Int)
  | 0, _, _, _, _ => none
  | k + 1, x0, x4, x5, x46 => if x46 = true then (spec_DecFront.j4 k x0 (wrap64 (x4 + 1)) x5) else (spec_DecFront.j4 k x0 x4 x5)
def spec_DecFront.j4 : Nat → ByteArray → Int → Bool → Option (Int × Int)
  | 0, _, _, _ => none
  | k + 1, x0, x4, x5 => spec_DecFront.l1 k x0 x4 x5 0 0
def spec_DecFront.l1 : Nat → ByteArray → Int → Bool → Int → Int → Option (Int × Int)
  | 0, _, _, _, _, _ => none
  | k + 1, x0, x4, x5, x6, x7 => if x4 < (x0.size : Int) then (if 0 ≤ x4 then ((spec_l2Digit.f (bt x0 x4)).bind fun t111 => (spec_DecFront.j6 k x0 x4 x5 x6 x7 t111)) else (none)) else (spec_DecFront.j6 k x0 x4 x5 x6 x7 false)
def spec_DecFront.j6 : Nat → ByteArray → Int → Bool → Int → Int → Bool → Option (Int × Int)
  | 0, _, _, _, _, _, _ => none
  | k + 1, x0, x4, x5, x6, x7, x58 => if x58 = true then (if x6 ≤ 9000000000000 then (if 0 ≤ x4 then (if x4 < (x0.size : Int) then (spec_DecFront.l1 k x0 (wrap64 (x4 + 1)) x5 (wrap64 ((wrap64 (10 * x6)) + (wrap64 ((wrap64 ((wrap64 (bt x0 x4)) - 48)) * 1000000)))) (wrap64 (x7 + 1))) else (none)) else (none)) else (spec_DecFront.l1 k x0 (wrap64 (x4 + 1)) x5 x6 (wrap64 (x7 + 1)))) else (if (wrap64 (x4 + 1)) < (x0.size : Int) then (if 0 ≤ x4 then (if x4 < (x0.size : Int) then (if (bt x0 x4) = 46 then (if 0 ≤ (wrap64 (x4 + 1)) then ((spec_l2Digit.f (bt x0 (wrap64 (x4 + 1)))).bind fun t112 => (spec_DecFront.j7 k x0 x4 x5 x6 x7 t112)) else (none)) else (spec_DecFront.j7 k x0 x4 x5 x6 x7 false)) else (none)) else (none)) else (spec_DecFront.j7 k x0 x4 x5 x6 x7 false))
def spec_DecFront.j7 : Nat → ByteArray → Int → Bool → Int → Int → Bool → Option (Int × Int)
  | 0, _, _, _, _, _, _ => none
  | k + 1, x0, x4, x5, x6, x7, x91 => if x91 = true then (spec_DecFront.l2 k x0 (wrap64 (x4 + 1)) x5 x6 x7 100000) else (spec_DecFront.j9 k x4 x5 x6 x7)
def spec_DecFront.j9 : Nat → Int → Bool → Int → Int → Option (Int × Int)
  | 0, _, _, _, _ => none
  | k + 1, x4, x5, x6, x7 => if x7 = 0 then (spec_DecFront.j10 k x4 x5 x6 true) else (spec_DecFront.j10 k x4 x5 x6 (decide (x6 > 9000000000000)))
def spec_DecFront.j10 : Nat → Int → Bool → Int → Bool → Option (Int × Int)
  | 0, _, _, _, _ => none
  | k + 1, x4, x5, x6, x124 => if x124 = true then (some (0, 0)) else (if x5 = true then (some (wrap64 (-x6), x4)) else (some (x6, x4)))
def spec_DecFront.l2 : Nat → ByteArray → Int → Bool → Int → Int → Int → Option (Int × Int)
  | 0, _, _, _, _, _, _ => none
  | k + 1, x0, x4, x5, x6, x7, x8 => if x4 < (x0.size : Int) then (if 0 ≤ x4 then ((spec_l2Digit.f (bt x0 x4)).bind fun t113 => (if t113 = true then (spec_DecFront.l2 k x0 (wrap64 (x4 + 1)) x5 (wrap64 (x6 + (wrap64 ((wrap64 ((wrap64 (bt x0 x4)) - 48)) * x8)))) (wrap64 (x7 + 1)) (wrap64 (Int.tdiv x8 10))) else (spec_DecFront.j9 k x4 x5 x6 x7))) else (none)) else (spec_DecFront.j9 k x4 x5 x6 x7)
def spec_DecFront.l0 : Nat → ByteArray → Int → Option (Int × Int)
  | 0, _, _ => none
  | k + 1, x0, x4 => if x4 < (x0.size : Int) then (if 0 ≤ x4 then (if (bt x0 x4) = 32 then (spec_DecFront.l0 k x0 (wrap64 (x4 + 1))) else (spec_DecFront.j1 k x0 x4)) else (none)) else (spec_DecFront.j1 k x0 x4)
end
def spec_DecFront.f (k : Nat) (a0 : ByteArray) : Option (Int × Int) := spec_DecFront.l0 k a0 0
theorem spec_DecFront.mono_l : ∀ k, (∀ y0 y1, LeO (spec_DecFront.j1 k y0 y1) (spec_DecFront.j1 (k + 1) y0 y1)) ∧ (∀ y0 y1 y2, LeO (spec_DecFront.j2 k y0 y1 y2) (spec_DecFront.j2 (k + 1) y0 y1 y2)) ∧ (∀ y0 y1 y2 y3, LeO (spec_DecFront.j3 k y0 y1 y2 y3) (spec_DecFront.j3 (k + 1) y0 y1 y2 y3)) ∧ (∀ y0 y1 y2, LeO (spec_DecFront.j4 k y0 y1 y2) (spec_DecFront.j4 (k + 1) y0 y1 y2)) ∧ (∀ y0 y1 y2 y3 y4, LeO (spec_DecFront.l1 k y0 y1 y2 y3 y4) (spec_DecFront.l1 (k + 1) y0 y1 y2 y3 y4)) ∧ (∀ y0 y1 y2 y3 y4 y5, LeO (spec_DecFront.j6 k y0 y1 y2 y3 y4 y5) (spec_DecFront.j6 (k + 1) y0 y1 y2 y3 y4 y5)) ∧ (∀ y0 y1 y2 y3 y4 y5, LeO (spec_DecFront.j7 k y0 y1 y2 y3 y4 y5) (spec_DecFront.j7 (k + 1) y0 y1 y2 y3 y4 y5)) ∧ (∀ y0 y1 y2 y3, LeO (spec_DecFront.j9 k y0 y1 y2 y3) (spec_DecFront.j9 (k + 1) y0 y1 y2 y3)) ∧ (∀ y0 y1 y2 y3, LeO (spec_DecFront.j10 k y0 y1 y2 y3) (spec_DecFront.j10 (k + 1) y0 y1 y2 y3)) ∧ (∀ y0 y1 y2 y3 y4 y5, LeO (spec_DecFront.l2 k y0 y1 y2 y3 y4 y5) (spec_DecFront.l2 (k + 1) y0 y1 y2 y3 y4 y5)) ∧ (∀ y0 y1, LeO (spec_DecFront.l0 k y0 y1) (spec_DecFront.l0 (k + 1) y0 y1))
  | 0 => ⟨fun _ _ r h => by simp [spec_DecFront.j1] at h, fun _ _ _ r h => by simp [spec_DecFront.j2] at h, fun _ _ _ _ r h => by simp [spec_DecFront.j3] at h, fun _ _ _ r h => by simp [spec_DecFront.j4] at h, fun _ _ _ _ _ r h => by simp [spec_DecFront.l1] at h, fun _ _ _ _ _ _ r h => by simp [spec_DecFront.j6] at h, fun _ _ _ _ _ _ r h => by simp [spec_DecFront.j7] at h, fun _ _ _ _ r h => by simp [spec_DecFront.j9] at h, fun _ _ _ _ r h => by simp [spec_DecFront.j10] at h, fun _ _ _ _ _ _ r h => by simp [spec_DecFront.l2] at h, fun _ _ r h => by simp [spec_DecFront.l0] at h⟩
  | k + 1 => by
    obtain ⟨ih0, ih1, ih2, ih3, ih4, ih5, ih6, ih7, ih8, ih9, ih10⟩ := spec_DecFront.mono_l k
    refine ⟨?_, ?_, ?_, ?_, ?_, ?_, ?_, ?_, ?_, ?_, ?_⟩
    · intro y0 y1
      unfold spec_DecFront.j1
      repeat' first
      | (with_reducible exact ih0 _ _)
      | (with_reducible exact ih1 _ _ _)
      | (with_reducible exact ih2 _ _ _ _)
      | (with_reducible exact ih3 _ _ _)
      | (with_reducible exact ih4 _ _ _ _ _)
      | (with_reducible exact ih5 _ _ _ _ _ _)
      | (with_reducible exact ih6 _ _ _ _ _ _)
      | (with_reducible exact ih7 _ _ _ _)
      | (with_reducible exact ih8 _ _ _ _)
      | (with_reducible exact ih9 _ _ _ _ _ _)
      | (with_reducible exact ih10 _ _)
      | (with_reducible exact LeO.refl _)
      | (with_reducible exact LeO.none _)
      | (with_reducible refine LeO.ite ?_ ?_)
      | (with_reducible refine LeO.bind ?_ (fun _ => ?_))
      | exact ih0 _ _
      | exact ih1 _ _ _
      | exact ih2 _ _ _ _
      | exact ih3 _ _ _
      | exact ih4 _ _ _ _ _
      | exact ih5 _ _ _ _ _ _
      | exact ih6 _ _ _ _ _ _
      | exact ih7 _ _ _ _
      | exact ih8 _ _ _ _
      | exact ih9 _ _ _ _ _ _
      | exact ih10 _ _
      | exact LeO.none _
      | refine LeO.ite ?_ ?_
      | refine LeO.bind ?_ (fun _ => ?_)
    · intro y0 y1 y2
      unfold spec_DecFront.j2
      repeat' first
      | (with_reducible exact ih0 _ _)
      | (with_reducible exact ih1 _ _ _)
      | (with_reducible exact ih2 _ _ _ _)
      | (with_reducible exact ih3 _ _ _)
      | (with_reducible exact ih4 _ _ _ _ _)
      | (with_reducible exact ih5 _ _ _ _ _ _)
      | (with_reducible exact ih6 _ _ _ _ _ _)
      | (with_reducible exact ih7 _ _ _ _)
      | (with_reducible exact ih8 _ _ _ _)
      | (with_reducible exact ih9 _ _ _ _ _ _)
      | (with_reducible exact ih10 _ _)
      | (with_reducible exact LeO.refl _)
      | (with_reducible exact LeO.none _)
      | (with_reducible refine LeO.ite ?_ ?_)
      | (with_reducible refine LeO.bind ?_ (fun _ => ?_))
      | exact ih0 _ _
      | exact ih1 _ _ _
      | exact ih2 _ _ _ _
      | exact ih3 _ _ _
      | exact ih4 _ _ _ _ _
      | exact ih5 _ _ _ _ _ _
      | exact ih6 _ _ _ _ _ _
      | exact ih7 _ _ _ _
      | exact ih8 _ _ _ _
      | exact ih9 _ _ _ _ _ _
      | exact ih10 _ _
      | exact LeO.none _
      | refine LeO.ite ?_ ?_
      | refine LeO.bind ?_ (fun _ => ?_)
    · intro y0 y1 y2 y3
      unfold spec_DecFront.j3
      repeat' first
      | (with_reducible exact ih0 _ _)
      | (with_reducible exact ih1 _ _ _)
      | (with_reducible exact ih2 _ _ _ _)
      | (with_reducible exact ih3 _ _ _)
      | (with_reducible exact ih4 _ _ _ _ _)
      | (with_reducible exact ih5 _ _ _ _ _ _)
      | (with_reducible exact ih6 _ _ _ _ _ _)
      | (with_reducible exact ih7 _ _ _ _)
      | (with_reducible exact ih8 _ _ _ _)
      | (with_reducible exact ih9 _ _ _ _ _ _)
      | (with_reducible exact ih10 _ _)
      | (with_reducible exact LeO.refl _)
      | (with_reducible exact LeO.none _)
      | (with_reducible refine LeO.ite ?_ ?_)
      | (with_reducible refine LeO.bind ?_ (fun _ => ?_))
      | exact ih0 _ _
      | exact ih1 _ _ _
      | exact ih2 _ _ _ _
      | exact ih3 _ _ _
      | exact ih4 _ _ _ _ _
      | exact ih5 _ _ _ _ _ _
      | exact ih6 _ _ _ _ _ _
      | exact ih7 _ _ _ _
      | exact ih8 _ _ _ _
      | exact ih9 _ _ _ _ _ _
      | exact ih10 _ _
      | exact LeO.none _
      | refine LeO.ite ?_ ?_
      | refine LeO.bind ?_ (fun _ => ?_)
    · intro y0 y1 y2
      unfold spec_DecFront.j4
      repeat' first
      | (with_reducible exact ih0 _ _)
      | (with_reducible exact ih1 _ _ _)
      | (with_reducible exact ih2 _ _ _ _)
      | (with_reducible exact ih3 _ _ _)
      | (with_reducible exact ih4 _ _ _ _ _)
      | (with_reducible exact ih5 _ _ _ _ _ _)
      | (with_reducible exact ih6 _ _ _ _ _ _)
      | (with_reducible exact ih7 _ _ _ _)
      | (with_reducible exact ih8 _ _ _ _)
      | (with_reducible exact ih9 _ _ _ _ _ _)
      | (with_reducible exact ih10 _ _)
      | (with_reducible exact LeO.refl _)
      | (with_reducible exact LeO.none _)
      | (with_reducible refine LeO.ite ?_ ?_)
      | (with_reducible refine LeO.bind ?_ (fun _ => ?_))
      | exact ih0 _ _
      | exact ih1 _ _ _
      | exact ih2 _ _ _ _
      | exact ih3 _ _ _
      | exact ih4 _ _ _ _ _
      | exact ih5 _ _ _ _ _ _
      | exact ih6 _ _ _ _ _ _
      | exact ih7 _ _ _ _
      | exact ih8 _ _ _ _
      | exact ih9 _ _ _ _ _ _
      | exact ih10 _ _
      | exact LeO.none _
      | refine LeO.ite ?_ ?_
      | refine LeO.bind ?_ (fun _ => ?_)
    · intro y0 y1 y2 y3 y4
      unfold spec_DecFront.l1
      repeat' first
      | (with_reducible exact ih0 _ _)
      | (with_reducible exact ih1 _ _ _)
      | (with_reducible exact ih2 _ _ _ _)
      | (with_reducible exact ih3 _ _ _)
      | (with_reducible exact ih4 _ _ _ _ _)
      | (with_reducible exact ih5 _ _ _ _ _ _)
      | (with_reducible exact ih6 _ _ _ _ _ _)
      | (with_reducible exact ih7 _ _ _ _)
      | (with_reducible exact ih8 _ _ _ _)
      | (with_reducible exact ih9 _ _ _ _ _ _)
      | (with_reducible exact ih10 _ _)
      | (with_reducible exact LeO.refl _)
      | (with_reducible exact LeO.none _)
      | (with_reducible refine LeO.ite ?_ ?_)
      | (with_reducible refine LeO.bind ?_ (fun _ => ?_))
      | exact ih0 _ _
      | exact ih1 _ _ _
      | exact ih2 _ _ _ _
      | exact ih3 _ _ _
      | exact ih4 _ _ _ _ _
      | exact ih5 _ _ _ _ _ _
      | exact ih6 _ _ _ _ _ _
      | exact ih7 _ _ _ _
      | exact ih8 _ _ _ _
      | exact ih9 _ _ _ _ _ _
      | exact ih10 _ _
      | exact LeO.none _
      | refine LeO.ite ?_ ?_
      | refine LeO.bind ?_ (fun _ => ?_)
    · intro y0 y1 y2 y3 y4 y5
      unfold spec_DecFront.j6
      repeat' first
      | (with_reducible exact ih0 _ _)
      | (with_reducible exact ih1 _ _ _)
      | (with_reducible exact ih2 _ _ _ _)
      | (with_reducible exact ih3 _ _ _)
      | (with_reducible exact ih4 _ _ _ _ _)
      | (with_reducible exact ih5 _ _ _ _ _ _)
      | (with_reducible exact ih6 _ _ _ _ _ _)
      | (with_reducible exact ih7 _ _ _ _)
      | (with_reducible exact ih8 _ _ _ _)
      | (with_reducible exact ih9 _ _ _ _ _ _)
      | (with_reducible exact ih10 _ _)
      | (with_reducible exact LeO.refl _)
      | (with_reducible exact LeO.none _)
      | (with_reducible refine LeO.ite ?_ ?_)
      | (with_reducible refine LeO.bind ?_ (fun _ => ?_))
      | exact ih0 _ _
      | exact ih1 _ _ _
      | exact ih2 _ _ _ _
      | exact ih3 _ _ _
      | exact ih4 _ _ _ _ _
      | exact ih5 _ _ _ _ _ _
      | exact ih6 _ _ _ _ _ _
      | exact ih7 _ _ _ _
      | exact ih8 _ _ _ _
      | exact ih9 _ _ _ _ _ _
      | exact ih10 _ _
      | exact LeO.none _
      | refine LeO.ite ?_ ?_
      | refine LeO.bind ?_ (fun _ => ?_)
    · intro y0 y1 y2 y3 y4 y5
      unfold spec_DecFront.j7
      repeat' first
      | (with_reducible exact ih0 _ _)
      | (with_reducible exact ih1 _ _ _)
      | (with_reducible exact ih2 _ _ _ _)
      | (with_reducible exact ih3 _ _ _)
      | (with_reducible exact ih4 _ _ _ _ _)
      | (with_reducible exact ih5 _ _ _ _ _ _)
      | (with_reducible exact ih6 _ _ _ _ _ _)
      | (with_reducible exact ih7 _ _ _ _)
      | (with_reducible exact ih8 _ _ _ _)
      | (with_reducible exact ih9 _ _ _ _ _ _)
      | (with_reducible exact ih10 _ _)
      | (with_reducible exact LeO.refl _)
      | (with_reducible exact LeO.none _)
      | (with_reducible refine LeO.ite ?_ ?_)
      | (with_reducible refine LeO.bind ?_ (fun _ => ?_))
      | exact ih0 _ _
      | exact ih1 _ _ _
      | exact ih2 _ _ _ _
      | exact ih3 _ _ _
      | exact ih4 _ _ _ _ _
      | exact ih5 _ _ _ _ _ _
      | exact ih6 _ _ _ _ _ _
      | exact ih7 _ _ _ _
      | exact ih8 _ _ _ _
      | exact ih9 _ _ _ _ _ _
      | exact ih10 _ _
      | exact LeO.none _
      | refine LeO.ite ?_ ?_
      | refine LeO.bind ?_ (fun _ => ?_)
    · intro y0 y1 y2 y3
      unfold spec_DecFront.j9
      repeat' first
      | (with_reducible exact ih0 _ _)
      | (with_reducible exact ih1 _ _ _)
      | (with_reducible exact ih2 _ _ _ _)
      | (with_reducible exact ih3 _ _ _)
      | (with_reducible exact ih4 _ _ _ _ _)
      | (with_reducible exact ih5 _ _ _ _ _ _)
      | (with_reducible exact ih6 _ _ _ _ _ _)
      | (with_reducible exact ih7 _ _ _ _)
      | (with_reducible exact ih8 _ _ _ _)
      | (with_reducible exact ih9 _ _ _ _ _ _)
      | (with_reducible exact ih10 _ _)
      | (with_reducible exact LeO.refl _)
      | (with_reducible exact LeO.none _)
      | (with_reducible refine LeO.ite ?_ ?_)
      | (with_reducible refine LeO.bind ?_ (fun _ => ?_))
      | exact ih0 _ _
      | exact ih1 _ _ _
      | exact ih2 _ _ _ _
      | exact ih3 _ _ _
      | exact ih4 _ _ _ _ _
      | exact ih5 _ _ _ _ _ _
      | exact ih6 _ _ _ _ _ _
      | exact ih7 _ _ _ _
      | exact ih8 _ _ _ _
      | exact ih9 _ _ _ _ _ _
      | exact ih10 _ _
      | exact LeO.none _
      | refine LeO.ite ?_ ?_
      | refine LeO.bind ?_ (fun _ => ?_)
    · intro y0 y1 y2 y3
      unfold spec_DecFront.j10
      repeat' first
      | (with_reducible exact ih0 _ _)
      | (with_reducible exact ih1 _ _ _)
      | (with_reducible exact ih2 _ _ _ _)
      | (with_reducible exact ih3 _ _ _)
      | (with_reducible exact ih4 _ _ _ _ _)
      | (with_reducible exact ih5 _ _ _ _ _ _)
      | (with_reducible exact ih6 _ _ _ _ _ _)
      | (with_reducible exact ih7 _ _ _ _)
      | (with_reducible exact ih8 _ _ _ _)
      | (with_reducible exact ih9 _ _ _ _ _ _)
      | (with_reducible exact ih10 _ _)
      | (with_reducible exact LeO.refl _)
      | (with_reducible exact LeO.none _)
      | (with_reducible refine LeO.ite ?_ ?_)
      | (with_reducible refine LeO.bind ?_ (fun _ => ?_))
      | exact ih0 _ _
      | exact ih1 _ _ _
      | exact ih2 _ _ _ _
      | exact ih3 _ _ _
      | exact ih4 _ _ _ _ _
      | exact ih5 _ _ _ _ _ _
      | exact ih6 _ _ _ _ _ _
      | exact ih7 _ _ _ _
      | exact ih8 _ _ _ _
      | exact ih9 _ _ _ _ _ _
      | exact ih10 _ _
      | exact LeO.none _
      | refine LeO.ite ?_ ?_
      | refine LeO.bind ?_ (fun _ => ?_)
    · intro y0 y1 y2 y3 y4 y5
      unfold spec_DecFront.l2
      repeat' first
      | (with_reducible exact ih0 _ _)
      | (with_reducible exact ih1 _ _ _)
      | (with_reducible exact ih2 _ _ _ _)
      | (with_reducible exact ih3 _ _ _)
      | (with_reducible exact ih4 _ _ _ _ _)
      | (with_reducible exact ih5 _ _ _ _ _ _)
      | (with_reducible exact ih6 _ _ _ _ _ _)
      | (with_reducible exact ih7 _ _ _ _)
      | (with_reducible exact ih8 _ _ _ _)
      | (with_reducible exact ih9 _ _ _ _ _ _)
      | (with_reducible exact ih10 _ _)
      | (with_reducible exact LeO.refl _)
      | (with_reducible exact LeO.none _)
      | (with_reducible refine LeO.ite ?_ ?_)
      | (with_reducible refine LeO.bind ?_ (fun _ => ?_))
      | exact ih0 _ _
      | exact ih1 _ _ _
      | exact ih2 _ _ _ _
      | exact ih3 _ _ _
      | exact ih4 _ _ _ _ _
      | exact ih5 _ _ _ _ _ _
      | exact ih6 _ _ _ _ _ _
      | exact ih7 _ _ _ _
      | exact ih8 _ _ _ _
      | exact ih9 _ _ _ _ _ _
      | exact ih10 _ _
      | exact LeO.none _
      | refine LeO.ite ?_ ?_
      | refine LeO.bind ?_ (fun _ => ?_)
    · intro y0 y1
      unfold spec_DecFront.l0
      repeat' first
      | (with_reducible exact ih0 _ _)
      | (with_reducible exact ih1 _ _ _)
      | (with_reducible exact ih2 _ _ _ _)
      | (with_reducible exact ih3 _ _ _)
      | (with_reducible exact ih4 _ _ _ _ _)
      | (with_reducible exact ih5 _ _ _ _ _ _)
      | (with_reducible exact ih6 _ _ _ _ _ _)
      | (with_reducible exact ih7 _ _ _ _)
      | (with_reducible exact ih8 _ _ _ _)
      | (with_reducible exact ih9 _ _ _ _ _ _)
      | (with_reducible exact ih10 _ _)
      | (with_reducible exact LeO.refl _)
      | (with_reducible exact LeO.none _)
      | (with_reducible refine LeO.ite ?_ ?_)
      | (with_reducible refine LeO.bind ?_ (fun _ => ?_))
      | exact ih0 _ _
      | exact ih1 _ _ _
      | exact ih2 _ _ _ _
      | exact ih3 _ _ _
      | exact ih4 _ _ _ _ _
      | exact ih5 _ _ _ _ _ _
      | exact ih6 _ _ _ _ _ _
      | exact ih7 _ _ _ _
      | exact ih8 _ _ _ _
      | exact ih9 _ _ _ _ _ _
      | exact ih10 _ _
      | exact LeO.none _
      | refine LeO.ite ?_ ?_
      | refine LeO.bind ?_ (fun _ => ?_)
theorem spec_DecFront.mono : ∀ a0 k, LeO (spec_DecFront.f k a0) (spec_DecFront.f (k + 1) a0) := by
  intro a0 k
  obtain ⟨ih0, ih1, ih2, ih3, ih4, ih5, ih6, ih7, ih8, ih9, ih10⟩ := spec_DecFront.mono_l k
  unfold spec_DecFront.f
  repeat' first
      | (with_reducible exact ih0 _ _)
      | (with_reducible exact ih1 _ _ _)
      | (with_reducible exact ih2 _ _ _ _)
      | (with_reducible exact ih3 _ _ _)
      | (with_reducible exact ih4 _ _ _ _ _)
      | (with_reducible exact ih5 _ _ _ _ _ _)
      | (with_reducible exact ih6 _ _ _ _ _ _)
      | (with_reducible exact ih7 _ _ _ _)
      | (with_reducible exact ih8 _ _ _ _)
      | (with_reducible exact ih9 _ _ _ _ _ _)
      | (with_reducible exact ih10 _ _)
      | (with_reducible exact LeO.refl _)
      | (with_reducible exact LeO.none _)
      | (with_reducible refine LeO.ite ?_ ?_)
      | (with_reducible refine LeO.bind ?_ (fun _ => ?_))
      | exact ih0 _ _
      | exact ih1 _ _ _
      | exact ih2 _ _ _ _
      | exact ih3 _ _ _
      | exact ih4 _ _ _ _ _
      | exact ih5 _ _ _ _ _ _
      | exact ih6 _ _ _ _ _ _
      | exact ih7 _ _ _ _
      | exact ih8 _ _ _ _
      | exact ih9 _ _ _ _ _ _
      | exact ih10 _ _
      | exact LeO.none _
      | refine LeO.ite ?_ ?_
      | refine LeO.bind ?_ (fun _ => ?_)
noncomputable def spec_DecFront.j1v (x0 : ByteArray) (x4 : Int) : Option (Int × Int) := limOf (fun k => spec_DecFront.j1 k x0 x4)
theorem spec_DecFront.j1_lim (x0 : ByteArray) (x4 : Int) : Lim (fun k => spec_DecFront.j1 k x0 x4) (spec_DecFront.j1v x0 x4) := Lim.of (fun k => (spec_DecFront.mono_l k).1 x0 x4)
noncomputable def spec_DecFront.j2v (x0 : ByteArray) (x4 : Int) (x5 : Bool) : Option (Int × Int) := limOf (fun k => spec_DecFront.j2 k x0 x4 x5)
theorem spec_DecFront.j2_lim (x0 : ByteArray) (x4 : Int) (x5 : Bool) : Lim (fun k => spec_DecFront.j2 k x0 x4 x5) (spec_DecFront.j2v x0 x4 x5) := Lim.of (fun k => (spec_DecFront.mono_l k).2.1 x0 x4 x5)
noncomputable def spec_DecFront.j3v (x0 : ByteArray) (x4 : Int) (x5 : Bool) (x46 : Bool) : Option (Int × Int) := limOf (fun k => spec_DecFront.j3 k x0 x4 x5 x46)
theorem spec_DecFront.j3_lim (x0 : ByteArray) (x4 : Int) (x5 : Bool) (x46 : Bool) : Lim (fun k => spec_DecFront.j3 k x0 x4 x5 x46) (spec_DecFront.j3v x0 x4 x5 x46) := Lim.of (fun k => (spec_DecFront.mono_l k).2.2.1 x0 x4 x5 x46)
noncomputable def spec_DecFront.j4v (x0 : ByteArray) (x4 : Int) (x5 : Bool) : Option (Int × Int) := limOf (fun k => spec_DecFront.j4 k x0 x4 x5)
theorem spec_DecFront.j4_lim (x0 : ByteArray) (x4 : Int) (x5 : Bool) : Lim (fun k => spec_DecFront.j4 k x0 x4 x5) (spec_DecFront.j4v x0 x4 x5) := Lim.of (fun k => (spec_DecFront.mono_l k).2.2.2.1 x0 x4 x5)
noncomputable def spec_DecFront.l1v (x0 : ByteArray) (x4 : Int) (x5 : Bool) (x6 : Int) (x7 : Int) : Option (Int × Int) := limOf (fun k => spec_DecFront.l1 k x0 x4 x5 x6 x7)
theorem spec_DecFront.l1_lim (x0 : ByteArray) (x4 : Int) (x5 : Bool) (x6 : Int) (x7 : Int) : Lim (fun k => spec_DecFront.l1 k x0 x4 x5 x6 x7) (spec_DecFront.l1v x0 x4 x5 x6 x7) := Lim.of (fun k => (spec_DecFront.mono_l k).2.2.2.2.1 x0 x4 x5 x6 x7)
noncomputable def spec_DecFront.j6v (x0 : ByteArray) (x4 : Int) (x5 : Bool) (x6 : Int) (x7 : Int) (x58 : Bool) : Option (Int × Int) := limOf (fun k => spec_DecFront.j6 k x0 x4 x5 x6 x7 x58)
theorem spec_DecFront.j6_lim (x0 : ByteArray) (x4 : Int) (x5 : Bool) (x6 : Int) (x7 : Int) (x58 : Bool) : Lim (fun k => spec_DecFront.j6 k x0 x4 x5 x6 x7 x58) (spec_DecFront.j6v x0 x4 x5 x6 x7 x58) := Lim.of (fun k => (spec_DecFront.mono_l k).2.2.2.2.2.1 x0 x4 x5 x6 x7 x58)
noncomputable def spec_DecFront.j7v (x0 : ByteArray) (x4 : Int) (x5 : Bool) (x6 : Int) (x7 : Int) (x91 : Bool) : Option (Int × Int) := limOf (fun k => spec_DecFront.j7 k x0 x4 x5 x6 x7 x91)
theorem spec_DecFront.j7_lim (x0 : ByteArray) (x4 : Int) (x5 : Bool) (x6 : Int) (x7 : Int) (x91 : Bool) : Lim (fun k => spec_DecFront.j7 k x0 x4 x5 x6 x7 x91) (spec_DecFront.j7v x0 x4 x5 x6 x7 x91) := Lim.of (fun k => (spec_DecFront.mono_l k).2.2.2.2.2.2.1 x0 x4 x5 x6 x7 x91)
noncomputable def spec_DecFront.j9v (x4 : Int) (x5 : Bool) (x6 : Int) (x7 : Int) : Option (Int × Int) := limOf (fun k => spec_DecFront.j9 k x4 x5 x6 x7)
theorem spec_DecFront.j9_lim (x4 : Int) (x5 : Bool) (x6 : Int) (x7 : Int) : Lim (fun k => spec_DecFront.j9 k x4 x5 x6 x7) (spec_DecFront.j9v x4 x5 x6 x7) := Lim.of (fun k => (spec_DecFront.mono_l k).2.2.2.2.2.2.2.1 x4 x5 x6 x7)
noncomputable def spec_DecFront.j10v (x4 : Int) (x5 : Bool) (x6 : Int) (x124 : Bool) : Option (Int × Int) := limOf (fun k => spec_DecFront.j10 k x4 x5 x6 x124)
theorem spec_DecFront.j10_lim (x4 : Int) (x5 : Bool) (x6 : Int) (x124 : Bool) : Lim (fun k => spec_DecFront.j10 k x4 x5 x6 x124) (spec_DecFront.j10v x4 x5 x6 x124) := Lim.of (fun k => (spec_DecFront.mono_l k).2.2.2.2.2.2.2.2.1 x4 x5 x6 x124)
noncomputable def spec_DecFront.l2v (x0 : ByteArray) (x4 : Int) (x5 : Bool) (x6 : Int) (x7 : Int) (x8 : Int) : Option (Int × Int) := limOf (fun k => spec_DecFront.l2 k x0 x4 x5 x6 x7 x8)
theorem spec_DecFront.l2_lim (x0 : ByteArray) (x4 : Int) (x5 : Bool) (x6 : Int) (x7 : Int) (x8 : Int) : Lim (fun k => spec_DecFront.l2 k x0 x4 x5 x6 x7 x8) (spec_DecFront.l2v x0 x4 x5 x6 x7 x8) := Lim.of (fun k => (spec_DecFront.mono_l k).2.2.2.2.2.2.2.2.2.1 x0 x4 x5 x6 x7 x8)
noncomputable def spec_DecFront.l0v (x0 : ByteArray) (x4 : Int) : Option (Int × Int) := limOf (fun k => spec_DecFront.l0 k x0 x4)
theorem spec_DecFront.l0_lim (x0 : ByteArray) (x4 : Int) : Lim (fun k => spec_DecFront.l0 k x0 x4) (spec_DecFront.l0v x0 x4) := Lim.of (fun k => (spec_DecFront.mono_l k).2.2.2.2.2.2.2.2.2.2 x0 x4)
noncomputable def spec_DecFront.fv (a0 : ByteArray) : Option (Int × Int) := limOf (fun k => spec_DecFront.f k a0)
theorem spec_DecFront.f_lim (a0 : ByteArray) : Lim (fun k => spec_DecFront.f k a0) (spec_DecFront.fv a0) := Lim.of (fun k => spec_DecFront.mono a0 k)
set_option maxHeartbeats 4000000 in
theorem spec_DecFront.j1v_eq (x0 : ByteArray) (x4 : Int) : spec_DecFront.j1v x0 x4 = (if x4 < (x0.size : Int) then (if 0 ≤ x4 then (spec_DecFront.j2v x0 x4 ((bt x0 x4) == 45)) else (none)) else (spec_DecFront.j2v x0 x4 false)) := by
  refine Lim.succ (spec_DecFront.j1_lim x0 x4) ?_
  simp only [spec_DecFront.j1]
  repeat' first
    | (with_reducible apply spec_DecFront.j2_lim)
    | (with_reducible exact Lim.const _)
    | (with_reducible refine Lim.ite ?_ ?_)
    | (with_reducible refine Lim.bind ?_ (fun _ => ?_))
    | apply spec_DecFront.j2_lim
    | exact Lim.const _
    | refine Lim.ite ?_ ?_
    | refine Lim.bind ?_ (fun _ => ?_)
set_option maxHeartbeats 4000000 in
theorem spec_DecFront.j2v_eq (x0 : ByteArray) (x4 : Int) (x5 : Bool) : spec_DecFront.j2v x0 x4 x5 = (if x4 < (x0.size : Int) then (if 0 ≤ x4 then (if (bt x0 x4) = 45 then (spec_DecFront.j3v x0 x4 x5 true) else (spec_DecFront.j3v x0 x4 x5 ((bt x0 x4) == 43))) else (none)) else (spec_DecFront.j3v x0 x4 x5 false)) := by
  refine Lim.succ (spec_DecFront.j2_lim x0 x4 x5) ?_
  simp only [spec_DecFront.j2]
  repeat' first
    | (with_reducible apply spec_DecFront.j3_lim)
    | (with_reducible exact Lim.const _)
    | (with_reducible refine Lim.ite ?_ ?_)
    | (with_reducible refine Lim.bind ?_ (fun _ => ?_))
    | apply spec_DecFront.j3_lim
    | exact Lim.const _
    | refine Lim.ite ?_ ?_
    | refine Lim.bind ?_ (fun _ => ?_)
set_option maxHeartbeats 4000000 in
theorem spec_DecFront.j3v_eq (x0 : ByteArray) (x4 : Int) (x5 : Bool) (x46 : Bool) : spec_DecFront.j3v x0 x4 x5 x46 = (if x46 = true then (spec_DecFront.j4v x0 (wrap64 (x4 + 1)) x5) else (spec_DecFront.j4v x0 x4 x5)) := by
  refine Lim.succ (spec_DecFront.j3_lim x0 x4 x5 x46) ?_
  simp only [spec_DecFront.j3]
  repeat' first
    | (with_reducible apply spec_DecFront.j4_lim)
    | (with_reducible exact Lim.const _)
    | (with_reducible refine Lim.ite ?_ ?_)
    | (with_reducible refine Lim.bind ?_ (fun _ => ?_))
    | apply spec_DecFront.j4_lim
    | exact Lim.const _
    | refine Lim.ite ?_ ?_
    | refine Lim.bind ?_ (fun _ => ?_)
set_option maxHeartbeats 4000000 in
theorem spec_DecFront.j4v_eq (x0 : ByteArray) (x4 : Int) (x5 : Bool) : spec_DecFront.j4v x0 x4 x5 = (spec_DecFront.l1v x0 x4 x5 0 0) := by
  refine Lim.succ (spec_DecFront.j4_lim x0 x4 x5) ?_
  simp only [spec_DecFront.j4]
  repeat' first
    | (with_reducible apply spec_DecFront.l1_lim)
    | (with_reducible exact Lim.const _)
    | (with_reducible refine Lim.ite ?_ ?_)
    | (with_reducible refine Lim.bind ?_ (fun _ => ?_))
    | apply spec_DecFront.l1_lim
    | exact Lim.const _
    | refine Lim.ite ?_ ?_
    | refine Lim.bind ?_ (fun _ => ?_)
set_option maxHeartbeats 4000000 in
theorem spec_DecFront.l1v_eq (x0 : ByteArray) (x4 : Int) (x5 : Bool) (x6 : Int) (x7 : Int) : spec_DecFront.l1v x0 x4 x5 x6 x7 = (if x4 < (x0.size : Int) then (if 0 ≤ x4 then ((spec_l2Digit.f (bt x0 x4)).bind fun t111 => (spec_DecFront.j6v x0 x4 x5 x6 x7 t111)) else (none)) else (spec_DecFront.j6v x0 x4 x5 x6 x7 false)) := by
  refine Lim.succ (spec_DecFront.l1_lim x0 x4 x5 x6 x7) ?_
  simp only [spec_DecFront.l1]
  repeat' first
    | (with_reducible apply spec_DecFront.j6_lim)
    | (with_reducible exact Lim.const _)
    | (with_reducible refine Lim.ite ?_ ?_)
    | (with_reducible refine Lim.bind ?_ (fun _ => ?_))
    | apply spec_DecFront.j6_lim
    | exact Lim.const _
    | refine Lim.ite ?_ ?_
    | refine Lim.bind ?_ (fun _ => ?_)
set_option maxHeartbeats 4000000 in
theorem spec_DecFront.j6v_eq (x0 : ByteArray) (x4 : Int) (x5 : Bool) (x6 : Int) (x7 : Int) (x58 : Bool) : spec_DecFront.j6v x0 x4 x5 x6 x7 x58 = (if x58 = true then (if x6 ≤ 9000000000000 then (if 0 ≤ x4 then (if x4 < (x0.size : Int) then (spec_DecFront.l1v x0 (wrap64 (x4 + 1)) x5 (wrap64 ((wrap64 (10 * x6)) + (wrap64 ((wrap64 ((wrap64 (bt x0 x4)) - 48)) * 1000000)))) (wrap64 (x7 + 1))) else (none)) else (none)) else (spec_DecFront.l1v x0 (wrap64 (x4 + 1)) x5 x6 (wrap64 (x7 + 1)))) else (if (wrap64 (x4 + 1)) < (x0.size : Int) then (if 0 ≤ x4 then (if x4 < (x0.size : Int) then (if (bt x0 x4) = 46 then (if 0 ≤ (wrap64 (x4 + 1)) then ((spec_l2Digit.f (bt x0 (wrap64 (x4 + 1)))).bind fun t112 => (spec_DecFront.j7v x0 x4 x5 x6 x7 t112)) else (none)) else (spec_DecFront.j7v x0 x4 x5 x6 x7 false)) else (none)) else (none)) else (spec_DecFront.j7v x0 x4 x5 x6 x7 false))) := by
  refine Lim.succ (spec_DecFront.j6_lim x0 x4 x5 x6 x7 x58) ?_
  simp only [spec_DecFront.j6]
  repeat' first
    | (with_reducible apply spec_DecFront.j7_lim)
    | (with_reducible apply spec_DecFront.l1_lim)
    | (with_reducible exact Lim.const _)
    | (with_reducible refine Lim.ite ?_ ?_)
    | (with_reducible refine Lim.bind ?_ (fun _ => ?_))
    | apply spec_DecFront.j7_lim
    | apply spec_DecFront.l1_lim
    | exact Lim.const _
    | refine Lim.ite ?_ ?_
    | refine Lim.bind ?_ (fun _ => ?_)
set_option maxHeartbeats 4000000 in
theorem spec_DecFront.j7v_eq (x0 : ByteArray) (x4 : Int) (x5 : Bool) (x6 : Int) (x7 : Int) (x91 : Bool) : spec_DecFront.j7v x0 x4 x5 x6 x7 x91 = (if x91 = true then (spec_DecFront.l2v x0 (wrap64 (x4 + 1)) x5 x6 x7 100000) else (spec_DecFront.j9v x4 x5 x6 x7)) := by
  refine Lim.succ (spec_DecFront.j7_lim x0 x4 x5 x6 x7 x91) ?_
  simp only [spec_DecFront.j7]
  repeat' first
    | (with_reducible apply spec_DecFront.j9_lim)
    | (with_reducible apply spec_DecFront.l2_lim)
    | (with_reducible exact Lim.const _)
    | (with_reducible refine Lim.ite ?_ ?_)
    | (with_reducible refine Lim.bind ?_ (fun _ => ?_))
    | apply spec_DecFront.j9_lim
    | apply spec_DecFront.l2_lim
    | exact Lim.const _
    | refine Lim.ite ?_ ?_
    | refine Lim.bind ?_ (fun _ => ?_)
set_option maxHeartbeats 4000000 in
theorem spec_DecFront.j9v_eq (x4 : Int) (x5 : Bool) (x6 : Int) (x7 : Int) : spec_DecFront.j9v x4 x5 x6 x7 = (if x7 = 0 then (spec_DecFront.j10v x4 x5 x6 true) else (spec_DecFront.j10v x4 x5 x6 (decide (x6 > 9000000000000)))) := by
  refine Lim.succ (spec_DecFront.j9_lim x4 x5 x6 x7) ?_
  simp only [spec_DecFront.j9]
  repeat' first
    | (with_reducible apply spec_DecFront.j10_lim)
    | (with_reducible exact Lim.const _)
    | (with_reducible refine Lim.ite ?_ ?_)
    | (with_reducible refine Lim.bind ?_ (fun _ => ?_))
    | apply spec_DecFront.j10_lim
    | exact Lim.const _
    | refine Lim.ite ?_ ?_
    | refine Lim.bind ?_ (fun _ => ?_)
set_option maxHeartbeats 4000000 in
theorem spec_DecFront.j10v_eq (x4 : Int) (x5 : Bool) (x6 : Int) (x124 : Bool) : spec_DecFront.j10v x4 x5 x6 x124 = (if x124 = true then (some (0, 0)) else (if x5 = true then (some (wrap64 (-x6), x4)) else (some (x6, x4)))) := by
  refine Lim.succ (spec_DecFront.j10_lim x4 x5 x6 x124) ?_
  simp only [spec_DecFront.j10]
  repeat' first
    | (with_reducible exact Lim.const _)
    | (with_reducible refine Lim.ite ?_ ?_)
    | (with_reducible refine Lim.bind ?_ (fun _ => ?_))
    | exact Lim.const _
    | refine Lim.ite ?_ ?_
    | refine Lim.bind ?_ (fun _ => ?_)
set_option maxHeartbeats 4000000 in
theorem spec_DecFront.l2v_eq (x0 : ByteArray) (x4 : Int) (x5 : Bool) (x6 : Int) (x7 : Int) (x8 : Int) : spec_DecFront.l2v x0 x4 x5 x6 x7 x8 = (if x4 < (x0.size : Int) then (if 0 ≤ x4 then ((spec_l2Digit.f (bt x0 x4)).bind fun t113 => (if t113 = true then (spec_DecFront.l2v x0 (wrap64 (x4 + 1)) x5 (wrap64 (x6 + (wrap64 ((wrap64 ((wrap64 (bt x0 x4)) - 48)) * x8)))) (wrap64 (x7 + 1)) (wrap64 (Int.tdiv x8 10))) else (spec_DecFront.j9v x4 x5 x6 x7))) else (none)) else (spec_DecFront.j9v x4 x5 x6 x7)) := by
  refine Lim.succ (spec_DecFront.l2_lim x0 x4 x5 x6 x7 x8) ?_
  simp only [spec_DecFront.l2]
  repeat' first
    | (with_reducible apply spec_DecFront.j9_lim)
    | (with_reducible apply spec_DecFront.l2_lim)
    | (with_reducible exact Lim.const _)
    | (with_reducible refine Lim.ite ?_ ?_)
    | (with_reducible refine Lim.bind ?_ (fun _ => ?_))
    | apply spec_DecFront.j9_lim
    | apply spec_DecFront.l2_lim
    | exact Lim.const _
    | refine Lim.ite ?_ ?_
    | refine Lim.bind ?_ (fun _ => ?_)
set_option maxHeartbeats 4000000 in
theorem spec_DecFront.l0v_eq (x0 : ByteArray) (x4 : Int) : spec_DecFront.l0v x0 x4 = (if x4 < (x0.size : Int) then (if 0 ≤ x4 then (if (bt x0 x4) = 32 then (spec_DecFront.l0v x0 (wrap64 (x4 + 1))) else (spec_DecFront.j1v x0 x4)) else (none)) else (spec_DecFront.j1v x0 x4)) := by
  refine Lim.succ (spec_DecFront.l0_lim x0 x4) ?_
  simp only [spec_DecFront.l0]
  repeat' first
    | (with_reducible apply spec_DecFront.j1_lim)
    | (with_reducible apply spec_DecFront.l0_lim)
    | (with_reducible exact Lim.const _)
    | (with_reducible refine Lim.ite ?_ ?_)
    | (with_reducible refine Lim.bind ?_ (fun _ => ?_))
    | apply spec_DecFront.j1_lim
    | apply spec_DecFront.l0_lim
    | exact Lim.const _
    | refine Lim.ite ?_ ?_
    | refine Lim.bind ?_ (fun _ => ?_)
set_option maxHeartbeats 4000000 in
theorem spec_DecFront.fv_eq (a0 : ByteArray) : spec_DecFront.fv a0 = (spec_DecFront.l0v a0 0) := by
  refine Lim.eq (spec_DecFront.f_lim a0) ?_
  simp only [spec_DecFront.f]
  repeat' first
    | (with_reducible apply spec_DecFront.l0_lim)
    | (with_reducible exact Lim.const _)
    | (with_reducible refine Lim.ite ?_ ?_)
    | (with_reducible refine Lim.bind ?_ (fun _ => ?_))
    | apply spec_DecFront.l0_lim
    | exact Lim.const _
    | refine Lim.ite ?_ ?_
    | refine Lim.bind ?_ (fun _ => ?_)

/-! ### spec_DecLooks -/
def spec_DecLooks.l0 : Nat → ByteArray → Int → Int → Option (Int × Bool)
  | 0, _, _, _ => none
  | k + 1, x0, x4, x5 => if x5 < (x0.size : Int) then (if 0 ≤ x5 then (if (bt x0 x5) = 32 then (spec_DecLooks.l0 k x0 x4 (wrap64 (x5 + 1))) else (some (0, false))) else (none)) else (some (x4, true))
def spec_DecLooks.f (k : Nat) (a0 : ByteArray) : Option (Int × Bool) := (spec_DecFront.f k a0).bind fun bt114 => (if bt114.2 = 0 then (some (0, false)) else (spec_DecLooks.l0 k a0 bt114.1 bt114.2))
theorem spec_DecLooks.mono_l : ∀ k, (∀ y0 y1 y2, LeO (spec_DecLooks.l0 k y0 y1 y2) (spec_DecLooks.l0 (k + 1) y0 y1 y2))
  | 0 => fun _ _ _ r h => by simp [spec_DecLooks.l0] at h
  | k + 1 => by
    have ih0 := spec_DecLooks.mono_l k
    · intro y0 y1 y2
      unfold spec_DecLooks.l0
      repeat' first
      | (with_reducible exact ih0 _ _ _)
      | (with_reducible exact spec_DecFront.mono _ _)
      | (with_reducible exact LeO.refl _)
      | (with_reducible exact LeO.none _)
      | (with_reducible refine LeO.ite ?_ ?_)
      | (with_reducible refine LeO.bind ?_ (fun _ => ?_))
      | exact ih0 _ _ _
      | exact spec_DecFront.mono _ _
      | exact LeO.none _
      | refine LeO.ite ?_ ?_
      | refine LeO.bind ?_ (fun _ => ?_)
theorem spec_DecLooks.mono : ∀ a0 k, LeO (spec_DecLooks.f k a0) (spec_DecLooks.f (k + 1) a0) := by
  intro a0 k
  have ih0 := spec_DecLooks.mono_l k
  unfold spec_DecLooks.f
  repeat' first
      | (with_reducible exact ih0 _ _ _)
      | (with_reducible exact spec_DecFront.mono _ _)
      | (with_reducible exact LeO.refl _)
      | (with_reducible exact LeO.none _)
      | (with_reducible refine LeO.ite ?_ ?_)
      | (with_reducible refine LeO.bind ?_ (fun _ => ?_))
      | exact ih0 _ _ _
      | exact spec_DecFront.mono _ _
      | exact LeO.none _
      | refine LeO.ite ?_ ?_
      | refine LeO.bind ?_ (fun _ => ?_)
noncomputable def spec_DecLooks.l0v (x0 : ByteArray) (x4 : Int) (x5 : Int) : Option (Int × Bool) := limOf (fun k => spec_DecLooks.l0 k x0 x4 x5)
theorem spec_DecLooks.l0_lim (x0 : ByteArray) (x4 : Int) (x5 : Int) : Lim (fun k => spec_DecLooks.l0 k x0 x4 x5) (spec_DecLooks.l0v x0 x4 x5) := Lim.of (fun k => spec_DecLooks.mono_l k x0 x4 x5)
noncomputable def spec_DecLooks.fv (a0 : ByteArray) : Option (Int × Bool) := limOf (fun k => spec_DecLooks.f k a0)
theorem spec_DecLooks.f_lim (a0 : ByteArray) : Lim (fun k => spec_DecLooks.f k a0) (spec_DecLooks.fv a0) := Lim.of (fun k => spec_DecLooks.mono a0 k)
set_option maxHeartbeats 4000000 in
theorem spec_DecLooks.l0v_eq (x0 : ByteArray) (x4 : Int) (x5 : Int) : spec_DecLooks.l0v x0 x4 x5 = (if x5 < (x0.size : Int) then (if 0 ≤ x5 then (if (bt x0 x5) = 32 then (spec_DecLooks.l0v x0 x4 (wrap64 (x5 + 1))) else (some (0, false))) else (none)) else (some (x4, true))) := by
  refine Lim.succ (spec_DecLooks.l0_lim x0 x4 x5) ?_
  simp only [spec_DecLooks.l0]
  repeat' first
    | (with_reducible apply spec_DecLooks.l0_lim)
    | (with_reducible exact Lim.const _)
    | (with_reducible refine Lim.ite ?_ ?_)
    | (with_reducible refine Lim.bind ?_ (fun _ => ?_))
    | apply spec_DecLooks.l0_lim
    | exact Lim.const _
    | refine Lim.ite ?_ ?_
    | refine Lim.bind ?_ (fun _ => ?_)
set_option maxHeartbeats 4000000 in
theorem spec_DecLooks.fv_eq (a0 : ByteArray) : spec_DecLooks.fv a0 = ((spec_DecFront.fv a0).bind fun bt114 => (if bt114.2 = 0 then (some (0, false)) else (spec_DecLooks.l0v a0 bt114.1 bt114.2))) := by
  refine Lim.eq (spec_DecLooks.f_lim a0) ?_
  simp only [spec_DecLooks.f]
  repeat' first
    | (with_reducible apply spec_DecFront.f_lim)
    | (with_reducible apply spec_DecLooks.l0_lim)
    | (with_reducible exact Lim.const _)
    | (with_reducible refine Lim.ite ?_ ?_)
    | (with_reducible refine Lim.bind ?_ (fun _ => ?_))
    | apply spec_DecFront.f_lim
    | apply spec_DecLooks.l0_lim
    | exact Lim.const _
    | refine Lim.ite ?_ ?_
    | refine Lim.bind ?_ (fun _ => ?_)

/-! ### spec_l1In -/
def spec_l1In.f (a0 : Int) (a1 : Int) (a2 : Int) : Option (Bool) := if a0 ≥ a1 then (some (decide (a0 ≤ a2))) else (some false)

/-! ### spec_DecOk -/
def spec_DecOk.f (a0 : Int) : Option (Bool) := (spec_l1In.f a0 (-9000000000000) 9000000000000).bind fun t116 => (some t116)

/-! ### spec_ValOk -/
def spec_ValOk.j0 : Nat → Bool → Int → Int → ByteArray → Option (Bool)
  | 0, _, _, _, _ => none
  | k + 1, x20, x118000, x118001, x118002 => if x20 = true then (some false) else (if x118000 = 0 then (if x118001 = 0 then (some (x118002.toList == ([] : List UInt8))) else (some false)) else (if x118000 = 1 then (some (x118002.toList == ([] : List UInt8))) else (if x118000 = 2 then (some (x118001 == 0)) else ((spec_DecLooks.f k x118002).bind fun bt120 => (if bt120.2 = true then (some (bt120.1 == x118001)) else (some false))))))
def spec_ValOk.f (k : Nat) (a0_0 : Int) (a0_1 : Int) (a0_2 : ByteArray) : Option (Bool) := (spec_l1In.f a0_0 0 3).bind fun t118 => (if t118 = true then ((spec_DecOk.f a0_1).bind fun t119 => (if t119 = true then (spec_ValOk.j0 k (decide ((a0_2.size : Int) > 300)) a0_0 a0_1 a0_2) else (spec_ValOk.j0 k true a0_0 a0_1 a0_2))) else (spec_ValOk.j0 k true a0_0 a0_1 a0_2))
theorem spec_ValOk.mono_l : ∀ k, (∀ y0 y1 y2 y3, LeO (spec_ValOk.j0 k y0 y1 y2 y3) (spec_ValOk.j0 (k + 1) y0 y1 y2 y3))
  | 0 => fun _ _ _ _ r h => by simp [spec_ValOk.j0] at h
  | k + 1 => by
    have ih0 := spec_ValOk.mono_l k
    · intro y0 y1 y2 y3
      unfold spec_ValOk.j0
      repeat' first
      | (with_reducible exact ih0 _ _ _ _)
      | (with_reducible exact spec_DecLooks.mono _ _)
      | (with_reducible exact LeO.refl _)
      | (with_reducible exact LeO.none _)
      | (with_reducible refine LeO.ite ?_ ?_)
      | (with_reducible refine LeO.bind ?_ (fun _ => ?_))
      | exact ih0 _ _ _ _
      | exact spec_DecLooks.mono _ _
      | exact LeO.none _
      | refine LeO.ite ?_ ?_
      | refine LeO.bind ?_ (fun _ => ?_)
theorem spec_ValOk.mono : ∀ a0 a1 a2 k, LeO (spec_ValOk.f k a0 a1 a2) (spec_ValOk.f (k + 1) a0 a1 a2) := by
  intro a0 a1 a2 k
  have ih0 := spec_ValOk.mono_l k
  unfold spec_ValOk.f
  repeat' first
      | (with_reducible exact ih0 _ _ _ _)
      | (with_reducible exact spec_DecLooks.mono _ _)
      | (with_reducible exact LeO.refl _)
      | (with_reducible exact LeO.none _)
      | (with_reducible refine LeO.ite ?_ ?_)
      | (with_reducible refine LeO.bind ?_ (fun _ => ?_))
      | exact ih0 _ _ _ _
      | exact spec_DecLooks.mono _ _
      | exact LeO.none _
      | refine LeO.ite ?_ ?_
      | refine LeO.bind ?_ (fun _ => ?_)
noncomputable def spec_ValOk.j0v (x20 : Bool) (x118000 : Int) (x118001 : Int) (x118002 : ByteArray) : Option (Bool) := limOf (fun k => spec_ValOk.j0 k x20 x118000 x118001 x118002)
theorem spec_ValOk.j0_lim (x20 : Bool) (x118000 : Int) (x118001 : Int) (x118002 : ByteArray) : Lim (fun k => spec_ValOk.j0 k x20 x118000 x118001 x118002) (spec_ValOk.j0v x20 x118000 x118001 x118002) := Lim.of (fun k => spec_ValOk.mono_l k x20 x118000 x118001 x118002)
noncomputable def spec_ValOk.fv (a0_0 : Int) (a0_1 : Int) (a0_2 : ByteArray) : Option (Bool) := limOf (fun k => spec_ValOk.f k a0_0 a0_1 a0_2)
theorem spec_ValOk.f_lim (a0_0 : Int) (a0_1 : Int) (a0_2 : ByteArray) : Lim (fun k => spec_ValOk.f k a0_0 a0_1 a0_2) (spec_ValOk.fv a0_0 a0_1 a0_2) := Lim.of (fun k => spec_ValOk.mono a0_0 a0_1 a0_2 k)
set_option maxHeartbeats 4000000 in
theorem spec_ValOk.j0v_eq (x20 : Bool) (x118000 : Int) (x118001 : Int) (x118002 : ByteArray) : spec_ValOk.j0v x20 x118000 x118001 x118002 = (if x20 = true then (some false) else (if x118000 = 0 then (if x118001 = 0 then (some (x118002.toList == ([] : List UInt8))) else (some false)) else (if x118000 = 1 then (some (x118002.toList == ([] : List UInt8))) else (if x118000 = 2 then (some (x118001 == 0)) else ((spec_DecLooks.fv x118002).bind fun bt120 => (if bt120.2 = true then (some (bt120.1 == x118001)) else (some false))))))) := by
  refine Lim.succ (spec_ValOk.j0_lim x20 x118000 x118001 x118002) ?_
  simp only [spec_ValOk.j0]
  repeat' first
    | (with_reducible apply spec_DecLooks.f_lim)
    | (with_reducible exact Lim.const _)
    | (with_reducible refine Lim.ite ?_ ?_)
    | (with_reducible refine Lim.bind ?_ (fun _ => ?_))
    | apply spec_DecLooks.f_lim
    | exact Lim.const _
    | refine Lim.ite ?_ ?_
    | refine Lim.bind ?_ (fun _ => ?_)
set_option maxHeartbeats 4000000 in
theorem spec_ValOk.fv_eq (a0_0 : Int) (a0_1 : Int) (a0_2 : ByteArray) : spec_ValOk.fv a0_0 a0_1 a0_2 = ((spec_l1In.f a0_0 0 3).bind fun t118 => (if t118 = true then ((spec_DecOk.f a0_1).bind fun t119 => (if t119 = true then (spec_ValOk.j0v (decide ((a0_2.size : Int) > 300)) a0_0 a0_1 a0_2) else (spec_ValOk.j0v true a0_0 a0_1 a0_2))) else (spec_ValOk.j0v true a0_0 a0_1 a0_2))) := by
  refine Lim.eq (spec_ValOk.f_lim a0_0 a0_1 a0_2) ?_
  simp only [spec_ValOk.f]
  repeat' first
    | (with_reducible apply spec_ValOk.j0_lim)
    | (with_reducible exact Lim.const _)
    | (with_reducible refine Lim.ite ?_ ?_)
    | (with_reducible refine Lim.bind ?_ (fun _ => ?_))
    | apply spec_ValOk.j0_lim
    | exact Lim.const _
    | refine Lim.ite ?_ ?_
    | refine Lim.bind ?_ (fun _ => ?_)

/-! ### spec_l11Less -/
def spec_l11Less.f (a0_0 : Int) (a0_1 : ByteArray) (a0_2 : Int) (a0_3 : Int) (a0_4 : ByteArray) (a1 : Int) (a2 : ByteArray) : Option (Bool) := if a0_0 < a1 then (some true) else (if a0_0 = a1 then (some (Op.bytesLess a0_1.toList a2.toList)) else (some false))

end Go.Proofs.YtejndaljfbclnaaDoor.QFnExactStateOk
