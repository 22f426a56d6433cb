/- Written by wip/pr2, a program of this session. -/
import Derived.Test.YtakicaelepgmcaaQFnExactGetNumx0
import Derived.Test.YtakicaelepgmcaaLim
namespace Go.Proofs.Ytakicaelepgmcaa.QFnExactGetNum
open Go.RowKit Go.Proofs.YtakicaelepgmcaaW.PrintWords Go.Proofs.YtakicaelepgmcaaW.PrintLast Go.Proofs.YtakicaelepgmcaaW.PrintMore
attribute [local go_sem] max2_int min2_int max_two min_two max_three min_three max_four min_four   -- for this text's walks alone
set_option linter.unusedVariables false
set_option linter.unusedSimpArgs false

open Go.Proofs.YtakicaelepgmcaaW.Lims
/-! ### laws_eqByteS -/
def laws_eqByteS.l0 : Nat → List Int → List Int → Int → Option (Bool)
  | 0, _, _, _ => none
  | k + 1, x0, x1, x5 => if x5 < (x0.length : Int) then (if 0 ≤ x5 then (if x5 < (x1.length : Int) then (if (rd x0 x5) = (rd x1 x5) then (laws_eqByteS.l0 k x0 x1 (wrap64 (x5 + 1))) else (some false)) else (none)) else (none)) else (some true)
def laws_eqByteS.f (k : Nat) (l0 : List Int) (l1 : List Int) : Option (Bool) := if (l0.length : Int) = (l1.length : Int) then (laws_eqByteS.l0 k l0 l1 0) else (some false)
theorem laws_eqByteS.mono_l : ∀ k, (∀ y0 y1 y2, LeO (laws_eqByteS.l0 k y0 y1 y2) (laws_eqByteS.l0 (k + 1) y0 y1 y2))
  | 0 => fun _ _ _ r h => by simp [laws_eqByteS.l0] at h
  | k + 1 => by
    have ih0 := laws_eqByteS.mono_l k
    · intro y0 y1 y2
      unfold laws_eqByteS.l0
      repeat' first
      | (with_reducible exact ih0 _ _ _)
      | (with_reducible exact LeO.refl _)
      | (with_reducible exact LeO.none _)
      | (with_reducible refine LeO.ite ?_ ?_)
      | (with_reducible refine LeO.bind ?_ (fun _ => ?_))
      | exact ih0 _ _ _
      | exact LeO.none _
      | refine LeO.ite ?_ ?_
      | refine LeO.bind ?_ (fun _ => ?_)
theorem laws_eqByteS.mono : ∀ a0 a1 k, LeO (laws_eqByteS.f k a0 a1) (laws_eqByteS.f (k + 1) a0 a1) := by
  intro a0 a1 k
  have ih0 := laws_eqByteS.mono_l k
  unfold laws_eqByteS.f
  repeat' first
      | (with_reducible exact ih0 _ _ _)
      | (with_reducible exact LeO.refl _)
      | (with_reducible exact LeO.none _)
      | (with_reducible refine LeO.ite ?_ ?_)
      | (with_reducible refine LeO.bind ?_ (fun _ => ?_))
      | exact ih0 _ _ _
      | exact LeO.none _
      | refine LeO.ite ?_ ?_
      | refine LeO.bind ?_ (fun _ => ?_)
noncomputable def laws_eqByteS.l0v (x0 : List Int) (x1 : List Int) (x5 : Int) : Option (Bool) := limOf (fun k => laws_eqByteS.l0 k x0 x1 x5)
theorem laws_eqByteS.l0_lim (x0 : List Int) (x1 : List Int) (x5 : Int) : Lim (fun k => laws_eqByteS.l0 k x0 x1 x5) (laws_eqByteS.l0v x0 x1 x5) := Lim.of (fun k => laws_eqByteS.mono_l k x0 x1 x5)
noncomputable def laws_eqByteS.fv (l0 : List Int) (l1 : List Int) : Option (Bool) := limOf (fun k => laws_eqByteS.f k l0 l1)
theorem laws_eqByteS.f_lim (l0 : List Int) (l1 : List Int) : Lim (fun k => laws_eqByteS.f k l0 l1) (laws_eqByteS.fv l0 l1) := Lim.of (fun k => laws_eqByteS.mono l0 l1 k)
set_option maxHeartbeats 4000000 in
theorem laws_eqByteS.l0v_eq (x0 : List Int) (x1 : List Int) (x5 : Int) : laws_eqByteS.l0v x0 x1 x5 = (if x5 < (x0.length : Int) then (if 0 ≤ x5 then (if x5 < (x1.length : Int) then (if (rd x0 x5) = (rd x1 x5) then (laws_eqByteS.l0v x0 x1 (wrap64 (x5 + 1))) else (some false)) else (none)) else (none)) else (some true)) := by
  refine Lim.succ (laws_eqByteS.l0_lim x0 x1 x5) ?_
  simp only [laws_eqByteS.l0]
  repeat' first
    | (with_reducible apply laws_eqByteS.l0_lim)
    | (with_reducible exact Lim.const _)
    | (with_reducible refine Lim.ite ?_ ?_)
    | (with_reducible refine Lim.bind ?_ (fun _ => ?_))
    | apply laws_eqByteS.l0_lim
    | exact Lim.const _
    | refine Lim.ite ?_ ?_
    | refine Lim.bind ?_ (fun _ => ?_)
set_option maxHeartbeats 4000000 in
theorem laws_eqByteS.fv_eq (l0 : List Int) (l1 : List Int) : laws_eqByteS.fv l0 l1 = (if (l0.length : Int) = (l1.length : Int) then (laws_eqByteS.l0v l0 l1 0) else (some false)) := by
  refine Lim.eq (laws_eqByteS.f_lim l0 l1) ?_
  simp only [laws_eqByteS.f]
  repeat' first
    | (with_reducible apply laws_eqByteS.l0_lim)
    | (with_reducible exact Lim.const _)
    | (with_reducible refine Lim.ite ?_ ?_)
    | (with_reducible refine Lim.bind ?_ (fun _ => ?_))
    | apply laws_eqByteS.l0_lim
    | exact Lim.const _
    | refine Lim.ite ?_ ?_
    | refine Lim.bind ?_ (fun _ => ?_)

/-! ### spec_GetNum -/
mutual
def spec_GetNum.l0 : Nat → List Int → Int → Int → Int → Option (Int × Int × Bool)
  | 0, _, _, _, _ => none
  | k + 1, x0, x1, x7, x8 => if x8 < 9 then (if x1 < 0 then (spec_GetNum.j1 k x0 x1 x7 x8 true) else (spec_GetNum.j1 k x0 x1 x7 x8 (decide (x1 ≥ (wrap64 ((x0.length : Int) - x8)))))) else (some (0, 0, false))
def spec_GetNum.j1 : Nat → List Int → Int → Int → Int → Bool → Option (Int × Int × Bool)
  | 0, _, _, _, _, _ => none
  | k + 1, x0, x1, x7, x8, x23 => if x23 = true then (some (0, 0, false)) else (if 0 ≤ (wrap64 (x1 + x8)) then (if (wrap64 (x1 + x8)) < (x0.length : Int) then (if 0 ≤ (wrap64 (7 * x8)) then (if (wrap64 (rd x0 (wrap64 (x1 + x8)))) < 128 then (if x8 > 0 then (if (wrap64 (rd x0 (wrap64 (x1 + x8)))) = 0 then (some (0, 0, false)) else (if (Go.bits .or .i64 x7 (shl .i64 (Int.tmod (wrap64 (rd x0 (wrap64 (x1 + x8)))) 128) (wrap64 (7 * x8)))) > 4611686018427387903 then (some (0, 0, false)) else (if (Go.bits .or .i64 x7 (shl .i64 (Int.tmod (wrap64 (rd x0 (wrap64 (x1 + x8)))) 128) (wrap64 (7 * x8)))) < 0 then (some (0, 0, false)) else (some (Go.bits .or .i64 x7 (shl .i64 (Int.tmod (wrap64 (rd x0 (wrap64 (x1 + x8)))) 128) (wrap64 (7 * x8))), wrap64 ((wrap64 (x1 + x8)) + 1), true))))) else (if (Go.bits .or .i64 x7 (shl .i64 (Int.tmod (wrap64 (rd x0 (wrap64 (x1 + x8)))) 128) (wrap64 (7 * x8)))) > 4611686018427387903 then (some (0, 0, false)) else (if (Go.bits .or .i64 x7 (shl .i64 (Int.tmod (wrap64 (rd x0 (wrap64 (x1 + x8)))) 128) (wrap64 (7 * x8)))) < 0 then (some (0, 0, false)) else (some (Go.bits .or .i64 x7 (shl .i64 (Int.tmod (wrap64 (rd x0 (wrap64 (x1 + x8)))) 128) (wrap64 (7 * x8))), wrap64 ((wrap64 (x1 + x8)) + 1), true))))) else (spec_GetNum.l0 k x0 x1 (Go.bits .or .i64 x7 (shl .i64 (Int.tmod (wrap64 (rd x0 (wrap64 (x1 + x8)))) 128) (wrap64 (7 * x8)))) (wrap64 (x8 + 1)))) else (none)) else (none)) else (none))
end
def spec_GetNum.f (k : Nat) (l0 : List Int) (a1 : Int) : Option (Int × Int × Bool) := spec_GetNum.l0 k l0 a1 0 0
theorem spec_GetNum.mono_l : ∀ k, (∀ y0 y1 y2 y3, LeO (spec_GetNum.l0 k y0 y1 y2 y3) (spec_GetNum.l0 (k + 1) y0 y1 y2 y3)) ∧ (∀ y0 y1 y2 y3 y4, LeO (spec_GetNum.j1 k y0 y1 y2 y3 y4) (spec_GetNum.j1 (k + 1) y0 y1 y2 y3 y4))
  | 0 => ⟨fun _ _ _ _ r h => by simp [spec_GetNum.l0] at h, fun _ _ _ _ _ r h => by simp [spec_GetNum.j1] at h⟩
  | k + 1 => by
    obtain ⟨ih0, ih1⟩ := spec_GetNum.mono_l k
    refine ⟨?_, ?_⟩
    · intro y0 y1 y2 y3
      unfold spec_GetNum.l0
      repeat' first
      | (with_reducible exact ih0 _ _ _ _)
      | (with_reducible exact ih1 _ _ _ _ _)
      | (with_reducible exact LeO.refl _)
      | (with_reducible exact LeO.none _)
      | (with_reducible refine LeO.ite ?_ ?_)
      | (with_reducible refine LeO.bind ?_ (fun _ => ?_))
      | exact ih0 _ _ _ _
      | exact ih1 _ _ _ _ _
      | exact LeO.none _
      | refine LeO.ite ?_ ?_
      | refine LeO.bind ?_ (fun _ => ?_)
    · intro y0 y1 y2 y3 y4
      unfold spec_GetNum.j1
      repeat' first
      | (with_reducible exact ih0 _ _ _ _)
      | (with_reducible exact ih1 _ _ _ _ _)
      | (with_reducible exact LeO.refl _)
      | (with_reducible exact LeO.none _)
      | (with_reducible refine LeO.ite ?_ ?_)
      | (with_reducible refine LeO.bind ?_ (fun _ => ?_))
      | exact ih0 _ _ _ _
      | exact ih1 _ _ _ _ _
      | exact LeO.none _
      | refine LeO.ite ?_ ?_
      | refine LeO.bind ?_ (fun _ => ?_)
theorem spec_GetNum.mono : ∀ a0 a1 k, LeO (spec_GetNum.f k a0 a1) (spec_GetNum.f (k + 1) a0 a1) := by
  intro a0 a1 k
  obtain ⟨ih0, ih1⟩ := spec_GetNum.mono_l k
  unfold spec_GetNum.f
  repeat' first
      | (with_reducible exact ih0 _ _ _ _)
      | (with_reducible exact ih1 _ _ _ _ _)
      | (with_reducible exact LeO.refl _)
      | (with_reducible exact LeO.none _)
      | (with_reducible refine LeO.ite ?_ ?_)
      | (with_reducible refine LeO.bind ?_ (fun _ => ?_))
      | exact ih0 _ _ _ _
      | exact ih1 _ _ _ _ _
      | exact LeO.none _
      | refine LeO.ite ?_ ?_
      | refine LeO.bind ?_ (fun _ => ?_)
noncomputable def spec_GetNum.l0v (x0 : List Int) (x1 : Int) (x7 : Int) (x8 : Int) : Option (Int × Int × Bool) := limOf (fun k => spec_GetNum.l0 k x0 x1 x7 x8)
theorem spec_GetNum.l0_lim (x0 : List Int) (x1 : Int) (x7 : Int) (x8 : Int) : Lim (fun k => spec_GetNum.l0 k x0 x1 x7 x8) (spec_GetNum.l0v x0 x1 x7 x8) := Lim.of (fun k => (spec_GetNum.mono_l k).1 x0 x1 x7 x8)
noncomputable def spec_GetNum.j1v (x0 : List Int) (x1 : Int) (x7 : Int) (x8 : Int) (x23 : Bool) : Option (Int × Int × Bool) := limOf (fun k => spec_GetNum.j1 k x0 x1 x7 x8 x23)
theorem spec_GetNum.j1_lim (x0 : List Int) (x1 : Int) (x7 : Int) (x8 : Int) (x23 : Bool) : Lim (fun k => spec_GetNum.j1 k x0 x1 x7 x8 x23) (spec_GetNum.j1v x0 x1 x7 x8 x23) := Lim.of (fun k => (spec_GetNum.mono_l k).2 x0 x1 x7 x8 x23)
noncomputable def spec_GetNum.fv (l0 : List Int) (a1 : Int) : Option (Int × Int × Bool) := limOf (fun k => spec_GetNum.f k l0 a1)
theorem spec_GetNum.f_lim (l0 : List Int) (a1 : Int) : Lim (fun k => spec_GetNum.f k l0 a1) (spec_GetNum.fv l0 a1) := Lim.of (fun k => spec_GetNum.mono l0 a1 k)
set_option maxHeartbeats 4000000 in
theorem spec_GetNum.l0v_eq (x0 : List Int) (x1 : Int) (x7 : Int) (x8 : Int) : spec_GetNum.l0v x0 x1 x7 x8 = (if x8 < 9 then (if x1 < 0 then (spec_GetNum.j1v x0 x1 x7 x8 true) else (spec_GetNum.j1v x0 x1 x7 x8 (decide (x1 ≥ (wrap64 ((x0.length : Int) - x8)))))) else (some (0, 0, false))) := by
  refine Lim.succ (spec_GetNum.l0_lim x0 x1 x7 x8) ?_
  simp only [spec_GetNum.l0]
  repeat' first
    | (with_reducible apply spec_GetNum.j1_lim)
    | (with_reducible exact Lim.const _)
    | (with_reducible refine Lim.ite ?_ ?_)
    | (with_reducible refine Lim.bind ?_ (fun _ => ?_))
    | apply spec_GetNum.j1_lim
    | exact Lim.const _
    | refine Lim.ite ?_ ?_
    | refine Lim.bind ?_ (fun _ => ?_)
set_option maxHeartbeats 4000000 in
theorem spec_GetNum.j1v_eq (x0 : List Int) (x1 : Int) (x7 : Int) (x8 : Int) (x23 : Bool) : spec_GetNum.j1v x0 x1 x7 x8 x23 = (if x23 = true then (some (0, 0, false)) else (if 0 ≤ (wrap64 (x1 + x8)) then (if (wrap64 (x1 + x8)) < (x0.length : Int) then (if 0 ≤ (wrap64 (7 * x8)) then (if (wrap64 (rd x0 (wrap64 (x1 + x8)))) < 128 then (if x8 > 0 then (if (wrap64 (rd x0 (wrap64 (x1 + x8)))) = 0 then (some (0, 0, false)) else (if (Go.bits .or .i64 x7 (shl .i64 (Int.tmod (wrap64 (rd x0 (wrap64 (x1 + x8)))) 128) (wrap64 (7 * x8)))) > 4611686018427387903 then (some (0, 0, false)) else (if (Go.bits .or .i64 x7 (shl .i64 (Int.tmod (wrap64 (rd x0 (wrap64 (x1 + x8)))) 128) (wrap64 (7 * x8)))) < 0 then (some (0, 0, false)) else (some (Go.bits .or .i64 x7 (shl .i64 (Int.tmod (wrap64 (rd x0 (wrap64 (x1 + x8)))) 128) (wrap64 (7 * x8))), wrap64 ((wrap64 (x1 + x8)) + 1), true))))) else (if (Go.bits .or .i64 x7 (shl .i64 (Int.tmod (wrap64 (rd x0 (wrap64 (x1 + x8)))) 128) (wrap64 (7 * x8)))) > 4611686018427387903 then (some (0, 0, false)) else (if (Go.bits .or .i64 x7 (shl .i64 (Int.tmod (wrap64 (rd x0 (wrap64 (x1 + x8)))) 128) (wrap64 (7 * x8)))) < 0 then (some (0, 0, false)) else (some (Go.bits .or .i64 x7 (shl .i64 (Int.tmod (wrap64 (rd x0 (wrap64 (x1 + x8)))) 128) (wrap64 (7 * x8))), wrap64 ((wrap64 (x1 + x8)) + 1), true))))) else (spec_GetNum.l0v x0 x1 (Go.bits .or .i64 x7 (shl .i64 (Int.tmod (wrap64 (rd x0 (wrap64 (x1 + x8)))) 128) (wrap64 (7 * x8)))) (wrap64 (x8 + 1)))) else (none)) else (none)) else (none))) := by
  refine Lim.succ (spec_GetNum.j1_lim x0 x1 x7 x8 x23) ?_
  simp only [spec_GetNum.j1]
  repeat' first
    | (with_reducible apply spec_GetNum.l0_lim)
    | (with_reducible exact Lim.const _)
    | (with_reducible refine Lim.ite ?_ ?_)
    | (with_reducible refine Lim.bind ?_ (fun _ => ?_))
    | apply spec_GetNum.l0_lim
    | exact Lim.const _
    | refine Lim.ite ?_ ?_
    | refine Lim.bind ?_ (fun _ => ?_)
set_option maxHeartbeats 4000000 in
theorem spec_GetNum.fv_eq (l0 : List Int) (a1 : Int) : spec_GetNum.fv l0 a1 = (spec_GetNum.l0v l0 a1 0 0) := by
  refine Lim.eq (spec_GetNum.f_lim l0 a1) ?_
  simp only [spec_GetNum.f]
  repeat' first
    | (with_reducible apply spec_GetNum.l0_lim)
    | (with_reducible exact Lim.const _)
    | (with_reducible refine Lim.ite ?_ ?_)
    | (with_reducible refine Lim.bind ?_ (fun _ => ?_))
    | apply spec_GetNum.l0_lim
    | exact Lim.const _
    | refine Lim.ite ?_ ?_
    | refine Lim.bind ?_ (fun _ => ?_)

/-! ### laws_toByteS -/
def laws_toByteS.l0 : Nat → List Int → List Int → Int → Option (List Int)
  | 0, _, _, _ => none
  | k + 1, x0, x3, x4 => if x4 < (x0.length : Int) then (if 0 ≤ x4 then (if x4 < (x3.length : Int) then (laws_toByteS.l0 k x0 (x3.set (x4 : Int).toNat (rd x0 x4)) (wrap64 (x4 + 1))) else (none)) else (none)) else (some x3)
def laws_toByteS.f (k : Nat) (l0 : List Int) : Option (List Int) := if 0 ≤ (l0.length : Int) then (if ((l0.length : Int) : Int).toNat ≤ 281474976710656 then (laws_toByteS.l0 k l0 (List.replicate ((l0.length : Int) : Int).toNat 0) 0) else (none)) else (none)
theorem laws_toByteS.mono_l : ∀ k, (∀ y0 y1 y2, LeO (laws_toByteS.l0 k y0 y1 y2) (laws_toByteS.l0 (k + 1) y0 y1 y2))
  | 0 => fun _ _ _ r h => by simp [laws_toByteS.l0] at h
  | k + 1 => by
    have ih0 := laws_toByteS.mono_l k
    · intro y0 y1 y2
      unfold laws_toByteS.l0
      repeat' first
      | (with_reducible exact ih0 _ _ _)
      | (with_reducible exact LeO.refl _)
      | (with_reducible exact LeO.none _)
      | (with_reducible refine LeO.ite ?_ ?_)
      | (with_reducible refine LeO.bind ?_ (fun _ => ?_))
      | exact ih0 _ _ _
      | exact LeO.none _
      | refine LeO.ite ?_ ?_
      | refine LeO.bind ?_ (fun _ => ?_)
theorem laws_toByteS.mono : ∀ a0 k, LeO (laws_toByteS.f k a0) (laws_toByteS.f (k + 1) a0) := by
  intro a0 k
  have ih0 := laws_toByteS.mono_l k
  unfold laws_toByteS.f
  repeat' first
      | (with_reducible exact ih0 _ _ _)
      | (with_reducible exact LeO.refl _)
      | (with_reducible exact LeO.none _)
      | (with_reducible refine LeO.ite ?_ ?_)
      | (with_reducible refine LeO.bind ?_ (fun _ => ?_))
      | exact ih0 _ _ _
      | exact LeO.none _
      | refine LeO.ite ?_ ?_
      | refine LeO.bind ?_ (fun _ => ?_)
noncomputable def laws_toByteS.l0v (x0 : List Int) (x3 : List Int) (x4 : Int) : Option (List Int) := limOf (fun k => laws_toByteS.l0 k x0 x3 x4)
theorem laws_toByteS.l0_lim (x0 : List Int) (x3 : List Int) (x4 : Int) : Lim (fun k => laws_toByteS.l0 k x0 x3 x4) (laws_toByteS.l0v x0 x3 x4) := Lim.of (fun k => laws_toByteS.mono_l k x0 x3 x4)
noncomputable def laws_toByteS.fv (l0 : List Int) : Option (List Int) := limOf (fun k => laws_toByteS.f k l0)
theorem laws_toByteS.f_lim (l0 : List Int) : Lim (fun k => laws_toByteS.f k l0) (laws_toByteS.fv l0) := Lim.of (fun k => laws_toByteS.mono l0 k)
set_option maxHeartbeats 4000000 in
theorem laws_toByteS.l0v_eq (x0 : List Int) (x3 : List Int) (x4 : Int) : laws_toByteS.l0v x0 x3 x4 = (if x4 < (x0.length : Int) then (if 0 ≤ x4 then (if x4 < (x3.length : Int) then (laws_toByteS.l0v x0 (x3.set (x4 : Int).toNat (rd x0 x4)) (wrap64 (x4 + 1))) else (none)) else (none)) else (some x3)) := by
  refine Lim.succ (laws_toByteS.l0_lim x0 x3 x4) ?_
  simp only [laws_toByteS.l0]
  repeat' first
    | (with_reducible apply laws_toByteS.l0_lim)
    | (with_reducible exact Lim.const _)
    | (with_reducible refine Lim.ite ?_ ?_)
    | (with_reducible refine Lim.bind ?_ (fun _ => ?_))
    | apply laws_toByteS.l0_lim
    | exact Lim.const _
    | refine Lim.ite ?_ ?_
    | refine Lim.bind ?_ (fun _ => ?_)
set_option maxHeartbeats 4000000 in
theorem laws_toByteS.fv_eq (l0 : List Int) : laws_toByteS.fv l0 = (if 0 ≤ (l0.length : Int) then (if ((l0.length : Int) : Int).toNat ≤ 281474976710656 then (laws_toByteS.l0v l0 (List.replicate ((l0.length : Int) : Int).toNat 0) 0) else (none)) else (none)) := by
  refine Lim.eq (laws_toByteS.f_lim l0) ?_
  simp only [laws_toByteS.f]
  repeat' first
    | (with_reducible apply laws_toByteS.l0_lim)
    | (with_reducible exact Lim.const _)
    | (with_reducible refine Lim.ite ?_ ?_)
    | (with_reducible refine Lim.bind ?_ (fun _ => ?_))
    | apply laws_toByteS.l0_lim
    | exact Lim.const _
    | refine Lim.ite ?_ ?_
    | refine Lim.bind ?_ (fun _ => ?_)

/-! ### impl_in -/
def impl_in.f (a0 : Int) (a1 : Int) (a2 : Int) : Option (Bool) := if a0 ≥ a1 then (some (decide (a0 ≤ a2))) else (some false)

/-! ### impl_GetNum -/
mutual
def impl_GetNum.l0 : Nat → List Int → Int → Int → Int → Option (Int × Int × Bool)
  | 0, _, _, _, _ => none
  | k + 1, x0, x1, x7, x8 => if x8 < 9 then (impl_GetNum.j1 k x0 x1 x7 x8 (decide ((wrap64 (x1 + x8)) < (x0.length : Int)))) else (impl_GetNum.j1 k x0 x1 x7 x8 false)
def impl_GetNum.j1 : Nat → List Int → Int → Int → Int → Bool → Option (Int × Int × Bool)
  | 0, _, _, _, _, _ => none
  | k + 1, x0, x1, x7, x8, x24 => if x24 = true then (if 0 ≤ (wrap64 (x1 + x8)) then (if (wrap64 (x1 + x8)) < (x0.length : Int) then (if 0 ≤ (wrap64 (7 * x8)) then (if (wrap64 (rd x0 (wrap64 (x1 + x8)))) > 127 then (impl_GetNum.l0 k x0 x1 (Go.bits .or .i64 x7 (shl .i64 (Go.bits .and .i64 (wrap64 (rd x0 (wrap64 (x1 + x8)))) 127) (wrap64 (7 * x8)))) (wrap64 (x8 + 1))) else (if (wrap64 (rd x0 (wrap64 (x1 + x8)))) = 0 then (if x8 > 0 then (some (0, 0, false)) else ((impl_in.f (Go.bits .or .i64 x7 (shl .i64 (Go.bits .and .i64 (wrap64 (rd x0 (wrap64 (x1 + x8)))) 127) (wrap64 (7 * x8)))) 0 4611686018427387903).bind fun t111 => (if t111 = true then (some (Go.bits .or .i64 x7 (shl .i64 (Go.bits .and .i64 (wrap64 (rd x0 (wrap64 (x1 + x8)))) 127) (wrap64 (7 * x8))), wrap64 ((wrap64 (x1 + x8)) + 1), true)) else (some (0, 0, false))))) else ((impl_in.f (Go.bits .or .i64 x7 (shl .i64 (Go.bits .and .i64 (wrap64 (rd x0 (wrap64 (x1 + x8)))) 127) (wrap64 (7 * x8)))) 0 4611686018427387903).bind fun t112 => (if t112 = true then (some (Go.bits .or .i64 x7 (shl .i64 (Go.bits .and .i64 (wrap64 (rd x0 (wrap64 (x1 + x8)))) 127) (wrap64 (7 * x8))), wrap64 ((wrap64 (x1 + x8)) + 1), true)) else (some (0, 0, false)))))) else (none)) else (none)) else (none)) else (some (0, 0, false))
end
def impl_GetNum.f (k : Nat) (l0 : List Int) (a1 : Int) : Option (Int × Int × Bool) := (impl_in.f a1 0 (l0.length : Int)).bind fun t109 => (if t109 = true then (impl_GetNum.l0 k l0 a1 0 0) else (some (0, 0, false)))
theorem impl_GetNum.mono_l : ∀ k, (∀ y0 y1 y2 y3, LeO (impl_GetNum.l0 k y0 y1 y2 y3) (impl_GetNum.l0 (k + 1) y0 y1 y2 y3)) ∧ (∀ y0 y1 y2 y3 y4, LeO (impl_GetNum.j1 k y0 y1 y2 y3 y4) (impl_GetNum.j1 (k + 1) y0 y1 y2 y3 y4))
  | 0 => ⟨fun _ _ _ _ r h => by simp [impl_GetNum.l0] at h, fun _ _ _ _ _ r h => by simp [impl_GetNum.j1] at h⟩
  | k + 1 => by
    obtain ⟨ih0, ih1⟩ := impl_GetNum.mono_l k
    refine ⟨?_, ?_⟩
    · intro y0 y1 y2 y3
      unfold impl_GetNum.l0
      repeat' first
      | (with_reducible exact ih0 _ _ _ _)
      | (with_reducible exact ih1 _ _ _ _ _)
      | (with_reducible exact LeO.refl _)
      | (with_reducible exact LeO.none _)
      | (with_reducible refine LeO.ite ?_ ?_)
      | (with_reducible refine LeO.bind ?_ (fun _ => ?_))
      | exact ih0 _ _ _ _
      | exact ih1 _ _ _ _ _
      | exact LeO.none _
      | refine LeO.ite ?_ ?_
      | refine LeO.bind ?_ (fun _ => ?_)
    · intro y0 y1 y2 y3 y4
      unfold impl_GetNum.j1
      repeat' first
      | (with_reducible exact ih0 _ _ _ _)
      | (with_reducible exact ih1 _ _ _ _ _)
      | (with_reducible exact LeO.refl _)
      | (with_reducible exact LeO.none _)
      | (with_reducible refine LeO.ite ?_ ?_)
      | (with_reducible refine LeO.bind ?_ (fun _ => ?_))
      | exact ih0 _ _ _ _
      | exact ih1 _ _ _ _ _
      | exact LeO.none _
      | refine LeO.ite ?_ ?_
      | refine LeO.bind ?_ (fun _ => ?_)
theorem impl_GetNum.mono : ∀ a0 a1 k, LeO (impl_GetNum.f k a0 a1) (impl_GetNum.f (k + 1) a0 a1) := by
  intro a0 a1 k
  obtain ⟨ih0, ih1⟩ := impl_GetNum.mono_l k
  unfold impl_GetNum.f
  repeat' first
      | (with_reducible exact ih0 _ _ _ _)
      | (with_reducible exact ih1 _ _ _ _ _)
      | (with_reducible exact LeO.refl _)
      | (with_reducible exact LeO.none _)
      | (with_reducible refine LeO.ite ?_ ?_)
      | (with_reducible refine LeO.bind ?_ (fun _ => ?_))
      | exact ih0 _ _ _ _
      | exact ih1 _ _ _ _ _
      | exact LeO.none _
      | refine LeO.ite ?_ ?_
      | refine LeO.bind ?_ (fun _ => ?_)
noncomputable def impl_GetNum.l0v (x0 : List Int) (x1 : Int) (x7 : Int) (x8 : Int) : Option (Int × Int × Bool) := limOf (fun k => impl_GetNum.l0 k x0 x1 x7 x8)
theorem impl_GetNum.l0_lim (x0 : List Int) (x1 : Int) (x7 : Int) (x8 : Int) : Lim (fun k => impl_GetNum.l0 k x0 x1 x7 x8) (impl_GetNum.l0v x0 x1 x7 x8) := Lim.of (fun k => (impl_GetNum.mono_l k).1 x0 x1 x7 x8)
noncomputable def impl_GetNum.j1v (x0 : List Int) (x1 : Int) (x7 : Int) (x8 : Int) (x24 : Bool) : Option (Int × Int × Bool) := limOf (fun k => impl_GetNum.j1 k x0 x1 x7 x8 x24)
theorem impl_GetNum.j1_lim (x0 : List Int) (x1 : Int) (x7 : Int) (x8 : Int) (x24 : Bool) : Lim (fun k => impl_GetNum.j1 k x0 x1 x7 x8 x24) (impl_GetNum.j1v x0 x1 x7 x8 x24) := Lim.of (fun k => (impl_GetNum.mono_l k).2 x0 x1 x7 x8 x24)
noncomputable def impl_GetNum.fv (l0 : List Int) (a1 : Int) : Option (Int × Int × Bool) := limOf (fun k => impl_GetNum.f k l0 a1)
theorem impl_GetNum.f_lim (l0 : List Int) (a1 : Int) : Lim (fun k => impl_GetNum.f k l0 a1) (impl_GetNum.fv l0 a1) := Lim.of (fun k => impl_GetNum.mono l0 a1 k)
set_option maxHeartbeats 4000000 in
theorem impl_GetNum.l0v_eq (x0 : List Int) (x1 : Int) (x7 : Int) (x8 : Int) : impl_GetNum.l0v x0 x1 x7 x8 = (if x8 < 9 then (impl_GetNum.j1v x0 x1 x7 x8 (decide ((wrap64 (x1 + x8)) < (x0.length : Int)))) else (impl_GetNum.j1v x0 x1 x7 x8 false)) := by
  refine Lim.succ (impl_GetNum.l0_lim x0 x1 x7 x8) ?_
  simp only [impl_GetNum.l0]
  repeat' first
    | (with_reducible apply impl_GetNum.j1_lim)
    | (with_reducible exact Lim.const _)
    | (with_reducible refine Lim.ite ?_ ?_)
    | (with_reducible refine Lim.bind ?_ (fun _ => ?_))
    | apply impl_GetNum.j1_lim
    | exact Lim.const _
    | refine Lim.ite ?_ ?_
    | refine Lim.bind ?_ (fun _ => ?_)
set_option maxHeartbeats 4000000 in
theorem impl_GetNum.j1v_eq (x0 : List Int) (x1 : Int) (x7 : Int) (x8 : Int) (x24 : Bool) : impl_GetNum.j1v x0 x1 x7 x8 x24 = (if x24 = true then (if 0 ≤ (wrap64 (x1 + x8)) then (if (wrap64 (x1 + x8)) < (x0.length : Int) then (if 0 ≤ (wrap64 (7 * x8)) then (if (wrap64 (rd x0 (wrap64 (x1 + x8)))) > 127 then (impl_GetNum.l0v x0 x1 (Go.bits .or .i64 x7 (shl .i64 (Go.bits .and .i64 (wrap64 (rd x0 (wrap64 (x1 + x8)))) 127) (wrap64 (7 * x8)))) (wrap64 (x8 + 1))) else (if (wrap64 (rd x0 (wrap64 (x1 + x8)))) = 0 then (if x8 > 0 then (some (0, 0, false)) else ((impl_in.f (Go.bits .or .i64 x7 (shl .i64 (Go.bits .and .i64 (wrap64 (rd x0 (wrap64 (x1 + x8)))) 127) (wrap64 (7 * x8)))) 0 4611686018427387903).bind fun t111 => (if t111 = true then (some (Go.bits .or .i64 x7 (shl .i64 (Go.bits .and .i64 (wrap64 (rd x0 (wrap64 (x1 + x8)))) 127) (wrap64 (7 * x8))), wrap64 ((wrap64 (x1 + x8)) + 1), true)) else (some (0, 0, false))))) else ((impl_in.f (Go.bits .or .i64 x7 (shl .i64 (Go.bits .and .i64 (wrap64 (rd x0 (wrap64 (x1 + x8)))) 127) (wrap64 (7 * x8)))) 0 4611686018427387903).bind fun t112 => (if t112 = true then (some (Go.bits .or .i64 x7 (shl .i64 (Go.bits .and .i64 (wrap64 (rd x0 (wrap64 (x1 + x8)))) 127) (wrap64 (7 * x8))), wrap64 ((wrap64 (x1 + x8)) + 1), true)) else (some (0, 0, false)))))) else (none)) else (none)) else (none)) else (some (0, 0, false))) := by
  refine Lim.succ (impl_GetNum.j1_lim x0 x1 x7 x8 x24) ?_
  simp only [impl_GetNum.j1]
  repeat' first
    | (with_reducible apply impl_GetNum.l0_lim)
    | (with_reducible exact Lim.const _)
    | (with_reducible refine Lim.ite ?_ ?_)
    | (with_reducible refine Lim.bind ?_ (fun _ => ?_))
    | apply impl_GetNum.l0_lim
    | exact Lim.const _
    | refine Lim.ite ?_ ?_
    | refine Lim.bind ?_ (fun _ => ?_)
set_option maxHeartbeats 4000000 in
theorem impl_GetNum.fv_eq (l0 : List Int) (a1 : Int) : impl_GetNum.fv l0 a1 = ((impl_in.f a1 0 (l0.length : Int)).bind fun t109 => (if t109 = true then (impl_GetNum.l0v l0 a1 0 0) else (some (0, 0, false)))) := by
  refine Lim.eq (impl_GetNum.f_lim l0 a1) ?_
  simp only [impl_GetNum.f]
  repeat' first
    | (with_reducible apply impl_GetNum.l0_lim)
    | (with_reducible exact Lim.const _)
    | (with_reducible refine Lim.ite ?_ ?_)
    | (with_reducible refine Lim.bind ?_ (fun _ => ?_))
    | apply impl_GetNum.l0_lim
    | exact Lim.const _
    | refine Lim.ite ?_ ?_
    | refine Lim.bind ?_ (fun _ => ?_)

/-! ### laws_FnExactGetNum -/
def laws_FnExactGetNum.j0 : Nat → List Int → List Int → Bool → Option (Bool)
  | 0, _, _, _ => none
  | k + 1, x0, x8, x44 => if x44 = true then (some false) else ((laws_toByteS.f k x0).bind fun t125 => ((laws_eqByteS.f k x8 t125).bind fun t128 => (if t128 = true then (some true) else (some false))))
def laws_FnExactGetNum.f (k : Nat) (l0 : List Int) (a1 : Int) : Option (Bool) := if (l0.length : Int) > 1048576 then (some true) else ((laws_toByteS.f k l0).bind fun t113 => ((spec_GetNum.f k t113 a1).bind fun bt116 => ((laws_toByteS.f k l0).bind fun t119 => ((impl_GetNum.f k t119 a1).bind fun bt122 => (if bt122.1 = bt116.1 then (if bt122.2.1 = bt116.2.1 then (laws_FnExactGetNum.j0 k l0 t119 (bt122.2.2 != bt116.2.2)) else (laws_FnExactGetNum.j0 k l0 t119 true)) else (laws_FnExactGetNum.j0 k l0 t119 true))))))
theorem laws_FnExactGetNum.mono_l : ∀ k, (∀ y0 y1 y2, LeO (laws_FnExactGetNum.j0 k y0 y1 y2) (laws_FnExactGetNum.j0 (k + 1) y0 y1 y2))
  | 0 => fun _ _ _ r h => by simp [laws_FnExactGetNum.j0] at h
  | k + 1 => by
    have ih0 := laws_FnExactGetNum.mono_l k
    · intro y0 y1 y2
      unfold laws_FnExactGetNum.j0
      repeat' first
      | (with_reducible exact ih0 _ _ _)
      | (with_reducible exact impl_GetNum.mono _ _ _)
      | (with_reducible exact laws_eqByteS.mono _ _ _)
      | (with_reducible exact laws_toByteS.mono _ _)
      | (with_reducible exact spec_GetNum.mono _ _ _)
      | (with_reducible exact LeO.refl _)
      | (with_reducible exact LeO.none _)
      | (with_reducible refine LeO.ite ?_ ?_)
      | (with_reducible refine LeO.bind ?_ (fun _ => ?_))
      | exact ih0 _ _ _
      | exact impl_GetNum.mono _ _ _
      | exact laws_eqByteS.mono _ _ _
      | exact laws_toByteS.mono _ _
      | exact spec_GetNum.mono _ _ _
      | exact LeO.none _
      | refine LeO.ite ?_ ?_
      | refine LeO.bind ?_ (fun _ => ?_)
theorem laws_FnExactGetNum.mono : ∀ a0 a1 k, LeO (laws_FnExactGetNum.f k a0 a1) (laws_FnExactGetNum.f (k + 1) a0 a1) := by
  intro a0 a1 k
  have ih0 := laws_FnExactGetNum.mono_l k
  unfold laws_FnExactGetNum.f
  repeat' first
      | (with_reducible exact ih0 _ _ _)
      | (with_reducible exact impl_GetNum.mono _ _ _)
      | (with_reducible exact laws_eqByteS.mono _ _ _)
      | (with_reducible exact laws_toByteS.mono _ _)
      | (with_reducible exact spec_GetNum.mono _ _ _)
      | (with_reducible exact LeO.refl _)
      | (with_reducible exact LeO.none _)
      | (with_reducible refine LeO.ite ?_ ?_)
      | (with_reducible refine LeO.bind ?_ (fun _ => ?_))
      | exact ih0 _ _ _
      | exact impl_GetNum.mono _ _ _
      | exact laws_eqByteS.mono _ _ _
      | exact laws_toByteS.mono _ _
      | exact spec_GetNum.mono _ _ _
      | exact LeO.none _
      | refine LeO.ite ?_ ?_
      | refine LeO.bind ?_ (fun _ => ?_)
noncomputable def laws_FnExactGetNum.j0v (x0 : List Int) (x8 : List Int) (x44 : Bool) : Option (Bool) := limOf (fun k => laws_FnExactGetNum.j0 k x0 x8 x44)
theorem laws_FnExactGetNum.j0_lim (x0 : List Int) (x8 : List Int) (x44 : Bool) : Lim (fun k => laws_FnExactGetNum.j0 k x0 x8 x44) (laws_FnExactGetNum.j0v x0 x8 x44) := Lim.of (fun k => laws_FnExactGetNum.mono_l k x0 x8 x44)
noncomputable def laws_FnExactGetNum.fv (l0 : List Int) (a1 : Int) : Option (Bool) := limOf (fun k => laws_FnExactGetNum.f k l0 a1)
theorem laws_FnExactGetNum.f_lim (l0 : List Int) (a1 : Int) : Lim (fun k => laws_FnExactGetNum.f k l0 a1) (laws_FnExactGetNum.fv l0 a1) := Lim.of (fun k => laws_FnExactGetNum.mono l0 a1 k)
set_option maxHeartbeats 4000000 in
theorem laws_FnExactGetNum.j0v_eq (x0 : List Int) (x8 : List Int) (x44 : Bool) : laws_FnExactGetNum.j0v x0 x8 x44 = (if x44 = true then (some false) else ((laws_toByteS.fv x0).bind fun t125 => ((laws_eqByteS.fv x8 t125).bind fun t128 => (if t128 = true then (some true) else (some false))))) := by
  refine Lim.succ (laws_FnExactGetNum.j0_lim x0 x8 x44) ?_
  simp only [laws_FnExactGetNum.j0]
  repeat' first
    | (with_reducible apply laws_eqByteS.f_lim)
    | (with_reducible apply laws_toByteS.f_lim)
    | (with_reducible exact Lim.const _)
    | (with_reducible refine Lim.ite ?_ ?_)
    | (with_reducible refine Lim.bind ?_ (fun _ => ?_))
    | apply laws_eqByteS.f_lim
    | apply laws_toByteS.f_lim
    | exact Lim.const _
    | refine Lim.ite ?_ ?_
    | refine Lim.bind ?_ (fun _ => ?_)
set_option maxHeartbeats 4000000 in
theorem laws_FnExactGetNum.fv_eq (l0 : List Int) (a1 : Int) : laws_FnExactGetNum.fv l0 a1 = (if (l0.length : Int) > 1048576 then (some true) else ((laws_toByteS.fv l0).bind fun t113 => ((spec_GetNum.fv t113 a1).bind fun bt116 => ((laws_toByteS.fv l0).bind fun t119 => ((impl_GetNum.fv t119 a1).bind fun bt122 => (if bt122.1 = bt116.1 then (if bt122.2.1 = bt116.2.1 then (laws_FnExactGetNum.j0v l0 t119 (bt122.2.2 != bt116.2.2)) else (laws_FnExactGetNum.j0v l0 t119 true)) else (laws_FnExactGetNum.j0v l0 t119 true))))))) := by
  refine Lim.eq (laws_FnExactGetNum.f_lim l0 a1) ?_
  simp only [laws_FnExactGetNum.f]
  repeat' first
    | (with_reducible apply impl_GetNum.f_lim)
    | (with_reducible apply laws_FnExactGetNum.j0_lim)
    | (with_reducible apply laws_toByteS.f_lim)
    | (with_reducible apply spec_GetNum.f_lim)
    | (with_reducible exact Lim.const _)
    | (with_reducible refine Lim.ite ?_ ?_)
    | (with_reducible refine Lim.bind ?_ (fun _ => ?_))
    | apply impl_GetNum.f_lim
    | apply laws_FnExactGetNum.j0_lim
    | apply laws_toByteS.f_lim
    | apply spec_GetNum.f_lim
    | exact Lim.const _
    | refine Lim.ite ?_ ?_
    | refine Lim.bind ?_ (fun _ => ?_)

end Go.Proofs.Ytakicaelepgmcaa.QFnExactGetNum
