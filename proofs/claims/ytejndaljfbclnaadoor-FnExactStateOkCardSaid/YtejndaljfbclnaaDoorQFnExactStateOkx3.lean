/- Written by wip/pr2, a program of this session. -/
import Derived.Test.YtejndaljfbclnaaDoorQFnExactStateOkx0
import Derived.Test.YtejndaljfbclnaaDoorQFnExactStateOkx1
import Derived.Test.YtejndaljfbclnaaDoorQFnExactStateOkx2
import Derived.Test.YtejndaljfbclnaaDoorWFnExactStateOk
namespace Go.Proofs.YtejndaljfbclnaaDoor.QFnExactStateOk
open Go.RowKit Go.Proofs.YtejndaljfbclnaaDoorW.PrintWords Go.Proofs.YtejndaljfbclnaaDoorW.PrintLast Go.Proofs.YtejndaljfbclnaaDoorW.PrintMore
attribute [local go_sem] max2_int min2_int max_two min_two max_three min_three max_four min_four   -- for this text's walks alone
set_option linter.unusedVariables false
set_option linter.unusedSimpArgs false
set_option maxHeartbeats 8000000

open Go.Proofs.YtejndaljfbclnaaDoorW.Lims
/-! ### impl_StateOk -/
mutual
def impl_StateOk.j0 : Nat → Int → Bool → List (S26) → List (S84) → Int → Int → Option (Bool)
  | 0, _, _, _, _, _, _ => none
  | k + 1, x2, x36, x197000, x197001, x197002, x197003 => if x36 = true then (some false) else (impl_StateOk.l0 k x2 x197001 (x197001.length : Int) 0 x197000 x197001 x197002 x197003)
def impl_StateOk.l0 : Nat → Int → List (S84) → Int → Int → List (S26) → List (S84) → Int → Int → Option (Bool)
  | 0, _, _, _, _, _, _, _, _ => none
  | k + 1, x2, x38, x39, x40, x197000, x197001, x197002, x197003 => if x40 < x39 then (if 0 ≤ x40 then (if x40 < (x38.length : Int) then (if ((rd_T84 x38 x40).f0) < 0 then (some false) else (if ((rd_T84 x38 x40).f0) ≥ x2 then (some false) else (if (((rd_T84 x38 x40).f1).size : Int) > 300 then (some false) else ((impl_ValOk.f k ((rd_T84 x38 x40).f2.f0) ((rd_T84 x38 x40).f2.f1) ((rd_T84 x38 x40).f2.f2)).bind fun t202 => (if t202 = true then (if x40 > 0 then (if 0 ≤ (wrap64 (x40 - 1)) then (if (wrap64 (x40 - 1)) < (x197001.length : Int) then ((impl_cellBefore.f ((rd_T84 x197001 (wrap64 (x40 - 1))).f0) ((rd_T84 x197001 (wrap64 (x40 - 1))).f1) ((rd_T84 x197001 (wrap64 (x40 - 1))).f2.f0) ((rd_T84 x197001 (wrap64 (x40 - 1))).f2.f1) ((rd_T84 x197001 (wrap64 (x40 - 1))).f2.f2) ((rd_T84 x38 x40).f0) ((rd_T84 x38 x40).f1) ((rd_T84 x38 x40).f2.f0) ((rd_T84 x38 x40).f2.f1) ((rd_T84 x38 x40).f2.f2)).bind fun t204 => (if t204 ≥ 0 then (some false) else (impl_StateOk.l0 k x2 x38 x39 (wrap64 (x40 + 1)) x197000 x197001 x197002 x197003))) else (none)) else (none)) else (impl_StateOk.l0 k x2 x38 x39 (wrap64 (x40 + 1)) x197000 x197001 x197002 x197003)) else (some false)))))) else (none)) else (none)) else (some true)
end
def impl_StateOk.f (k : Nat) (l0_0 : List (S26)) (l0_1 : List (S84)) (a0_2 : Int) (a0_3 : Int) (a1 : Int) (a2 : Int) : Option (Bool) := if (l0_0.length : Int) = a1 then ((impl_Val_71_187.f k l0_0).bind fun t197 => (if t197 = true then (impl_StateOk.j0 k a2 true l0_0 l0_1 a0_2 a0_3) else (if (l0_1.length : Int) > 40 then (impl_StateOk.j0 k a2 true l0_0 l0_1 a0_2 a0_3) else ((impl_in.f a0_2 0 1000000).bind fun t198 => (if t198 = true then ((impl_in.f a0_3 0 7).bind fun t199 => (impl_StateOk.j0 k a2 (!t199) l0_0 l0_1 a0_2 a0_3)) else (impl_StateOk.j0 k a2 true l0_0 l0_1 a0_2 a0_3)))))) else (impl_StateOk.j0 k a2 true l0_0 l0_1 a0_2 a0_3)
theorem impl_StateOk.mono_l : ∀ k, (∀ y0 y1 y2 y3 y4 y5, LeO (impl_StateOk.j0 k y0 y1 y2 y3 y4 y5) (impl_StateOk.j0 (k + 1) y0 y1 y2 y3 y4 y5)) ∧ (∀ y0 y1 y2 y3 y4 y5 y6 y7, LeO (impl_StateOk.l0 k y0 y1 y2 y3 y4 y5 y6 y7) (impl_StateOk.l0 (k + 1) y0 y1 y2 y3 y4 y5 y6 y7))
  | 0 => ⟨fun _ _ _ _ _ _ r h => by simp [impl_StateOk.j0] at h, fun _ _ _ _ _ _ _ _ r h => by simp [impl_StateOk.l0] at h⟩
  | k + 1 => by
    obtain ⟨ih0, ih1⟩ := impl_StateOk.mono_l k
    refine ⟨?_, ?_⟩
    · intro y0 y1 y2 y3 y4 y5
      unfold impl_StateOk.j0
      repeat' first
      | (with_reducible exact ih0 _ _ _ _ _ _)
      | (with_reducible exact ih1 _ _ _ _ _ _ _ _)
      | (with_reducible exact impl_ValOk.mono _ _ _ _)
      | (with_reducible exact impl_Val_71_187.mono _ _)
      | (with_reducible exact LeO.refl _)
      | (with_reducible exact LeO.none _)
      | (with_reducible refine LeO.ite ?_ ?_)
      | (with_reducible refine LeO.bind ?_ (fun _ => ?_))
      | exact ih0 _ _ _ _ _ _
      | exact ih1 _ _ _ _ _ _ _ _
      | exact impl_ValOk.mono _ _ _ _
      | exact impl_Val_71_187.mono _ _
      | exact LeO.none _
      | refine LeO.ite ?_ ?_
      | refine LeO.bind ?_ (fun _ => ?_)
    · intro y0 y1 y2 y3 y4 y5 y6 y7
      unfold impl_StateOk.l0
      repeat' first
      | (with_reducible exact ih0 _ _ _ _ _ _)
      | (with_reducible exact ih1 _ _ _ _ _ _ _ _)
      | (with_reducible exact impl_ValOk.mono _ _ _ _)
      | (with_reducible exact impl_Val_71_187.mono _ _)
      | (with_reducible exact LeO.refl _)
      | (with_reducible exact LeO.none _)
      | (with_reducible refine LeO.ite ?_ ?_)
      | (with_reducible refine LeO.bind ?_ (fun _ => ?_))
      | exact ih0 _ _ _ _ _ _
      | exact ih1 _ _ _ _ _ _ _ _
      | exact impl_ValOk.mono _ _ _ _
      | exact impl_Val_71_187.mono _ _
      | exact LeO.none _
      | refine LeO.ite ?_ ?_
      | refine LeO.bind ?_ (fun _ => ?_)
theorem impl_StateOk.mono : ∀ a0 a1 a2 a3 a4 a5 k, LeO (impl_StateOk.f k a0 a1 a2 a3 a4 a5) (impl_StateOk.f (k + 1) a0 a1 a2 a3 a4 a5) := by
  intro a0 a1 a2 a3 a4 a5 k
  obtain ⟨ih0, ih1⟩ := impl_StateOk.mono_l k
  unfold impl_StateOk.f
  repeat' first
      | (with_reducible exact ih0 _ _ _ _ _ _)
      | (with_reducible exact ih1 _ _ _ _ _ _ _ _)
      | (with_reducible exact impl_ValOk.mono _ _ _ _)
      | (with_reducible exact impl_Val_71_187.mono _ _)
      | (with_reducible exact LeO.refl _)
      | (with_reducible exact LeO.none _)
      | (with_reducible refine LeO.ite ?_ ?_)
      | (with_reducible refine LeO.bind ?_ (fun _ => ?_))
      | exact ih0 _ _ _ _ _ _
      | exact ih1 _ _ _ _ _ _ _ _
      | exact impl_ValOk.mono _ _ _ _
      | exact impl_Val_71_187.mono _ _
      | exact LeO.none _
      | refine LeO.ite ?_ ?_
      | refine LeO.bind ?_ (fun _ => ?_)
noncomputable def impl_StateOk.j0v (x2 : Int) (x36 : Bool) (x197000 : List (S26)) (x197001 : List (S84)) (x197002 : Int) (x197003 : Int) : Option (Bool) := limOf (fun k => impl_StateOk.j0 k x2 x36 x197000 x197001 x197002 x197003)
theorem impl_StateOk.j0_lim (x2 : Int) (x36 : Bool) (x197000 : List (S26)) (x197001 : List (S84)) (x197002 : Int) (x197003 : Int) : Lim (fun k => impl_StateOk.j0 k x2 x36 x197000 x197001 x197002 x197003) (impl_StateOk.j0v x2 x36 x197000 x197001 x197002 x197003) := Lim.of (fun k => (impl_StateOk.mono_l k).1 x2 x36 x197000 x197001 x197002 x197003)
noncomputable def impl_StateOk.l0v (x2 : Int) (x38 : List (S84)) (x39 : Int) (x40 : Int) (x197000 : List (S26)) (x197001 : List (S84)) (x197002 : Int) (x197003 : Int) : Option (Bool) := limOf (fun k => impl_StateOk.l0 k x2 x38 x39 x40 x197000 x197001 x197002 x197003)
theorem impl_StateOk.l0_lim (x2 : Int) (x38 : List (S84)) (x39 : Int) (x40 : Int) (x197000 : List (S26)) (x197001 : List (S84)) (x197002 : Int) (x197003 : Int) : Lim (fun k => impl_StateOk.l0 k x2 x38 x39 x40 x197000 x197001 x197002 x197003) (impl_StateOk.l0v x2 x38 x39 x40 x197000 x197001 x197002 x197003) := Lim.of (fun k => (impl_StateOk.mono_l k).2 x2 x38 x39 x40 x197000 x197001 x197002 x197003)
noncomputable def impl_StateOk.fv (l0_0 : List (S26)) (l0_1 : List (S84)) (a0_2 : Int) (a0_3 : Int) (a1 : Int) (a2 : Int) : Option (Bool) := limOf (fun k => impl_StateOk.f k l0_0 l0_1 a0_2 a0_3 a1 a2)
theorem impl_StateOk.f_lim (l0_0 : List (S26)) (l0_1 : List (S84)) (a0_2 : Int) (a0_3 : Int) (a1 : Int) (a2 : Int) : Lim (fun k => impl_StateOk.f k l0_0 l0_1 a0_2 a0_3 a1 a2) (impl_StateOk.fv l0_0 l0_1 a0_2 a0_3 a1 a2) := Lim.of (fun k => impl_StateOk.mono l0_0 l0_1 a0_2 a0_3 a1 a2 k)
set_option maxHeartbeats 4000000 in
theorem impl_StateOk.j0v_eq (x2 : Int) (x36 : Bool) (x197000 : List (S26)) (x197001 : List (S84)) (x197002 : Int) (x197003 : Int) : impl_StateOk.j0v x2 x36 x197000 x197001 x197002 x197003 = (if x36 = true then (some false) else (impl_StateOk.l0v x2 x197001 (x197001.length : Int) 0 x197000 x197001 x197002 x197003)) := by
  refine Lim.succ (impl_StateOk.j0_lim x2 x36 x197000 x197001 x197002 x197003) ?_
  simp only [impl_StateOk.j0]
  repeat' first
    | (with_reducible apply impl_StateOk.l0_lim)
    | (with_reducible exact Lim.const _)
    | (with_reducible refine Lim.ite ?_ ?_)
    | (with_reducible refine Lim.bind ?_ (fun _ => ?_))
    | apply impl_StateOk.l0_lim
    | exact Lim.const _
    | refine Lim.ite ?_ ?_
    | refine Lim.bind ?_ (fun _ => ?_)
set_option maxHeartbeats 4000000 in
theorem impl_StateOk.l0v_eq (x2 : Int) (x38 : List (S84)) (x39 : Int) (x40 : Int) (x197000 : List (S26)) (x197001 : List (S84)) (x197002 : Int) (x197003 : Int) : impl_StateOk.l0v x2 x38 x39 x40 x197000 x197001 x197002 x197003 = (if x40 < x39 then (if 0 ≤ x40 then (if x40 < (x38.length : Int) then (if ((rd_T84 x38 x40).f0) < 0 then (some false) else (if ((rd_T84 x38 x40).f0) ≥ x2 then (some false) else (if (((rd_T84 x38 x40).f1).size : Int) > 300 then (some false) else ((impl_ValOk.fv ((rd_T84 x38 x40).f2.f0) ((rd_T84 x38 x40).f2.f1) ((rd_T84 x38 x40).f2.f2)).bind fun t202 => (if t202 = true then (if x40 > 0 then (if 0 ≤ (wrap64 (x40 - 1)) then (if (wrap64 (x40 - 1)) < (x197001.length : Int) then ((impl_cellBefore.f ((rd_T84 x197001 (wrap64 (x40 - 1))).f0) ((rd_T84 x197001 (wrap64 (x40 - 1))).f1) ((rd_T84 x197001 (wrap64 (x40 - 1))).f2.f0) ((rd_T84 x197001 (wrap64 (x40 - 1))).f2.f1) ((rd_T84 x197001 (wrap64 (x40 - 1))).f2.f2) ((rd_T84 x38 x40).f0) ((rd_T84 x38 x40).f1) ((rd_T84 x38 x40).f2.f0) ((rd_T84 x38 x40).f2.f1) ((rd_T84 x38 x40).f2.f2)).bind fun t204 => (if t204 ≥ 0 then (some false) else (impl_StateOk.l0v x2 x38 x39 (wrap64 (x40 + 1)) x197000 x197001 x197002 x197003))) else (none)) else (none)) else (impl_StateOk.l0v x2 x38 x39 (wrap64 (x40 + 1)) x197000 x197001 x197002 x197003)) else (some false)))))) else (none)) else (none)) else (some true)) := by
  refine Lim.succ (impl_StateOk.l0_lim x2 x38 x39 x40 x197000 x197001 x197002 x197003) ?_
  simp only [impl_StateOk.l0]
  repeat' first
    | (with_reducible apply impl_StateOk.l0_lim)
    | (with_reducible apply impl_ValOk.f_lim)
    | (with_reducible exact Lim.const _)
    | (with_reducible refine Lim.ite ?_ ?_)
    | (with_reducible refine Lim.bind ?_ (fun _ => ?_))
    | apply impl_StateOk.l0_lim
    | apply impl_ValOk.f_lim
    | exact Lim.const _
    | refine Lim.ite ?_ ?_
    | refine Lim.bind ?_ (fun _ => ?_)
set_option maxHeartbeats 4000000 in
theorem impl_StateOk.fv_eq (l0_0 : List (S26)) (l0_1 : List (S84)) (a0_2 : Int) (a0_3 : Int) (a1 : Int) (a2 : Int) : impl_StateOk.fv l0_0 l0_1 a0_2 a0_3 a1 a2 = (if (l0_0.length : Int) = a1 then ((impl_Val_71_187.fv l0_0).bind fun t197 => (if t197 = true then (impl_StateOk.j0v a2 true l0_0 l0_1 a0_2 a0_3) else (if (l0_1.length : Int) > 40 then (impl_StateOk.j0v a2 true l0_0 l0_1 a0_2 a0_3) else ((impl_in.f a0_2 0 1000000).bind fun t198 => (if t198 = true then ((impl_in.f a0_3 0 7).bind fun t199 => (impl_StateOk.j0v a2 (!t199) l0_0 l0_1 a0_2 a0_3)) else (impl_StateOk.j0v a2 true l0_0 l0_1 a0_2 a0_3)))))) else (impl_StateOk.j0v a2 true l0_0 l0_1 a0_2 a0_3)) := by
  refine Lim.eq (impl_StateOk.f_lim l0_0 l0_1 a0_2 a0_3 a1 a2) ?_
  simp only [impl_StateOk.f]
  repeat' first
    | (with_reducible apply impl_StateOk.j0_lim)
    | (with_reducible apply impl_Val_71_187.f_lim)
    | (with_reducible exact Lim.const _)
    | (with_reducible refine Lim.ite ?_ ?_)
    | (with_reducible refine Lim.bind ?_ (fun _ => ?_))
    | apply impl_StateOk.j0_lim
    | apply impl_Val_71_187.f_lim
    | exact Lim.const _
    | refine Lim.ite ?_ ?_
    | refine Lim.bind ?_ (fun _ => ?_)

/-! ### laws_eqVal -/
def laws_eqVal.f (a0_0 : Int) (a0_1 : Int) (a0_2 : ByteArray) (a1_0 : Int) (a1_1 : Int) (a1_2 : ByteArray) : Option (Bool) := if a0_0 = a1_0 then (if a0_1 = a1_1 then (if a0_2.toList = a1_2.toList then (some true) else (some false)) else (some false)) else (some false)

/-! ### laws_eqValS -/
def laws_eqValS.l0 : Nat → List (S26) → List (S26) → Int → Option (Bool)
  | 0, _, _, _ => none
  | k + 1, x0, x1, x5 => if x5 < (x0.length : Int) then (if 0 ≤ x5 then (if x5 < (x1.length : Int) then ((laws_eqVal.f ((rd_T26 x0 x5).f0) ((rd_T26 x0 x5).f1) ((rd_T26 x0 x5).f2) ((rd_T26 x1 x5).f0) ((rd_T26 x1 x5).f1) ((rd_T26 x1 x5).f2)).bind fun t209 => (if t209 = true then (laws_eqValS.l0 k x0 x1 (wrap64 (x5 + 1))) else (some false))) else (none)) else (none)) else (some true)
def laws_eqValS.f (k : Nat) (l0 : List (S26)) (l1 : List (S26)) : Option (Bool) := if (l0.length : Int) = (l1.length : Int) then (laws_eqValS.l0 k l0 l1 0) else (some false)
theorem laws_eqValS.mono_l : ∀ k, (∀ y0 y1 y2, LeO (laws_eqValS.l0 k y0 y1 y2) (laws_eqValS.l0 (k + 1) y0 y1 y2))
  | 0 => fun _ _ _ r h => by simp [laws_eqValS.l0] at h
  | k + 1 => by
    have ih0 := laws_eqValS.mono_l k
    · intro y0 y1 y2
      unfold laws_eqValS.l0
      repeat' first
      | (with_reducible exact ih0 _ _ _)
      | (with_reducible exact LeO.refl _)
      | (with_reducible exact LeO.none _)
      | (with_reducible refine LeO.ite ?_ ?_)
      | (with_reducible refine LeO.bind ?_ (fun _ => ?_))
      | exact ih0 _ _ _
      | exact LeO.none _
      | refine LeO.ite ?_ ?_
      | refine LeO.bind ?_ (fun _ => ?_)
theorem laws_eqValS.mono : ∀ a0 a1 k, LeO (laws_eqValS.f k a0 a1) (laws_eqValS.f (k + 1) a0 a1) := by
  intro a0 a1 k
  have ih0 := laws_eqValS.mono_l k
  unfold laws_eqValS.f
  repeat' first
      | (with_reducible exact ih0 _ _ _)
      | (with_reducible exact LeO.refl _)
      | (with_reducible exact LeO.none _)
      | (with_reducible refine LeO.ite ?_ ?_)
      | (with_reducible refine LeO.bind ?_ (fun _ => ?_))
      | exact ih0 _ _ _
      | exact LeO.none _
      | refine LeO.ite ?_ ?_
      | refine LeO.bind ?_ (fun _ => ?_)
noncomputable def laws_eqValS.l0v (x0 : List (S26)) (x1 : List (S26)) (x5 : Int) : Option (Bool) := limOf (fun k => laws_eqValS.l0 k x0 x1 x5)
theorem laws_eqValS.l0_lim (x0 : List (S26)) (x1 : List (S26)) (x5 : Int) : Lim (fun k => laws_eqValS.l0 k x0 x1 x5) (laws_eqValS.l0v x0 x1 x5) := Lim.of (fun k => laws_eqValS.mono_l k x0 x1 x5)
noncomputable def laws_eqValS.fv (l0 : List (S26)) (l1 : List (S26)) : Option (Bool) := limOf (fun k => laws_eqValS.f k l0 l1)
theorem laws_eqValS.f_lim (l0 : List (S26)) (l1 : List (S26)) : Lim (fun k => laws_eqValS.f k l0 l1) (laws_eqValS.fv l0 l1) := Lim.of (fun k => laws_eqValS.mono l0 l1 k)
set_option maxHeartbeats 4000000 in
theorem laws_eqValS.l0v_eq (x0 : List (S26)) (x1 : List (S26)) (x5 : Int) : laws_eqValS.l0v x0 x1 x5 = (if x5 < (x0.length : Int) then (if 0 ≤ x5 then (if x5 < (x1.length : Int) then ((laws_eqVal.f ((rd_T26 x0 x5).f0) ((rd_T26 x0 x5).f1) ((rd_T26 x0 x5).f2) ((rd_T26 x1 x5).f0) ((rd_T26 x1 x5).f1) ((rd_T26 x1 x5).f2)).bind fun t209 => (if t209 = true then (laws_eqValS.l0v x0 x1 (wrap64 (x5 + 1))) else (some false))) else (none)) else (none)) else (some true)) := by
  refine Lim.succ (laws_eqValS.l0_lim x0 x1 x5) ?_
  simp only [laws_eqValS.l0]
  repeat' first
    | (with_reducible apply laws_eqValS.l0_lim)
    | (with_reducible exact Lim.const _)
    | (with_reducible refine Lim.ite ?_ ?_)
    | (with_reducible refine Lim.bind ?_ (fun _ => ?_))
    | apply laws_eqValS.l0_lim
    | exact Lim.const _
    | refine Lim.ite ?_ ?_
    | refine Lim.bind ?_ (fun _ => ?_)
set_option maxHeartbeats 4000000 in
theorem laws_eqValS.fv_eq (l0 : List (S26)) (l1 : List (S26)) : laws_eqValS.fv l0 l1 = (if (l0.length : Int) = (l1.length : Int) then (laws_eqValS.l0v l0 l1 0) else (some false)) := by
  refine Lim.eq (laws_eqValS.f_lim l0 l1) ?_
  simp only [laws_eqValS.f]
  repeat' first
    | (with_reducible apply laws_eqValS.l0_lim)
    | (with_reducible exact Lim.const _)
    | (with_reducible refine Lim.ite ?_ ?_)
    | (with_reducible refine Lim.bind ?_ (fun _ => ?_))
    | apply laws_eqValS.l0_lim
    | exact Lim.const _
    | refine Lim.ite ?_ ?_
    | refine Lim.bind ?_ (fun _ => ?_)

/-! ### laws_eqCell -/
def laws_eqCell.f (a0_0 : Int) (a0_1 : ByteArray) (a0_2 : Int) (a0_3 : Int) (a0_4 : ByteArray) (a1_0 : Int) (a1_1 : ByteArray) (a1_2 : Int) (a1_3 : Int) (a1_4 : ByteArray) : Option (Bool) := if a0_0 = a1_0 then (if a0_1.toList = a1_1.toList then ((laws_eqVal.f a0_2 a0_3 a0_4 a1_2 a1_3 a1_4).bind fun t212 => (if t212 = true then (some true) else (some false))) else (some false)) else (some false)

/-! ### laws_eqCellS -/
def laws_eqCellS.l0 : Nat → List (S84) → List (S84) → Int → Option (Bool)
  | 0, _, _, _ => none
  | k + 1, x0, x1, x5 => if x5 < (x0.length : Int) then (if 0 ≤ x5 then (if x5 < (x1.length : Int) then ((laws_eqCell.f ((rd_T84 x0 x5).f0) ((rd_T84 x0 x5).f1) ((rd_T84 x0 x5).f2.f0) ((rd_T84 x0 x5).f2.f1) ((rd_T84 x0 x5).f2.f2) ((rd_T84 x1 x5).f0) ((rd_T84 x1 x5).f1) ((rd_T84 x1 x5).f2.f0) ((rd_T84 x1 x5).f2.f1) ((rd_T84 x1 x5).f2.f2)).bind fun t215 => (if t215 = true then (laws_eqCellS.l0 k x0 x1 (wrap64 (x5 + 1))) else (some false))) else (none)) else (none)) else (some true)
def laws_eqCellS.f (k : Nat) (l0 : List (S84)) (l1 : List (S84)) : Option (Bool) := if (l0.length : Int) = (l1.length : Int) then (laws_eqCellS.l0 k l0 l1 0) else (some false)
theorem laws_eqCellS.mono_l : ∀ k, (∀ y0 y1 y2, LeO (laws_eqCellS.l0 k y0 y1 y2) (laws_eqCellS.l0 (k + 1) y0 y1 y2))
  | 0 => fun _ _ _ r h => by simp [laws_eqCellS.l0] at h
  | k + 1 => by
    have ih0 := laws_eqCellS.mono_l k
    · intro y0 y1 y2
      unfold laws_eqCellS.l0
      repeat' first
      | (with_reducible exact ih0 _ _ _)
      | (with_reducible exact LeO.refl _)
      | (with_reducible exact LeO.none _)
      | (with_reducible refine LeO.ite ?_ ?_)
      | (with_reducible refine LeO.bind ?_ (fun _ => ?_))
      | exact ih0 _ _ _
      | exact LeO.none _
      | refine LeO.ite ?_ ?_
      | refine LeO.bind ?_ (fun _ => ?_)
theorem laws_eqCellS.mono : ∀ a0 a1 k, LeO (laws_eqCellS.f k a0 a1) (laws_eqCellS.f (k + 1) a0 a1) := by
  intro a0 a1 k
  have ih0 := laws_eqCellS.mono_l k
  unfold laws_eqCellS.f
  repeat' first
      | (with_reducible exact ih0 _ _ _)
      | (with_reducible exact LeO.refl _)
      | (with_reducible exact LeO.none _)
      | (with_reducible refine LeO.ite ?_ ?_)
      | (with_reducible refine LeO.bind ?_ (fun _ => ?_))
      | exact ih0 _ _ _
      | exact LeO.none _
      | refine LeO.ite ?_ ?_
      | refine LeO.bind ?_ (fun _ => ?_)
noncomputable def laws_eqCellS.l0v (x0 : List (S84)) (x1 : List (S84)) (x5 : Int) : Option (Bool) := limOf (fun k => laws_eqCellS.l0 k x0 x1 x5)
theorem laws_eqCellS.l0_lim (x0 : List (S84)) (x1 : List (S84)) (x5 : Int) : Lim (fun k => laws_eqCellS.l0 k x0 x1 x5) (laws_eqCellS.l0v x0 x1 x5) := Lim.of (fun k => laws_eqCellS.mono_l k x0 x1 x5)
noncomputable def laws_eqCellS.fv (l0 : List (S84)) (l1 : List (S84)) : Option (Bool) := limOf (fun k => laws_eqCellS.f k l0 l1)
theorem laws_eqCellS.f_lim (l0 : List (S84)) (l1 : List (S84)) : Lim (fun k => laws_eqCellS.f k l0 l1) (laws_eqCellS.fv l0 l1) := Lim.of (fun k => laws_eqCellS.mono l0 l1 k)
set_option maxHeartbeats 4000000 in
theorem laws_eqCellS.l0v_eq (x0 : List (S84)) (x1 : List (S84)) (x5 : Int) : laws_eqCellS.l0v x0 x1 x5 = (if x5 < (x0.length : Int) then (if 0 ≤ x5 then (if x5 < (x1.length : Int) then ((laws_eqCell.f ((rd_T84 x0 x5).f0) ((rd_T84 x0 x5).f1) ((rd_T84 x0 x5).f2.f0) ((rd_T84 x0 x5).f2.f1) ((rd_T84 x0 x5).f2.f2) ((rd_T84 x1 x5).f0) ((rd_T84 x1 x5).f1) ((rd_T84 x1 x5).f2.f0) ((rd_T84 x1 x5).f2.f1) ((rd_T84 x1 x5).f2.f2)).bind fun t215 => (if t215 = true then (laws_eqCellS.l0v x0 x1 (wrap64 (x5 + 1))) else (some false))) else (none)) else (none)) else (some true)) := by
  refine Lim.succ (laws_eqCellS.l0_lim x0 x1 x5) ?_
  simp only [laws_eqCellS.l0]
  repeat' first
    | (with_reducible apply laws_eqCellS.l0_lim)
    | (with_reducible exact Lim.const _)
    | (with_reducible refine Lim.ite ?_ ?_)
    | (with_reducible refine Lim.bind ?_ (fun _ => ?_))
    | apply laws_eqCellS.l0_lim
    | exact Lim.const _
    | refine Lim.ite ?_ ?_
    | refine Lim.bind ?_ (fun _ => ?_)
set_option maxHeartbeats 4000000 in
theorem laws_eqCellS.fv_eq (l0 : List (S84)) (l1 : List (S84)) : laws_eqCellS.fv l0 l1 = (if (l0.length : Int) = (l1.length : Int) then (laws_eqCellS.l0v l0 l1 0) else (some false)) := by
  refine Lim.eq (laws_eqCellS.f_lim l0 l1) ?_
  simp only [laws_eqCellS.f]
  repeat' first
    | (with_reducible apply laws_eqCellS.l0_lim)
    | (with_reducible exact Lim.const _)
    | (with_reducible refine Lim.ite ?_ ?_)
    | (with_reducible refine Lim.bind ?_ (fun _ => ?_))
    | apply laws_eqCellS.l0_lim
    | exact Lim.const _
    | refine Lim.ite ?_ ?_
    | refine Lim.bind ?_ (fun _ => ?_)

/-! ### laws_eqState -/
def laws_eqState.f (k : Nat) (l0_0 : List (S26)) (l0_1 : List (S84)) (a0_2 : Int) (a0_3 : Int) (l1_0 : List (S26)) (l1_1 : List (S84)) (a1_2 : Int) (a1_3 : Int) : Option (Bool) := (laws_eqValS.f k l0_0 l1_0).bind fun t218 => (if t218 = true then ((laws_eqCellS.f k l0_1 l1_1).bind fun t219 => (if t219 = true then (if a0_2 = a1_2 then (if a0_3 = a1_3 then (some true) else (some false)) else (some false)) else (some false))) else (some false))
theorem laws_eqState.mono : ∀ a0 a1 a2 a3 a4 a5 a6 a7 k, LeO (laws_eqState.f k a0 a1 a2 a3 a4 a5 a6 a7) (laws_eqState.f (k + 1) a0 a1 a2 a3 a4 a5 a6 a7) := by
  intro a0 a1 a2 a3 a4 a5 a6 a7 k
  unfold laws_eqState.f
  repeat' first
      | (with_reducible exact laws_eqCellS.mono _ _ _)
      | (with_reducible exact laws_eqValS.mono _ _ _)
      | (with_reducible exact LeO.refl _)
      | (with_reducible exact LeO.none _)
      | (with_reducible refine LeO.ite ?_ ?_)
      | (with_reducible refine LeO.bind ?_ (fun _ => ?_))
      | exact laws_eqCellS.mono _ _ _
      | exact laws_eqValS.mono _ _ _
      | exact LeO.none _
      | refine LeO.ite ?_ ?_
      | refine LeO.bind ?_ (fun _ => ?_)
noncomputable def laws_eqState.fv (l0_0 : List (S26)) (l0_1 : List (S84)) (a0_2 : Int) (a0_3 : Int) (l1_0 : List (S26)) (l1_1 : List (S84)) (a1_2 : Int) (a1_3 : Int) : Option (Bool) := limOf (fun k => laws_eqState.f k l0_0 l0_1 a0_2 a0_3 l1_0 l1_1 a1_2 a1_3)
theorem laws_eqState.f_lim (l0_0 : List (S26)) (l0_1 : List (S84)) (a0_2 : Int) (a0_3 : Int) (l1_0 : List (S26)) (l1_1 : List (S84)) (a1_2 : Int) (a1_3 : Int) : Lim (fun k => laws_eqState.f k l0_0 l0_1 a0_2 a0_3 l1_0 l1_1 a1_2 a1_3) (laws_eqState.fv l0_0 l0_1 a0_2 a0_3 l1_0 l1_1 a1_2 a1_3) := Lim.of (fun k => laws_eqState.mono l0_0 l0_1 a0_2 a0_3 l1_0 l1_1 a1_2 a1_3 k)
set_option maxHeartbeats 4000000 in
theorem laws_eqState.fv_eq (l0_0 : List (S26)) (l0_1 : List (S84)) (a0_2 : Int) (a0_3 : Int) (l1_0 : List (S26)) (l1_1 : List (S84)) (a1_2 : Int) (a1_3 : Int) : laws_eqState.fv l0_0 l0_1 a0_2 a0_3 l1_0 l1_1 a1_2 a1_3 = ((laws_eqValS.fv l0_0 l1_0).bind fun t218 => (if t218 = true then ((laws_eqCellS.fv l0_1 l1_1).bind fun t219 => (if t219 = true then (if a0_2 = a1_2 then (if a0_3 = a1_3 then (some true) else (some false)) else (some false)) else (some false))) else (some false))) := by
  refine Lim.eq (laws_eqState.f_lim l0_0 l0_1 a0_2 a0_3 l1_0 l1_1 a1_2 a1_3) ?_
  simp only [laws_eqState.f]
  repeat' first
    | (with_reducible apply laws_eqCellS.f_lim)
    | (with_reducible apply laws_eqValS.f_lim)
    | (with_reducible exact Lim.const _)
    | (with_reducible refine Lim.ite ?_ ?_)
    | (with_reducible refine Lim.bind ?_ (fun _ => ?_))
    | apply laws_eqCellS.f_lim
    | apply laws_eqValS.f_lim
    | exact Lim.const _
    | refine Lim.ite ?_ ?_
    | refine Lim.bind ?_ (fun _ => ?_)

/-! ### laws_FnExactStateOk -/
def laws_FnExactStateOk.f (k : Nat) (l0_0 : List (S23)) (l0_1 : List (S128)) (a0_2 : Int) (a0_3 : Int) (a1 : Int) (a2 : Int) : Option (Bool) := (laws_szState.f k l0_0 l0_1 a0_2 a0_3 1048576).bind fun t221 => (if t221 < 0 then (some true) else ((laws_toState.f k l0_0 l0_1 a0_2 a0_3).bind fun bt222 => ((spec_StateOk.f k bt222.1 bt222.2.1 bt222.2.2.1 bt222.2.2.2 a1 a2).bind fun t230 => ((laws_toState.f k l0_0 l0_1 a0_2 a0_3).bind fun bt231 => ((impl_StateOk.f k bt231.1 bt231.2.1 bt231.2.2.1 bt231.2.2.2 a1 a2).bind fun t240 => (if (t240 != t230) = true then (some false) else ((laws_toState.f k l0_0 l0_1 a0_2 a0_3).bind fun bt241 => ((laws_eqState.f k bt231.1 bt231.2.1 bt231.2.2.1 bt231.2.2.2 bt241.1 bt241.2.1 bt241.2.2.1 bt241.2.2.2).bind fun t249 => (if t249 = true then (some true) else (some false))))))))))
theorem laws_FnExactStateOk.mono : ∀ a0 a1 a2 a3 a4 a5 k, LeO (laws_FnExactStateOk.f k a0 a1 a2 a3 a4 a5) (laws_FnExactStateOk.f (k + 1) a0 a1 a2 a3 a4 a5) := by
  intro a0 a1 a2 a3 a4 a5 k
  unfold laws_FnExactStateOk.f
  repeat' first
      | (with_reducible exact impl_StateOk.mono _ _ _ _ _ _ _)
      | (with_reducible exact laws_eqState.mono _ _ _ _ _ _ _ _ _)
      | (with_reducible exact laws_szState.mono _ _ _ _ _ _)
      | (with_reducible exact laws_toState.mono _ _ _ _ _)
      | (with_reducible exact spec_StateOk.mono _ _ _ _ _ _ _)
      | (with_reducible exact LeO.refl _)
      | (with_reducible exact LeO.none _)
      | (with_reducible refine LeO.ite ?_ ?_)
      | (with_reducible refine LeO.bind ?_ (fun _ => ?_))
      | exact impl_StateOk.mono _ _ _ _ _ _ _
      | exact laws_eqState.mono _ _ _ _ _ _ _ _ _
      | exact laws_szState.mono _ _ _ _ _ _
      | exact laws_toState.mono _ _ _ _ _
      | exact spec_StateOk.mono _ _ _ _ _ _ _
      | exact LeO.none _
      | refine LeO.ite ?_ ?_
      | refine LeO.bind ?_ (fun _ => ?_)
noncomputable def laws_FnExactStateOk.fv (l0_0 : List (S23)) (l0_1 : List (S128)) (a0_2 : Int) (a0_3 : Int) (a1 : Int) (a2 : Int) : Option (Bool) := limOf (fun k => laws_FnExactStateOk.f k l0_0 l0_1 a0_2 a0_3 a1 a2)
theorem laws_FnExactStateOk.f_lim (l0_0 : List (S23)) (l0_1 : List (S128)) (a0_2 : Int) (a0_3 : Int) (a1 : Int) (a2 : Int) : Lim (fun k => laws_FnExactStateOk.f k l0_0 l0_1 a0_2 a0_3 a1 a2) (laws_FnExactStateOk.fv l0_0 l0_1 a0_2 a0_3 a1 a2) := Lim.of (fun k => laws_FnExactStateOk.mono l0_0 l0_1 a0_2 a0_3 a1 a2 k)
set_option maxHeartbeats 4000000 in
theorem laws_FnExactStateOk.fv_eq (l0_0 : List (S23)) (l0_1 : List (S128)) (a0_2 : Int) (a0_3 : Int) (a1 : Int) (a2 : Int) : laws_FnExactStateOk.fv l0_0 l0_1 a0_2 a0_3 a1 a2 = ((laws_szState.fv l0_0 l0_1 a0_2 a0_3 1048576).bind fun t221 => (if t221 < 0 then (some true) else ((laws_toState.fv l0_0 l0_1 a0_2 a0_3).bind fun bt222 => ((spec_StateOk.fv bt222.1 bt222.2.1 bt222.2.2.1 bt222.2.2.2 a1 a2).bind fun t230 => ((laws_toState.fv l0_0 l0_1 a0_2 a0_3).bind fun bt231 => ((impl_StateOk.fv bt231.1 bt231.2.1 bt231.2.2.1 bt231.2.2.2 a1 a2).bind fun t240 => (if (t240 != t230) = true then (some false) else ((laws_toState.fv l0_0 l0_1 a0_2 a0_3).bind fun bt241 => ((laws_eqState.fv bt231.1 bt231.2.1 bt231.2.2.1 bt231.2.2.2 bt241.1 bt241.2.1 bt241.2.2.1 bt241.2.2.2).bind fun t249 => (if t249 = true then (some true) else (some false))))))))))) := by
  refine Lim.eq (laws_FnExactStateOk.f_lim l0_0 l0_1 a0_2 a0_3 a1 a2) ?_
  simp only [laws_FnExactStateOk.f]
  repeat' first
    | (with_reducible apply impl_StateOk.f_lim)
    | (with_reducible apply laws_eqState.f_lim)
    | (with_reducible apply laws_szState.f_lim)
    | (with_reducible apply laws_toState.f_lim)
    | (with_reducible apply spec_StateOk.f_lim)
    | (with_reducible exact Lim.const _)
    | (with_reducible refine Lim.ite ?_ ?_)
    | (with_reducible refine Lim.bind ?_ (fun _ => ?_))
    | apply impl_StateOk.f_lim
    | apply laws_eqState.f_lim
    | apply laws_szState.f_lim
    | apply laws_toState.f_lim
    | apply spec_StateOk.f_lim
    | exact Lim.const _
    | refine Lim.ite ?_ ?_
    | refine Lim.bind ?_ (fun _ => ?_)

end Go.Proofs.YtejndaljfbclnaaDoor.QFnExactStateOk
