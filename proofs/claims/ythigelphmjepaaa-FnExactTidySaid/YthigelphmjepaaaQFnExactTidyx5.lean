/- Written by wip/pr2, a program of this session. -/
import Derived.Test.YthigelphmjepaaaQFnExactTidyx0
import Derived.Test.YthigelphmjepaaaQFnExactTidyx3
import Derived.Test.YthigelphmjepaaaQFnExactTidyx4
import Derived.Test.YthigelphmjepaaaWFnExactTidy
namespace Go.Proofs.Ythigelphmjepaaa.QFnExactTidy
open Go.RowKit Go.Proofs.YthigelphmjepaaaW.PrintWords Go.Proofs.YthigelphmjepaaaW.PrintLast Go.Proofs.YthigelphmjepaaaW.PrintMore
attribute [local go_sem] max2_int min2_int max_two min_two max_three min_three max_four min_four   -- for this text's walks alone
set_option linter.unusedVariables false
set_option linter.unusedSimpArgs false
set_option maxHeartbeats 8000000

open Go.Proofs.YthigelphmjepaaaW.Lims
/-! ### impl_isBlock -/
mutual
def impl_isStatement.f : Nat → Int → Int → ByteArray → List (S66) → Option (Bool)
  | 0, _, _, _, _ => none
  | k + 1, a0_0, a0_1, a0_2, l0_3 => if a0_0 = 29 then ((impl_isBlock.f k a0_0 a0_1 a0_2 l0_3).bind fun t288 => (some t288)) else (if a0_0 = 30 then ((impl_plainNode.f a0_0 a0_1 a0_2 l0_3).bind fun t289 => (if t289 = true then ((impl_allEs.f k l0_3).bind fun t290 => (some t290)) else (some false))) else (if a0_0 = 31 then ((impl_plainNode.f a0_0 a0_1 a0_2 l0_3).bind fun t291 => (if t291 = true then ((impl_in.f (l0_3.length : Int) 2 3).bind fun t292 => (if t292 = true then (if 0 < (l0_3.length : Int) then ((impl_isE.f k ((rd_T66 l0_3 0).f0) ((rd_T66 l0_3 0).f1) ((rd_T66 l0_3 0).f2) ((rd_T66 l0_3 0).f3)).bind fun t294 => (if t294 = true then (if 1 < (l0_3.length : Int) then ((impl_isBlock.f k ((rd_T66 l0_3 1).f0) ((rd_T66 l0_3 1).f1) ((rd_T66 l0_3 1).f2) ((rd_T66 l0_3 1).f3)).bind fun t296 => (if t296 = true then (if 0 ≤ (wrap64 ((l0_3.length : Int) - 1)) then (if (wrap64 ((l0_3.length : Int) - 1)) < (l0_3.length : Int) then ((impl_isBlock.f k ((rd_T66 l0_3 (wrap64 ((l0_3.length : Int) - 1))).f0) ((rd_T66 l0_3 (wrap64 ((l0_3.length : Int) - 1))).f1) ((rd_T66 l0_3 (wrap64 ((l0_3.length : Int) - 1))).f2) ((rd_T66 l0_3 (wrap64 ((l0_3.length : Int) - 1))).f3)).bind fun t298 => (some t298)) else (none)) else (none)) else (some false))) else (none)) else (some false))) else (none)) else (some false))) else (some false))) else (if a0_0 = 32 then ((impl_plainNode.f a0_0 a0_1 a0_2 l0_3).bind fun t299 => (if t299 = true then (if (l0_3.length : Int) = 2 then (if 0 < (l0_3.length : Int) then ((impl_isE.f k ((rd_T66 l0_3 0).f0) ((rd_T66 l0_3 0).f1) ((rd_T66 l0_3 0).f2) ((rd_T66 l0_3 0).f3)).bind fun t301 => (if t301 = true then (if 1 < (l0_3.length : Int) then ((impl_isBlock.f k ((rd_T66 l0_3 1).f0) ((rd_T66 l0_3 1).f1) ((rd_T66 l0_3 1).f2) ((rd_T66 l0_3 1).f3)).bind fun t303 => (some t303)) else (none)) else (some false))) else (none)) else (some false)) else (some false))) else (if a0_0 = 33 then ((impl_plainNode.f a0_0 a0_1 a0_2 l0_3).bind fun t304 => (if t304 = true then (some ((l0_3.length : Int) == 0)) else (some false))) else (if a0_0 = 34 then (if a0_1 = 0 then ((impl_isName.f k a0_2).bind fun t305 => (if t305 = true then (if (l0_3.length : Int) = 1 then (if 0 < (l0_3.length : Int) then ((impl_isE.f k ((rd_T66 l0_3 0).f0) ((rd_T66 l0_3 0).f1) ((rd_T66 l0_3 0).f2) ((rd_T66 l0_3 0).f3)).bind fun t307 => (some t307)) else (none)) else (some false)) else (some false))) else (some false)) else (if a0_0 = 35 then ((impl_plainNode.f a0_0 a0_1 a0_2 l0_3).bind fun t308 => (if t308 = true then (if (l0_3.length : Int) = 1 then (if 0 < (l0_3.length : Int) then ((impl_isE.f k ((rd_T66 l0_3 0).f0) ((rd_T66 l0_3 0).f1) ((rd_T66 l0_3 0).f2) ((rd_T66 l0_3 0).f3)).bind fun t310 => (some t310)) else (none)) else (some false)) else (some false))) else (some false)))))))
def impl_isBlock_1.f : Nat → Int → Int → ByteArray → List (S66) → Option (Bool)
  | 0, _, _, _, _ => none
  | k + 1, a0_0, a0_1, a0_2, l0_3 => (impl_isStatement.f k a0_0 a0_1 a0_2 l0_3).bind fun t312 => (some (!t312))
def impl_Node_83_188.l0 : Nat → List (S66) → Int → Int → Option (Int)
  | 0, _, _, _ => none
  | k + 1, x0, x7, x8 => if x8 < x7 then (if 0 ≤ x8 then (if x8 < (x0.length : Int) then ((impl_isBlock_1.f k ((rd_T66 x0 x8).f0) ((rd_T66 x0 x8).f1) ((rd_T66 x0 x8).f2) ((rd_T66 x0 x8).f3)).bind fun t314 => (if t314 = true then (some x8) else (impl_Node_83_188.l0 k x0 x7 (wrap64 (x8 + 1))))) else (none)) else (none)) else (some (-1))
def impl_Node_83_188.f : Nat → List (S66) → Option (Int)
  | 0, _ => none
  | k + 1, l0 => impl_Node_83_188.l0 k l0 (l0.length : Int) 0
def impl_Node_83_187.f : Nat → List (S66) → Option (Bool)
  | 0, _ => none
  | k + 1, l0 => (impl_Node_83_188.f k l0).bind fun t315 => (some (decide (t315 ≥ 0)))
def impl_isBlock.f : Nat → Int → Int → ByteArray → List (S66) → Option (Bool)
  | 0, _, _, _, _ => none
  | k + 1, a0_0, a0_1, a0_2, l0_3 => if a0_0 = 29 then ((impl_plainNode.f a0_0 a0_1 a0_2 l0_3).bind fun t317 => (if t317 = true then ((impl_Node_83_187.f k l0_3).bind fun t318 => (some (!t318))) else (some false))) else (some false)
end
set_option maxHeartbeats 8000000 in
theorem impl_isStatement.mono_g : ∀ k, (∀ y0 y1 y2 y3, LeO (impl_isStatement.f k y0 y1 y2 y3) (impl_isStatement.f (k + 1) y0 y1 y2 y3)) ∧ (∀ y0 y1 y2 y3, LeO (impl_isBlock_1.f k y0 y1 y2 y3) (impl_isBlock_1.f (k + 1) y0 y1 y2 y3)) ∧ (∀ y0, LeO (impl_Node_83_188.f k y0) (impl_Node_83_188.f (k + 1) y0)) ∧ (∀ y0 y1 y2, LeO (impl_Node_83_188.l0 k y0 y1 y2) (impl_Node_83_188.l0 (k + 1) y0 y1 y2)) ∧ (∀ y0, LeO (impl_Node_83_187.f k y0) (impl_Node_83_187.f (k + 1) y0)) ∧ (∀ y0 y1 y2 y3, LeO (impl_isBlock.f k y0 y1 y2 y3) (impl_isBlock.f (k + 1) y0 y1 y2 y3))
  | 0 => ⟨fun _ _ _ _ r h => by simp [impl_isStatement.f] at h, fun _ _ _ _ r h => by simp [impl_isBlock_1.f] at h, fun _ r h => by simp [impl_Node_83_188.f] at h, fun _ _ _ r h => by simp [impl_Node_83_188.l0] at h, fun _ r h => by simp [impl_Node_83_187.f] at h, fun _ _ _ _ r h => by simp [impl_isBlock.f] at h⟩
  | k + 1 => by
    obtain ⟨ih0, ih1, ih2, ih3, ih4, ih5⟩ := impl_isStatement.mono_g k
    refine ⟨?_, ?_, ?_, ?_, ?_, ?_⟩
    · intro y0 y1 y2 y3
      unfold impl_isStatement.f
      repeat' first
      | (with_reducible exact ih0 _ _ _ _)
      | (with_reducible exact ih1 _ _ _ _)
      | (with_reducible exact ih2 _)
      | (with_reducible exact ih3 _ _ _)
      | (with_reducible exact ih4 _)
      | (with_reducible exact ih5 _ _ _ _)
      | (with_reducible exact impl_allEs.mono _ _)
      | (with_reducible exact impl_isE.mono _ _ _ _ _)
      | (with_reducible exact impl_isName.mono _ _)
      | (with_reducible exact LeO.refl _)
      | (with_reducible exact LeO.none _)
      | (with_reducible refine LeO.ite ?_ ?_)
      | (with_reducible refine LeO.bind ?_ (fun _ => ?_))
      | exact ih0 _ _ _ _
      | exact ih1 _ _ _ _
      | exact ih2 _
      | exact ih3 _ _ _
      | exact ih4 _
      | exact ih5 _ _ _ _
      | exact impl_allEs.mono _ _
      | exact impl_isE.mono _ _ _ _ _
      | exact impl_isName.mono _ _
      | exact LeO.none _
      | refine LeO.ite ?_ ?_
      | refine LeO.bind ?_ (fun _ => ?_)
    · intro y0 y1 y2 y3
      unfold impl_isBlock_1.f
      repeat' first
      | (with_reducible exact ih0 _ _ _ _)
      | (with_reducible exact ih1 _ _ _ _)
      | (with_reducible exact ih2 _)
      | (with_reducible exact ih3 _ _ _)
      | (with_reducible exact ih4 _)
      | (with_reducible exact ih5 _ _ _ _)
      | (with_reducible exact impl_allEs.mono _ _)
      | (with_reducible exact impl_isE.mono _ _ _ _ _)
      | (with_reducible exact impl_isName.mono _ _)
      | (with_reducible exact LeO.refl _)
      | (with_reducible exact LeO.none _)
      | (with_reducible refine LeO.ite ?_ ?_)
      | (with_reducible refine LeO.bind ?_ (fun _ => ?_))
      | exact ih0 _ _ _ _
      | exact ih1 _ _ _ _
      | exact ih2 _
      | exact ih3 _ _ _
      | exact ih4 _
      | exact ih5 _ _ _ _
      | exact impl_allEs.mono _ _
      | exact impl_isE.mono _ _ _ _ _
      | exact impl_isName.mono _ _
      | exact LeO.none _
      | refine LeO.ite ?_ ?_
      | refine LeO.bind ?_ (fun _ => ?_)
    · intro y0
      unfold impl_Node_83_188.f
      repeat' first
      | (with_reducible exact ih0 _ _ _ _)
      | (with_reducible exact ih1 _ _ _ _)
      | (with_reducible exact ih2 _)
      | (with_reducible exact ih3 _ _ _)
      | (with_reducible exact ih4 _)
      | (with_reducible exact ih5 _ _ _ _)
      | (with_reducible exact impl_allEs.mono _ _)
      | (with_reducible exact impl_isE.mono _ _ _ _ _)
      | (with_reducible exact impl_isName.mono _ _)
      | (with_reducible exact LeO.refl _)
      | (with_reducible exact LeO.none _)
      | (with_reducible refine LeO.ite ?_ ?_)
      | (with_reducible refine LeO.bind ?_ (fun _ => ?_))
      | exact ih0 _ _ _ _
      | exact ih1 _ _ _ _
      | exact ih2 _
      | exact ih3 _ _ _
      | exact ih4 _
      | exact ih5 _ _ _ _
      | exact impl_allEs.mono _ _
      | exact impl_isE.mono _ _ _ _ _
      | exact impl_isName.mono _ _
      | exact LeO.none _
      | refine LeO.ite ?_ ?_
      | refine LeO.bind ?_ (fun _ => ?_)
    · intro y0 y1 y2
      unfold impl_Node_83_188.l0
      repeat' first
      | (with_reducible exact ih0 _ _ _ _)
      | (with_reducible exact ih1 _ _ _ _)
      | (with_reducible exact ih2 _)
      | (with_reducible exact ih3 _ _ _)
      | (with_reducible exact ih4 _)
      | (with_reducible exact ih5 _ _ _ _)
      | (with_reducible exact impl_allEs.mono _ _)
      | (with_reducible exact impl_isE.mono _ _ _ _ _)
      | (with_reducible exact impl_isName.mono _ _)
      | (with_reducible exact LeO.refl _)
      | (with_reducible exact LeO.none _)
      | (with_reducible refine LeO.ite ?_ ?_)
      | (with_reducible refine LeO.bind ?_ (fun _ => ?_))
      | exact ih0 _ _ _ _
      | exact ih1 _ _ _ _
      | exact ih2 _
      | exact ih3 _ _ _
      | exact ih4 _
      | exact ih5 _ _ _ _
      | exact impl_allEs.mono _ _
      | exact impl_isE.mono _ _ _ _ _
      | exact impl_isName.mono _ _
      | exact LeO.none _
      | refine LeO.ite ?_ ?_
      | refine LeO.bind ?_ (fun _ => ?_)
    · intro y0
      unfold impl_Node_83_187.f
      repeat' first
      | (with_reducible exact ih0 _ _ _ _)
      | (with_reducible exact ih1 _ _ _ _)
      | (with_reducible exact ih2 _)
      | (with_reducible exact ih3 _ _ _)
      | (with_reducible exact ih4 _)
      | (with_reducible exact ih5 _ _ _ _)
      | (with_reducible exact impl_allEs.mono _ _)
      | (with_reducible exact impl_isE.mono _ _ _ _ _)
      | (with_reducible exact impl_isName.mono _ _)
      | (with_reducible exact LeO.refl _)
      | (with_reducible exact LeO.none _)
      | (with_reducible refine LeO.ite ?_ ?_)
      | (with_reducible refine LeO.bind ?_ (fun _ => ?_))
      | exact ih0 _ _ _ _
      | exact ih1 _ _ _ _
      | exact ih2 _
      | exact ih3 _ _ _
      | exact ih4 _
      | exact ih5 _ _ _ _
      | exact impl_allEs.mono _ _
      | exact impl_isE.mono _ _ _ _ _
      | exact impl_isName.mono _ _
      | exact LeO.none _
      | refine LeO.ite ?_ ?_
      | refine LeO.bind ?_ (fun _ => ?_)
    · intro y0 y1 y2 y3
      unfold impl_isBlock.f
      repeat' first
      | (with_reducible exact ih0 _ _ _ _)
      | (with_reducible exact ih1 _ _ _ _)
      | (with_reducible exact ih2 _)
      | (with_reducible exact ih3 _ _ _)
      | (with_reducible exact ih4 _)
      | (with_reducible exact ih5 _ _ _ _)
      | (with_reducible exact impl_allEs.mono _ _)
      | (with_reducible exact impl_isE.mono _ _ _ _ _)
      | (with_reducible exact impl_isName.mono _ _)
      | (with_reducible exact LeO.refl _)
      | (with_reducible exact LeO.none _)
      | (with_reducible refine LeO.ite ?_ ?_)
      | (with_reducible refine LeO.bind ?_ (fun _ => ?_))
      | exact ih0 _ _ _ _
      | exact ih1 _ _ _ _
      | exact ih2 _
      | exact ih3 _ _ _
      | exact ih4 _
      | exact ih5 _ _ _ _
      | exact impl_allEs.mono _ _
      | exact impl_isE.mono _ _ _ _ _
      | exact impl_isName.mono _ _
      | exact LeO.none _
      | refine LeO.ite ?_ ?_
      | refine LeO.bind ?_ (fun _ => ?_)
theorem impl_isStatement.mono : ∀ a0 a1 a2 a3 k, LeO (impl_isStatement.f k a0 a1 a2 a3) (impl_isStatement.f (k + 1) a0 a1 a2 a3) := by
  intro a0 a1 a2 a3 k
  obtain ⟨ih0, ih1, ih2, ih3, ih4, ih5⟩ := impl_isStatement.mono_g k
  exact ih0 a0 a1 a2 a3
theorem impl_isBlock_1.mono : ∀ a0 a1 a2 a3 k, LeO (impl_isBlock_1.f k a0 a1 a2 a3) (impl_isBlock_1.f (k + 1) a0 a1 a2 a3) := by
  intro a0 a1 a2 a3 k
  obtain ⟨ih0, ih1, ih2, ih3, ih4, ih5⟩ := impl_isStatement.mono_g k
  exact ih1 a0 a1 a2 a3
theorem impl_Node_83_188.mono : ∀ a0 k, LeO (impl_Node_83_188.f k a0) (impl_Node_83_188.f (k + 1) a0) := by
  intro a0 k
  obtain ⟨ih0, ih1, ih2, ih3, ih4, ih5⟩ := impl_isStatement.mono_g k
  exact ih2 a0
theorem impl_Node_83_187.mono : ∀ a0 k, LeO (impl_Node_83_187.f k a0) (impl_Node_83_187.f (k + 1) a0) := by
  intro a0 k
  obtain ⟨ih0, ih1, ih2, ih3, ih4, ih5⟩ := impl_isStatement.mono_g k
  exact ih4 a0
theorem impl_isBlock.mono : ∀ a0 a1 a2 a3 k, LeO (impl_isBlock.f k a0 a1 a2 a3) (impl_isBlock.f (k + 1) a0 a1 a2 a3) := by
  intro a0 a1 a2 a3 k
  obtain ⟨ih0, ih1, ih2, ih3, ih4, ih5⟩ := impl_isStatement.mono_g k
  exact ih5 a0 a1 a2 a3
noncomputable def impl_isStatement.fv (a0_0 : Int) (a0_1 : Int) (a0_2 : ByteArray) (l0_3 : List (S66)) : Option (Bool) := limOf (fun k => impl_isStatement.f k a0_0 a0_1 a0_2 l0_3)
theorem impl_isStatement.f_lim (a0_0 : Int) (a0_1 : Int) (a0_2 : ByteArray) (l0_3 : List (S66)) : Lim (fun k => impl_isStatement.f k a0_0 a0_1 a0_2 l0_3) (impl_isStatement.fv a0_0 a0_1 a0_2 l0_3) := Lim.of (fun k => (impl_isStatement.mono_g k).1 a0_0 a0_1 a0_2 l0_3)
noncomputable def impl_isBlock_1.fv (a0_0 : Int) (a0_1 : Int) (a0_2 : ByteArray) (l0_3 : List (S66)) : Option (Bool) := limOf (fun k => impl_isBlock_1.f k a0_0 a0_1 a0_2 l0_3)
theorem impl_isBlock_1.f_lim (a0_0 : Int) (a0_1 : Int) (a0_2 : ByteArray) (l0_3 : List (S66)) : Lim (fun k => impl_isBlock_1.f k a0_0 a0_1 a0_2 l0_3) (impl_isBlock_1.fv a0_0 a0_1 a0_2 l0_3) := Lim.of (fun k => (impl_isStatement.mono_g k).2.1 a0_0 a0_1 a0_2 l0_3)
noncomputable def impl_Node_83_188.l0v (x0 : List (S66)) (x7 : Int) (x8 : Int) : Option (Int) := limOf (fun k => impl_Node_83_188.l0 k x0 x7 x8)
theorem impl_Node_83_188.l0_lim (x0 : List (S66)) (x7 : Int) (x8 : Int) : Lim (fun k => impl_Node_83_188.l0 k x0 x7 x8) (impl_Node_83_188.l0v x0 x7 x8) := Lim.of (fun k => (impl_isStatement.mono_g k).2.2.2.1 x0 x7 x8)
noncomputable def impl_Node_83_188.fv (l0 : List (S66)) : Option (Int) := limOf (fun k => impl_Node_83_188.f k l0)
theorem impl_Node_83_188.f_lim (l0 : List (S66)) : Lim (fun k => impl_Node_83_188.f k l0) (impl_Node_83_188.fv l0) := Lim.of (fun k => (impl_isStatement.mono_g k).2.2.1 l0)
noncomputable def impl_Node_83_187.fv (l0 : List (S66)) : Option (Bool) := limOf (fun k => impl_Node_83_187.f k l0)
theorem impl_Node_83_187.f_lim (l0 : List (S66)) : Lim (fun k => impl_Node_83_187.f k l0) (impl_Node_83_187.fv l0) := Lim.of (fun k => (impl_isStatement.mono_g k).2.2.2.2.1 l0)
noncomputable def impl_isBlock.fv (a0_0 : Int) (a0_1 : Int) (a0_2 : ByteArray) (l0_3 : List (S66)) : Option (Bool) := limOf (fun k => impl_isBlock.f k a0_0 a0_1 a0_2 l0_3)
theorem impl_isBlock.f_lim (a0_0 : Int) (a0_1 : Int) (a0_2 : ByteArray) (l0_3 : List (S66)) : Lim (fun k => impl_isBlock.f k a0_0 a0_1 a0_2 l0_3) (impl_isBlock.fv a0_0 a0_1 a0_2 l0_3) := Lim.of (fun k => (impl_isStatement.mono_g k).2.2.2.2.2 a0_0 a0_1 a0_2 l0_3)
set_option maxHeartbeats 4000000 in
theorem impl_isStatement.fv_eq (a0_0 : Int) (a0_1 : Int) (a0_2 : ByteArray) (l0_3 : List (S66)) : impl_isStatement.fv a0_0 a0_1 a0_2 l0_3 = (if a0_0 = 29 then ((impl_isBlock.fv a0_0 a0_1 a0_2 l0_3).bind fun t288 => (some t288)) else (if a0_0 = 30 then ((impl_plainNode.f a0_0 a0_1 a0_2 l0_3).bind fun t289 => (if t289 = true then ((impl_allEs.fv l0_3).bind fun t290 => (some t290)) else (some false))) else (if a0_0 = 31 then ((impl_plainNode.f a0_0 a0_1 a0_2 l0_3).bind fun t291 => (if t291 = true then ((impl_in.f (l0_3.length : Int) 2 3).bind fun t292 => (if t292 = true then (if 0 < (l0_3.length : Int) then ((impl_isE.fv ((rd_T66 l0_3 0).f0) ((rd_T66 l0_3 0).f1) ((rd_T66 l0_3 0).f2) ((rd_T66 l0_3 0).f3)).bind fun t294 => (if t294 = true then (if 1 < (l0_3.length : Int) then ((impl_isBlock.fv ((rd_T66 l0_3 1).f0) ((rd_T66 l0_3 1).f1) ((rd_T66 l0_3 1).f2) ((rd_T66 l0_3 1).f3)).bind fun t296 => (if t296 = true then (if 0 ≤ (wrap64 ((l0_3.length : Int) - 1)) then (if (wrap64 ((l0_3.length : Int) - 1)) < (l0_3.length : Int) then ((impl_isBlock.fv ((rd_T66 l0_3 (wrap64 ((l0_3.length : Int) - 1))).f0) ((rd_T66 l0_3 (wrap64 ((l0_3.length : Int) - 1))).f1) ((rd_T66 l0_3 (wrap64 ((l0_3.length : Int) - 1))).f2) ((rd_T66 l0_3 (wrap64 ((l0_3.length : Int) - 1))).f3)).bind fun t298 => (some t298)) else (none)) else (none)) else (some false))) else (none)) else (some false))) else (none)) else (some false))) else (some false))) else (if a0_0 = 32 then ((impl_plainNode.f a0_0 a0_1 a0_2 l0_3).bind fun t299 => (if t299 = true then (if (l0_3.length : Int) = 2 then (if 0 < (l0_3.length : Int) then ((impl_isE.fv ((rd_T66 l0_3 0).f0) ((rd_T66 l0_3 0).f1) ((rd_T66 l0_3 0).f2) ((rd_T66 l0_3 0).f3)).bind fun t301 => (if t301 = true then (if 1 < (l0_3.length : Int) then ((impl_isBlock.fv ((rd_T66 l0_3 1).f0) ((rd_T66 l0_3 1).f1) ((rd_T66 l0_3 1).f2) ((rd_T66 l0_3 1).f3)).bind fun t303 => (some t303)) else (none)) else (some false))) else (none)) else (some false)) else (some false))) else (if a0_0 = 33 then ((impl_plainNode.f a0_0 a0_1 a0_2 l0_3).bind fun t304 => (if t304 = true then (some ((l0_3.length : Int) == 0)) else (some false))) else (if a0_0 = 34 then (if a0_1 = 0 then ((impl_isName.fv a0_2).bind fun t305 => (if t305 = true then (if (l0_3.length : Int) = 1 then (if 0 < (l0_3.length : Int) then ((impl_isE.fv ((rd_T66 l0_3 0).f0) ((rd_T66 l0_3 0).f1) ((rd_T66 l0_3 0).f2) ((rd_T66 l0_3 0).f3)).bind fun t307 => (some t307)) else (none)) else (some false)) else (some false))) else (some false)) else (if a0_0 = 35 then ((impl_plainNode.f a0_0 a0_1 a0_2 l0_3).bind fun t308 => (if t308 = true then (if (l0_3.length : Int) = 1 then (if 0 < (l0_3.length : Int) then ((impl_isE.fv ((rd_T66 l0_3 0).f0) ((rd_T66 l0_3 0).f1) ((rd_T66 l0_3 0).f2) ((rd_T66 l0_3 0).f3)).bind fun t310 => (some t310)) else (none)) else (some false)) else (some false))) else (some false)))))))) := by
  refine Lim.succ (impl_isStatement.f_lim a0_0 a0_1 a0_2 l0_3) ?_
  simp only [impl_isStatement.f]
  repeat' first
    | (with_reducible apply impl_allEs.f_lim)
    | (with_reducible apply impl_isBlock.f_lim)
    | (with_reducible apply impl_isE.f_lim)
    | (with_reducible apply impl_isName.f_lim)
    | (with_reducible exact Lim.const _)
    | (with_reducible refine Lim.ite ?_ ?_)
    | (with_reducible refine Lim.bind ?_ (fun _ => ?_))
    | apply impl_allEs.f_lim
    | apply impl_isBlock.f_lim
    | apply impl_isE.f_lim
    | apply impl_isName.f_lim
    | exact Lim.const _
    | refine Lim.ite ?_ ?_
    | refine Lim.bind ?_ (fun _ => ?_)

set_option maxHeartbeats 4000000 in
theorem impl_isBlock_1.fv_eq (a0_0 : Int) (a0_1 : Int) (a0_2 : ByteArray) (l0_3 : List (S66)) : impl_isBlock_1.fv a0_0 a0_1 a0_2 l0_3 = ((impl_isStatement.fv a0_0 a0_1 a0_2 l0_3).bind fun t312 => (some (!t312))) := by
  refine Lim.succ (impl_isBlock_1.f_lim a0_0 a0_1 a0_2 l0_3) ?_
  simp only [impl_isBlock_1.f]
  repeat' first
    | (with_reducible apply impl_isStatement.f_lim)
    | (with_reducible exact Lim.const _)
    | (with_reducible refine Lim.ite ?_ ?_)
    | (with_reducible refine Lim.bind ?_ (fun _ => ?_))
    | apply impl_isStatement.f_lim
    | exact Lim.const _
    | refine Lim.ite ?_ ?_
    | refine Lim.bind ?_ (fun _ => ?_)

set_option maxHeartbeats 4000000 in
theorem impl_Node_83_188.l0v_eq (x0 : List (S66)) (x7 : Int) (x8 : Int) : impl_Node_83_188.l0v x0 x7 x8 = (if x8 < x7 then (if 0 ≤ x8 then (if x8 < (x0.length : Int) then ((impl_isBlock_1.fv ((rd_T66 x0 x8).f0) ((rd_T66 x0 x8).f1) ((rd_T66 x0 x8).f2) ((rd_T66 x0 x8).f3)).bind fun t314 => (if t314 = true then (some x8) else (impl_Node_83_188.l0v x0 x7 (wrap64 (x8 + 1))))) else (none)) else (none)) else (some (-1))) := by
  refine Lim.succ (impl_Node_83_188.l0_lim x0 x7 x8) ?_
  simp only [impl_Node_83_188.l0]
  repeat' first
    | (with_reducible apply impl_Node_83_188.l0_lim)
    | (with_reducible apply impl_isBlock_1.f_lim)
    | (with_reducible exact Lim.const _)
    | (with_reducible refine Lim.ite ?_ ?_)
    | (with_reducible refine Lim.bind ?_ (fun _ => ?_))
    | apply impl_Node_83_188.l0_lim
    | apply impl_isBlock_1.f_lim
    | exact Lim.const _
    | refine Lim.ite ?_ ?_
    | refine Lim.bind ?_ (fun _ => ?_)
set_option maxHeartbeats 4000000 in
theorem impl_Node_83_188.fv_eq (l0 : List (S66)) : impl_Node_83_188.fv l0 = (impl_Node_83_188.l0v l0 (l0.length : Int) 0) := by
  refine Lim.succ (impl_Node_83_188.f_lim l0) ?_
  simp only [impl_Node_83_188.f]
  repeat' first
    | (with_reducible apply impl_Node_83_188.l0_lim)
    | (with_reducible exact Lim.const _)
    | (with_reducible refine Lim.ite ?_ ?_)
    | (with_reducible refine Lim.bind ?_ (fun _ => ?_))
    | apply impl_Node_83_188.l0_lim
    | exact Lim.const _
    | refine Lim.ite ?_ ?_
    | refine Lim.bind ?_ (fun _ => ?_)

set_option maxHeartbeats 4000000 in
theorem impl_Node_83_187.fv_eq (l0 : List (S66)) : impl_Node_83_187.fv l0 = ((impl_Node_83_188.fv l0).bind fun t315 => (some (decide (t315 ≥ 0)))) := by
  refine Lim.succ (impl_Node_83_187.f_lim l0) ?_
  simp only [impl_Node_83_187.f]
  repeat' first
    | (with_reducible apply impl_Node_83_188.f_lim)
    | (with_reducible exact Lim.const _)
    | (with_reducible refine Lim.ite ?_ ?_)
    | (with_reducible refine Lim.bind ?_ (fun _ => ?_))
    | apply impl_Node_83_188.f_lim
    | exact Lim.const _
    | refine Lim.ite ?_ ?_
    | refine Lim.bind ?_ (fun _ => ?_)

set_option maxHeartbeats 4000000 in
theorem impl_isBlock.fv_eq (a0_0 : Int) (a0_1 : Int) (a0_2 : ByteArray) (l0_3 : List (S66)) : impl_isBlock.fv a0_0 a0_1 a0_2 l0_3 = (if a0_0 = 29 then ((impl_plainNode.f a0_0 a0_1 a0_2 l0_3).bind fun t317 => (if t317 = true then ((impl_Node_83_187.fv l0_3).bind fun t318 => (some (!t318))) else (some false))) else (some false)) := by
  refine Lim.succ (impl_isBlock.f_lim a0_0 a0_1 a0_2 l0_3) ?_
  simp only [impl_isBlock.f]
  repeat' first
    | (with_reducible apply impl_Node_83_187.f_lim)
    | (with_reducible exact Lim.const _)
    | (with_reducible refine Lim.ite ?_ ?_)
    | (with_reducible refine Lim.bind ?_ (fun _ => ?_))
    | apply impl_Node_83_187.f_lim
    | exact Lim.const _
    | refine Lim.ite ?_ ?_
    | refine Lim.bind ?_ (fun _ => ?_)


/-! ### impl_noNode -/
def impl_noNode.f (a0_0 : Int) (a0_1 : Int) (a0_2 : ByteArray) (l0_3 : List (S66)) : Option (Bool) := if a0_0 = 0 then ((impl_plainNode.f a0_0 a0_1 a0_2 l0_3).bind fun t320 => (if t320 = true then (some ((l0_3.length : Int) == 0)) else (some false))) else (some false)

/-! ### impl_Tidy_1 -/
mutual
def impl_Tidy_1.j0 : Nat → Bool → Int → Int → Int → ByteArray → List (S66) → Int → Int → ByteArray → List (S66) → Option (Bool)
  | 0, _, _, _, _, _, _, _, _, _, _ => none
  | k + 1, x18, x322000, x322001, x322002, x322003, x322004, x322005, x322006, x322007, x322008 => if x18 = true then (some true) else (if x322000 = 1 then (impl_Tidy_1.j1 k x322000 (x322000 == 1) x322000 x322001 x322002 x322003 x322004 x322005 x322006 x322007 x322008) else (impl_Tidy_1.j1 k x322000 (x322000 == 2) x322000 x322001 x322002 x322003 x322004 x322005 x322006 x322007 x322008))
def impl_Tidy_1.j1 : Nat → Int → Bool → Int → Int → Int → ByteArray → List (S66) → Int → Int → ByteArray → List (S66) → Option (Bool)
  | 0, _, _, _, _, _, _, _, _, _, _, _ => none
  | k + 1, x20, x21, x322000, x322001, x322002, x322003, x322004, x322005, x322006, x322007, x322008 => if x21 = true then ((impl_noNode.f x322001 x322002 x322003 x322004).bind fun t325 => (some (!t325))) else (if x20 = 3 then ((impl_isE.f k x322001 x322002 x322003 x322004).bind fun t326 => (some (!t326))) else (some true))
end
def impl_Tidy_1.f (k : Nat) (a0_0 : Int) (a0_1 : Int) (a0_2 : Int) (a0_3 : ByteArray) (l0_4 : List (S66)) (a0_5 : Int) (a0_6 : Int) (a0_7 : ByteArray) (l0_8 : List (S66)) : Option (Bool) := (impl_Deep.f k a0_1 a0_2 a0_3 l0_4).bind fun t322 => (if t322 > 16 then (impl_Tidy_1.j0 k true a0_0 a0_1 a0_2 a0_3 l0_4 a0_5 a0_6 a0_7 l0_8) else ((impl_Deep.f k a0_5 a0_6 a0_7 l0_8).bind fun t323 => (if t323 > 16 then (impl_Tidy_1.j0 k true a0_0 a0_1 a0_2 a0_3 l0_4 a0_5 a0_6 a0_7 l0_8) else ((impl_isBlock.f k a0_5 a0_6 a0_7 l0_8).bind fun t324 => (impl_Tidy_1.j0 k (!t324) a0_0 a0_1 a0_2 a0_3 l0_4 a0_5 a0_6 a0_7 l0_8)))))
theorem impl_Tidy_1.mono_l : ∀ k, (∀ y0 y1 y2 y3 y4 y5 y6 y7 y8 y9, LeO (impl_Tidy_1.j0 k y0 y1 y2 y3 y4 y5 y6 y7 y8 y9) (impl_Tidy_1.j0 (k + 1) y0 y1 y2 y3 y4 y5 y6 y7 y8 y9)) ∧ (∀ y0 y1 y2 y3 y4 y5 y6 y7 y8 y9 y10, LeO (impl_Tidy_1.j1 k y0 y1 y2 y3 y4 y5 y6 y7 y8 y9 y10) (impl_Tidy_1.j1 (k + 1) y0 y1 y2 y3 y4 y5 y6 y7 y8 y9 y10))
  | 0 => ⟨fun _ _ _ _ _ _ _ _ _ _ r h => by simp [impl_Tidy_1.j0] at h, fun _ _ _ _ _ _ _ _ _ _ _ r h => by simp [impl_Tidy_1.j1] at h⟩
  | k + 1 => by
    obtain ⟨ih0, ih1⟩ := impl_Tidy_1.mono_l k
    refine ⟨?_, ?_⟩
    · intro y0 y1 y2 y3 y4 y5 y6 y7 y8 y9
      unfold impl_Tidy_1.j0
      repeat' first
      | (with_reducible exact ih0 _ _ _ _ _ _ _ _ _ _)
      | (with_reducible exact ih1 _ _ _ _ _ _ _ _ _ _ _)
      | (with_reducible exact impl_Deep.mono _ _ _ _ _)
      | (with_reducible exact impl_isBlock.mono _ _ _ _ _)
      | (with_reducible exact impl_isE.mono _ _ _ _ _)
      | (with_reducible exact LeO.refl _)
      | (with_reducible exact LeO.none _)
      | (with_reducible refine LeO.ite ?_ ?_)
      | (with_reducible refine LeO.bind ?_ (fun _ => ?_))
      | exact ih0 _ _ _ _ _ _ _ _ _ _
      | exact ih1 _ _ _ _ _ _ _ _ _ _ _
      | exact impl_Deep.mono _ _ _ _ _
      | exact impl_isBlock.mono _ _ _ _ _
      | exact impl_isE.mono _ _ _ _ _
      | exact LeO.none _
      | refine LeO.ite ?_ ?_
      | refine LeO.bind ?_ (fun _ => ?_)
    · intro y0 y1 y2 y3 y4 y5 y6 y7 y8 y9 y10
      unfold impl_Tidy_1.j1
      repeat' first
      | (with_reducible exact ih0 _ _ _ _ _ _ _ _ _ _)
      | (with_reducible exact ih1 _ _ _ _ _ _ _ _ _ _ _)
      | (with_reducible exact impl_Deep.mono _ _ _ _ _)
      | (with_reducible exact impl_isBlock.mono _ _ _ _ _)
      | (with_reducible exact impl_isE.mono _ _ _ _ _)
      | (with_reducible exact LeO.refl _)
      | (with_reducible exact LeO.none _)
      | (with_reducible refine LeO.ite ?_ ?_)
      | (with_reducible refine LeO.bind ?_ (fun _ => ?_))
      | exact ih0 _ _ _ _ _ _ _ _ _ _
      | exact ih1 _ _ _ _ _ _ _ _ _ _ _
      | exact impl_Deep.mono _ _ _ _ _
      | exact impl_isBlock.mono _ _ _ _ _
      | exact impl_isE.mono _ _ _ _ _
      | exact LeO.none _
      | refine LeO.ite ?_ ?_
      | refine LeO.bind ?_ (fun _ => ?_)
theorem impl_Tidy_1.mono : ∀ a0 a1 a2 a3 a4 a5 a6 a7 a8 k, LeO (impl_Tidy_1.f k a0 a1 a2 a3 a4 a5 a6 a7 a8) (impl_Tidy_1.f (k + 1) a0 a1 a2 a3 a4 a5 a6 a7 a8) := by
  intro a0 a1 a2 a3 a4 a5 a6 a7 a8 k
  obtain ⟨ih0, ih1⟩ := impl_Tidy_1.mono_l k
  unfold impl_Tidy_1.f
  repeat' first
      | (with_reducible exact ih0 _ _ _ _ _ _ _ _ _ _)
      | (with_reducible exact ih1 _ _ _ _ _ _ _ _ _ _ _)
      | (with_reducible exact impl_Deep.mono _ _ _ _ _)
      | (with_reducible exact impl_isBlock.mono _ _ _ _ _)
      | (with_reducible exact impl_isE.mono _ _ _ _ _)
      | (with_reducible exact LeO.refl _)
      | (with_reducible exact LeO.none _)
      | (with_reducible refine LeO.ite ?_ ?_)
      | (with_reducible refine LeO.bind ?_ (fun _ => ?_))
      | exact ih0 _ _ _ _ _ _ _ _ _ _
      | exact ih1 _ _ _ _ _ _ _ _ _ _ _
      | exact impl_Deep.mono _ _ _ _ _
      | exact impl_isBlock.mono _ _ _ _ _
      | exact impl_isE.mono _ _ _ _ _
      | exact LeO.none _
      | refine LeO.ite ?_ ?_
      | refine LeO.bind ?_ (fun _ => ?_)
noncomputable def impl_Tidy_1.j0v (x18 : Bool) (x322000 : Int) (x322001 : Int) (x322002 : Int) (x322003 : ByteArray) (x322004 : List (S66)) (x322005 : Int) (x322006 : Int) (x322007 : ByteArray) (x322008 : List (S66)) : Option (Bool) := limOf (fun k => impl_Tidy_1.j0 k x18 x322000 x322001 x322002 x322003 x322004 x322005 x322006 x322007 x322008)
theorem impl_Tidy_1.j0_lim (x18 : Bool) (x322000 : Int) (x322001 : Int) (x322002 : Int) (x322003 : ByteArray) (x322004 : List (S66)) (x322005 : Int) (x322006 : Int) (x322007 : ByteArray) (x322008 : List (S66)) : Lim (fun k => impl_Tidy_1.j0 k x18 x322000 x322001 x322002 x322003 x322004 x322005 x322006 x322007 x322008) (impl_Tidy_1.j0v x18 x322000 x322001 x322002 x322003 x322004 x322005 x322006 x322007 x322008) := Lim.of (fun k => (impl_Tidy_1.mono_l k).1 x18 x322000 x322001 x322002 x322003 x322004 x322005 x322006 x322007 x322008)
noncomputable def impl_Tidy_1.j1v (x20 : Int) (x21 : Bool) (x322000 : Int) (x322001 : Int) (x322002 : Int) (x322003 : ByteArray) (x322004 : List (S66)) (x322005 : Int) (x322006 : Int) (x322007 : ByteArray) (x322008 : List (S66)) : Option (Bool) := limOf (fun k => impl_Tidy_1.j1 k x20 x21 x322000 x322001 x322002 x322003 x322004 x322005 x322006 x322007 x322008)
theorem impl_Tidy_1.j1_lim (x20 : Int) (x21 : Bool) (x322000 : Int) (x322001 : Int) (x322002 : Int) (x322003 : ByteArray) (x322004 : List (S66)) (x322005 : Int) (x322006 : Int) (x322007 : ByteArray) (x322008 : List (S66)) : Lim (fun k => impl_Tidy_1.j1 k x20 x21 x322000 x322001 x322002 x322003 x322004 x322005 x322006 x322007 x322008) (impl_Tidy_1.j1v x20 x21 x322000 x322001 x322002 x322003 x322004 x322005 x322006 x322007 x322008) := Lim.of (fun k => (impl_Tidy_1.mono_l k).2 x20 x21 x322000 x322001 x322002 x322003 x322004 x322005 x322006 x322007 x322008)
noncomputable def impl_Tidy_1.fv (a0_0 : Int) (a0_1 : Int) (a0_2 : Int) (a0_3 : ByteArray) (l0_4 : List (S66)) (a0_5 : Int) (a0_6 : Int) (a0_7 : ByteArray) (l0_8 : List (S66)) : Option (Bool) := limOf (fun k => impl_Tidy_1.f k a0_0 a0_1 a0_2 a0_3 l0_4 a0_5 a0_6 a0_7 l0_8)
theorem impl_Tidy_1.f_lim (a0_0 : Int) (a0_1 : Int) (a0_2 : Int) (a0_3 : ByteArray) (l0_4 : List (S66)) (a0_5 : Int) (a0_6 : Int) (a0_7 : ByteArray) (l0_8 : List (S66)) : Lim (fun k => impl_Tidy_1.f k a0_0 a0_1 a0_2 a0_3 l0_4 a0_5 a0_6 a0_7 l0_8) (impl_Tidy_1.fv a0_0 a0_1 a0_2 a0_3 l0_4 a0_5 a0_6 a0_7 l0_8) := Lim.of (fun k => impl_Tidy_1.mono a0_0 a0_1 a0_2 a0_3 l0_4 a0_5 a0_6 a0_7 l0_8 k)
set_option maxHeartbeats 4000000 in
theorem impl_Tidy_1.j0v_eq (x18 : Bool) (x322000 : Int) (x322001 : Int) (x322002 : Int) (x322003 : ByteArray) (x322004 : List (S66)) (x322005 : Int) (x322006 : Int) (x322007 : ByteArray) (x322008 : List (S66)) : impl_Tidy_1.j0v x18 x322000 x322001 x322002 x322003 x322004 x322005 x322006 x322007 x322008 = (if x18 = true then (some true) else (if x322000 = 1 then (impl_Tidy_1.j1v x322000 (x322000 == 1) x322000 x322001 x322002 x322003 x322004 x322005 x322006 x322007 x322008) else (impl_Tidy_1.j1v x322000 (x322000 == 2) x322000 x322001 x322002 x322003 x322004 x322005 x322006 x322007 x322008))) := by
  refine Lim.succ (impl_Tidy_1.j0_lim x18 x322000 x322001 x322002 x322003 x322004 x322005 x322006 x322007 x322008) ?_
  simp only [impl_Tidy_1.j0]
  repeat' first
    | (with_reducible apply impl_Tidy_1.j1_lim)
    | (with_reducible exact Lim.const _)
    | (with_reducible refine Lim.ite ?_ ?_)
    | (with_reducible refine Lim.bind ?_ (fun _ => ?_))
    | apply impl_Tidy_1.j1_lim
    | exact Lim.const _
    | refine Lim.ite ?_ ?_
    | refine Lim.bind ?_ (fun _ => ?_)
set_option maxHeartbeats 4000000 in
theorem impl_Tidy_1.j1v_eq (x20 : Int) (x21 : Bool) (x322000 : Int) (x322001 : Int) (x322002 : Int) (x322003 : ByteArray) (x322004 : List (S66)) (x322005 : Int) (x322006 : Int) (x322007 : ByteArray) (x322008 : List (S66)) : impl_Tidy_1.j1v x20 x21 x322000 x322001 x322002 x322003 x322004 x322005 x322006 x322007 x322008 = (if x21 = true then ((impl_noNode.f x322001 x322002 x322003 x322004).bind fun t325 => (some (!t325))) else (if x20 = 3 then ((impl_isE.fv x322001 x322002 x322003 x322004).bind fun t326 => (some (!t326))) else (some true))) := by
  refine Lim.succ (impl_Tidy_1.j1_lim x20 x21 x322000 x322001 x322002 x322003 x322004 x322005 x322006 x322007 x322008) ?_
  simp only [impl_Tidy_1.j1]
  repeat' first
    | (with_reducible apply impl_isE.f_lim)
    | (with_reducible exact Lim.const _)
    | (with_reducible refine Lim.ite ?_ ?_)
    | (with_reducible refine Lim.bind ?_ (fun _ => ?_))
    | apply impl_isE.f_lim
    | exact Lim.const _
    | refine Lim.ite ?_ ?_
    | refine Lim.bind ?_ (fun _ => ?_)
set_option maxHeartbeats 4000000 in
theorem impl_Tidy_1.fv_eq (a0_0 : Int) (a0_1 : Int) (a0_2 : Int) (a0_3 : ByteArray) (l0_4 : List (S66)) (a0_5 : Int) (a0_6 : Int) (a0_7 : ByteArray) (l0_8 : List (S66)) : impl_Tidy_1.fv a0_0 a0_1 a0_2 a0_3 l0_4 a0_5 a0_6 a0_7 l0_8 = ((impl_Deep.fv a0_1 a0_2 a0_3 l0_4).bind fun t322 => (if t322 > 16 then (impl_Tidy_1.j0v true a0_0 a0_1 a0_2 a0_3 l0_4 a0_5 a0_6 a0_7 l0_8) else ((impl_Deep.fv a0_5 a0_6 a0_7 l0_8).bind fun t323 => (if t323 > 16 then (impl_Tidy_1.j0v true a0_0 a0_1 a0_2 a0_3 l0_4 a0_5 a0_6 a0_7 l0_8) else ((impl_isBlock.fv a0_5 a0_6 a0_7 l0_8).bind fun t324 => (impl_Tidy_1.j0v (!t324) a0_0 a0_1 a0_2 a0_3 l0_4 a0_5 a0_6 a0_7 l0_8)))))) := by
  refine Lim.eq (impl_Tidy_1.f_lim a0_0 a0_1 a0_2 a0_3 l0_4 a0_5 a0_6 a0_7 l0_8) ?_
  simp only [impl_Tidy_1.f]
  repeat' first
    | (with_reducible apply impl_Deep.f_lim)
    | (with_reducible apply impl_Tidy_1.j0_lim)
    | (with_reducible apply impl_isBlock.f_lim)
    | (with_reducible exact Lim.const _)
    | (with_reducible refine Lim.ite ?_ ?_)
    | (with_reducible refine Lim.bind ?_ (fun _ => ?_))
    | apply impl_Deep.f_lim
    | apply impl_Tidy_1.j0_lim
    | apply impl_isBlock.f_lim
    | exact Lim.const _
    | refine Lim.ite ?_ ?_
    | refine Lim.bind ?_ (fun _ => ?_)

/-! ### impl_Rule_39_186 -/
def impl_Rule_39_186.l0 : Nat → List (S68) → Int → Int → Option (Int)
  | 0, _, _, _ => none
  | k + 1, x0, x7, x8 => if x8 < x7 then (if 0 ≤ x8 then (if x8 < (x0.length : Int) then ((impl_Tidy_1.f k ((rd_T68 x0 x8).f0) ((rd_T68 x0 x8).f1.f0) ((rd_T68 x0 x8).f1.f1) ((rd_T68 x0 x8).f1.f2) ((rd_T68 x0 x8).f1.f3) ((rd_T68 x0 x8).f2.f0) ((rd_T68 x0 x8).f2.f1) ((rd_T68 x0 x8).f2.f2) ((rd_T68 x0 x8).f2.f3)).bind fun t328 => (if t328 = true then (some x8) else (impl_Rule_39_186.l0 k x0 x7 (wrap64 (x8 + 1))))) else (none)) else (none)) else (some (-1))
def impl_Rule_39_186.f (k : Nat) (l0 : List (S68))  : Option (Int) := impl_Rule_39_186.l0 k l0 (l0.length : Int) 0
theorem impl_Rule_39_186.mono_l : ∀ k, (∀ y0 y1 y2, LeO (impl_Rule_39_186.l0 k y0 y1 y2) (impl_Rule_39_186.l0 (k + 1) y0 y1 y2))
  | 0 => fun _ _ _ r h => by simp [impl_Rule_39_186.l0] at h
  | k + 1 => by
    have ih0 := impl_Rule_39_186.mono_l k
    · intro y0 y1 y2
      unfold impl_Rule_39_186.l0
      repeat' first
      | (with_reducible exact ih0 _ _ _)
      | (with_reducible exact impl_Tidy_1.mono _ _ _ _ _ _ _ _ _ _)
      | (with_reducible exact LeO.refl _)
      | (with_reducible exact LeO.none _)
      | (with_reducible refine LeO.ite ?_ ?_)
      | (with_reducible refine LeO.bind ?_ (fun _ => ?_))
      | exact ih0 _ _ _
      | exact impl_Tidy_1.mono _ _ _ _ _ _ _ _ _ _
      | exact LeO.none _
      | refine LeO.ite ?_ ?_
      | refine LeO.bind ?_ (fun _ => ?_)
theorem impl_Rule_39_186.mono : ∀ a0 k, LeO (impl_Rule_39_186.f k a0) (impl_Rule_39_186.f (k + 1) a0) := by
  intro a0 k
  have ih0 := impl_Rule_39_186.mono_l k
  unfold impl_Rule_39_186.f
  repeat' first
      | (with_reducible exact ih0 _ _ _)
      | (with_reducible exact impl_Tidy_1.mono _ _ _ _ _ _ _ _ _ _)
      | (with_reducible exact LeO.refl _)
      | (with_reducible exact LeO.none _)
      | (with_reducible refine LeO.ite ?_ ?_)
      | (with_reducible refine LeO.bind ?_ (fun _ => ?_))
      | exact ih0 _ _ _
      | exact impl_Tidy_1.mono _ _ _ _ _ _ _ _ _ _
      | exact LeO.none _
      | refine LeO.ite ?_ ?_
      | refine LeO.bind ?_ (fun _ => ?_)
noncomputable def impl_Rule_39_186.l0v (x0 : List (S68)) (x7 : Int) (x8 : Int) : Option (Int) := limOf (fun k => impl_Rule_39_186.l0 k x0 x7 x8)
theorem impl_Rule_39_186.l0_lim (x0 : List (S68)) (x7 : Int) (x8 : Int) : Lim (fun k => impl_Rule_39_186.l0 k x0 x7 x8) (impl_Rule_39_186.l0v x0 x7 x8) := Lim.of (fun k => impl_Rule_39_186.mono_l k x0 x7 x8)
noncomputable def impl_Rule_39_186.fv (l0 : List (S68)) : Option (Int) := limOf (fun k => impl_Rule_39_186.f k l0)
theorem impl_Rule_39_186.f_lim (l0 : List (S68)) : Lim (fun k => impl_Rule_39_186.f k l0) (impl_Rule_39_186.fv l0) := Lim.of (fun k => impl_Rule_39_186.mono l0 k)
set_option maxHeartbeats 4000000 in
theorem impl_Rule_39_186.l0v_eq (x0 : List (S68)) (x7 : Int) (x8 : Int) : impl_Rule_39_186.l0v x0 x7 x8 = (if x8 < x7 then (if 0 ≤ x8 then (if x8 < (x0.length : Int) then ((impl_Tidy_1.fv ((rd_T68 x0 x8).f0) ((rd_T68 x0 x8).f1.f0) ((rd_T68 x0 x8).f1.f1) ((rd_T68 x0 x8).f1.f2) ((rd_T68 x0 x8).f1.f3) ((rd_T68 x0 x8).f2.f0) ((rd_T68 x0 x8).f2.f1) ((rd_T68 x0 x8).f2.f2) ((rd_T68 x0 x8).f2.f3)).bind fun t328 => (if t328 = true then (some x8) else (impl_Rule_39_186.l0v x0 x7 (wrap64 (x8 + 1))))) else (none)) else (none)) else (some (-1))) := by
  refine Lim.succ (impl_Rule_39_186.l0_lim x0 x7 x8) ?_
  simp only [impl_Rule_39_186.l0]
  repeat' first
    | (with_reducible apply impl_Rule_39_186.l0_lim)
    | (with_reducible apply impl_Tidy_1.f_lim)
    | (with_reducible exact Lim.const _)
    | (with_reducible refine Lim.ite ?_ ?_)
    | (with_reducible refine Lim.bind ?_ (fun _ => ?_))
    | apply impl_Rule_39_186.l0_lim
    | apply impl_Tidy_1.f_lim
    | exact Lim.const _
    | refine Lim.ite ?_ ?_
    | refine Lim.bind ?_ (fun _ => ?_)
set_option maxHeartbeats 4000000 in
theorem impl_Rule_39_186.fv_eq (l0 : List (S68)) : impl_Rule_39_186.fv l0 = (impl_Rule_39_186.l0v l0 (l0.length : Int) 0) := by
  refine Lim.eq (impl_Rule_39_186.f_lim l0) ?_
  simp only [impl_Rule_39_186.f]
  repeat' first
    | (with_reducible apply impl_Rule_39_186.l0_lim)
    | (with_reducible exact Lim.const _)
    | (with_reducible refine Lim.ite ?_ ?_)
    | (with_reducible refine Lim.bind ?_ (fun _ => ?_))
    | apply impl_Rule_39_186.l0_lim
    | exact Lim.const _
    | refine Lim.ite ?_ ?_
    | refine Lim.bind ?_ (fun _ => ?_)

/-! ### impl_Rule_39_185 -/
def impl_Rule_39_185.f (k : Nat) (l0 : List (S68))  : Option (Bool) := (impl_Rule_39_186.f k l0).bind fun t329 => (some (decide (t329 ≥ 0)))
theorem impl_Rule_39_185.mono : ∀ a0 k, LeO (impl_Rule_39_185.f k a0) (impl_Rule_39_185.f (k + 1) a0) := by
  intro a0 k
  unfold impl_Rule_39_185.f
  repeat' first
      | (with_reducible exact impl_Rule_39_186.mono _ _)
      | (with_reducible exact LeO.refl _)
      | (with_reducible exact LeO.none _)
      | (with_reducible refine LeO.ite ?_ ?_)
      | (with_reducible refine LeO.bind ?_ (fun _ => ?_))
      | exact impl_Rule_39_186.mono _ _
      | exact LeO.none _
      | refine LeO.ite ?_ ?_
      | refine LeO.bind ?_ (fun _ => ?_)
noncomputable def impl_Rule_39_185.fv (l0 : List (S68)) : Option (Bool) := limOf (fun k => impl_Rule_39_185.f k l0)
theorem impl_Rule_39_185.f_lim (l0 : List (S68)) : Lim (fun k => impl_Rule_39_185.f k l0) (impl_Rule_39_185.fv l0) := Lim.of (fun k => impl_Rule_39_185.mono l0 k)
set_option maxHeartbeats 4000000 in
theorem impl_Rule_39_185.fv_eq (l0 : List (S68)) : impl_Rule_39_185.fv l0 = ((impl_Rule_39_186.fv l0).bind fun t329 => (some (decide (t329 ≥ 0)))) := by
  refine Lim.eq (impl_Rule_39_185.f_lim l0) ?_
  simp only [impl_Rule_39_185.f]
  repeat' first
    | (with_reducible apply impl_Rule_39_186.f_lim)
    | (with_reducible exact Lim.const _)
    | (with_reducible refine Lim.ite ?_ ?_)
    | (with_reducible refine Lim.bind ?_ (fun _ => ?_))
    | apply impl_Rule_39_186.f_lim
    | exact Lim.const _
    | refine Lim.ite ?_ ?_
    | refine Lim.bind ?_ (fun _ => ?_)

/-! ### impl_Tidy -/
def impl_Tidy.f (k : Nat) (l0 : List (S68)) : Option (Bool) := (impl_Rule_39_185.f k l0).bind fun t330 => (some (!t330))
theorem impl_Tidy.mono : ∀ a0 k, LeO (impl_Tidy.f k a0) (impl_Tidy.f (k + 1) a0) := by
  intro a0 k
  unfold impl_Tidy.f
  repeat' first
      | (with_reducible exact impl_Rule_39_185.mono _ _)
      | (with_reducible exact LeO.refl _)
      | (with_reducible exact LeO.none _)
      | (with_reducible refine LeO.ite ?_ ?_)
      | (with_reducible refine LeO.bind ?_ (fun _ => ?_))
      | exact impl_Rule_39_185.mono _ _
      | exact LeO.none _
      | refine LeO.ite ?_ ?_
      | refine LeO.bind ?_ (fun _ => ?_)
noncomputable def impl_Tidy.fv (l0 : List (S68)) : Option (Bool) := limOf (fun k => impl_Tidy.f k l0)
theorem impl_Tidy.f_lim (l0 : List (S68)) : Lim (fun k => impl_Tidy.f k l0) (impl_Tidy.fv l0) := Lim.of (fun k => impl_Tidy.mono l0 k)
set_option maxHeartbeats 4000000 in
theorem impl_Tidy.fv_eq (l0 : List (S68)) : impl_Tidy.fv l0 = ((impl_Rule_39_185.fv l0).bind fun t330 => (some (!t330))) := by
  refine Lim.eq (impl_Tidy.f_lim l0) ?_
  simp only [impl_Tidy.f]
  repeat' first
    | (with_reducible apply impl_Rule_39_185.f_lim)
    | (with_reducible exact Lim.const _)
    | (with_reducible refine Lim.ite ?_ ?_)
    | (with_reducible refine Lim.bind ?_ (fun _ => ?_))
    | apply impl_Rule_39_185.f_lim
    | exact Lim.const _
    | refine Lim.ite ?_ ?_
    | refine Lim.bind ?_ (fun _ => ?_)

/-! ### laws_eqNode -/
mutual
def laws_eqNodeS.l0 : Nat → List (S66) → List (S66) → Int → Option (Bool)
  | 0, _, _, _ => none
  | k + 1, x0, x1, x5 => if x5 < (x0.length : Int) then (if 0 ≤ x5 then (if x5 < (x1.length : Int) then ((laws_eqNode.f k ((rd_T66 x0 x5).f0) ((rd_T66 x0 x5).f1) ((rd_T66 x0 x5).f2) ((rd_T66 x0 x5).f3) ((rd_T66 x1 x5).f0) ((rd_T66 x1 x5).f1) ((rd_T66 x1 x5).f2) ((rd_T66 x1 x5).f3)).bind fun t333 => (if t333 = true then (laws_eqNodeS.l0 k x0 x1 (wrap64 (x5 + 1))) else (some false))) else (none)) else (none)) else (some true)
def laws_eqNodeS.f : Nat → List (S66) → List (S66) → Option (Bool)
  | 0, _, _ => none
  | k + 1, l0, l1 => if (l0.length : Int) = (l1.length : Int) then (laws_eqNodeS.l0 k l0 l1 0) else (some false)
def laws_eqNode.f : Nat → Int → Int → ByteArray → List (S66) → Int → Int → ByteArray → List (S66) → Option (Bool)
  | 0, _, _, _, _, _, _, _, _ => none
  | k + 1, a0_0, a0_1, a0_2, l0_3, a1_0, a1_1, a1_2, l1_3 => if a0_0 = a1_0 then (if a0_1 = a1_1 then (if a0_2.toList = a1_2.toList then ((laws_eqNodeS.f k l0_3 l1_3).bind fun t336 => (if t336 = true then (some true) else (some false))) else (some false)) else (some false)) else (some false)
end
set_option maxHeartbeats 8000000 in
theorem laws_eqNodeS.mono_g : ∀ k, (∀ y0 y1, LeO (laws_eqNodeS.f k y0 y1) (laws_eqNodeS.f (k + 1) y0 y1)) ∧ (∀ y0 y1 y2, LeO (laws_eqNodeS.l0 k y0 y1 y2) (laws_eqNodeS.l0 (k + 1) y0 y1 y2)) ∧ (∀ y0 y1 y2 y3 y4 y5 y6 y7, LeO (laws_eqNode.f k y0 y1 y2 y3 y4 y5 y6 y7) (laws_eqNode.f (k + 1) y0 y1 y2 y3 y4 y5 y6 y7))
  | 0 => ⟨fun _ _ r h => by simp [laws_eqNodeS.f] at h, fun _ _ _ r h => by simp [laws_eqNodeS.l0] at h, fun _ _ _ _ _ _ _ _ r h => by simp [laws_eqNode.f] at h⟩
  | k + 1 => by
    obtain ⟨ih0, ih1, ih2⟩ := laws_eqNodeS.mono_g k
    refine ⟨?_, ?_, ?_⟩
    · intro y0 y1
      unfold laws_eqNodeS.f
      repeat' first
      | (with_reducible exact ih0 _ _)
      | (with_reducible exact ih1 _ _ _)
      | (with_reducible exact ih2 _ _ _ _ _ _ _ _)
      | (with_reducible exact LeO.refl _)
      | (with_reducible exact LeO.none _)
      | (with_reducible refine LeO.ite ?_ ?_)
      | (with_reducible refine LeO.bind ?_ (fun _ => ?_))
      | exact ih0 _ _
      | exact ih1 _ _ _
      | exact ih2 _ _ _ _ _ _ _ _
      | exact LeO.none _
      | refine LeO.ite ?_ ?_
      | refine LeO.bind ?_ (fun _ => ?_)
    · intro y0 y1 y2
      unfold laws_eqNodeS.l0
      repeat' first
      | (with_reducible exact ih0 _ _)
      | (with_reducible exact ih1 _ _ _)
      | (with_reducible exact ih2 _ _ _ _ _ _ _ _)
      | (with_reducible exact LeO.refl _)
      | (with_reducible exact LeO.none _)
      | (with_reducible refine LeO.ite ?_ ?_)
      | (with_reducible refine LeO.bind ?_ (fun _ => ?_))
      | exact ih0 _ _
      | exact ih1 _ _ _
      | exact ih2 _ _ _ _ _ _ _ _
      | exact LeO.none _
      | refine LeO.ite ?_ ?_
      | refine LeO.bind ?_ (fun _ => ?_)
    · intro y0 y1 y2 y3 y4 y5 y6 y7
      unfold laws_eqNode.f
      repeat' first
      | (with_reducible exact ih0 _ _)
      | (with_reducible exact ih1 _ _ _)
      | (with_reducible exact ih2 _ _ _ _ _ _ _ _)
      | (with_reducible exact LeO.refl _)
      | (with_reducible exact LeO.none _)
      | (with_reducible refine LeO.ite ?_ ?_)
      | (with_reducible refine LeO.bind ?_ (fun _ => ?_))
      | exact ih0 _ _
      | exact ih1 _ _ _
      | exact ih2 _ _ _ _ _ _ _ _
      | exact LeO.none _
      | refine LeO.ite ?_ ?_
      | refine LeO.bind ?_ (fun _ => ?_)
theorem laws_eqNodeS.mono : ∀ a0 a1 k, LeO (laws_eqNodeS.f k a0 a1) (laws_eqNodeS.f (k + 1) a0 a1) := by
  intro a0 a1 k
  obtain ⟨ih0, ih1, ih2⟩ := laws_eqNodeS.mono_g k
  exact ih0 a0 a1
theorem laws_eqNode.mono : ∀ a0 a1 a2 a3 a4 a5 a6 a7 k, LeO (laws_eqNode.f k a0 a1 a2 a3 a4 a5 a6 a7) (laws_eqNode.f (k + 1) a0 a1 a2 a3 a4 a5 a6 a7) := by
  intro a0 a1 a2 a3 a4 a5 a6 a7 k
  obtain ⟨ih0, ih1, ih2⟩ := laws_eqNodeS.mono_g k
  exact ih2 a0 a1 a2 a3 a4 a5 a6 a7
noncomputable def laws_eqNodeS.l0v (x0 : List (S66)) (x1 : List (S66)) (x5 : Int) : Option (Bool) := limOf (fun k => laws_eqNodeS.l0 k x0 x1 x5)
theorem laws_eqNodeS.l0_lim (x0 : List (S66)) (x1 : List (S66)) (x5 : Int) : Lim (fun k => laws_eqNodeS.l0 k x0 x1 x5) (laws_eqNodeS.l0v x0 x1 x5) := Lim.of (fun k => (laws_eqNodeS.mono_g k).2.1 x0 x1 x5)
noncomputable def laws_eqNodeS.fv (l0 : List (S66)) (l1 : List (S66)) : Option (Bool) := limOf (fun k => laws_eqNodeS.f k l0 l1)
theorem laws_eqNodeS.f_lim (l0 : List (S66)) (l1 : List (S66)) : Lim (fun k => laws_eqNodeS.f k l0 l1) (laws_eqNodeS.fv l0 l1) := Lim.of (fun k => (laws_eqNodeS.mono_g k).1 l0 l1)
noncomputable def laws_eqNode.fv (a0_0 : Int) (a0_1 : Int) (a0_2 : ByteArray) (l0_3 : List (S66)) (a1_0 : Int) (a1_1 : Int) (a1_2 : ByteArray) (l1_3 : List (S66)) : Option (Bool) := limOf (fun k => laws_eqNode.f k a0_0 a0_1 a0_2 l0_3 a1_0 a1_1 a1_2 l1_3)
theorem laws_eqNode.f_lim (a0_0 : Int) (a0_1 : Int) (a0_2 : ByteArray) (l0_3 : List (S66)) (a1_0 : Int) (a1_1 : Int) (a1_2 : ByteArray) (l1_3 : List (S66)) : Lim (fun k => laws_eqNode.f k a0_0 a0_1 a0_2 l0_3 a1_0 a1_1 a1_2 l1_3) (laws_eqNode.fv a0_0 a0_1 a0_2 l0_3 a1_0 a1_1 a1_2 l1_3) := Lim.of (fun k => (laws_eqNodeS.mono_g k).2.2 a0_0 a0_1 a0_2 l0_3 a1_0 a1_1 a1_2 l1_3)
set_option maxHeartbeats 4000000 in
theorem laws_eqNodeS.l0v_eq (x0 : List (S66)) (x1 : List (S66)) (x5 : Int) : laws_eqNodeS.l0v x0 x1 x5 = (if x5 < (x0.length : Int) then (if 0 ≤ x5 then (if x5 < (x1.length : Int) then ((laws_eqNode.fv ((rd_T66 x0 x5).f0) ((rd_T66 x0 x5).f1) ((rd_T66 x0 x5).f2) ((rd_T66 x0 x5).f3) ((rd_T66 x1 x5).f0) ((rd_T66 x1 x5).f1) ((rd_T66 x1 x5).f2) ((rd_T66 x1 x5).f3)).bind fun t333 => (if t333 = true then (laws_eqNodeS.l0v x0 x1 (wrap64 (x5 + 1))) else (some false))) else (none)) else (none)) else (some true)) := by
  refine Lim.succ (laws_eqNodeS.l0_lim x0 x1 x5) ?_
  simp only [laws_eqNodeS.l0]
  repeat' first
    | (with_reducible apply laws_eqNode.f_lim)
    | (with_reducible apply laws_eqNodeS.l0_lim)
    | (with_reducible exact Lim.const _)
    | (with_reducible refine Lim.ite ?_ ?_)
    | (with_reducible refine Lim.bind ?_ (fun _ => ?_))
    | apply laws_eqNode.f_lim
    | apply laws_eqNodeS.l0_lim
    | exact Lim.const _
    | refine Lim.ite ?_ ?_
    | refine Lim.bind ?_ (fun _ => ?_)
set_option maxHeartbeats 4000000 in
theorem laws_eqNodeS.fv_eq (l0 : List (S66)) (l1 : List (S66)) : laws_eqNodeS.fv l0 l1 = (if (l0.length : Int) = (l1.length : Int) then (laws_eqNodeS.l0v l0 l1 0) else (some false)) := by
  refine Lim.succ (laws_eqNodeS.f_lim l0 l1) ?_
  simp only [laws_eqNodeS.f]
  repeat' first
    | (with_reducible apply laws_eqNodeS.l0_lim)
    | (with_reducible exact Lim.const _)
    | (with_reducible refine Lim.ite ?_ ?_)
    | (with_reducible refine Lim.bind ?_ (fun _ => ?_))
    | apply laws_eqNodeS.l0_lim
    | exact Lim.const _
    | refine Lim.ite ?_ ?_
    | refine Lim.bind ?_ (fun _ => ?_)

set_option maxHeartbeats 4000000 in
theorem laws_eqNode.fv_eq (a0_0 : Int) (a0_1 : Int) (a0_2 : ByteArray) (l0_3 : List (S66)) (a1_0 : Int) (a1_1 : Int) (a1_2 : ByteArray) (l1_3 : List (S66)) : laws_eqNode.fv a0_0 a0_1 a0_2 l0_3 a1_0 a1_1 a1_2 l1_3 = (if a0_0 = a1_0 then (if a0_1 = a1_1 then (if a0_2.toList = a1_2.toList then ((laws_eqNodeS.fv l0_3 l1_3).bind fun t336 => (if t336 = true then (some true) else (some false))) else (some false)) else (some false)) else (some false)) := by
  refine Lim.succ (laws_eqNode.f_lim a0_0 a0_1 a0_2 l0_3 a1_0 a1_1 a1_2 l1_3) ?_
  simp only [laws_eqNode.f]
  repeat' first
    | (with_reducible apply laws_eqNodeS.f_lim)
    | (with_reducible exact Lim.const _)
    | (with_reducible refine Lim.ite ?_ ?_)
    | (with_reducible refine Lim.bind ?_ (fun _ => ?_))
    | apply laws_eqNodeS.f_lim
    | exact Lim.const _
    | refine Lim.ite ?_ ?_
    | refine Lim.bind ?_ (fun _ => ?_)


/-! ### laws_eqRule -/
def laws_eqRule.f (k : Nat) (a0_0 : Int) (a0_1 : Int) (a0_2 : Int) (a0_3 : ByteArray) (l0_4 : List (S66)) (a0_5 : Int) (a0_6 : Int) (a0_7 : ByteArray) (l0_8 : List (S66)) (a1_0 : Int) (a1_1 : Int) (a1_2 : Int) (a1_3 : ByteArray) (l1_4 : List (S66)) (a1_5 : Int) (a1_6 : Int) (a1_7 : ByteArray) (l1_8 : List (S66)) : Option (Bool) := if a0_0 = a1_0 then ((laws_eqNode.f k a0_1 a0_2 a0_3 l0_4 a1_1 a1_2 a1_3 l1_4).bind fun t339 => (if t339 = true then ((laws_eqNode.f k a0_5 a0_6 a0_7 l0_8 a1_5 a1_6 a1_7 l1_8).bind fun t340 => (if t340 = true then (some true) else (some false))) else (some false))) else (some false)
theorem laws_eqRule.mono : ∀ a0 a1 a2 a3 a4 a5 a6 a7 a8 a9 a10 a11 a12 a13 a14 a15 a16 a17 k, LeO (laws_eqRule.f k a0 a1 a2 a3 a4 a5 a6 a7 a8 a9 a10 a11 a12 a13 a14 a15 a16 a17) (laws_eqRule.f (k + 1) a0 a1 a2 a3 a4 a5 a6 a7 a8 a9 a10 a11 a12 a13 a14 a15 a16 a17) := by
  intro a0 a1 a2 a3 a4 a5 a6 a7 a8 a9 a10 a11 a12 a13 a14 a15 a16 a17 k
  unfold laws_eqRule.f
  repeat' first
      | (with_reducible exact laws_eqNode.mono _ _ _ _ _ _ _ _ _)
      | (with_reducible exact LeO.refl _)
      | (with_reducible exact LeO.none _)
      | (with_reducible refine LeO.ite ?_ ?_)
      | (with_reducible refine LeO.bind ?_ (fun _ => ?_))
      | exact laws_eqNode.mono _ _ _ _ _ _ _ _ _
      | exact LeO.none _
      | refine LeO.ite ?_ ?_
      | refine LeO.bind ?_ (fun _ => ?_)
noncomputable def laws_eqRule.fv (a0_0 : Int) (a0_1 : Int) (a0_2 : Int) (a0_3 : ByteArray) (l0_4 : List (S66)) (a0_5 : Int) (a0_6 : Int) (a0_7 : ByteArray) (l0_8 : List (S66)) (a1_0 : Int) (a1_1 : Int) (a1_2 : Int) (a1_3 : ByteArray) (l1_4 : List (S66)) (a1_5 : Int) (a1_6 : Int) (a1_7 : ByteArray) (l1_8 : List (S66)) : Option (Bool) := limOf (fun k => laws_eqRule.f k a0_0 a0_1 a0_2 a0_3 l0_4 a0_5 a0_6 a0_7 l0_8 a1_0 a1_1 a1_2 a1_3 l1_4 a1_5 a1_6 a1_7 l1_8)
theorem laws_eqRule.f_lim (a0_0 : Int) (a0_1 : Int) (a0_2 : Int) (a0_3 : ByteArray) (l0_4 : List (S66)) (a0_5 : Int) (a0_6 : Int) (a0_7 : ByteArray) (l0_8 : List (S66)) (a1_0 : Int) (a1_1 : Int) (a1_2 : Int) (a1_3 : ByteArray) (l1_4 : List (S66)) (a1_5 : Int) (a1_6 : Int) (a1_7 : ByteArray) (l1_8 : List (S66)) : Lim (fun k => laws_eqRule.f k a0_0 a0_1 a0_2 a0_3 l0_4 a0_5 a0_6 a0_7 l0_8 a1_0 a1_1 a1_2 a1_3 l1_4 a1_5 a1_6 a1_7 l1_8) (laws_eqRule.fv a0_0 a0_1 a0_2 a0_3 l0_4 a0_5 a0_6 a0_7 l0_8 a1_0 a1_1 a1_2 a1_3 l1_4 a1_5 a1_6 a1_7 l1_8) := Lim.of (fun k => laws_eqRule.mono a0_0 a0_1 a0_2 a0_3 l0_4 a0_5 a0_6 a0_7 l0_8 a1_0 a1_1 a1_2 a1_3 l1_4 a1_5 a1_6 a1_7 l1_8 k)
set_option maxHeartbeats 4000000 in
theorem laws_eqRule.fv_eq (a0_0 : Int) (a0_1 : Int) (a0_2 : Int) (a0_3 : ByteArray) (l0_4 : List (S66)) (a0_5 : Int) (a0_6 : Int) (a0_7 : ByteArray) (l0_8 : List (S66)) (a1_0 : Int) (a1_1 : Int) (a1_2 : Int) (a1_3 : ByteArray) (l1_4 : List (S66)) (a1_5 : Int) (a1_6 : Int) (a1_7 : ByteArray) (l1_8 : List (S66)) : laws_eqRule.fv a0_0 a0_1 a0_2 a0_3 l0_4 a0_5 a0_6 a0_7 l0_8 a1_0 a1_1 a1_2 a1_3 l1_4 a1_5 a1_6 a1_7 l1_8 = (if a0_0 = a1_0 then ((laws_eqNode.fv a0_1 a0_2 a0_3 l0_4 a1_1 a1_2 a1_3 l1_4).bind fun t339 => (if t339 = true then ((laws_eqNode.fv a0_5 a0_6 a0_7 l0_8 a1_5 a1_6 a1_7 l1_8).bind fun t340 => (if t340 = true then (some true) else (some false))) else (some false))) else (some false)) := by
  refine Lim.eq (laws_eqRule.f_lim a0_0 a0_1 a0_2 a0_3 l0_4 a0_5 a0_6 a0_7 l0_8 a1_0 a1_1 a1_2 a1_3 l1_4 a1_5 a1_6 a1_7 l1_8) ?_
  simp only [laws_eqRule.f]
  repeat' first
    | (with_reducible apply laws_eqNode.f_lim)
    | (with_reducible exact Lim.const _)
    | (with_reducible refine Lim.ite ?_ ?_)
    | (with_reducible refine Lim.bind ?_ (fun _ => ?_))
    | apply laws_eqNode.f_lim
    | exact Lim.const _
    | refine Lim.ite ?_ ?_
    | refine Lim.bind ?_ (fun _ => ?_)

/-! ### laws_eqRuleS -/
def laws_eqRuleS.l0 : Nat → List (S68) → List (S68) → Int → Option (Bool)
  | 0, _, _, _ => none
  | k + 1, x0, x1, x5 => if x5 < (x0.length : Int) then (if 0 ≤ x5 then (if x5 < (x1.length : Int) then ((laws_eqRule.f k ((rd_T68 x0 x5).f0) ((rd_T68 x0 x5).f1.f0) ((rd_T68 x0 x5).f1.f1) ((rd_T68 x0 x5).f1.f2) ((rd_T68 x0 x5).f1.f3) ((rd_T68 x0 x5).f2.f0) ((rd_T68 x0 x5).f2.f1) ((rd_T68 x0 x5).f2.f2) ((rd_T68 x0 x5).f2.f3) ((rd_T68 x1 x5).f0) ((rd_T68 x1 x5).f1.f0) ((rd_T68 x1 x5).f1.f1) ((rd_T68 x1 x5).f1.f2) ((rd_T68 x1 x5).f1.f3) ((rd_T68 x1 x5).f2.f0) ((rd_T68 x1 x5).f2.f1) ((rd_T68 x1 x5).f2.f2) ((rd_T68 x1 x5).f2.f3)).bind fun t343 => (if t343 = true then (laws_eqRuleS.l0 k x0 x1 (wrap64 (x5 + 1))) else (some false))) else (none)) else (none)) else (some true)
def laws_eqRuleS.f (k : Nat) (l0 : List (S68)) (l1 : List (S68)) : Option (Bool) := if (l0.length : Int) = (l1.length : Int) then (laws_eqRuleS.l0 k l0 l1 0) else (some false)
theorem laws_eqRuleS.mono_l : ∀ k, (∀ y0 y1 y2, LeO (laws_eqRuleS.l0 k y0 y1 y2) (laws_eqRuleS.l0 (k + 1) y0 y1 y2))
  | 0 => fun _ _ _ r h => by simp [laws_eqRuleS.l0] at h
  | k + 1 => by
    have ih0 := laws_eqRuleS.mono_l k
    · intro y0 y1 y2
      unfold laws_eqRuleS.l0
      repeat' first
      | (with_reducible exact ih0 _ _ _)
      | (with_reducible exact laws_eqRule.mono _ _ _ _ _ _ _ _ _ _ _ _ _ _ _ _ _ _ _)
      | (with_reducible exact LeO.refl _)
      | (with_reducible exact LeO.none _)
      | (with_reducible refine LeO.ite ?_ ?_)
      | (with_reducible refine LeO.bind ?_ (fun _ => ?_))
      | exact ih0 _ _ _
      | exact laws_eqRule.mono _ _ _ _ _ _ _ _ _ _ _ _ _ _ _ _ _ _ _
      | exact LeO.none _
      | refine LeO.ite ?_ ?_
      | refine LeO.bind ?_ (fun _ => ?_)
theorem laws_eqRuleS.mono : ∀ a0 a1 k, LeO (laws_eqRuleS.f k a0 a1) (laws_eqRuleS.f (k + 1) a0 a1) := by
  intro a0 a1 k
  have ih0 := laws_eqRuleS.mono_l k
  unfold laws_eqRuleS.f
  repeat' first
      | (with_reducible exact ih0 _ _ _)
      | (with_reducible exact laws_eqRule.mono _ _ _ _ _ _ _ _ _ _ _ _ _ _ _ _ _ _ _)
      | (with_reducible exact LeO.refl _)
      | (with_reducible exact LeO.none _)
      | (with_reducible refine LeO.ite ?_ ?_)
      | (with_reducible refine LeO.bind ?_ (fun _ => ?_))
      | exact ih0 _ _ _
      | exact laws_eqRule.mono _ _ _ _ _ _ _ _ _ _ _ _ _ _ _ _ _ _ _
      | exact LeO.none _
      | refine LeO.ite ?_ ?_
      | refine LeO.bind ?_ (fun _ => ?_)
noncomputable def laws_eqRuleS.l0v (x0 : List (S68)) (x1 : List (S68)) (x5 : Int) : Option (Bool) := limOf (fun k => laws_eqRuleS.l0 k x0 x1 x5)
theorem laws_eqRuleS.l0_lim (x0 : List (S68)) (x1 : List (S68)) (x5 : Int) : Lim (fun k => laws_eqRuleS.l0 k x0 x1 x5) (laws_eqRuleS.l0v x0 x1 x5) := Lim.of (fun k => laws_eqRuleS.mono_l k x0 x1 x5)
noncomputable def laws_eqRuleS.fv (l0 : List (S68)) (l1 : List (S68)) : Option (Bool) := limOf (fun k => laws_eqRuleS.f k l0 l1)
theorem laws_eqRuleS.f_lim (l0 : List (S68)) (l1 : List (S68)) : Lim (fun k => laws_eqRuleS.f k l0 l1) (laws_eqRuleS.fv l0 l1) := Lim.of (fun k => laws_eqRuleS.mono l0 l1 k)
set_option maxHeartbeats 4000000 in
theorem laws_eqRuleS.l0v_eq (x0 : List (S68)) (x1 : List (S68)) (x5 : Int) : laws_eqRuleS.l0v x0 x1 x5 = (if x5 < (x0.length : Int) then (if 0 ≤ x5 then (if x5 < (x1.length : Int) then ((laws_eqRule.fv ((rd_T68 x0 x5).f0) ((rd_T68 x0 x5).f1.f0) ((rd_T68 x0 x5).f1.f1) ((rd_T68 x0 x5).f1.f2) ((rd_T68 x0 x5).f1.f3) ((rd_T68 x0 x5).f2.f0) ((rd_T68 x0 x5).f2.f1) ((rd_T68 x0 x5).f2.f2) ((rd_T68 x0 x5).f2.f3) ((rd_T68 x1 x5).f0) ((rd_T68 x1 x5).f1.f0) ((rd_T68 x1 x5).f1.f1) ((rd_T68 x1 x5).f1.f2) ((rd_T68 x1 x5).f1.f3) ((rd_T68 x1 x5).f2.f0) ((rd_T68 x1 x5).f2.f1) ((rd_T68 x1 x5).f2.f2) ((rd_T68 x1 x5).f2.f3)).bind fun t343 => (if t343 = true then (laws_eqRuleS.l0v x0 x1 (wrap64 (x5 + 1))) else (some false))) else (none)) else (none)) else (some true)) := by
  refine Lim.succ (laws_eqRuleS.l0_lim x0 x1 x5) ?_
  simp only [laws_eqRuleS.l0]
  repeat' first
    | (with_reducible apply laws_eqRule.f_lim)
    | (with_reducible apply laws_eqRuleS.l0_lim)
    | (with_reducible exact Lim.const _)
    | (with_reducible refine Lim.ite ?_ ?_)
    | (with_reducible refine Lim.bind ?_ (fun _ => ?_))
    | apply laws_eqRule.f_lim
    | apply laws_eqRuleS.l0_lim
    | exact Lim.const _
    | refine Lim.ite ?_ ?_
    | refine Lim.bind ?_ (fun _ => ?_)
set_option maxHeartbeats 4000000 in
theorem laws_eqRuleS.fv_eq (l0 : List (S68)) (l1 : List (S68)) : laws_eqRuleS.fv l0 l1 = (if (l0.length : Int) = (l1.length : Int) then (laws_eqRuleS.l0v l0 l1 0) else (some false)) := by
  refine Lim.eq (laws_eqRuleS.f_lim l0 l1) ?_
  simp only [laws_eqRuleS.f]
  repeat' first
    | (with_reducible apply laws_eqRuleS.l0_lim)
    | (with_reducible exact Lim.const _)
    | (with_reducible refine Lim.ite ?_ ?_)
    | (with_reducible refine Lim.bind ?_ (fun _ => ?_))
    | apply laws_eqRuleS.l0_lim
    | exact Lim.const _
    | refine Lim.ite ?_ ?_
    | refine Lim.bind ?_ (fun _ => ?_)

end Go.Proofs.Ythigelphmjepaaa.QFnExactTidy
