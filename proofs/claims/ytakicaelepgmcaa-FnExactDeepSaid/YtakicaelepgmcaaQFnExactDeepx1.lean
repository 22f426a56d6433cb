/- Written by wip/pr2, a program of this session. -/
import Derived.Test.YtakicaelepgmcaaQFnExactDeepx0
import Derived.Test.YtakicaelepgmcaaLim
namespace Go.Proofs.Ytakicaelepgmcaa.QFnExactDeep
open Go.RowKit Go.Proofs.YtakicaelepgmcaaW.PrintWords Go.Proofs.YtakicaelepgmcaaW.PrintLast Go.Proofs.YtakicaelepgmcaaW.PrintMore
attribute [local go_sem] max2_int min2_int max_two min_two max_three min_three max_four min_four   -- for this text's walks alone
set_option linter.unusedVariables false
set_option linter.unusedSimpArgs false

open Go.Proofs.YtakicaelepgmcaaW.Lims
/-! ### laws_szNode -/
mutual
def laws_szNodeS.l0 : Nat → List (S47) → Int → Int → Option (Int)
  | 0, _, _, _ => none
  | k + 1, x0, x1, x5 => if x5 < (x0.length : Int) then (if 0 ≤ x5 then ((laws_szNode.f k ((rd_T47 x0 x5).f0) ((rd_T47 x0 x5).f1) ((rd_T47 x0 x5).f2) ((rd_T47 x0 x5).f3) x1).bind fun t102 => (if t102 < 0 then (some (-1)) else (laws_szNodeS.l0 k x0 t102 (wrap64 (x5 + 1))))) else (none)) else (some x1)
def laws_szNodeS.f : Nat → List (S47) → Int → Option (Int)
  | 0, _, _ => none
  | k + 1, l0, a1 => if (wrap64 (a1 - (l0.length : Int))) < 0 then (some (-1)) else (laws_szNodeS.l0 k l0 (wrap64 (a1 - (l0.length : Int))) 0)
def laws_szNode.f : Nat → Int → Int → ByteArray → List (S47) → Int → Option (Int)
  | 0, _, _, _, _, _ => none
  | k + 1, a0_0, a0_1, a0_2, l0_3, a1 => if (wrap64 (a1 - (a0_2.size : Int))) < 0 then (some (-1)) else ((laws_szNodeS.f k l0_3 (wrap64 (a1 - (a0_2.size : Int)))).bind fun t104 => (if t104 < 0 then (some (-1)) else (some t104)))
end
set_option maxHeartbeats 8000000 in
theorem laws_szNodeS.mono_g : ∀ k, (∀ y0 y1, LeO (laws_szNodeS.f k y0 y1) (laws_szNodeS.f (k + 1) y0 y1)) ∧ (∀ y0 y1 y2, LeO (laws_szNodeS.l0 k y0 y1 y2) (laws_szNodeS.l0 (k + 1) y0 y1 y2)) ∧ (∀ y0 y1 y2 y3 y4, LeO (laws_szNode.f k y0 y1 y2 y3 y4) (laws_szNode.f (k + 1) y0 y1 y2 y3 y4))
  | 0 => ⟨fun _ _ r h => by simp [laws_szNodeS.f] at h, fun _ _ _ r h => by simp [laws_szNodeS.l0] at h, fun _ _ _ _ _ r h => by simp [laws_szNode.f] at h⟩
  | k + 1 => by
    obtain ⟨ih0, ih1, ih2⟩ := laws_szNodeS.mono_g k
    refine ⟨?_, ?_, ?_⟩
    · intro y0 y1
      unfold laws_szNodeS.f
      repeat' first
      | (with_reducible exact ih0 _ _)
      | (with_reducible exact ih1 _ _ _)
      | (with_reducible exact ih2 _ _ _ _ _)
      | (with_reducible exact LeO.refl _)
      | (with_reducible exact LeO.none _)
      | (with_reducible refine LeO.ite ?_ ?_)
      | (with_reducible refine LeO.bind ?_ (fun _ => ?_))
      | exact ih0 _ _
      | exact ih1 _ _ _
      | exact ih2 _ _ _ _ _
      | exact LeO.none _
      | refine LeO.ite ?_ ?_
      | refine LeO.bind ?_ (fun _ => ?_)
    · intro y0 y1 y2
      unfold laws_szNodeS.l0
      repeat' first
      | (with_reducible exact ih0 _ _)
      | (with_reducible exact ih1 _ _ _)
      | (with_reducible exact ih2 _ _ _ _ _)
      | (with_reducible exact LeO.refl _)
      | (with_reducible exact LeO.none _)
      | (with_reducible refine LeO.ite ?_ ?_)
      | (with_reducible refine LeO.bind ?_ (fun _ => ?_))
      | exact ih0 _ _
      | exact ih1 _ _ _
      | exact ih2 _ _ _ _ _
      | exact LeO.none _
      | refine LeO.ite ?_ ?_
      | refine LeO.bind ?_ (fun _ => ?_)
    · intro y0 y1 y2 y3 y4
      unfold laws_szNode.f
      repeat' first
      | (with_reducible exact ih0 _ _)
      | (with_reducible exact ih1 _ _ _)
      | (with_reducible exact ih2 _ _ _ _ _)
      | (with_reducible exact LeO.refl _)
      | (with_reducible exact LeO.none _)
      | (with_reducible refine LeO.ite ?_ ?_)
      | (with_reducible refine LeO.bind ?_ (fun _ => ?_))
      | exact ih0 _ _
      | exact ih1 _ _ _
      | exact ih2 _ _ _ _ _
      | exact LeO.none _
      | refine LeO.ite ?_ ?_
      | refine LeO.bind ?_ (fun _ => ?_)
theorem laws_szNodeS.mono : ∀ a0 a1 k, LeO (laws_szNodeS.f k a0 a1) (laws_szNodeS.f (k + 1) a0 a1) := by
  intro a0 a1 k
  obtain ⟨ih0, ih1, ih2⟩ := laws_szNodeS.mono_g k
  exact ih0 a0 a1
theorem laws_szNode.mono : ∀ a0 a1 a2 a3 a4 k, LeO (laws_szNode.f k a0 a1 a2 a3 a4) (laws_szNode.f (k + 1) a0 a1 a2 a3 a4) := by
  intro a0 a1 a2 a3 a4 k
  obtain ⟨ih0, ih1, ih2⟩ := laws_szNodeS.mono_g k
  exact ih2 a0 a1 a2 a3 a4
noncomputable def laws_szNodeS.l0v (x0 : List (S47)) (x1 : Int) (x5 : Int) : Option (Int) := limOf (fun k => laws_szNodeS.l0 k x0 x1 x5)
theorem laws_szNodeS.l0_lim (x0 : List (S47)) (x1 : Int) (x5 : Int) : Lim (fun k => laws_szNodeS.l0 k x0 x1 x5) (laws_szNodeS.l0v x0 x1 x5) := Lim.of (fun k => (laws_szNodeS.mono_g k).2.1 x0 x1 x5)
noncomputable def laws_szNodeS.fv (l0 : List (S47)) (a1 : Int) : Option (Int) := limOf (fun k => laws_szNodeS.f k l0 a1)
theorem laws_szNodeS.f_lim (l0 : List (S47)) (a1 : Int) : Lim (fun k => laws_szNodeS.f k l0 a1) (laws_szNodeS.fv l0 a1) := Lim.of (fun k => (laws_szNodeS.mono_g k).1 l0 a1)
noncomputable def laws_szNode.fv (a0_0 : Int) (a0_1 : Int) (a0_2 : ByteArray) (l0_3 : List (S47)) (a1 : Int) : Option (Int) := limOf (fun k => laws_szNode.f k a0_0 a0_1 a0_2 l0_3 a1)
theorem laws_szNode.f_lim (a0_0 : Int) (a0_1 : Int) (a0_2 : ByteArray) (l0_3 : List (S47)) (a1 : Int) : Lim (fun k => laws_szNode.f k a0_0 a0_1 a0_2 l0_3 a1) (laws_szNode.fv a0_0 a0_1 a0_2 l0_3 a1) := Lim.of (fun k => (laws_szNodeS.mono_g k).2.2 a0_0 a0_1 a0_2 l0_3 a1)
set_option maxHeartbeats 4000000 in
theorem laws_szNodeS.l0v_eq (x0 : List (S47)) (x1 : Int) (x5 : Int) : laws_szNodeS.l0v x0 x1 x5 = (if x5 < (x0.length : Int) then (if 0 ≤ x5 then ((laws_szNode.fv ((rd_T47 x0 x5).f0) ((rd_T47 x0 x5).f1) ((rd_T47 x0 x5).f2) ((rd_T47 x0 x5).f3) x1).bind fun t102 => (if t102 < 0 then (some (-1)) else (laws_szNodeS.l0v x0 t102 (wrap64 (x5 + 1))))) else (none)) else (some x1)) := by
  refine Lim.succ (laws_szNodeS.l0_lim x0 x1 x5) ?_
  simp only [laws_szNodeS.l0]
  repeat' first
    | (with_reducible apply laws_szNode.f_lim)
    | (with_reducible apply laws_szNodeS.l0_lim)
    | (with_reducible exact Lim.const _)
    | (with_reducible refine Lim.ite ?_ ?_)
    | (with_reducible refine Lim.bind ?_ (fun _ => ?_))
    | apply laws_szNode.f_lim
    | apply laws_szNodeS.l0_lim
    | exact Lim.const _
    | refine Lim.ite ?_ ?_
    | refine Lim.bind ?_ (fun _ => ?_)
set_option maxHeartbeats 4000000 in
theorem laws_szNodeS.fv_eq (l0 : List (S47)) (a1 : Int) : laws_szNodeS.fv l0 a1 = (if (wrap64 (a1 - (l0.length : Int))) < 0 then (some (-1)) else (laws_szNodeS.l0v l0 (wrap64 (a1 - (l0.length : Int))) 0)) := by
  refine Lim.succ (laws_szNodeS.f_lim l0 a1) ?_
  simp only [laws_szNodeS.f]
  repeat' first
    | (with_reducible apply laws_szNodeS.l0_lim)
    | (with_reducible exact Lim.const _)
    | (with_reducible refine Lim.ite ?_ ?_)
    | (with_reducible refine Lim.bind ?_ (fun _ => ?_))
    | apply laws_szNodeS.l0_lim
    | exact Lim.const _
    | refine Lim.ite ?_ ?_
    | refine Lim.bind ?_ (fun _ => ?_)

set_option maxHeartbeats 4000000 in
theorem laws_szNode.fv_eq (a0_0 : Int) (a0_1 : Int) (a0_2 : ByteArray) (l0_3 : List (S47)) (a1 : Int) : laws_szNode.fv a0_0 a0_1 a0_2 l0_3 a1 = (if (wrap64 (a1 - (a0_2.size : Int))) < 0 then (some (-1)) else ((laws_szNodeS.fv l0_3 (wrap64 (a1 - (a0_2.size : Int)))).bind fun t104 => (if t104 < 0 then (some (-1)) else (some t104)))) := by
  refine Lim.succ (laws_szNode.f_lim a0_0 a0_1 a0_2 l0_3 a1) ?_
  simp only [laws_szNode.f]
  repeat' first
    | (with_reducible apply laws_szNodeS.f_lim)
    | (with_reducible exact Lim.const _)
    | (with_reducible refine Lim.ite ?_ ?_)
    | (with_reducible refine Lim.bind ?_ (fun _ => ?_))
    | apply laws_szNodeS.f_lim
    | exact Lim.const _
    | refine Lim.ite ?_ ?_
    | refine Lim.bind ?_ (fun _ => ?_)


/-! ### spec_l1Max -/
def spec_l1Max.f (a0 : Int) (a1 : Int) : Option (Int) := if a0 > a1 then (some a0) else (some a1)

/-! ### spec_Deep -/
mutual
def spec_Deep.l0 : Nat → Int → Int → Int → Int → ByteArray → List (S52) → Option (Int)
  | 0, _, _, _, _, _, _ => none
  | k + 1, x3, x4, x106000, x106001, x106002, x106003 => if x4 < (x106003.length : Int) then (if 0 ≤ x4 then ((spec_Deep.f k ((rd_T52 x106003 x4).f0) ((rd_T52 x106003 x4).f1) ((rd_T52 x106003 x4).f2) ((rd_T52 x106003 x4).f3)).bind fun t107 => ((spec_l1Max.f x3 t107).bind fun t108 => (spec_Deep.l0 k t108 (wrap64 (x4 + 1)) x106000 x106001 x106002 x106003))) else (none)) else (some (wrap64 (x3 + 1)))
def spec_Deep.f : Nat → Int → Int → ByteArray → List (S52) → Option (Int)
  | 0, _, _, _, _ => none
  | k + 1, a0_0, a0_1, a0_2, l0_3 => spec_Deep.l0 k 0 0 a0_0 a0_1 a0_2 l0_3
end
theorem spec_Deep.mono_l : ∀ k, (∀ y0 y1 y2 y3, LeO (spec_Deep.f k y0 y1 y2 y3) (spec_Deep.f (k + 1) y0 y1 y2 y3)) ∧ (∀ y0 y1 y2 y3 y4 y5, LeO (spec_Deep.l0 k y0 y1 y2 y3 y4 y5) (spec_Deep.l0 (k + 1) y0 y1 y2 y3 y4 y5))
  | 0 => ⟨fun _ _ _ _ r h => by simp [spec_Deep.f] at h, fun _ _ _ _ _ _ r h => by simp [spec_Deep.l0] at h⟩
  | k + 1 => by
    obtain ⟨ih0, ih1⟩ := spec_Deep.mono_l k
    refine ⟨?_, ?_⟩
    · intro y0 y1 y2 y3
      unfold spec_Deep.f
      repeat' first
      | (with_reducible exact ih0 _ _ _ _)
      | (with_reducible exact ih1 _ _ _ _ _ _)
      | (with_reducible exact LeO.refl _)
      | (with_reducible exact LeO.none _)
      | (with_reducible refine LeO.ite ?_ ?_)
      | (with_reducible refine LeO.bind ?_ (fun _ => ?_))
      | exact ih0 _ _ _ _
      | exact ih1 _ _ _ _ _ _
      | exact LeO.none _
      | refine LeO.ite ?_ ?_
      | refine LeO.bind ?_ (fun _ => ?_)
    · intro y0 y1 y2 y3 y4 y5
      unfold spec_Deep.l0
      repeat' first
      | (with_reducible exact ih0 _ _ _ _)
      | (with_reducible exact ih1 _ _ _ _ _ _)
      | (with_reducible exact LeO.refl _)
      | (with_reducible exact LeO.none _)
      | (with_reducible refine LeO.ite ?_ ?_)
      | (with_reducible refine LeO.bind ?_ (fun _ => ?_))
      | exact ih0 _ _ _ _
      | exact ih1 _ _ _ _ _ _
      | exact LeO.none _
      | refine LeO.ite ?_ ?_
      | refine LeO.bind ?_ (fun _ => ?_)
theorem spec_Deep.mono : ∀ a0 a1 a2 a3 k, LeO (spec_Deep.f k a0 a1 a2 a3) (spec_Deep.f (k + 1) a0 a1 a2 a3) := by
  intro a0 a1 a2 a3 k
  obtain ⟨ih0, ih1⟩ := spec_Deep.mono_l k
  exact ih0 a0 a1 a2 a3
noncomputable def spec_Deep.l0v (x3 : Int) (x4 : Int) (x106000 : Int) (x106001 : Int) (x106002 : ByteArray) (x106003 : List (S52)) : Option (Int) := limOf (fun k => spec_Deep.l0 k x3 x4 x106000 x106001 x106002 x106003)
theorem spec_Deep.l0_lim (x3 : Int) (x4 : Int) (x106000 : Int) (x106001 : Int) (x106002 : ByteArray) (x106003 : List (S52)) : Lim (fun k => spec_Deep.l0 k x3 x4 x106000 x106001 x106002 x106003) (spec_Deep.l0v x3 x4 x106000 x106001 x106002 x106003) := Lim.of (fun k => (spec_Deep.mono_l k).2 x3 x4 x106000 x106001 x106002 x106003)
noncomputable def spec_Deep.fv (a0_0 : Int) (a0_1 : Int) (a0_2 : ByteArray) (l0_3 : List (S52)) : Option (Int) := limOf (fun k => spec_Deep.f k a0_0 a0_1 a0_2 l0_3)
theorem spec_Deep.f_lim (a0_0 : Int) (a0_1 : Int) (a0_2 : ByteArray) (l0_3 : List (S52)) : Lim (fun k => spec_Deep.f k a0_0 a0_1 a0_2 l0_3) (spec_Deep.fv a0_0 a0_1 a0_2 l0_3) := Lim.of (fun k => (spec_Deep.mono_l k).1 a0_0 a0_1 a0_2 l0_3)
set_option maxHeartbeats 4000000 in
theorem spec_Deep.l0v_eq (x3 : Int) (x4 : Int) (x106000 : Int) (x106001 : Int) (x106002 : ByteArray) (x106003 : List (S52)) : spec_Deep.l0v x3 x4 x106000 x106001 x106002 x106003 = (if x4 < (x106003.length : Int) then (if 0 ≤ x4 then ((spec_Deep.fv ((rd_T52 x106003 x4).f0) ((rd_T52 x106003 x4).f1) ((rd_T52 x106003 x4).f2) ((rd_T52 x106003 x4).f3)).bind fun t107 => ((spec_l1Max.f x3 t107).bind fun t108 => (spec_Deep.l0v t108 (wrap64 (x4 + 1)) x106000 x106001 x106002 x106003))) else (none)) else (some (wrap64 (x3 + 1)))) := by
  refine Lim.succ (spec_Deep.l0_lim x3 x4 x106000 x106001 x106002 x106003) ?_
  simp only [spec_Deep.l0]
  repeat' first
    | (with_reducible apply spec_Deep.f_lim)
    | (with_reducible apply spec_Deep.l0_lim)
    | (with_reducible exact Lim.const _)
    | (with_reducible refine Lim.ite ?_ ?_)
    | (with_reducible refine Lim.bind ?_ (fun _ => ?_))
    | apply spec_Deep.f_lim
    | apply spec_Deep.l0_lim
    | exact Lim.const _
    | refine Lim.ite ?_ ?_
    | refine Lim.bind ?_ (fun _ => ?_)
set_option maxHeartbeats 4000000 in
theorem spec_Deep.fv_eq (a0_0 : Int) (a0_1 : Int) (a0_2 : ByteArray) (l0_3 : List (S52)) : spec_Deep.fv a0_0 a0_1 a0_2 l0_3 = (spec_Deep.l0v 0 0 a0_0 a0_1 a0_2 l0_3) := by
  refine Lim.succ (spec_Deep.f_lim a0_0 a0_1 a0_2 l0_3) ?_
  simp only [spec_Deep.f]
  repeat' first
    | (with_reducible apply spec_Deep.l0_lim)
    | (with_reducible exact Lim.const _)
    | (with_reducible refine Lim.ite ?_ ?_)
    | (with_reducible refine Lim.bind ?_ (fun _ => ?_))
    | apply spec_Deep.l0_lim
    | exact Lim.const _
    | refine Lim.ite ?_ ?_
    | refine Lim.bind ?_ (fun _ => ?_)

/-! ### laws_toNode -/
mutual
def laws_toNodeS.l0 : Nat → List (S47) → List (S52) → Int → Option ((List (S52)))
  | 0, _, _, _ => none
  | k + 1, x0, x3, x4 => if x4 < (x0.length : Int) then (if 0 ≤ x4 then ((laws_toNode.f k ((rd_T47 x0 x4).f0) ((rd_T47 x0 x4).f1) ((rd_T47 x0 x4).f2) ((rd_T47 x0 x4).f3)).bind fun bt113 => (if x4 < (x3.length : Int) then (laws_toNodeS.l0 k x0 (x3.set (x4 : Int).toNat (⟨bt113.1, bt113.2.1, bt113.2.2.1, bt113.2.2.2⟩ : S52)) (wrap64 (x4 + 1))) else (none))) else (none)) else (some x3)
def laws_toNodeS.f : Nat → List (S47) → Option ((List (S52)))
  | 0, _ => none
  | k + 1, l0 => if 0 ≤ (l0.length : Int) then (if ((l0.length : Int) : Int).toNat ≤ 5026338869833 then (laws_toNodeS.l0 k l0 (List.replicate ((l0.length : Int) : Int).toNat z52) 0) else (none)) else (none)
def laws_toNode.f : Nat → Int → Int → ByteArray → List (S47) → Option (Int × Int × ByteArray × (List (S52)))
  | 0, _, _, _, _ => none
  | k + 1, a0_0, a0_1, a0_2, l0_3 => (laws_toNodeS.f k l0_3).bind fun t123 => (some (a0_0, a0_1, a0_2, t123))
end
set_option maxHeartbeats 8000000 in
theorem laws_toNodeS.mono_g : ∀ k, (∀ y0, LeO (laws_toNodeS.f k y0) (laws_toNodeS.f (k + 1) y0)) ∧ (∀ y0 y1 y2, LeO (laws_toNodeS.l0 k y0 y1 y2) (laws_toNodeS.l0 (k + 1) y0 y1 y2)) ∧ (∀ y0 y1 y2 y3, LeO (laws_toNode.f k y0 y1 y2 y3) (laws_toNode.f (k + 1) y0 y1 y2 y3))
  | 0 => ⟨fun _ r h => by simp [laws_toNodeS.f] at h, fun _ _ _ r h => by simp [laws_toNodeS.l0] at h, fun _ _ _ _ r h => by simp [laws_toNode.f] at h⟩
  | k + 1 => by
    obtain ⟨ih0, ih1, ih2⟩ := laws_toNodeS.mono_g k
    refine ⟨?_, ?_, ?_⟩
    · intro y0
      unfold laws_toNodeS.f
      repeat' first
      | (with_reducible exact ih0 _)
      | (with_reducible exact ih1 _ _ _)
      | (with_reducible exact ih2 _ _ _ _)
      | (with_reducible exact LeO.refl _)
      | (with_reducible exact LeO.none _)
      | (with_reducible refine LeO.ite ?_ ?_)
      | (with_reducible refine LeO.bind ?_ (fun _ => ?_))
      | exact ih0 _
      | exact ih1 _ _ _
      | exact ih2 _ _ _ _
      | exact LeO.none _
      | refine LeO.ite ?_ ?_
      | refine LeO.bind ?_ (fun _ => ?_)
    · intro y0 y1 y2
      unfold laws_toNodeS.l0
      repeat' first
      | (with_reducible exact ih0 _)
      | (with_reducible exact ih1 _ _ _)
      | (with_reducible exact ih2 _ _ _ _)
      | (with_reducible exact LeO.refl _)
      | (with_reducible exact LeO.none _)
      | (with_reducible refine LeO.ite ?_ ?_)
      | (with_reducible refine LeO.bind ?_ (fun _ => ?_))
      | exact ih0 _
      | exact ih1 _ _ _
      | exact ih2 _ _ _ _
      | exact LeO.none _
      | refine LeO.ite ?_ ?_
      | refine LeO.bind ?_ (fun _ => ?_)
    · intro y0 y1 y2 y3
      unfold laws_toNode.f
      repeat' first
      | (with_reducible exact ih0 _)
      | (with_reducible exact ih1 _ _ _)
      | (with_reducible exact ih2 _ _ _ _)
      | (with_reducible exact LeO.refl _)
      | (with_reducible exact LeO.none _)
      | (with_reducible refine LeO.ite ?_ ?_)
      | (with_reducible refine LeO.bind ?_ (fun _ => ?_))
      | exact ih0 _
      | exact ih1 _ _ _
      | exact ih2 _ _ _ _
      | exact LeO.none _
      | refine LeO.ite ?_ ?_
      | refine LeO.bind ?_ (fun _ => ?_)
theorem laws_toNodeS.mono : ∀ a0 k, LeO (laws_toNodeS.f k a0) (laws_toNodeS.f (k + 1) a0) := by
  intro a0 k
  obtain ⟨ih0, ih1, ih2⟩ := laws_toNodeS.mono_g k
  exact ih0 a0
theorem laws_toNode.mono : ∀ a0 a1 a2 a3 k, LeO (laws_toNode.f k a0 a1 a2 a3) (laws_toNode.f (k + 1) a0 a1 a2 a3) := by
  intro a0 a1 a2 a3 k
  obtain ⟨ih0, ih1, ih2⟩ := laws_toNodeS.mono_g k
  exact ih2 a0 a1 a2 a3
noncomputable def laws_toNodeS.l0v (x0 : List (S47)) (x3 : List (S52)) (x4 : Int) : Option ((List (S52))) := limOf (fun k => laws_toNodeS.l0 k x0 x3 x4)
theorem laws_toNodeS.l0_lim (x0 : List (S47)) (x3 : List (S52)) (x4 : Int) : Lim (fun k => laws_toNodeS.l0 k x0 x3 x4) (laws_toNodeS.l0v x0 x3 x4) := Lim.of (fun k => (laws_toNodeS.mono_g k).2.1 x0 x3 x4)
noncomputable def laws_toNodeS.fv (l0 : List (S47)) : Option ((List (S52))) := limOf (fun k => laws_toNodeS.f k l0)
theorem laws_toNodeS.f_lim (l0 : List (S47)) : Lim (fun k => laws_toNodeS.f k l0) (laws_toNodeS.fv l0) := Lim.of (fun k => (laws_toNodeS.mono_g k).1 l0)
noncomputable def laws_toNode.fv (a0_0 : Int) (a0_1 : Int) (a0_2 : ByteArray) (l0_3 : List (S47)) : Option (Int × Int × ByteArray × (List (S52))) := limOf (fun k => laws_toNode.f k a0_0 a0_1 a0_2 l0_3)
theorem laws_toNode.f_lim (a0_0 : Int) (a0_1 : Int) (a0_2 : ByteArray) (l0_3 : List (S47)) : Lim (fun k => laws_toNode.f k a0_0 a0_1 a0_2 l0_3) (laws_toNode.fv a0_0 a0_1 a0_2 l0_3) := Lim.of (fun k => (laws_toNodeS.mono_g k).2.2 a0_0 a0_1 a0_2 l0_3)
set_option maxHeartbeats 4000000 in
theorem laws_toNodeS.l0v_eq (x0 : List (S47)) (x3 : List (S52)) (x4 : Int) : laws_toNodeS.l0v x0 x3 x4 = (if x4 < (x0.length : Int) then (if 0 ≤ x4 then ((laws_toNode.fv ((rd_T47 x0 x4).f0) ((rd_T47 x0 x4).f1) ((rd_T47 x0 x4).f2) ((rd_T47 x0 x4).f3)).bind fun bt113 => (if x4 < (x3.length : Int) then (laws_toNodeS.l0v x0 (x3.set (x4 : Int).toNat (⟨bt113.1, bt113.2.1, bt113.2.2.1, bt113.2.2.2⟩ : S52)) (wrap64 (x4 + 1))) else (none))) else (none)) else (some x3)) := by
  refine Lim.succ (laws_toNodeS.l0_lim x0 x3 x4) ?_
  simp only [laws_toNodeS.l0]
  repeat' first
    | (with_reducible apply laws_toNode.f_lim)
    | (with_reducible apply laws_toNodeS.l0_lim)
    | (with_reducible exact Lim.const _)
    | (with_reducible refine Lim.ite ?_ ?_)
    | (with_reducible refine Lim.bind ?_ (fun _ => ?_))
    | apply laws_toNode.f_lim
    | apply laws_toNodeS.l0_lim
    | exact Lim.const _
    | refine Lim.ite ?_ ?_
    | refine Lim.bind ?_ (fun _ => ?_)
set_option maxHeartbeats 4000000 in
theorem laws_toNodeS.fv_eq (l0 : List (S47)) : laws_toNodeS.fv l0 = (if 0 ≤ (l0.length : Int) then (if ((l0.length : Int) : Int).toNat ≤ 5026338869833 then (laws_toNodeS.l0v l0 (List.replicate ((l0.length : Int) : Int).toNat z52) 0) else (none)) else (none)) := by
  refine Lim.succ (laws_toNodeS.f_lim l0) ?_
  simp only [laws_toNodeS.f]
  repeat' first
    | (with_reducible apply laws_toNodeS.l0_lim)
    | (with_reducible exact Lim.const _)
    | (with_reducible refine Lim.ite ?_ ?_)
    | (with_reducible refine Lim.bind ?_ (fun _ => ?_))
    | apply laws_toNodeS.l0_lim
    | exact Lim.const _
    | refine Lim.ite ?_ ?_
    | refine Lim.bind ?_ (fun _ => ?_)

set_option maxHeartbeats 4000000 in
theorem laws_toNode.fv_eq (a0_0 : Int) (a0_1 : Int) (a0_2 : ByteArray) (l0_3 : List (S47)) : laws_toNode.fv a0_0 a0_1 a0_2 l0_3 = ((laws_toNodeS.fv l0_3).bind fun t123 => (some (a0_0, a0_1, a0_2, t123))) := by
  refine Lim.succ (laws_toNode.f_lim a0_0 a0_1 a0_2 l0_3) ?_
  simp only [laws_toNode.f]
  repeat' first
    | (with_reducible apply laws_toNodeS.f_lim)
    | (with_reducible exact Lim.const _)
    | (with_reducible refine Lim.ite ?_ ?_)
    | (with_reducible refine Lim.bind ?_ (fun _ => ?_))
    | apply laws_toNodeS.f_lim
    | exact Lim.const _
    | refine Lim.ite ?_ ?_
    | refine Lim.bind ?_ (fun _ => ?_)


/-! ### impl_Deep -/
mutual
def impl_Deep.l0 : Nat → Int → List (S52) → Int → Int → Option (Int)
  | 0, _, _, _, _ => none
  | k + 1, x3, x7, x8, x9 => if x9 < x8 then (if 0 ≤ x9 then (if x9 < (x7.length : Int) then ((impl_Deep.f k ((rd_T52 x7 x9).f0) ((rd_T52 x7 x9).f1) ((rd_T52 x7 x9).f2) ((rd_T52 x7 x9).f3)).bind fun t129 => (impl_Deep.l0 k (mx x3 t129) x7 x8 (wrap64 (x9 + 1)))) else (none)) else (none)) else (some (wrap64 (x3 + 1)))
def impl_Deep.f : Nat → Int → Int → ByteArray → List (S52) → Option (Int)
  | 0, _, _, _, _ => none
  | k + 1, a0_0, a0_1, a0_2, l0_3 => impl_Deep.l0 k 0 l0_3 (l0_3.length : Int) 0
end
theorem impl_Deep.mono_l : ∀ k, (∀ y0 y1 y2 y3, LeO (impl_Deep.f k y0 y1 y2 y3) (impl_Deep.f (k + 1) y0 y1 y2 y3)) ∧ (∀ y0 y1 y2 y3, LeO (impl_Deep.l0 k y0 y1 y2 y3) (impl_Deep.l0 (k + 1) y0 y1 y2 y3))
  | 0 => ⟨fun _ _ _ _ r h => by simp [impl_Deep.f] at h, fun _ _ _ _ r h => by simp [impl_Deep.l0] at h⟩
  | k + 1 => by
    obtain ⟨ih0, ih1⟩ := impl_Deep.mono_l k
    refine ⟨?_, ?_⟩
    · intro y0 y1 y2 y3
      unfold impl_Deep.f
      repeat' first
      | (with_reducible exact ih0 _ _ _ _)
      | (with_reducible exact ih1 _ _ _ _)
      | (with_reducible exact LeO.refl _)
      | (with_reducible exact LeO.none _)
      | (with_reducible refine LeO.ite ?_ ?_)
      | (with_reducible refine LeO.bind ?_ (fun _ => ?_))
      | exact ih0 _ _ _ _
      | exact ih1 _ _ _ _
      | exact LeO.none _
      | refine LeO.ite ?_ ?_
      | refine LeO.bind ?_ (fun _ => ?_)
    · intro y0 y1 y2 y3
      unfold impl_Deep.l0
      repeat' first
      | (with_reducible exact ih0 _ _ _ _)
      | (with_reducible exact ih1 _ _ _ _)
      | (with_reducible exact LeO.refl _)
      | (with_reducible exact LeO.none _)
      | (with_reducible refine LeO.ite ?_ ?_)
      | (with_reducible refine LeO.bind ?_ (fun _ => ?_))
      | exact ih0 _ _ _ _
      | exact ih1 _ _ _ _
      | exact LeO.none _
      | refine LeO.ite ?_ ?_
      | refine LeO.bind ?_ (fun _ => ?_)
theorem impl_Deep.mono : ∀ a0 a1 a2 a3 k, LeO (impl_Deep.f k a0 a1 a2 a3) (impl_Deep.f (k + 1) a0 a1 a2 a3) := by
  intro a0 a1 a2 a3 k
  obtain ⟨ih0, ih1⟩ := impl_Deep.mono_l k
  exact ih0 a0 a1 a2 a3
noncomputable def impl_Deep.l0v (x3 : Int) (x7 : List (S52)) (x8 : Int) (x9 : Int) : Option (Int) := limOf (fun k => impl_Deep.l0 k x3 x7 x8 x9)
theorem impl_Deep.l0_lim (x3 : Int) (x7 : List (S52)) (x8 : Int) (x9 : Int) : Lim (fun k => impl_Deep.l0 k x3 x7 x8 x9) (impl_Deep.l0v x3 x7 x8 x9) := Lim.of (fun k => (impl_Deep.mono_l k).2 x3 x7 x8 x9)
noncomputable def impl_Deep.fv (a0_0 : Int) (a0_1 : Int) (a0_2 : ByteArray) (l0_3 : List (S52)) : Option (Int) := limOf (fun k => impl_Deep.f k a0_0 a0_1 a0_2 l0_3)
theorem impl_Deep.f_lim (a0_0 : Int) (a0_1 : Int) (a0_2 : ByteArray) (l0_3 : List (S52)) : Lim (fun k => impl_Deep.f k a0_0 a0_1 a0_2 l0_3) (impl_Deep.fv a0_0 a0_1 a0_2 l0_3) := Lim.of (fun k => (impl_Deep.mono_l k).1 a0_0 a0_1 a0_2 l0_3)
set_option maxHeartbeats 4000000 in
theorem impl_Deep.l0v_eq (x3 : Int) (x7 : List (S52)) (x8 : Int) (x9 : Int) : impl_Deep.l0v x3 x7 x8 x9 = (if x9 < x8 then (if 0 ≤ x9 then (if x9 < (x7.length : Int) then ((impl_Deep.fv ((rd_T52 x7 x9).f0) ((rd_T52 x7 x9).f1) ((rd_T52 x7 x9).f2) ((rd_T52 x7 x9).f3)).bind fun t129 => (impl_Deep.l0v (mx x3 t129) x7 x8 (wrap64 (x9 + 1)))) else (none)) else (none)) else (some (wrap64 (x3 + 1)))) := by
  refine Lim.succ (impl_Deep.l0_lim x3 x7 x8 x9) ?_
  simp only [impl_Deep.l0]
  repeat' first
    | (with_reducible apply impl_Deep.f_lim)
    | (with_reducible apply impl_Deep.l0_lim)
    | (with_reducible exact Lim.const _)
    | (with_reducible refine Lim.ite ?_ ?_)
    | (with_reducible refine Lim.bind ?_ (fun _ => ?_))
    | apply impl_Deep.f_lim
    | apply impl_Deep.l0_lim
    | exact Lim.const _
    | refine Lim.ite ?_ ?_
    | refine Lim.bind ?_ (fun _ => ?_)
set_option maxHeartbeats 4000000 in
theorem impl_Deep.fv_eq (a0_0 : Int) (a0_1 : Int) (a0_2 : ByteArray) (l0_3 : List (S52)) : impl_Deep.fv a0_0 a0_1 a0_2 l0_3 = (impl_Deep.l0v 0 l0_3 (l0_3.length : Int) 0) := by
  refine Lim.succ (impl_Deep.f_lim a0_0 a0_1 a0_2 l0_3) ?_
  simp only [impl_Deep.f]
  repeat' first
    | (with_reducible apply impl_Deep.l0_lim)
    | (with_reducible exact Lim.const _)
    | (with_reducible refine Lim.ite ?_ ?_)
    | (with_reducible refine Lim.bind ?_ (fun _ => ?_))
    | apply impl_Deep.l0_lim
    | exact Lim.const _
    | refine Lim.ite ?_ ?_
    | refine Lim.bind ?_ (fun _ => ?_)

/-! ### laws_eqNode -/
mutual
def laws_eqNodeS.l0 : Nat → List (S52) → List (S52) → Int → Option (Bool)
  | 0, _, _, _ => none
  | k + 1, x0, x1, x5 => if x5 < (x0.length : Int) then (if 0 ≤ x5 then (if x5 < (x1.length : Int) then ((laws_eqNode.f k ((rd_T52 x0 x5).f0) ((rd_T52 x0 x5).f1) ((rd_T52 x0 x5).f2) ((rd_T52 x0 x5).f3) ((rd_T52 x1 x5).f0) ((rd_T52 x1 x5).f1) ((rd_T52 x1 x5).f2) ((rd_T52 x1 x5).f3)).bind fun t132 => (if t132 = true then (laws_eqNodeS.l0 k x0 x1 (wrap64 (x5 + 1))) else (some false))) else (none)) else (none)) else (some true)
def laws_eqNodeS.f : Nat → List (S52) → List (S52) → Option (Bool)
  | 0, _, _ => none
  | k + 1, l0, l1 => if (l0.length : Int) = (l1.length : Int) then (laws_eqNodeS.l0 k l0 l1 0) else (some false)
def laws_eqNode.f : Nat → Int → Int → ByteArray → List (S52) → Int → Int → ByteArray → List (S52) → Option (Bool)
  | 0, _, _, _, _, _, _, _, _ => none
  | k + 1, a0_0, a0_1, a0_2, l0_3, a1_0, a1_1, a1_2, l1_3 => if a0_0 = a1_0 then (if a0_1 = a1_1 then (if a0_2.toList = a1_2.toList then ((laws_eqNodeS.f k l0_3 l1_3).bind fun t135 => (if t135 = true then (some true) else (some false))) else (some false)) else (some false)) else (some false)
end
set_option maxHeartbeats 8000000 in
theorem laws_eqNodeS.mono_g : ∀ k, (∀ y0 y1, LeO (laws_eqNodeS.f k y0 y1) (laws_eqNodeS.f (k + 1) y0 y1)) ∧ (∀ y0 y1 y2, LeO (laws_eqNodeS.l0 k y0 y1 y2) (laws_eqNodeS.l0 (k + 1) y0 y1 y2)) ∧ (∀ y0 y1 y2 y3 y4 y5 y6 y7, LeO (laws_eqNode.f k y0 y1 y2 y3 y4 y5 y6 y7) (laws_eqNode.f (k + 1) y0 y1 y2 y3 y4 y5 y6 y7))
  | 0 => ⟨fun _ _ r h => by simp [laws_eqNodeS.f] at h, fun _ _ _ r h => by simp [laws_eqNodeS.l0] at h, fun _ _ _ _ _ _ _ _ r h => by simp [laws_eqNode.f] at h⟩
  | k + 1 => by
    obtain ⟨ih0, ih1, ih2⟩ := laws_eqNodeS.mono_g k
    refine ⟨?_, ?_, ?_⟩
    · intro y0 y1
      unfold laws_eqNodeS.f
      repeat' first
      | (with_reducible exact ih0 _ _)
      | (with_reducible exact ih1 _ _ _)
      | (with_reducible exact ih2 _ _ _ _ _ _ _ _)
      | (with_reducible exact LeO.refl _)
      | (with_reducible exact LeO.none _)
      | (with_reducible refine LeO.ite ?_ ?_)
      | (with_reducible refine LeO.bind ?_ (fun _ => ?_))
      | exact ih0 _ _
      | exact ih1 _ _ _
      | exact ih2 _ _ _ _ _ _ _ _
      | exact LeO.none _
      | refine LeO.ite ?_ ?_
      | refine LeO.bind ?_ (fun _ => ?_)
    · intro y0 y1 y2
      unfold laws_eqNodeS.l0
      repeat' first
      | (with_reducible exact ih0 _ _)
      | (with_reducible exact ih1 _ _ _)
      | (with_reducible exact ih2 _ _ _ _ _ _ _ _)
      | (with_reducible exact LeO.refl _)
      | (with_reducible exact LeO.none _)
      | (with_reducible refine LeO.ite ?_ ?_)
      | (with_reducible refine LeO.bind ?_ (fun _ => ?_))
      | exact ih0 _ _
      | exact ih1 _ _ _
      | exact ih2 _ _ _ _ _ _ _ _
      | exact LeO.none _
      | refine LeO.ite ?_ ?_
      | refine LeO.bind ?_ (fun _ => ?_)
    · intro y0 y1 y2 y3 y4 y5 y6 y7
      unfold laws_eqNode.f
      repeat' first
      | (with_reducible exact ih0 _ _)
      | (with_reducible exact ih1 _ _ _)
      | (with_reducible exact ih2 _ _ _ _ _ _ _ _)
      | (with_reducible exact LeO.refl _)
      | (with_reducible exact LeO.none _)
      | (with_reducible refine LeO.ite ?_ ?_)
      | (with_reducible refine LeO.bind ?_ (fun _ => ?_))
      | exact ih0 _ _
      | exact ih1 _ _ _
      | exact ih2 _ _ _ _ _ _ _ _
      | exact LeO.none _
      | refine LeO.ite ?_ ?_
      | refine LeO.bind ?_ (fun _ => ?_)
theorem laws_eqNodeS.mono : ∀ a0 a1 k, LeO (laws_eqNodeS.f k a0 a1) (laws_eqNodeS.f (k + 1) a0 a1) := by
  intro a0 a1 k
  obtain ⟨ih0, ih1, ih2⟩ := laws_eqNodeS.mono_g k
  exact ih0 a0 a1
theorem laws_eqNode.mono : ∀ a0 a1 a2 a3 a4 a5 a6 a7 k, LeO (laws_eqNode.f k a0 a1 a2 a3 a4 a5 a6 a7) (laws_eqNode.f (k + 1) a0 a1 a2 a3 a4 a5 a6 a7) := by
  intro a0 a1 a2 a3 a4 a5 a6 a7 k
  obtain ⟨ih0, ih1, ih2⟩ := laws_eqNodeS.mono_g k
  exact ih2 a0 a1 a2 a3 a4 a5 a6 a7
noncomputable def laws_eqNodeS.l0v (x0 : List (S52)) (x1 : List (S52)) (x5 : Int) : Option (Bool) := limOf (fun k => laws_eqNodeS.l0 k x0 x1 x5)
theorem laws_eqNodeS.l0_lim (x0 : List (S52)) (x1 : List (S52)) (x5 : Int) : Lim (fun k => laws_eqNodeS.l0 k x0 x1 x5) (laws_eqNodeS.l0v x0 x1 x5) := Lim.of (fun k => (laws_eqNodeS.mono_g k).2.1 x0 x1 x5)
noncomputable def laws_eqNodeS.fv (l0 : List (S52)) (l1 : List (S52)) : Option (Bool) := limOf (fun k => laws_eqNodeS.f k l0 l1)
theorem laws_eqNodeS.f_lim (l0 : List (S52)) (l1 : List (S52)) : Lim (fun k => laws_eqNodeS.f k l0 l1) (laws_eqNodeS.fv l0 l1) := Lim.of (fun k => (laws_eqNodeS.mono_g k).1 l0 l1)
noncomputable def laws_eqNode.fv (a0_0 : Int) (a0_1 : Int) (a0_2 : ByteArray) (l0_3 : List (S52)) (a1_0 : Int) (a1_1 : Int) (a1_2 : ByteArray) (l1_3 : List (S52)) : Option (Bool) := limOf (fun k => laws_eqNode.f k a0_0 a0_1 a0_2 l0_3 a1_0 a1_1 a1_2 l1_3)
theorem laws_eqNode.f_lim (a0_0 : Int) (a0_1 : Int) (a0_2 : ByteArray) (l0_3 : List (S52)) (a1_0 : Int) (a1_1 : Int) (a1_2 : ByteArray) (l1_3 : List (S52)) : Lim (fun k => laws_eqNode.f k a0_0 a0_1 a0_2 l0_3 a1_0 a1_1 a1_2 l1_3) (laws_eqNode.fv a0_0 a0_1 a0_2 l0_3 a1_0 a1_1 a1_2 l1_3) := Lim.of (fun k => (laws_eqNodeS.mono_g k).2.2 a0_0 a0_1 a0_2 l0_3 a1_0 a1_1 a1_2 l1_3)
set_option maxHeartbeats 4000000 in
theorem laws_eqNodeS.l0v_eq (x0 : List (S52)) (x1 : List (S52)) (x5 : Int) : laws_eqNodeS.l0v x0 x1 x5 = (if x5 < (x0.length : Int) then (if 0 ≤ x5 then (if x5 < (x1.length : Int) then ((laws_eqNode.fv ((rd_T52 x0 x5).f0) ((rd_T52 x0 x5).f1) ((rd_T52 x0 x5).f2) ((rd_T52 x0 x5).f3) ((rd_T52 x1 x5).f0) ((rd_T52 x1 x5).f1) ((rd_T52 x1 x5).f2) ((rd_T52 x1 x5).f3)).bind fun t132 => (if t132 = true then (laws_eqNodeS.l0v x0 x1 (wrap64 (x5 + 1))) else (some false))) else (none)) else (none)) else (some true)) := by
  refine Lim.succ (laws_eqNodeS.l0_lim x0 x1 x5) ?_
  simp only [laws_eqNodeS.l0]
  repeat' first
    | (with_reducible apply laws_eqNode.f_lim)
    | (with_reducible apply laws_eqNodeS.l0_lim)
    | (with_reducible exact Lim.const _)
    | (with_reducible refine Lim.ite ?_ ?_)
    | (with_reducible refine Lim.bind ?_ (fun _ => ?_))
    | apply laws_eqNode.f_lim
    | apply laws_eqNodeS.l0_lim
    | exact Lim.const _
    | refine Lim.ite ?_ ?_
    | refine Lim.bind ?_ (fun _ => ?_)
set_option maxHeartbeats 4000000 in
theorem laws_eqNodeS.fv_eq (l0 : List (S52)) (l1 : List (S52)) : laws_eqNodeS.fv l0 l1 = (if (l0.length : Int) = (l1.length : Int) then (laws_eqNodeS.l0v l0 l1 0) else (some false)) := by
  refine Lim.succ (laws_eqNodeS.f_lim l0 l1) ?_
  simp only [laws_eqNodeS.f]
  repeat' first
    | (with_reducible apply laws_eqNodeS.l0_lim)
    | (with_reducible exact Lim.const _)
    | (with_reducible refine Lim.ite ?_ ?_)
    | (with_reducible refine Lim.bind ?_ (fun _ => ?_))
    | apply laws_eqNodeS.l0_lim
    | exact Lim.const _
    | refine Lim.ite ?_ ?_
    | refine Lim.bind ?_ (fun _ => ?_)

set_option maxHeartbeats 4000000 in
theorem laws_eqNode.fv_eq (a0_0 : Int) (a0_1 : Int) (a0_2 : ByteArray) (l0_3 : List (S52)) (a1_0 : Int) (a1_1 : Int) (a1_2 : ByteArray) (l1_3 : List (S52)) : laws_eqNode.fv a0_0 a0_1 a0_2 l0_3 a1_0 a1_1 a1_2 l1_3 = (if a0_0 = a1_0 then (if a0_1 = a1_1 then (if a0_2.toList = a1_2.toList then ((laws_eqNodeS.fv l0_3 l1_3).bind fun t135 => (if t135 = true then (some true) else (some false))) else (some false)) else (some false)) else (some false)) := by
  refine Lim.succ (laws_eqNode.f_lim a0_0 a0_1 a0_2 l0_3 a1_0 a1_1 a1_2 l1_3) ?_
  simp only [laws_eqNode.f]
  repeat' first
    | (with_reducible apply laws_eqNodeS.f_lim)
    | (with_reducible exact Lim.const _)
    | (with_reducible refine Lim.ite ?_ ?_)
    | (with_reducible refine Lim.bind ?_ (fun _ => ?_))
    | apply laws_eqNodeS.f_lim
    | exact Lim.const _
    | refine Lim.ite ?_ ?_
    | refine Lim.bind ?_ (fun _ => ?_)


/-! ### laws_FnExactDeep -/
def laws_FnExactDeep.f (k : Nat) (a0_0 : Int) (a0_1 : Int) (a0_2 : ByteArray) (l0_3 : List (S47)) : Option (Bool) := (laws_szNode.f k a0_0 a0_1 a0_2 l0_3 1048576).bind fun t137 => (if t137 < 0 then (some true) else ((laws_toNode.f k a0_0 a0_1 a0_2 l0_3).bind fun bt138 => ((spec_Deep.f k bt138.1 bt138.2.1 bt138.2.2.1 bt138.2.2.2).bind fun t144 => ((laws_toNode.f k a0_0 a0_1 a0_2 l0_3).bind fun bt145 => ((impl_Deep.f k bt145.1 bt145.2.1 bt145.2.2.1 bt145.2.2.2).bind fun t152 => (if t152 = t144 then ((laws_toNode.f k a0_0 a0_1 a0_2 l0_3).bind fun bt153 => ((laws_eqNode.f k bt145.1 bt145.2.1 bt145.2.2.1 bt145.2.2.2 bt153.1 bt153.2.1 bt153.2.2.1 bt153.2.2.2).bind fun t159 => (if t159 = true then (some true) else (some false)))) else (some false)))))))
theorem laws_FnExactDeep.mono : ∀ a0 a1 a2 a3 k, LeO (laws_FnExactDeep.f k a0 a1 a2 a3) (laws_FnExactDeep.f (k + 1) a0 a1 a2 a3) := by
  intro a0 a1 a2 a3 k
  unfold laws_FnExactDeep.f
  repeat' first
      | (with_reducible exact impl_Deep.mono _ _ _ _ _)
      | (with_reducible exact laws_eqNode.mono _ _ _ _ _ _ _ _ _)
      | (with_reducible exact laws_szNode.mono _ _ _ _ _ _)
      | (with_reducible exact laws_toNode.mono _ _ _ _ _)
      | (with_reducible exact spec_Deep.mono _ _ _ _ _)
      | (with_reducible exact LeO.refl _)
      | (with_reducible exact LeO.none _)
      | (with_reducible refine LeO.ite ?_ ?_)
      | (with_reducible refine LeO.bind ?_ (fun _ => ?_))
      | exact impl_Deep.mono _ _ _ _ _
      | exact laws_eqNode.mono _ _ _ _ _ _ _ _ _
      | exact laws_szNode.mono _ _ _ _ _ _
      | exact laws_toNode.mono _ _ _ _ _
      | exact spec_Deep.mono _ _ _ _ _
      | exact LeO.none _
      | refine LeO.ite ?_ ?_
      | refine LeO.bind ?_ (fun _ => ?_)
noncomputable def laws_FnExactDeep.fv (a0_0 : Int) (a0_1 : Int) (a0_2 : ByteArray) (l0_3 : List (S47)) : Option (Bool) := limOf (fun k => laws_FnExactDeep.f k a0_0 a0_1 a0_2 l0_3)
theorem laws_FnExactDeep.f_lim (a0_0 : Int) (a0_1 : Int) (a0_2 : ByteArray) (l0_3 : List (S47)) : Lim (fun k => laws_FnExactDeep.f k a0_0 a0_1 a0_2 l0_3) (laws_FnExactDeep.fv a0_0 a0_1 a0_2 l0_3) := Lim.of (fun k => laws_FnExactDeep.mono a0_0 a0_1 a0_2 l0_3 k)
set_option maxHeartbeats 4000000 in
theorem laws_FnExactDeep.fv_eq (a0_0 : Int) (a0_1 : Int) (a0_2 : ByteArray) (l0_3 : List (S47)) : laws_FnExactDeep.fv a0_0 a0_1 a0_2 l0_3 = ((laws_szNode.fv a0_0 a0_1 a0_2 l0_3 1048576).bind fun t137 => (if t137 < 0 then (some true) else ((laws_toNode.fv a0_0 a0_1 a0_2 l0_3).bind fun bt138 => ((spec_Deep.fv bt138.1 bt138.2.1 bt138.2.2.1 bt138.2.2.2).bind fun t144 => ((laws_toNode.fv a0_0 a0_1 a0_2 l0_3).bind fun bt145 => ((impl_Deep.fv bt145.1 bt145.2.1 bt145.2.2.1 bt145.2.2.2).bind fun t152 => (if t152 = t144 then ((laws_toNode.fv a0_0 a0_1 a0_2 l0_3).bind fun bt153 => ((laws_eqNode.fv bt145.1 bt145.2.1 bt145.2.2.1 bt145.2.2.2 bt153.1 bt153.2.1 bt153.2.2.1 bt153.2.2.2).bind fun t159 => (if t159 = true then (some true) else (some false)))) else (some false)))))))) := by
  refine Lim.eq (laws_FnExactDeep.f_lim a0_0 a0_1 a0_2 l0_3) ?_
  simp only [laws_FnExactDeep.f]
  repeat' first
    | (with_reducible apply impl_Deep.f_lim)
    | (with_reducible apply laws_eqNode.f_lim)
    | (with_reducible apply laws_szNode.f_lim)
    | (with_reducible apply laws_toNode.f_lim)
    | (with_reducible apply spec_Deep.f_lim)
    | (with_reducible exact Lim.const _)
    | (with_reducible refine Lim.ite ?_ ?_)
    | (with_reducible refine Lim.bind ?_ (fun _ => ?_))
    | apply impl_Deep.f_lim
    | apply laws_eqNode.f_lim
    | apply laws_szNode.f_lim
    | apply laws_toNode.f_lim
    | apply spec_Deep.f_lim
    | exact Lim.const _
    | refine Lim.ite ?_ ?_
    | refine Lim.bind ?_ (fun _ => ?_)

end Go.Proofs.Ytakicaelepgmcaa.QFnExactDeep
