/- Written by wip/pr2, a program of this session. -/
import Derived.Test.YthigelphmjepaaaQFnExactTidyx0
import Derived.Test.YthigelphmjepaaaWFnExactTidy
namespace Go.Proofs.Ythigelphmjepaaa.QFnExactTidy
open Go.RowKit Go.Proofs.YthigelphmjepaaaW.PrintWords Go.Proofs.YthigelphmjepaaaW.PrintLast Go.Proofs.YthigelphmjepaaaW.PrintMore
attribute [local go_sem] max2_int min2_int max_two min_two max_three min_three max_four min_four   -- for this text's walks alone
set_option linter.unusedVariables false
set_option linter.unusedSimpArgs false
set_option maxHeartbeats 8000000

open Go.Proofs.YthigelphmjepaaaW.Lims
/-! ### laws_szNode -/
mutual
def laws_szNodeS.l0 : Nat → List (S61) → Int → Int → Option (Int)
  | 0, _, _, _ => none
  | k + 1, x0, x1, x5 => if x5 < (x0.length : Int) then (if 0 ≤ x5 then ((laws_szNode.f k ((rd_T61 x0 x5).f0) ((rd_T61 x0 x5).f1) ((rd_T61 x0 x5).f2) ((rd_T61 x0 x5).f3) x1).bind fun t102 => (if t102 < 0 then (some (-1)) else (laws_szNodeS.l0 k x0 t102 (wrap64 (x5 + 1))))) else (none)) else (some x1)
def laws_szNodeS.f : Nat → List (S61) → Int → Option (Int)
  | 0, _, _ => none
  | k + 1, l0, a1 => if (wrap64 (a1 - (l0.length : Int))) < 0 then (some (-1)) else (laws_szNodeS.l0 k l0 (wrap64 (a1 - (l0.length : Int))) 0)
def laws_szNode.f : Nat → Int → Int → ByteArray → List (S61) → Int → Option (Int)
  | 0, _, _, _, _, _ => none
  | k + 1, a0_0, a0_1, a0_2, l0_3, a1 => if (wrap64 (a1 - (a0_2.size : Int))) < 0 then (some (-1)) else ((laws_szNodeS.f k l0_3 (wrap64 (a1 - (a0_2.size : Int)))).bind fun t104 => (if t104 < 0 then (some (-1)) else (some t104)))
end
set_option maxHeartbeats 8000000 in
theorem laws_szNodeS.mono_g : ∀ k, (∀ y0 y1, LeO (laws_szNodeS.f k y0 y1) (laws_szNodeS.f (k + 1) y0 y1)) ∧ (∀ y0 y1 y2, LeO (laws_szNodeS.l0 k y0 y1 y2) (laws_szNodeS.l0 (k + 1) y0 y1 y2)) ∧ (∀ y0 y1 y2 y3 y4, LeO (laws_szNode.f k y0 y1 y2 y3 y4) (laws_szNode.f (k + 1) y0 y1 y2 y3 y4))
  | 0 => ⟨fun _ _ r h => by simp [laws_szNodeS.f] at h, fun _ _ _ r h => by simp [laws_szNodeS.l0] at h, fun _ _ _ _ _ r h => by simp [laws_szNode.f] at h⟩
  | k + 1 => by
    obtain ⟨ih0, ih1, ih2⟩ := laws_szNodeS.mono_g k
    refine ⟨?_, ?_, ?_⟩
    · intro y0 y1
      unfold laws_szNodeS.f
      repeat' first
      | (with_reducible exact ih0 _ _)
      | (with_reducible exact ih1 _ _ _)
      | (with_reducible exact ih2 _ _ _ _ _)
      | (with_reducible exact LeO.refl _)
      | (with_reducible exact LeO.none _)
      | (with_reducible refine LeO.ite ?_ ?_)
      | (with_reducible refine LeO.bind ?_ (fun _ => ?_))
      | exact ih0 _ _
      | exact ih1 _ _ _
      | exact ih2 _ _ _ _ _
      | exact LeO.none _
      | refine LeO.ite ?_ ?_
      | refine LeO.bind ?_ (fun _ => ?_)
    · intro y0 y1 y2
      unfold laws_szNodeS.l0
      repeat' first
      | (with_reducible exact ih0 _ _)
      | (with_reducible exact ih1 _ _ _)
      | (with_reducible exact ih2 _ _ _ _ _)
      | (with_reducible exact LeO.refl _)
      | (with_reducible exact LeO.none _)
      | (with_reducible refine LeO.ite ?_ ?_)
      | (with_reducible refine LeO.bind ?_ (fun _ => ?_))
      | exact ih0 _ _
      | exact ih1 _ _ _
      | exact ih2 _ _ _ _ _
      | exact LeO.none _
      | refine LeO.ite ?_ ?_
      | refine LeO.bind ?_ (fun _ => ?_)
    · intro y0 y1 y2 y3 y4
      unfold laws_szNode.f
      repeat' first
      | (with_reducible exact ih0 _ _)
      | (with_reducible exact ih1 _ _ _)
      | (with_reducible exact ih2 _ _ _ _ _)
      | (with_reducible exact LeO.refl _)
      | (with_reducible exact LeO.none _)
      | (with_reducible refine LeO.ite ?_ ?_)
      | (with_reducible refine LeO.bind ?_ (fun _ => ?_))
      | exact ih0 _ _
      | exact ih1 _ _ _
      | exact ih2 _ _ _ _ _
      | exact LeO.none _
      | refine LeO.ite ?_ ?_
      | refine LeO.bind ?_ (fun _ => ?_)
theorem laws_szNodeS.mono : ∀ a0 a1 k, LeO (laws_szNodeS.f k a0 a1) (laws_szNodeS.f (k + 1) a0 a1) := by
  intro a0 a1 k
  obtain ⟨ih0, ih1, ih2⟩ := laws_szNodeS.mono_g k
  exact ih0 a0 a1
theorem laws_szNode.mono : ∀ a0 a1 a2 a3 a4 k, LeO (laws_szNode.f k a0 a1 a2 a3 a4) (laws_szNode.f (k + 1) a0 a1 a2 a3 a4) := by
  intro a0 a1 a2 a3 a4 k
  obtain ⟨ih0, ih1, ih2⟩ := laws_szNodeS.mono_g k
  exact ih2 a0 a1 a2 a3 a4
noncomputable def laws_szNodeS.l0v (x0 : List (S61)) (x1 : Int) (x5 : Int) : Option (Int) := limOf (fun k => laws_szNodeS.l0 k x0 x1 x5)
theorem laws_szNodeS.l0_lim (x0 : List (S61)) (x1 : Int) (x5 : Int) : Lim (fun k => laws_szNodeS.l0 k x0 x1 x5) (laws_szNodeS.l0v x0 x1 x5) := Lim.of (fun k => (laws_szNodeS.mono_g k).2.1 x0 x1 x5)
noncomputable def laws_szNodeS.fv (l0 : List (S61)) (a1 : Int) : Option (Int) := limOf (fun k => laws_szNodeS.f k l0 a1)
theorem laws_szNodeS.f_lim (l0 : List (S61)) (a1 : Int) : Lim (fun k => laws_szNodeS.f k l0 a1) (laws_szNodeS.fv l0 a1) := Lim.of (fun k => (laws_szNodeS.mono_g k).1 l0 a1)
noncomputable def laws_szNode.fv (a0_0 : Int) (a0_1 : Int) (a0_2 : ByteArray) (l0_3 : List (S61)) (a1 : Int) : Option (Int) := limOf (fun k => laws_szNode.f k a0_0 a0_1 a0_2 l0_3 a1)
theorem laws_szNode.f_lim (a0_0 : Int) (a0_1 : Int) (a0_2 : ByteArray) (l0_3 : List (S61)) (a1 : Int) : Lim (fun k => laws_szNode.f k a0_0 a0_1 a0_2 l0_3 a1) (laws_szNode.fv a0_0 a0_1 a0_2 l0_3 a1) := Lim.of (fun k => (laws_szNodeS.mono_g k).2.2 a0_0 a0_1 a0_2 l0_3 a1)
set_option maxHeartbeats 4000000 in
theorem laws_szNodeS.l0v_eq (x0 : List (S61)) (x1 : Int) (x5 : Int) : laws_szNodeS.l0v x0 x1 x5 = (if x5 < (x0.length : Int) then (if 0 ≤ x5 then ((laws_szNode.fv ((rd_T61 x0 x5).f0) ((rd_T61 x0 x5).f1) ((rd_T61 x0 x5).f2) ((rd_T61 x0 x5).f3) x1).bind fun t102 => (if t102 < 0 then (some (-1)) else (laws_szNodeS.l0v x0 t102 (wrap64 (x5 + 1))))) else (none)) else (some x1)) := by
  refine Lim.succ (laws_szNodeS.l0_lim x0 x1 x5) ?_
  simp only [laws_szNodeS.l0]
  repeat' first
    | (with_reducible apply laws_szNode.f_lim)
    | (with_reducible apply laws_szNodeS.l0_lim)
    | (with_reducible exact Lim.const _)
    | (with_reducible refine Lim.ite ?_ ?_)
    | (with_reducible refine Lim.bind ?_ (fun _ => ?_))
    | apply laws_szNode.f_lim
    | apply laws_szNodeS.l0_lim
    | exact Lim.const _
    | refine Lim.ite ?_ ?_
    | refine Lim.bind ?_ (fun _ => ?_)
set_option maxHeartbeats 4000000 in
theorem laws_szNodeS.fv_eq (l0 : List (S61)) (a1 : Int) : laws_szNodeS.fv l0 a1 = (if (wrap64 (a1 - (l0.length : Int))) < 0 then (some (-1)) else (laws_szNodeS.l0v l0 (wrap64 (a1 - (l0.length : Int))) 0)) := by
  refine Lim.succ (laws_szNodeS.f_lim l0 a1) ?_
  simp only [laws_szNodeS.f]
  repeat' first
    | (with_reducible apply laws_szNodeS.l0_lim)
    | (with_reducible exact Lim.const _)
    | (with_reducible refine Lim.ite ?_ ?_)
    | (with_reducible refine Lim.bind ?_ (fun _ => ?_))
    | apply laws_szNodeS.l0_lim
    | exact Lim.const _
    | refine Lim.ite ?_ ?_
    | refine Lim.bind ?_ (fun _ => ?_)

set_option maxHeartbeats 4000000 in
theorem laws_szNode.fv_eq (a0_0 : Int) (a0_1 : Int) (a0_2 : ByteArray) (l0_3 : List (S61)) (a1 : Int) : laws_szNode.fv a0_0 a0_1 a0_2 l0_3 a1 = (if (wrap64 (a1 - (a0_2.size : Int))) < 0 then (some (-1)) else ((laws_szNodeS.fv l0_3 (wrap64 (a1 - (a0_2.size : Int)))).bind fun t104 => (if t104 < 0 then (some (-1)) else (some t104)))) := by
  refine Lim.succ (laws_szNode.f_lim a0_0 a0_1 a0_2 l0_3 a1) ?_
  simp only [laws_szNode.f]
  repeat' first
    | (with_reducible apply laws_szNodeS.f_lim)
    | (with_reducible exact Lim.const _)
    | (with_reducible refine Lim.ite ?_ ?_)
    | (with_reducible refine Lim.bind ?_ (fun _ => ?_))
    | apply laws_szNodeS.f_lim
    | exact Lim.const _
    | refine Lim.ite ?_ ?_
    | refine Lim.bind ?_ (fun _ => ?_)


/-! ### laws_szRule -/
def laws_szRule.f (k : Nat) (a0_0 : Int) (a0_1 : Int) (a0_2 : Int) (a0_3 : ByteArray) (l0_4 : List (S61)) (a0_5 : Int) (a0_6 : Int) (a0_7 : ByteArray) (l0_8 : List (S61)) (a1 : Int) : Option (Int) := (laws_szNode.f k a0_1 a0_2 a0_3 l0_4 a1).bind fun t106 => (if t106 < 0 then (some (-1)) else ((laws_szNode.f k a0_5 a0_6 a0_7 l0_8 t106).bind fun t107 => (if t107 < 0 then (some (-1)) else (some t107))))
theorem laws_szRule.mono : ∀ a0 a1 a2 a3 a4 a5 a6 a7 a8 a9 k, LeO (laws_szRule.f k a0 a1 a2 a3 a4 a5 a6 a7 a8 a9) (laws_szRule.f (k + 1) a0 a1 a2 a3 a4 a5 a6 a7 a8 a9) := by
  intro a0 a1 a2 a3 a4 a5 a6 a7 a8 a9 k
  unfold laws_szRule.f
  repeat' first
      | (with_reducible exact laws_szNode.mono _ _ _ _ _ _)
      | (with_reducible exact LeO.refl _)
      | (with_reducible exact LeO.none _)
      | (with_reducible refine LeO.ite ?_ ?_)
      | (with_reducible refine LeO.bind ?_ (fun _ => ?_))
      | exact laws_szNode.mono _ _ _ _ _ _
      | exact LeO.none _
      | refine LeO.ite ?_ ?_
      | refine LeO.bind ?_ (fun _ => ?_)
noncomputable def laws_szRule.fv (a0_0 : Int) (a0_1 : Int) (a0_2 : Int) (a0_3 : ByteArray) (l0_4 : List (S61)) (a0_5 : Int) (a0_6 : Int) (a0_7 : ByteArray) (l0_8 : List (S61)) (a1 : Int) : Option (Int) := limOf (fun k => laws_szRule.f k a0_0 a0_1 a0_2 a0_3 l0_4 a0_5 a0_6 a0_7 l0_8 a1)
theorem laws_szRule.f_lim (a0_0 : Int) (a0_1 : Int) (a0_2 : Int) (a0_3 : ByteArray) (l0_4 : List (S61)) (a0_5 : Int) (a0_6 : Int) (a0_7 : ByteArray) (l0_8 : List (S61)) (a1 : Int) : Lim (fun k => laws_szRule.f k a0_0 a0_1 a0_2 a0_3 l0_4 a0_5 a0_6 a0_7 l0_8 a1) (laws_szRule.fv a0_0 a0_1 a0_2 a0_3 l0_4 a0_5 a0_6 a0_7 l0_8 a1) := Lim.of (fun k => laws_szRule.mono a0_0 a0_1 a0_2 a0_3 l0_4 a0_5 a0_6 a0_7 l0_8 a1 k)
set_option maxHeartbeats 4000000 in
theorem laws_szRule.fv_eq (a0_0 : Int) (a0_1 : Int) (a0_2 : Int) (a0_3 : ByteArray) (l0_4 : List (S61)) (a0_5 : Int) (a0_6 : Int) (a0_7 : ByteArray) (l0_8 : List (S61)) (a1 : Int) : laws_szRule.fv a0_0 a0_1 a0_2 a0_3 l0_4 a0_5 a0_6 a0_7 l0_8 a1 = ((laws_szNode.fv a0_1 a0_2 a0_3 l0_4 a1).bind fun t106 => (if t106 < 0 then (some (-1)) else ((laws_szNode.fv a0_5 a0_6 a0_7 l0_8 t106).bind fun t107 => (if t107 < 0 then (some (-1)) else (some t107))))) := by
  refine Lim.eq (laws_szRule.f_lim a0_0 a0_1 a0_2 a0_3 l0_4 a0_5 a0_6 a0_7 l0_8 a1) ?_
  simp only [laws_szRule.f]
  repeat' first
    | (with_reducible apply laws_szNode.f_lim)
    | (with_reducible exact Lim.const _)
    | (with_reducible refine Lim.ite ?_ ?_)
    | (with_reducible refine Lim.bind ?_ (fun _ => ?_))
    | apply laws_szNode.f_lim
    | exact Lim.const _
    | refine Lim.ite ?_ ?_
    | refine Lim.bind ?_ (fun _ => ?_)

/-! ### laws_szRuleS -/
def laws_szRuleS.l0 : Nat → List (S63) → Int → Int → Option (Int)
  | 0, _, _, _ => none
  | k + 1, x0, x1, x5 => if x5 < (x0.length : Int) then (if 0 ≤ x5 then ((laws_szRule.f k ((rd_T63 x0 x5).f0) ((rd_T63 x0 x5).f1.f0) ((rd_T63 x0 x5).f1.f1) ((rd_T63 x0 x5).f1.f2) ((rd_T63 x0 x5).f1.f3) ((rd_T63 x0 x5).f2.f0) ((rd_T63 x0 x5).f2.f1) ((rd_T63 x0 x5).f2.f2) ((rd_T63 x0 x5).f2.f3) x1).bind fun t109 => (if t109 < 0 then (some (-1)) else (laws_szRuleS.l0 k x0 t109 (wrap64 (x5 + 1))))) else (none)) else (some x1)
def laws_szRuleS.f (k : Nat) (l0 : List (S63)) (a1 : Int) : Option (Int) := if (wrap64 (a1 - (l0.length : Int))) < 0 then (some (-1)) else (laws_szRuleS.l0 k l0 (wrap64 (a1 - (l0.length : Int))) 0)
theorem laws_szRuleS.mono_l : ∀ k, (∀ y0 y1 y2, LeO (laws_szRuleS.l0 k y0 y1 y2) (laws_szRuleS.l0 (k + 1) y0 y1 y2))
  | 0 => fun _ _ _ r h => by simp [laws_szRuleS.l0] at h
  | k + 1 => by
    have ih0 := laws_szRuleS.mono_l k
    · intro y0 y1 y2
      unfold laws_szRuleS.l0
      repeat' first
      | (with_reducible exact ih0 _ _ _)
      | (with_reducible exact laws_szRule.mono _ _ _ _ _ _ _ _ _ _ _)
      | (with_reducible exact LeO.refl _)
      | (with_reducible exact LeO.none _)
      | (with_reducible refine LeO.ite ?_ ?_)
      | (with_reducible refine LeO.bind ?_ (fun _ => ?_))
      | exact ih0 _ _ _
      | exact laws_szRule.mono _ _ _ _ _ _ _ _ _ _ _
      | exact LeO.none _
      | refine LeO.ite ?_ ?_
      | refine LeO.bind ?_ (fun _ => ?_)
theorem laws_szRuleS.mono : ∀ a0 a1 k, LeO (laws_szRuleS.f k a0 a1) (laws_szRuleS.f (k + 1) a0 a1) := by
  intro a0 a1 k
  have ih0 := laws_szRuleS.mono_l k
  unfold laws_szRuleS.f
  repeat' first
      | (with_reducible exact ih0 _ _ _)
      | (with_reducible exact laws_szRule.mono _ _ _ _ _ _ _ _ _ _ _)
      | (with_reducible exact LeO.refl _)
      | (with_reducible exact LeO.none _)
      | (with_reducible refine LeO.ite ?_ ?_)
      | (with_reducible refine LeO.bind ?_ (fun _ => ?_))
      | exact ih0 _ _ _
      | exact laws_szRule.mono _ _ _ _ _ _ _ _ _ _ _
      | exact LeO.none _
      | refine LeO.ite ?_ ?_
      | refine LeO.bind ?_ (fun _ => ?_)
noncomputable def laws_szRuleS.l0v (x0 : List (S63)) (x1 : Int) (x5 : Int) : Option (Int) := limOf (fun k => laws_szRuleS.l0 k x0 x1 x5)
theorem laws_szRuleS.l0_lim (x0 : List (S63)) (x1 : Int) (x5 : Int) : Lim (fun k => laws_szRuleS.l0 k x0 x1 x5) (laws_szRuleS.l0v x0 x1 x5) := Lim.of (fun k => laws_szRuleS.mono_l k x0 x1 x5)
noncomputable def laws_szRuleS.fv (l0 : List (S63)) (a1 : Int) : Option (Int) := limOf (fun k => laws_szRuleS.f k l0 a1)
theorem laws_szRuleS.f_lim (l0 : List (S63)) (a1 : Int) : Lim (fun k => laws_szRuleS.f k l0 a1) (laws_szRuleS.fv l0 a1) := Lim.of (fun k => laws_szRuleS.mono l0 a1 k)
set_option maxHeartbeats 4000000 in
theorem laws_szRuleS.l0v_eq (x0 : List (S63)) (x1 : Int) (x5 : Int) : laws_szRuleS.l0v x0 x1 x5 = (if x5 < (x0.length : Int) then (if 0 ≤ x5 then ((laws_szRule.fv ((rd_T63 x0 x5).f0) ((rd_T63 x0 x5).f1.f0) ((rd_T63 x0 x5).f1.f1) ((rd_T63 x0 x5).f1.f2) ((rd_T63 x0 x5).f1.f3) ((rd_T63 x0 x5).f2.f0) ((rd_T63 x0 x5).f2.f1) ((rd_T63 x0 x5).f2.f2) ((rd_T63 x0 x5).f2.f3) x1).bind fun t109 => (if t109 < 0 then (some (-1)) else (laws_szRuleS.l0v x0 t109 (wrap64 (x5 + 1))))) else (none)) else (some x1)) := by
  refine Lim.succ (laws_szRuleS.l0_lim x0 x1 x5) ?_
  simp only [laws_szRuleS.l0]
  repeat' first
    | (with_reducible apply laws_szRule.f_lim)
    | (with_reducible apply laws_szRuleS.l0_lim)
    | (with_reducible exact Lim.const _)
    | (with_reducible refine Lim.ite ?_ ?_)
    | (with_reducible refine Lim.bind ?_ (fun _ => ?_))
    | apply laws_szRule.f_lim
    | apply laws_szRuleS.l0_lim
    | exact Lim.const _
    | refine Lim.ite ?_ ?_
    | refine Lim.bind ?_ (fun _ => ?_)
set_option maxHeartbeats 4000000 in
theorem laws_szRuleS.fv_eq (l0 : List (S63)) (a1 : Int) : laws_szRuleS.fv l0 a1 = (if (wrap64 (a1 - (l0.length : Int))) < 0 then (some (-1)) else (laws_szRuleS.l0v l0 (wrap64 (a1 - (l0.length : Int))) 0)) := by
  refine Lim.eq (laws_szRuleS.f_lim l0 a1) ?_
  simp only [laws_szRuleS.f]
  repeat' first
    | (with_reducible apply laws_szRuleS.l0_lim)
    | (with_reducible exact Lim.const _)
    | (with_reducible refine Lim.ite ?_ ?_)
    | (with_reducible refine Lim.bind ?_ (fun _ => ?_))
    | apply laws_szRuleS.l0_lim
    | exact Lim.const _
    | refine Lim.ite ?_ ?_
    | refine Lim.bind ?_ (fun _ => ?_)

/-! ### spec_l1In -/
def spec_l1In.f (a0 : Int) (a1 : Int) (a2 : Int) : Option (Bool) := if a0 ≥ a1 then (some (decide (a0 ≤ a2))) else (some false)

/-! ### spec_l9IsE -/
def spec_l9IsE.f (a0 : Int) : Option (Bool) := (spec_l1In.f a0 1 28).bind fun t110 => (some t110)

/-! ### spec_l7Letter -/
def spec_l7Letter.f (a0 : Int) : Option (Bool) := if a0 ≥ 97 then (if a0 ≤ 122 then (some true) else (if a0 ≥ 65 then (some (decide (a0 ≤ 90))) else (some false))) else (if a0 ≥ 65 then (some (decide (a0 ≤ 90))) else (some false))

/-! ### spec_l7Within -/
def spec_l7Within.l0 : Nat → List ByteArray → ByteArray → Int → Option (Bool)
  | 0, _, _, _ => none
  | k + 1, x0, x1, x5 => if x5 < (x0.length : Int) then (if 0 ≤ x5 then (if (rdOf ByteArray.empty x0 x5).toList = x1.toList then (some true) else (spec_l7Within.l0 k x0 x1 (wrap64 (x5 + 1)))) else (none)) else (some false)
def spec_l7Within.f (k : Nat) (l0 : List ByteArray) (a1 : ByteArray) : Option (Bool) := spec_l7Within.l0 k l0 a1 0
theorem spec_l7Within.mono_l : ∀ k, (∀ y0 y1 y2, LeO (spec_l7Within.l0 k y0 y1 y2) (spec_l7Within.l0 (k + 1) y0 y1 y2))
  | 0 => fun _ _ _ r h => by simp [spec_l7Within.l0] at h
  | k + 1 => by
    have ih0 := spec_l7Within.mono_l k
    · intro y0 y1 y2
      unfold spec_l7Within.l0
      repeat' first
      | (with_reducible exact ih0 _ _ _)
      | (with_reducible exact LeO.refl _)
      | (with_reducible exact LeO.none _)
      | (with_reducible refine LeO.ite ?_ ?_)
      | (with_reducible refine LeO.bind ?_ (fun _ => ?_))
      | exact ih0 _ _ _
      | exact LeO.none _
      | refine LeO.ite ?_ ?_
      | refine LeO.bind ?_ (fun _ => ?_)
theorem spec_l7Within.mono : ∀ a0 a1 k, LeO (spec_l7Within.f k a0 a1) (spec_l7Within.f (k + 1) a0 a1) := by
  intro a0 a1 k
  have ih0 := spec_l7Within.mono_l k
  unfold spec_l7Within.f
  repeat' first
      | (with_reducible exact ih0 _ _ _)
      | (with_reducible exact LeO.refl _)
      | (with_reducible exact LeO.none _)
      | (with_reducible refine LeO.ite ?_ ?_)
      | (with_reducible refine LeO.bind ?_ (fun _ => ?_))
      | exact ih0 _ _ _
      | exact LeO.none _
      | refine LeO.ite ?_ ?_
      | refine LeO.bind ?_ (fun _ => ?_)
noncomputable def spec_l7Within.l0v (x0 : List ByteArray) (x1 : ByteArray) (x5 : Int) : Option (Bool) := limOf (fun k => spec_l7Within.l0 k x0 x1 x5)
theorem spec_l7Within.l0_lim (x0 : List ByteArray) (x1 : ByteArray) (x5 : Int) : Lim (fun k => spec_l7Within.l0 k x0 x1 x5) (spec_l7Within.l0v x0 x1 x5) := Lim.of (fun k => spec_l7Within.mono_l k x0 x1 x5)
noncomputable def spec_l7Within.fv (l0 : List ByteArray) (a1 : ByteArray) : Option (Bool) := limOf (fun k => spec_l7Within.f k l0 a1)
theorem spec_l7Within.f_lim (l0 : List ByteArray) (a1 : ByteArray) : Lim (fun k => spec_l7Within.f k l0 a1) (spec_l7Within.fv l0 a1) := Lim.of (fun k => spec_l7Within.mono l0 a1 k)
set_option maxHeartbeats 4000000 in
theorem spec_l7Within.l0v_eq (x0 : List ByteArray) (x1 : ByteArray) (x5 : Int) : spec_l7Within.l0v x0 x1 x5 = (if x5 < (x0.length : Int) then (if 0 ≤ x5 then (if (rdOf ByteArray.empty x0 x5).toList = x1.toList then (some true) else (spec_l7Within.l0v x0 x1 (wrap64 (x5 + 1)))) else (none)) else (some false)) := by
  refine Lim.succ (spec_l7Within.l0_lim x0 x1 x5) ?_
  simp only [spec_l7Within.l0]
  repeat' first
    | (with_reducible apply spec_l7Within.l0_lim)
    | (with_reducible exact Lim.const _)
    | (with_reducible refine Lim.ite ?_ ?_)
    | (with_reducible refine Lim.bind ?_ (fun _ => ?_))
    | apply spec_l7Within.l0_lim
    | exact Lim.const _
    | refine Lim.ite ?_ ?_
    | refine Lim.bind ?_ (fun _ => ?_)
set_option maxHeartbeats 4000000 in
theorem spec_l7Within.fv_eq (l0 : List ByteArray) (a1 : ByteArray) : spec_l7Within.fv l0 a1 = (spec_l7Within.l0v l0 a1 0) := by
  refine Lim.eq (spec_l7Within.f_lim l0 a1) ?_
  simp only [spec_l7Within.f]
  repeat' first
    | (with_reducible apply spec_l7Within.l0_lim)
    | (with_reducible exact Lim.const _)
    | (with_reducible refine Lim.ite ?_ ?_)
    | (with_reducible refine Lim.bind ?_ (fun _ => ?_))
    | apply spec_l7Within.l0_lim
    | exact Lim.const _
    | refine Lim.ite ?_ ?_
    | refine Lim.bind ?_ (fun _ => ?_)

/-! ### spec_l7Calls -/
def spec_l7Calls.f  : Option (List ByteArray) := some (([(⟨#[108, 101, 110, 103, 116, 104]⟩ : ByteArray), (⟨#[115, 117, 98, 115, 116, 114]⟩ : ByteArray), (⟨#[105, 110, 100, 101, 120]⟩ : ByteArray), (⟨#[105, 110, 116]⟩ : ByteArray), (⟨#[117, 112, 112, 101, 114]⟩ : ByteArray), (⟨#[108, 111, 119, 101, 114]⟩ : ByteArray)] : List ByteArray))

/-! ### spec_Keyword -/
def spec_Keyword.f (k : Nat) (a0 : ByteArray) : Option (Bool) := (spec_l7Within.f k (([(⟨#[66, 69, 71, 73, 78]⟩ : ByteArray), (⟨#[112, 114, 105, 110, 116]⟩ : ByteArray), (⟨#[105, 102]⟩ : ByteArray), (⟨#[101, 108, 115, 101]⟩ : ByteArray), (⟨#[119, 104, 105, 108, 101]⟩ : ByteArray), (⟨#[110, 101, 120, 116]⟩ : ByteArray), (⟨#[100, 101, 108, 101, 116, 101]⟩ : ByteArray), (⟨#[78, 82]⟩ : ByteArray), (⟨#[78, 70]⟩ : ByteArray)] : List ByteArray)) a0).bind fun t118 => (if t118 = true then (some true) else ((spec_l7Calls.f).bind fun t119 => ((spec_l7Within.f k t119 a0).bind fun t122 => (some t122))))
theorem spec_Keyword.mono : ∀ a0 k, LeO (spec_Keyword.f k a0) (spec_Keyword.f (k + 1) a0) := by
  intro a0 k
  unfold spec_Keyword.f
  repeat' first
      | (with_reducible exact spec_l7Within.mono _ _ _)
      | (with_reducible exact LeO.refl _)
      | (with_reducible exact LeO.none _)
      | (with_reducible refine LeO.ite ?_ ?_)
      | (with_reducible refine LeO.bind ?_ (fun _ => ?_))
      | exact spec_l7Within.mono _ _ _
      | exact LeO.none _
      | refine LeO.ite ?_ ?_
      | refine LeO.bind ?_ (fun _ => ?_)
noncomputable def spec_Keyword.fv (a0 : ByteArray) : Option (Bool) := limOf (fun k => spec_Keyword.f k a0)
theorem spec_Keyword.f_lim (a0 : ByteArray) : Lim (fun k => spec_Keyword.f k a0) (spec_Keyword.fv a0) := Lim.of (fun k => spec_Keyword.mono a0 k)
set_option maxHeartbeats 4000000 in
theorem spec_Keyword.fv_eq (a0 : ByteArray) : spec_Keyword.fv a0 = ((spec_l7Within.fv (([(⟨#[66, 69, 71, 73, 78]⟩ : ByteArray), (⟨#[112, 114, 105, 110, 116]⟩ : ByteArray), (⟨#[105, 102]⟩ : ByteArray), (⟨#[101, 108, 115, 101]⟩ : ByteArray), (⟨#[119, 104, 105, 108, 101]⟩ : ByteArray), (⟨#[110, 101, 120, 116]⟩ : ByteArray), (⟨#[100, 101, 108, 101, 116, 101]⟩ : ByteArray), (⟨#[78, 82]⟩ : ByteArray), (⟨#[78, 70]⟩ : ByteArray)] : List ByteArray)) a0).bind fun t118 => (if t118 = true then (some true) else ((spec_l7Calls.f).bind fun t119 => ((spec_l7Within.fv t119 a0).bind fun t122 => (some t122))))) := by
  refine Lim.eq (spec_Keyword.f_lim a0) ?_
  simp only [spec_Keyword.f]
  repeat' first
    | (with_reducible apply spec_l7Within.f_lim)
    | (with_reducible exact Lim.const _)
    | (with_reducible refine Lim.ite ?_ ?_)
    | (with_reducible refine Lim.bind ?_ (fun _ => ?_))
    | apply spec_l7Within.f_lim
    | exact Lim.const _
    | refine Lim.ite ?_ ?_
    | refine Lim.bind ?_ (fun _ => ?_)

/-! ### spec_l9Name -/
def spec_l9Name.l0 : Nat → ByteArray → Int → Option (Bool)
  | 0, _, _ => none
  | k + 1, x0, x3 => if x3 < (x0.size : Int) then (if 0 ≤ x3 then ((spec_l7Letter.f (bt x0 x3)).bind fun t123 => (if t123 = true then (spec_l9Name.l0 k x0 (wrap64 (x3 + 1))) else (some false))) else (none)) else ((spec_l1In.f (x0.size : Int) 1 8).bind fun t124 => (if t124 = true then ((spec_Keyword.f k x0).bind fun t125 => (some (!t125))) else (some false)))
def spec_l9Name.f (k : Nat) (a0 : ByteArray) : Option (Bool) := spec_l9Name.l0 k a0 0
theorem spec_l9Name.mono_l : ∀ k, (∀ y0 y1, LeO (spec_l9Name.l0 k y0 y1) (spec_l9Name.l0 (k + 1) y0 y1))
  | 0 => fun _ _ r h => by simp [spec_l9Name.l0] at h
  | k + 1 => by
    have ih0 := spec_l9Name.mono_l k
    · intro y0 y1
      unfold spec_l9Name.l0
      repeat' first
      | (with_reducible exact ih0 _ _)
      | (with_reducible exact spec_Keyword.mono _ _)
      | (with_reducible exact LeO.refl _)
      | (with_reducible exact LeO.none _)
      | (with_reducible refine LeO.ite ?_ ?_)
      | (with_reducible refine LeO.bind ?_ (fun _ => ?_))
      | exact ih0 _ _
      | exact spec_Keyword.mono _ _
      | exact LeO.none _
      | refine LeO.ite ?_ ?_
      | refine LeO.bind ?_ (fun _ => ?_)
theorem spec_l9Name.mono : ∀ a0 k, LeO (spec_l9Name.f k a0) (spec_l9Name.f (k + 1) a0) := by
  intro a0 k
  have ih0 := spec_l9Name.mono_l k
  unfold spec_l9Name.f
  repeat' first
      | (with_reducible exact ih0 _ _)
      | (with_reducible exact spec_Keyword.mono _ _)
      | (with_reducible exact LeO.refl _)
      | (with_reducible exact LeO.none _)
      | (with_reducible refine LeO.ite ?_ ?_)
      | (with_reducible refine LeO.bind ?_ (fun _ => ?_))
      | exact ih0 _ _
      | exact spec_Keyword.mono _ _
      | exact LeO.none _
      | refine LeO.ite ?_ ?_
      | refine LeO.bind ?_ (fun _ => ?_)
noncomputable def spec_l9Name.l0v (x0 : ByteArray) (x3 : Int) : Option (Bool) := limOf (fun k => spec_l9Name.l0 k x0 x3)
theorem spec_l9Name.l0_lim (x0 : ByteArray) (x3 : Int) : Lim (fun k => spec_l9Name.l0 k x0 x3) (spec_l9Name.l0v x0 x3) := Lim.of (fun k => spec_l9Name.mono_l k x0 x3)
noncomputable def spec_l9Name.fv (a0 : ByteArray) : Option (Bool) := limOf (fun k => spec_l9Name.f k a0)
theorem spec_l9Name.f_lim (a0 : ByteArray) : Lim (fun k => spec_l9Name.f k a0) (spec_l9Name.fv a0) := Lim.of (fun k => spec_l9Name.mono a0 k)
set_option maxHeartbeats 4000000 in
theorem spec_l9Name.l0v_eq (x0 : ByteArray) (x3 : Int) : spec_l9Name.l0v x0 x3 = (if x3 < (x0.size : Int) then (if 0 ≤ x3 then ((spec_l7Letter.f (bt x0 x3)).bind fun t123 => (if t123 = true then (spec_l9Name.l0v x0 (wrap64 (x3 + 1))) else (some false))) else (none)) else ((spec_l1In.f (x0.size : Int) 1 8).bind fun t124 => (if t124 = true then ((spec_Keyword.fv x0).bind fun t125 => (some (!t125))) else (some false)))) := by
  refine Lim.succ (spec_l9Name.l0_lim x0 x3) ?_
  simp only [spec_l9Name.l0]
  repeat' first
    | (with_reducible apply spec_Keyword.f_lim)
    | (with_reducible apply spec_l9Name.l0_lim)
    | (with_reducible exact Lim.const _)
    | (with_reducible refine Lim.ite ?_ ?_)
    | (with_reducible refine Lim.bind ?_ (fun _ => ?_))
    | apply spec_Keyword.f_lim
    | apply spec_l9Name.l0_lim
    | exact Lim.const _
    | refine Lim.ite ?_ ?_
    | refine Lim.bind ?_ (fun _ => ?_)
set_option maxHeartbeats 4000000 in
theorem spec_l9Name.fv_eq (a0 : ByteArray) : spec_l9Name.fv a0 = (spec_l9Name.l0v a0 0) := by
  refine Lim.eq (spec_l9Name.f_lim a0) ?_
  simp only [spec_l9Name.f]
  repeat' first
    | (with_reducible apply spec_l9Name.l0_lim)
    | (with_reducible exact Lim.const _)
    | (with_reducible refine Lim.ite ?_ ?_)
    | (with_reducible refine Lim.bind ?_ (fun _ => ?_))
    | apply spec_l9Name.l0_lim
    | exact Lim.const _
    | refine Lim.ite ?_ ?_
    | refine Lim.bind ?_ (fun _ => ?_)

/-! ### spec_l9Line -/
def spec_l9Line.l0 : Nat → ByteArray → Int → Option (Bool)
  | 0, _, _ => none
  | k + 1, x0, x3 => if x3 < (x0.size : Int) then (if 0 ≤ x3 then (if (bt x0 x3) = 10 then (some false) else (spec_l9Line.l0 k x0 (wrap64 (x3 + 1)))) else (none)) else (some true)
def spec_l9Line.f (k : Nat) (a0 : ByteArray) : Option (Bool) := spec_l9Line.l0 k a0 0
theorem spec_l9Line.mono_l : ∀ k, (∀ y0 y1, LeO (spec_l9Line.l0 k y0 y1) (spec_l9Line.l0 (k + 1) y0 y1))
  | 0 => fun _ _ r h => by simp [spec_l9Line.l0] at h
  | k + 1 => by
    have ih0 := spec_l9Line.mono_l k
    · intro y0 y1
      unfold spec_l9Line.l0
      repeat' first
      | (with_reducible exact ih0 _ _)
      | (with_reducible exact LeO.refl _)
      | (with_reducible exact LeO.none _)
      | (with_reducible refine LeO.ite ?_ ?_)
      | (with_reducible refine LeO.bind ?_ (fun _ => ?_))
      | exact ih0 _ _
      | exact LeO.none _
      | refine LeO.ite ?_ ?_
      | refine LeO.bind ?_ (fun _ => ?_)
theorem spec_l9Line.mono : ∀ a0 k, LeO (spec_l9Line.f k a0) (spec_l9Line.f (k + 1) a0) := by
  intro a0 k
  have ih0 := spec_l9Line.mono_l k
  unfold spec_l9Line.f
  repeat' first
      | (with_reducible exact ih0 _ _)
      | (with_reducible exact LeO.refl _)
      | (with_reducible exact LeO.none _)
      | (with_reducible refine LeO.ite ?_ ?_)
      | (with_reducible refine LeO.bind ?_ (fun _ => ?_))
      | exact ih0 _ _
      | exact LeO.none _
      | refine LeO.ite ?_ ?_
      | refine LeO.bind ?_ (fun _ => ?_)
noncomputable def spec_l9Line.l0v (x0 : ByteArray) (x3 : Int) : Option (Bool) := limOf (fun k => spec_l9Line.l0 k x0 x3)
theorem spec_l9Line.l0_lim (x0 : ByteArray) (x3 : Int) : Lim (fun k => spec_l9Line.l0 k x0 x3) (spec_l9Line.l0v x0 x3) := Lim.of (fun k => spec_l9Line.mono_l k x0 x3)
noncomputable def spec_l9Line.fv (a0 : ByteArray) : Option (Bool) := limOf (fun k => spec_l9Line.f k a0)
theorem spec_l9Line.f_lim (a0 : ByteArray) : Lim (fun k => spec_l9Line.f k a0) (spec_l9Line.fv a0) := Lim.of (fun k => spec_l9Line.mono a0 k)
set_option maxHeartbeats 4000000 in
theorem spec_l9Line.l0v_eq (x0 : ByteArray) (x3 : Int) : spec_l9Line.l0v x0 x3 = (if x3 < (x0.size : Int) then (if 0 ≤ x3 then (if (bt x0 x3) = 10 then (some false) else (spec_l9Line.l0v x0 (wrap64 (x3 + 1)))) else (none)) else (some true)) := by
  refine Lim.succ (spec_l9Line.l0_lim x0 x3) ?_
  simp only [spec_l9Line.l0]
  repeat' first
    | (with_reducible apply spec_l9Line.l0_lim)
    | (with_reducible exact Lim.const _)
    | (with_reducible refine Lim.ite ?_ ?_)
    | (with_reducible refine Lim.bind ?_ (fun _ => ?_))
    | apply spec_l9Line.l0_lim
    | exact Lim.const _
    | refine Lim.ite ?_ ?_
    | refine Lim.bind ?_ (fun _ => ?_)
set_option maxHeartbeats 4000000 in
theorem spec_l9Line.fv_eq (a0 : ByteArray) : spec_l9Line.fv a0 = (spec_l9Line.l0v a0 0) := by
  refine Lim.eq (spec_l9Line.f_lim a0) ?_
  simp only [spec_l9Line.f]
  repeat' first
    | (with_reducible apply spec_l9Line.l0_lim)
    | (with_reducible exact Lim.const _)
    | (with_reducible refine Lim.ite ?_ ?_)
    | (with_reducible refine Lim.bind ?_ (fun _ => ?_))
    | apply spec_l9Line.l0_lim
    | exact Lim.const _
    | refine Lim.ite ?_ ?_
    | refine Lim.bind ?_ (fun _ => ?_)

/-! ### spec_l9Rex -/
def spec_l9Rex.l0 : Nat → ByteArray → Int → Option (Bool)
  | 0, _, _ => none
  | k + 1, x0, x3 => if x3 < (x0.size : Int) then (if 0 ≤ x3 then (if (bt x0 x3) = 92 then (if (wrap64 (x3 + 1)) = (x0.size : Int) then (some false) else (if 0 ≤ (wrap64 (x3 + 1)) then (if (wrap64 (x3 + 1)) < (x0.size : Int) then (if (bt x0 (wrap64 (x3 + 1))) = 47 then (some false) else (spec_l9Rex.l0 k x0 (wrap64 ((wrap64 (x3 + 1)) + 1)))) else (none)) else (none))) else (spec_l9Rex.l0 k x0 (wrap64 (x3 + 1)))) else (none)) else ((spec_l9Line.f k x0).bind fun t126 => (some t126))
def spec_l9Rex.f (k : Nat) (a0 : ByteArray) : Option (Bool) := spec_l9Rex.l0 k a0 0
theorem spec_l9Rex.mono_l : ∀ k, (∀ y0 y1, LeO (spec_l9Rex.l0 k y0 y1) (spec_l9Rex.l0 (k + 1) y0 y1))
  | 0 => fun _ _ r h => by simp [spec_l9Rex.l0] at h
  | k + 1 => by
    have ih0 := spec_l9Rex.mono_l k
    · intro y0 y1
      unfold spec_l9Rex.l0
      repeat' first
      | (with_reducible exact ih0 _ _)
      | (with_reducible exact spec_l9Line.mono _ _)
      | (with_reducible exact LeO.refl _)
      | (with_reducible exact LeO.none _)
      | (with_reducible refine LeO.ite ?_ ?_)
      | (with_reducible refine LeO.bind ?_ (fun _ => ?_))
      | exact ih0 _ _
      | exact spec_l9Line.mono _ _
      | exact LeO.none _
      | refine LeO.ite ?_ ?_
      | refine LeO.bind ?_ (fun _ => ?_)
theorem spec_l9Rex.mono : ∀ a0 k, LeO (spec_l9Rex.f k a0) (spec_l9Rex.f (k + 1) a0) := by
  intro a0 k
  have ih0 := spec_l9Rex.mono_l k
  unfold spec_l9Rex.f
  repeat' first
      | (with_reducible exact ih0 _ _)
      | (with_reducible exact spec_l9Line.mono _ _)
      | (with_reducible exact LeO.refl _)
      | (with_reducible exact LeO.none _)
      | (with_reducible refine LeO.ite ?_ ?_)
      | (with_reducible refine LeO.bind ?_ (fun _ => ?_))
      | exact ih0 _ _
      | exact spec_l9Line.mono _ _
      | exact LeO.none _
      | refine LeO.ite ?_ ?_
      | refine LeO.bind ?_ (fun _ => ?_)
noncomputable def spec_l9Rex.l0v (x0 : ByteArray) (x3 : Int) : Option (Bool) := limOf (fun k => spec_l9Rex.l0 k x0 x3)
theorem spec_l9Rex.l0_lim (x0 : ByteArray) (x3 : Int) : Lim (fun k => spec_l9Rex.l0 k x0 x3) (spec_l9Rex.l0v x0 x3) := Lim.of (fun k => spec_l9Rex.mono_l k x0 x3)
noncomputable def spec_l9Rex.fv (a0 : ByteArray) : Option (Bool) := limOf (fun k => spec_l9Rex.f k a0)
theorem spec_l9Rex.f_lim (a0 : ByteArray) : Lim (fun k => spec_l9Rex.f k a0) (spec_l9Rex.fv a0) := Lim.of (fun k => spec_l9Rex.mono a0 k)
set_option maxHeartbeats 4000000 in
theorem spec_l9Rex.l0v_eq (x0 : ByteArray) (x3 : Int) : spec_l9Rex.l0v x0 x3 = (if x3 < (x0.size : Int) then (if 0 ≤ x3 then (if (bt x0 x3) = 92 then (if (wrap64 (x3 + 1)) = (x0.size : Int) then (some false) else (if 0 ≤ (wrap64 (x3 + 1)) then (if (wrap64 (x3 + 1)) < (x0.size : Int) then (if (bt x0 (wrap64 (x3 + 1))) = 47 then (some false) else (spec_l9Rex.l0v x0 (wrap64 ((wrap64 (x3 + 1)) + 1)))) else (none)) else (none))) else (spec_l9Rex.l0v x0 (wrap64 (x3 + 1)))) else (none)) else ((spec_l9Line.fv x0).bind fun t126 => (some t126))) := by
  refine Lim.succ (spec_l9Rex.l0_lim x0 x3) ?_
  simp only [spec_l9Rex.l0]
  repeat' first
    | (with_reducible apply spec_l9Line.f_lim)
    | (with_reducible apply spec_l9Rex.l0_lim)
    | (with_reducible exact Lim.const _)
    | (with_reducible refine Lim.ite ?_ ?_)
    | (with_reducible refine Lim.bind ?_ (fun _ => ?_))
    | apply spec_l9Line.f_lim
    | apply spec_l9Rex.l0_lim
    | exact Lim.const _
    | refine Lim.ite ?_ ?_
    | refine Lim.bind ?_ (fun _ => ?_)
set_option maxHeartbeats 4000000 in
theorem spec_l9Rex.fv_eq (a0 : ByteArray) : spec_l9Rex.fv a0 = (spec_l9Rex.l0v a0 0) := by
  refine Lim.eq (spec_l9Rex.f_lim a0) ?_
  simp only [spec_l9Rex.f]
  repeat' first
    | (with_reducible apply spec_l9Rex.l0_lim)
    | (with_reducible exact Lim.const _)
    | (with_reducible refine Lim.ite ?_ ?_)
    | (with_reducible refine Lim.bind ?_ (fun _ => ?_))
    | apply spec_l9Rex.l0_lim
    | exact Lim.const _
    | refine Lim.ite ?_ ?_
    | refine Lim.bind ?_ (fun _ => ?_)

end Go.Proofs.Ythigelphmjepaaa.QFnExactTidy
