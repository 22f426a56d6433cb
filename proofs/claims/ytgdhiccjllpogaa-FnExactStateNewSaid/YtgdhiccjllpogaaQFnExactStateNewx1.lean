/- Written by wip/pr2, a program of this session. -/
import Derived.Test.YtgdhiccjllpogaaQFnExactStateNewx0
import Derived.Test.YtgdhiccjllpogaaLim
namespace Go.Proofs.Ytgdhiccjllpogaa.QFnExactStateNew
open Go.RowKit Go.Proofs.YtgdhiccjllpogaaW.PrintWords Go.Proofs.YtgdhiccjllpogaaW.PrintLast Go.Proofs.YtgdhiccjllpogaaW.PrintMore
attribute [local go_sem] max2_int min2_int max_two min_two max_three min_three max_four min_four   -- for this text's walks alone
set_option linter.unusedVariables false
set_option linter.unusedSimpArgs false

open Go.Proofs.YtgdhiccjllpogaaW.Lims
/-! ### spec_l1Max -/
def spec_l1Max.f (a0 : Int) (a1 : Int) : Option (Int) := if a0 > a1 then (some a0) else (some a1)

/-! ### spec_l1Min -/
def spec_l1Min.f (a0 : Int) (a1 : Int) : Option (Int) := if a0 < a1 then (some a0) else (some a1)

/-! ### spec_StateNew -/
def spec_StateNew.f (a0 : Int) : Option ((List (S53)) × (List (S110)) × Int × Int) := (spec_l1Min.f a0 8).bind fun t102 => ((spec_l1Max.f 0 t102).bind fun t103 => (if 0 ≤ t103 then (if (t103 : Int).toNat ≤ 8796093022208 then (some ((List.replicate (t103 : Int).toNat z53), ([] : List (S110)), 0, 0)) else (none)) else (none)))

/-! ### impl_StateNew -/
def impl_StateNew.f (a0 : Int) : Option ((List (S53)) × (List (S110)) × Int × Int) := if 0 ≤ (mx 0 (mn a0 8)) then (if (mx 0 (mn a0 8) : Int).toNat ≤ 8796093022208 then (some ((List.replicate (mx 0 (mn a0 8) : Int).toNat z53), ([] : List (S110)), 0, 0)) else (none)) else (none)

/-! ### laws_eqVal -/
def laws_eqVal.f (a0_0 : Int) (a0_1 : Int) (a0_2 : ByteArray) (a1_0 : Int) (a1_1 : Int) (a1_2 : ByteArray) : Option (Bool) := if a0_0 = a1_0 then (if a0_1 = a1_1 then (if a0_2.toList = a1_2.toList then (some true) else (some false)) else (some false)) else (some false)

/-! ### laws_eqValS -/
def laws_eqValS.l0 : Nat → List (S53) → List (S53) → Int → Option (Bool)
  | 0, _, _, _ => none
  | k + 1, x0, x1, x5 => if x5 < (x0.length : Int) then (if 0 ≤ x5 then (if x5 < (x1.length : Int) then ((laws_eqVal.f ((rd_T53 x0 x5).f0) ((rd_T53 x0 x5).f1) ((rd_T53 x0 x5).f2) ((rd_T53 x1 x5).f0) ((rd_T53 x1 x5).f1) ((rd_T53 x1 x5).f2)).bind fun t115 => (if t115 = true then (laws_eqValS.l0 k x0 x1 (wrap64 (x5 + 1))) else (some false))) else (none)) else (none)) else (some true)
def laws_eqValS.f (k : Nat) (l0 : List (S53)) (l1 : List (S53)) : Option (Bool) := if (l0.length : Int) = (l1.length : Int) then (laws_eqValS.l0 k l0 l1 0) else (some false)
theorem laws_eqValS.mono_l : ∀ k, (∀ y0 y1 y2, LeO (laws_eqValS.l0 k y0 y1 y2) (laws_eqValS.l0 (k + 1) y0 y1 y2))
  | 0 => fun _ _ _ r h => by simp [laws_eqValS.l0] at h
  | k + 1 => by
    have ih0 := laws_eqValS.mono_l k
    · intro y0 y1 y2
      unfold laws_eqValS.l0
      repeat' first
      | (with_reducible exact ih0 _ _ _)
      | (with_reducible exact LeO.refl _)
      | (with_reducible exact LeO.none _)
      | (with_reducible refine LeO.ite ?_ ?_)
      | (with_reducible refine LeO.bind ?_ (fun _ => ?_))
      | exact ih0 _ _ _
      | exact LeO.none _
      | refine LeO.ite ?_ ?_
      | refine LeO.bind ?_ (fun _ => ?_)
theorem laws_eqValS.mono : ∀ a0 a1 k, LeO (laws_eqValS.f k a0 a1) (laws_eqValS.f (k + 1) a0 a1) := by
  intro a0 a1 k
  have ih0 := laws_eqValS.mono_l k
  unfold laws_eqValS.f
  repeat' first
      | (with_reducible exact ih0 _ _ _)
      | (with_reducible exact LeO.refl _)
      | (with_reducible exact LeO.none _)
      | (with_reducible refine LeO.ite ?_ ?_)
      | (with_reducible refine LeO.bind ?_ (fun _ => ?_))
      | exact ih0 _ _ _
      | exact LeO.none _
      | refine LeO.ite ?_ ?_
      | refine LeO.bind ?_ (fun _ => ?_)
noncomputable def laws_eqValS.l0v (x0 : List (S53)) (x1 : List (S53)) (x5 : Int) : Option (Bool) := limOf (fun k => laws_eqValS.l0 k x0 x1 x5)
theorem laws_eqValS.l0_lim (x0 : List (S53)) (x1 : List (S53)) (x5 : Int) : Lim (fun k => laws_eqValS.l0 k x0 x1 x5) (laws_eqValS.l0v x0 x1 x5) := Lim.of (fun k => laws_eqValS.mono_l k x0 x1 x5)
noncomputable def laws_eqValS.fv (l0 : List (S53)) (l1 : List (S53)) : Option (Bool) := limOf (fun k => laws_eqValS.f k l0 l1)
theorem laws_eqValS.f_lim (l0 : List (S53)) (l1 : List (S53)) : Lim (fun k => laws_eqValS.f k l0 l1) (laws_eqValS.fv l0 l1) := Lim.of (fun k => laws_eqValS.mono l0 l1 k)
set_option maxHeartbeats 4000000 in
theorem laws_eqValS.l0v_eq (x0 : List (S53)) (x1 : List (S53)) (x5 : Int) : laws_eqValS.l0v x0 x1 x5 = (if x5 < (x0.length : Int) then (if 0 ≤ x5 then (if x5 < (x1.length : Int) then ((laws_eqVal.f ((rd_T53 x0 x5).f0) ((rd_T53 x0 x5).f1) ((rd_T53 x0 x5).f2) ((rd_T53 x1 x5).f0) ((rd_T53 x1 x5).f1) ((rd_T53 x1 x5).f2)).bind fun t115 => (if t115 = true then (laws_eqValS.l0v x0 x1 (wrap64 (x5 + 1))) else (some false))) else (none)) else (none)) else (some true)) := by
  refine Lim.succ (laws_eqValS.l0_lim x0 x1 x5) ?_
  simp only [laws_eqValS.l0]
  repeat' first
    | (with_reducible apply laws_eqValS.l0_lim)
    | (with_reducible exact Lim.const _)
    | (with_reducible refine Lim.ite ?_ ?_)
    | (with_reducible refine Lim.bind ?_ (fun _ => ?_))
    | apply laws_eqValS.l0_lim
    | exact Lim.const _
    | refine Lim.ite ?_ ?_
    | refine Lim.bind ?_ (fun _ => ?_)
set_option maxHeartbeats 4000000 in
theorem laws_eqValS.fv_eq (l0 : List (S53)) (l1 : List (S53)) : laws_eqValS.fv l0 l1 = (if (l0.length : Int) = (l1.length : Int) then (laws_eqValS.l0v l0 l1 0) else (some false)) := by
  refine Lim.eq (laws_eqValS.f_lim l0 l1) ?_
  simp only [laws_eqValS.f]
  repeat' first
    | (with_reducible apply laws_eqValS.l0_lim)
    | (with_reducible exact Lim.const _)
    | (with_reducible refine Lim.ite ?_ ?_)
    | (with_reducible refine Lim.bind ?_ (fun _ => ?_))
    | apply laws_eqValS.l0_lim
    | exact Lim.const _
    | refine Lim.ite ?_ ?_
    | refine Lim.bind ?_ (fun _ => ?_)

/-! ### laws_eqCell -/
def laws_eqCell.f (a0_0 : Int) (a0_1 : ByteArray) (a0_2 : Int) (a0_3 : Int) (a0_4 : ByteArray) (a1_0 : Int) (a1_1 : ByteArray) (a1_2 : Int) (a1_3 : Int) (a1_4 : ByteArray) : Option (Bool) := if a0_0 = a1_0 then (if a0_1.toList = a1_1.toList then ((laws_eqVal.f a0_2 a0_3 a0_4 a1_2 a1_3 a1_4).bind fun t118 => (if t118 = true then (some true) else (some false))) else (some false)) else (some false)

/-! ### laws_eqCellS -/
def laws_eqCellS.l0 : Nat → List (S110) → List (S110) → Int → Option (Bool)
  | 0, _, _, _ => none
  | k + 1, x0, x1, x5 => if x5 < (x0.length : Int) then (if 0 ≤ x5 then (if x5 < (x1.length : Int) then ((laws_eqCell.f ((rd_T110 x0 x5).f0) ((rd_T110 x0 x5).f1) ((rd_T110 x0 x5).f2.f0) ((rd_T110 x0 x5).f2.f1) ((rd_T110 x0 x5).f2.f2) ((rd_T110 x1 x5).f0) ((rd_T110 x1 x5).f1) ((rd_T110 x1 x5).f2.f0) ((rd_T110 x1 x5).f2.f1) ((rd_T110 x1 x5).f2.f2)).bind fun t121 => (if t121 = true then (laws_eqCellS.l0 k x0 x1 (wrap64 (x5 + 1))) else (some false))) else (none)) else (none)) else (some true)
def laws_eqCellS.f (k : Nat) (l0 : List (S110)) (l1 : List (S110)) : Option (Bool) := if (l0.length : Int) = (l1.length : Int) then (laws_eqCellS.l0 k l0 l1 0) else (some false)
theorem laws_eqCellS.mono_l : ∀ k, (∀ y0 y1 y2, LeO (laws_eqCellS.l0 k y0 y1 y2) (laws_eqCellS.l0 (k + 1) y0 y1 y2))
  | 0 => fun _ _ _ r h => by simp [laws_eqCellS.l0] at h
  | k + 1 => by
    have ih0 := laws_eqCellS.mono_l k
    · intro y0 y1 y2
      unfold laws_eqCellS.l0
      repeat' first
      | (with_reducible exact ih0 _ _ _)
      | (with_reducible exact LeO.refl _)
      | (with_reducible exact LeO.none _)
      | (with_reducible refine LeO.ite ?_ ?_)
      | (with_reducible refine LeO.bind ?_ (fun _ => ?_))
      | exact ih0 _ _ _
      | exact LeO.none _
      | refine LeO.ite ?_ ?_
      | refine LeO.bind ?_ (fun _ => ?_)
theorem laws_eqCellS.mono : ∀ a0 a1 k, LeO (laws_eqCellS.f k a0 a1) (laws_eqCellS.f (k + 1) a0 a1) := by
  intro a0 a1 k
  have ih0 := laws_eqCellS.mono_l k
  unfold laws_eqCellS.f
  repeat' first
      | (with_reducible exact ih0 _ _ _)
      | (with_reducible exact LeO.refl _)
      | (with_reducible exact LeO.none _)
      | (with_reducible refine LeO.ite ?_ ?_)
      | (with_reducible refine LeO.bind ?_ (fun _ => ?_))
      | exact ih0 _ _ _
      | exact LeO.none _
      | refine LeO.ite ?_ ?_
      | refine LeO.bind ?_ (fun _ => ?_)
noncomputable def laws_eqCellS.l0v (x0 : List (S110)) (x1 : List (S110)) (x5 : Int) : Option (Bool) := limOf (fun k => laws_eqCellS.l0 k x0 x1 x5)
theorem laws_eqCellS.l0_lim (x0 : List (S110)) (x1 : List (S110)) (x5 : Int) : Lim (fun k => laws_eqCellS.l0 k x0 x1 x5) (laws_eqCellS.l0v x0 x1 x5) := Lim.of (fun k => laws_eqCellS.mono_l k x0 x1 x5)
noncomputable def laws_eqCellS.fv (l0 : List (S110)) (l1 : List (S110)) : Option (Bool) := limOf (fun k => laws_eqCellS.f k l0 l1)
theorem laws_eqCellS.f_lim (l0 : List (S110)) (l1 : List (S110)) : Lim (fun k => laws_eqCellS.f k l0 l1) (laws_eqCellS.fv l0 l1) := Lim.of (fun k => laws_eqCellS.mono l0 l1 k)
set_option maxHeartbeats 4000000 in
theorem laws_eqCellS.l0v_eq (x0 : List (S110)) (x1 : List (S110)) (x5 : Int) : laws_eqCellS.l0v x0 x1 x5 = (if x5 < (x0.length : Int) then (if 0 ≤ x5 then (if x5 < (x1.length : Int) then ((laws_eqCell.f ((rd_T110 x0 x5).f0) ((rd_T110 x0 x5).f1) ((rd_T110 x0 x5).f2.f0) ((rd_T110 x0 x5).f2.f1) ((rd_T110 x0 x5).f2.f2) ((rd_T110 x1 x5).f0) ((rd_T110 x1 x5).f1) ((rd_T110 x1 x5).f2.f0) ((rd_T110 x1 x5).f2.f1) ((rd_T110 x1 x5).f2.f2)).bind fun t121 => (if t121 = true then (laws_eqCellS.l0v x0 x1 (wrap64 (x5 + 1))) else (some false))) else (none)) else (none)) else (some true)) := by
  refine Lim.succ (laws_eqCellS.l0_lim x0 x1 x5) ?_
  simp only [laws_eqCellS.l0]
  repeat' first
    | (with_reducible apply laws_eqCellS.l0_lim)
    | (with_reducible exact Lim.const _)
    | (with_reducible refine Lim.ite ?_ ?_)
    | (with_reducible refine Lim.bind ?_ (fun _ => ?_))
    | apply laws_eqCellS.l0_lim
    | exact Lim.const _
    | refine Lim.ite ?_ ?_
    | refine Lim.bind ?_ (fun _ => ?_)
set_option maxHeartbeats 4000000 in
theorem laws_eqCellS.fv_eq (l0 : List (S110)) (l1 : List (S110)) : laws_eqCellS.fv l0 l1 = (if (l0.length : Int) = (l1.length : Int) then (laws_eqCellS.l0v l0 l1 0) else (some false)) := by
  refine Lim.eq (laws_eqCellS.f_lim l0 l1) ?_
  simp only [laws_eqCellS.f]
  repeat' first
    | (with_reducible apply laws_eqCellS.l0_lim)
    | (with_reducible exact Lim.const _)
    | (with_reducible refine Lim.ite ?_ ?_)
    | (with_reducible refine Lim.bind ?_ (fun _ => ?_))
    | apply laws_eqCellS.l0_lim
    | exact Lim.const _
    | refine Lim.ite ?_ ?_
    | refine Lim.bind ?_ (fun _ => ?_)

/-! ### laws_eqState -/
def laws_eqState.f (k : Nat) (l0_0 : List (S53)) (l0_1 : List (S110)) (a0_2 : Int) (a0_3 : Int) (l1_0 : List (S53)) (l1_1 : List (S110)) (a1_2 : Int) (a1_3 : Int) : Option (Bool) := (laws_eqValS.f k l0_0 l1_0).bind fun t124 => (if t124 = true then ((laws_eqCellS.f k l0_1 l1_1).bind fun t125 => (if t125 = true then (if a0_2 = a1_2 then (if a0_3 = a1_3 then (some true) else (some false)) else (some false)) else (some false))) else (some false))
theorem laws_eqState.mono : ∀ a0 a1 a2 a3 a4 a5 a6 a7 k, LeO (laws_eqState.f k a0 a1 a2 a3 a4 a5 a6 a7) (laws_eqState.f (k + 1) a0 a1 a2 a3 a4 a5 a6 a7) := by
  intro a0 a1 a2 a3 a4 a5 a6 a7 k
  unfold laws_eqState.f
  repeat' first
      | (with_reducible exact laws_eqCellS.mono _ _ _)
      | (with_reducible exact laws_eqValS.mono _ _ _)
      | (with_reducible exact LeO.refl _)
      | (with_reducible exact LeO.none _)
      | (with_reducible refine LeO.ite ?_ ?_)
      | (with_reducible refine LeO.bind ?_ (fun _ => ?_))
      | exact laws_eqCellS.mono _ _ _
      | exact laws_eqValS.mono _ _ _
      | exact LeO.none _
      | refine LeO.ite ?_ ?_
      | refine LeO.bind ?_ (fun _ => ?_)
noncomputable def laws_eqState.fv (l0_0 : List (S53)) (l0_1 : List (S110)) (a0_2 : Int) (a0_3 : Int) (l1_0 : List (S53)) (l1_1 : List (S110)) (a1_2 : Int) (a1_3 : Int) : Option (Bool) := limOf (fun k => laws_eqState.f k l0_0 l0_1 a0_2 a0_3 l1_0 l1_1 a1_2 a1_3)
theorem laws_eqState.f_lim (l0_0 : List (S53)) (l0_1 : List (S110)) (a0_2 : Int) (a0_3 : Int) (l1_0 : List (S53)) (l1_1 : List (S110)) (a1_2 : Int) (a1_3 : Int) : Lim (fun k => laws_eqState.f k l0_0 l0_1 a0_2 a0_3 l1_0 l1_1 a1_2 a1_3) (laws_eqState.fv l0_0 l0_1 a0_2 a0_3 l1_0 l1_1 a1_2 a1_3) := Lim.of (fun k => laws_eqState.mono l0_0 l0_1 a0_2 a0_3 l1_0 l1_1 a1_2 a1_3 k)
set_option maxHeartbeats 4000000 in
theorem laws_eqState.fv_eq (l0_0 : List (S53)) (l0_1 : List (S110)) (a0_2 : Int) (a0_3 : Int) (l1_0 : List (S53)) (l1_1 : List (S110)) (a1_2 : Int) (a1_3 : Int) : laws_eqState.fv l0_0 l0_1 a0_2 a0_3 l1_0 l1_1 a1_2 a1_3 = ((laws_eqValS.fv l0_0 l1_0).bind fun t124 => (if t124 = true then ((laws_eqCellS.fv l0_1 l1_1).bind fun t125 => (if t125 = true then (if a0_2 = a1_2 then (if a0_3 = a1_3 then (some true) else (some false)) else (some false)) else (some false))) else (some false))) := by
  refine Lim.eq (laws_eqState.f_lim l0_0 l0_1 a0_2 a0_3 l1_0 l1_1 a1_2 a1_3) ?_
  simp only [laws_eqState.f]
  repeat' first
    | (with_reducible apply laws_eqCellS.f_lim)
    | (with_reducible apply laws_eqValS.f_lim)
    | (with_reducible exact Lim.const _)
    | (with_reducible refine Lim.ite ?_ ?_)
    | (with_reducible refine Lim.bind ?_ (fun _ => ?_))
    | apply laws_eqCellS.f_lim
    | apply laws_eqValS.f_lim
    | exact Lim.const _
    | refine Lim.ite ?_ ?_
    | refine Lim.bind ?_ (fun _ => ?_)

/-! ### laws_markText -/
def laws_markText.l0 : Nat → Int → ByteArray → Option (ByteArray)
  | 0, _, _ => none
  | k + 1, x0, x3 => if x0 > 0 then ((some (([(wrap64 (48 + (Int.tmod x0 10))) % 256] : List Int) : List Int)).bind fun y126 => (if (strOfNums y126).size + x3.size ≤ 9223372036854775807 then (laws_markText.l0 k (wrap64 (Int.tdiv x0 10)) ((strOfNums y126) ++ x3)) else (none))) else (if 1 + x3.size ≤ 9223372036854775807 then (some ((⟨#[109]⟩ : ByteArray) ++ x3)) else (none))
def laws_markText.f (k : Nat) (a0 : Int) : Option (ByteArray) := if a0 ≤ 0 then (some (⟨#[109, 48]⟩ : ByteArray)) else (laws_markText.l0 k a0 (⟨#[]⟩ : ByteArray))
theorem laws_markText.mono_l : ∀ k, (∀ y0 y1, LeO (laws_markText.l0 k y0 y1) (laws_markText.l0 (k + 1) y0 y1))
  | 0 => fun _ _ r h => by simp [laws_markText.l0] at h
  | k + 1 => by
    have ih0 := laws_markText.mono_l k
    · intro y0 y1
      unfold laws_markText.l0
      repeat' first
      | (with_reducible exact ih0 _ _)
      | (with_reducible exact LeO.refl _)
      | (with_reducible exact LeO.none _)
      | (with_reducible refine LeO.ite ?_ ?_)
      | (with_reducible refine LeO.bind ?_ (fun _ => ?_))
      | exact ih0 _ _
      | exact LeO.none _
      | refine LeO.ite ?_ ?_
      | refine LeO.bind ?_ (fun _ => ?_)
theorem laws_markText.mono : ∀ a0 k, LeO (laws_markText.f k a0) (laws_markText.f (k + 1) a0) := by
  intro a0 k
  have ih0 := laws_markText.mono_l k
  unfold laws_markText.f
  repeat' first
      | (with_reducible exact ih0 _ _)
      | (with_reducible exact LeO.refl _)
      | (with_reducible exact LeO.none _)
      | (with_reducible refine LeO.ite ?_ ?_)
      | (with_reducible refine LeO.bind ?_ (fun _ => ?_))
      | exact ih0 _ _
      | exact LeO.none _
      | refine LeO.ite ?_ ?_
      | refine LeO.bind ?_ (fun _ => ?_)
noncomputable def laws_markText.l0v (x0 : Int) (x3 : ByteArray) : Option (ByteArray) := limOf (fun k => laws_markText.l0 k x0 x3)
theorem laws_markText.l0_lim (x0 : Int) (x3 : ByteArray) : Lim (fun k => laws_markText.l0 k x0 x3) (laws_markText.l0v x0 x3) := Lim.of (fun k => laws_markText.mono_l k x0 x3)
noncomputable def laws_markText.fv (a0 : Int) : Option (ByteArray) := limOf (fun k => laws_markText.f k a0)
theorem laws_markText.f_lim (a0 : Int) : Lim (fun k => laws_markText.f k a0) (laws_markText.fv a0) := Lim.of (fun k => laws_markText.mono a0 k)
set_option maxHeartbeats 4000000 in
theorem laws_markText.l0v_eq (x0 : Int) (x3 : ByteArray) : laws_markText.l0v x0 x3 = (if x0 > 0 then ((some (([(wrap64 (48 + (Int.tmod x0 10))) % 256] : List Int) : List Int)).bind fun y126 => (if (strOfNums y126).size + x3.size ≤ 9223372036854775807 then (laws_markText.l0v (wrap64 (Int.tdiv x0 10)) ((strOfNums y126) ++ x3)) else (none))) else (if 1 + x3.size ≤ 9223372036854775807 then (some ((⟨#[109]⟩ : ByteArray) ++ x3)) else (none))) := by
  refine Lim.succ (laws_markText.l0_lim x0 x3) ?_
  simp only [laws_markText.l0]
  repeat' first
    | (with_reducible apply laws_markText.l0_lim)
    | (with_reducible exact Lim.const _)
    | (with_reducible refine Lim.ite ?_ ?_)
    | (with_reducible refine Lim.bind ?_ (fun _ => ?_))
    | apply laws_markText.l0_lim
    | exact Lim.const _
    | refine Lim.ite ?_ ?_
    | refine Lim.bind ?_ (fun _ => ?_)
set_option maxHeartbeats 4000000 in
theorem laws_markText.fv_eq (a0 : Int) : laws_markText.fv a0 = (if a0 ≤ 0 then (some (⟨#[109, 48]⟩ : ByteArray)) else (laws_markText.l0v a0 (⟨#[]⟩ : ByteArray))) := by
  refine Lim.eq (laws_markText.f_lim a0) ?_
  simp only [laws_markText.f]
  repeat' first
    | (with_reducible apply laws_markText.l0_lim)
    | (with_reducible exact Lim.const _)
    | (with_reducible refine Lim.ite ?_ ?_)
    | (with_reducible refine Lim.bind ?_ (fun _ => ?_))
    | apply laws_markText.l0_lim
    | exact Lim.const _
    | refine Lim.ite ?_ ?_
    | refine Lim.bind ?_ (fun _ => ?_)

/-! ### laws_markValS -/
def laws_markValS.l0 : Nat → List (S53) → Int → Int → Option (Int × (List (S53)))
  | 0, _, _, _ => none
  | k + 1, x0, x1, x5 => if x5 < (x0.length : Int) then (if 0 ≤ x5 then ((some (x0.set (x5 : Int).toNat (⟨x1, (rd_T53 x0 x5).f1, (rd_T53 x0 x5).f2⟩ : S53) : List (S53))).bind fun y129 => ((some (y129.set (x5 : Int).toNat (⟨(rd_T53 y129 x5).f0, wrap64 (x1 + 1), (rd_T53 y129 x5).f2⟩ : S53) : List (S53))).bind fun y130 => ((laws_markText.f k (wrap64 ((wrap64 (x1 + 1)) + 1))).bind fun t131 => (laws_markValS.l0 k (y130.set (x5 : Int).toNat (⟨(rd_T53 y130 x5).f0, (rd_T53 y130 x5).f1, t131⟩ : S53)) (wrap64 ((wrap64 ((wrap64 (x1 + 1)) + 1)) + 1)) (wrap64 (x5 + 1)))))) else (none)) else (some (x1, x0))
def laws_markValS.f (k : Nat) (l0 : List (S53)) (a1 : Int) : Option (Int × (List (S53))) := laws_markValS.l0 k l0 a1 0
theorem laws_markValS.mono_l : ∀ k, (∀ y0 y1 y2, LeO (laws_markValS.l0 k y0 y1 y2) (laws_markValS.l0 (k + 1) y0 y1 y2))
  | 0 => fun _ _ _ r h => by simp [laws_markValS.l0] at h
  | k + 1 => by
    have ih0 := laws_markValS.mono_l k
    · intro y0 y1 y2
      unfold laws_markValS.l0
      repeat' first
      | (with_reducible exact ih0 _ _ _)
      | (with_reducible exact laws_markText.mono _ _)
      | (with_reducible exact LeO.refl _)
      | (with_reducible exact LeO.none _)
      | (with_reducible refine LeO.ite ?_ ?_)
      | (with_reducible refine LeO.bind ?_ (fun _ => ?_))
      | exact ih0 _ _ _
      | exact laws_markText.mono _ _
      | exact LeO.none _
      | refine LeO.ite ?_ ?_
      | refine LeO.bind ?_ (fun _ => ?_)
theorem laws_markValS.mono : ∀ a0 a1 k, LeO (laws_markValS.f k a0 a1) (laws_markValS.f (k + 1) a0 a1) := by
  intro a0 a1 k
  have ih0 := laws_markValS.mono_l k
  unfold laws_markValS.f
  repeat' first
      | (with_reducible exact ih0 _ _ _)
      | (with_reducible exact laws_markText.mono _ _)
      | (with_reducible exact LeO.refl _)
      | (with_reducible exact LeO.none _)
      | (with_reducible refine LeO.ite ?_ ?_)
      | (with_reducible refine LeO.bind ?_ (fun _ => ?_))
      | exact ih0 _ _ _
      | exact laws_markText.mono _ _
      | exact LeO.none _
      | refine LeO.ite ?_ ?_
      | refine LeO.bind ?_ (fun _ => ?_)
noncomputable def laws_markValS.l0v (x0 : List (S53)) (x1 : Int) (x5 : Int) : Option (Int × (List (S53))) := limOf (fun k => laws_markValS.l0 k x0 x1 x5)
theorem laws_markValS.l0_lim (x0 : List (S53)) (x1 : Int) (x5 : Int) : Lim (fun k => laws_markValS.l0 k x0 x1 x5) (laws_markValS.l0v x0 x1 x5) := Lim.of (fun k => laws_markValS.mono_l k x0 x1 x5)
noncomputable def laws_markValS.fv (l0 : List (S53)) (a1 : Int) : Option (Int × (List (S53))) := limOf (fun k => laws_markValS.f k l0 a1)
theorem laws_markValS.f_lim (l0 : List (S53)) (a1 : Int) : Lim (fun k => laws_markValS.f k l0 a1) (laws_markValS.fv l0 a1) := Lim.of (fun k => laws_markValS.mono l0 a1 k)
set_option maxHeartbeats 4000000 in
theorem laws_markValS.l0v_eq (x0 : List (S53)) (x1 : Int) (x5 : Int) : laws_markValS.l0v x0 x1 x5 = (if x5 < (x0.length : Int) then (if 0 ≤ x5 then ((some (x0.set (x5 : Int).toNat (⟨x1, (rd_T53 x0 x5).f1, (rd_T53 x0 x5).f2⟩ : S53) : List (S53))).bind fun y129 => ((some (y129.set (x5 : Int).toNat (⟨(rd_T53 y129 x5).f0, wrap64 (x1 + 1), (rd_T53 y129 x5).f2⟩ : S53) : List (S53))).bind fun y130 => ((laws_markText.fv (wrap64 ((wrap64 (x1 + 1)) + 1))).bind fun t131 => (laws_markValS.l0v (y130.set (x5 : Int).toNat (⟨(rd_T53 y130 x5).f0, (rd_T53 y130 x5).f1, t131⟩ : S53)) (wrap64 ((wrap64 ((wrap64 (x1 + 1)) + 1)) + 1)) (wrap64 (x5 + 1)))))) else (none)) else (some (x1, x0))) := by
  refine Lim.succ (laws_markValS.l0_lim x0 x1 x5) ?_
  simp only [laws_markValS.l0]
  repeat' first
    | (with_reducible apply laws_markText.f_lim)
    | (with_reducible apply laws_markValS.l0_lim)
    | (with_reducible exact Lim.const _)
    | (with_reducible refine Lim.ite ?_ ?_)
    | (with_reducible refine Lim.bind ?_ (fun _ => ?_))
    | apply laws_markText.f_lim
    | apply laws_markValS.l0_lim
    | exact Lim.const _
    | refine Lim.ite ?_ ?_
    | refine Lim.bind ?_ (fun _ => ?_)
set_option maxHeartbeats 4000000 in
theorem laws_markValS.fv_eq (l0 : List (S53)) (a1 : Int) : laws_markValS.fv l0 a1 = (laws_markValS.l0v l0 a1 0) := by
  refine Lim.eq (laws_markValS.f_lim l0 a1) ?_
  simp only [laws_markValS.f]
  repeat' first
    | (with_reducible apply laws_markValS.l0_lim)
    | (with_reducible exact Lim.const _)
    | (with_reducible refine Lim.ite ?_ ?_)
    | (with_reducible refine Lim.bind ?_ (fun _ => ?_))
    | apply laws_markValS.l0_lim
    | exact Lim.const _
    | refine Lim.ite ?_ ?_
    | refine Lim.bind ?_ (fun _ => ?_)

/-! ### laws_markCellS -/
def laws_markCellS.l0 : Nat → List (S110) → Int → Int → Option (Int × (List (S110)))
  | 0, _, _, _ => none
  | k + 1, x0, x1, x5 => if x5 < (x0.length : Int) then (if 0 ≤ x5 then ((some (x0.set (x5 : Int).toNat (⟨x1, (rd_T110 x0 x5).f1, (⟨(rd_T110 x0 x5).f2.f0, (rd_T110 x0 x5).f2.f1, (rd_T110 x0 x5).f2.f2⟩ : S53)⟩ : S110) : List (S110))).bind fun y133 => ((laws_markText.f k (wrap64 (x1 + 1))).bind fun t134 => ((some (y133.set (x5 : Int).toNat (⟨(rd_T110 y133 x5).f0, t134, (⟨(rd_T110 y133 x5).f2.f0, (rd_T110 y133 x5).f2.f1, (rd_T110 y133 x5).f2.f2⟩ : S53)⟩ : S110) : List (S110))).bind fun y135 => ((some (y135.set (x5 : Int).toNat (⟨(rd_T110 y135 x5).f0, (rd_T110 y135 x5).f1, (⟨wrap64 ((wrap64 (x1 + 1)) + 1), (rd_T110 y135 x5).f2.f1, (rd_T110 y135 x5).f2.f2⟩ : S53)⟩ : S110) : List (S110))).bind fun y136 => ((some (y136.set (x5 : Int).toNat (⟨(rd_T110 y136 x5).f0, (rd_T110 y136 x5).f1, (⟨(rd_T110 y136 x5).f2.f0, wrap64 ((wrap64 ((wrap64 (x1 + 1)) + 1)) + 1), (rd_T110 y136 x5).f2.f2⟩ : S53)⟩ : S110) : List (S110))).bind fun y137 => ((laws_markText.f k (wrap64 ((wrap64 ((wrap64 ((wrap64 (x1 + 1)) + 1)) + 1)) + 1))).bind fun t138 => (laws_markCellS.l0 k (y137.set (x5 : Int).toNat (⟨(rd_T110 y137 x5).f0, (rd_T110 y137 x5).f1, (⟨(rd_T110 y137 x5).f2.f0, (rd_T110 y137 x5).f2.f1, t138⟩ : S53)⟩ : S110)) (wrap64 ((wrap64 ((wrap64 ((wrap64 ((wrap64 (x1 + 1)) + 1)) + 1)) + 1)) + 1)) (wrap64 (x5 + 1))))))))) else (none)) else (some (x1, x0))
def laws_markCellS.f (k : Nat) (l0 : List (S110)) (a1 : Int) : Option (Int × (List (S110))) := laws_markCellS.l0 k l0 a1 0
theorem laws_markCellS.mono_l : ∀ k, (∀ y0 y1 y2, LeO (laws_markCellS.l0 k y0 y1 y2) (laws_markCellS.l0 (k + 1) y0 y1 y2))
  | 0 => fun _ _ _ r h => by simp [laws_markCellS.l0] at h
  | k + 1 => by
    have ih0 := laws_markCellS.mono_l k
    · intro y0 y1 y2
      unfold laws_markCellS.l0
      repeat' first
      | (with_reducible exact ih0 _ _ _)
      | (with_reducible exact laws_markText.mono _ _)
      | (with_reducible exact LeO.refl _)
      | (with_reducible exact LeO.none _)
      | (with_reducible refine LeO.ite ?_ ?_)
      | (with_reducible refine LeO.bind ?_ (fun _ => ?_))
      | exact ih0 _ _ _
      | exact laws_markText.mono _ _
      | exact LeO.none _
      | refine LeO.ite ?_ ?_
      | refine LeO.bind ?_ (fun _ => ?_)
theorem laws_markCellS.mono : ∀ a0 a1 k, LeO (laws_markCellS.f k a0 a1) (laws_markCellS.f (k + 1) a0 a1) := by
  intro a0 a1 k
  have ih0 := laws_markCellS.mono_l k
  unfold laws_markCellS.f
  repeat' first
      | (with_reducible exact ih0 _ _ _)
      | (with_reducible exact laws_markText.mono _ _)
      | (with_reducible exact LeO.refl _)
      | (with_reducible exact LeO.none _)
      | (with_reducible refine LeO.ite ?_ ?_)
      | (with_reducible refine LeO.bind ?_ (fun _ => ?_))
      | exact ih0 _ _ _
      | exact laws_markText.mono _ _
      | exact LeO.none _
      | refine LeO.ite ?_ ?_
      | refine LeO.bind ?_ (fun _ => ?_)
noncomputable def laws_markCellS.l0v (x0 : List (S110)) (x1 : Int) (x5 : Int) : Option (Int × (List (S110))) := limOf (fun k => laws_markCellS.l0 k x0 x1 x5)
theorem laws_markCellS.l0_lim (x0 : List (S110)) (x1 : Int) (x5 : Int) : Lim (fun k => laws_markCellS.l0 k x0 x1 x5) (laws_markCellS.l0v x0 x1 x5) := Lim.of (fun k => laws_markCellS.mono_l k x0 x1 x5)
noncomputable def laws_markCellS.fv (l0 : List (S110)) (a1 : Int) : Option (Int × (List (S110))) := limOf (fun k => laws_markCellS.f k l0 a1)
theorem laws_markCellS.f_lim (l0 : List (S110)) (a1 : Int) : Lim (fun k => laws_markCellS.f k l0 a1) (laws_markCellS.fv l0 a1) := Lim.of (fun k => laws_markCellS.mono l0 a1 k)
set_option maxHeartbeats 4000000 in
theorem laws_markCellS.l0v_eq (x0 : List (S110)) (x1 : Int) (x5 : Int) : laws_markCellS.l0v x0 x1 x5 = (if x5 < (x0.length : Int) then (if 0 ≤ x5 then ((some (x0.set (x5 : Int).toNat (⟨x1, (rd_T110 x0 x5).f1, (⟨(rd_T110 x0 x5).f2.f0, (rd_T110 x0 x5).f2.f1, (rd_T110 x0 x5).f2.f2⟩ : S53)⟩ : S110) : List (S110))).bind fun y133 => ((laws_markText.fv (wrap64 (x1 + 1))).bind fun t134 => ((some (y133.set (x5 : Int).toNat (⟨(rd_T110 y133 x5).f0, t134, (⟨(rd_T110 y133 x5).f2.f0, (rd_T110 y133 x5).f2.f1, (rd_T110 y133 x5).f2.f2⟩ : S53)⟩ : S110) : List (S110))).bind fun y135 => ((some (y135.set (x5 : Int).toNat (⟨(rd_T110 y135 x5).f0, (rd_T110 y135 x5).f1, (⟨wrap64 ((wrap64 (x1 + 1)) + 1), (rd_T110 y135 x5).f2.f1, (rd_T110 y135 x5).f2.f2⟩ : S53)⟩ : S110) : List (S110))).bind fun y136 => ((some (y136.set (x5 : Int).toNat (⟨(rd_T110 y136 x5).f0, (rd_T110 y136 x5).f1, (⟨(rd_T110 y136 x5).f2.f0, wrap64 ((wrap64 ((wrap64 (x1 + 1)) + 1)) + 1), (rd_T110 y136 x5).f2.f2⟩ : S53)⟩ : S110) : List (S110))).bind fun y137 => ((laws_markText.fv (wrap64 ((wrap64 ((wrap64 ((wrap64 (x1 + 1)) + 1)) + 1)) + 1))).bind fun t138 => (laws_markCellS.l0v (y137.set (x5 : Int).toNat (⟨(rd_T110 y137 x5).f0, (rd_T110 y137 x5).f1, (⟨(rd_T110 y137 x5).f2.f0, (rd_T110 y137 x5).f2.f1, t138⟩ : S53)⟩ : S110)) (wrap64 ((wrap64 ((wrap64 ((wrap64 ((wrap64 (x1 + 1)) + 1)) + 1)) + 1)) + 1)) (wrap64 (x5 + 1))))))))) else (none)) else (some (x1, x0))) := by
  refine Lim.succ (laws_markCellS.l0_lim x0 x1 x5) ?_
  simp only [laws_markCellS.l0]
  repeat' first
    | (with_reducible apply laws_markCellS.l0_lim)
    | (with_reducible apply laws_markText.f_lim)
    | (with_reducible exact Lim.const _)
    | (with_reducible refine Lim.ite ?_ ?_)
    | (with_reducible refine Lim.bind ?_ (fun _ => ?_))
    | apply laws_markCellS.l0_lim
    | apply laws_markText.f_lim
    | exact Lim.const _
    | refine Lim.ite ?_ ?_
    | refine Lim.bind ?_ (fun _ => ?_)
set_option maxHeartbeats 4000000 in
theorem laws_markCellS.fv_eq (l0 : List (S110)) (a1 : Int) : laws_markCellS.fv l0 a1 = (laws_markCellS.l0v l0 a1 0) := by
  refine Lim.eq (laws_markCellS.f_lim l0 a1) ?_
  simp only [laws_markCellS.f]
  repeat' first
    | (with_reducible apply laws_markCellS.l0_lim)
    | (with_reducible exact Lim.const _)
    | (with_reducible refine Lim.ite ?_ ?_)
    | (with_reducible refine Lim.bind ?_ (fun _ => ?_))
    | apply laws_markCellS.l0_lim
    | exact Lim.const _
    | refine Lim.ite ?_ ?_
    | refine Lim.bind ?_ (fun _ => ?_)

/-! ### laws_markState -/
def laws_markState.f (k : Nat) (l0_0 : List (S53)) (l0_1 : List (S110)) (a0_2 : Int) (a0_3 : Int) (a1 : Int) : Option (Int × (List (S53)) × (List (S110))) := (laws_markValS.f k l0_0 a1).bind fun bt141 => ((laws_markCellS.f k l0_1 bt141.1).bind fun bt143 => (some (bt143.1, bt141.2, bt143.2)))
theorem laws_markState.mono : ∀ a0 a1 a2 a3 a4 k, LeO (laws_markState.f k a0 a1 a2 a3 a4) (laws_markState.f (k + 1) a0 a1 a2 a3 a4) := by
  intro a0 a1 a2 a3 a4 k
  unfold laws_markState.f
  repeat' first
      | (with_reducible exact laws_markCellS.mono _ _ _)
      | (with_reducible exact laws_markValS.mono _ _ _)
      | (with_reducible exact LeO.refl _)
      | (with_reducible exact LeO.none _)
      | (with_reducible refine LeO.ite ?_ ?_)
      | (with_reducible refine LeO.bind ?_ (fun _ => ?_))
      | exact laws_markCellS.mono _ _ _
      | exact laws_markValS.mono _ _ _
      | exact LeO.none _
      | refine LeO.ite ?_ ?_
      | refine LeO.bind ?_ (fun _ => ?_)
noncomputable def laws_markState.fv (l0_0 : List (S53)) (l0_1 : List (S110)) (a0_2 : Int) (a0_3 : Int) (a1 : Int) : Option (Int × (List (S53)) × (List (S110))) := limOf (fun k => laws_markState.f k l0_0 l0_1 a0_2 a0_3 a1)
theorem laws_markState.f_lim (l0_0 : List (S53)) (l0_1 : List (S110)) (a0_2 : Int) (a0_3 : Int) (a1 : Int) : Lim (fun k => laws_markState.f k l0_0 l0_1 a0_2 a0_3 a1) (laws_markState.fv l0_0 l0_1 a0_2 a0_3 a1) := Lim.of (fun k => laws_markState.mono l0_0 l0_1 a0_2 a0_3 a1 k)
set_option maxHeartbeats 4000000 in
theorem laws_markState.fv_eq (l0_0 : List (S53)) (l0_1 : List (S110)) (a0_2 : Int) (a0_3 : Int) (a1 : Int) : laws_markState.fv l0_0 l0_1 a0_2 a0_3 a1 = ((laws_markValS.fv l0_0 a1).bind fun bt141 => ((laws_markCellS.fv l0_1 bt141.1).bind fun bt143 => (some (bt143.1, bt141.2, bt143.2)))) := by
  refine Lim.eq (laws_markState.f_lim l0_0 l0_1 a0_2 a0_3 a1) ?_
  simp only [laws_markState.f]
  repeat' first
    | (with_reducible apply laws_markCellS.f_lim)
    | (with_reducible apply laws_markValS.f_lim)
    | (with_reducible exact Lim.const _)
    | (with_reducible refine Lim.ite ?_ ?_)
    | (with_reducible refine Lim.bind ?_ (fun _ => ?_))
    | apply laws_markCellS.f_lim
    | apply laws_markValS.f_lim
    | exact Lim.const _
    | refine Lim.ite ?_ ?_
    | refine Lim.bind ?_ (fun _ => ?_)

/-! ### laws_heldValS -/
def laws_heldValS.l0 : Nat → List (S53) → Int → Int → Option (Int)
  | 0, _, _, _ => none
  | k + 1, x0, x1, x5 => if x5 < (x0.length : Int) then (if 0 ≤ x5 then (if ((rd_T53 x0 x5).f0) = x1 then (if ((rd_T53 x0 x5).f1) = (wrap64 (x1 + 1)) then ((laws_markText.f k (wrap64 ((wrap64 (x1 + 1)) + 1))).bind fun t148 => (if ((rd_T53 x0 x5).f2).toList = t148.toList then (laws_heldValS.l0 k x0 (wrap64 ((wrap64 ((wrap64 (x1 + 1)) + 1)) + 1)) (wrap64 (x5 + 1))) else (some (-1)))) else (some (-1))) else (some (-1))) else (none)) else (some x1)
def laws_heldValS.f (k : Nat) (l0 : List (S53)) (a1 : Int) : Option (Int) := laws_heldValS.l0 k l0 a1 0
theorem laws_heldValS.mono_l : ∀ k, (∀ y0 y1 y2, LeO (laws_heldValS.l0 k y0 y1 y2) (laws_heldValS.l0 (k + 1) y0 y1 y2))
  | 0 => fun _ _ _ r h => by simp [laws_heldValS.l0] at h
  | k + 1 => by
    have ih0 := laws_heldValS.mono_l k
    · intro y0 y1 y2
      unfold laws_heldValS.l0
      repeat' first
      | (with_reducible exact ih0 _ _ _)
      | (with_reducible exact laws_markText.mono _ _)
      | (with_reducible exact LeO.refl _)
      | (with_reducible exact LeO.none _)
      | (with_reducible refine LeO.ite ?_ ?_)
      | (with_reducible refine LeO.bind ?_ (fun _ => ?_))
      | exact ih0 _ _ _
      | exact laws_markText.mono _ _
      | exact LeO.none _
      | refine LeO.ite ?_ ?_
      | refine LeO.bind ?_ (fun _ => ?_)
theorem laws_heldValS.mono : ∀ a0 a1 k, LeO (laws_heldValS.f k a0 a1) (laws_heldValS.f (k + 1) a0 a1) := by
  intro a0 a1 k
  have ih0 := laws_heldValS.mono_l k
  unfold laws_heldValS.f
  repeat' first
      | (with_reducible exact ih0 _ _ _)
      | (with_reducible exact laws_markText.mono _ _)
      | (with_reducible exact LeO.refl _)
      | (with_reducible exact LeO.none _)
      | (with_reducible refine LeO.ite ?_ ?_)
      | (with_reducible refine LeO.bind ?_ (fun _ => ?_))
      | exact ih0 _ _ _
      | exact laws_markText.mono _ _
      | exact LeO.none _
      | refine LeO.ite ?_ ?_
      | refine LeO.bind ?_ (fun _ => ?_)
noncomputable def laws_heldValS.l0v (x0 : List (S53)) (x1 : Int) (x5 : Int) : Option (Int) := limOf (fun k => laws_heldValS.l0 k x0 x1 x5)
theorem laws_heldValS.l0_lim (x0 : List (S53)) (x1 : Int) (x5 : Int) : Lim (fun k => laws_heldValS.l0 k x0 x1 x5) (laws_heldValS.l0v x0 x1 x5) := Lim.of (fun k => laws_heldValS.mono_l k x0 x1 x5)
noncomputable def laws_heldValS.fv (l0 : List (S53)) (a1 : Int) : Option (Int) := limOf (fun k => laws_heldValS.f k l0 a1)
theorem laws_heldValS.f_lim (l0 : List (S53)) (a1 : Int) : Lim (fun k => laws_heldValS.f k l0 a1) (laws_heldValS.fv l0 a1) := Lim.of (fun k => laws_heldValS.mono l0 a1 k)
set_option maxHeartbeats 4000000 in
theorem laws_heldValS.l0v_eq (x0 : List (S53)) (x1 : Int) (x5 : Int) : laws_heldValS.l0v x0 x1 x5 = (if x5 < (x0.length : Int) then (if 0 ≤ x5 then (if ((rd_T53 x0 x5).f0) = x1 then (if ((rd_T53 x0 x5).f1) = (wrap64 (x1 + 1)) then ((laws_markText.fv (wrap64 ((wrap64 (x1 + 1)) + 1))).bind fun t148 => (if ((rd_T53 x0 x5).f2).toList = t148.toList then (laws_heldValS.l0v x0 (wrap64 ((wrap64 ((wrap64 (x1 + 1)) + 1)) + 1)) (wrap64 (x5 + 1))) else (some (-1)))) else (some (-1))) else (some (-1))) else (none)) else (some x1)) := by
  refine Lim.succ (laws_heldValS.l0_lim x0 x1 x5) ?_
  simp only [laws_heldValS.l0]
  repeat' first
    | (with_reducible apply laws_heldValS.l0_lim)
    | (with_reducible apply laws_markText.f_lim)
    | (with_reducible exact Lim.const _)
    | (with_reducible refine Lim.ite ?_ ?_)
    | (with_reducible refine Lim.bind ?_ (fun _ => ?_))
    | apply laws_heldValS.l0_lim
    | apply laws_markText.f_lim
    | exact Lim.const _
    | refine Lim.ite ?_ ?_
    | refine Lim.bind ?_ (fun _ => ?_)
set_option maxHeartbeats 4000000 in
theorem laws_heldValS.fv_eq (l0 : List (S53)) (a1 : Int) : laws_heldValS.fv l0 a1 = (laws_heldValS.l0v l0 a1 0) := by
  refine Lim.eq (laws_heldValS.f_lim l0 a1) ?_
  simp only [laws_heldValS.f]
  repeat' first
    | (with_reducible apply laws_heldValS.l0_lim)
    | (with_reducible exact Lim.const _)
    | (with_reducible refine Lim.ite ?_ ?_)
    | (with_reducible refine Lim.bind ?_ (fun _ => ?_))
    | apply laws_heldValS.l0_lim
    | exact Lim.const _
    | refine Lim.ite ?_ ?_
    | refine Lim.bind ?_ (fun _ => ?_)

/-! ### laws_heldCellS -/
def laws_heldCellS.l0 : Nat → List (S110) → Int → Int → Option (Int)
  | 0, _, _, _ => none
  | k + 1, x0, x1, x5 => if x5 < (x0.length : Int) then (if 0 ≤ x5 then (if ((rd_T110 x0 x5).f0) = x1 then ((laws_markText.f k (wrap64 (x1 + 1))).bind fun t151 => (if ((rd_T110 x0 x5).f1).toList = t151.toList then (if ((rd_T110 x0 x5).f2.f0) = (wrap64 ((wrap64 (x1 + 1)) + 1)) then (if ((rd_T110 x0 x5).f2.f1) = (wrap64 ((wrap64 ((wrap64 (x1 + 1)) + 1)) + 1)) then ((laws_markText.f k (wrap64 ((wrap64 ((wrap64 ((wrap64 (x1 + 1)) + 1)) + 1)) + 1))).bind fun t155 => (if ((rd_T110 x0 x5).f2.f2).toList = t155.toList then (laws_heldCellS.l0 k x0 (wrap64 ((wrap64 ((wrap64 ((wrap64 ((wrap64 (x1 + 1)) + 1)) + 1)) + 1)) + 1)) (wrap64 (x5 + 1))) else (some (-1)))) else (some (-1))) else (some (-1))) else (some (-1)))) else (some (-1))) else (none)) else (some x1)
def laws_heldCellS.f (k : Nat) (l0 : List (S110)) (a1 : Int) : Option (Int) := laws_heldCellS.l0 k l0 a1 0
theorem laws_heldCellS.mono_l : ∀ k, (∀ y0 y1 y2, LeO (laws_heldCellS.l0 k y0 y1 y2) (laws_heldCellS.l0 (k + 1) y0 y1 y2))
  | 0 => fun _ _ _ r h => by simp [laws_heldCellS.l0] at h
  | k + 1 => by
    have ih0 := laws_heldCellS.mono_l k
    · intro y0 y1 y2
      unfold laws_heldCellS.l0
      repeat' first
      | (with_reducible exact ih0 _ _ _)
      | (with_reducible exact laws_markText.mono _ _)
      | (with_reducible exact LeO.refl _)
      | (with_reducible exact LeO.none _)
      | (with_reducible refine LeO.ite ?_ ?_)
      | (with_reducible refine LeO.bind ?_ (fun _ => ?_))
      | exact ih0 _ _ _
      | exact laws_markText.mono _ _
      | exact LeO.none _
      | refine LeO.ite ?_ ?_
      | refine LeO.bind ?_ (fun _ => ?_)
theorem laws_heldCellS.mono : ∀ a0 a1 k, LeO (laws_heldCellS.f k a0 a1) (laws_heldCellS.f (k + 1) a0 a1) := by
  intro a0 a1 k
  have ih0 := laws_heldCellS.mono_l k
  unfold laws_heldCellS.f
  repeat' first
      | (with_reducible exact ih0 _ _ _)
      | (with_reducible exact laws_markText.mono _ _)
      | (with_reducible exact LeO.refl _)
      | (with_reducible exact LeO.none _)
      | (with_reducible refine LeO.ite ?_ ?_)
      | (with_reducible refine LeO.bind ?_ (fun _ => ?_))
      | exact ih0 _ _ _
      | exact laws_markText.mono _ _
      | exact LeO.none _
      | refine LeO.ite ?_ ?_
      | refine LeO.bind ?_ (fun _ => ?_)
noncomputable def laws_heldCellS.l0v (x0 : List (S110)) (x1 : Int) (x5 : Int) : Option (Int) := limOf (fun k => laws_heldCellS.l0 k x0 x1 x5)
theorem laws_heldCellS.l0_lim (x0 : List (S110)) (x1 : Int) (x5 : Int) : Lim (fun k => laws_heldCellS.l0 k x0 x1 x5) (laws_heldCellS.l0v x0 x1 x5) := Lim.of (fun k => laws_heldCellS.mono_l k x0 x1 x5)
noncomputable def laws_heldCellS.fv (l0 : List (S110)) (a1 : Int) : Option (Int) := limOf (fun k => laws_heldCellS.f k l0 a1)
theorem laws_heldCellS.f_lim (l0 : List (S110)) (a1 : Int) : Lim (fun k => laws_heldCellS.f k l0 a1) (laws_heldCellS.fv l0 a1) := Lim.of (fun k => laws_heldCellS.mono l0 a1 k)
set_option maxHeartbeats 4000000 in
theorem laws_heldCellS.l0v_eq (x0 : List (S110)) (x1 : Int) (x5 : Int) : laws_heldCellS.l0v x0 x1 x5 = (if x5 < (x0.length : Int) then (if 0 ≤ x5 then (if ((rd_T110 x0 x5).f0) = x1 then ((laws_markText.fv (wrap64 (x1 + 1))).bind fun t151 => (if ((rd_T110 x0 x5).f1).toList = t151.toList then (if ((rd_T110 x0 x5).f2.f0) = (wrap64 ((wrap64 (x1 + 1)) + 1)) then (if ((rd_T110 x0 x5).f2.f1) = (wrap64 ((wrap64 ((wrap64 (x1 + 1)) + 1)) + 1)) then ((laws_markText.fv (wrap64 ((wrap64 ((wrap64 ((wrap64 (x1 + 1)) + 1)) + 1)) + 1))).bind fun t155 => (if ((rd_T110 x0 x5).f2.f2).toList = t155.toList then (laws_heldCellS.l0v x0 (wrap64 ((wrap64 ((wrap64 ((wrap64 ((wrap64 (x1 + 1)) + 1)) + 1)) + 1)) + 1)) (wrap64 (x5 + 1))) else (some (-1)))) else (some (-1))) else (some (-1))) else (some (-1)))) else (some (-1))) else (none)) else (some x1)) := by
  refine Lim.succ (laws_heldCellS.l0_lim x0 x1 x5) ?_
  simp only [laws_heldCellS.l0]
  repeat' first
    | (with_reducible apply laws_heldCellS.l0_lim)
    | (with_reducible apply laws_markText.f_lim)
    | (with_reducible exact Lim.const _)
    | (with_reducible refine Lim.ite ?_ ?_)
    | (with_reducible refine Lim.bind ?_ (fun _ => ?_))
    | apply laws_heldCellS.l0_lim
    | apply laws_markText.f_lim
    | exact Lim.const _
    | refine Lim.ite ?_ ?_
    | refine Lim.bind ?_ (fun _ => ?_)
set_option maxHeartbeats 4000000 in
theorem laws_heldCellS.fv_eq (l0 : List (S110)) (a1 : Int) : laws_heldCellS.fv l0 a1 = (laws_heldCellS.l0v l0 a1 0) := by
  refine Lim.eq (laws_heldCellS.f_lim l0 a1) ?_
  simp only [laws_heldCellS.f]
  repeat' first
    | (with_reducible apply laws_heldCellS.l0_lim)
    | (with_reducible exact Lim.const _)
    | (with_reducible refine Lim.ite ?_ ?_)
    | (with_reducible refine Lim.bind ?_ (fun _ => ?_))
    | apply laws_heldCellS.l0_lim
    | exact Lim.const _
    | refine Lim.ite ?_ ?_
    | refine Lim.bind ?_ (fun _ => ?_)

/-! ### laws_heldState -/
def laws_heldState.f (k : Nat) (l0_0 : List (S53)) (l0_1 : List (S110)) (a0_2 : Int) (a0_3 : Int) (a1 : Int) : Option (Int) := (laws_heldValS.f k l0_0 a1).bind fun t157 => (if t157 < 0 then (some (-1)) else ((laws_heldCellS.f k l0_1 t157).bind fun t158 => (if t158 < 0 then (some (-1)) else (some t158))))
theorem laws_heldState.mono : ∀ a0 a1 a2 a3 a4 k, LeO (laws_heldState.f k a0 a1 a2 a3 a4) (laws_heldState.f (k + 1) a0 a1 a2 a3 a4) := by
  intro a0 a1 a2 a3 a4 k
  unfold laws_heldState.f
  repeat' first
      | (with_reducible exact laws_heldCellS.mono _ _ _)
      | (with_reducible exact laws_heldValS.mono _ _ _)
      | (with_reducible exact LeO.refl _)
      | (with_reducible exact LeO.none _)
      | (with_reducible refine LeO.ite ?_ ?_)
      | (with_reducible refine LeO.bind ?_ (fun _ => ?_))
      | exact laws_heldCellS.mono _ _ _
      | exact laws_heldValS.mono _ _ _
      | exact LeO.none _
      | refine LeO.ite ?_ ?_
      | refine LeO.bind ?_ (fun _ => ?_)
noncomputable def laws_heldState.fv (l0_0 : List (S53)) (l0_1 : List (S110)) (a0_2 : Int) (a0_3 : Int) (a1 : Int) : Option (Int) := limOf (fun k => laws_heldState.f k l0_0 l0_1 a0_2 a0_3 a1)
theorem laws_heldState.f_lim (l0_0 : List (S53)) (l0_1 : List (S110)) (a0_2 : Int) (a0_3 : Int) (a1 : Int) : Lim (fun k => laws_heldState.f k l0_0 l0_1 a0_2 a0_3 a1) (laws_heldState.fv l0_0 l0_1 a0_2 a0_3 a1) := Lim.of (fun k => laws_heldState.mono l0_0 l0_1 a0_2 a0_3 a1 k)
set_option maxHeartbeats 4000000 in
theorem laws_heldState.fv_eq (l0_0 : List (S53)) (l0_1 : List (S110)) (a0_2 : Int) (a0_3 : Int) (a1 : Int) : laws_heldState.fv l0_0 l0_1 a0_2 a0_3 a1 = ((laws_heldValS.fv l0_0 a1).bind fun t157 => (if t157 < 0 then (some (-1)) else ((laws_heldCellS.fv l0_1 t157).bind fun t158 => (if t158 < 0 then (some (-1)) else (some t158))))) := by
  refine Lim.eq (laws_heldState.f_lim l0_0 l0_1 a0_2 a0_3 a1) ?_
  simp only [laws_heldState.f]
  repeat' first
    | (with_reducible apply laws_heldCellS.f_lim)
    | (with_reducible apply laws_heldValS.f_lim)
    | (with_reducible exact Lim.const _)
    | (with_reducible refine Lim.ite ?_ ?_)
    | (with_reducible refine Lim.bind ?_ (fun _ => ?_))
    | apply laws_heldCellS.f_lim
    | apply laws_heldValS.f_lim
    | exact Lim.const _
    | refine Lim.ite ?_ ?_
    | refine Lim.bind ?_ (fun _ => ?_)

/-! ### laws_FnExactStateNew -/
def laws_FnExactStateNew.f (k : Nat) (a0 : Int) : Option (Bool) := (spec_StateNew.f a0).bind fun bt159 => ((impl_StateNew.f a0).bind fun bt168 => ((laws_eqState.f k bt168.1 bt168.2.1 bt168.2.2.1 bt168.2.2.2 bt159.1 bt159.2.1 bt159.2.2.1 bt159.2.2.2).bind fun t177 => (if t177 = true then ((laws_markState.f k bt168.1 bt168.2.1 bt168.2.2.1 bt168.2.2.2 1).bind fun bt178 => ((laws_heldState.f k bt178.2.1 bt178.2.2 bt168.2.2.1 bt168.2.2.2 1).bind fun t181 => (if t181 < 0 then (some false) else (if t181 = bt178.1 then ((impl_StateNew.f a0).bind fun bt182 => ((laws_eqState.f k bt182.1 bt182.2.1 bt182.2.2.1 bt182.2.2.2 bt159.1 bt159.2.1 bt159.2.2.1 bt159.2.2.2).bind fun t191 => (if t191 = true then ((laws_heldState.f k bt178.2.1 bt178.2.2 bt168.2.2.1 bt168.2.2.2 1).bind fun t192 => (if t192 < 0 then (some false) else (if t192 = bt178.1 then (some true) else (some false)))) else (some false)))) else (some false))))) else (some false))))
theorem laws_FnExactStateNew.mono : ∀ a0 k, LeO (laws_FnExactStateNew.f k a0) (laws_FnExactStateNew.f (k + 1) a0) := by
  intro a0 k
  unfold laws_FnExactStateNew.f
  repeat' first
      | (with_reducible exact laws_eqState.mono _ _ _ _ _ _ _ _ _)
      | (with_reducible exact laws_heldState.mono _ _ _ _ _ _)
      | (with_reducible exact laws_markState.mono _ _ _ _ _ _)
      | (with_reducible exact LeO.refl _)
      | (with_reducible exact LeO.none _)
      | (with_reducible refine LeO.ite ?_ ?_)
      | (with_reducible refine LeO.bind ?_ (fun _ => ?_))
      | exact laws_eqState.mono _ _ _ _ _ _ _ _ _
      | exact laws_heldState.mono _ _ _ _ _ _
      | exact laws_markState.mono _ _ _ _ _ _
      | exact LeO.none _
      | refine LeO.ite ?_ ?_
      | refine LeO.bind ?_ (fun _ => ?_)
noncomputable def laws_FnExactStateNew.fv (a0 : Int) : Option (Bool) := limOf (fun k => laws_FnExactStateNew.f k a0)
theorem laws_FnExactStateNew.f_lim (a0 : Int) : Lim (fun k => laws_FnExactStateNew.f k a0) (laws_FnExactStateNew.fv a0) := Lim.of (fun k => laws_FnExactStateNew.mono a0 k)
set_option maxHeartbeats 4000000 in
theorem laws_FnExactStateNew.fv_eq (a0 : Int) : laws_FnExactStateNew.fv a0 = ((spec_StateNew.f a0).bind fun bt159 => ((impl_StateNew.f a0).bind fun bt168 => ((laws_eqState.fv bt168.1 bt168.2.1 bt168.2.2.1 bt168.2.2.2 bt159.1 bt159.2.1 bt159.2.2.1 bt159.2.2.2).bind fun t177 => (if t177 = true then ((laws_markState.fv bt168.1 bt168.2.1 bt168.2.2.1 bt168.2.2.2 1).bind fun bt178 => ((laws_heldState.fv bt178.2.1 bt178.2.2 bt168.2.2.1 bt168.2.2.2 1).bind fun t181 => (if t181 < 0 then (some false) else (if t181 = bt178.1 then ((impl_StateNew.f a0).bind fun bt182 => ((laws_eqState.fv bt182.1 bt182.2.1 bt182.2.2.1 bt182.2.2.2 bt159.1 bt159.2.1 bt159.2.2.1 bt159.2.2.2).bind fun t191 => (if t191 = true then ((laws_heldState.fv bt178.2.1 bt178.2.2 bt168.2.2.1 bt168.2.2.2 1).bind fun t192 => (if t192 < 0 then (some false) else (if t192 = bt178.1 then (some true) else (some false)))) else (some false)))) else (some false))))) else (some false))))) := by
  refine Lim.eq (laws_FnExactStateNew.f_lim a0) ?_
  simp only [laws_FnExactStateNew.f]
  repeat' first
    | (with_reducible apply laws_eqState.f_lim)
    | (with_reducible apply laws_heldState.f_lim)
    | (with_reducible apply laws_markState.f_lim)
    | (with_reducible exact Lim.const _)
    | (with_reducible refine Lim.ite ?_ ?_)
    | (with_reducible refine Lim.bind ?_ (fun _ => ?_))
    | apply laws_eqState.f_lim
    | apply laws_heldState.f_lim
    | apply laws_markState.f_lim
    | exact Lim.const _
    | refine Lim.ite ?_ ?_
    | refine Lim.bind ?_ (fun _ => ?_)

end Go.Proofs.Ytgdhiccjllpogaa.QFnExactStateNew
