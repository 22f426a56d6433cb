/- Written by wip/pr2, a program of this session. -/
import Derived.Test.YtelaipnanpfniaaDoorQFnTokensx0
import Derived.Test.YtelaipnanpfniaaDoorQFnTokensx3
import Derived.Test.YtelaipnanpfniaaDoorQFnTokensx4
import Derived.Test.YtelaipnanpfniaaDoorWFnTokens
namespace Go.Proofs.YtelaipnanpfniaaDoor.QFnTokens
open Go.RowKit Go.Proofs.YtelaipnanpfniaaDoorW.PrintWords Go.Proofs.YtelaipnanpfniaaDoorW.PrintLast Go.Proofs.YtelaipnanpfniaaDoorW.PrintMore
attribute [local go_sem] max2_int min2_int max_two min_two max_three min_three max_four min_four   -- for this text's walks alone
set_option linter.unusedVariables false
set_option linter.unusedSimpArgs false
set_option maxHeartbeats 8000000

open Go.Proofs.YtelaipnanpfniaaDoorW.Lims
/-! ### slices_Index_string_string -/
def slices_Index_string_string.l0 : Nat → List ByteArray → ByteArray → Int → Int → Option (Int)
  | 0, _, _, _, _ => none
  | k + 1, x0, x1, x7, x8 => if x8 < x7 then (if 0 ≤ x8 then (if x8 < (x0.length : Int) then (if x1.toList = (rdOf ByteArray.empty x0 x8).toList then (some x8) else (slices_Index_string_string.l0 k x0 x1 x7 (wrap64 (x8 + 1)))) else (none)) else (none)) else (some (-1))
def slices_Index_string_string.f (k : Nat) (l0 : List ByteArray) (a1 : ByteArray) : Option (Int) := slices_Index_string_string.l0 k l0 a1 (l0.length : Int) 0
theorem slices_Index_string_string.mono_l : ∀ k, (∀ y0 y1 y2 y3, LeO (slices_Index_string_string.l0 k y0 y1 y2 y3) (slices_Index_string_string.l0 (k + 1) y0 y1 y2 y3))
  | 0 => fun _ _ _ _ r h => by simp [slices_Index_string_string.l0] at h
  | k + 1 => by
    have ih0 := slices_Index_string_string.mono_l k
    · intro y0 y1 y2 y3
      unfold slices_Index_string_string.l0
      repeat' first
      | (with_reducible exact ih0 _ _ _ _)
      | (with_reducible exact LeO.refl _)
      | (with_reducible exact LeO.none _)
      | (with_reducible refine LeO.ite ?_ ?_)
      | (with_reducible refine LeO.bind ?_ (fun _ => ?_))
      | exact ih0 _ _ _ _
      | exact LeO.none _
      | refine LeO.ite ?_ ?_
      | refine LeO.bind ?_ (fun _ => ?_)
theorem slices_Index_string_string.mono : ∀ a0 a1 k, LeO (slices_Index_string_string.f k a0 a1) (slices_Index_string_string.f (k + 1) a0 a1) := by
  intro a0 a1 k
  have ih0 := slices_Index_string_string.mono_l k
  unfold slices_Index_string_string.f
  repeat' first
      | (with_reducible exact ih0 _ _ _ _)
      | (with_reducible exact LeO.refl _)
      | (with_reducible exact LeO.none _)
      | (with_reducible refine LeO.ite ?_ ?_)
      | (with_reducible refine LeO.bind ?_ (fun _ => ?_))
      | exact ih0 _ _ _ _
      | exact LeO.none _
      | refine LeO.ite ?_ ?_
      | refine LeO.bind ?_ (fun _ => ?_)
noncomputable def slices_Index_string_string.l0v (x0 : List ByteArray) (x1 : ByteArray) (x7 : Int) (x8 : Int) : Option (Int) := limOf (fun k => slices_Index_string_string.l0 k x0 x1 x7 x8)
theorem slices_Index_string_string.l0_lim (x0 : List ByteArray) (x1 : ByteArray) (x7 : Int) (x8 : Int) : Lim (fun k => slices_Index_string_string.l0 k x0 x1 x7 x8) (slices_Index_string_string.l0v x0 x1 x7 x8) := Lim.of (fun k => slices_Index_string_string.mono_l k x0 x1 x7 x8)
noncomputable def slices_Index_string_string.fv (l0 : List ByteArray) (a1 : ByteArray) : Option (Int) := limOf (fun k => slices_Index_string_string.f k l0 a1)
theorem slices_Index_string_string.f_lim (l0 : List ByteArray) (a1 : ByteArray) : Lim (fun k => slices_Index_string_string.f k l0 a1) (slices_Index_string_string.fv l0 a1) := Lim.of (fun k => slices_Index_string_string.mono l0 a1 k)
set_option maxHeartbeats 4000000 in
theorem slices_Index_string_string.l0v_eq (x0 : List ByteArray) (x1 : ByteArray) (x7 : Int) (x8 : Int) : slices_Index_string_string.l0v x0 x1 x7 x8 = (if x8 < x7 then (if 0 ≤ x8 then (if x8 < (x0.length : Int) then (if x1.toList = (rdOf ByteArray.empty x0 x8).toList then (some x8) else (slices_Index_string_string.l0v x0 x1 x7 (wrap64 (x8 + 1)))) else (none)) else (none)) else (some (-1))) := by
  refine Lim.succ (slices_Index_string_string.l0_lim x0 x1 x7 x8) ?_
  simp only [slices_Index_string_string.l0]
  repeat' first
    | (with_reducible apply slices_Index_string_string.l0_lim)
    | (with_reducible exact Lim.const _)
    | (with_reducible refine Lim.ite ?_ ?_)
    | (with_reducible refine Lim.bind ?_ (fun _ => ?_))
    | apply slices_Index_string_string.l0_lim
    | exact Lim.const _
    | refine Lim.ite ?_ ?_
    | refine Lim.bind ?_ (fun _ => ?_)
set_option maxHeartbeats 4000000 in
theorem slices_Index_string_string.fv_eq (l0 : List ByteArray) (a1 : ByteArray) : slices_Index_string_string.fv l0 a1 = (slices_Index_string_string.l0v l0 a1 (l0.length : Int) 0) := by
  refine Lim.eq (slices_Index_string_string.f_lim l0 a1) ?_
  simp only [slices_Index_string_string.f]
  repeat' first
    | (with_reducible apply slices_Index_string_string.l0_lim)
    | (with_reducible exact Lim.const _)
    | (with_reducible refine Lim.ite ?_ ?_)
    | (with_reducible refine Lim.bind ?_ (fun _ => ?_))
    | apply slices_Index_string_string.l0_lim
    | exact Lim.const _
    | refine Lim.ite ?_ ?_
    | refine Lim.bind ?_ (fun _ => ?_)

/-! ### slices_Contains_string_string -/
def slices_Contains_string_string.f (k : Nat) (l0 : List ByteArray) (a1 : ByteArray) : Option (Bool) := (slices_Index_string_string.f k l0 a1).bind fun t353 => (some (decide (t353 ≥ 0)))
theorem slices_Contains_string_string.mono : ∀ a0 a1 k, LeO (slices_Contains_string_string.f k a0 a1) (slices_Contains_string_string.f (k + 1) a0 a1) := by
  intro a0 a1 k
  unfold slices_Contains_string_string.f
  repeat' first
      | (with_reducible exact slices_Index_string_string.mono _ _ _)
      | (with_reducible exact LeO.refl _)
      | (with_reducible exact LeO.none _)
      | (with_reducible refine LeO.ite ?_ ?_)
      | (with_reducible refine LeO.bind ?_ (fun _ => ?_))
      | exact slices_Index_string_string.mono _ _ _
      | exact LeO.none _
      | refine LeO.ite ?_ ?_
      | refine LeO.bind ?_ (fun _ => ?_)
noncomputable def slices_Contains_string_string.fv (l0 : List ByteArray) (a1 : ByteArray) : Option (Bool) := limOf (fun k => slices_Contains_string_string.f k l0 a1)
theorem slices_Contains_string_string.f_lim (l0 : List ByteArray) (a1 : ByteArray) : Lim (fun k => slices_Contains_string_string.f k l0 a1) (slices_Contains_string_string.fv l0 a1) := Lim.of (fun k => slices_Contains_string_string.mono l0 a1 k)
set_option maxHeartbeats 4000000 in
theorem slices_Contains_string_string.fv_eq (l0 : List ByteArray) (a1 : ByteArray) : slices_Contains_string_string.fv l0 a1 = ((slices_Index_string_string.fv l0 a1).bind fun t353 => (some (decide (t353 ≥ 0)))) := by
  refine Lim.eq (slices_Contains_string_string.f_lim l0 a1) ?_
  simp only [slices_Contains_string_string.f]
  repeat' first
    | (with_reducible apply slices_Index_string_string.f_lim)
    | (with_reducible exact Lim.const _)
    | (with_reducible refine Lim.ite ?_ ?_)
    | (with_reducible refine Lim.bind ?_ (fun _ => ?_))
    | apply slices_Index_string_string.f_lim
    | exact Lim.const _
    | refine Lim.ite ?_ ?_
    | refine Lim.bind ?_ (fun _ => ?_)

/-! ### impl_calls -/
def impl_calls.f  : Option (List ByteArray) := some (([(⟨#[108, 101, 110, 103, 116, 104]⟩ : ByteArray), (⟨#[115, 117, 98, 115, 116, 114]⟩ : ByteArray), (⟨#[105, 110, 100, 101, 120]⟩ : ByteArray), (⟨#[105, 110, 116]⟩ : ByteArray), (⟨#[117, 112, 112, 101, 114]⟩ : ByteArray), (⟨#[108, 111, 119, 101, 114]⟩ : ByteArray)] : List ByteArray))

/-! ### impl_Keyword -/
def impl_Keyword.j0 : Nat → ByteArray → Bool → Option (Bool)
  | 0, _, _ => none
  | k + 1, x0, x4 => if x4 = true then (some true) else ((impl_calls.f).bind fun t357 => ((slices_Contains_string_string.f k t357 x0).bind fun t360 => (some t360)))
def impl_Keyword.f (k : Nat) (a0 : ByteArray) : Option (Bool) := if a0.toList = ([66, 69, 71, 73, 78] : List UInt8) then (impl_Keyword.j0 k a0 (a0.toList == ([66, 69, 71, 73, 78] : List UInt8))) else (if a0.toList = ([112, 114, 105, 110, 116] : List UInt8) then (impl_Keyword.j0 k a0 (a0.toList == ([112, 114, 105, 110, 116] : List UInt8))) else (if a0.toList = ([105, 102] : List UInt8) then (impl_Keyword.j0 k a0 (a0.toList == ([105, 102] : List UInt8))) else (if a0.toList = ([101, 108, 115, 101] : List UInt8) then (impl_Keyword.j0 k a0 (a0.toList == ([101, 108, 115, 101] : List UInt8))) else (if a0.toList = ([119, 104, 105, 108, 101] : List UInt8) then (impl_Keyword.j0 k a0 (a0.toList == ([119, 104, 105, 108, 101] : List UInt8))) else (if a0.toList = ([110, 101, 120, 116] : List UInt8) then (impl_Keyword.j0 k a0 (a0.toList == ([110, 101, 120, 116] : List UInt8))) else (if a0.toList = ([100, 101, 108, 101, 116, 101] : List UInt8) then (impl_Keyword.j0 k a0 (a0.toList == ([100, 101, 108, 101, 116, 101] : List UInt8))) else (if a0.toList = ([78, 82] : List UInt8) then (impl_Keyword.j0 k a0 (a0.toList == ([78, 82] : List UInt8))) else (impl_Keyword.j0 k a0 (a0.toList == ([78, 70] : List UInt8))))))))))
theorem impl_Keyword.mono_l : ∀ k, (∀ y0 y1, LeO (impl_Keyword.j0 k y0 y1) (impl_Keyword.j0 (k + 1) y0 y1))
  | 0 => fun _ _ r h => by simp [impl_Keyword.j0] at h
  | k + 1 => by
    have ih0 := impl_Keyword.mono_l k
    · intro y0 y1
      unfold impl_Keyword.j0
      repeat' first
      | (with_reducible exact ih0 _ _)
      | (with_reducible exact slices_Contains_string_string.mono _ _ _)
      | (with_reducible exact LeO.refl _)
      | (with_reducible exact LeO.none _)
      | (with_reducible refine LeO.ite ?_ ?_)
      | (with_reducible refine LeO.bind ?_ (fun _ => ?_))
      | exact ih0 _ _
      | exact slices_Contains_string_string.mono _ _ _
      | exact LeO.none _
      | refine LeO.ite ?_ ?_
      | refine LeO.bind ?_ (fun _ => ?_)
theorem impl_Keyword.mono : ∀ a0 k, LeO (impl_Keyword.f k a0) (impl_Keyword.f (k + 1) a0) := by
  intro a0 k
  have ih0 := impl_Keyword.mono_l k
  unfold impl_Keyword.f
  repeat' first
      | (with_reducible exact ih0 _ _)
      | (with_reducible exact slices_Contains_string_string.mono _ _ _)
      | (with_reducible exact LeO.refl _)
      | (with_reducible exact LeO.none _)
      | (with_reducible refine LeO.ite ?_ ?_)
      | (with_reducible refine LeO.bind ?_ (fun _ => ?_))
      | exact ih0 _ _
      | exact slices_Contains_string_string.mono _ _ _
      | exact LeO.none _
      | refine LeO.ite ?_ ?_
      | refine LeO.bind ?_ (fun _ => ?_)
noncomputable def impl_Keyword.j0v (x0 : ByteArray) (x4 : Bool) : Option (Bool) := limOf (fun k => impl_Keyword.j0 k x0 x4)
theorem impl_Keyword.j0_lim (x0 : ByteArray) (x4 : Bool) : Lim (fun k => impl_Keyword.j0 k x0 x4) (impl_Keyword.j0v x0 x4) := Lim.of (fun k => impl_Keyword.mono_l k x0 x4)
noncomputable def impl_Keyword.fv (a0 : ByteArray) : Option (Bool) := limOf (fun k => impl_Keyword.f k a0)
theorem impl_Keyword.f_lim (a0 : ByteArray) : Lim (fun k => impl_Keyword.f k a0) (impl_Keyword.fv a0) := Lim.of (fun k => impl_Keyword.mono a0 k)
set_option maxHeartbeats 4000000 in
theorem impl_Keyword.j0v_eq (x0 : ByteArray) (x4 : Bool) : impl_Keyword.j0v x0 x4 = (if x4 = true then (some true) else ((impl_calls.f).bind fun t357 => ((slices_Contains_string_string.fv t357 x0).bind fun t360 => (some t360)))) := by
  refine Lim.succ (impl_Keyword.j0_lim x0 x4) ?_
  simp only [impl_Keyword.j0]
  repeat' first
    | (with_reducible apply slices_Contains_string_string.f_lim)
    | (with_reducible exact Lim.const _)
    | (with_reducible refine Lim.ite ?_ ?_)
    | (with_reducible refine Lim.bind ?_ (fun _ => ?_))
    | apply slices_Contains_string_string.f_lim
    | exact Lim.const _
    | refine Lim.ite ?_ ?_
    | refine Lim.bind ?_ (fun _ => ?_)
set_option maxHeartbeats 4000000 in
theorem impl_Keyword.fv_eq (a0 : ByteArray) : impl_Keyword.fv a0 = (if a0.toList = ([66, 69, 71, 73, 78] : List UInt8) then (impl_Keyword.j0v a0 (a0.toList == ([66, 69, 71, 73, 78] : List UInt8))) else (if a0.toList = ([112, 114, 105, 110, 116] : List UInt8) then (impl_Keyword.j0v a0 (a0.toList == ([112, 114, 105, 110, 116] : List UInt8))) else (if a0.toList = ([105, 102] : List UInt8) then (impl_Keyword.j0v a0 (a0.toList == ([105, 102] : List UInt8))) else (if a0.toList = ([101, 108, 115, 101] : List UInt8) then (impl_Keyword.j0v a0 (a0.toList == ([101, 108, 115, 101] : List UInt8))) else (if a0.toList = ([119, 104, 105, 108, 101] : List UInt8) then (impl_Keyword.j0v a0 (a0.toList == ([119, 104, 105, 108, 101] : List UInt8))) else (if a0.toList = ([110, 101, 120, 116] : List UInt8) then (impl_Keyword.j0v a0 (a0.toList == ([110, 101, 120, 116] : List UInt8))) else (if a0.toList = ([100, 101, 108, 101, 116, 101] : List UInt8) then (impl_Keyword.j0v a0 (a0.toList == ([100, 101, 108, 101, 116, 101] : List UInt8))) else (if a0.toList = ([78, 82] : List UInt8) then (impl_Keyword.j0v a0 (a0.toList == ([78, 82] : List UInt8))) else (impl_Keyword.j0v a0 (a0.toList == ([78, 70] : List UInt8))))))))))) := by
  refine Lim.eq (impl_Keyword.f_lim a0) ?_
  simp only [impl_Keyword.f]
  repeat' first
    | (with_reducible apply impl_Keyword.j0_lim)
    | (with_reducible exact Lim.const _)
    | (with_reducible refine Lim.ite ?_ ?_)
    | (with_reducible refine Lim.bind ?_ (fun _ => ?_))
    | apply impl_Keyword.j0_lim
    | exact Lim.const _
    | refine Lim.ite ?_ ?_
    | refine Lim.bind ?_ (fun _ => ?_)

/-! ### spec_l7Within -/
def spec_l7Within.l0 : Nat → List ByteArray → ByteArray → Int → Option (Bool)
  | 0, _, _, _ => none
  | k + 1, x0, x1, x5 => if x5 < (x0.length : Int) then (if 0 ≤ x5 then (if (rdOf ByteArray.empty x0 x5).toList = x1.toList then (some true) else (spec_l7Within.l0 k x0 x1 (wrap64 (x5 + 1)))) else (none)) else (some false)
def spec_l7Within.f (k : Nat) (l0 : List ByteArray) (a1 : ByteArray) : Option (Bool) := spec_l7Within.l0 k l0 a1 0
theorem spec_l7Within.mono_l : ∀ k, (∀ y0 y1 y2, LeO (spec_l7Within.l0 k y0 y1 y2) (spec_l7Within.l0 (k + 1) y0 y1 y2))
  | 0 => fun _ _ _ r h => by simp [spec_l7Within.l0] at h
  | k + 1 => by
    have ih0 := spec_l7Within.mono_l k
    · intro y0 y1 y2
      unfold spec_l7Within.l0
      repeat' first
      | (with_reducible exact ih0 _ _ _)
      | (with_reducible exact LeO.refl _)
      | (with_reducible exact LeO.none _)
      | (with_reducible refine LeO.ite ?_ ?_)
      | (with_reducible refine LeO.bind ?_ (fun _ => ?_))
      | exact ih0 _ _ _
      | exact LeO.none _
      | refine LeO.ite ?_ ?_
      | refine LeO.bind ?_ (fun _ => ?_)
theorem spec_l7Within.mono : ∀ a0 a1 k, LeO (spec_l7Within.f k a0 a1) (spec_l7Within.f (k + 1) a0 a1) := by
  intro a0 a1 k
  have ih0 := spec_l7Within.mono_l k
  unfold spec_l7Within.f
  repeat' first
      | (with_reducible exact ih0 _ _ _)
      | (with_reducible exact LeO.refl _)
      | (with_reducible exact LeO.none _)
      | (with_reducible refine LeO.ite ?_ ?_)
      | (with_reducible refine LeO.bind ?_ (fun _ => ?_))
      | exact ih0 _ _ _
      | exact LeO.none _
      | refine LeO.ite ?_ ?_
      | refine LeO.bind ?_ (fun _ => ?_)
noncomputable def spec_l7Within.l0v (x0 : List ByteArray) (x1 : ByteArray) (x5 : Int) : Option (Bool) := limOf (fun k => spec_l7Within.l0 k x0 x1 x5)
theorem spec_l7Within.l0_lim (x0 : List ByteArray) (x1 : ByteArray) (x5 : Int) : Lim (fun k => spec_l7Within.l0 k x0 x1 x5) (spec_l7Within.l0v x0 x1 x5) := Lim.of (fun k => spec_l7Within.mono_l k x0 x1 x5)
noncomputable def spec_l7Within.fv (l0 : List ByteArray) (a1 : ByteArray) : Option (Bool) := limOf (fun k => spec_l7Within.f k l0 a1)
theorem spec_l7Within.f_lim (l0 : List ByteArray) (a1 : ByteArray) : Lim (fun k => spec_l7Within.f k l0 a1) (spec_l7Within.fv l0 a1) := Lim.of (fun k => spec_l7Within.mono l0 a1 k)
set_option maxHeartbeats 4000000 in
theorem spec_l7Within.l0v_eq (x0 : List ByteArray) (x1 : ByteArray) (x5 : Int) : spec_l7Within.l0v x0 x1 x5 = (if x5 < (x0.length : Int) then (if 0 ≤ x5 then (if (rdOf ByteArray.empty x0 x5).toList = x1.toList then (some true) else (spec_l7Within.l0v x0 x1 (wrap64 (x5 + 1)))) else (none)) else (some false)) := by
  refine Lim.succ (spec_l7Within.l0_lim x0 x1 x5) ?_
  simp only [spec_l7Within.l0]
  repeat' first
    | (with_reducible apply spec_l7Within.l0_lim)
    | (with_reducible exact Lim.const _)
    | (with_reducible refine Lim.ite ?_ ?_)
    | (with_reducible refine Lim.bind ?_ (fun _ => ?_))
    | apply spec_l7Within.l0_lim
    | exact Lim.const _
    | refine Lim.ite ?_ ?_
    | refine Lim.bind ?_ (fun _ => ?_)
set_option maxHeartbeats 4000000 in
theorem spec_l7Within.fv_eq (l0 : List ByteArray) (a1 : ByteArray) : spec_l7Within.fv l0 a1 = (spec_l7Within.l0v l0 a1 0) := by
  refine Lim.eq (spec_l7Within.f_lim l0 a1) ?_
  simp only [spec_l7Within.f]
  repeat' first
    | (with_reducible apply spec_l7Within.l0_lim)
    | (with_reducible exact Lim.const _)
    | (with_reducible refine Lim.ite ?_ ?_)
    | (with_reducible refine Lim.bind ?_ (fun _ => ?_))
    | apply spec_l7Within.l0_lim
    | exact Lim.const _
    | refine Lim.ite ?_ ?_
    | refine Lim.bind ?_ (fun _ => ?_)

/-! ### spec_l7Calls -/
def spec_l7Calls.f  : Option (List ByteArray) := some (([(⟨#[108, 101, 110, 103, 116, 104]⟩ : ByteArray), (⟨#[115, 117, 98, 115, 116, 114]⟩ : ByteArray), (⟨#[105, 110, 100, 101, 120]⟩ : ByteArray), (⟨#[105, 110, 116]⟩ : ByteArray), (⟨#[117, 112, 112, 101, 114]⟩ : ByteArray), (⟨#[108, 111, 119, 101, 114]⟩ : ByteArray)] : List ByteArray))

/-! ### spec_Keyword -/
def spec_Keyword.f (k : Nat) (a0 : ByteArray) : Option (Bool) := (spec_l7Within.f k (([(⟨#[66, 69, 71, 73, 78]⟩ : ByteArray), (⟨#[112, 114, 105, 110, 116]⟩ : ByteArray), (⟨#[105, 102]⟩ : ByteArray), (⟨#[101, 108, 115, 101]⟩ : ByteArray), (⟨#[119, 104, 105, 108, 101]⟩ : ByteArray), (⟨#[110, 101, 120, 116]⟩ : ByteArray), (⟨#[100, 101, 108, 101, 116, 101]⟩ : ByteArray), (⟨#[78, 82]⟩ : ByteArray), (⟨#[78, 70]⟩ : ByteArray)] : List ByteArray)) a0).bind fun t368 => (if t368 = true then (some true) else ((spec_l7Calls.f).bind fun t369 => ((spec_l7Within.f k t369 a0).bind fun t372 => (some t372))))
theorem spec_Keyword.mono : ∀ a0 k, LeO (spec_Keyword.f k a0) (spec_Keyword.f (k + 1) a0) := by
  intro a0 k
  unfold spec_Keyword.f
  repeat' first
      | (with_reducible exact spec_l7Within.mono _ _ _)
      | (with_reducible exact LeO.refl _)
      | (with_reducible exact LeO.none _)
      | (with_reducible refine LeO.ite ?_ ?_)
      | (with_reducible refine LeO.bind ?_ (fun _ => ?_))
      | exact spec_l7Within.mono _ _ _
      | exact LeO.none _
      | refine LeO.ite ?_ ?_
      | refine LeO.bind ?_ (fun _ => ?_)
noncomputable def spec_Keyword.fv (a0 : ByteArray) : Option (Bool) := limOf (fun k => spec_Keyword.f k a0)
theorem spec_Keyword.f_lim (a0 : ByteArray) : Lim (fun k => spec_Keyword.f k a0) (spec_Keyword.fv a0) := Lim.of (fun k => spec_Keyword.mono a0 k)
set_option maxHeartbeats 4000000 in
theorem spec_Keyword.fv_eq (a0 : ByteArray) : spec_Keyword.fv a0 = ((spec_l7Within.fv (([(⟨#[66, 69, 71, 73, 78]⟩ : ByteArray), (⟨#[112, 114, 105, 110, 116]⟩ : ByteArray), (⟨#[105, 102]⟩ : ByteArray), (⟨#[101, 108, 115, 101]⟩ : ByteArray), (⟨#[119, 104, 105, 108, 101]⟩ : ByteArray), (⟨#[110, 101, 120, 116]⟩ : ByteArray), (⟨#[100, 101, 108, 101, 116, 101]⟩ : ByteArray), (⟨#[78, 82]⟩ : ByteArray), (⟨#[78, 70]⟩ : ByteArray)] : List ByteArray)) a0).bind fun t368 => (if t368 = true then (some true) else ((spec_l7Calls.f).bind fun t369 => ((spec_l7Within.fv t369 a0).bind fun t372 => (some t372))))) := by
  refine Lim.eq (spec_Keyword.f_lim a0) ?_
  simp only [spec_Keyword.f]
  repeat' first
    | (with_reducible apply spec_l7Within.f_lim)
    | (with_reducible exact Lim.const _)
    | (with_reducible refine Lim.ite ?_ ?_)
    | (with_reducible refine Lim.bind ?_ (fun _ => ?_))
    | apply spec_l7Within.f_lim
    | exact Lim.const _
    | refine Lim.ite ?_ ?_
    | refine Lim.bind ?_ (fun _ => ?_)

/-! ### laws_FnTokens -/
mutual
def laws_FnTokens.j0 : Nat → ByteArray → List (S32) → Int → List (S32) → Bool → Option (Bool)
  | 0, _, _, _, _, _ => none
  | k + 1, x3, x4, x5, x6, x43 => if x43 = true then (some false) else (laws_FnTokens.l0 k x3 x4 x5 x6 0)
def laws_FnTokens.l0 : Nat → ByteArray → List (S32) → Int → List (S32) → Int → Option (Bool)
  | 0, _, _, _, _, _ => none
  | k + 1, x3, x4, x5, x6, x9 => if x9 < (x4.length : Int) then (if 0 ≤ x9 then (if x9 < (x6.length : Int) then (if (!(((rd_T32 x4 x9).f0) == ((rd_T32 x6 x9).f0)) || (!((((rd_T32 x4 x9).f1).toList) == (((rd_T32 x6 x9).f1).toList)) || (!(((rd_T32 x4 x9).f2) == ((rd_T32 x6 x9).f2)) || (!(((rd_T32 x4 x9).f3) == ((rd_T32 x6 x9).f3)))))) = true then (laws_FnTokens.j2 k x3 x4 x5 x6 x9 true) else (if x9 > 0 then (if 0 ≤ (wrap64 (x9 - 1)) then (if (wrap64 (x9 - 1)) < (x4.length : Int) then (if ((rd_T32 x4 x9).f3) ≤ ((rd_T32 x4 (wrap64 (x9 - 1))).f3) then (laws_FnTokens.j2 k x3 x4 x5 x6 x9 (((rd_T32 x4 x9).f0) != 0)) else (laws_FnTokens.j2 k x3 x4 x5 x6 x9 false)) else (none)) else (none)) else (laws_FnTokens.j2 k x3 x4 x5 x6 x9 false))) else (none)) else (none)) else (if x5 ≥ 0 then (if (x4.length : Int) = 0 then (some true) else (if x5 = (-1) then (if 0 ≤ (wrap64 ((x4.length : Int) - 1)) then (if (wrap64 ((x4.length : Int) - 1)) < (x4.length : Int) then (some (((rd_T32 x4 (wrap64 ((x4.length : Int) - 1))).f3) == (x3.size : Int))) else (none)) else (none)) else (some false))) else (if x5 = (-1) then (if 0 ≤ (wrap64 ((x4.length : Int) - 1)) then (if (wrap64 ((x4.length : Int) - 1)) < (x4.length : Int) then (some (((rd_T32 x4 (wrap64 ((x4.length : Int) - 1))).f3) == (x3.size : Int))) else (none)) else (none)) else (some false)))
def laws_FnTokens.j2 : Nat → ByteArray → List (S32) → Int → List (S32) → Int → Bool → Option (Bool)
  | 0, _, _, _, _, _, _ => none
  | k + 1, x3, x4, x5, x6, x9, x84 => if x84 = true then (some false) else (if 0 ≤ x9 then (if x9 < (x4.length : Int) then (if ((rd_T32 x4 x9).f0) = 1 then (if 0 ≤ ((rd_T32 x4 x9).f3) then (if ((rd_T32 x4 x9).f3) ≤ (wrap64 (((rd_T32 x4 x9).f3) + (((rd_T32 x4 x9).f1).size : Int))) then (if (wrap64 (((rd_T32 x4 x9).f3) + (((rd_T32 x4 x9).f1).size : Int))) ≤ (x3.size : Int) then (if (x3.extract (((rd_T32 x4 x9).f3) : Int).toNat ((wrap64 (((rd_T32 x4 x9).f3) + (((rd_T32 x4 x9).f1).size : Int))) : Int).toNat).toList = ((rd_T32 x4 x9).f1).toList then (laws_FnTokens.l0 k x3 x4 x5 x6 (wrap64 (x9 + 1))) else (some false)) else (none)) else (none)) else (none)) else (if ((rd_T32 x4 x9).f0) = 5 then (if 0 ≤ ((rd_T32 x4 x9).f3) then (if ((rd_T32 x4 x9).f3) ≤ (wrap64 (((rd_T32 x4 x9).f3) + (((rd_T32 x4 x9).f1).size : Int))) then (if (wrap64 (((rd_T32 x4 x9).f3) + (((rd_T32 x4 x9).f1).size : Int))) ≤ (x3.size : Int) then (if (x3.extract (((rd_T32 x4 x9).f3) : Int).toNat ((wrap64 (((rd_T32 x4 x9).f3) + (((rd_T32 x4 x9).f1).size : Int))) : Int).toNat).toList = ((rd_T32 x4 x9).f1).toList then (laws_FnTokens.l0 k x3 x4 x5 x6 (wrap64 (x9 + 1))) else (some false)) else (none)) else (none)) else (none)) else (laws_FnTokens.l0 k x3 x4 x5 x6 (wrap64 (x9 + 1))))) else (none)) else (none))
end
def laws_FnTokens.f (k : Nat) (l0 : List Int) : Option (Bool) := (laws_big.f l0).bind fun t373 => (if t373 = true then (some true) else ((spec_DrawTokens.f k l0).bind fun t374 => ((impl_Tokens.f k t374).bind fun bt375 => ((spec_Tokens.f k t374).bind fun bt379 => ((spec_DrawKeyword.f k l0).bind fun t383 => (if bt375.2 = bt379.2 then (if (bt375.1.length : Int) = (bt379.1.length : Int) then ((impl_Keyword.f k t383).bind fun t384 => ((spec_Keyword.f k t383).bind fun t385 => (laws_FnTokens.j0 k t374 bt375.1 bt375.2 bt379.1 (t384 != t385)))) else (laws_FnTokens.j0 k t374 bt375.1 bt375.2 bt379.1 true)) else (laws_FnTokens.j0 k t374 bt375.1 bt375.2 bt379.1 true)))))))
theorem laws_FnTokens.mono_l : ∀ k, (∀ y0 y1 y2 y3 y4, LeO (laws_FnTokens.j0 k y0 y1 y2 y3 y4) (laws_FnTokens.j0 (k + 1) y0 y1 y2 y3 y4)) ∧ (∀ y0 y1 y2 y3 y4, LeO (laws_FnTokens.l0 k y0 y1 y2 y3 y4) (laws_FnTokens.l0 (k + 1) y0 y1 y2 y3 y4)) ∧ (∀ y0 y1 y2 y3 y4 y5, LeO (laws_FnTokens.j2 k y0 y1 y2 y3 y4 y5) (laws_FnTokens.j2 (k + 1) y0 y1 y2 y3 y4 y5))
  | 0 => ⟨fun _ _ _ _ _ r h => by simp [laws_FnTokens.j0] at h, fun _ _ _ _ _ r h => by simp [laws_FnTokens.l0] at h, fun _ _ _ _ _ _ r h => by simp [laws_FnTokens.j2] at h⟩
  | k + 1 => by
    obtain ⟨ih0, ih1, ih2⟩ := laws_FnTokens.mono_l k
    refine ⟨?_, ?_, ?_⟩
    · intro y0 y1 y2 y3 y4
      unfold laws_FnTokens.j0
      repeat' first
      | (with_reducible exact ih0 _ _ _ _ _)
      | (with_reducible exact ih1 _ _ _ _ _)
      | (with_reducible exact ih2 _ _ _ _ _ _)
      | (with_reducible exact impl_Keyword.mono _ _)
      | (with_reducible exact impl_Tokens.mono _ _)
      | (with_reducible exact spec_DrawKeyword.mono _ _)
      | (with_reducible exact spec_DrawTokens.mono _ _)
      | (with_reducible exact spec_Keyword.mono _ _)
      | (with_reducible exact spec_Tokens.mono _ _)
      | (with_reducible exact LeO.refl _)
      | (with_reducible exact LeO.none _)
      | (with_reducible refine LeO.ite ?_ ?_)
      | (with_reducible refine LeO.bind ?_ (fun _ => ?_))
      | exact ih0 _ _ _ _ _
      | exact ih1 _ _ _ _ _
      | exact ih2 _ _ _ _ _ _
      | exact impl_Keyword.mono _ _
      | exact impl_Tokens.mono _ _
      | exact spec_DrawKeyword.mono _ _
      | exact spec_DrawTokens.mono _ _
      | exact spec_Keyword.mono _ _
      | exact spec_Tokens.mono _ _
      | exact LeO.none _
      | refine LeO.ite ?_ ?_
      | refine LeO.bind ?_ (fun _ => ?_)
    · intro y0 y1 y2 y3 y4
      unfold laws_FnTokens.l0
      repeat' first
      | (with_reducible exact ih0 _ _ _ _ _)
      | (with_reducible exact ih1 _ _ _ _ _)
      | (with_reducible exact ih2 _ _ _ _ _ _)
      | (with_reducible exact impl_Keyword.mono _ _)
      | (with_reducible exact impl_Tokens.mono _ _)
      | (with_reducible exact spec_DrawKeyword.mono _ _)
      | (with_reducible exact spec_DrawTokens.mono _ _)
      | (with_reducible exact spec_Keyword.mono _ _)
      | (with_reducible exact spec_Tokens.mono _ _)
      | (with_reducible exact LeO.refl _)
      | (with_reducible exact LeO.none _)
      | (with_reducible refine LeO.ite ?_ ?_)
      | (with_reducible refine LeO.bind ?_ (fun _ => ?_))
      | exact ih0 _ _ _ _ _
      | exact ih1 _ _ _ _ _
      | exact ih2 _ _ _ _ _ _
      | exact impl_Keyword.mono _ _
      | exact impl_Tokens.mono _ _
      | exact spec_DrawKeyword.mono _ _
      | exact spec_DrawTokens.mono _ _
      | exact spec_Keyword.mono _ _
      | exact spec_Tokens.mono _ _
      | exact LeO.none _
      | refine LeO.ite ?_ ?_
      | refine LeO.bind ?_ (fun _ => ?_)
    · intro y0 y1 y2 y3 y4 y5
      unfold laws_FnTokens.j2
      repeat' first
      | (with_reducible exact ih0 _ _ _ _ _)
      | (with_reducible exact ih1 _ _ _ _ _)
      | (with_reducible exact ih2 _ _ _ _ _ _)
      | (with_reducible exact impl_Keyword.mono _ _)
      | (with_reducible exact impl_Tokens.mono _ _)
      | (with_reducible exact spec_DrawKeyword.mono _ _)
      | (with_reducible exact spec_DrawTokens.mono _ _)
      | (with_reducible exact spec_Keyword.mono _ _)
      | (with_reducible exact spec_Tokens.mono _ _)
      | (with_reducible exact LeO.refl _)
      | (with_reducible exact LeO.none _)
      | (with_reducible refine LeO.ite ?_ ?_)
      | (with_reducible refine LeO.bind ?_ (fun _ => ?_))
      | exact ih0 _ _ _ _ _
      | exact ih1 _ _ _ _ _
      | exact ih2 _ _ _ _ _ _
      | exact impl_Keyword.mono _ _
      | exact impl_Tokens.mono _ _
      | exact spec_DrawKeyword.mono _ _
      | exact spec_DrawTokens.mono _ _
      | exact spec_Keyword.mono _ _
      | exact spec_Tokens.mono _ _
      | exact LeO.none _
      | refine LeO.ite ?_ ?_
      | refine LeO.bind ?_ (fun _ => ?_)
theorem laws_FnTokens.mono : ∀ a0 k, LeO (laws_FnTokens.f k a0) (laws_FnTokens.f (k + 1) a0) := by
  intro a0 k
  obtain ⟨ih0, ih1, ih2⟩ := laws_FnTokens.mono_l k
  unfold laws_FnTokens.f
  repeat' first
      | (with_reducible exact ih0 _ _ _ _ _)
      | (with_reducible exact ih1 _ _ _ _ _)
      | (with_reducible exact ih2 _ _ _ _ _ _)
      | (with_reducible exact impl_Keyword.mono _ _)
      | (with_reducible exact impl_Tokens.mono _ _)
      | (with_reducible exact spec_DrawKeyword.mono _ _)
      | (with_reducible exact spec_DrawTokens.mono _ _)
      | (with_reducible exact spec_Keyword.mono _ _)
      | (with_reducible exact spec_Tokens.mono _ _)
      | (with_reducible exact LeO.refl _)
      | (with_reducible exact LeO.none _)
      | (with_reducible refine LeO.ite ?_ ?_)
      | (with_reducible refine LeO.bind ?_ (fun _ => ?_))
      | exact ih0 _ _ _ _ _
      | exact ih1 _ _ _ _ _
      | exact ih2 _ _ _ _ _ _
      | exact impl_Keyword.mono _ _
      | exact impl_Tokens.mono _ _
      | exact spec_DrawKeyword.mono _ _
      | exact spec_DrawTokens.mono _ _
      | exact spec_Keyword.mono _ _
      | exact spec_Tokens.mono _ _
      | exact LeO.none _
      | refine LeO.ite ?_ ?_
      | refine LeO.bind ?_ (fun _ => ?_)
noncomputable def laws_FnTokens.j0v (x3 : ByteArray) (x4 : List (S32)) (x5 : Int) (x6 : List (S32)) (x43 : Bool) : Option (Bool) := limOf (fun k => laws_FnTokens.j0 k x3 x4 x5 x6 x43)
theorem laws_FnTokens.j0_lim (x3 : ByteArray) (x4 : List (S32)) (x5 : Int) (x6 : List (S32)) (x43 : Bool) : Lim (fun k => laws_FnTokens.j0 k x3 x4 x5 x6 x43) (laws_FnTokens.j0v x3 x4 x5 x6 x43) := Lim.of (fun k => (laws_FnTokens.mono_l k).1 x3 x4 x5 x6 x43)
noncomputable def laws_FnTokens.l0v (x3 : ByteArray) (x4 : List (S32)) (x5 : Int) (x6 : List (S32)) (x9 : Int) : Option (Bool) := limOf (fun k => laws_FnTokens.l0 k x3 x4 x5 x6 x9)
theorem laws_FnTokens.l0_lim (x3 : ByteArray) (x4 : List (S32)) (x5 : Int) (x6 : List (S32)) (x9 : Int) : Lim (fun k => laws_FnTokens.l0 k x3 x4 x5 x6 x9) (laws_FnTokens.l0v x3 x4 x5 x6 x9) := Lim.of (fun k => (laws_FnTokens.mono_l k).2.1 x3 x4 x5 x6 x9)
noncomputable def laws_FnTokens.j2v (x3 : ByteArray) (x4 : List (S32)) (x5 : Int) (x6 : List (S32)) (x9 : Int) (x84 : Bool) : Option (Bool) := limOf (fun k => laws_FnTokens.j2 k x3 x4 x5 x6 x9 x84)
theorem laws_FnTokens.j2_lim (x3 : ByteArray) (x4 : List (S32)) (x5 : Int) (x6 : List (S32)) (x9 : Int) (x84 : Bool) : Lim (fun k => laws_FnTokens.j2 k x3 x4 x5 x6 x9 x84) (laws_FnTokens.j2v x3 x4 x5 x6 x9 x84) := Lim.of (fun k => (laws_FnTokens.mono_l k).2.2 x3 x4 x5 x6 x9 x84)
noncomputable def laws_FnTokens.fv (l0 : List Int) : Option (Bool) := limOf (fun k => laws_FnTokens.f k l0)
theorem laws_FnTokens.f_lim (l0 : List Int) : Lim (fun k => laws_FnTokens.f k l0) (laws_FnTokens.fv l0) := Lim.of (fun k => laws_FnTokens.mono l0 k)
set_option maxHeartbeats 4000000 in
theorem laws_FnTokens.j0v_eq (x3 : ByteArray) (x4 : List (S32)) (x5 : Int) (x6 : List (S32)) (x43 : Bool) : laws_FnTokens.j0v x3 x4 x5 x6 x43 = (if x43 = true then (some false) else (laws_FnTokens.l0v x3 x4 x5 x6 0)) := by
  refine Lim.succ (laws_FnTokens.j0_lim x3 x4 x5 x6 x43) ?_
  simp only [laws_FnTokens.j0]
  repeat' first
    | (with_reducible apply laws_FnTokens.l0_lim)
    | (with_reducible exact Lim.const _)
    | (with_reducible refine Lim.ite ?_ ?_)
    | (with_reducible refine Lim.bind ?_ (fun _ => ?_))
    | apply laws_FnTokens.l0_lim
    | exact Lim.const _
    | refine Lim.ite ?_ ?_
    | refine Lim.bind ?_ (fun _ => ?_)
set_option maxHeartbeats 4000000 in
theorem laws_FnTokens.l0v_eq (x3 : ByteArray) (x4 : List (S32)) (x5 : Int) (x6 : List (S32)) (x9 : Int) : laws_FnTokens.l0v x3 x4 x5 x6 x9 = (if x9 < (x4.length : Int) then (if 0 ≤ x9 then (if x9 < (x6.length : Int) then (if (!(((rd_T32 x4 x9).f0) == ((rd_T32 x6 x9).f0)) || (!((((rd_T32 x4 x9).f1).toList) == (((rd_T32 x6 x9).f1).toList)) || (!(((rd_T32 x4 x9).f2) == ((rd_T32 x6 x9).f2)) || (!(((rd_T32 x4 x9).f3) == ((rd_T32 x6 x9).f3)))))) = true then (laws_FnTokens.j2v x3 x4 x5 x6 x9 true) else (if x9 > 0 then (if 0 ≤ (wrap64 (x9 - 1)) then (if (wrap64 (x9 - 1)) < (x4.length : Int) then (if ((rd_T32 x4 x9).f3) ≤ ((rd_T32 x4 (wrap64 (x9 - 1))).f3) then (laws_FnTokens.j2v x3 x4 x5 x6 x9 (((rd_T32 x4 x9).f0) != 0)) else (laws_FnTokens.j2v x3 x4 x5 x6 x9 false)) else (none)) else (none)) else (laws_FnTokens.j2v x3 x4 x5 x6 x9 false))) else (none)) else (none)) else (if x5 ≥ 0 then (if (x4.length : Int) = 0 then (some true) else (if x5 = (-1) then (if 0 ≤ (wrap64 ((x4.length : Int) - 1)) then (if (wrap64 ((x4.length : Int) - 1)) < (x4.length : Int) then (some (((rd_T32 x4 (wrap64 ((x4.length : Int) - 1))).f3) == (x3.size : Int))) else (none)) else (none)) else (some false))) else (if x5 = (-1) then (if 0 ≤ (wrap64 ((x4.length : Int) - 1)) then (if (wrap64 ((x4.length : Int) - 1)) < (x4.length : Int) then (some (((rd_T32 x4 (wrap64 ((x4.length : Int) - 1))).f3) == (x3.size : Int))) else (none)) else (none)) else (some false)))) := by
  refine Lim.succ (laws_FnTokens.l0_lim x3 x4 x5 x6 x9) ?_
  simp only [laws_FnTokens.l0]
  repeat' first
    | (with_reducible apply laws_FnTokens.j2_lim)
    | (with_reducible exact Lim.const _)
    | (with_reducible refine Lim.ite ?_ ?_)
    | (with_reducible refine Lim.bind ?_ (fun _ => ?_))
    | apply laws_FnTokens.j2_lim
    | exact Lim.const _
    | refine Lim.ite ?_ ?_
    | refine Lim.bind ?_ (fun _ => ?_)
set_option maxHeartbeats 4000000 in
theorem laws_FnTokens.j2v_eq (x3 : ByteArray) (x4 : List (S32)) (x5 : Int) (x6 : List (S32)) (x9 : Int) (x84 : Bool) : laws_FnTokens.j2v x3 x4 x5 x6 x9 x84 = (if x84 = true then (some false) else (if 0 ≤ x9 then (if x9 < (x4.length : Int) then (if ((rd_T32 x4 x9).f0) = 1 then (if 0 ≤ ((rd_T32 x4 x9).f3) then (if ((rd_T32 x4 x9).f3) ≤ (wrap64 (((rd_T32 x4 x9).f3) + (((rd_T32 x4 x9).f1).size : Int))) then (if (wrap64 (((rd_T32 x4 x9).f3) + (((rd_T32 x4 x9).f1).size : Int))) ≤ (x3.size : Int) then (if (x3.extract (((rd_T32 x4 x9).f3) : Int).toNat ((wrap64 (((rd_T32 x4 x9).f3) + (((rd_T32 x4 x9).f1).size : Int))) : Int).toNat).toList = ((rd_T32 x4 x9).f1).toList then (laws_FnTokens.l0v x3 x4 x5 x6 (wrap64 (x9 + 1))) else (some false)) else (none)) else (none)) else (none)) else (if ((rd_T32 x4 x9).f0) = 5 then (if 0 ≤ ((rd_T32 x4 x9).f3) then (if ((rd_T32 x4 x9).f3) ≤ (wrap64 (((rd_T32 x4 x9).f3) + (((rd_T32 x4 x9).f1).size : Int))) then (if (wrap64 (((rd_T32 x4 x9).f3) + (((rd_T32 x4 x9).f1).size : Int))) ≤ (x3.size : Int) then (if (x3.extract (((rd_T32 x4 x9).f3) : Int).toNat ((wrap64 (((rd_T32 x4 x9).f3) + (((rd_T32 x4 x9).f1).size : Int))) : Int).toNat).toList = ((rd_T32 x4 x9).f1).toList then (laws_FnTokens.l0v x3 x4 x5 x6 (wrap64 (x9 + 1))) else (some false)) else (none)) else (none)) else (none)) else (laws_FnTokens.l0v x3 x4 x5 x6 (wrap64 (x9 + 1))))) else (none)) else (none))) := by
  refine Lim.succ (laws_FnTokens.j2_lim x3 x4 x5 x6 x9 x84) ?_
  simp only [laws_FnTokens.j2]
  repeat' first
    | (with_reducible apply laws_FnTokens.l0_lim)
    | (with_reducible exact Lim.const _)
    | (with_reducible refine Lim.ite ?_ ?_)
    | (with_reducible refine Lim.bind ?_ (fun _ => ?_))
    | apply laws_FnTokens.l0_lim
    | exact Lim.const _
    | refine Lim.ite ?_ ?_
    | refine Lim.bind ?_ (fun _ => ?_)
set_option maxHeartbeats 4000000 in
theorem laws_FnTokens.fv_eq (l0 : List Int) : laws_FnTokens.fv l0 = ((laws_big.f l0).bind fun t373 => (if t373 = true then (some true) else ((spec_DrawTokens.fv l0).bind fun t374 => ((impl_Tokens.fv t374).bind fun bt375 => ((spec_Tokens.fv t374).bind fun bt379 => ((spec_DrawKeyword.fv l0).bind fun t383 => (if bt375.2 = bt379.2 then (if (bt375.1.length : Int) = (bt379.1.length : Int) then ((impl_Keyword.fv t383).bind fun t384 => ((spec_Keyword.fv t383).bind fun t385 => (laws_FnTokens.j0v t374 bt375.1 bt375.2 bt379.1 (t384 != t385)))) else (laws_FnTokens.j0v t374 bt375.1 bt375.2 bt379.1 true)) else (laws_FnTokens.j0v t374 bt375.1 bt375.2 bt379.1 true)))))))) := by
  refine Lim.eq (laws_FnTokens.f_lim l0) ?_
  simp only [laws_FnTokens.f]
  repeat' first
    | (with_reducible apply impl_Keyword.f_lim)
    | (with_reducible apply impl_Tokens.f_lim)
    | (with_reducible apply laws_FnTokens.j0_lim)
    | (with_reducible apply spec_DrawKeyword.f_lim)
    | (with_reducible apply spec_DrawTokens.f_lim)
    | (with_reducible apply spec_Keyword.f_lim)
    | (with_reducible apply spec_Tokens.f_lim)
    | (with_reducible exact Lim.const _)
    | (with_reducible refine Lim.ite ?_ ?_)
    | (with_reducible refine Lim.bind ?_ (fun _ => ?_))
    | apply impl_Keyword.f_lim
    | apply impl_Tokens.f_lim
    | apply laws_FnTokens.j0_lim
    | apply spec_DrawKeyword.f_lim
    | apply spec_DrawTokens.f_lim
    | apply spec_Keyword.f_lim
    | apply spec_Tokens.f_lim
    | exact Lim.const _
    | refine Lim.ite ?_ ?_
    | refine Lim.bind ?_ (fun _ => ?_)

end Go.Proofs.YtelaipnanpfniaaDoor.QFnTokens
