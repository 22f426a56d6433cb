/- Written by wip/pr2, a program of this session. -/
import Derived.Test.YthigelphmjepaaaDoorQFnExactToTextx0
import Derived.Test.YthigelphmjepaaaDoorLim
namespace Go.Proofs.YthigelphmjepaaaDoor.QFnExactToText
open Go.RowKit Go.Proofs.YthigelphmjepaaaDoorW.PrintWords Go.Proofs.YthigelphmjepaaaDoorW.PrintLast Go.Proofs.YthigelphmjepaaaDoorW.PrintMore
attribute [local go_sem] max2_int min2_int max_two min_two max_three min_three max_four min_four   -- for this text's walks alone
set_option linter.unusedVariables false
set_option linter.unusedSimpArgs false
set_option maxHeartbeats 8000000

open Go.Proofs.YthigelphmjepaaaDoorW.Lims
/-! ### laws_szVal -/
def laws_szVal.f (a0_0 : Int) (a0_1 : Int) (a0_2 : ByteArray) (a1 : Int) : Option (Int) := if (wrap64 (a1 - (a0_2.size : Int))) < 0 then (some (-1)) else (some (wrap64 (a1 - (a0_2.size : Int))))

/-! ### spec_l1In -/
def spec_l1In.f (a0 : Int) (a1 : Int) (a2 : Int) : Option (Bool) := if a0 ≥ a1 then (some (decide (a0 ≤ a2))) else (some false)

/-! ### spec_DecOk -/
def spec_DecOk.f (a0 : Int) : Option (Bool) := (spec_l1In.f a0 (-9000000000000) 9000000000000).bind fun t102 => (some t102)

/-! ### spec_l1Abs -/
def spec_l1Abs.f (a0 : Int) : Option (Int) := if a0 < 0 then (some (wrap64 (-a0))) else (some a0)

/-! ### spec_l2Digits -/
def spec_l2Digits.l0 : Nat → Int → ByteArray → Option (ByteArray)
  | 0, _, _ => none
  | k + 1, x0, x3 => if x0 > 0 then ((some (([(wrap64 (48 + (Int.tmod x0 10))) % 256] : List Int) : List Int)).bind fun y103 => (if (strOfNums y103).size + x3.size ≤ 9223372036854775807 then (spec_l2Digits.l0 k (wrap64 (Int.tdiv x0 10)) ((strOfNums y103) ++ x3)) else (none))) else (some x3)
def spec_l2Digits.f (k : Nat) (a0 : Int) : Option (ByteArray) := if a0 ≤ 0 then (some (⟨#[48]⟩ : ByteArray)) else (spec_l2Digits.l0 k a0 (⟨#[]⟩ : ByteArray))
theorem spec_l2Digits.mono_l : ∀ k, (∀ y0 y1, LeO (spec_l2Digits.l0 k y0 y1) (spec_l2Digits.l0 (k + 1) y0 y1))
  | 0 => fun _ _ r h => by simp [spec_l2Digits.l0] at h
  | k + 1 => by
    have ih0 := spec_l2Digits.mono_l k
    · intro y0 y1
      unfold spec_l2Digits.l0
      repeat' first
      | (with_reducible exact ih0 _ _)
      | (with_reducible exact LeO.refl _)
      | (with_reducible exact LeO.none _)
      | (with_reducible refine LeO.ite ?_ ?_)
      | (with_reducible refine LeO.bind ?_ (fun _ => ?_))
      | exact ih0 _ _
      | exact LeO.none _
      | refine LeO.ite ?_ ?_
      | refine LeO.bind ?_ (fun _ => ?_)
theorem spec_l2Digits.mono : ∀ a0 k, LeO (spec_l2Digits.f k a0) (spec_l2Digits.f (k + 1) a0) := by
  intro a0 k
  have ih0 := spec_l2Digits.mono_l k
  unfold spec_l2Digits.f
  repeat' first
      | (with_reducible exact ih0 _ _)
      | (with_reducible exact LeO.refl _)
      | (with_reducible exact LeO.none _)
      | (with_reducible refine LeO.ite ?_ ?_)
      | (with_reducible refine LeO.bind ?_ (fun _ => ?_))
      | exact ih0 _ _
      | exact LeO.none _
      | refine LeO.ite ?_ ?_
      | refine LeO.bind ?_ (fun _ => ?_)
noncomputable def spec_l2Digits.l0v (x0 : Int) (x3 : ByteArray) : Option (ByteArray) := limOf (fun k => spec_l2Digits.l0 k x0 x3)
theorem spec_l2Digits.l0_lim (x0 : Int) (x3 : ByteArray) : Lim (fun k => spec_l2Digits.l0 k x0 x3) (spec_l2Digits.l0v x0 x3) := Lim.of (fun k => spec_l2Digits.mono_l k x0 x3)
noncomputable def spec_l2Digits.fv (a0 : Int) : Option (ByteArray) := limOf (fun k => spec_l2Digits.f k a0)
theorem spec_l2Digits.f_lim (a0 : Int) : Lim (fun k => spec_l2Digits.f k a0) (spec_l2Digits.fv a0) := Lim.of (fun k => spec_l2Digits.mono a0 k)
set_option maxHeartbeats 4000000 in
theorem spec_l2Digits.l0v_eq (x0 : Int) (x3 : ByteArray) : spec_l2Digits.l0v x0 x3 = (if x0 > 0 then ((some (([(wrap64 (48 + (Int.tmod x0 10))) % 256] : List Int) : List Int)).bind fun y103 => (if (strOfNums y103).size + x3.size ≤ 9223372036854775807 then (spec_l2Digits.l0v (wrap64 (Int.tdiv x0 10)) ((strOfNums y103) ++ x3)) else (none))) else (some x3)) := by
  refine Lim.succ (spec_l2Digits.l0_lim x0 x3) ?_
  simp only [spec_l2Digits.l0]
  repeat' first
    | (with_reducible apply spec_l2Digits.l0_lim)
    | (with_reducible exact Lim.const _)
    | (with_reducible refine Lim.ite ?_ ?_)
    | (with_reducible refine Lim.bind ?_ (fun _ => ?_))
    | apply spec_l2Digits.l0_lim
    | exact Lim.const _
    | refine Lim.ite ?_ ?_
    | refine Lim.bind ?_ (fun _ => ?_)
set_option maxHeartbeats 4000000 in
theorem spec_l2Digits.fv_eq (a0 : Int) : spec_l2Digits.fv a0 = (if a0 ≤ 0 then (some (⟨#[48]⟩ : ByteArray)) else (spec_l2Digits.l0v a0 (⟨#[]⟩ : ByteArray))) := by
  refine Lim.eq (spec_l2Digits.f_lim a0) ?_
  simp only [spec_l2Digits.f]
  repeat' first
    | (with_reducible apply spec_l2Digits.l0_lim)
    | (with_reducible exact Lim.const _)
    | (with_reducible refine Lim.ite ?_ ?_)
    | (with_reducible refine Lim.bind ?_ (fun _ => ?_))
    | apply spec_l2Digits.l0_lim
    | exact Lim.const _
    | refine Lim.ite ?_ ?_
    | refine Lim.bind ?_ (fun _ => ?_)

/-! ### spec_DecText -/
def spec_DecText.l0 : Nat → Int → ByteArray → ByteArray → Option (ByteArray)
  | 0, _, _, _ => none
  | k + 1, x0, x4, x6 => if 0 ≤ (wrap64 ((x6.size : Int) - 1)) then (if (wrap64 ((x6.size : Int) - 1)) < (x6.size : Int) then (if (bt x6 (wrap64 ((x6.size : Int) - 1))) = 48 then (if (wrap64 ((x6.size : Int) - 1)) ≤ (x6.size : Int) then (spec_DecText.l0 k x0 x4 (x6.extract 0 ((wrap64 ((x6.size : Int) - 1)) : Int).toNat)) else (none)) else (if x4.size + 1 ≤ 9223372036854775807 then (if (x4 ++ (⟨#[46]⟩ : ByteArray)).size + x6.size ≤ 9223372036854775807 then (if x0 < 0 then (if 1 + ((x4 ++ (⟨#[46]⟩ : ByteArray)) ++ x6).size ≤ 9223372036854775807 then (some ((⟨#[45]⟩ : ByteArray) ++ ((x4 ++ (⟨#[46]⟩ : ByteArray)) ++ x6))) else (none)) else (some ((x4 ++ (⟨#[46]⟩ : ByteArray)) ++ x6))) else (none)) else (none))) else (none)) else (none)
def spec_DecText.f (k : Nat) (a0 : Int) : Option (ByteArray) := (spec_DecOk.f a0).bind fun t106 => (if t106 = true then ((spec_l1Abs.f a0).bind fun t107 => ((spec_l2Digits.f k (wrap64 (Int.tdiv t107 1000000))).bind fun t108 => (if (Int.tmod t107 1000000) > 0 then ((spec_l2Digits.f k (wrap64 (1000000 + (Int.tmod t107 1000000)))).bind fun t109 => (if 1 ≤ (t109.size : Int) then (spec_DecText.l0 k a0 t108 (t109.extract 1 t109.size)) else (none))) else (if a0 < 0 then (if 1 + t108.size ≤ 9223372036854775807 then (some ((⟨#[45]⟩ : ByteArray) ++ t108)) else (none)) else (some t108))))) else (some (⟨#[]⟩ : ByteArray)))
theorem spec_DecText.mono_l : ∀ k, (∀ y0 y1 y2, LeO (spec_DecText.l0 k y0 y1 y2) (spec_DecText.l0 (k + 1) y0 y1 y2))
  | 0 => fun _ _ _ r h => by simp [spec_DecText.l0] at h
  | k + 1 => by
    have ih0 := spec_DecText.mono_l k
    · intro y0 y1 y2
      unfold spec_DecText.l0
      repeat' first
      | (with_reducible exact ih0 _ _ _)
      | (with_reducible exact spec_l2Digits.mono _ _)
      | (with_reducible exact LeO.refl _)
      | (with_reducible exact LeO.none _)
      | (with_reducible refine LeO.ite ?_ ?_)
      | (with_reducible refine LeO.bind ?_ (fun _ => ?_))
      | exact ih0 _ _ _
      | exact spec_l2Digits.mono _ _
      | exact LeO.none _
      | refine LeO.ite ?_ ?_
      | refine LeO.bind ?_ (fun _ => ?_)
theorem spec_DecText.mono : ∀ a0 k, LeO (spec_DecText.f k a0) (spec_DecText.f (k + 1) a0) := by
  intro a0 k
  have ih0 := spec_DecText.mono_l k
  unfold spec_DecText.f
  repeat' first
      | (with_reducible exact ih0 _ _ _)
      | (with_reducible exact spec_l2Digits.mono _ _)
      | (with_reducible exact LeO.refl _)
      | (with_reducible exact LeO.none _)
      | (with_reducible refine LeO.ite ?_ ?_)
      | (with_reducible refine LeO.bind ?_ (fun _ => ?_))
      | exact ih0 _ _ _
      | exact spec_l2Digits.mono _ _
      | exact LeO.none _
      | refine LeO.ite ?_ ?_
      | refine LeO.bind ?_ (fun _ => ?_)
noncomputable def spec_DecText.l0v (x0 : Int) (x4 : ByteArray) (x6 : ByteArray) : Option (ByteArray) := limOf (fun k => spec_DecText.l0 k x0 x4 x6)
theorem spec_DecText.l0_lim (x0 : Int) (x4 : ByteArray) (x6 : ByteArray) : Lim (fun k => spec_DecText.l0 k x0 x4 x6) (spec_DecText.l0v x0 x4 x6) := Lim.of (fun k => spec_DecText.mono_l k x0 x4 x6)
noncomputable def spec_DecText.fv (a0 : Int) : Option (ByteArray) := limOf (fun k => spec_DecText.f k a0)
theorem spec_DecText.f_lim (a0 : Int) : Lim (fun k => spec_DecText.f k a0) (spec_DecText.fv a0) := Lim.of (fun k => spec_DecText.mono a0 k)
set_option maxHeartbeats 4000000 in
theorem spec_DecText.l0v_eq (x0 : Int) (x4 : ByteArray) (x6 : ByteArray) : spec_DecText.l0v x0 x4 x6 = (if 0 ≤ (wrap64 ((x6.size : Int) - 1)) then (if (wrap64 ((x6.size : Int) - 1)) < (x6.size : Int) then (if (bt x6 (wrap64 ((x6.size : Int) - 1))) = 48 then (if (wrap64 ((x6.size : Int) - 1)) ≤ (x6.size : Int) then (spec_DecText.l0v x0 x4 (x6.extract 0 ((wrap64 ((x6.size : Int) - 1)) : Int).toNat)) else (none)) else (if x4.size + 1 ≤ 9223372036854775807 then (if (x4 ++ (⟨#[46]⟩ : ByteArray)).size + x6.size ≤ 9223372036854775807 then (if x0 < 0 then (if 1 + ((x4 ++ (⟨#[46]⟩ : ByteArray)) ++ x6).size ≤ 9223372036854775807 then (some ((⟨#[45]⟩ : ByteArray) ++ ((x4 ++ (⟨#[46]⟩ : ByteArray)) ++ x6))) else (none)) else (some ((x4 ++ (⟨#[46]⟩ : ByteArray)) ++ x6))) else (none)) else (none))) else (none)) else (none)) := by
  refine Lim.succ (spec_DecText.l0_lim x0 x4 x6) ?_
  simp only [spec_DecText.l0]
  repeat' first
    | (with_reducible apply spec_DecText.l0_lim)
    | (with_reducible exact Lim.const _)
    | (with_reducible refine Lim.ite ?_ ?_)
    | (with_reducible refine Lim.bind ?_ (fun _ => ?_))
    | apply spec_DecText.l0_lim
    | exact Lim.const _
    | refine Lim.ite ?_ ?_
    | refine Lim.bind ?_ (fun _ => ?_)
set_option maxHeartbeats 4000000 in
theorem spec_DecText.fv_eq (a0 : Int) : spec_DecText.fv a0 = ((spec_DecOk.f a0).bind fun t106 => (if t106 = true then ((spec_l1Abs.f a0).bind fun t107 => ((spec_l2Digits.fv (wrap64 (Int.tdiv t107 1000000))).bind fun t108 => (if (Int.tmod t107 1000000) > 0 then ((spec_l2Digits.fv (wrap64 (1000000 + (Int.tmod t107 1000000)))).bind fun t109 => (if 1 ≤ (t109.size : Int) then (spec_DecText.l0v a0 t108 (t109.extract 1 t109.size)) else (none))) else (if a0 < 0 then (if 1 + t108.size ≤ 9223372036854775807 then (some ((⟨#[45]⟩ : ByteArray) ++ t108)) else (none)) else (some t108))))) else (some (⟨#[]⟩ : ByteArray)))) := by
  refine Lim.eq (spec_DecText.f_lim a0) ?_
  simp only [spec_DecText.f]
  repeat' first
    | (with_reducible apply spec_DecText.l0_lim)
    | (with_reducible apply spec_l2Digits.f_lim)
    | (with_reducible exact Lim.const _)
    | (with_reducible refine Lim.ite ?_ ?_)
    | (with_reducible refine Lim.bind ?_ (fun _ => ?_))
    | apply spec_DecText.l0_lim
    | apply spec_l2Digits.f_lim
    | exact Lim.const _
    | refine Lim.ite ?_ ?_
    | refine Lim.bind ?_ (fun _ => ?_)

/-! ### spec_ToText -/
def spec_ToText.f (k : Nat) (a0_0 : Int) (a0_1 : Int) (a0_2 : ByteArray) : Option (ByteArray) := if a0_0 = 1 then ((spec_DecText.f k a0_1).bind fun t111 => (some t111)) else (some a0_2)
theorem spec_ToText.mono : ∀ a0 a1 a2 k, LeO (spec_ToText.f k a0 a1 a2) (spec_ToText.f (k + 1) a0 a1 a2) := by
  intro a0 a1 a2 k
  unfold spec_ToText.f
  repeat' first
      | (with_reducible exact spec_DecText.mono _ _)
      | (with_reducible exact LeO.refl _)
      | (with_reducible exact LeO.none _)
      | (with_reducible refine LeO.ite ?_ ?_)
      | (with_reducible refine LeO.bind ?_ (fun _ => ?_))
      | exact spec_DecText.mono _ _
      | exact LeO.none _
      | refine LeO.ite ?_ ?_
      | refine LeO.bind ?_ (fun _ => ?_)
noncomputable def spec_ToText.fv (a0_0 : Int) (a0_1 : Int) (a0_2 : ByteArray) : Option (ByteArray) := limOf (fun k => spec_ToText.f k a0_0 a0_1 a0_2)
theorem spec_ToText.f_lim (a0_0 : Int) (a0_1 : Int) (a0_2 : ByteArray) : Lim (fun k => spec_ToText.f k a0_0 a0_1 a0_2) (spec_ToText.fv a0_0 a0_1 a0_2) := Lim.of (fun k => spec_ToText.mono a0_0 a0_1 a0_2 k)
set_option maxHeartbeats 4000000 in
theorem spec_ToText.fv_eq (a0_0 : Int) (a0_1 : Int) (a0_2 : ByteArray) : spec_ToText.fv a0_0 a0_1 a0_2 = (if a0_0 = 1 then ((spec_DecText.fv a0_1).bind fun t111 => (some t111)) else (some a0_2)) := by
  refine Lim.eq (spec_ToText.f_lim a0_0 a0_1 a0_2) ?_
  simp only [spec_ToText.f]
  repeat' first
    | (with_reducible apply spec_DecText.f_lim)
    | (with_reducible exact Lim.const _)
    | (with_reducible refine Lim.ite ?_ ?_)
    | (with_reducible refine Lim.bind ?_ (fun _ => ?_))
    | apply spec_DecText.f_lim
    | exact Lim.const _
    | refine Lim.ite ?_ ?_
    | refine Lim.bind ?_ (fun _ => ?_)

/-! ### laws_toVal -/
def laws_toVal.f (a0_0 : Int) (a0_1 : Int) (a0_2 : ByteArray) : Option (Int × Int × ByteArray) := some (a0_0, a0_1, a0_2)

/-! ### impl_in -/
def impl_in.f (a0 : Int) (a1 : Int) (a2 : Int) : Option (Bool) := if a0 ≥ a1 then (some (decide (a0 ≤ a2))) else (some false)

/-! ### impl_DecOk -/
def impl_DecOk.f (a0 : Int) : Option (Bool) := (impl_in.f a0 (-9000000000000) 9000000000000).bind fun t115 => (some t115)

/-! ### strconv_Itoa -/
def strconv_Itoa.f (a0 : Int) : Option (ByteArray) := if -9223372036854775808 ≤ a0 ∧ a0 ≤ 9223372036854775807 then some ⟨(Lib.itoa a0).toArray⟩ else none

/-! ### strings_TrimRight -/
def strings_TrimRight.f (a0 : ByteArray) (a1 : ByteArray) : Option (ByteArray) := match a1.data.toList with | [c_] => if c_.toNat < 128 ∧ a0.size ≤ 9223372036854775807 then some ⟨(Lib.trimRightB a0.data.toList c_).toArray⟩ else none | _ => none

/-! ### impl_DecText -/
def impl_DecText.j0 : Nat → Int → ByteArray → Option (ByteArray)
  | 0, _, _ => none
  | k + 1, x0, x3 => (strconv_Itoa.f (wrap64 (Int.tdiv x0 1000000))).bind fun t117 => (if x3.size + t117.size ≤ 9223372036854775807 then (if (Int.tmod x0 1000000) > 0 then ((strconv_Itoa.f (wrap64 (1000000 + (Int.tmod x0 1000000)))).bind fun t118 => (if 1 ≤ (t118.size : Int) then ((strings_TrimRight.f (t118.extract 1 t118.size) (⟨#[48]⟩ : ByteArray)).bind fun t119 => (if 1 + t119.size ≤ 9223372036854775807 then (if (x3 ++ t117).size + ((⟨#[46]⟩ : ByteArray) ++ t119).size ≤ 9223372036854775807 then (some ((x3 ++ t117) ++ ((⟨#[46]⟩ : ByteArray) ++ t119))) else (none)) else (none))) else (none))) else (some (x3 ++ t117))) else (none))
def impl_DecText.f (k : Nat) (a0 : Int) : Option (ByteArray) := (impl_DecOk.f a0).bind fun t116 => (if t116 = true then (if a0 < 0 then (impl_DecText.j0 k (wrap64 (-a0)) (⟨#[45]⟩ : ByteArray)) else (impl_DecText.j0 k a0 (⟨#[]⟩ : ByteArray))) else (some (⟨#[]⟩ : ByteArray)))
theorem impl_DecText.mono_l : ∀ k, (∀ y0 y1, LeO (impl_DecText.j0 k y0 y1) (impl_DecText.j0 (k + 1) y0 y1))
  | 0 => fun _ _ r h => by simp [impl_DecText.j0] at h
  | k + 1 => by
    have ih0 := impl_DecText.mono_l k
    · intro y0 y1
      unfold impl_DecText.j0
      repeat' first
      | (with_reducible exact ih0 _ _)
      | (with_reducible exact LeO.refl _)
      | (with_reducible exact LeO.none _)
      | (with_reducible refine LeO.ite ?_ ?_)
      | (with_reducible refine LeO.bind ?_ (fun _ => ?_))
      | exact ih0 _ _
      | exact LeO.none _
      | refine LeO.ite ?_ ?_
      | refine LeO.bind ?_ (fun _ => ?_)
theorem impl_DecText.mono : ∀ a0 k, LeO (impl_DecText.f k a0) (impl_DecText.f (k + 1) a0) := by
  intro a0 k
  have ih0 := impl_DecText.mono_l k
  unfold impl_DecText.f
  repeat' first
      | (with_reducible exact ih0 _ _)
      | (with_reducible exact LeO.refl _)
      | (with_reducible exact LeO.none _)
      | (with_reducible refine LeO.ite ?_ ?_)
      | (with_reducible refine LeO.bind ?_ (fun _ => ?_))
      | exact ih0 _ _
      | exact LeO.none _
      | refine LeO.ite ?_ ?_
      | refine LeO.bind ?_ (fun _ => ?_)
noncomputable def impl_DecText.j0v (x0 : Int) (x3 : ByteArray) : Option (ByteArray) := limOf (fun k => impl_DecText.j0 k x0 x3)
theorem impl_DecText.j0_lim (x0 : Int) (x3 : ByteArray) : Lim (fun k => impl_DecText.j0 k x0 x3) (impl_DecText.j0v x0 x3) := Lim.of (fun k => impl_DecText.mono_l k x0 x3)
noncomputable def impl_DecText.fv (a0 : Int) : Option (ByteArray) := limOf (fun k => impl_DecText.f k a0)
theorem impl_DecText.f_lim (a0 : Int) : Lim (fun k => impl_DecText.f k a0) (impl_DecText.fv a0) := Lim.of (fun k => impl_DecText.mono a0 k)
set_option maxHeartbeats 4000000 in
theorem impl_DecText.j0v_eq (x0 : Int) (x3 : ByteArray) : impl_DecText.j0v x0 x3 = ((strconv_Itoa.f (wrap64 (Int.tdiv x0 1000000))).bind fun t117 => (if x3.size + t117.size ≤ 9223372036854775807 then (if (Int.tmod x0 1000000) > 0 then ((strconv_Itoa.f (wrap64 (1000000 + (Int.tmod x0 1000000)))).bind fun t118 => (if 1 ≤ (t118.size : Int) then ((strings_TrimRight.f (t118.extract 1 t118.size) (⟨#[48]⟩ : ByteArray)).bind fun t119 => (if 1 + t119.size ≤ 9223372036854775807 then (if (x3 ++ t117).size + ((⟨#[46]⟩ : ByteArray) ++ t119).size ≤ 9223372036854775807 then (some ((x3 ++ t117) ++ ((⟨#[46]⟩ : ByteArray) ++ t119))) else (none)) else (none))) else (none))) else (some (x3 ++ t117))) else (none))) := by
  refine Lim.succ (impl_DecText.j0_lim x0 x3) ?_
  simp only [impl_DecText.j0]
  repeat' first
    | (with_reducible exact Lim.const _)
    | (with_reducible refine Lim.ite ?_ ?_)
    | (with_reducible refine Lim.bind ?_ (fun _ => ?_))
    | exact Lim.const _
    | refine Lim.ite ?_ ?_
    | refine Lim.bind ?_ (fun _ => ?_)
set_option maxHeartbeats 4000000 in
theorem impl_DecText.fv_eq (a0 : Int) : impl_DecText.fv a0 = ((impl_DecOk.f a0).bind fun t116 => (if t116 = true then (if a0 < 0 then (impl_DecText.j0v (wrap64 (-a0)) (⟨#[45]⟩ : ByteArray)) else (impl_DecText.j0v a0 (⟨#[]⟩ : ByteArray))) else (some (⟨#[]⟩ : ByteArray)))) := by
  refine Lim.eq (impl_DecText.f_lim a0) ?_
  simp only [impl_DecText.f]
  repeat' first
    | (with_reducible apply impl_DecText.j0_lim)
    | (with_reducible exact Lim.const _)
    | (with_reducible refine Lim.ite ?_ ?_)
    | (with_reducible refine Lim.bind ?_ (fun _ => ?_))
    | apply impl_DecText.j0_lim
    | exact Lim.const _
    | refine Lim.ite ?_ ?_
    | refine Lim.bind ?_ (fun _ => ?_)

/-! ### impl_ToText -/
def impl_ToText.f (k : Nat) (a0_0 : Int) (a0_1 : Int) (a0_2 : ByteArray) : Option (ByteArray) := if a0_0 = 1 then ((impl_DecText.f k a0_1).bind fun t121 => (some t121)) else (some a0_2)
theorem impl_ToText.mono : ∀ a0 a1 a2 k, LeO (impl_ToText.f k a0 a1 a2) (impl_ToText.f (k + 1) a0 a1 a2) := by
  intro a0 a1 a2 k
  unfold impl_ToText.f
  repeat' first
      | (with_reducible exact impl_DecText.mono _ _)
      | (with_reducible exact LeO.refl _)
      | (with_reducible exact LeO.none _)
      | (with_reducible refine LeO.ite ?_ ?_)
      | (with_reducible refine LeO.bind ?_ (fun _ => ?_))
      | exact impl_DecText.mono _ _
      | exact LeO.none _
      | refine LeO.ite ?_ ?_
      | refine LeO.bind ?_ (fun _ => ?_)
noncomputable def impl_ToText.fv (a0_0 : Int) (a0_1 : Int) (a0_2 : ByteArray) : Option (ByteArray) := limOf (fun k => impl_ToText.f k a0_0 a0_1 a0_2)
theorem impl_ToText.f_lim (a0_0 : Int) (a0_1 : Int) (a0_2 : ByteArray) : Lim (fun k => impl_ToText.f k a0_0 a0_1 a0_2) (impl_ToText.fv a0_0 a0_1 a0_2) := Lim.of (fun k => impl_ToText.mono a0_0 a0_1 a0_2 k)
set_option maxHeartbeats 4000000 in
theorem impl_ToText.fv_eq (a0_0 : Int) (a0_1 : Int) (a0_2 : ByteArray) : impl_ToText.fv a0_0 a0_1 a0_2 = (if a0_0 = 1 then ((impl_DecText.fv a0_1).bind fun t121 => (some t121)) else (some a0_2)) := by
  refine Lim.eq (impl_ToText.f_lim a0_0 a0_1 a0_2) ?_
  simp only [impl_ToText.f]
  repeat' first
    | (with_reducible apply impl_DecText.f_lim)
    | (with_reducible exact Lim.const _)
    | (with_reducible refine Lim.ite ?_ ?_)
    | (with_reducible refine Lim.bind ?_ (fun _ => ?_))
    | apply impl_DecText.f_lim
    | exact Lim.const _
    | refine Lim.ite ?_ ?_
    | refine Lim.bind ?_ (fun _ => ?_)

/-! ### laws_FnExactToText -/
def laws_FnExactToText.f (k : Nat) (a0_0 : Int) (a0_1 : Int) (a0_2 : ByteArray) : Option (Bool) := (laws_szVal.f a0_0 a0_1 a0_2 1048576).bind fun t123 => (if t123 < 0 then (some true) else ((laws_toVal.f a0_0 a0_1 a0_2).bind fun bt124 => ((spec_ToText.f k bt124.1 bt124.2.1 bt124.2.2).bind fun t127 => ((laws_toVal.f a0_0 a0_1 a0_2).bind fun bt128 => ((impl_ToText.f k bt128.1 bt128.2.1 bt128.2.2).bind fun t131 => (if t131.toList = t127.toList then (some true) else (some false)))))))
theorem laws_FnExactToText.mono : ∀ a0 a1 a2 k, LeO (laws_FnExactToText.f k a0 a1 a2) (laws_FnExactToText.f (k + 1) a0 a1 a2) := by
  intro a0 a1 a2 k
  unfold laws_FnExactToText.f
  repeat' first
      | (with_reducible exact impl_ToText.mono _ _ _ _)
      | (with_reducible exact spec_ToText.mono _ _ _ _)
      | (with_reducible exact LeO.refl _)
      | (with_reducible exact LeO.none _)
      | (with_reducible refine LeO.ite ?_ ?_)
      | (with_reducible refine LeO.bind ?_ (fun _ => ?_))
      | exact impl_ToText.mono _ _ _ _
      | exact spec_ToText.mono _ _ _ _
      | exact LeO.none _
      | refine LeO.ite ?_ ?_
      | refine LeO.bind ?_ (fun _ => ?_)
noncomputable def laws_FnExactToText.fv (a0_0 : Int) (a0_1 : Int) (a0_2 : ByteArray) : Option (Bool) := limOf (fun k => laws_FnExactToText.f k a0_0 a0_1 a0_2)
theorem laws_FnExactToText.f_lim (a0_0 : Int) (a0_1 : Int) (a0_2 : ByteArray) : Lim (fun k => laws_FnExactToText.f k a0_0 a0_1 a0_2) (laws_FnExactToText.fv a0_0 a0_1 a0_2) := Lim.of (fun k => laws_FnExactToText.mono a0_0 a0_1 a0_2 k)
set_option maxHeartbeats 4000000 in
theorem laws_FnExactToText.fv_eq (a0_0 : Int) (a0_1 : Int) (a0_2 : ByteArray) : laws_FnExactToText.fv a0_0 a0_1 a0_2 = ((laws_szVal.f a0_0 a0_1 a0_2 1048576).bind fun t123 => (if t123 < 0 then (some true) else ((laws_toVal.f a0_0 a0_1 a0_2).bind fun bt124 => ((spec_ToText.fv bt124.1 bt124.2.1 bt124.2.2).bind fun t127 => ((laws_toVal.f a0_0 a0_1 a0_2).bind fun bt128 => ((impl_ToText.fv bt128.1 bt128.2.1 bt128.2.2).bind fun t131 => (if t131.toList = t127.toList then (some true) else (some false)))))))) := by
  refine Lim.eq (laws_FnExactToText.f_lim a0_0 a0_1 a0_2) ?_
  simp only [laws_FnExactToText.f]
  repeat' first
    | (with_reducible apply impl_ToText.f_lim)
    | (with_reducible apply spec_ToText.f_lim)
    | (with_reducible exact Lim.const _)
    | (with_reducible refine Lim.ite ?_ ?_)
    | (with_reducible refine Lim.bind ?_ (fun _ => ?_))
    | apply impl_ToText.f_lim
    | apply spec_ToText.f_lim
    | exact Lim.const _
    | refine Lim.ite ?_ ?_
    | refine Lim.bind ?_ (fun _ => ?_)

end Go.Proofs.YthigelphmjepaaaDoor.QFnExactToText
