/- Written by wip/pr2, a program of this session. -/
import Derived.Test.YtejndaljfbclnaaDoorQFnExactComparex0
import Derived.Test.YtejndaljfbclnaaDoorQFnExactComparex1
import Derived.Test.YtejndaljfbclnaaDoorLim
namespace Go.Proofs.YtejndaljfbclnaaDoor.QFnExactCompare
open Go.RowKit Go.Proofs.YtejndaljfbclnaaDoorW.PrintWords Go.Proofs.YtejndaljfbclnaaDoorW.PrintLast Go.Proofs.YtejndaljfbclnaaDoorW.PrintMore
attribute [local go_sem] max2_int min2_int max_two min_two max_three min_three max_four min_four   -- for this text's walks alone
set_option linter.unusedVariables false
set_option linter.unusedSimpArgs false
set_option maxHeartbeats 8000000

open Go.Proofs.YtejndaljfbclnaaDoorW.Lims
/-! ### impl_DecText -/
def impl_DecText.j0 : Nat → Int → ByteArray → Option (ByteArray)
  | 0, _, _ => none
  | k + 1, x0, x3 => (strconv_Itoa.f (wrap64 (Int.tdiv x0 1000000))).bind fun t135 => (if x3.size + t135.size ≤ 9223372036854775807 then (if (Int.tmod x0 1000000) > 0 then ((strconv_Itoa.f (wrap64 (1000000 + (Int.tmod x0 1000000)))).bind fun t136 => (if 1 ≤ (t136.size : Int) then ((strings_TrimRight.f (t136.extract 1 t136.size) (⟨#[48]⟩ : ByteArray)).bind fun t137 => (if 1 + t137.size ≤ 9223372036854775807 then (if (x3 ++ t135).size + ((⟨#[46]⟩ : ByteArray) ++ t137).size ≤ 9223372036854775807 then (some ((x3 ++ t135) ++ ((⟨#[46]⟩ : ByteArray) ++ t137))) else (none)) else (none))) else (none))) else (some (x3 ++ t135))) else (none))
def impl_DecText.f (k : Nat) (a0 : Int) : Option (ByteArray) := (impl_DecOk.f a0).bind fun t134 => (if t134 = true then (if a0 < 0 then (impl_DecText.j0 k (wrap64 (-a0)) (⟨#[45]⟩ : ByteArray)) else (impl_DecText.j0 k a0 (⟨#[]⟩ : ByteArray))) else (some (⟨#[]⟩ : ByteArray)))
theorem impl_DecText.mono_l : ∀ k, (∀ y0 y1, LeO (impl_DecText.j0 k y0 y1) (impl_DecText.j0 (k + 1) y0 y1))
  | 0 => fun _ _ r h => by simp [impl_DecText.j0] at h
  | k + 1 => by
    have ih0 := impl_DecText.mono_l k
    · intro y0 y1
      unfold impl_DecText.j0
      repeat' first
      | (with_reducible exact ih0 _ _)
      | (with_reducible exact LeO.refl _)
      | (with_reducible exact LeO.none _)
      | (with_reducible refine LeO.ite ?_ ?_)
      | (with_reducible refine LeO.bind ?_ (fun _ => ?_))
      | exact ih0 _ _
      | exact LeO.none _
      | refine LeO.ite ?_ ?_
      | refine LeO.bind ?_ (fun _ => ?_)
theorem impl_DecText.mono : ∀ a0 k, LeO (impl_DecText.f k a0) (impl_DecText.f (k + 1) a0) := by
  intro a0 k
  have ih0 := impl_DecText.mono_l k
  unfold impl_DecText.f
  repeat' first
      | (with_reducible exact ih0 _ _)
      | (with_reducible exact LeO.refl _)
      | (with_reducible exact LeO.none _)
      | (with_reducible refine LeO.ite ?_ ?_)
      | (with_reducible refine LeO.bind ?_ (fun _ => ?_))
      | exact ih0 _ _
      | exact LeO.none _
      | refine LeO.ite ?_ ?_
      | refine LeO.bind ?_ (fun _ => ?_)
noncomputable def impl_DecText.j0v (x0 : Int) (x3 : ByteArray) : Option (ByteArray) := limOf (fun k => impl_DecText.j0 k x0 x3)
theorem impl_DecText.j0_lim (x0 : Int) (x3 : ByteArray) : Lim (fun k => impl_DecText.j0 k x0 x3) (impl_DecText.j0v x0 x3) := Lim.of (fun k => impl_DecText.mono_l k x0 x3)
noncomputable def impl_DecText.fv (a0 : Int) : Option (ByteArray) := limOf (fun k => impl_DecText.f k a0)
theorem impl_DecText.f_lim (a0 : Int) : Lim (fun k => impl_DecText.f k a0) (impl_DecText.fv a0) := Lim.of (fun k => impl_DecText.mono a0 k)
set_option maxHeartbeats 4000000 in
theorem impl_DecText.j0v_eq (x0 : Int) (x3 : ByteArray) : impl_DecText.j0v x0 x3 = ((strconv_Itoa.f (wrap64 (Int.tdiv x0 1000000))).bind fun t135 => (if x3.size + t135.size ≤ 9223372036854775807 then (if (Int.tmod x0 1000000) > 0 then ((strconv_Itoa.f (wrap64 (1000000 + (Int.tmod x0 1000000)))).bind fun t136 => (if 1 ≤ (t136.size : Int) then ((strings_TrimRight.f (t136.extract 1 t136.size) (⟨#[48]⟩ : ByteArray)).bind fun t137 => (if 1 + t137.size ≤ 9223372036854775807 then (if (x3 ++ t135).size + ((⟨#[46]⟩ : ByteArray) ++ t137).size ≤ 9223372036854775807 then (some ((x3 ++ t135) ++ ((⟨#[46]⟩ : ByteArray) ++ t137))) else (none)) else (none))) else (none))) else (some (x3 ++ t135))) else (none))) := by
  refine Lim.succ (impl_DecText.j0_lim x0 x3) ?_
  simp only [impl_DecText.j0]
  repeat' first
    | (with_reducible exact Lim.const _)
    | (with_reducible refine Lim.ite ?_ ?_)
    | (with_reducible refine Lim.bind ?_ (fun _ => ?_))
    | exact Lim.const _
    | refine Lim.ite ?_ ?_
    | refine Lim.bind ?_ (fun _ => ?_)
set_option maxHeartbeats 4000000 in
theorem impl_DecText.fv_eq (a0 : Int) : impl_DecText.fv a0 = ((impl_DecOk.f a0).bind fun t134 => (if t134 = true then (if a0 < 0 then (impl_DecText.j0v (wrap64 (-a0)) (⟨#[45]⟩ : ByteArray)) else (impl_DecText.j0v a0 (⟨#[]⟩ : ByteArray))) else (some (⟨#[]⟩ : ByteArray)))) := by
  refine Lim.eq (impl_DecText.f_lim a0) ?_
  simp only [impl_DecText.f]
  repeat' first
    | (with_reducible apply impl_DecText.j0_lim)
    | (with_reducible exact Lim.const _)
    | (with_reducible refine Lim.ite ?_ ?_)
    | (with_reducible refine Lim.bind ?_ (fun _ => ?_))
    | apply impl_DecText.j0_lim
    | exact Lim.const _
    | refine Lim.ite ?_ ?_
    | refine Lim.bind ?_ (fun _ => ?_)

/-! ### impl_ToText -/
def impl_ToText.f (k : Nat) (a0_0 : Int) (a0_1 : Int) (a0_2 : ByteArray) : Option (ByteArray) := if a0_0 = 1 then ((impl_DecText.f k a0_1).bind fun t139 => (some t139)) else (some a0_2)
theorem impl_ToText.mono : ∀ a0 a1 a2 k, LeO (impl_ToText.f k a0 a1 a2) (impl_ToText.f (k + 1) a0 a1 a2) := by
  intro a0 a1 a2 k
  unfold impl_ToText.f
  repeat' first
      | (with_reducible exact impl_DecText.mono _ _)
      | (with_reducible exact LeO.refl _)
      | (with_reducible exact LeO.none _)
      | (with_reducible refine LeO.ite ?_ ?_)
      | (with_reducible refine LeO.bind ?_ (fun _ => ?_))
      | exact impl_DecText.mono _ _
      | exact LeO.none _
      | refine LeO.ite ?_ ?_
      | refine LeO.bind ?_ (fun _ => ?_)
noncomputable def impl_ToText.fv (a0_0 : Int) (a0_1 : Int) (a0_2 : ByteArray) : Option (ByteArray) := limOf (fun k => impl_ToText.f k a0_0 a0_1 a0_2)
theorem impl_ToText.f_lim (a0_0 : Int) (a0_1 : Int) (a0_2 : ByteArray) : Lim (fun k => impl_ToText.f k a0_0 a0_1 a0_2) (impl_ToText.fv a0_0 a0_1 a0_2) := Lim.of (fun k => impl_ToText.mono a0_0 a0_1 a0_2 k)
set_option maxHeartbeats 4000000 in
theorem impl_ToText.fv_eq (a0_0 : Int) (a0_1 : Int) (a0_2 : ByteArray) : impl_ToText.fv a0_0 a0_1 a0_2 = (if a0_0 = 1 then ((impl_DecText.fv a0_1).bind fun t139 => (some t139)) else (some a0_2)) := by
  refine Lim.eq (impl_ToText.f_lim a0_0 a0_1 a0_2) ?_
  simp only [impl_ToText.f]
  repeat' first
    | (with_reducible apply impl_DecText.f_lim)
    | (with_reducible exact Lim.const _)
    | (with_reducible refine Lim.ite ?_ ?_)
    | (with_reducible refine Lim.bind ?_ (fun _ => ?_))
    | apply impl_DecText.f_lim
    | exact Lim.const _
    | refine Lim.ite ?_ ?_
    | refine Lim.bind ?_ (fun _ => ?_)

/-! ### strings_TrimLeft -/
def strings_TrimLeft.f (a0 : ByteArray) (a1 : ByteArray) : Option (ByteArray) := match a1.data.toList with | [c_] => if c_.toNat < 128 ∧ a0.size ≤ 9223372036854775807 then some ⟨(Lib.trimLeftB a0.data.toList c_).toArray⟩ else none | _ => none

/-! ### impl_digitsAt -/
def impl_digitsAt.l0 : Nat → ByteArray → Int → Int → Option (Int)
  | 0, _, _, _ => none
  | k + 1, x0, x1, x5 => if (wrap64 (x1 + x5)) < (x0.size : Int) then (if 0 ≤ (wrap64 (x1 + x5)) then (if (bt x0 (wrap64 (x1 + x5))) ≥ 48 then (if (bt x0 (wrap64 (x1 + x5))) ≤ 57 then (impl_digitsAt.l0 k x0 x1 (wrap64 (x5 + 1))) else (some x5)) else (some x5)) else (none)) else (some x5)
def impl_digitsAt.f (k : Nat) (a0 : ByteArray) (a1 : Int) : Option (Int) := impl_digitsAt.l0 k a0 a1 0
theorem impl_digitsAt.mono_l : ∀ k, (∀ y0 y1 y2, LeO (impl_digitsAt.l0 k y0 y1 y2) (impl_digitsAt.l0 (k + 1) y0 y1 y2))
  | 0 => fun _ _ _ r h => by simp [impl_digitsAt.l0] at h
  | k + 1 => by
    have ih0 := impl_digitsAt.mono_l k
    · intro y0 y1 y2
      unfold impl_digitsAt.l0
      repeat' first
      | (with_reducible exact ih0 _ _ _)
      | (with_reducible exact LeO.refl _)
      | (with_reducible exact LeO.none _)
      | (with_reducible refine LeO.ite ?_ ?_)
      | (with_reducible refine LeO.bind ?_ (fun _ => ?_))
      | exact ih0 _ _ _
      | exact LeO.none _
      | refine LeO.ite ?_ ?_
      | refine LeO.bind ?_ (fun _ => ?_)
theorem impl_digitsAt.mono : ∀ a0 a1 k, LeO (impl_digitsAt.f k a0 a1) (impl_digitsAt.f (k + 1) a0 a1) := by
  intro a0 a1 k
  have ih0 := impl_digitsAt.mono_l k
  unfold impl_digitsAt.f
  repeat' first
      | (with_reducible exact ih0 _ _ _)
      | (with_reducible exact LeO.refl _)
      | (with_reducible exact LeO.none _)
      | (with_reducible refine LeO.ite ?_ ?_)
      | (with_reducible refine LeO.bind ?_ (fun _ => ?_))
      | exact ih0 _ _ _
      | exact LeO.none _
      | refine LeO.ite ?_ ?_
      | refine LeO.bind ?_ (fun _ => ?_)
noncomputable def impl_digitsAt.l0v (x0 : ByteArray) (x1 : Int) (x5 : Int) : Option (Int) := limOf (fun k => impl_digitsAt.l0 k x0 x1 x5)
theorem impl_digitsAt.l0_lim (x0 : ByteArray) (x1 : Int) (x5 : Int) : Lim (fun k => impl_digitsAt.l0 k x0 x1 x5) (impl_digitsAt.l0v x0 x1 x5) := Lim.of (fun k => impl_digitsAt.mono_l k x0 x1 x5)
noncomputable def impl_digitsAt.fv (a0 : ByteArray) (a1 : Int) : Option (Int) := limOf (fun k => impl_digitsAt.f k a0 a1)
theorem impl_digitsAt.f_lim (a0 : ByteArray) (a1 : Int) : Lim (fun k => impl_digitsAt.f k a0 a1) (impl_digitsAt.fv a0 a1) := Lim.of (fun k => impl_digitsAt.mono a0 a1 k)
set_option maxHeartbeats 4000000 in
theorem impl_digitsAt.l0v_eq (x0 : ByteArray) (x1 : Int) (x5 : Int) : impl_digitsAt.l0v x0 x1 x5 = (if (wrap64 (x1 + x5)) < (x0.size : Int) then (if 0 ≤ (wrap64 (x1 + x5)) then (if (bt x0 (wrap64 (x1 + x5))) ≥ 48 then (if (bt x0 (wrap64 (x1 + x5))) ≤ 57 then (impl_digitsAt.l0v x0 x1 (wrap64 (x5 + 1))) else (some x5)) else (some x5)) else (none)) else (some x5)) := by
  refine Lim.succ (impl_digitsAt.l0_lim x0 x1 x5) ?_
  simp only [impl_digitsAt.l0]
  repeat' first
    | (with_reducible apply impl_digitsAt.l0_lim)
    | (with_reducible exact Lim.const _)
    | (with_reducible refine Lim.ite ?_ ?_)
    | (with_reducible refine Lim.bind ?_ (fun _ => ?_))
    | apply impl_digitsAt.l0_lim
    | exact Lim.const _
    | refine Lim.ite ?_ ?_
    | refine Lim.bind ?_ (fun _ => ?_)
set_option maxHeartbeats 4000000 in
theorem impl_digitsAt.fv_eq (a0 : ByteArray) (a1 : Int) : impl_digitsAt.fv a0 a1 = (impl_digitsAt.l0v a0 a1 0) := by
  refine Lim.eq (impl_digitsAt.f_lim a0 a1) ?_
  simp only [impl_digitsAt.f]
  repeat' first
    | (with_reducible apply impl_digitsAt.l0_lim)
    | (with_reducible exact Lim.const _)
    | (with_reducible refine Lim.ite ?_ ?_)
    | (with_reducible refine Lim.bind ?_ (fun _ => ?_))
    | apply impl_digitsAt.l0_lim
    | exact Lim.const _
    | refine Lim.ite ?_ ?_
    | refine Lim.bind ?_ (fun _ => ?_)

/-! ### strconv_Atoi -/
def strconv_Atoi.f (a0 : ByteArray) : Option (Int × Option Int) := if a0.size ≤ 18 then (match Lib.atoi a0.data.toList with | some n_ => some (n_, none) | none => none) else none

/-! ### impl_right -/
def impl_right.f (a0 : Int) : Option (Int × Bool) := (impl_DecOk.f a0).bind fun t140 => (if t140 = true then (some (a0, true)) else (some (0, false)))

/-! ### impl_millionths -/
def impl_millionths.f (a0 : ByteArray) (a1 : ByteArray) : Option (Int × Bool) := (strings_TrimLeft.f a0 (⟨#[48]⟩ : ByteArray)).bind fun t141 => (if a1.size + 6 ≤ 9223372036854775807 then (if 0 ≤ 6 then (if 6 ≤ ((a1 ++ (⟨#[48, 48, 48, 48, 48, 48]⟩ : ByteArray)).size : Int) then (if (t141.size : Int) > 7 then (some (0, false)) else (if 1 + t141.size ≤ 9223372036854775807 then (if ((⟨#[48]⟩ : ByteArray) ++ t141).size + ((a1 ++ (⟨#[48, 48, 48, 48, 48, 48]⟩ : ByteArray)).extract 0 6).size ≤ 9223372036854775807 then ((strconv_Atoi.f (((⟨#[48]⟩ : ByteArray) ++ t141) ++ ((a1 ++ (⟨#[48, 48, 48, 48, 48, 48]⟩ : ByteArray)).extract 0 6))).bind fun bt142 => ((impl_right.f bt142.1).bind fun bt144 => (some (bt144.1, bt144.2)))) else (none)) else (none))) else (none)) else (none)) else (none))

/-! ### impl_DecFront -/
mutual
def impl_DecFront.j0 : Nat → ByteArray → Int → Bool → Bool → Option (Int × Int)
  | 0, _, _, _, _ => none
  | k + 1, x0, x4, x5, x33 => if x33 = true then (if 0 ≤ x4 then (if x4 < (x0.size : Int) then (impl_DecFront.j1 k x0 (wrap64 (x4 + 1)) ((bt x0 x4) == 45)) else (none)) else (none)) else (impl_DecFront.j1 k x0 x4 x5)
def impl_DecFront.j1 : Nat → ByteArray → Int → Bool → Option (Int × Int)
  | 0, _, _, _ => none
  | k + 1, x0, x4, x5 => (impl_digitsAt.f k x0 x4).bind fun t147 => (if 0 ≤ x4 then (if x4 ≤ (wrap64 (x4 + t147)) then (if (wrap64 (x4 + t147)) ≤ (x0.size : Int) then (if (wrap64 (x4 + t147)) < (x0.size : Int) then (if 0 ≤ (wrap64 (x4 + t147)) then (impl_DecFront.j2 k x0 (wrap64 (x4 + t147)) x5 (x0.extract (x4 : Int).toNat ((wrap64 (x4 + t147)) : Int).toNat) (⟨#[]⟩ : ByteArray) ((bt x0 (wrap64 (x4 + t147))) == 46)) else (none)) else (impl_DecFront.j2 k x0 (wrap64 (x4 + t147)) x5 (x0.extract (x4 : Int).toNat ((wrap64 (x4 + t147)) : Int).toNat) (⟨#[]⟩ : ByteArray) false)) else (none)) else (none)) else (none))
def impl_DecFront.j2 : Nat → ByteArray → Int → Bool → ByteArray → ByteArray → Bool → Option (Int × Int)
  | 0, _, _, _, _, _, _ => none
  | k + 1, x0, x4, x5, x7, x8, x61 => if x61 = true then ((impl_digitsAt.f k x0 (wrap64 (x4 + 1))).bind fun t148 => (if t148 > 0 then (if 0 ≤ (wrap64 (x4 + 1)) then (if (wrap64 (x4 + 1)) ≤ (wrap64 ((wrap64 (x4 + 1)) + t148)) then (if (wrap64 ((wrap64 (x4 + 1)) + t148)) ≤ (x0.size : Int) then (impl_DecFront.j3 k (wrap64 (x4 + (wrap64 (1 + t148)))) x5 x7 (x0.extract ((wrap64 (x4 + 1)) : Int).toNat ((wrap64 ((wrap64 (x4 + 1)) + t148)) : Int).toNat)) else (none)) else (none)) else (none)) else (impl_DecFront.j3 k x4 x5 x7 x8))) else (impl_DecFront.j3 k x4 x5 x7 x8)
def impl_DecFront.j3 : Nat → Int → Bool → ByteArray → ByteArray → Option (Int × Int)
  | 0, _, _, _, _ => none
  | k + 1, x4, x5, x7, x8 => if x7.toList = ([] : List UInt8) then (impl_DecFront.j4 k x4 x5 x7 x8 (x8.toList == ([] : List UInt8))) else (impl_DecFront.j4 k x4 x5 x7 x8 false)
def impl_DecFront.j4 : Nat → Int → Bool → ByteArray → ByteArray → Bool → Option (Int × Int)
  | 0, _, _, _, _, _ => none
  | k + 1, x4, x5, x7, x8, x85 => if x85 = true then (some (0, 0)) else ((impl_millionths.f x7 x8).bind fun bt149 => (if bt149.2 = true then (if x5 = true then (some (wrap64 (-bt149.1), x4)) else (some (bt149.1, x4))) else (some (0, 0))))
end
def impl_DecFront.f (k : Nat) (a0 : ByteArray) : Option (Int × Int) := (strings_TrimLeft.f a0 (⟨#[32]⟩ : ByteArray)).bind fun t146 => (if (wrap64 ((a0.size : Int) - (t146.size : Int))) < (a0.size : Int) then (if 0 ≤ (wrap64 ((a0.size : Int) - (t146.size : Int))) then (if (bt a0 (wrap64 ((a0.size : Int) - (t146.size : Int)))) = 43 then (impl_DecFront.j0 k a0 (wrap64 ((a0.size : Int) - (t146.size : Int))) false true) else (impl_DecFront.j0 k a0 (wrap64 ((a0.size : Int) - (t146.size : Int))) false ((bt a0 (wrap64 ((a0.size : Int) - (t146.size : Int)))) == 45))) else (none)) else (impl_DecFront.j0 k a0 (wrap64 ((a0.size : Int) - (t146.size : Int))) false false))
theorem impl_DecFront.mono_l : ∀ k, (∀ y0 y1 y2 y3, LeO (impl_DecFront.j0 k y0 y1 y2 y3) (impl_DecFront.j0 (k + 1) y0 y1 y2 y3)) ∧ (∀ y0 y1 y2, LeO (impl_DecFront.j1 k y0 y1 y2) (impl_DecFront.j1 (k + 1) y0 y1 y2)) ∧ (∀ y0 y1 y2 y3 y4 y5, LeO (impl_DecFront.j2 k y0 y1 y2 y3 y4 y5) (impl_DecFront.j2 (k + 1) y0 y1 y2 y3 y4 y5)) ∧ (∀ y0 y1 y2 y3, LeO (impl_DecFront.j3 k y0 y1 y2 y3) (impl_DecFront.j3 (k + 1) y0 y1 y2 y3)) ∧ (∀ y0 y1 y2 y3 y4, LeO (impl_DecFront.j4 k y0 y1 y2 y3 y4) (impl_DecFront.j4 (k + 1) y0 y1 y2 y3 y4))
  | 0 => ⟨fun _ _ _ _ r h => by simp [impl_DecFront.j0] at h, fun _ _ _ r h => by simp [impl_DecFront.j1] at h, fun _ _ _ _ _ _ r h => by simp [impl_DecFront.j2] at h, fun _ _ _ _ r h => by simp [impl_DecFront.j3] at h, fun _ _ _ _ _ r h => by simp [impl_DecFront.j4] at h⟩
  | k + 1 => by
    obtain ⟨ih0, ih1, ih2, ih3, ih4⟩ := impl_DecFront.mono_l k
    refine ⟨?_, ?_, ?_, ?_, ?_⟩
    · intro y0 y1 y2 y3
      unfold impl_DecFront.j0
      repeat' first
      | (with_reducible exact ih0 _ _ _ _)
      | (with_reducible exact ih1 _ _ _)
      | (with_reducible exact ih2 _ _ _ _ _ _)
      | (with_reducible exact ih3 _ _ _ _)
      | (with_reducible exact ih4 _ _ _ _ _)
      | (with_reducible exact impl_digitsAt.mono _ _ _)
      | (with_reducible exact LeO.refl _)
      | (with_reducible exact LeO.none _)
      | (with_reducible refine LeO.ite ?_ ?_)
      | (with_reducible refine LeO.bind ?_ (fun _ => ?_))
      | exact ih0 _ _ _ _
      | exact ih1 _ _ _
      | exact ih2 _ _ _ _ _ _
      | exact ih3 _ _ _ _
      | exact ih4 _ _ _ _ _
      | exact impl_digitsAt.mono _ _ _
      | exact LeO.none _
      | refine LeO.ite ?_ ?_
      | refine LeO.bind ?_ (fun _ => ?_)
    · intro y0 y1 y2
      unfold impl_DecFront.j1
      repeat' first
      | (with_reducible exact ih0 _ _ _ _)
      | (with_reducible exact ih1 _ _ _)
      | (with_reducible exact ih2 _ _ _ _ _ _)
      | (with_reducible exact ih3 _ _ _ _)
      | (with_reducible exact ih4 _ _ _ _ _)
      | (with_reducible exact impl_digitsAt.mono _ _ _)
      | (with_reducible exact LeO.refl _)
      | (with_reducible exact LeO.none _)
      | (with_reducible refine LeO.ite ?_ ?_)
      | (with_reducible refine LeO.bind ?_ (fun _ => ?_))
      | exact ih0 _ _ _ _
      | exact ih1 _ _ _
      | exact ih2 _ _ _ _ _ _
      | exact ih3 _ _ _ _
      | exact ih4 _ _ _ _ _
      | exact impl_digitsAt.mono _ _ _
      | exact LeO.none _
      | refine LeO.ite ?_ ?_
      | refine LeO.bind ?_ (fun _ => ?_)
    · intro y0 y1 y2 y3 y4 y5
      unfold impl_DecFront.j2
      repeat' first
      | (with_reducible exact ih0 _ _ _ _)
      | (with_reducible exact ih1 _ _ _)
      | (with_reducible exact ih2 _ _ _ _ _ _)
      | (with_reducible exact ih3 _ _ _ _)
      | (with_reducible exact ih4 _ _ _ _ _)
      | (with_reducible exact impl_digitsAt.mono _ _ _)
      | (with_reducible exact LeO.refl _)
      | (with_reducible exact LeO.none _)
      | (with_reducible refine LeO.ite ?_ ?_)
      | (with_reducible refine LeO.bind ?_ (fun _ => ?_))
      | exact ih0 _ _ _ _
      | exact ih1 _ _ _
      | exact ih2 _ _ _ _ _ _
      | exact ih3 _ _ _ _
      | exact ih4 _ _ _ _ _
      | exact impl_digitsAt.mono _ _ _
      | exact LeO.none _
      | refine LeO.ite ?_ ?_
      | refine LeO.bind ?_ (fun _ => ?_)
    · intro y0 y1 y2 y3
      unfold impl_DecFront.j3
      repeat' first
      | (with_reducible exact ih0 _ _ _ _)
      | (with_reducible exact ih1 _ _ _)
      | (with_reducible exact ih2 _ _ _ _ _ _)
      | (with_reducible exact ih3 _ _ _ _)
      | (with_reducible exact ih4 _ _ _ _ _)
      | (with_reducible exact impl_digitsAt.mono _ _ _)
      | (with_reducible exact LeO.refl _)
      | (with_reducible exact LeO.none _)
      | (with_reducible refine LeO.ite ?_ ?_)
      | (with_reducible refine LeO.bind ?_ (fun _ => ?_))
      | exact ih0 _ _ _ _
      | exact ih1 _ _ _
      | exact ih2 _ _ _ _ _ _
      | exact ih3 _ _ _ _
      | exact ih4 _ _ _ _ _
      | exact impl_digitsAt.mono _ _ _
      | exact LeO.none _
      | refine LeO.ite ?_ ?_
      | refine LeO.bind ?_ (fun _ => ?_)
    · intro y0 y1 y2 y3 y4
      unfold impl_DecFront.j4
      repeat' first
      | (with_reducible exact ih0 _ _ _ _)
      | (with_reducible exact ih1 _ _ _)
      | (with_reducible exact ih2 _ _ _ _ _ _)
      | (with_reducible exact ih3 _ _ _ _)
      | (with_reducible exact ih4 _ _ _ _ _)
      | (with_reducible exact impl_digitsAt.mono _ _ _)
      | (with_reducible exact LeO.refl _)
      | (with_reducible exact LeO.none _)
      | (with_reducible refine LeO.ite ?_ ?_)
      | (with_reducible refine LeO.bind ?_ (fun _ => ?_))
      | exact ih0 _ _ _ _
      | exact ih1 _ _ _
      | exact ih2 _ _ _ _ _ _
      | exact ih3 _ _ _ _
      | exact ih4 _ _ _ _ _
      | exact impl_digitsAt.mono _ _ _
      | exact LeO.none _
      | refine LeO.ite ?_ ?_
      | refine LeO.bind ?_ (fun _ => ?_)
theorem impl_DecFront.mono : ∀ a0 k, LeO (impl_DecFront.f k a0) (impl_DecFront.f (k + 1) a0) := by
  intro a0 k
  obtain ⟨ih0, ih1, ih2, ih3, ih4⟩ := impl_DecFront.mono_l k
  unfold impl_DecFront.f
  repeat' first
      | (with_reducible exact ih0 _ _ _ _)
      | (with_reducible exact ih1 _ _ _)
      | (with_reducible exact ih2 _ _ _ _ _ _)
      | (with_reducible exact ih3 _ _ _ _)
      | (with_reducible exact ih4 _ _ _ _ _)
      | (with_reducible exact impl_digitsAt.mono _ _ _)
      | (with_reducible exact LeO.refl _)
      | (with_reducible exact LeO.none _)
      | (with_reducible refine LeO.ite ?_ ?_)
      | (with_reducible refine LeO.bind ?_ (fun _ => ?_))
      | exact ih0 _ _ _ _
      | exact ih1 _ _ _
      | exact ih2 _ _ _ _ _ _
      | exact ih3 _ _ _ _
      | exact ih4 _ _ _ _ _
      | exact impl_digitsAt.mono _ _ _
      | exact LeO.none _
      | refine LeO.ite ?_ ?_
      | refine LeO.bind ?_ (fun _ => ?_)
noncomputable def impl_DecFront.j0v (x0 : ByteArray) (x4 : Int) (x5 : Bool) (x33 : Bool) : Option (Int × Int) := limOf (fun k => impl_DecFront.j0 k x0 x4 x5 x33)
theorem impl_DecFront.j0_lim (x0 : ByteArray) (x4 : Int) (x5 : Bool) (x33 : Bool) : Lim (fun k => impl_DecFront.j0 k x0 x4 x5 x33) (impl_DecFront.j0v x0 x4 x5 x33) := Lim.of (fun k => (impl_DecFront.mono_l k).1 x0 x4 x5 x33)
noncomputable def impl_DecFront.j1v (x0 : ByteArray) (x4 : Int) (x5 : Bool) : Option (Int × Int) := limOf (fun k => impl_DecFront.j1 k x0 x4 x5)
theorem impl_DecFront.j1_lim (x0 : ByteArray) (x4 : Int) (x5 : Bool) : Lim (fun k => impl_DecFront.j1 k x0 x4 x5) (impl_DecFront.j1v x0 x4 x5) := Lim.of (fun k => (impl_DecFront.mono_l k).2.1 x0 x4 x5)
noncomputable def impl_DecFront.j2v (x0 : ByteArray) (x4 : Int) (x5 : Bool) (x7 : ByteArray) (x8 : ByteArray) (x61 : Bool) : Option (Int × Int) := limOf (fun k => impl_DecFront.j2 k x0 x4 x5 x7 x8 x61)
theorem impl_DecFront.j2_lim (x0 : ByteArray) (x4 : Int) (x5 : Bool) (x7 : ByteArray) (x8 : ByteArray) (x61 : Bool) : Lim (fun k => impl_DecFront.j2 k x0 x4 x5 x7 x8 x61) (impl_DecFront.j2v x0 x4 x5 x7 x8 x61) := Lim.of (fun k => (impl_DecFront.mono_l k).2.2.1 x0 x4 x5 x7 x8 x61)
noncomputable def impl_DecFront.j3v (x4 : Int) (x5 : Bool) (x7 : ByteArray) (x8 : ByteArray) : Option (Int × Int) := limOf (fun k => impl_DecFront.j3 k x4 x5 x7 x8)
theorem impl_DecFront.j3_lim (x4 : Int) (x5 : Bool) (x7 : ByteArray) (x8 : ByteArray) : Lim (fun k => impl_DecFront.j3 k x4 x5 x7 x8) (impl_DecFront.j3v x4 x5 x7 x8) := Lim.of (fun k => (impl_DecFront.mono_l k).2.2.2.1 x4 x5 x7 x8)
noncomputable def impl_DecFront.j4v (x4 : Int) (x5 : Bool) (x7 : ByteArray) (x8 : ByteArray) (x85 : Bool) : Option (Int × Int) := limOf (fun k => impl_DecFront.j4 k x4 x5 x7 x8 x85)
theorem impl_DecFront.j4_lim (x4 : Int) (x5 : Bool) (x7 : ByteArray) (x8 : ByteArray) (x85 : Bool) : Lim (fun k => impl_DecFront.j4 k x4 x5 x7 x8 x85) (impl_DecFront.j4v x4 x5 x7 x8 x85) := Lim.of (fun k => (impl_DecFront.mono_l k).2.2.2.2 x4 x5 x7 x8 x85)
noncomputable def impl_DecFront.fv (a0 : ByteArray) : Option (Int × Int) := limOf (fun k => impl_DecFront.f k a0)
theorem impl_DecFront.f_lim (a0 : ByteArray) : Lim (fun k => impl_DecFront.f k a0) (impl_DecFront.fv a0) := Lim.of (fun k => impl_DecFront.mono a0 k)
set_option maxHeartbeats 4000000 in
theorem impl_DecFront.j0v_eq (x0 : ByteArray) (x4 : Int) (x5 : Bool) (x33 : Bool) : impl_DecFront.j0v x0 x4 x5 x33 = (if x33 = true then (if 0 ≤ x4 then (if x4 < (x0.size : Int) then (impl_DecFront.j1v x0 (wrap64 (x4 + 1)) ((bt x0 x4) == 45)) else (none)) else (none)) else (impl_DecFront.j1v x0 x4 x5)) := by
  refine Lim.succ (impl_DecFront.j0_lim x0 x4 x5 x33) ?_
  simp only [impl_DecFront.j0]
  repeat' first
    | (with_reducible apply impl_DecFront.j1_lim)
    | (with_reducible exact Lim.const _)
    | (with_reducible refine Lim.ite ?_ ?_)
    | (with_reducible refine Lim.bind ?_ (fun _ => ?_))
    | apply impl_DecFront.j1_lim
    | exact Lim.const _
    | refine Lim.ite ?_ ?_
    | refine Lim.bind ?_ (fun _ => ?_)
set_option maxHeartbeats 4000000 in
theorem impl_DecFront.j1v_eq (x0 : ByteArray) (x4 : Int) (x5 : Bool) : impl_DecFront.j1v x0 x4 x5 = ((impl_digitsAt.fv x0 x4).bind fun t147 => (if 0 ≤ x4 then (if x4 ≤ (wrap64 (x4 + t147)) then (if (wrap64 (x4 + t147)) ≤ (x0.size : Int) then (if (wrap64 (x4 + t147)) < (x0.size : Int) then (if 0 ≤ (wrap64 (x4 + t147)) then (impl_DecFront.j2v x0 (wrap64 (x4 + t147)) x5 (x0.extract (x4 : Int).toNat ((wrap64 (x4 + t147)) : Int).toNat) (⟨#[]⟩ : ByteArray) ((bt x0 (wrap64 (x4 + t147))) == 46)) else (none)) else (impl_DecFront.j2v x0 (wrap64 (x4 + t147)) x5 (x0.extract (x4 : Int).toNat ((wrap64 (x4 + t147)) : Int).toNat) (⟨#[]⟩ : ByteArray) false)) else (none)) else (none)) else (none))) := by
  refine Lim.succ (impl_DecFront.j1_lim x0 x4 x5) ?_
  simp only [impl_DecFront.j1]
  repeat' first
    | (with_reducible apply impl_DecFront.j2_lim)
    | (with_reducible apply impl_digitsAt.f_lim)
    | (with_reducible exact Lim.const _)
    | (with_reducible refine Lim.ite ?_ ?_)
    | (with_reducible refine Lim.bind ?_ (fun _ => ?_))
    | apply impl_DecFront.j2_lim
    | apply impl_digitsAt.f_lim
    | exact Lim.const _
    | refine Lim.ite ?_ ?_
    | refine Lim.bind ?_ (fun _ => ?_)
set_option maxHeartbeats 4000000 in
theorem impl_DecFront.j2v_eq (x0 : ByteArray) (x4 : Int) (x5 : Bool) (x7 : ByteArray) (x8 : ByteArray) (x61 : Bool) : impl_DecFront.j2v x0 x4 x5 x7 x8 x61 = (if x61 = true then ((impl_digitsAt.fv x0 (wrap64 (x4 + 1))).bind fun t148 => (if t148 > 0 then (if 0 ≤ (wrap64 (x4 + 1)) then (if (wrap64 (x4 + 1)) ≤ (wrap64 ((wrap64 (x4 + 1)) + t148)) then (if (wrap64 ((wrap64 (x4 + 1)) + t148)) ≤ (x0.size : Int) then (impl_DecFront.j3v (wrap64 (x4 + (wrap64 (1 + t148)))) x5 x7 (x0.extract ((wrap64 (x4 + 1)) : Int).toNat ((wrap64 ((wrap64 (x4 + 1)) + t148)) : Int).toNat)) else (none)) else (none)) else (none)) else (impl_DecFront.j3v x4 x5 x7 x8))) else (impl_DecFront.j3v x4 x5 x7 x8)) := by
  refine Lim.succ (impl_DecFront.j2_lim x0 x4 x5 x7 x8 x61) ?_
  simp only [impl_DecFront.j2]
  repeat' first
    | (with_reducible apply impl_DecFront.j3_lim)
    | (with_reducible apply impl_digitsAt.f_lim)
    | (with_reducible exact Lim.const _)
    | (with_reducible refine Lim.ite ?_ ?_)
    | (with_reducible refine Lim.bind ?_ (fun _ => ?_))
    | apply impl_DecFront.j3_lim
    | apply impl_digitsAt.f_lim
    | exact Lim.const _
    | refine Lim.ite ?_ ?_
    | refine Lim.bind ?_ (fun _ => ?_)
set_option maxHeartbeats 4000000 in
theorem impl_DecFront.j3v_eq (x4 : Int) (x5 : Bool) (x7 : ByteArray) (x8 : ByteArray) : impl_DecFront.j3v x4 x5 x7 x8 = (if x7.toList = ([] : List UInt8) then (impl_DecFront.j4v x4 x5 x7 x8 (x8.toList == ([] : List UInt8))) else (impl_DecFront.j4v x4 x5 x7 x8 false)) := by
  refine Lim.succ (impl_DecFront.j3_lim x4 x5 x7 x8) ?_
  simp only [impl_DecFront.j3]
  repeat' first
    | (with_reducible apply impl_DecFront.j4_lim)
    | (with_reducible exact Lim.const _)
    | (with_reducible refine Lim.ite ?_ ?_)
    | (with_reducible refine Lim.bind ?_ (fun _ => ?_))
    | apply impl_DecFront.j4_lim
    | exact Lim.const _
    | refine Lim.ite ?_ ?_
    | refine Lim.bind ?_ (fun _ => ?_)
set_option maxHeartbeats 4000000 in
theorem impl_DecFront.j4v_eq (x4 : Int) (x5 : Bool) (x7 : ByteArray) (x8 : ByteArray) (x85 : Bool) : impl_DecFront.j4v x4 x5 x7 x8 x85 = (if x85 = true then (some (0, 0)) else ((impl_millionths.f x7 x8).bind fun bt149 => (if bt149.2 = true then (if x5 = true then (some (wrap64 (-bt149.1), x4)) else (some (bt149.1, x4))) else (some (0, 0))))) := by
  refine Lim.succ (impl_DecFront.j4_lim x4 x5 x7 x8 x85) ?_
  simp only [impl_DecFront.j4]
  repeat' first
    | (with_reducible exact Lim.const _)
    | (with_reducible refine Lim.ite ?_ ?_)
    | (with_reducible refine Lim.bind ?_ (fun _ => ?_))
    | exact Lim.const _
    | refine Lim.ite ?_ ?_
    | refine Lim.bind ?_ (fun _ => ?_)
set_option maxHeartbeats 4000000 in
theorem impl_DecFront.fv_eq (a0 : ByteArray) : impl_DecFront.fv a0 = ((strings_TrimLeft.f a0 (⟨#[32]⟩ : ByteArray)).bind fun t146 => (if (wrap64 ((a0.size : Int) - (t146.size : Int))) < (a0.size : Int) then (if 0 ≤ (wrap64 ((a0.size : Int) - (t146.size : Int))) then (if (bt a0 (wrap64 ((a0.size : Int) - (t146.size : Int)))) = 43 then (impl_DecFront.j0v a0 (wrap64 ((a0.size : Int) - (t146.size : Int))) false true) else (impl_DecFront.j0v a0 (wrap64 ((a0.size : Int) - (t146.size : Int))) false ((bt a0 (wrap64 ((a0.size : Int) - (t146.size : Int)))) == 45))) else (none)) else (impl_DecFront.j0v a0 (wrap64 ((a0.size : Int) - (t146.size : Int))) false false))) := by
  refine Lim.eq (impl_DecFront.f_lim a0) ?_
  simp only [impl_DecFront.f]
  repeat' first
    | (with_reducible apply impl_DecFront.j0_lim)
    | (with_reducible exact Lim.const _)
    | (with_reducible refine Lim.ite ?_ ?_)
    | (with_reducible refine Lim.bind ?_ (fun _ => ?_))
    | apply impl_DecFront.j0_lim
    | exact Lim.const _
    | refine Lim.ite ?_ ?_
    | refine Lim.bind ?_ (fun _ => ?_)

/-! ### impl_ToNum -/
def impl_ToNum.j0 : Nat → Int → Bool → Int → Int → ByteArray → Option (Int)
  | 0, _, _, _, _, _ => none
  | k + 1, x6, x7, x152000, x152001, x152002 => if x7 = true then (some x152001) else (if x6 = 2 then ((impl_DecFront.f k x152002).bind fun bt152 => (some bt152.1)) else (some 0))
def impl_ToNum.f (k : Nat) (a0_0 : Int) (a0_1 : Int) (a0_2 : ByteArray) : Option (Int) := if a0_0 = 1 then (impl_ToNum.j0 k a0_0 (a0_0 == 1) a0_0 a0_1 a0_2) else (impl_ToNum.j0 k a0_0 (a0_0 == 3) a0_0 a0_1 a0_2)
theorem impl_ToNum.mono_l : ∀ k, (∀ y0 y1 y2 y3 y4, LeO (impl_ToNum.j0 k y0 y1 y2 y3 y4) (impl_ToNum.j0 (k + 1) y0 y1 y2 y3 y4))
  | 0 => fun _ _ _ _ _ r h => by simp [impl_ToNum.j0] at h
  | k + 1 => by
    have ih0 := impl_ToNum.mono_l k
    · intro y0 y1 y2 y3 y4
      unfold impl_ToNum.j0
      repeat' first
      | (with_reducible exact ih0 _ _ _ _ _)
      | (with_reducible exact impl_DecFront.mono _ _)
      | (with_reducible exact LeO.refl _)
      | (with_reducible exact LeO.none _)
      | (with_reducible refine LeO.ite ?_ ?_)
      | (with_reducible refine LeO.bind ?_ (fun _ => ?_))
      | exact ih0 _ _ _ _ _
      | exact impl_DecFront.mono _ _
      | exact LeO.none _
      | refine LeO.ite ?_ ?_
      | refine LeO.bind ?_ (fun _ => ?_)
theorem impl_ToNum.mono : ∀ a0 a1 a2 k, LeO (impl_ToNum.f k a0 a1 a2) (impl_ToNum.f (k + 1) a0 a1 a2) := by
  intro a0 a1 a2 k
  have ih0 := impl_ToNum.mono_l k
  unfold impl_ToNum.f
  repeat' first
      | (with_reducible exact ih0 _ _ _ _ _)
      | (with_reducible exact impl_DecFront.mono _ _)
      | (with_reducible exact LeO.refl _)
      | (with_reducible exact LeO.none _)
      | (with_reducible refine LeO.ite ?_ ?_)
      | (with_reducible refine LeO.bind ?_ (fun _ => ?_))
      | exact ih0 _ _ _ _ _
      | exact impl_DecFront.mono _ _
      | exact LeO.none _
      | refine LeO.ite ?_ ?_
      | refine LeO.bind ?_ (fun _ => ?_)
noncomputable def impl_ToNum.j0v (x6 : Int) (x7 : Bool) (x152000 : Int) (x152001 : Int) (x152002 : ByteArray) : Option (Int) := limOf (fun k => impl_ToNum.j0 k x6 x7 x152000 x152001 x152002)
theorem impl_ToNum.j0_lim (x6 : Int) (x7 : Bool) (x152000 : Int) (x152001 : Int) (x152002 : ByteArray) : Lim (fun k => impl_ToNum.j0 k x6 x7 x152000 x152001 x152002) (impl_ToNum.j0v x6 x7 x152000 x152001 x152002) := Lim.of (fun k => impl_ToNum.mono_l k x6 x7 x152000 x152001 x152002)
noncomputable def impl_ToNum.fv (a0_0 : Int) (a0_1 : Int) (a0_2 : ByteArray) : Option (Int) := limOf (fun k => impl_ToNum.f k a0_0 a0_1 a0_2)
theorem impl_ToNum.f_lim (a0_0 : Int) (a0_1 : Int) (a0_2 : ByteArray) : Lim (fun k => impl_ToNum.f k a0_0 a0_1 a0_2) (impl_ToNum.fv a0_0 a0_1 a0_2) := Lim.of (fun k => impl_ToNum.mono a0_0 a0_1 a0_2 k)
set_option maxHeartbeats 4000000 in
theorem impl_ToNum.j0v_eq (x6 : Int) (x7 : Bool) (x152000 : Int) (x152001 : Int) (x152002 : ByteArray) : impl_ToNum.j0v x6 x7 x152000 x152001 x152002 = (if x7 = true then (some x152001) else (if x6 = 2 then ((impl_DecFront.fv x152002).bind fun bt152 => (some bt152.1)) else (some 0))) := by
  refine Lim.succ (impl_ToNum.j0_lim x6 x7 x152000 x152001 x152002) ?_
  simp only [impl_ToNum.j0]
  repeat' first
    | (with_reducible apply impl_DecFront.f_lim)
    | (with_reducible exact Lim.const _)
    | (with_reducible refine Lim.ite ?_ ?_)
    | (with_reducible refine Lim.bind ?_ (fun _ => ?_))
    | apply impl_DecFront.f_lim
    | exact Lim.const _
    | refine Lim.ite ?_ ?_
    | refine Lim.bind ?_ (fun _ => ?_)
set_option maxHeartbeats 4000000 in
theorem impl_ToNum.fv_eq (a0_0 : Int) (a0_1 : Int) (a0_2 : ByteArray) : impl_ToNum.fv a0_0 a0_1 a0_2 = (if a0_0 = 1 then (impl_ToNum.j0v a0_0 (a0_0 == 1) a0_0 a0_1 a0_2) else (impl_ToNum.j0v a0_0 (a0_0 == 3) a0_0 a0_1 a0_2)) := by
  refine Lim.eq (impl_ToNum.f_lim a0_0 a0_1 a0_2) ?_
  simp only [impl_ToNum.f]
  repeat' first
    | (with_reducible apply impl_ToNum.j0_lim)
    | (with_reducible exact Lim.const _)
    | (with_reducible refine Lim.ite ?_ ?_)
    | (with_reducible refine Lim.bind ?_ (fun _ => ?_))
    | apply impl_ToNum.j0_lim
    | exact Lim.const _
    | refine Lim.ite ?_ ?_
    | refine Lim.bind ?_ (fun _ => ?_)

/-! ### impl_Compare -/
def impl_Compare.j0 : Nat → Bool → Int → Int → ByteArray → Int → Int → ByteArray → Option (Int)
  | 0, _, _, _, _, _, _, _ => none
  | k + 1, x14, x155000, x155001, x155002, x156000, x156001, x156002 => if x14 = true then ((impl_ToText.f k x155000 x155001 x155002).bind fun t156 => ((impl_ToText.f k x156000 x156001 x156002).bind fun t157 => ((strings_Compare.f t156 t157).bind fun t158 => (some t158)))) else ((impl_ToNum.f k x155000 x155001 x155002).bind fun t159 => ((impl_ToNum.f k x156000 x156001 x156002).bind fun t160 => (if t159 < t160 then (some (-1)) else (if t159 > t160 then (some 1) else (some 0)))))
def impl_Compare.f (k : Nat) (a0_0 : Int) (a0_1 : Int) (a0_2 : ByteArray) (a1_0 : Int) (a1_1 : Int) (a1_2 : ByteArray) : Option (Int) := if a0_0 = 2 then (impl_Compare.j0 k true a0_0 a0_1 a0_2 a1_0 a1_1 a1_2) else (impl_Compare.j0 k (a1_0 == 2) a0_0 a0_1 a0_2 a1_0 a1_1 a1_2)
theorem impl_Compare.mono_l : ∀ k, (∀ y0 y1 y2 y3 y4 y5 y6, LeO (impl_Compare.j0 k y0 y1 y2 y3 y4 y5 y6) (impl_Compare.j0 (k + 1) y0 y1 y2 y3 y4 y5 y6))
  | 0 => fun _ _ _ _ _ _ _ r h => by simp [impl_Compare.j0] at h
  | k + 1 => by
    have ih0 := impl_Compare.mono_l k
    · intro y0 y1 y2 y3 y4 y5 y6
      unfold impl_Compare.j0
      repeat' first
      | (with_reducible exact ih0 _ _ _ _ _ _ _)
      | (with_reducible exact impl_ToNum.mono _ _ _ _)
      | (with_reducible exact impl_ToText.mono _ _ _ _)
      | (with_reducible exact LeO.refl _)
      | (with_reducible exact LeO.none _)
      | (with_reducible refine LeO.ite ?_ ?_)
      | (with_reducible refine LeO.bind ?_ (fun _ => ?_))
      | exact ih0 _ _ _ _ _ _ _
      | exact impl_ToNum.mono _ _ _ _
      | exact impl_ToText.mono _ _ _ _
      | exact LeO.none _
      | refine LeO.ite ?_ ?_
      | refine LeO.bind ?_ (fun _ => ?_)
theorem impl_Compare.mono : ∀ a0 a1 a2 a3 a4 a5 k, LeO (impl_Compare.f k a0 a1 a2 a3 a4 a5) (impl_Compare.f (k + 1) a0 a1 a2 a3 a4 a5) := by
  intro a0 a1 a2 a3 a4 a5 k
  have ih0 := impl_Compare.mono_l k
  unfold impl_Compare.f
  repeat' first
      | (with_reducible exact ih0 _ _ _ _ _ _ _)
      | (with_reducible exact impl_ToNum.mono _ _ _ _)
      | (with_reducible exact impl_ToText.mono _ _ _ _)
      | (with_reducible exact LeO.refl _)
      | (with_reducible exact LeO.none _)
      | (with_reducible refine LeO.ite ?_ ?_)
      | (with_reducible refine LeO.bind ?_ (fun _ => ?_))
      | exact ih0 _ _ _ _ _ _ _
      | exact impl_ToNum.mono _ _ _ _
      | exact impl_ToText.mono _ _ _ _
      | exact LeO.none _
      | refine LeO.ite ?_ ?_
      | refine LeO.bind ?_ (fun _ => ?_)
noncomputable def impl_Compare.j0v (x14 : Bool) (x155000 : Int) (x155001 : Int) (x155002 : ByteArray) (x156000 : Int) (x156001 : Int) (x156002 : ByteArray) : Option (Int) := limOf (fun k => impl_Compare.j0 k x14 x155000 x155001 x155002 x156000 x156001 x156002)
theorem impl_Compare.j0_lim (x14 : Bool) (x155000 : Int) (x155001 : Int) (x155002 : ByteArray) (x156000 : Int) (x156001 : Int) (x156002 : ByteArray) : Lim (fun k => impl_Compare.j0 k x14 x155000 x155001 x155002 x156000 x156001 x156002) (impl_Compare.j0v x14 x155000 x155001 x155002 x156000 x156001 x156002) := Lim.of (fun k => impl_Compare.mono_l k x14 x155000 x155001 x155002 x156000 x156001 x156002)
noncomputable def impl_Compare.fv (a0_0 : Int) (a0_1 : Int) (a0_2 : ByteArray) (a1_0 : Int) (a1_1 : Int) (a1_2 : ByteArray) : Option (Int) := limOf (fun k => impl_Compare.f k a0_0 a0_1 a0_2 a1_0 a1_1 a1_2)
theorem impl_Compare.f_lim (a0_0 : Int) (a0_1 : Int) (a0_2 : ByteArray) (a1_0 : Int) (a1_1 : Int) (a1_2 : ByteArray) : Lim (fun k => impl_Compare.f k a0_0 a0_1 a0_2 a1_0 a1_1 a1_2) (impl_Compare.fv a0_0 a0_1 a0_2 a1_0 a1_1 a1_2) := Lim.of (fun k => impl_Compare.mono a0_0 a0_1 a0_2 a1_0 a1_1 a1_2 k)
set_option maxHeartbeats 4000000 in
theorem impl_Compare.j0v_eq (x14 : Bool) (x155000 : Int) (x155001 : Int) (x155002 : ByteArray) (x156000 : Int) (x156001 : Int) (x156002 : ByteArray) : impl_Compare.j0v x14 x155000 x155001 x155002 x156000 x156001 x156002 = (if x14 = true then ((impl_ToText.fv x155000 x155001 x155002).bind fun t156 => ((impl_ToText.fv x156000 x156001 x156002).bind fun t157 => ((strings_Compare.f t156 t157).bind fun t158 => (some t158)))) else ((impl_ToNum.fv x155000 x155001 x155002).bind fun t159 => ((impl_ToNum.fv x156000 x156001 x156002).bind fun t160 => (if t159 < t160 then (some (-1)) else (if t159 > t160 then (some 1) else (some 0)))))) := by
  refine Lim.succ (impl_Compare.j0_lim x14 x155000 x155001 x155002 x156000 x156001 x156002) ?_
  simp only [impl_Compare.j0]
  repeat' first
    | (with_reducible apply impl_ToNum.f_lim)
    | (with_reducible apply impl_ToText.f_lim)
    | (with_reducible exact Lim.const _)
    | (with_reducible refine Lim.ite ?_ ?_)
    | (with_reducible refine Lim.bind ?_ (fun _ => ?_))
    | apply impl_ToNum.f_lim
    | apply impl_ToText.f_lim
    | exact Lim.const _
    | refine Lim.ite ?_ ?_
    | refine Lim.bind ?_ (fun _ => ?_)
set_option maxHeartbeats 4000000 in
theorem impl_Compare.fv_eq (a0_0 : Int) (a0_1 : Int) (a0_2 : ByteArray) (a1_0 : Int) (a1_1 : Int) (a1_2 : ByteArray) : impl_Compare.fv a0_0 a0_1 a0_2 a1_0 a1_1 a1_2 = (if a0_0 = 2 then (impl_Compare.j0v true a0_0 a0_1 a0_2 a1_0 a1_1 a1_2) else (impl_Compare.j0v (a1_0 == 2) a0_0 a0_1 a0_2 a1_0 a1_1 a1_2)) := by
  refine Lim.eq (impl_Compare.f_lim a0_0 a0_1 a0_2 a1_0 a1_1 a1_2) ?_
  simp only [impl_Compare.f]
  repeat' first
    | (with_reducible apply impl_Compare.j0_lim)
    | (with_reducible exact Lim.const _)
    | (with_reducible refine Lim.ite ?_ ?_)
    | (with_reducible refine Lim.bind ?_ (fun _ => ?_))
    | apply impl_Compare.j0_lim
    | exact Lim.const _
    | refine Lim.ite ?_ ?_
    | refine Lim.bind ?_ (fun _ => ?_)

/-! ### laws_FnExactCompare -/
def laws_FnExactCompare.f (k : Nat) (a0_0 : Int) (a0_1 : Int) (a0_2 : ByteArray) (a1_0 : Int) (a1_1 : Int) (a1_2 : ByteArray) : Option (Bool) := (laws_szVal.f a0_0 a0_1 a0_2 1048576).bind fun t163 => (if t163 < 0 then (some true) else ((laws_szVal.f a1_0 a1_1 a1_2 t163).bind fun t164 => (if t164 < 0 then (some true) else ((laws_toVal.f a0_0 a0_1 a0_2).bind fun bt165 => ((laws_toVal.f a1_0 a1_1 a1_2).bind fun bt168 => ((spec_Compare.f k bt165.1 bt165.2.1 bt165.2.2 bt168.1 bt168.2.1 bt168.2.2).bind fun t171 => ((laws_toVal.f a0_0 a0_1 a0_2).bind fun bt172 => ((laws_toVal.f a1_0 a1_1 a1_2).bind fun bt175 => ((impl_Compare.f k bt172.1 bt172.2.1 bt172.2.2 bt175.1 bt175.2.1 bt175.2.2).bind fun t178 => (if t178 = t171 then (some true) else (some false)))))))))))
theorem laws_FnExactCompare.mono : ∀ a0 a1 a2 a3 a4 a5 k, LeO (laws_FnExactCompare.f k a0 a1 a2 a3 a4 a5) (laws_FnExactCompare.f (k + 1) a0 a1 a2 a3 a4 a5) := by
  intro a0 a1 a2 a3 a4 a5 k
  unfold laws_FnExactCompare.f
  repeat' first
      | (with_reducible exact impl_Compare.mono _ _ _ _ _ _ _)
      | (with_reducible exact spec_Compare.mono _ _ _ _ _ _ _)
      | (with_reducible exact LeO.refl _)
      | (with_reducible exact LeO.none _)
      | (with_reducible refine LeO.ite ?_ ?_)
      | (with_reducible refine LeO.bind ?_ (fun _ => ?_))
      | exact impl_Compare.mono _ _ _ _ _ _ _
      | exact spec_Compare.mono _ _ _ _ _ _ _
      | exact LeO.none _
      | refine LeO.ite ?_ ?_
      | refine LeO.bind ?_ (fun _ => ?_)
noncomputable def laws_FnExactCompare.fv (a0_0 : Int) (a0_1 : Int) (a0_2 : ByteArray) (a1_0 : Int) (a1_1 : Int) (a1_2 : ByteArray) : Option (Bool) := limOf (fun k => laws_FnExactCompare.f k a0_0 a0_1 a0_2 a1_0 a1_1 a1_2)
theorem laws_FnExactCompare.f_lim (a0_0 : Int) (a0_1 : Int) (a0_2 : ByteArray) (a1_0 : Int) (a1_1 : Int) (a1_2 : ByteArray) : Lim (fun k => laws_FnExactCompare.f k a0_0 a0_1 a0_2 a1_0 a1_1 a1_2) (laws_FnExactCompare.fv a0_0 a0_1 a0_2 a1_0 a1_1 a1_2) := Lim.of (fun k => laws_FnExactCompare.mono a0_0 a0_1 a0_2 a1_0 a1_1 a1_2 k)
set_option maxHeartbeats 4000000 in
theorem laws_FnExactCompare.fv_eq (a0_0 : Int) (a0_1 : Int) (a0_2 : ByteArray) (a1_0 : Int) (a1_1 : Int) (a1_2 : ByteArray) : laws_FnExactCompare.fv a0_0 a0_1 a0_2 a1_0 a1_1 a1_2 = ((laws_szVal.f a0_0 a0_1 a0_2 1048576).bind fun t163 => (if t163 < 0 then (some true) else ((laws_szVal.f a1_0 a1_1 a1_2 t163).bind fun t164 => (if t164 < 0 then (some true) else ((laws_toVal.f a0_0 a0_1 a0_2).bind fun bt165 => ((laws_toVal.f a1_0 a1_1 a1_2).bind fun bt168 => ((spec_Compare.fv bt165.1 bt165.2.1 bt165.2.2 bt168.1 bt168.2.1 bt168.2.2).bind fun t171 => ((laws_toVal.f a0_0 a0_1 a0_2).bind fun bt172 => ((laws_toVal.f a1_0 a1_1 a1_2).bind fun bt175 => ((impl_Compare.fv bt172.1 bt172.2.1 bt172.2.2 bt175.1 bt175.2.1 bt175.2.2).bind fun t178 => (if t178 = t171 then (some true) else (some false)))))))))))) := by
  refine Lim.eq (laws_FnExactCompare.f_lim a0_0 a0_1 a0_2 a1_0 a1_1 a1_2) ?_
  simp only [laws_FnExactCompare.f]
  repeat' first
    | (with_reducible apply impl_Compare.f_lim)
    | (with_reducible apply spec_Compare.f_lim)
    | (with_reducible exact Lim.const _)
    | (with_reducible refine Lim.ite ?_ ?_)
    | (with_reducible refine Lim.bind ?_ (fun _ => ?_))
    | apply impl_Compare.f_lim
    | apply spec_Compare.f_lim
    | exact Lim.const _
    | refine Lim.ite ?_ ?_
    | refine Lim.bind ?_ (fun _ => ?_)

end Go.Proofs.YtejndaljfbclnaaDoor.QFnExactCompare
