/- Written by wip/pr2, a program of this session. -/
import Derived.Test.YtejndaljfbclnaaDoorQFnExactComparex0
import Derived.Test.YtejndaljfbclnaaDoorLim
namespace Go.Proofs.YtejndaljfbclnaaDoor.QFnExactCompare
open Go.RowKit Go.Proofs.YtejndaljfbclnaaDoorW.PrintWords Go.Proofs.YtejndaljfbclnaaDoorW.PrintLast Go.Proofs.YtejndaljfbclnaaDoorW.PrintMore
attribute [local go_sem] max2_int min2_int max_two min_two max_three min_three max_four min_four   -- for this text's walks alone
set_option linter.unusedVariables false
set_option linter.unusedSimpArgs false
set_option maxHeartbeats 8000000

open Go.Proofs.YtejndaljfbclnaaDoorW.Lims
/-! ### laws_szVal -/
def laws_szVal.f (a0_0 : Int) (a0_1 : Int) (a0_2 : ByteArray) (a1 : Int) : Option (Int) := if (wrap64 (a1 - (a0_2.size : Int))) < 0 then (some (-1)) else (some (wrap64 (a1 - (a0_2.size : Int))))

/-! ### spec_l1In -/
def spec_l1In.f (a0 : Int) (a1 : Int) (a2 : Int) : Option (Bool) := if a0 ≥ a1 then (some (decide (a0 ≤ a2))) else (some false)

/-! ### spec_DecOk -/
def spec_DecOk.f (a0 : Int) : Option (Bool) := (spec_l1In.f a0 (-9000000000000) 9000000000000).bind fun t102 => (some t102)

/-! ### spec_l1Abs -/
def spec_l1Abs.f (a0 : Int) : Option (Int) := if a0 < 0 then (some (wrap64 (-a0))) else (some a0)

/-! ### spec_l2Digits -/
def spec_l2Digits.l0 : Nat → Int → ByteArray → Option (ByteArray)
  | 0, _, _ => none
  | k + 1, x0, x3 => if x0 > 0 then ((some (([(wrap64 (48 + (Int.tmod x0 10))) % 256] : List Int) : List Int)).bind fun y103 => (if (strOfNums y103).size + x3.size ≤ 9223372036854775807 then (spec_l2Digits.l0 k (wrap64 (Int.tdiv x0 10)) ((strOfNums y103) ++ x3)) else (none))) else (some x3)
def spec_l2Digits.f (k : Nat) (a0 : Int) : Option (ByteArray) := if a0 ≤ 0 then (some (⟨#[48]⟩ : ByteArray)) else (spec_l2Digits.l0 k a0 (⟨#[]⟩ : ByteArray))
theorem spec_l2Digits.mono_l : ∀ k, (∀ y0 y1, LeO (spec_l2Digits.l0 k y0 y1) (spec_l2Digits.l0 (k + 1) y0 y1))
  | 0 => fun _ _ r h => by simp [spec_l2Digits.l0] at h
  | k + 1 => by
    have ih0 := spec_l2Digits.mono_l k
    · intro y0 y1
      unfold spec_l2Digits.l0
      repeat' first
      | (with_reducible exact ih0 _ _)
      | (with_reducible exact LeO.refl _)
      | (with_reducible exact LeO.none _)
      | (with_reducible refine LeO.ite ?_ ?_)
      | (with_reducible refine LeO.bind ?_ (fun _ => ?_))
      | exact ih0 _ _
      | exact LeO.none _
      | refine LeO.ite ?_ ?_
      | refine LeO.bind ?_ (fun _ => ?_)
theorem spec_l2Digits.mono : ∀ a0 k, LeO (spec_l2Digits.f k a0) (spec_l2Digits.f (k + 1) a0) := by
  intro a0 k
  have ih0 := spec_l2Digits.mono_l k
  unfold spec_l2Digits.f
  repeat' first
      | (with_reducible exact ih0 _ _)
      | (with_reducible exact LeO.refl _)
      | (with_reducible exact LeO.none _)
      | (with_reducible refine LeO.ite ?_ ?_)
      | (with_reducible refine LeO.bind ?_ (fun _ => ?_))
      | exact ih0 _ _
      | exact LeO.none _
      | refine LeO.ite ?_ ?_
      | refine LeO.bind ?_ (fun _ => ?_)
noncomputable def spec_l2Digits.l0v (x0 : Int) (x3 : ByteArray) : Option (ByteArray) := limOf (fun k => spec_l2Digits.l0 k x0 x3)
theorem spec_l2Digits.l0_lim (x0 : Int) (x3 : ByteArray) : Lim (fun k => spec_l2Digits.l0 k x0 x3) (spec_l2Digits.l0v x0 x3) := Lim.of (fun k => spec_l2Digits.mono_l k x0 x3)
noncomputable def spec_l2Digits.fv (a0 : Int) : Option (ByteArray) := limOf (fun k => spec_l2Digits.f k a0)
theorem spec_l2Digits.f_lim (a0 : Int) : Lim (fun k => spec_l2Digits.f k a0) (spec_l2Digits.fv a0) := Lim.of (fun k => spec_l2Digits.mono a0 k)
set_option maxHeartbeats 4000000 in
theorem spec_l2Digits.l0v_eq (x0 : Int) (x3 : ByteArray) : spec_l2Digits.l0v x0 x3 = (if x0 > 0 then ((some (([(wrap64 (48 + (Int.tmod x0 10))) % 256] : List Int) : List Int)).bind fun y103 => (if (strOfNums y103).size + x3.size ≤ 9223372036854775807 then (spec_l2Digits.l0v (wrap64 (Int.tdiv x0 10)) ((strOfNums y103) ++ x3)) else (none))) else (some x3)) := by
  refine Lim.succ (spec_l2Digits.l0_lim x0 x3) ?_
  simp only [spec_l2Digits.l0]
  repeat' first
    | (with_reducible apply spec_l2Digits.l0_lim)
    | (with_reducible exact Lim.const _)
    | (with_reducible refine Lim.ite ?_ ?_)
    | (with_reducible refine Lim.bind ?_ (fun _ => ?_))
    | apply spec_l2Digits.l0_lim
    | exact Lim.const _
    | refine Lim.ite ?_ ?_
    | refine Lim.bind ?_ (fun _ => ?_)
set_option maxHeartbeats 4000000 in
theorem spec_l2Digits.fv_eq (a0 : Int) : spec_l2Digits.fv a0 = (if a0 ≤ 0 then (some (⟨#[48]⟩ : ByteArray)) else (spec_l2Digits.l0v a0 (⟨#[]⟩ : ByteArray))) := by
  refine Lim.eq (spec_l2Digits.f_lim a0) ?_
  simp only [spec_l2Digits.f]
  repeat' first
    | (with_reducible apply spec_l2Digits.l0_lim)
    | (with_reducible exact Lim.const _)
    | (with_reducible refine Lim.ite ?_ ?_)
    | (with_reducible refine Lim.bind ?_ (fun _ => ?_))
    | apply spec_l2Digits.l0_lim
    | exact Lim.const _
    | refine Lim.ite ?_ ?_
    | refine Lim.bind ?_ (fun _ => ?_)

/-! ### spec_DecText -/
def spec_DecText.l0 : Nat → Int → ByteArray → ByteArray → Option (ByteArray)
  | 0, _, _, _ => none
  | k + 1, x0, x4, x6 => if 0 ≤ (wrap64 ((x6.size : Int) - 1)) then (if (wrap64 ((x6.size : Int) - 1)) < (x6.size : Int) then (if (bt x6 (wrap64 ((x6.size : Int) - 1))) = 48 then (if (wrap64 ((x6.size : Int) - 1)) ≤ (x6.size : Int) then (spec_DecText.l0 k x0 x4 (x6.extract 0 ((wrap64 ((x6.size : Int) - 1)) : Int).toNat)) else (none)) else (if x4.size + 1 ≤ 9223372036854775807 then (if (x4 ++ (⟨#[46]⟩ : ByteArray)).size + x6.size ≤ 9223372036854775807 then (if x0 < 0 then (if 1 + ((x4 ++ (⟨#[46]⟩ : ByteArray)) ++ x6).size ≤ 9223372036854775807 then (some ((⟨#[45]⟩ : ByteArray) ++ ((x4 ++ (⟨#[46]⟩ : ByteArray)) ++ x6))) else (none)) else (some ((x4 ++ (⟨#[46]⟩ : ByteArray)) ++ x6))) else (none)) else (none))) else (none)) else (none)
def spec_DecText.f (k : Nat) (a0 : Int) : Option (ByteArray) := (spec_DecOk.f a0).bind fun t106 => (if t106 = true then ((spec_l1Abs.f a0).bind fun t107 => ((spec_l2Digits.f k (wrap64 (Int.tdiv t107 1000000))).bind fun t108 => (if (Int.tmod t107 1000000) > 0 then ((spec_l2Digits.f k (wrap64 (1000000 + (Int.tmod t107 1000000)))).bind fun t109 => (if 1 ≤ (t109.size : Int) then (spec_DecText.l0 k a0 t108 (t109.extract 1 t109.size)) else (none))) else (if a0 < 0 then (if 1 + t108.size ≤ 9223372036854775807 then (some ((⟨#[45]⟩ : ByteArray) ++ t108)) else (none)) else (some t108))))) else (some (⟨#[]⟩ : ByteArray)))
theorem spec_DecText.mono_l : ∀ k, (∀ y0 y1 y2, LeO (spec_DecText.l0 k y0 y1 y2) (spec_DecText.l0 (k + 1) y0 y1 y2))
  | 0 => fun _ _ _ r h => by simp [spec_DecText.l0] at h
  | k + 1 => by
    have ih0 := spec_DecText.mono_l k
    · intro y0 y1 y2
      unfold spec_DecText.l0
      repeat' first
      | (with_reducible exact ih0 _ _ _)
      | (with_reducible exact spec_l2Digits.mono _ _)
      | (with_reducible exact LeO.refl _)
      | (with_reducible exact LeO.none _)
      | (with_reducible refine LeO.ite ?_ ?_)
      | (with_reducible refine LeO.bind ?_ (fun _ => ?_))
      | exact ih0 _ _ _
      | exact spec_l2Digits.mono _ _
      | exact LeO.none _
      | refine LeO.ite ?_ ?_
      | refine LeO.bind ?_ (fun _ => ?_)
theorem spec_DecText.mono : ∀ a0 k, LeO (spec_DecText.f k a0) (spec_DecText.f (k + 1) a0) := by
  intro a0 k
  have ih0 := spec_DecText.mono_l k
  unfold spec_DecText.f
  repeat' first
      | (with_reducible exact ih0 _ _ _)
      | (with_reducible exact spec_l2Digits.mono _ _)
      | (with_reducible exact LeO.refl _)
      | (with_reducible exact LeO.none _)
      | (with_reducible refine LeO.ite ?_ ?_)
      | (with_reducible refine LeO.bind ?_ (fun _ => ?_))
      | exact ih0 _ _ _
      | exact spec_l2Digits.mono _ _
      | exact LeO.none _
      | refine LeO.ite ?_ ?_
      | refine LeO.bind ?_ (fun _ => ?_)
noncomputable def spec_DecText.l0v (x0 : Int) (x4 : ByteArray) (x6 : ByteArray) : Option (ByteArray) := limOf (fun k => spec_DecText.l0 k x0 x4 x6)
theorem spec_DecText.l0_lim (x0 : Int) (x4 : ByteArray) (x6 : ByteArray) : Lim (fun k => spec_DecText.l0 k x0 x4 x6) (spec_DecText.l0v x0 x4 x6) := Lim.of (fun k => spec_DecText.mono_l k x0 x4 x6)
noncomputable def spec_DecText.fv (a0 : Int) : Option (ByteArray) := limOf (fun k => spec_DecText.f k a0)
theorem spec_DecText.f_lim (a0 : Int) : Lim (fun k => spec_DecText.f k a0) (spec_DecText.fv a0) := Lim.of (fun k => spec_DecText.mono a0 k)
set_option maxHeartbeats 4000000 in
theorem spec_DecText.l0v_eq (x0 : Int) (x4 : ByteArray) (x6 : ByteArray) : spec_DecText.l0v x0 x4 x6 = (if 0 ≤ (wrap64 ((x6.size : Int) - 1)) then (if (wrap64 ((x6.size : Int) - 1)) < (x6.size : Int) then (if (bt x6 (wrap64 ((x6.size : Int) - 1))) = 48 then (if (wrap64 ((x6.size : Int) - 1)) ≤ (x6.size : Int) then (spec_DecText.l0v x0 x4 (x6.extract 0 ((wrap64 ((x6.size : Int) - 1)) : Int).toNat)) else (none)) else (if x4.size + 1 ≤ 9223372036854775807 then (if (x4 ++ (⟨#[46]⟩ : ByteArray)).size + x6.size ≤ 9223372036854775807 then (if x0 < 0 then (if 1 + ((x4 ++ (⟨#[46]⟩ : ByteArray)) ++ x6).size ≤ 9223372036854775807 then (some ((⟨#[45]⟩ : ByteArray) ++ ((x4 ++ (⟨#[46]⟩ : ByteArray)) ++ x6))) else (none)) else (some ((x4 ++ (⟨#[46]⟩ : ByteArray)) ++ x6))) else (none)) else (none))) else (none)) else (none)) := by
  refine Lim.succ (spec_DecText.l0_lim x0 x4 x6) ?_
  simp only [spec_DecText.l0]
  repeat' first
    | (with_reducible apply spec_DecText.l0_lim)
    | (with_reducible exact Lim.const _)
    | (with_reducible refine Lim.ite ?_ ?_)
    | (with_reducible refine Lim.bind ?_ (fun _ => ?_))
    | apply spec_DecText.l0_lim
    | exact Lim.const _
    | refine Lim.ite ?_ ?_
    | refine Lim.bind ?_ (fun _ => ?_)
set_option maxHeartbeats 4000000 in
theorem spec_DecText.fv_eq (a0 : Int) : spec_DecText.fv a0 = ((spec_DecOk.f a0).bind fun t106 => (if t106 = true then ((spec_l1Abs.f a0).bind fun t107 => ((spec_l2Digits.fv (wrap64 (Int.tdiv t107 1000000))).bind fun t108 => (if (Int.tmod t107 1000000) > 0 then ((spec_l2Digits.fv (wrap64 (1000000 + (Int.tmod t107 1000000)))).bind fun t109 => (if 1 ≤ (t109.size : Int) then (spec_DecText.l0v a0 t108 (t109.extract 1 t109.size)) else (none))) else (if a0 < 0 then (if 1 + t108.size ≤ 9223372036854775807 then (some ((⟨#[45]⟩ : ByteArray) ++ t108)) else (none)) else (some t108))))) else (some (⟨#[]⟩ : ByteArray)))) := by
  refine Lim.eq (spec_DecText.f_lim a0) ?_
  simp only [spec_DecText.f]
  repeat' first
    | (with_reducible apply spec_DecText.l0_lim)
    | (with_reducible apply spec_l2Digits.f_lim)
    | (with_reducible exact Lim.const _)
    | (with_reducible refine Lim.ite ?_ ?_)
    | (with_reducible refine Lim.bind ?_ (fun _ => ?_))
    | apply spec_DecText.l0_lim
    | apply spec_l2Digits.f_lim
    | exact Lim.const _
    | refine Lim.ite ?_ ?_
    | refine Lim.bind ?_ (fun _ => ?_)

/-! ### spec_ToText -/
def spec_ToText.f (k : Nat) (a0_0 : Int) (a0_1 : Int) (a0_2 : ByteArray) : Option (ByteArray) := if a0_0 = 1 then ((spec_DecText.f k a0_1).bind fun t111 => (some t111)) else (some a0_2)
theorem spec_ToText.mono : ∀ a0 a1 a2 k, LeO (spec_ToText.f k a0 a1 a2) (spec_ToText.f (k + 1) a0 a1 a2) := by
  intro a0 a1 a2 k
  unfold spec_ToText.f
  repeat' first
      | (with_reducible exact spec_DecText.mono _ _)
      | (with_reducible exact LeO.refl _)
      | (with_reducible exact LeO.none _)
      | (with_reducible refine LeO.ite ?_ ?_)
      | (with_reducible refine LeO.bind ?_ (fun _ => ?_))
      | exact spec_DecText.mono _ _
      | exact LeO.none _
      | refine LeO.ite ?_ ?_
      | refine LeO.bind ?_ (fun _ => ?_)
noncomputable def spec_ToText.fv (a0_0 : Int) (a0_1 : Int) (a0_2 : ByteArray) : Option (ByteArray) := limOf (fun k => spec_ToText.f k a0_0 a0_1 a0_2)
theorem spec_ToText.f_lim (a0_0 : Int) (a0_1 : Int) (a0_2 : ByteArray) : Lim (fun k => spec_ToText.f k a0_0 a0_1 a0_2) (spec_ToText.fv a0_0 a0_1 a0_2) := Lim.of (fun k => spec_ToText.mono a0_0 a0_1 a0_2 k)
set_option maxHeartbeats 4000000 in
theorem spec_ToText.fv_eq (a0_0 : Int) (a0_1 : Int) (a0_2 : ByteArray) : spec_ToText.fv a0_0 a0_1 a0_2 = (if a0_0 = 1 then ((spec_DecText.fv a0_1).bind fun t111 => (some t111)) else (some a0_2)) := by
  refine Lim.eq (spec_ToText.f_lim a0_0 a0_1 a0_2) ?_
  simp only [spec_ToText.f]
  repeat' first
    | (with_reducible apply spec_DecText.f_lim)
    | (with_reducible exact Lim.const _)
    | (with_reducible refine Lim.ite ?_ ?_)
    | (with_reducible refine Lim.bind ?_ (fun _ => ?_))
    | apply spec_DecText.f_lim
    | exact Lim.const _
    | refine Lim.ite ?_ ?_
    | refine Lim.bind ?_ (fun _ => ?_)

/-! ### spec_l2Digit -/
def spec_l2Digit.f (a0 : Int) : Option (Bool) := if a0 ≥ 48 then (some (decide (a0 ≤ 57))) else (some false)

/-! ### spec_DecFront -/
mutual
def spec_DecFront.j1 : Nat → ByteArray → Int → Option (Int × Int)
  | 0, _, _ => none
  | k + 1, x0, x4 => if x4 < (x0.size : Int) then (if 0 ≤ x4 then (spec_DecFront.j2 k x0 x4 ((bt x0 x4) == 45)) else (none)) else (spec_DecFront.j2 k x0 x4 false)
def spec_DecFront.j2 : Nat → ByteArray → Int → Bool → Option (Int × Int)
  | 0, _, _, _ => none
  | k + 1, x0, x4, x5 => if x4 < (x0.size : Int) then (if 0 ≤ x4 then (if (bt x0 x4) = 45 then (spec_DecFront.j3 k x0 x4 x5 true) else (spec_DecFront.j3 k x0 x4 x5 ((bt x0 x4) == 43))) else (none)) else (spec_DecFront.j3 k x0 x4 x5 false)
def spec_DecFront.j3 : Nat → ByteArray → Int → Bool → Bool → Option (Int × Int)
  | 0, _, _, _, _ => none
  | k + 1, x0, x4, x5, x46 => if x46 = true then (spec_DecFront.j4 k x0 (wrap64 (x4 + 1)) x5) else (spec_DecFront.j4 k x0 x4 x5)
def spec_DecFront.j4 : Nat → ByteArray → Int → Bool → Option (Int × Int)
  | 0, _, _, _ => none
  | k + 1, x0, x4, x5 => spec_DecFront.l1 k x0 x4 x5 0 0
def spec_DecFront.l1 : Nat → ByteArray → Int → Bool → Int → Int → Option (Int × Int)
  | 0, _, _, _, _, _ => none
  | k + 1, x0, x4, x5, x6, x7 => if x4 < (x0.size : Int) then (if 0 ≤ x4 then ((spec_l2Digit.f (bt x0 x4)).bind fun t112 => (spec_DecFront.j6 k x0 x4 x5 x6 x7 t112)) else (none)) else (spec_DecFront.j6 k x0 x4 x5 x6 x7 false)
def spec_DecFront.j6 : Nat → ByteArray → Int → Bool → Int → Int → Bool → Option (Int × Int)
  | 0, _, _, _, _, _, _ => none
  | k + 1, x0, x4, x5, x6, x7, x58 => if x58 = true then (if x6 ≤ 9000000000000 then (if 0 ≤ x4 then (if x4 < (x0.size : Int) then (spec_DecFront.l1 k x0 (wrap64 (x4 + 1)) x5 (wrap64 ((wrap64 (10 * x6)) + (wrap64 ((wrap64 ((wrap64 (bt x0 x4)) - 48)) * 1000000)))) (wrap64 (x7 + 1))) else (none)) else (none)) else (spec_DecFront.l1 k x0 (wrap64 (x4 + 1)) x5 x6 (wrap64 (x7 + 1)))) else (if (wrap64 (x4 + 1)) < (x0.size : Int) then (if 0 ≤ x4 then (if x4 < (x0.size : Int) then (if (bt x0 x4) = 46 then (if 0 ≤ (wrap64 (x4 + 1)) then ((spec_l2Digit.f (bt x0 (wrap64 (x4 + 1)))).bind fun t113 => (spec_DecFront.j7 k x0 x4 x5 x6 x7 t113)) else (none)) else (spec_DecFront.j7 k x0 x4 x5 x6 x7 false)) else (none)) else (none)) else (spec_DecFront.j7 k x0 x4 x5 x6 x7 false))
def spec_DecFront.j7 : Nat → ByteArray → Int → Bool → Int → Int → Bool → Option (Int × Int)
  | 0, _, _, _, _, _, _ => none
  | k + 1, x0, x4, x5, x6, x7, x91 => if x91 = true then (spec_DecFront.l2 k x0 (wrap64 (x4 + 1)) x5 x6 x7 100000) else (spec_DecFront.j9 k x4 x5 x6 x7)
def spec_DecFront.j9 : Nat → Int → Bool → Int → Int → Option (Int × Int)
  | 0, _, _, _, _ => none
  | k + 1, x4, x5, x6, x7 => if x7 = 0 then (spec_DecFront.j10 k x4 x5 x6 true) else (spec_DecFront.j10 k x4 x5 x6 (decide (x6 > 9000000000000)))
def spec_DecFront.j10 : Nat → Int → Bool → Int → Bool → Option (Int × Int)
  | 0, _, _, _, _ => none
  | k + 1, x4, x5, x6, x124 => if x124 = true then (some (0, 0)) else (if x5 = true then (some (wrap64 (-x6), x4)) else (some (x6, x4)))
def spec_DecFront.l2 : Nat → ByteArray → Int → Bool → Int → Int → Int → Option (Int × Int)
  | 0, _, _, _, _, _, _ => none
  | k + 1, x0, x4, x5, x6, x7, x8 => if x4 < (x0.size : Int) then (if 0 ≤ x4 then ((spec_l2Digit.f (bt x0 x4)).bind fun t114 => (if t114 = true then (spec_DecFront.l2 k x0 (wrap64 (x4 + 1)) x5 (wrap64 (x6 + (wrap64 ((wrap64 ((wrap64 (bt x0 x4)) - 48)) * x8)))) (wrap64 (x7 + 1)) (wrap64 (Int.tdiv x8 10))) else (spec_DecFront.j9 k x4 x5 x6 x7))) else (none)) else (spec_DecFront.j9 k x4 x5 x6 x7)
def spec_DecFront.l0 : Nat → ByteArray → Int → Option (Int × Int)
  | 0, _, _ => none
  | k + 1, x0, x4 => if x4 < (x0.size : Int) then (if 0 ≤ x4 then (if (bt x0 x4) = 32 then (spec_DecFront.l0 k x0 (wrap64 (x4 + 1))) else (spec_DecFront.j1 k x0 x4)) else (none)) else (spec_DecFront.j1 k x0 x4)
end
def spec_DecFront.f (k : Nat) (a0 : ByteArray) : Option (Int × Int) := spec_DecFront.l0 k a0 0
theorem spec_DecFront.mono_l : ∀ k, (∀ y0 y1, LeO (spec_DecFront.j1 k y0 y1) (spec_DecFront.j1 (k + 1) y0 y1)) ∧ (∀ y0 y1 y2, LeO (spec_DecFront.j2 k y0 y1 y2) (spec_DecFront.j2 (k + 1) y0 y1 y2)) ∧ (∀ y0 y1 y2 y3, LeO (spec_DecFront.j3 k y0 y1 y2 y3) (spec_DecFront.j3 (k + 1) y0 y1 y2 y3)) ∧ (∀ y0 y1 y2, LeO (spec_DecFront.j4 k y0 y1 y2) (spec_DecFront.j4 (k + 1) y0 y1 y2)) ∧ (∀ y0 y1 y2 y3 y4, LeO (spec_DecFront.l1 k y0 y1 y2 y3 y4) (spec_DecFront.l1 (k + 1) y0 y1 y2 y3 y4)) ∧ (∀ y0 y1 y2 y3 y4 y5, LeO (spec_DecFront.j6 k y0 y1 y2 y3 y4 y5) (spec_DecFront.j6 (k + 1) y0 y1 y2 y3 y4 y5)) ∧ (∀ y0 y1 y2 y3 y4 y5, LeO (spec_DecFront.j7 k y0 y1 y2 y3 y4 y5) (spec_DecFront.j7 (k + 1) y0 y1 y2 y3 y4 y5)) ∧ (∀ y0 y1 y2 y3, LeO (spec_DecFront.j9 k y0 y1 y2 y3) (spec_DecFront.j9 (k + 1) y0 y1 y2 y3)) ∧ (∀ y0 y1 y2 y3, LeO (spec_DecFront.j10 k y0 y1 y2 y3) (spec_DecFront.j10 (k + 1) y0 y1 y2 y3)) ∧ (∀ y0 y1 y2 y3 y4 y5, LeO (spec_DecFront.l2 k y0 y1 y2 y3 y4 y5) (spec_DecFront.l2 (k + 1) y0 y1 y2 y3 y4 y5)) ∧ (∀ y0 y1, LeO (spec_DecFront.l0 k y0 y1) (spec_DecFront.l0 (k + 1) y0 y1))
  | 0 => ⟨fun _ _ r h => by simp [spec_DecFront.j1] at h, fun _ _ _ r h => by simp [spec_DecFront.j2] at h, fun _ _ _ _ r h => by simp [spec_DecFront.j3] at h, fun _ _ _ r h => by simp [spec_DecFront.j4] at h, fun _ _ _ _ _ r h => by simp [spec_DecFront.l1] at h, fun _ _ _ _ _ _ r h => by simp [spec_DecFront.j6] at h, fun _ _ _ _ _ _ r h => by simp [spec_DecFront.j7] at h, fun _ _ _ _ r h => by simp [spec_DecFront.j9] at h, fun _ _ _ _ r h => by simp [spec_DecFront.j10] at h, fun _ _ _ _ _ _ r h => by simp [spec_DecFront.l2] at h, fun _ _ r h => by simp [spec_DecFront.l0] at h⟩
  | k + 1 => by
    obtain ⟨ih0, ih1, ih2, ih3, ih4, ih5, ih6, ih7, ih8, ih9, ih10⟩ := spec_DecFront.mono_l k
    refine ⟨?_, ?_, ?_, ?_, ?_, ?_, ?_, ?_, ?_, ?_, ?_⟩
    · intro y0 y1
      unfold spec_DecFront.j1
      repeat' first
      | (with_reducible exact ih0 _ _)
      | (with_reducible exact ih1 _ _ _)
      | (with_reducible exact ih2 _ _ _ _)
      | (with_reducible exact ih3 _ _ _)
      | (with_reducible exact ih4 _ _ _ _ _)
      | (with_reducible exact ih5 _ _ _ _ _ _)
      | (with_reducible exact ih6 _ _ _ _ _ _)
      | (with_reducible exact ih7 _ _ _ _)
      | (with_reducible exact ih8 _ _ _ _)
      | (with_reducible exact ih9 _ _ _ _ _ _)
      | (with_reducible exact ih10 _ _)
      | (with_reducible exact LeO.refl _)
      | (with_reducible exact LeO.none _)
      | (with_reducible refine LeO.ite ?_ ?_)
      | (with_reducible refine LeO.bind ?_ (fun _ => ?_))
      | exact ih0 _ _
      | exact ih1 _ _ _
      | exact ih2 _ _ _ _
      | exact ih3 _ _ _
      | exact ih4 _ _ _ _ _
      | exact ih5 _ _ _ _ _ _
      | exact ih6 _ _ _ _ _ _
      | exact ih7 _ _ _ _
      | exact ih8 _ _ _ _
      | exact ih9 _ _ _ _ _ _
      | exact ih10 _ _
      | exact LeO.none _
      | refine LeO.ite ?_ ?_
      | refine LeO.bind ?_ (fun _ => ?_)
    · intro y0 y1 y2
      unfold spec_DecFront.j2
      repeat' first
      | (with_reducible exact ih0 _ _)
      | (with_reducible exact ih1 _ _ _)
      | (with_reducible exact ih2 _ _ _ _)
      | (with_reducible exact ih3 _ _ _)
      | (with_reducible exact ih4 _ _ _ _ _)
      | (with_reducible exact ih5 _ _ _ _ _ _)
      | (with_reducible exact ih6 _ _ _ _ _ _)
      | (with_reducible exact ih7 _ _ _ _)
      | (with_reducible exact ih8 _ _ _ _)
      | (with_reducible exact ih9 _ _ _ _ _ _)
      | (with_reducible exact ih10 _ _)
      | (with_reducible exact LeO.refl _)
      | (with_reducible exact LeO.none _)
      | (with_reducible refine LeO.ite ?_ ?_)
      | (with_reducible refine LeO.bind ?_ (fun _ => ?_))
      | exact ih0 _ _
      | exact ih1 _ _ _
      | exact ih2 _ _ _ _
      | exact ih3 _ _ _
      | exact ih4 _ _ _ _ _
      | exact ih5 _ _ _ _ _ _
      | exact ih6 _ _ _ _ _ _
      | exact ih7 _ _ _ _
      | exact ih8 _ _ _ _
      | exact ih9 _ _ _ _ _ _
      | exact ih10 _ _
      | exact LeO.none _
      | refine LeO.ite ?_ ?_
      | refine LeO.bind ?_ (fun _ => ?_)
    · intro y0 y1 y2 y3
      unfold spec_DecFront.j3
      repeat' first
      | (with_reducible exact ih0 _ _)
      | (with_reducible exact ih1 _ _ _)
      | (with_reducible exact ih2 _ _ _ _)
      | (with_reducible exact ih3 _ _ _)
      | (with_reducible exact ih4 _ _ _ _ _)
      | (with_reducible exact ih5 _ _ _ _ _ _)
      | (with_reducible exact ih6 _ _ _ _ _ _)
      | (with_reducible exact ih7 _ _ _ _)
      | (with_reducible exact ih8 _ _ _ _)
      | (with_reducible exact ih9 _ _ _ _ _ _)
      | (with_reducible exact ih10 _ _)
      | (with_reducible exact LeO.refl _)
      | (with_reducible exact LeO.none _)
      | (with_reducible refine LeO.ite ?_ ?_)
      | (with_reducible refine LeO.bind ?_ (fun _ => ?_))
      | exact ih0 _ _
      | exact ih1 _ _ _
      | exact ih2 _ _ _ _
      | exact ih3 _ _ _
      | exact ih4 _ _ _ _ _
      | exact ih5 _ _ _ _ _ _
      | exact ih6 _ _ _ _ _ _
      | exact ih7 _ _ _ _
      | exact ih8 _ _ _ _
      | exact ih9 _ _ _ _ _ _
      | exact ih10 _ _
      | exact LeO.none _
      | refine LeO.ite ?_ ?_
      | refine LeO.bind ?_ (fun _ => ?_)
    · intro y0 y1 y2
      unfold spec_DecFront.j4
      repeat' first
      | (with_reducible exact ih0 _ _)
      | (with_reducible exact ih1 _ _ _)
      | (with_reducible exact ih2 _ _ _ _)
      | (with_reducible exact ih3 _ _ _)
      | (with_reducible exact ih4 _ _ _ _ _)
      | (with_reducible exact ih5 _ _ _ _ _ _)
      | (with_reducible exact ih6 _ _ _ _ _ _)
      | (with_reducible exact ih7 _ _ _ _)
      | (with_reducible exact ih8 _ _ _ _)
      | (with_reducible exact ih9 _ _ _ _ _ _)
      | (with_reducible exact ih10 _ _)
      | (with_reducible exact LeO.refl _)
      | (with_reducible exact LeO.none _)
      | (with_reducible refine LeO.ite ?_ ?_)
      | (with_reducible refine LeO.bind ?_ (fun _ => ?_))
      | exact ih0 _ _
      | exact ih1 _ _ _
      | exact ih2 _ _ _ _
      | exact ih3 _ _ _
      | exact ih4 _ _ _ _ _
      | exact ih5 _ _ _ _ _ _
      | exact ih6 _ _ _ _ _ _
      | exact ih7 _ _ _ _
      | exact ih8 _ _ _ _
      | exact ih9 _ _ _ _ _ _
      | exact ih10 _ _
      | exact LeO.none _
      | refine LeO.ite ?_ ?_
      | refine LeO.bind ?_ (fun _ => ?_)
    · intro y0 y1 y2 y3 y4
      unfold spec_DecFront.l1
      repeat' first
      | (with_reducible exact ih0 _ _)
      | (with_reducible exact ih1 _ _ _)
      | (with_reducible exact ih2 _ _ _ _)
      | (with_reducible exact ih3 _ _ _)
      | (with_reducible exact ih4 _ _ _ _ _)
      | (with_reducible exact ih5 _ _ _ _ _ _)
      | (with_reducible exact ih6 _ _ _ _ _ _)
      | (with_reducible exact ih7 _ _ _ _)
      | (with_reducible exact ih8 _ _ _ _)
      | (with_reducible exact ih9 _ _ _ _ _ _)
      | (with_reducible exact ih10 _ _)
      | (with_reducible exact LeO.refl _)
      | (with_reducible exact LeO.none _)
      | (with_reducible refine LeO.ite ?_ ?_)
      | (with_reducible refine LeO.bind ?_ (fun _ => ?_))
      | exact ih0 _ _
      | exact ih1 _ _ _
      | exact ih2 _ _ _ _
      | exact ih3 _ _ _
      | exact ih4 _ _ _ _ _
      | exact ih5 _ _ _ _ _ _
      | exact ih6 _ _ _ _ _ _
      | exact ih7 _ _ _ _
      | exact ih8 _ _ _ _
      | exact ih9 _ _ _ _ _ _
      | exact ih10 _ _
      | exact LeO.none _
      | refine LeO.ite ?_ ?_
      | refine LeO.bind ?_ (fun _ => ?_)
    · intro y0 y1 y2 y3 y4 y5
      unfold spec_DecFront.j6
      repeat' first
      | (with_reducible exact ih0 _ _)
      | (with_reducible exact ih1 _ _ _)
      | (with_reducible exact ih2 _ _ _ _)
      | (with_reducible exact ih3 _ _ _)
      | (with_reducible exact ih4 _ _ _ _ _)
      | (with_reducible exact ih5 _ _ _ _ _ _)
      | (with_reducible exact ih6 _ _ _ _ _ _)
      | (with_reducible exact ih7 _ _ _ _)
      | (with_reducible exact ih8 _ _ _ _)
      | (with_reducible exact ih9 _ _ _ _ _ _)
      | (with_reducible exact ih10 _ _)
      | (with_reducible exact LeO.refl _)
      | (with_reducible exact LeO.none _)
      | (with_reducible refine LeO.ite ?_ ?_)
      | (with_reducible refine LeO.bind ?_ (fun _ => ?_))
      | exact ih0 _ _
      | exact ih1 _ _ _
      | exact ih2 _ _ _ _
      | exact ih3 _ _ _
      | exact ih4 _ _ _ _ _
      | exact ih5 _ _ _ _ _ _
      | exact ih6 _ _ _ _ _ _
      | exact ih7 _ _ _ _
      | exact ih8 _ _ _ _
      | exact ih9 _ _ _ _ _ _
      | exact ih10 _ _
      | exact LeO.none _
      | refine LeO.ite ?_ ?_
      | refine LeO.bind ?_ (fun _ => ?_)
    · intro y0 y1 y2 y3 y4 y5
      unfold spec_DecFront.j7
      repeat' first
      | (with_reducible exact ih0 _ _)
      | (with_reducible exact ih1 _ _ _)
      | (with_reducible exact ih2 _ _ _ _)
      | (with_reducible exact ih3 _ _ _)
      | (with_reducible exact ih4 _ _ _ _ _)
      | (with_reducible exact ih5 _ _ _ _ _ _)
      | (with_reducible exact ih6 _ _ _ _ _ _)
      | (with_reducible exact ih7 _ _ _ _)
      | (with_reducible exact ih8 _ _ _ _)
      | (with_reducible exact ih9 _ _ _ _ _ _)
      | (with_reducible exact ih10 _ _)
      | (with_reducible exact LeO.refl _)
      | (with_reducible exact LeO.none _)
      | (with_reducible refine LeO.ite ?_ ?_)
      | (with_reducible refine LeO.bind ?_ (fun _ => ?_))
      | exact ih0 _ _
      | exact ih1 _ _ _
      | exact ih2 _ _ _ _
      | exact ih3 _ _ _
      | exact ih4 _ _ _ _ _
      | exact ih5 _ _ _ _ _ _
      | exact ih6 _ _ _ _ _ _
      | exact ih7 _ _ _ _
      | exact ih8 _ _ _ _
      | exact ih9 _ _ _ _ _ _
      | exact ih10 _ _
      | exact LeO.none _
      | refine LeO.ite ?_ ?_
      | refine LeO.bind ?_ (fun _ => ?_)
    · intro y0 y1 y2 y3
      unfold spec_DecFront.j9
      repeat' first
      | (with_reducible exact ih0 _ _)
      | (with_reducible exact ih1 _ _ _)
      | (with_reducible exact ih2 _ _ _ _)
      | (with_reducible exact ih3 _ _ _)
      | (with_reducible exact ih4 _ _ _ _ _)
      | (with_reducible exact ih5 _ _ _ _ _ _)
      | (with_reducible exact ih6 _ _ _ _ _ _)
      | (with_reducible exact ih7 _ _ _ _)
      | (with_reducible exact ih8 _ _ _ _)
      | (with_reducible exact ih9 _ _ _ _ _ _)
      | (with_reducible exact ih10 _ _)
      | (with_reducible exact LeO.refl _)
      | (with_reducible exact LeO.none _)
      | (with_reducible refine LeO.ite ?_ ?_)
      | (with_reducible refine LeO.bind ?_ (fun _ => ?_))
      | exact ih0 _ _
      | exact ih1 _ _ _
      | exact ih2 _ _ _ _
      | exact ih3 _ _ _
      | exact ih4 _ _ _ _ _
      | exact ih5 _ _ _ _ _ _
      | exact ih6 _ _ _ _ _ _
      | exact ih7 _ _ _ _
      | exact ih8 _ _ _ _
      | exact ih9 _ _ _ _ _ _
      | exact ih10 _ _
      | exact LeO.none _
      | refine LeO.ite ?_ ?_
      | refine LeO.bind ?_ (fun _ => ?_)
    · intro y0 y1 y2 y3
      unfold spec_DecFront.j10
      repeat' first
      | (with_reducible exact ih0 _ _)
      | (with_reducible exact ih1 _ _ _)
      | (with_reducible exact ih2 _ _ _ _)
      | (with_reducible exact ih3 _ _ _)
      | (with_reducible exact ih4 _ _ _ _ _)
      | (with_reducible exact ih5 _ _ _ _ _ _)
      | (with_reducible exact ih6 _ _ _ _ _ _)
      | (with_reducible exact ih7 _ _ _ _)
      | (with_reducible exact ih8 _ _ _ _)
      | (with_reducible exact ih9 _ _ _ _ _ _)
      | (with_reducible exact ih10 _ _)
      | (with_reducible exact LeO.refl _)
      | (with_reducible exact LeO.none _)
      | (with_reducible refine LeO.ite ?_ ?_)
      | (with_reducible refine LeO.bind ?_ (fun _ => ?_))
      | exact ih0 _ _
      | exact ih1 _ _ _
      | exact ih2 _ _ _ _
      | exact ih3 _ _ _
      | exact ih4 _ _ _ _ _
      | exact ih5 _ _ _ _ _ _
      | exact ih6 _ _ _ _ _ _
      | exact ih7 _ _ _ _
      | exact ih8 _ _ _ _
      | exact ih9 _ _ _ _ _ _
      | exact ih10 _ _
      | exact LeO.none _
      | refine LeO.ite ?_ ?_
      | refine LeO.bind ?_ (fun _ => ?_)
    · intro y0 y1 y2 y3 y4 y5
      unfold spec_DecFront.l2
      repeat' first
      | (with_reducible exact ih0 _ _)
      | (with_reducible exact ih1 _ _ _)
      | (with_reducible exact ih2 _ _ _ _)
      | (with_reducible exact ih3 _ _ _)
      | (with_reducible exact ih4 _ _ _ _ _)
      | (with_reducible exact ih5 _ _ _ _ _ _)
      | (with_reducible exact ih6 _ _ _ _ _ _)
      | (with_reducible exact ih7 _ _ _ _)
      | (with_reducible exact ih8 _ _ _ _)
      | (with_reducible exact ih9 _ _ _ _ _ _)
      | (with_reducible exact ih10 _ _)
      | (with_reducible exact LeO.refl _)
      | (with_reducible exact LeO.none _)
      | (with_reducible refine LeO.ite ?_ ?_)
      | (with_reducible refine LeO.bind ?_ (fun _ => ?_))
      | exact ih0 _ _
      | exact ih1 _ _ _
      | exact ih2 _ _ _ _
      | exact ih3 _ _ _
      | exact ih4 _ _ _ _ _
      | exact ih5 _ _ _ _ _ _
      | exact ih6 _ _ _ _ _ _
      | exact ih7 _ _ _ _
      | exact ih8 _ _ _ _
      | exact ih9 _ _ _ _ _ _
      | exact ih10 _ _
      | exact LeO.none _
      | refine LeO.ite ?_ ?_
      | refine LeO.bind ?_ (fun _ => ?_)
    · intro y0 y1
      unfold spec_DecFront.l0
      repeat' first
      | (with_reducible exact ih0 _ _)
      | (with_reducible exact ih1 _ _ _)
      | (with_reducible exact ih2 _ _ _ _)
      | (with_reducible exact ih3 _ _ _)
      | (with_reducible exact ih4 _ _ _ _ _)
      | (with_reducible exact ih5 _ _ _ _ _ _)
      | (with_reducible exact ih6 _ _ _ _ _ _)
      | (with_reducible exact ih7 _ _ _ _)
      | (with_reducible exact ih8 _ _ _ _)
      | (with_reducible exact ih9 _ _ _ _ _ _)
      | (with_reducible exact ih10 _ _)
      | (with_reducible exact LeO.refl _)
      | (with_reducible exact LeO.none _)
      | (with_reducible refine LeO.ite ?_ ?_)
      | (with_reducible refine LeO.bind ?_ (fun _ => ?_))
      | exact ih0 _ _
      | exact ih1 _ _ _
      | exact ih2 _ _ _ _
      | exact ih3 _ _ _
      | exact ih4 _ _ _ _ _
      | exact ih5 _ _ _ _ _ _
      | exact ih6 _ _ _ _ _ _
      | exact ih7 _ _ _ _
      | exact ih8 _ _ _ _
      | exact ih9 _ _ _ _ _ _
      | exact ih10 _ _
      | exact LeO.none _
      | refine LeO.ite ?_ ?_
      | refine LeO.bind ?_ (fun _ => ?_)
theorem spec_DecFront.mono : ∀ a0 k, LeO (spec_DecFront.f k a0) (spec_DecFront.f (k + 1) a0) := by
  intro a0 k
  obtain ⟨ih0, ih1, ih2, ih3, ih4, ih5, ih6, ih7, ih8, ih9, ih10⟩ := spec_DecFront.mono_l k
  unfold spec_DecFront.f
  repeat' first
      | (with_reducible exact ih0 _ _)
      | (with_reducible exact ih1 _ _ _)
      | (with_reducible exact ih2 _ _ _ _)
      | (with_reducible exact ih3 _ _ _)
      | (with_reducible exact ih4 _ _ _ _ _)
      | (with_reducible exact ih5 _ _ _ _ _ _)
      | (with_reducible exact ih6 _ _ _ _ _ _)
      | (with_reducible exact ih7 _ _ _ _)
      | (with_reducible exact ih8 _ _ _ _)
      | (with_reducible exact ih9 _ _ _ _ _ _)
      | (with_reducible exact ih10 _ _)
      | (with_reducible exact LeO.refl _)
      | (with_reducible exact LeO.none _)
      | (with_reducible refine LeO.ite ?_ ?_)
      | (with_reducible refine LeO.bind ?_ (fun _ => ?_))
      | exact ih0 _ _
      | exact ih1 _ _ _
      | exact ih2 _ _ _ _
      | exact ih3 _ _ _
      | exact ih4 _ _ _ _ _
      | exact ih5 _ _ _ _ _ _
      | exact ih6 _ _ _ _ _ _
      | exact ih7 _ _ _ _
      | exact ih8 _ _ _ _
      | exact ih9 _ _ _ _ _ _
      | exact ih10 _ _
      | exact LeO.none _
      | refine LeO.ite ?_ ?_
      | refine LeO.bind ?_ (fun _ => ?_)
noncomputable def spec_DecFront.j1v (x0 : ByteArray) (x4 : Int) : Option (Int × Int) := limOf (fun k => spec_DecFront.j1 k x0 x4)
theorem spec_DecFront.j1_lim (x0 : ByteArray) (x4 : Int) : Lim (fun k => spec_DecFront.j1 k x0 x4) (spec_DecFront.j1v x0 x4) := Lim.of (fun k => (spec_DecFront.mono_l k).1 x0 x4)
noncomputable def spec_DecFront.j2v (x0 : ByteArray) (x4 : Int) (x5 : Bool) : Option (Int × Int) := limOf (fun k => spec_DecFront.j2 k x0 x4 x5)
theorem spec_DecFront.j2_lim (x0 : ByteArray) (x4 : Int) (x5 : Bool) : Lim (fun k => spec_DecFront.j2 k x0 x4 x5) (spec_DecFront.j2v x0 x4 x5) := Lim.of (fun k => (spec_DecFront.mono_l k).2.1 x0 x4 x5)
noncomputable def spec_DecFront.j3v (x0 : ByteArray) (x4 : Int) (x5 : Bool) (x46 : Bool) : Option (Int × Int) := limOf (fun k => spec_DecFront.j3 k x0 x4 x5 x46)
theorem spec_DecFront.j3_lim (x0 : ByteArray) (x4 : Int) (x5 : Bool) (x46 : Bool) : Lim (fun k => spec_DecFront.j3 k x0 x4 x5 x46) (spec_DecFront.j3v x0 x4 x5 x46) := Lim.of (fun k => (spec_DecFront.mono_l k).2.2.1 x0 x4 x5 x46)
noncomputable def spec_DecFront.j4v (x0 : ByteArray) (x4 : Int) (x5 : Bool) : Option (Int × Int) := limOf (fun k => spec_DecFront.j4 k x0 x4 x5)
theorem spec_DecFront.j4_lim (x0 : ByteArray) (x4 : Int) (x5 : Bool) : Lim (fun k => spec_DecFront.j4 k x0 x4 x5) (spec_DecFront.j4v x0 x4 x5) := Lim.of (fun k => (spec_DecFront.mono_l k).2.2.2.1 x0 x4 x5)
noncomputable def spec_DecFront.l1v (x0 : ByteArray) (x4 : Int) (x5 : Bool) (x6 : Int) (x7 : Int) : Option (Int × Int) := limOf (fun k => spec_DecFront.l1 k x0 x4 x5 x6 x7)
theorem spec_DecFront.l1_lim (x0 : ByteArray) (x4 : Int) (x5 : Bool) (x6 : Int) (x7 : Int) : Lim (fun k => spec_DecFront.l1 k x0 x4 x5 x6 x7) (spec_DecFront.l1v x0 x4 x5 x6 x7) := Lim.of (fun k => (spec_DecFront.mono_l k).2.2.2.2.1 x0 x4 x5 x6 x7)
noncomputable def spec_DecFront.j6v (x0 : ByteArray) (x4 : Int) (x5 : Bool) (x6 : Int) (x7 : Int) (x58 : Bool) : Option (Int × Int) := limOf (fun k => spec_DecFront.j6 k x0 x4 x5 x6 x7 x58)
theorem spec_DecFront.j6_lim (x0 : ByteArray) (x4 : Int) (x5 : Bool) (x6 : Int) (x7 : Int) (x58 : Bool) : Lim (fun k => spec_DecFront.j6 k x0 x4 x5 x6 x7 x58) (spec_DecFront.j6v x0 x4 x5 x6 x7 x58) := Lim.of (fun k => (spec_DecFront.mono_l k).2.2.2.2.2.1 x0 x4 x5 x6 x7 x58)
noncomputable def spec_DecFront.j7v (x0 : ByteArray) (x4 : Int) (x5 : Bool) (x6 : Int) (x7 : Int) (x91 : Bool) : Option (Int × Int) := limOf (fun k => spec_DecFront.j7 k x0 x4 x5 x6 x7 x91)
theorem spec_DecFront.j7_lim (x0 : ByteArray) (x4 : Int) (x5 : Bool) (x6 : Int) (x7 : Int) (x91 : Bool) : Lim (fun k => spec_DecFront.j7 k x0 x4 x5 x6 x7 x91) (spec_DecFront.j7v x0 x4 x5 x6 x7 x91) := Lim.of (fun k => (spec_DecFront.mono_l k).2.2.2.2.2.2.1 x0 x4 x5 x6 x7 x91)
noncomputable def spec_DecFront.j9v (x4 : Int) (x5 : Bool) (x6 : Int) (x7 : Int) : Option (Int × Int) := limOf (fun k => spec_DecFront.j9 k x4 x5 x6 x7)
theorem spec_DecFront.j9_lim (x4 : Int) (x5 : Bool) (x6 : Int) (x7 : Int) : Lim (fun k => spec_DecFront.j9 k x4 x5 x6 x7) (spec_DecFront.j9v x4 x5 x6 x7) := Lim.of (fun k => (spec_DecFront.mono_l k).2.2.2.2.2.2.2.1 x4 x5 x6 x7)
noncomputable def spec_DecFront.j10v (x4 : Int) (x5 : Bool) (x6 : Int) (x124 : Bool) : Option (Int × Int) := limOf (fun k => spec_DecFront.j10 k x4 x5 x6 x124)
theorem spec_DecFront.j10_lim (x4 : Int) (x5 : Bool) (x6 : Int) (x124 : Bool) : Lim (fun k => spec_DecFront.j10 k x4 x5 x6 x124) (spec_DecFront.j10v x4 x5 x6 x124) := Lim.of (fun k => (spec_DecFront.mono_l k).2.2.2.2.2.2.2.2.1 x4 x5 x6 x124)
noncomputable def spec_DecFront.l2v (x0 : ByteArray) (x4 : Int) (x5 : Bool) (x6 : Int) (x7 : Int) (x8 : Int) : Option (Int × Int) := limOf (fun k => spec_DecFront.l2 k x0 x4 x5 x6 x7 x8)
theorem spec_DecFront.l2_lim (x0 : ByteArray) (x4 : Int) (x5 : Bool) (x6 : Int) (x7 : Int) (x8 : Int) : Lim (fun k => spec_DecFront.l2 k x0 x4 x5 x6 x7 x8) (spec_DecFront.l2v x0 x4 x5 x6 x7 x8) := Lim.of (fun k => (spec_DecFront.mono_l k).2.2.2.2.2.2.2.2.2.1 x0 x4 x5 x6 x7 x8)
noncomputable def spec_DecFront.l0v (x0 : ByteArray) (x4 : Int) : Option (Int × Int) := limOf (fun k => spec_DecFront.l0 k x0 x4)
theorem spec_DecFront.l0_lim (x0 : ByteArray) (x4 : Int) : Lim (fun k => spec_DecFront.l0 k x0 x4) (spec_DecFront.l0v x0 x4) := Lim.of (fun k => (spec_DecFront.mono_l k).2.2.2.2.2.2.2.2.2.2 x0 x4)
noncomputable def spec_DecFront.fv (a0 : ByteArray) : Option (Int × Int) := limOf (fun k => spec_DecFront.f k a0)
theorem spec_DecFront.f_lim (a0 : ByteArray) : Lim (fun k => spec_DecFront.f k a0) (spec_DecFront.fv a0) := Lim.of (fun k => spec_DecFront.mono a0 k)
set_option maxHeartbeats 4000000 in
theorem spec_DecFront.j1v_eq (x0 : ByteArray) (x4 : Int) : spec_DecFront.j1v x0 x4 = (if x4 < (x0.size : Int) then (if 0 ≤ x4 then (spec_DecFront.j2v x0 x4 ((bt x0 x4) == 45)) else (none)) else (spec_DecFront.j2v x0 x4 false)) := by
  refine Lim.succ (spec_DecFront.j1_lim x0 x4) ?_
  simp only [spec_DecFront.j1]
  repeat' first
    | (with_reducible apply spec_DecFront.j2_lim)
    | (with_reducible exact Lim.const _)
    | (with_reducible refine Lim.ite ?_ ?_)
    | (with_reducible refine Lim.bind ?_ (fun _ => ?_))
    | apply spec_DecFront.j2_lim
    | exact Lim.const _
    | refine Lim.ite ?_ ?_
    | refine Lim.bind ?_ (fun _ => ?_)
set_option maxHeartbeats 4000000 in
theorem spec_DecFront.j2v_eq (x0 : ByteArray) (x4 : Int) (x5 : Bool) : spec_DecFront.j2v x0 x4 x5 = (if x4 < (x0.size : Int) then (if 0 ≤ x4 then (if (bt x0 x4) = 45 then (spec_DecFront.j3v x0 x4 x5 true) else (spec_DecFront.j3v x0 x4 x5 ((bt x0 x4) == 43))) else (none)) else (spec_DecFront.j3v x0 x4 x5 false)) := by
  refine Lim.succ (spec_DecFront.j2_lim x0 x4 x5) ?_
  simp only [spec_DecFront.j2]
  repeat' first
    | (with_reducible apply spec_DecFront.j3_lim)
    | (with_reducible exact Lim.const _)
    | (with_reducible refine Lim.ite ?_ ?_)
    | (with_reducible refine Lim.bind ?_ (fun _ => ?_))
    | apply spec_DecFront.j3_lim
    | exact Lim.const _
    | refine Lim.ite ?_ ?_
    | refine Lim.bind ?_ (fun _ => ?_)
set_option maxHeartbeats 4000000 in
theorem spec_DecFront.j3v_eq (x0 : ByteArray) (x4 : Int) (x5 : Bool) (x46 : Bool) : spec_DecFront.j3v x0 x4 x5 x46 = (if x46 = true then (spec_DecFront.j4v x0 (wrap64 (x4 + 1)) x5) else (spec_DecFront.j4v x0 x4 x5)) := by
  refine Lim.succ (spec_DecFront.j3_lim x0 x4 x5 x46) ?_
  simp only [spec_DecFront.j3]
  repeat' first
    | (with_reducible apply spec_DecFront.j4_lim)
    | (with_reducible exact Lim.const _)
    | (with_reducible refine Lim.ite ?_ ?_)
    | (with_reducible refine Lim.bind ?_ (fun _ => ?_))
    | apply spec_DecFront.j4_lim
    | exact Lim.const _
    | refine Lim.ite ?_ ?_
    | refine Lim.bind ?_ (fun _ => ?_)
set_option maxHeartbeats 4000000 in
theorem spec_DecFront.j4v_eq (x0 : ByteArray) (x4 : Int) (x5 : Bool) : spec_DecFront.j4v x0 x4 x5 = (spec_DecFront.l1v x0 x4 x5 0 0) := by
  refine Lim.succ (spec_DecFront.j4_lim x0 x4 x5) ?_
  simp only [spec_DecFront.j4]
  repeat' first
    | (with_reducible apply spec_DecFront.l1_lim)
    | (with_reducible exact Lim.const _)
    | (with_reducible refine Lim.ite ?_ ?_)
    | (with_reducible refine Lim.bind ?_ (fun _ => ?_))
    | apply spec_DecFront.l1_lim
    | exact Lim.const _
    | refine Lim.ite ?_ ?_
    | refine Lim.bind ?_ (fun _ => ?_)
set_option maxHeartbeats 4000000 in
theorem spec_DecFront.l1v_eq (x0 : ByteArray) (x4 : Int) (x5 : Bool) (x6 : Int) (x7 : Int) : spec_DecFront.l1v x0 x4 x5 x6 x7 = (if x4 < (x0.size : Int) then (if 0 ≤ x4 then ((spec_l2Digit.f (bt x0 x4)).bind fun t112 => (spec_DecFront.j6v x0 x4 x5 x6 x7 t112)) else (none)) else (spec_DecFront.j6v x0 x4 x5 x6 x7 false)) := by
  refine Lim.succ (spec_DecFront.l1_lim x0 x4 x5 x6 x7) ?_
  simp only [spec_DecFront.l1]
  repeat' first
    | (with_reducible apply spec_DecFront.j6_lim)
    | (with_reducible exact Lim.const _)
    | (with_reducible refine Lim.ite ?_ ?_)
    | (with_reducible refine Lim.bind ?_ (fun _ => ?_))
    | apply spec_DecFront.j6_lim
    | exact Lim.const _
    | refine Lim.ite ?_ ?_
    | refine Lim.bind ?_ (fun _ => ?_)
set_option maxHeartbeats 4000000 in
theorem spec_DecFront.j6v_eq (x0 : ByteArray) (x4 : Int) (x5 : Bool) (x6 : Int) (x7 : Int) (x58 : Bool) : spec_DecFront.j6v x0 x4 x5 x6 x7 x58 = (if x58 = true then (if x6 ≤ 9000000000000 then (if 0 ≤ x4 then (if x4 < (x0.size : Int) then (spec_DecFront.l1v x0 (wrap64 (x4 + 1)) x5 (wrap64 ((wrap64 (10 * x6)) + (wrap64 ((wrap64 ((wrap64 (bt x0 x4)) - 48)) * 1000000)))) (wrap64 (x7 + 1))) else (none)) else (none)) else (spec_DecFront.l1v x0 (wrap64 (x4 + 1)) x5 x6 (wrap64 (x7 + 1)))) else (if (wrap64 (x4 + 1)) < (x0.size : Int) then (if 0 ≤ x4 then (if x4 < (x0.size : Int) then (if (bt x0 x4) = 46 then (if 0 ≤ (wrap64 (x4 + 1)) then ((spec_l2Digit.f (bt x0 (wrap64 (x4 + 1)))).bind fun t113 => (spec_DecFront.j7v x0 x4 x5 x6 x7 t113)) else (none)) else (spec_DecFront.j7v x0 x4 x5 x6 x7 false)) else (none)) else (none)) else (spec_DecFront.j7v x0 x4 x5 x6 x7 false))) := by
  refine Lim.succ (spec_DecFront.j6_lim x0 x4 x5 x6 x7 x58) ?_
  simp only [spec_DecFront.j6]
  repeat' first
    | (with_reducible apply spec_DecFront.j7_lim)
    | (with_reducible apply spec_DecFront.l1_lim)
    | (with_reducible exact Lim.const _)
    | (with_reducible refine Lim.ite ?_ ?_)
    | (with_reducible refine Lim.bind ?_ (fun _ => ?_))
    | apply spec_DecFront.j7_lim
    | apply spec_DecFront.l1_lim
    | exact Lim.const _
    | refine Lim.ite ?_ ?_
    | refine Lim.bind ?_ (fun _ => ?_)
set_option maxHeartbeats 4000000 in
theorem spec_DecFront.j7v_eq (x0 : ByteArray) (x4 : Int) (x5 : Bool) (x6 : Int) (x7 : Int) (x91 : Bool) : spec_DecFront.j7v x0 x4 x5 x6 x7 x91 = (if x91 = true then (spec_DecFront.l2v x0 (wrap64 (x4 + 1)) x5 x6 x7 100000) else (spec_DecFront.j9v x4 x5 x6 x7)) := by
  refine Lim.succ (spec_DecFront.j7_lim x0 x4 x5 x6 x7 x91) ?_
  simp only [spec_DecFront.j7]
  repeat' first
    | (with_reducible apply spec_DecFront.j9_lim)
    | (with_reducible apply spec_DecFront.l2_lim)
    | (with_reducible exact Lim.const _)
    | (with_reducible refine Lim.ite ?_ ?_)
    | (with_reducible refine Lim.bind ?_ (fun _ => ?_))
    | apply spec_DecFront.j9_lim
    | apply spec_DecFront.l2_lim
    | exact Lim.const _
    | refine Lim.ite ?_ ?_
    | refine Lim.bind ?_ (fun _ => ?_)
set_option maxHeartbeats 4000000 in
theorem spec_DecFront.j9v_eq (x4 : Int) (x5 : Bool) (x6 : Int) (x7 : Int) : spec_DecFront.j9v x4 x5 x6 x7 = (if x7 = 0 then (spec_DecFront.j10v x4 x5 x6 true) else (spec_DecFront.j10v x4 x5 x6 (decide (x6 > 9000000000000)))) := by
  refine Lim.succ (spec_DecFront.j9_lim x4 x5 x6 x7) ?_
  simp only [spec_DecFront.j9]
  repeat' first
    | (with_reducible apply spec_DecFront.j10_lim)
    | (with_reducible exact Lim.const _)
    | (with_reducible refine Lim.ite ?_ ?_)
    | (with_reducible refine Lim.bind ?_ (fun _ => ?_))
    | apply spec_DecFront.j10_lim
    | exact Lim.const _
    | refine Lim.ite ?_ ?_
    | refine Lim.bind ?_ (fun _ => ?_)
set_option maxHeartbeats 4000000 in
theorem spec_DecFront.j10v_eq (x4 : Int) (x5 : Bool) (x6 : Int) (x124 : Bool) : spec_DecFront.j10v x4 x5 x6 x124 = (if x124 = true then (some (0, 0)) else (if x5 = true then (some (wrap64 (-x6), x4)) else (some (x6, x4)))) := by
  refine Lim.succ (spec_DecFront.j10_lim x4 x5 x6 x124) ?_
  simp only [spec_DecFront.j10]
  repeat' first
    | (with_reducible exact Lim.const _)
    | (with_reducible refine Lim.ite ?_ ?_)
    | (with_reducible refine Lim.bind ?_ (fun _ => ?_))
    | exact Lim.const _
    | refine Lim.ite ?_ ?_
    | refine Lim.bind ?_ (fun _ => ?_)
set_option maxHeartbeats 4000000 in
theorem spec_DecFront.l2v_eq (x0 : ByteArray) (x4 : Int) (x5 : Bool) (x6 : Int) (x7 : Int) (x8 : Int) : spec_DecFront.l2v x0 x4 x5 x6 x7 x8 = (if x4 < (x0.size : Int) then (if 0 ≤ x4 then ((spec_l2Digit.f (bt x0 x4)).bind fun t114 => (if t114 = true then (spec_DecFront.l2v x0 (wrap64 (x4 + 1)) x5 (wrap64 (x6 + (wrap64 ((wrap64 ((wrap64 (bt x0 x4)) - 48)) * x8)))) (wrap64 (x7 + 1)) (wrap64 (Int.tdiv x8 10))) else (spec_DecFront.j9v x4 x5 x6 x7))) else (none)) else (spec_DecFront.j9v x4 x5 x6 x7)) := by
  refine Lim.succ (spec_DecFront.l2_lim x0 x4 x5 x6 x7 x8) ?_
  simp only [spec_DecFront.l2]
  repeat' first
    | (with_reducible apply spec_DecFront.j9_lim)
    | (with_reducible apply spec_DecFront.l2_lim)
    | (with_reducible exact Lim.const _)
    | (with_reducible refine Lim.ite ?_ ?_)
    | (with_reducible refine Lim.bind ?_ (fun _ => ?_))
    | apply spec_DecFront.j9_lim
    | apply spec_DecFront.l2_lim
    | exact Lim.const _
    | refine Lim.ite ?_ ?_
    | refine Lim.bind ?_ (fun _ => ?_)
set_option maxHeartbeats 4000000 in
theorem spec_DecFront.l0v_eq (x0 : ByteArray) (x4 : Int) : spec_DecFront.l0v x0 x4 = (if x4 < (x0.size : Int) then (if 0 ≤ x4 then (if (bt x0 x4) = 32 then (spec_DecFront.l0v x0 (wrap64 (x4 + 1))) else (spec_DecFront.j1v x0 x4)) else (none)) else (spec_DecFront.j1v x0 x4)) := by
  refine Lim.succ (spec_DecFront.l0_lim x0 x4) ?_
  simp only [spec_DecFront.l0]
  repeat' first
    | (with_reducible apply spec_DecFront.j1_lim)
    | (with_reducible apply spec_DecFront.l0_lim)
    | (with_reducible exact Lim.const _)
    | (with_reducible refine Lim.ite ?_ ?_)
    | (with_reducible refine Lim.bind ?_ (fun _ => ?_))
    | apply spec_DecFront.j1_lim
    | apply spec_DecFront.l0_lim
    | exact Lim.const _
    | refine Lim.ite ?_ ?_
    | refine Lim.bind ?_ (fun _ => ?_)
set_option maxHeartbeats 4000000 in
theorem spec_DecFront.fv_eq (a0 : ByteArray) : spec_DecFront.fv a0 = (spec_DecFront.l0v a0 0) := by
  refine Lim.eq (spec_DecFront.f_lim a0) ?_
  simp only [spec_DecFront.f]
  repeat' first
    | (with_reducible apply spec_DecFront.l0_lim)
    | (with_reducible exact Lim.const _)
    | (with_reducible refine Lim.ite ?_ ?_)
    | (with_reducible refine Lim.bind ?_ (fun _ => ?_))
    | apply spec_DecFront.l0_lim
    | exact Lim.const _
    | refine Lim.ite ?_ ?_
    | refine Lim.bind ?_ (fun _ => ?_)

/-! ### spec_ToNum -/
def spec_ToNum.j0 : Nat → Int → Bool → Int → Int → ByteArray → Option (Int)
  | 0, _, _, _, _, _ => none
  | k + 1, x6, x7, x116000, x116001, x116002 => if x7 = true then (some x116001) else (if x6 = 2 then ((spec_DecFront.f k x116002).bind fun bt116 => (some bt116.1)) else (some 0))
def spec_ToNum.f (k : Nat) (a0_0 : Int) (a0_1 : Int) (a0_2 : ByteArray) : Option (Int) := if a0_0 = 1 then (spec_ToNum.j0 k a0_0 (a0_0 == 1) a0_0 a0_1 a0_2) else (spec_ToNum.j0 k a0_0 (a0_0 == 3) a0_0 a0_1 a0_2)
theorem spec_ToNum.mono_l : ∀ k, (∀ y0 y1 y2 y3 y4, LeO (spec_ToNum.j0 k y0 y1 y2 y3 y4) (spec_ToNum.j0 (k + 1) y0 y1 y2 y3 y4))
  | 0 => fun _ _ _ _ _ r h => by simp [spec_ToNum.j0] at h
  | k + 1 => by
    have ih0 := spec_ToNum.mono_l k
    · intro y0 y1 y2 y3 y4
      unfold spec_ToNum.j0
      repeat' first
      | (with_reducible exact ih0 _ _ _ _ _)
      | (with_reducible exact spec_DecFront.mono _ _)
      | (with_reducible exact LeO.refl _)
      | (with_reducible exact LeO.none _)
      | (with_reducible refine LeO.ite ?_ ?_)
      | (with_reducible refine LeO.bind ?_ (fun _ => ?_))
      | exact ih0 _ _ _ _ _
      | exact spec_DecFront.mono _ _
      | exact LeO.none _
      | refine LeO.ite ?_ ?_
      | refine LeO.bind ?_ (fun _ => ?_)
theorem spec_ToNum.mono : ∀ a0 a1 a2 k, LeO (spec_ToNum.f k a0 a1 a2) (spec_ToNum.f (k + 1) a0 a1 a2) := by
  intro a0 a1 a2 k
  have ih0 := spec_ToNum.mono_l k
  unfold spec_ToNum.f
  repeat' first
      | (with_reducible exact ih0 _ _ _ _ _)
      | (with_reducible exact spec_DecFront.mono _ _)
      | (with_reducible exact LeO.refl _)
      | (with_reducible exact LeO.none _)
      | (with_reducible refine LeO.ite ?_ ?_)
      | (with_reducible refine LeO.bind ?_ (fun _ => ?_))
      | exact ih0 _ _ _ _ _
      | exact spec_DecFront.mono _ _
      | exact LeO.none _
      | refine LeO.ite ?_ ?_
      | refine LeO.bind ?_ (fun _ => ?_)
noncomputable def spec_ToNum.j0v (x6 : Int) (x7 : Bool) (x116000 : Int) (x116001 : Int) (x116002 : ByteArray) : Option (Int) := limOf (fun k => spec_ToNum.j0 k x6 x7 x116000 x116001 x116002)
theorem spec_ToNum.j0_lim (x6 : Int) (x7 : Bool) (x116000 : Int) (x116001 : Int) (x116002 : ByteArray) : Lim (fun k => spec_ToNum.j0 k x6 x7 x116000 x116001 x116002) (spec_ToNum.j0v x6 x7 x116000 x116001 x116002) := Lim.of (fun k => spec_ToNum.mono_l k x6 x7 x116000 x116001 x116002)
noncomputable def spec_ToNum.fv (a0_0 : Int) (a0_1 : Int) (a0_2 : ByteArray) : Option (Int) := limOf (fun k => spec_ToNum.f k a0_0 a0_1 a0_2)
theorem spec_ToNum.f_lim (a0_0 : Int) (a0_1 : Int) (a0_2 : ByteArray) : Lim (fun k => spec_ToNum.f k a0_0 a0_1 a0_2) (spec_ToNum.fv a0_0 a0_1 a0_2) := Lim.of (fun k => spec_ToNum.mono a0_0 a0_1 a0_2 k)
set_option maxHeartbeats 4000000 in
theorem spec_ToNum.j0v_eq (x6 : Int) (x7 : Bool) (x116000 : Int) (x116001 : Int) (x116002 : ByteArray) : spec_ToNum.j0v x6 x7 x116000 x116001 x116002 = (if x7 = true then (some x116001) else (if x6 = 2 then ((spec_DecFront.fv x116002).bind fun bt116 => (some bt116.1)) else (some 0))) := by
  refine Lim.succ (spec_ToNum.j0_lim x6 x7 x116000 x116001 x116002) ?_
  simp only [spec_ToNum.j0]
  repeat' first
    | (with_reducible apply spec_DecFront.f_lim)
    | (with_reducible exact Lim.const _)
    | (with_reducible refine Lim.ite ?_ ?_)
    | (with_reducible refine Lim.bind ?_ (fun _ => ?_))
    | apply spec_DecFront.f_lim
    | exact Lim.const _
    | refine Lim.ite ?_ ?_
    | refine Lim.bind ?_ (fun _ => ?_)
set_option maxHeartbeats 4000000 in
theorem spec_ToNum.fv_eq (a0_0 : Int) (a0_1 : Int) (a0_2 : ByteArray) : spec_ToNum.fv a0_0 a0_1 a0_2 = (if a0_0 = 1 then (spec_ToNum.j0v a0_0 (a0_0 == 1) a0_0 a0_1 a0_2) else (spec_ToNum.j0v a0_0 (a0_0 == 3) a0_0 a0_1 a0_2)) := by
  refine Lim.eq (spec_ToNum.f_lim a0_0 a0_1 a0_2) ?_
  simp only [spec_ToNum.f]
  repeat' first
    | (with_reducible apply spec_ToNum.j0_lim)
    | (with_reducible exact Lim.const _)
    | (with_reducible refine Lim.ite ?_ ?_)
    | (with_reducible refine Lim.bind ?_ (fun _ => ?_))
    | apply spec_ToNum.j0_lim
    | exact Lim.const _
    | refine Lim.ite ?_ ?_
    | refine Lim.bind ?_ (fun _ => ?_)

/-! ### spec_l1Bit -/
def spec_l1Bit.f (a0 : Bool) : Option (Int) := if a0 = true then (some 1) else (some 0)

/-! ### spec_Compare -/
def spec_Compare.j0 : Nat → Bool → Bool → Bool → Int → Int → ByteArray → Int → Int → ByteArray → Option (Int)
  | 0, _, _, _, _, _, _, _, _, _ => none
  | k + 1, x5, x6, x24, x119000, x119001, x119002, x120000, x120001, x120002 => if x24 = true then ((spec_ToNum.f k x119000 x119001 x119002).bind fun t124 => ((spec_ToNum.f k x120000 x120001 x120002).bind fun t125 => ((spec_ToNum.f k x119000 x119001 x119002).bind fun t126 => ((spec_ToNum.f k x120000 x120001 x120002).bind fun t127 => (if t124 < t125 then (some (-1)) else ((spec_l1Bit.f (decide (t126 > t127))).bind fun t128 => (some t128))))))) else (if x5 = true then (some (-1)) else ((spec_l1Bit.f x6).bind fun t129 => (some t129)))
def spec_Compare.f (k : Nat) (a0_0 : Int) (a0_1 : Int) (a0_2 : ByteArray) (a1_0 : Int) (a1_1 : Int) (a1_2 : ByteArray) : Option (Int) := (spec_ToText.f k a0_0 a0_1 a0_2).bind fun t120 => ((spec_ToText.f k a1_0 a1_1 a1_2).bind fun t121 => ((spec_ToText.f k a0_0 a0_1 a0_2).bind fun t122 => ((spec_ToText.f k a1_0 a1_1 a1_2).bind fun t123 => (if a0_0 = 2 then (spec_Compare.j0 k (Op.bytesLess t120.toList t121.toList) (!(Op.bytesLess t122.toList t123.toList) && !(t122.toList == t123.toList)) false a0_0 a0_1 a0_2 a1_0 a1_1 a1_2) else (spec_Compare.j0 k (Op.bytesLess t120.toList t121.toList) (!(Op.bytesLess t122.toList t123.toList) && !(t122.toList == t123.toList)) (a1_0 != 2) a0_0 a0_1 a0_2 a1_0 a1_1 a1_2)))))
theorem spec_Compare.mono_l : ∀ k, (∀ y0 y1 y2 y3 y4 y5 y6 y7 y8, LeO (spec_Compare.j0 k y0 y1 y2 y3 y4 y5 y6 y7 y8) (spec_Compare.j0 (k + 1) y0 y1 y2 y3 y4 y5 y6 y7 y8))
  | 0 => fun _ _ _ _ _ _ _ _ _ r h => by simp [spec_Compare.j0] at h
  | k + 1 => by
    have ih0 := spec_Compare.mono_l k
    · intro y0 y1 y2 y3 y4 y5 y6 y7 y8
      unfold spec_Compare.j0
      repeat' first
      | (with_reducible exact ih0 _ _ _ _ _ _ _ _ _)
      | (with_reducible exact spec_ToNum.mono _ _ _ _)
      | (with_reducible exact spec_ToText.mono _ _ _ _)
      | (with_reducible exact LeO.refl _)
      | (with_reducible exact LeO.none _)
      | (with_reducible refine LeO.ite ?_ ?_)
      | (with_reducible refine LeO.bind ?_ (fun _ => ?_))
      | exact ih0 _ _ _ _ _ _ _ _ _
      | exact spec_ToNum.mono _ _ _ _
      | exact spec_ToText.mono _ _ _ _
      | exact LeO.none _
      | refine LeO.ite ?_ ?_
      | refine LeO.bind ?_ (fun _ => ?_)
theorem spec_Compare.mono : ∀ a0 a1 a2 a3 a4 a5 k, LeO (spec_Compare.f k a0 a1 a2 a3 a4 a5) (spec_Compare.f (k + 1) a0 a1 a2 a3 a4 a5) := by
  intro a0 a1 a2 a3 a4 a5 k
  have ih0 := spec_Compare.mono_l k
  unfold spec_Compare.f
  repeat' first
      | (with_reducible exact ih0 _ _ _ _ _ _ _ _ _)
      | (with_reducible exact spec_ToNum.mono _ _ _ _)
      | (with_reducible exact spec_ToText.mono _ _ _ _)
      | (with_reducible exact LeO.refl _)
      | (with_reducible exact LeO.none _)
      | (with_reducible refine LeO.ite ?_ ?_)
      | (with_reducible refine LeO.bind ?_ (fun _ => ?_))
      | exact ih0 _ _ _ _ _ _ _ _ _
      | exact spec_ToNum.mono _ _ _ _
      | exact spec_ToText.mono _ _ _ _
      | exact LeO.none _
      | refine LeO.ite ?_ ?_
      | refine LeO.bind ?_ (fun _ => ?_)
noncomputable def spec_Compare.j0v (x5 : Bool) (x6 : Bool) (x24 : Bool) (x119000 : Int) (x119001 : Int) (x119002 : ByteArray) (x120000 : Int) (x120001 : Int) (x120002 : ByteArray) : Option (Int) := limOf (fun k => spec_Compare.j0 k x5 x6 x24 x119000 x119001 x119002 x120000 x120001 x120002)
theorem spec_Compare.j0_lim (x5 : Bool) (x6 : Bool) (x24 : Bool) (x119000 : Int) (x119001 : Int) (x119002 : ByteArray) (x120000 : Int) (x120001 : Int) (x120002 : ByteArray) : Lim (fun k => spec_Compare.j0 k x5 x6 x24 x119000 x119001 x119002 x120000 x120001 x120002) (spec_Compare.j0v x5 x6 x24 x119000 x119001 x119002 x120000 x120001 x120002) := Lim.of (fun k => spec_Compare.mono_l k x5 x6 x24 x119000 x119001 x119002 x120000 x120001 x120002)
noncomputable def spec_Compare.fv (a0_0 : Int) (a0_1 : Int) (a0_2 : ByteArray) (a1_0 : Int) (a1_1 : Int) (a1_2 : ByteArray) : Option (Int) := limOf (fun k => spec_Compare.f k a0_0 a0_1 a0_2 a1_0 a1_1 a1_2)
theorem spec_Compare.f_lim (a0_0 : Int) (a0_1 : Int) (a0_2 : ByteArray) (a1_0 : Int) (a1_1 : Int) (a1_2 : ByteArray) : Lim (fun k => spec_Compare.f k a0_0 a0_1 a0_2 a1_0 a1_1 a1_2) (spec_Compare.fv a0_0 a0_1 a0_2 a1_0 a1_1 a1_2) := Lim.of (fun k => spec_Compare.mono a0_0 a0_1 a0_2 a1_0 a1_1 a1_2 k)
set_option maxHeartbeats 4000000 in
theorem spec_Compare.j0v_eq (x5 : Bool) (x6 : Bool) (x24 : Bool) (x119000 : Int) (x119001 : Int) (x119002 : ByteArray) (x120000 : Int) (x120001 : Int) (x120002 : ByteArray) : spec_Compare.j0v x5 x6 x24 x119000 x119001 x119002 x120000 x120001 x120002 = (if x24 = true then ((spec_ToNum.fv x119000 x119001 x119002).bind fun t124 => ((spec_ToNum.fv x120000 x120001 x120002).bind fun t125 => ((spec_ToNum.fv x119000 x119001 x119002).bind fun t126 => ((spec_ToNum.fv x120000 x120001 x120002).bind fun t127 => (if t124 < t125 then (some (-1)) else ((spec_l1Bit.f (decide (t126 > t127))).bind fun t128 => (some t128))))))) else (if x5 = true then (some (-1)) else ((spec_l1Bit.f x6).bind fun t129 => (some t129)))) := by
  refine Lim.succ (spec_Compare.j0_lim x5 x6 x24 x119000 x119001 x119002 x120000 x120001 x120002) ?_
  simp only [spec_Compare.j0]
  repeat' first
    | (with_reducible apply spec_ToNum.f_lim)
    | (with_reducible exact Lim.const _)
    | (with_reducible refine Lim.ite ?_ ?_)
    | (with_reducible refine Lim.bind ?_ (fun _ => ?_))
    | apply spec_ToNum.f_lim
    | exact Lim.const _
    | refine Lim.ite ?_ ?_
    | refine Lim.bind ?_ (fun _ => ?_)
set_option maxHeartbeats 4000000 in
theorem spec_Compare.fv_eq (a0_0 : Int) (a0_1 : Int) (a0_2 : ByteArray) (a1_0 : Int) (a1_1 : Int) (a1_2 : ByteArray) : spec_Compare.fv a0_0 a0_1 a0_2 a1_0 a1_1 a1_2 = ((spec_ToText.fv a0_0 a0_1 a0_2).bind fun t120 => ((spec_ToText.fv a1_0 a1_1 a1_2).bind fun t121 => ((spec_ToText.fv a0_0 a0_1 a0_2).bind fun t122 => ((spec_ToText.fv a1_0 a1_1 a1_2).bind fun t123 => (if a0_0 = 2 then (spec_Compare.j0v (Op.bytesLess t120.toList t121.toList) (!(Op.bytesLess t122.toList t123.toList) && !(t122.toList == t123.toList)) false a0_0 a0_1 a0_2 a1_0 a1_1 a1_2) else (spec_Compare.j0v (Op.bytesLess t120.toList t121.toList) (!(Op.bytesLess t122.toList t123.toList) && !(t122.toList == t123.toList)) (a1_0 != 2) a0_0 a0_1 a0_2 a1_0 a1_1 a1_2)))))) := by
  refine Lim.eq (spec_Compare.f_lim a0_0 a0_1 a0_2 a1_0 a1_1 a1_2) ?_
  simp only [spec_Compare.f]
  repeat' first
    | (with_reducible apply spec_Compare.j0_lim)
    | (with_reducible apply spec_ToText.f_lim)
    | (with_reducible exact Lim.const _)
    | (with_reducible refine Lim.ite ?_ ?_)
    | (with_reducible refine Lim.bind ?_ (fun _ => ?_))
    | apply spec_Compare.j0_lim
    | apply spec_ToText.f_lim
    | exact Lim.const _
    | refine Lim.ite ?_ ?_
    | refine Lim.bind ?_ (fun _ => ?_)

/-! ### laws_toVal -/
def laws_toVal.f (a0_0 : Int) (a0_1 : Int) (a0_2 : ByteArray) : Option (Int × Int × ByteArray) := some (a0_0, a0_1, a0_2)

/-! ### strings_Compare -/
def strings_Compare.f (a0 : ByteArray) (a1 : ByteArray) : Option (Int) := some (Lib.compareBytes a0.data.toList a1.data.toList)

/-! ### impl_in -/
def impl_in.f (a0 : Int) (a1 : Int) (a2 : Int) : Option (Bool) := if a0 ≥ a1 then (some (decide (a0 ≤ a2))) else (some false)

/-! ### impl_DecOk -/
def impl_DecOk.f (a0 : Int) : Option (Bool) := (impl_in.f a0 (-9000000000000) 9000000000000).bind fun t133 => (some t133)

/-! ### strconv_Itoa -/
def strconv_Itoa.f (a0 : Int) : Option (ByteArray) := if -9223372036854775808 ≤ a0 ∧ a0 ≤ 9223372036854775807 then some ⟨(Lib.itoa a0).toArray⟩ else none

/-! ### strings_TrimRight -/
def strings_TrimRight.f (a0 : ByteArray) (a1 : ByteArray) : Option (ByteArray) := match a1.data.toList with | [c_] => if c_.toNat < 128 ∧ a0.size ≤ 9223372036854775807 then some ⟨(Lib.trimRightB a0.data.toList c_).toArray⟩ else none | _ => none

end Go.Proofs.YtejndaljfbclnaaDoor.QFnExactCompare
