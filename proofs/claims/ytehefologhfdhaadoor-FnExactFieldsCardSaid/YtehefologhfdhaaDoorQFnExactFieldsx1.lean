/- Written by wip/pr2, a program of this session. -/
import Derived.Test.YtehefologhfdhaaDoorQFnExactFieldsx0
import Derived.Test.YtehefologhfdhaaDoorLim
import Derived.Test.YtehefologhfdhaaDoorExt
namespace Go.Proofs.YtehefologhfdhaaDoor.QFnExactFields
open Go.RowKit Go.Proofs.YtehefologhfdhaaDoorW.PrintWords Go.Proofs.YtehefologhfdhaaDoorW.PrintLast Go.Proofs.YtehefologhfdhaaDoorW.PrintMore
attribute [local go_sem] max2_int min2_int max_two min_two max_three min_three max_four min_four   -- for this text's walks alone
set_option linter.unusedVariables false
set_option linter.unusedSimpArgs false
set_option maxHeartbeats 8000000

open Go.Proofs.YtehefologhfdhaaDoorW.Lims
/-! ### spec_Fields -/
mutual
def spec_Fields.l0 : Nat → ByteArray → List ByteArray → Int → Int → Option (List ByteArray)
  | 0, _, _, _, _ => none
  | k + 1, x0, x3, x4, x5 => if x5 ≤ (x0.size : Int) then (if x5 < (x0.size : Int) then (if 0 ≤ x5 then (spec_Fields.j1 k x0 x3 x4 x5 ((bt x0 x5) != 32)) else (none)) else (spec_Fields.j1 k x0 x3 x4 x5 false)) else (some x3)
def spec_Fields.j1 : Nat → ByteArray → List ByteArray → Int → Int → Bool → Option (List ByteArray)
  | 0, _, _, _, _, _ => none
  | k + 1, x0, x3, x4, x5, x22 => if x22 = true then (spec_Fields.l0 k x0 x3 x4 (wrap64 (x5 + 1))) else (if x5 > x4 then (if 0 ≤ x4 then (if x4 ≤ x5 then (if x5 ≤ (x0.size : Int) then (if x3.length < 8796093022208 then (spec_Fields.l0 k x0 (x3 ++ [x0.extract (x4 : Int).toNat (x5 : Int).toNat]) (wrap64 (x5 + 1)) (wrap64 (x5 + 1))) else (none)) else (none)) else (none)) else (none)) else (spec_Fields.l0 k x0 x3 (wrap64 (x5 + 1)) (wrap64 (x5 + 1))))
end
def spec_Fields.f (k : Nat) (a0 : ByteArray) : Option (List ByteArray) := spec_Fields.l0 k a0 (([] : List ByteArray)) 0 0
theorem spec_Fields.mono_l : ∀ k, (∀ y0 y1 y2 y3, LeO (spec_Fields.l0 k y0 y1 y2 y3) (spec_Fields.l0 (k + 1) y0 y1 y2 y3)) ∧ (∀ y0 y1 y2 y3 y4, LeO (spec_Fields.j1 k y0 y1 y2 y3 y4) (spec_Fields.j1 (k + 1) y0 y1 y2 y3 y4))
  | 0 => ⟨fun _ _ _ _ r h => by simp [spec_Fields.l0] at h, fun _ _ _ _ _ r h => by simp [spec_Fields.j1] at h⟩
  | k + 1 => by
    obtain ⟨ih0, ih1⟩ := spec_Fields.mono_l k
    refine ⟨?_, ?_⟩
    · intro y0 y1 y2 y3
      unfold spec_Fields.l0
      repeat' first
      | (with_reducible exact ih0 _ _ _ _)
      | (with_reducible exact ih1 _ _ _ _ _)
      | (with_reducible exact LeO.refl _)
      | (with_reducible exact LeO.none _)
      | (with_reducible refine LeO.ite ?_ ?_)
      | (with_reducible refine LeO.bind ?_ (fun _ => ?_))
      | exact ih0 _ _ _ _
      | exact ih1 _ _ _ _ _
      | exact LeO.none _
      | refine LeO.ite ?_ ?_
      | refine LeO.bind ?_ (fun _ => ?_)
    · intro y0 y1 y2 y3 y4
      unfold spec_Fields.j1
      repeat' first
      | (with_reducible exact ih0 _ _ _ _)
      | (with_reducible exact ih1 _ _ _ _ _)
      | (with_reducible exact LeO.refl _)
      | (with_reducible exact LeO.none _)
      | (with_reducible refine LeO.ite ?_ ?_)
      | (with_reducible refine LeO.bind ?_ (fun _ => ?_))
      | exact ih0 _ _ _ _
      | exact ih1 _ _ _ _ _
      | exact LeO.none _
      | refine LeO.ite ?_ ?_
      | refine LeO.bind ?_ (fun _ => ?_)
theorem spec_Fields.mono : ∀ a0 k, LeO (spec_Fields.f k a0) (spec_Fields.f (k + 1) a0) := by
  intro a0 k
  obtain ⟨ih0, ih1⟩ := spec_Fields.mono_l k
  unfold spec_Fields.f
  repeat' first
      | (with_reducible exact ih0 _ _ _ _)
      | (with_reducible exact ih1 _ _ _ _ _)
      | (with_reducible exact LeO.refl _)
      | (with_reducible exact LeO.none _)
      | (with_reducible refine LeO.ite ?_ ?_)
      | (with_reducible refine LeO.bind ?_ (fun _ => ?_))
      | exact ih0 _ _ _ _
      | exact ih1 _ _ _ _ _
      | exact LeO.none _
      | refine LeO.ite ?_ ?_
      | refine LeO.bind ?_ (fun _ => ?_)
noncomputable def spec_Fields.l0v (x0 : ByteArray) (x3 : List ByteArray) (x4 : Int) (x5 : Int) : Option (List ByteArray) := limOf (fun k => spec_Fields.l0 k x0 x3 x4 x5)
theorem spec_Fields.l0_lim (x0 : ByteArray) (x3 : List ByteArray) (x4 : Int) (x5 : Int) : Lim (fun k => spec_Fields.l0 k x0 x3 x4 x5) (spec_Fields.l0v x0 x3 x4 x5) := Lim.of (fun k => (spec_Fields.mono_l k).1 x0 x3 x4 x5)
noncomputable def spec_Fields.j1v (x0 : ByteArray) (x3 : List ByteArray) (x4 : Int) (x5 : Int) (x22 : Bool) : Option (List ByteArray) := limOf (fun k => spec_Fields.j1 k x0 x3 x4 x5 x22)
theorem spec_Fields.j1_lim (x0 : ByteArray) (x3 : List ByteArray) (x4 : Int) (x5 : Int) (x22 : Bool) : Lim (fun k => spec_Fields.j1 k x0 x3 x4 x5 x22) (spec_Fields.j1v x0 x3 x4 x5 x22) := Lim.of (fun k => (spec_Fields.mono_l k).2 x0 x3 x4 x5 x22)
noncomputable def spec_Fields.fv (a0 : ByteArray) : Option (List ByteArray) := limOf (fun k => spec_Fields.f k a0)
theorem spec_Fields.f_lim (a0 : ByteArray) : Lim (fun k => spec_Fields.f k a0) (spec_Fields.fv a0) := Lim.of (fun k => spec_Fields.mono a0 k)
set_option maxHeartbeats 4000000 in
theorem spec_Fields.l0v_eq (x0 : ByteArray) (x3 : List ByteArray) (x4 : Int) (x5 : Int) : spec_Fields.l0v x0 x3 x4 x5 = (if x5 ≤ (x0.size : Int) then (if x5 < (x0.size : Int) then (if 0 ≤ x5 then (spec_Fields.j1v x0 x3 x4 x5 ((bt x0 x5) != 32)) else (none)) else (spec_Fields.j1v x0 x3 x4 x5 false)) else (some x3)) := by
  refine Lim.succ (spec_Fields.l0_lim x0 x3 x4 x5) ?_
  simp only [spec_Fields.l0]
  repeat' first
    | (with_reducible apply spec_Fields.j1_lim)
    | (with_reducible exact Lim.const _)
    | (with_reducible refine Lim.ite ?_ ?_)
    | (with_reducible refine Lim.bind ?_ (fun _ => ?_))
    | apply spec_Fields.j1_lim
    | exact Lim.const _
    | refine Lim.ite ?_ ?_
    | refine Lim.bind ?_ (fun _ => ?_)
set_option maxHeartbeats 4000000 in
theorem spec_Fields.j1v_eq (x0 : ByteArray) (x3 : List ByteArray) (x4 : Int) (x5 : Int) (x22 : Bool) : spec_Fields.j1v x0 x3 x4 x5 x22 = (if x22 = true then (spec_Fields.l0v x0 x3 x4 (wrap64 (x5 + 1))) else (if x5 > x4 then (if 0 ≤ x4 then (if x4 ≤ x5 then (if x5 ≤ (x0.size : Int) then (if x3.length < 8796093022208 then (spec_Fields.l0v x0 (x3 ++ [x0.extract (x4 : Int).toNat (x5 : Int).toNat]) (wrap64 (x5 + 1)) (wrap64 (x5 + 1))) else (none)) else (none)) else (none)) else (none)) else (spec_Fields.l0v x0 x3 (wrap64 (x5 + 1)) (wrap64 (x5 + 1))))) := by
  refine Lim.succ (spec_Fields.j1_lim x0 x3 x4 x5 x22) ?_
  simp only [spec_Fields.j1]
  repeat' first
    | (with_reducible apply spec_Fields.l0_lim)
    | (with_reducible exact Lim.const _)
    | (with_reducible refine Lim.ite ?_ ?_)
    | (with_reducible refine Lim.bind ?_ (fun _ => ?_))
    | apply spec_Fields.l0_lim
    | exact Lim.const _
    | refine Lim.ite ?_ ?_
    | refine Lim.bind ?_ (fun _ => ?_)
set_option maxHeartbeats 4000000 in
theorem spec_Fields.fv_eq (a0 : ByteArray) : spec_Fields.fv a0 = (spec_Fields.l0v a0 (([] : List ByteArray)) 0 0) := by
  refine Lim.eq (spec_Fields.f_lim a0) ?_
  simp only [spec_Fields.f]
  repeat' first
    | (with_reducible apply spec_Fields.l0_lim)
    | (with_reducible exact Lim.const _)
    | (with_reducible refine Lim.ite ?_ ?_)
    | (with_reducible refine Lim.bind ?_ (fun _ => ?_))
    | apply spec_Fields.l0_lim
    | exact Lim.const _
    | refine Lim.ite ?_ ?_
    | refine Lim.bind ?_ (fun _ => ?_)

/-! ### strings_Split -/
def strings_Split.f (a0 : ByteArray) (a1 : ByteArray) : Option (List (ByteArray)) := if a0.size < 4294967281 ∧ 1 ≤ a1.size then some (Lib.splitB a1 0 (Lib.countB a0 a1) a0) else none

/-! ### impl_Fields_1 -/
def impl_Fields_1.f (a0 : ByteArray) : Option (Bool) := some (a0.toList == ([] : List UInt8))

/-! ### slices_DeleteFunc_string_string_15 -/
def slices_DeleteFunc_string_string_15.f (l0 : List (ByteArray)) : Option (List (ByteArray)) := if l0 = [] then none else some (l0.filter fun x => !((impl_Fields_1.f x).getD false))

/-! ### impl_Fields -/
def impl_Fields.f (a0 : ByteArray) : Option (List ByteArray) := (strings_Split.f a0 (⟨#[32]⟩ : ByteArray)).bind fun t107 => ((slices_DeleteFunc_string_string_15.f t107).bind fun t110 => (some t110))

/-! ### laws_eqStringS -/
def laws_eqStringS.l0 : Nat → List ByteArray → List ByteArray → Int → Option (Bool)
  | 0, _, _, _ => none
  | k + 1, x0, x1, x5 => if x5 < (x0.length : Int) then (if 0 ≤ x5 then (if x5 < (x1.length : Int) then (if (rdOf ByteArray.empty x0 x5).toList = (rdOf ByteArray.empty x1 x5).toList then (laws_eqStringS.l0 k x0 x1 (wrap64 (x5 + 1))) else (some false)) else (none)) else (none)) else (some true)
def laws_eqStringS.f (k : Nat) (l0 : List ByteArray) (l1 : List ByteArray) : Option (Bool) := if (l0.length : Int) = (l1.length : Int) then (laws_eqStringS.l0 k l0 l1 0) else (some false)
theorem laws_eqStringS.mono_l : ∀ k, (∀ y0 y1 y2, LeO (laws_eqStringS.l0 k y0 y1 y2) (laws_eqStringS.l0 (k + 1) y0 y1 y2))
  | 0 => fun _ _ _ r h => by simp [laws_eqStringS.l0] at h
  | k + 1 => by
    have ih0 := laws_eqStringS.mono_l k
    · intro y0 y1 y2
      unfold laws_eqStringS.l0
      repeat' first
      | (with_reducible exact ih0 _ _ _)
      | (with_reducible exact LeO.refl _)
      | (with_reducible exact LeO.none _)
      | (with_reducible refine LeO.ite ?_ ?_)
      | (with_reducible refine LeO.bind ?_ (fun _ => ?_))
      | exact ih0 _ _ _
      | exact LeO.none _
      | refine LeO.ite ?_ ?_
      | refine LeO.bind ?_ (fun _ => ?_)
theorem laws_eqStringS.mono : ∀ a0 a1 k, LeO (laws_eqStringS.f k a0 a1) (laws_eqStringS.f (k + 1) a0 a1) := by
  intro a0 a1 k
  have ih0 := laws_eqStringS.mono_l k
  unfold laws_eqStringS.f
  repeat' first
      | (with_reducible exact ih0 _ _ _)
      | (with_reducible exact LeO.refl _)
      | (with_reducible exact LeO.none _)
      | (with_reducible refine LeO.ite ?_ ?_)
      | (with_reducible refine LeO.bind ?_ (fun _ => ?_))
      | exact ih0 _ _ _
      | exact LeO.none _
      | refine LeO.ite ?_ ?_
      | refine LeO.bind ?_ (fun _ => ?_)
noncomputable def laws_eqStringS.l0v (x0 : List ByteArray) (x1 : List ByteArray) (x5 : Int) : Option (Bool) := limOf (fun k => laws_eqStringS.l0 k x0 x1 x5)
theorem laws_eqStringS.l0_lim (x0 : List ByteArray) (x1 : List ByteArray) (x5 : Int) : Lim (fun k => laws_eqStringS.l0 k x0 x1 x5) (laws_eqStringS.l0v x0 x1 x5) := Lim.of (fun k => laws_eqStringS.mono_l k x0 x1 x5)
noncomputable def laws_eqStringS.fv (l0 : List ByteArray) (l1 : List ByteArray) : Option (Bool) := limOf (fun k => laws_eqStringS.f k l0 l1)
theorem laws_eqStringS.f_lim (l0 : List ByteArray) (l1 : List ByteArray) : Lim (fun k => laws_eqStringS.f k l0 l1) (laws_eqStringS.fv l0 l1) := Lim.of (fun k => laws_eqStringS.mono l0 l1 k)
set_option maxHeartbeats 4000000 in
theorem laws_eqStringS.l0v_eq (x0 : List ByteArray) (x1 : List ByteArray) (x5 : Int) : laws_eqStringS.l0v x0 x1 x5 = (if x5 < (x0.length : Int) then (if 0 ≤ x5 then (if x5 < (x1.length : Int) then (if (rdOf ByteArray.empty x0 x5).toList = (rdOf ByteArray.empty x1 x5).toList then (laws_eqStringS.l0v x0 x1 (wrap64 (x5 + 1))) else (some false)) else (none)) else (none)) else (some true)) := by
  refine Lim.succ (laws_eqStringS.l0_lim x0 x1 x5) ?_
  simp only [laws_eqStringS.l0]
  repeat' first
    | (with_reducible apply laws_eqStringS.l0_lim)
    | (with_reducible exact Lim.const _)
    | (with_reducible refine Lim.ite ?_ ?_)
    | (with_reducible refine Lim.bind ?_ (fun _ => ?_))
    | apply laws_eqStringS.l0_lim
    | exact Lim.const _
    | refine Lim.ite ?_ ?_
    | refine Lim.bind ?_ (fun _ => ?_)
set_option maxHeartbeats 4000000 in
theorem laws_eqStringS.fv_eq (l0 : List ByteArray) (l1 : List ByteArray) : laws_eqStringS.fv l0 l1 = (if (l0.length : Int) = (l1.length : Int) then (laws_eqStringS.l0v l0 l1 0) else (some false)) := by
  refine Lim.eq (laws_eqStringS.f_lim l0 l1) ?_
  simp only [laws_eqStringS.f]
  repeat' first
    | (with_reducible apply laws_eqStringS.l0_lim)
    | (with_reducible exact Lim.const _)
    | (with_reducible refine Lim.ite ?_ ?_)
    | (with_reducible refine Lim.bind ?_ (fun _ => ?_))
    | apply laws_eqStringS.l0_lim
    | exact Lim.const _
    | refine Lim.ite ?_ ?_
    | refine Lim.bind ?_ (fun _ => ?_)

/-! ### laws_markText -/
def laws_markText.l0 : Nat → Int → ByteArray → Option (ByteArray)
  | 0, _, _ => none
  | k + 1, x0, x3 => if x0 > 0 then ((some (([(wrap64 (48 + (Int.tmod x0 10))) % 256] : List Int) : List Int)).bind fun y115 => (if (strOfNums y115).size + x3.size ≤ 9223372036854775807 then (laws_markText.l0 k (wrap64 (Int.tdiv x0 10)) ((strOfNums y115) ++ x3)) else (none))) else (if 1 + x3.size ≤ 9223372036854775807 then (some ((⟨#[109]⟩ : ByteArray) ++ x3)) else (none))
def laws_markText.f (k : Nat) (a0 : Int) : Option (ByteArray) := if a0 ≤ 0 then (some (⟨#[109, 48]⟩ : ByteArray)) else (laws_markText.l0 k a0 (⟨#[]⟩ : ByteArray))
theorem laws_markText.mono_l : ∀ k, (∀ y0 y1, LeO (laws_markText.l0 k y0 y1) (laws_markText.l0 (k + 1) y0 y1))
  | 0 => fun _ _ r h => by simp [laws_markText.l0] at h
  | k + 1 => by
    have ih0 := laws_markText.mono_l k
    · intro y0 y1
      unfold laws_markText.l0
      repeat' first
      | (with_reducible exact ih0 _ _)
      | (with_reducible exact LeO.refl _)
      | (with_reducible exact LeO.none _)
      | (with_reducible refine LeO.ite ?_ ?_)
      | (with_reducible refine LeO.bind ?_ (fun _ => ?_))
      | exact ih0 _ _
      | exact LeO.none _
      | refine LeO.ite ?_ ?_
      | refine LeO.bind ?_ (fun _ => ?_)
theorem laws_markText.mono : ∀ a0 k, LeO (laws_markText.f k a0) (laws_markText.f (k + 1) a0) := by
  intro a0 k
  have ih0 := laws_markText.mono_l k
  unfold laws_markText.f
  repeat' first
      | (with_reducible exact ih0 _ _)
      | (with_reducible exact LeO.refl _)
      | (with_reducible exact LeO.none _)
      | (with_reducible refine LeO.ite ?_ ?_)
      | (with_reducible refine LeO.bind ?_ (fun _ => ?_))
      | exact ih0 _ _
      | exact LeO.none _
      | refine LeO.ite ?_ ?_
      | refine LeO.bind ?_ (fun _ => ?_)
noncomputable def laws_markText.l0v (x0 : Int) (x3 : ByteArray) : Option (ByteArray) := limOf (fun k => laws_markText.l0 k x0 x3)
theorem laws_markText.l0_lim (x0 : Int) (x3 : ByteArray) : Lim (fun k => laws_markText.l0 k x0 x3) (laws_markText.l0v x0 x3) := Lim.of (fun k => laws_markText.mono_l k x0 x3)
noncomputable def laws_markText.fv (a0 : Int) : Option (ByteArray) := limOf (fun k => laws_markText.f k a0)
theorem laws_markText.f_lim (a0 : Int) : Lim (fun k => laws_markText.f k a0) (laws_markText.fv a0) := Lim.of (fun k => laws_markText.mono a0 k)
set_option maxHeartbeats 4000000 in
theorem laws_markText.l0v_eq (x0 : Int) (x3 : ByteArray) : laws_markText.l0v x0 x3 = (if x0 > 0 then ((some (([(wrap64 (48 + (Int.tmod x0 10))) % 256] : List Int) : List Int)).bind fun y115 => (if (strOfNums y115).size + x3.size ≤ 9223372036854775807 then (laws_markText.l0v (wrap64 (Int.tdiv x0 10)) ((strOfNums y115) ++ x3)) else (none))) else (if 1 + x3.size ≤ 9223372036854775807 then (some ((⟨#[109]⟩ : ByteArray) ++ x3)) else (none))) := by
  refine Lim.succ (laws_markText.l0_lim x0 x3) ?_
  simp only [laws_markText.l0]
  repeat' first
    | (with_reducible apply laws_markText.l0_lim)
    | (with_reducible exact Lim.const _)
    | (with_reducible refine Lim.ite ?_ ?_)
    | (with_reducible refine Lim.bind ?_ (fun _ => ?_))
    | apply laws_markText.l0_lim
    | exact Lim.const _
    | refine Lim.ite ?_ ?_
    | refine Lim.bind ?_ (fun _ => ?_)
set_option maxHeartbeats 4000000 in
theorem laws_markText.fv_eq (a0 : Int) : laws_markText.fv a0 = (if a0 ≤ 0 then (some (⟨#[109, 48]⟩ : ByteArray)) else (laws_markText.l0v a0 (⟨#[]⟩ : ByteArray))) := by
  refine Lim.eq (laws_markText.f_lim a0) ?_
  simp only [laws_markText.f]
  repeat' first
    | (with_reducible apply laws_markText.l0_lim)
    | (with_reducible exact Lim.const _)
    | (with_reducible refine Lim.ite ?_ ?_)
    | (with_reducible refine Lim.bind ?_ (fun _ => ?_))
    | apply laws_markText.l0_lim
    | exact Lim.const _
    | refine Lim.ite ?_ ?_
    | refine Lim.bind ?_ (fun _ => ?_)

/-! ### laws_markStringS -/
def laws_markStringS.l0 : Nat → List ByteArray → Int → Int → Option (Int × List ByteArray)
  | 0, _, _, _ => none
  | k + 1, x0, x1, x5 => if x5 < (x0.length : Int) then ((laws_markText.f k x1).bind fun t118 => (if 0 ≤ x5 then (laws_markStringS.l0 k (x0.set (x5 : Int).toNat t118) (wrap64 (x1 + 1)) (wrap64 (x5 + 1))) else (none))) else (some (x1, x0))
def laws_markStringS.f (k : Nat) (l0 : List ByteArray) (a1 : Int) : Option (Int × List ByteArray) := laws_markStringS.l0 k l0 a1 0
theorem laws_markStringS.mono_l : ∀ k, (∀ y0 y1 y2, LeO (laws_markStringS.l0 k y0 y1 y2) (laws_markStringS.l0 (k + 1) y0 y1 y2))
  | 0 => fun _ _ _ r h => by simp [laws_markStringS.l0] at h
  | k + 1 => by
    have ih0 := laws_markStringS.mono_l k
    · intro y0 y1 y2
      unfold laws_markStringS.l0
      repeat' first
      | (with_reducible exact ih0 _ _ _)
      | (with_reducible exact laws_markText.mono _ _)
      | (with_reducible exact LeO.refl _)
      | (with_reducible exact LeO.none _)
      | (with_reducible refine LeO.ite ?_ ?_)
      | (with_reducible refine LeO.bind ?_ (fun _ => ?_))
      | exact ih0 _ _ _
      | exact laws_markText.mono _ _
      | exact LeO.none _
      | refine LeO.ite ?_ ?_
      | refine LeO.bind ?_ (fun _ => ?_)
theorem laws_markStringS.mono : ∀ a0 a1 k, LeO (laws_markStringS.f k a0 a1) (laws_markStringS.f (k + 1) a0 a1) := by
  intro a0 a1 k
  have ih0 := laws_markStringS.mono_l k
  unfold laws_markStringS.f
  repeat' first
      | (with_reducible exact ih0 _ _ _)
      | (with_reducible exact laws_markText.mono _ _)
      | (with_reducible exact LeO.refl _)
      | (with_reducible exact LeO.none _)
      | (with_reducible refine LeO.ite ?_ ?_)
      | (with_reducible refine LeO.bind ?_ (fun _ => ?_))
      | exact ih0 _ _ _
      | exact laws_markText.mono _ _
      | exact LeO.none _
      | refine LeO.ite ?_ ?_
      | refine LeO.bind ?_ (fun _ => ?_)
noncomputable def laws_markStringS.l0v (x0 : List ByteArray) (x1 : Int) (x5 : Int) : Option (Int × List ByteArray) := limOf (fun k => laws_markStringS.l0 k x0 x1 x5)
theorem laws_markStringS.l0_lim (x0 : List ByteArray) (x1 : Int) (x5 : Int) : Lim (fun k => laws_markStringS.l0 k x0 x1 x5) (laws_markStringS.l0v x0 x1 x5) := Lim.of (fun k => laws_markStringS.mono_l k x0 x1 x5)
noncomputable def laws_markStringS.fv (l0 : List ByteArray) (a1 : Int) : Option (Int × List ByteArray) := limOf (fun k => laws_markStringS.f k l0 a1)
theorem laws_markStringS.f_lim (l0 : List ByteArray) (a1 : Int) : Lim (fun k => laws_markStringS.f k l0 a1) (laws_markStringS.fv l0 a1) := Lim.of (fun k => laws_markStringS.mono l0 a1 k)
set_option maxHeartbeats 4000000 in
theorem laws_markStringS.l0v_eq (x0 : List ByteArray) (x1 : Int) (x5 : Int) : laws_markStringS.l0v x0 x1 x5 = (if x5 < (x0.length : Int) then ((laws_markText.fv x1).bind fun t118 => (if 0 ≤ x5 then (laws_markStringS.l0v (x0.set (x5 : Int).toNat t118) (wrap64 (x1 + 1)) (wrap64 (x5 + 1))) else (none))) else (some (x1, x0))) := by
  refine Lim.succ (laws_markStringS.l0_lim x0 x1 x5) ?_
  simp only [laws_markStringS.l0]
  repeat' first
    | (with_reducible apply laws_markStringS.l0_lim)
    | (with_reducible apply laws_markText.f_lim)
    | (with_reducible exact Lim.const _)
    | (with_reducible refine Lim.ite ?_ ?_)
    | (with_reducible refine Lim.bind ?_ (fun _ => ?_))
    | apply laws_markStringS.l0_lim
    | apply laws_markText.f_lim
    | exact Lim.const _
    | refine Lim.ite ?_ ?_
    | refine Lim.bind ?_ (fun _ => ?_)
set_option maxHeartbeats 4000000 in
theorem laws_markStringS.fv_eq (l0 : List ByteArray) (a1 : Int) : laws_markStringS.fv l0 a1 = (laws_markStringS.l0v l0 a1 0) := by
  refine Lim.eq (laws_markStringS.f_lim l0 a1) ?_
  simp only [laws_markStringS.f]
  repeat' first
    | (with_reducible apply laws_markStringS.l0_lim)
    | (with_reducible exact Lim.const _)
    | (with_reducible refine Lim.ite ?_ ?_)
    | (with_reducible refine Lim.bind ?_ (fun _ => ?_))
    | apply laws_markStringS.l0_lim
    | exact Lim.const _
    | refine Lim.ite ?_ ?_
    | refine Lim.bind ?_ (fun _ => ?_)

/-! ### laws_heldStringS -/
def laws_heldStringS.l0 : Nat → List ByteArray → Int → Int → Option (Int)
  | 0, _, _, _ => none
  | k + 1, x0, x1, x5 => if x5 < (x0.length : Int) then (if 0 ≤ x5 then ((laws_markText.f k x1).bind fun t121 => (if (rdOf ByteArray.empty x0 x5).toList = t121.toList then (laws_heldStringS.l0 k x0 (wrap64 (x1 + 1)) (wrap64 (x5 + 1))) else (some (-1)))) else (none)) else (some x1)
def laws_heldStringS.f (k : Nat) (l0 : List ByteArray) (a1 : Int) : Option (Int) := laws_heldStringS.l0 k l0 a1 0
theorem laws_heldStringS.mono_l : ∀ k, (∀ y0 y1 y2, LeO (laws_heldStringS.l0 k y0 y1 y2) (laws_heldStringS.l0 (k + 1) y0 y1 y2))
  | 0 => fun _ _ _ r h => by simp [laws_heldStringS.l0] at h
  | k + 1 => by
    have ih0 := laws_heldStringS.mono_l k
    · intro y0 y1 y2
      unfold laws_heldStringS.l0
      repeat' first
      | (with_reducible exact ih0 _ _ _)
      | (with_reducible exact laws_markText.mono _ _)
      | (with_reducible exact LeO.refl _)
      | (with_reducible exact LeO.none _)
      | (with_reducible refine LeO.ite ?_ ?_)
      | (with_reducible refine LeO.bind ?_ (fun _ => ?_))
      | exact ih0 _ _ _
      | exact laws_markText.mono _ _
      | exact LeO.none _
      | refine LeO.ite ?_ ?_
      | refine LeO.bind ?_ (fun _ => ?_)
theorem laws_heldStringS.mono : ∀ a0 a1 k, LeO (laws_heldStringS.f k a0 a1) (laws_heldStringS.f (k + 1) a0 a1) := by
  intro a0 a1 k
  have ih0 := laws_heldStringS.mono_l k
  unfold laws_heldStringS.f
  repeat' first
      | (with_reducible exact ih0 _ _ _)
      | (with_reducible exact laws_markText.mono _ _)
      | (with_reducible exact LeO.refl _)
      | (with_reducible exact LeO.none _)
      | (with_reducible refine LeO.ite ?_ ?_)
      | (with_reducible refine LeO.bind ?_ (fun _ => ?_))
      | exact ih0 _ _ _
      | exact laws_markText.mono _ _
      | exact LeO.none _
      | refine LeO.ite ?_ ?_
      | refine LeO.bind ?_ (fun _ => ?_)
noncomputable def laws_heldStringS.l0v (x0 : List ByteArray) (x1 : Int) (x5 : Int) : Option (Int) := limOf (fun k => laws_heldStringS.l0 k x0 x1 x5)
theorem laws_heldStringS.l0_lim (x0 : List ByteArray) (x1 : Int) (x5 : Int) : Lim (fun k => laws_heldStringS.l0 k x0 x1 x5) (laws_heldStringS.l0v x0 x1 x5) := Lim.of (fun k => laws_heldStringS.mono_l k x0 x1 x5)
noncomputable def laws_heldStringS.fv (l0 : List ByteArray) (a1 : Int) : Option (Int) := limOf (fun k => laws_heldStringS.f k l0 a1)
theorem laws_heldStringS.f_lim (l0 : List ByteArray) (a1 : Int) : Lim (fun k => laws_heldStringS.f k l0 a1) (laws_heldStringS.fv l0 a1) := Lim.of (fun k => laws_heldStringS.mono l0 a1 k)
set_option maxHeartbeats 4000000 in
theorem laws_heldStringS.l0v_eq (x0 : List ByteArray) (x1 : Int) (x5 : Int) : laws_heldStringS.l0v x0 x1 x5 = (if x5 < (x0.length : Int) then (if 0 ≤ x5 then ((laws_markText.fv x1).bind fun t121 => (if (rdOf ByteArray.empty x0 x5).toList = t121.toList then (laws_heldStringS.l0v x0 (wrap64 (x1 + 1)) (wrap64 (x5 + 1))) else (some (-1)))) else (none)) else (some x1)) := by
  refine Lim.succ (laws_heldStringS.l0_lim x0 x1 x5) ?_
  simp only [laws_heldStringS.l0]
  repeat' first
    | (with_reducible apply laws_heldStringS.l0_lim)
    | (with_reducible apply laws_markText.f_lim)
    | (with_reducible exact Lim.const _)
    | (with_reducible refine Lim.ite ?_ ?_)
    | (with_reducible refine Lim.bind ?_ (fun _ => ?_))
    | apply laws_heldStringS.l0_lim
    | apply laws_markText.f_lim
    | exact Lim.const _
    | refine Lim.ite ?_ ?_
    | refine Lim.bind ?_ (fun _ => ?_)
set_option maxHeartbeats 4000000 in
theorem laws_heldStringS.fv_eq (l0 : List ByteArray) (a1 : Int) : laws_heldStringS.fv l0 a1 = (laws_heldStringS.l0v l0 a1 0) := by
  refine Lim.eq (laws_heldStringS.f_lim l0 a1) ?_
  simp only [laws_heldStringS.f]
  repeat' first
    | (with_reducible apply laws_heldStringS.l0_lim)
    | (with_reducible exact Lim.const _)
    | (with_reducible refine Lim.ite ?_ ?_)
    | (with_reducible refine Lim.bind ?_ (fun _ => ?_))
    | apply laws_heldStringS.l0_lim
    | exact Lim.const _
    | refine Lim.ite ?_ ?_
    | refine Lim.bind ?_ (fun _ => ?_)

/-! ### laws_FnExactFields -/
def laws_FnExactFields.f (k : Nat) (a0 : ByteArray) : Option (Bool) := if (a0.size : Int) > 1048576 then (some true) else ((spec_Fields.f k a0).bind fun t122 => ((impl_Fields.f a0).bind fun t125 => ((laws_eqStringS.f k t125 t122).bind fun t128 => (if t128 = true then ((laws_markStringS.f k t125 1).bind fun bt129 => ((laws_heldStringS.f k bt129.2 1).bind fun t131 => (if t131 < 0 then (some false) else (if t131 = bt129.1 then ((impl_Fields.f a0).bind fun t132 => ((laws_eqStringS.f k t132 t122).bind fun t135 => (if t135 = true then ((laws_heldStringS.f k bt129.2 1).bind fun t136 => (if t136 < 0 then (some false) else (if t136 = bt129.1 then (some true) else (some false)))) else (some false)))) else (some false))))) else (some false)))))
theorem laws_FnExactFields.mono : ∀ a0 k, LeO (laws_FnExactFields.f k a0) (laws_FnExactFields.f (k + 1) a0) := by
  intro a0 k
  unfold laws_FnExactFields.f
  repeat' first
      | (with_reducible exact laws_eqStringS.mono _ _ _)
      | (with_reducible exact laws_heldStringS.mono _ _ _)
      | (with_reducible exact laws_markStringS.mono _ _ _)
      | (with_reducible exact spec_Fields.mono _ _)
      | (with_reducible exact LeO.refl _)
      | (with_reducible exact LeO.none _)
      | (with_reducible refine LeO.ite ?_ ?_)
      | (with_reducible refine LeO.bind ?_ (fun _ => ?_))
      | exact laws_eqStringS.mono _ _ _
      | exact laws_heldStringS.mono _ _ _
      | exact laws_markStringS.mono _ _ _
      | exact spec_Fields.mono _ _
      | exact LeO.none _
      | refine LeO.ite ?_ ?_
      | refine LeO.bind ?_ (fun _ => ?_)
noncomputable def laws_FnExactFields.fv (a0 : ByteArray) : Option (Bool) := limOf (fun k => laws_FnExactFields.f k a0)
theorem laws_FnExactFields.f_lim (a0 : ByteArray) : Lim (fun k => laws_FnExactFields.f k a0) (laws_FnExactFields.fv a0) := Lim.of (fun k => laws_FnExactFields.mono a0 k)
set_option maxHeartbeats 4000000 in
theorem laws_FnExactFields.fv_eq (a0 : ByteArray) : laws_FnExactFields.fv a0 = (if (a0.size : Int) > 1048576 then (some true) else ((spec_Fields.fv a0).bind fun t122 => ((impl_Fields.f a0).bind fun t125 => ((laws_eqStringS.fv t125 t122).bind fun t128 => (if t128 = true then ((laws_markStringS.fv t125 1).bind fun bt129 => ((laws_heldStringS.fv bt129.2 1).bind fun t131 => (if t131 < 0 then (some false) else (if t131 = bt129.1 then ((impl_Fields.f a0).bind fun t132 => ((laws_eqStringS.fv t132 t122).bind fun t135 => (if t135 = true then ((laws_heldStringS.fv bt129.2 1).bind fun t136 => (if t136 < 0 then (some false) else (if t136 = bt129.1 then (some true) else (some false)))) else (some false)))) else (some false))))) else (some false)))))) := by
  refine Lim.eq (laws_FnExactFields.f_lim a0) ?_
  simp only [laws_FnExactFields.f]
  repeat' first
    | (with_reducible apply laws_eqStringS.f_lim)
    | (with_reducible apply laws_heldStringS.f_lim)
    | (with_reducible apply laws_markStringS.f_lim)
    | (with_reducible apply spec_Fields.f_lim)
    | (with_reducible exact Lim.const _)
    | (with_reducible refine Lim.ite ?_ ?_)
    | (with_reducible refine Lim.bind ?_ (fun _ => ?_))
    | apply laws_eqStringS.f_lim
    | apply laws_heldStringS.f_lim
    | apply laws_markStringS.f_lim
    | apply spec_Fields.f_lim
    | exact Lim.const _
    | refine Lim.ite ?_ ?_
    | refine Lim.bind ?_ (fun _ => ?_)

end Go.Proofs.YtehefologhfdhaaDoor.QFnExactFields
