/- Written by wip/pr2, a program of this session. -/
import Derived.Test.YtelaipnanpfniaaDoorQFnTokensx0
import Derived.Test.YtelaipnanpfniaaDoorWFnTokens
import Derived.Test.YtelaipnanpfniaaDoorQFnTokensx2
namespace Go.Proofs.YtelaipnanpfniaaDoor.QFnTokens
open Go.RowKit Go.Proofs.YtelaipnanpfniaaDoorW.PrintWords Go.Proofs.YtelaipnanpfniaaDoorW.PrintLast Go.Proofs.YtelaipnanpfniaaDoorW.PrintMore
attribute [local go_sem] max2_int min2_int max_two min_two max_three min_three max_four min_four   -- for this text's walks alone
set_option linter.unusedVariables false
set_option linter.unusedSimpArgs false
set_option maxHeartbeats 8000000

open Go.Proofs.YtelaipnanpfniaaDoorW.Lims
/-! ### spec_l7Rex -/
mutual
def spec_l7Rex.l0 : Nat → ByteArray → List Int → Int → Option (ByteArray × Int × Bool)
  | 0, _, _, _ => none
  | k + 1, x0, x7, x8 => if x8 < (x0.size : Int) then (if 0 ≤ x8 then (if (bt x0 x8) = 47 then (some (strOfNums x7, wrap64 (x8 + 1), true)) else (if (bt x0 x8) = 10 then (some ((⟨#[]⟩ : ByteArray), 0, false)) else (if (bt x0 x8) = 92 then (if (wrap64 (x8 + 1)) ≥ (x0.size : Int) then (spec_l7Rex.j1 k x0 x7 x8 true) else (if 0 ≤ (wrap64 (x8 + 1)) then (if (wrap64 (x8 + 1)) < (x0.size : Int) then (spec_l7Rex.j1 k x0 x7 x8 ((bt x0 (wrap64 (x8 + 1))) == 10)) else (none)) else (none))) else (if x7.length < 140737488355328 then (spec_l7Rex.l0 k x0 (x7 ++ [bt x0 x8]) (wrap64 (x8 + 1))) else (none))))) else (none)) else (some ((⟨#[]⟩ : ByteArray), 0, false))
def spec_l7Rex.j1 : Nat → ByteArray → List Int → Int → Bool → Option (ByteArray × Int × Bool)
  | 0, _, _, _, _ => none
  | k + 1, x0, x7, x8, x42 => if x42 = true then (some ((⟨#[]⟩ : ByteArray), 0, false)) else (if 0 ≤ (wrap64 (x8 + 1)) then (if (wrap64 (x8 + 1)) < (x0.size : Int) then (if (bt x0 (wrap64 (x8 + 1))) = 47 then (if x7.length < 140737488355328 then (spec_l7Rex.l0 k x0 (x7 ++ [bt x0 (wrap64 (x8 + 1))]) (wrap64 ((wrap64 (x8 + 1)) + 1))) else (none)) else (if 0 ≤ x8 then (if x8 < (x0.size : Int) then (if x7.length < 140737488355328 then ((some (x7 ++ [bt x0 x8] : List Int)).bind fun y132 => (if y132.length < 140737488355328 then (spec_l7Rex.l0 k x0 (y132 ++ [bt x0 (wrap64 (x8 + 1))]) (wrap64 ((wrap64 (x8 + 1)) + 1))) else (none))) else (none)) else (none)) else (none))) else (none)) else (none))
end
def spec_l7Rex.f (k : Nat) (a0 : ByteArray) (a1 : Int) : Option (ByteArray × Int × Bool) := spec_l7Rex.l0 k a0 (([] : List Int)) (wrap64 (a1 + 1))
theorem spec_l7Rex.mono_l : ∀ k, (∀ y0 y1 y2, LeO (spec_l7Rex.l0 k y0 y1 y2) (spec_l7Rex.l0 (k + 1) y0 y1 y2)) ∧ (∀ y0 y1 y2 y3, LeO (spec_l7Rex.j1 k y0 y1 y2 y3) (spec_l7Rex.j1 (k + 1) y0 y1 y2 y3))
  | 0 => ⟨fun _ _ _ r h => by simp [spec_l7Rex.l0] at h, fun _ _ _ _ r h => by simp [spec_l7Rex.j1] at h⟩
  | k + 1 => by
    obtain ⟨ih0, ih1⟩ := spec_l7Rex.mono_l k
    refine ⟨?_, ?_⟩
    · intro y0 y1 y2
      unfold spec_l7Rex.l0
      repeat' first
      | (with_reducible exact ih0 _ _ _)
      | (with_reducible exact ih1 _ _ _ _)
      | (with_reducible exact LeO.refl _)
      | (with_reducible exact LeO.none _)
      | (with_reducible refine LeO.ite ?_ ?_)
      | (with_reducible refine LeO.bind ?_ (fun _ => ?_))
      | exact ih0 _ _ _
      | exact ih1 _ _ _ _
      | exact LeO.none _
      | refine LeO.ite ?_ ?_
      | refine LeO.bind ?_ (fun _ => ?_)
    · intro y0 y1 y2 y3
      unfold spec_l7Rex.j1
      repeat' first
      | (with_reducible exact ih0 _ _ _)
      | (with_reducible exact ih1 _ _ _ _)
      | (with_reducible exact LeO.refl _)
      | (with_reducible exact LeO.none _)
      | (with_reducible refine LeO.ite ?_ ?_)
      | (with_reducible refine LeO.bind ?_ (fun _ => ?_))
      | exact ih0 _ _ _
      | exact ih1 _ _ _ _
      | exact LeO.none _
      | refine LeO.ite ?_ ?_
      | refine LeO.bind ?_ (fun _ => ?_)
theorem spec_l7Rex.mono : ∀ a0 a1 k, LeO (spec_l7Rex.f k a0 a1) (spec_l7Rex.f (k + 1) a0 a1) := by
  intro a0 a1 k
  obtain ⟨ih0, ih1⟩ := spec_l7Rex.mono_l k
  unfold spec_l7Rex.f
  repeat' first
      | (with_reducible exact ih0 _ _ _)
      | (with_reducible exact ih1 _ _ _ _)
      | (with_reducible exact LeO.refl _)
      | (with_reducible exact LeO.none _)
      | (with_reducible refine LeO.ite ?_ ?_)
      | (with_reducible refine LeO.bind ?_ (fun _ => ?_))
      | exact ih0 _ _ _
      | exact ih1 _ _ _ _
      | exact LeO.none _
      | refine LeO.ite ?_ ?_
      | refine LeO.bind ?_ (fun _ => ?_)
noncomputable def spec_l7Rex.l0v (x0 : ByteArray) (x7 : List Int) (x8 : Int) : Option (ByteArray × Int × Bool) := limOf (fun k => spec_l7Rex.l0 k x0 x7 x8)
theorem spec_l7Rex.l0_lim (x0 : ByteArray) (x7 : List Int) (x8 : Int) : Lim (fun k => spec_l7Rex.l0 k x0 x7 x8) (spec_l7Rex.l0v x0 x7 x8) := Lim.of (fun k => (spec_l7Rex.mono_l k).1 x0 x7 x8)
noncomputable def spec_l7Rex.j1v (x0 : ByteArray) (x7 : List Int) (x8 : Int) (x42 : Bool) : Option (ByteArray × Int × Bool) := limOf (fun k => spec_l7Rex.j1 k x0 x7 x8 x42)
theorem spec_l7Rex.j1_lim (x0 : ByteArray) (x7 : List Int) (x8 : Int) (x42 : Bool) : Lim (fun k => spec_l7Rex.j1 k x0 x7 x8 x42) (spec_l7Rex.j1v x0 x7 x8 x42) := Lim.of (fun k => (spec_l7Rex.mono_l k).2 x0 x7 x8 x42)
noncomputable def spec_l7Rex.fv (a0 : ByteArray) (a1 : Int) : Option (ByteArray × Int × Bool) := limOf (fun k => spec_l7Rex.f k a0 a1)
theorem spec_l7Rex.f_lim (a0 : ByteArray) (a1 : Int) : Lim (fun k => spec_l7Rex.f k a0 a1) (spec_l7Rex.fv a0 a1) := Lim.of (fun k => spec_l7Rex.mono a0 a1 k)
set_option maxHeartbeats 4000000 in
theorem spec_l7Rex.l0v_eq (x0 : ByteArray) (x7 : List Int) (x8 : Int) : spec_l7Rex.l0v x0 x7 x8 = (if x8 < (x0.size : Int) then (if 0 ≤ x8 then (if (bt x0 x8) = 47 then (some (strOfNums x7, wrap64 (x8 + 1), true)) else (if (bt x0 x8) = 10 then (some ((⟨#[]⟩ : ByteArray), 0, false)) else (if (bt x0 x8) = 92 then (if (wrap64 (x8 + 1)) ≥ (x0.size : Int) then (spec_l7Rex.j1v x0 x7 x8 true) else (if 0 ≤ (wrap64 (x8 + 1)) then (if (wrap64 (x8 + 1)) < (x0.size : Int) then (spec_l7Rex.j1v x0 x7 x8 ((bt x0 (wrap64 (x8 + 1))) == 10)) else (none)) else (none))) else (if x7.length < 140737488355328 then (spec_l7Rex.l0v x0 (x7 ++ [bt x0 x8]) (wrap64 (x8 + 1))) else (none))))) else (none)) else (some ((⟨#[]⟩ : ByteArray), 0, false))) := by
  refine Lim.succ (spec_l7Rex.l0_lim x0 x7 x8) ?_
  simp only [spec_l7Rex.l0]
  repeat' first
    | (with_reducible apply spec_l7Rex.j1_lim)
    | (with_reducible apply spec_l7Rex.l0_lim)
    | (with_reducible exact Lim.const _)
    | (with_reducible refine Lim.ite ?_ ?_)
    | (with_reducible refine Lim.bind ?_ (fun _ => ?_))
    | apply spec_l7Rex.j1_lim
    | apply spec_l7Rex.l0_lim
    | exact Lim.const _
    | refine Lim.ite ?_ ?_
    | refine Lim.bind ?_ (fun _ => ?_)
set_option maxHeartbeats 4000000 in
theorem spec_l7Rex.j1v_eq (x0 : ByteArray) (x7 : List Int) (x8 : Int) (x42 : Bool) : spec_l7Rex.j1v x0 x7 x8 x42 = (if x42 = true then (some ((⟨#[]⟩ : ByteArray), 0, false)) else (if 0 ≤ (wrap64 (x8 + 1)) then (if (wrap64 (x8 + 1)) < (x0.size : Int) then (if (bt x0 (wrap64 (x8 + 1))) = 47 then (if x7.length < 140737488355328 then (spec_l7Rex.l0v x0 (x7 ++ [bt x0 (wrap64 (x8 + 1))]) (wrap64 ((wrap64 (x8 + 1)) + 1))) else (none)) else (if 0 ≤ x8 then (if x8 < (x0.size : Int) then (if x7.length < 140737488355328 then ((some (x7 ++ [bt x0 x8] : List Int)).bind fun y132 => (if y132.length < 140737488355328 then (spec_l7Rex.l0v x0 (y132 ++ [bt x0 (wrap64 (x8 + 1))]) (wrap64 ((wrap64 (x8 + 1)) + 1))) else (none))) else (none)) else (none)) else (none))) else (none)) else (none))) := by
  refine Lim.succ (spec_l7Rex.j1_lim x0 x7 x8 x42) ?_
  simp only [spec_l7Rex.j1]
  repeat' first
    | (with_reducible apply spec_l7Rex.l0_lim)
    | (with_reducible exact Lim.const _)
    | (with_reducible refine Lim.ite ?_ ?_)
    | (with_reducible refine Lim.bind ?_ (fun _ => ?_))
    | apply spec_l7Rex.l0_lim
    | exact Lim.const _
    | refine Lim.ite ?_ ?_
    | refine Lim.bind ?_ (fun _ => ?_)
set_option maxHeartbeats 4000000 in
theorem spec_l7Rex.fv_eq (a0 : ByteArray) (a1 : Int) : spec_l7Rex.fv a0 a1 = (spec_l7Rex.l0v a0 (([] : List Int)) (wrap64 (a1 + 1))) := by
  refine Lim.eq (spec_l7Rex.f_lim a0 a1) ?_
  simp only [spec_l7Rex.f]
  repeat' first
    | (with_reducible apply spec_l7Rex.l0_lim)
    | (with_reducible exact Lim.const _)
    | (with_reducible refine Lim.ite ?_ ?_)
    | (with_reducible refine Lim.bind ?_ (fun _ => ?_))
    | apply spec_l7Rex.l0_lim
    | exact Lim.const _
    | refine Lim.ite ?_ ?_
    | refine Lim.bind ?_ (fun _ => ?_)

/-! ### spec_l7Sign -/
def spec_l7Sign.l0 : Nat → ByteArray → Int → List ByteArray → Int → Option (ByteArray)
  | 0, _, _, _, _ => none
  | k + 1, x0, x1, x5, x6 => if x6 < (x5.length : Int) then (if 0 ≤ x6 then (if (wrap64 (x1 + ((rdOf ByteArray.empty x5 x6).size : Int))) ≤ (x0.size : Int) then (if 0 ≤ x1 then (if x1 ≤ (wrap64 (x1 + ((rdOf ByteArray.empty x5 x6).size : Int))) then (if (x0.extract (x1 : Int).toNat ((wrap64 (x1 + ((rdOf ByteArray.empty x5 x6).size : Int))) : Int).toNat).toList = (rdOf ByteArray.empty x5 x6).toList then (some (rdOf ByteArray.empty x5 x6)) else (spec_l7Sign.l0 k x0 x1 x5 (wrap64 (x6 + 1)))) else (none)) else (none)) else (spec_l7Sign.l0 k x0 x1 x5 (wrap64 (x6 + 1)))) else (none)) else (some (⟨#[]⟩ : ByteArray))
def spec_l7Sign.f (k : Nat) (a0 : ByteArray) (a1 : Int) : Option (ByteArray) := spec_l7Sign.l0 k a0 a1 (([(⟨#[61, 61]⟩ : ByteArray), (⟨#[33, 61]⟩ : ByteArray), (⟨#[60, 61]⟩ : ByteArray), (⟨#[62, 61]⟩ : ByteArray), (⟨#[38, 38]⟩ : ByteArray), (⟨#[124, 124]⟩ : ByteArray), (⟨#[43, 61]⟩ : ByteArray), (⟨#[33, 126]⟩ : ByteArray), (⟨#[40]⟩ : ByteArray), (⟨#[41]⟩ : ByteArray), (⟨#[123]⟩ : ByteArray), (⟨#[125]⟩ : ByteArray), (⟨#[91]⟩ : ByteArray), (⟨#[93]⟩ : ByteArray), (⟨#[44]⟩ : ByteArray), (⟨#[59]⟩ : ByteArray), (⟨#[61]⟩ : ByteArray), (⟨#[60]⟩ : ByteArray), (⟨#[62]⟩ : ByteArray), (⟨#[33]⟩ : ByteArray), (⟨#[126]⟩ : ByteArray), (⟨#[43]⟩ : ByteArray), (⟨#[45]⟩ : ByteArray), (⟨#[42]⟩ : ByteArray), (⟨#[47]⟩ : ByteArray), (⟨#[37]⟩ : ByteArray), (⟨#[36]⟩ : ByteArray)] : List ByteArray)) 0
theorem spec_l7Sign.mono_l : ∀ k, (∀ y0 y1 y2 y3, LeO (spec_l7Sign.l0 k y0 y1 y2 y3) (spec_l7Sign.l0 (k + 1) y0 y1 y2 y3))
  | 0 => fun _ _ _ _ r h => by simp [spec_l7Sign.l0] at h
  | k + 1 => by
    have ih0 := spec_l7Sign.mono_l k
    · intro y0 y1 y2 y3
      unfold spec_l7Sign.l0
      repeat' first
      | (with_reducible exact ih0 _ _ _ _)
      | (with_reducible exact LeO.refl _)
      | (with_reducible exact LeO.none _)
      | (with_reducible refine LeO.ite ?_ ?_)
      | (with_reducible refine LeO.bind ?_ (fun _ => ?_))
      | exact ih0 _ _ _ _
      | exact LeO.none _
      | refine LeO.ite ?_ ?_
      | refine LeO.bind ?_ (fun _ => ?_)
theorem spec_l7Sign.mono : ∀ a0 a1 k, LeO (spec_l7Sign.f k a0 a1) (spec_l7Sign.f (k + 1) a0 a1) := by
  intro a0 a1 k
  have ih0 := spec_l7Sign.mono_l k
  unfold spec_l7Sign.f
  repeat' first
      | (with_reducible exact ih0 _ _ _ _)
      | (with_reducible exact LeO.refl _)
      | (with_reducible exact LeO.none _)
      | (with_reducible refine LeO.ite ?_ ?_)
      | (with_reducible refine LeO.bind ?_ (fun _ => ?_))
      | exact ih0 _ _ _ _
      | exact LeO.none _
      | refine LeO.ite ?_ ?_
      | refine LeO.bind ?_ (fun _ => ?_)
noncomputable def spec_l7Sign.l0v (x0 : ByteArray) (x1 : Int) (x5 : List ByteArray) (x6 : Int) : Option (ByteArray) := limOf (fun k => spec_l7Sign.l0 k x0 x1 x5 x6)
theorem spec_l7Sign.l0_lim (x0 : ByteArray) (x1 : Int) (x5 : List ByteArray) (x6 : Int) : Lim (fun k => spec_l7Sign.l0 k x0 x1 x5 x6) (spec_l7Sign.l0v x0 x1 x5 x6) := Lim.of (fun k => spec_l7Sign.mono_l k x0 x1 x5 x6)
noncomputable def spec_l7Sign.fv (a0 : ByteArray) (a1 : Int) : Option (ByteArray) := limOf (fun k => spec_l7Sign.f k a0 a1)
theorem spec_l7Sign.f_lim (a0 : ByteArray) (a1 : Int) : Lim (fun k => spec_l7Sign.f k a0 a1) (spec_l7Sign.fv a0 a1) := Lim.of (fun k => spec_l7Sign.mono a0 a1 k)
set_option maxHeartbeats 4000000 in
theorem spec_l7Sign.l0v_eq (x0 : ByteArray) (x1 : Int) (x5 : List ByteArray) (x6 : Int) : spec_l7Sign.l0v x0 x1 x5 x6 = (if x6 < (x5.length : Int) then (if 0 ≤ x6 then (if (wrap64 (x1 + ((rdOf ByteArray.empty x5 x6).size : Int))) ≤ (x0.size : Int) then (if 0 ≤ x1 then (if x1 ≤ (wrap64 (x1 + ((rdOf ByteArray.empty x5 x6).size : Int))) then (if (x0.extract (x1 : Int).toNat ((wrap64 (x1 + ((rdOf ByteArray.empty x5 x6).size : Int))) : Int).toNat).toList = (rdOf ByteArray.empty x5 x6).toList then (some (rdOf ByteArray.empty x5 x6)) else (spec_l7Sign.l0v x0 x1 x5 (wrap64 (x6 + 1)))) else (none)) else (none)) else (spec_l7Sign.l0v x0 x1 x5 (wrap64 (x6 + 1)))) else (none)) else (some (⟨#[]⟩ : ByteArray))) := by
  refine Lim.succ (spec_l7Sign.l0_lim x0 x1 x5 x6) ?_
  simp only [spec_l7Sign.l0]
  repeat' first
    | (with_reducible apply spec_l7Sign.l0_lim)
    | (with_reducible exact Lim.const _)
    | (with_reducible refine Lim.ite ?_ ?_)
    | (with_reducible refine Lim.bind ?_ (fun _ => ?_))
    | apply spec_l7Sign.l0_lim
    | exact Lim.const _
    | refine Lim.ite ?_ ?_
    | refine Lim.bind ?_ (fun _ => ?_)
set_option maxHeartbeats 4000000 in
theorem spec_l7Sign.fv_eq (a0 : ByteArray) (a1 : Int) : spec_l7Sign.fv a0 a1 = (spec_l7Sign.l0v a0 a1 (([(⟨#[61, 61]⟩ : ByteArray), (⟨#[33, 61]⟩ : ByteArray), (⟨#[60, 61]⟩ : ByteArray), (⟨#[62, 61]⟩ : ByteArray), (⟨#[38, 38]⟩ : ByteArray), (⟨#[124, 124]⟩ : ByteArray), (⟨#[43, 61]⟩ : ByteArray), (⟨#[33, 126]⟩ : ByteArray), (⟨#[40]⟩ : ByteArray), (⟨#[41]⟩ : ByteArray), (⟨#[123]⟩ : ByteArray), (⟨#[125]⟩ : ByteArray), (⟨#[91]⟩ : ByteArray), (⟨#[93]⟩ : ByteArray), (⟨#[44]⟩ : ByteArray), (⟨#[59]⟩ : ByteArray), (⟨#[61]⟩ : ByteArray), (⟨#[60]⟩ : ByteArray), (⟨#[62]⟩ : ByteArray), (⟨#[33]⟩ : ByteArray), (⟨#[126]⟩ : ByteArray), (⟨#[43]⟩ : ByteArray), (⟨#[45]⟩ : ByteArray), (⟨#[42]⟩ : ByteArray), (⟨#[47]⟩ : ByteArray), (⟨#[37]⟩ : ByteArray), (⟨#[36]⟩ : ByteArray)] : List ByteArray)) 0) := by
  refine Lim.eq (spec_l7Sign.f_lim a0 a1) ?_
  simp only [spec_l7Sign.f]
  repeat' first
    | (with_reducible apply spec_l7Sign.l0_lim)
    | (with_reducible exact Lim.const _)
    | (with_reducible refine Lim.ite ?_ ?_)
    | (with_reducible refine Lim.bind ?_ (fun _ => ?_))
    | apply spec_l7Sign.l0_lim
    | exact Lim.const _
    | refine Lim.ite ?_ ?_
    | refine Lim.bind ?_ (fun _ => ?_)

/-! ### spec_l7One -/
mutual
def spec_l7One.l0 : Nat → ByteArray → Int → Int → Option (Int × ByteArray × Int × Int × Int × Bool)
  | 0, _, _, _ => none
  | k + 1, x0, x1, x10 => if x10 < (x0.size : Int) then (if 0 ≤ x10 then ((spec_l7Letter.f (bt x0 x10)).bind fun t149 => (if t149 = true then (spec_l7One.l0 k x0 x1 (wrap64 (x10 + 1))) else (if 0 ≤ x1 then (if x1 ≤ x10 then (if x10 ≤ (x0.size : Int) then (some (1, x0.extract (x1 : Int).toNat (x10 : Int).toNat, 0, x1, x10, decide ((wrap64 (x10 - x1)) ≤ 8))) else (none)) else (none)) else (none)))) else (none)) else (if 0 ≤ x1 then (if x1 ≤ x10 then (if x10 ≤ (x0.size : Int) then (some (1, x0.extract (x1 : Int).toNat (x10 : Int).toNat, 0, x1, x10, decide ((wrap64 (x10 - x1)) ≤ 8))) else (none)) else (none)) else (none))
def spec_l7One.j1 : Nat → ByteArray → Int → Bool → Option (Int × ByteArray × Int × Int × Int × Bool)
  | 0, _, _, _ => none
  | k + 1, x0, x1, x81 => if x81 = true then ((spec_l7Rex.f k x0 x1).bind fun bt158 => (some (4, bt158.1, 0, x1, bt158.2.1, bt158.2.2))) else ((spec_l7Sign.f k x0 x1).bind fun t161 => (some (5, t161, 0, x1, wrap64 (x1 + (t161.size : Int)), (t161.toList != ([] : List UInt8)))))
end
def spec_l7One.f (k : Nat) (a0 : ByteArray) (a1 : Int) (l2 : List (S32)) : Option (Int × ByteArray × Int × Int × Int × Bool) := if 0 ≤ a1 then (if a1 < (a0.size : Int) then ((spec_l7Letter.f (bt a0 a1)).bind fun t148 => (if t148 = true then (spec_l7One.l0 k a0 a1 a1) else ((spec_l2Digit.f (bt a0 a1)).bind fun t150 => (if t150 = true then ((spec_l7Number.f k a0 a1).bind fun bt151 => (some (2, (⟨#[]⟩ : ByteArray), bt151.1, a1, bt151.2.1, bt151.2.2))) else (if (bt a0 a1) = 34 then ((spec_l7Text.f k a0 a1).bind fun bt154 => (some (3, bt154.1, 0, a1, bt154.2.1, bt154.2.2))) else (if (bt a0 a1) = 47 then ((spec_l7After.f l2).bind fun t157 => (spec_l7One.j1 k a0 a1 (!t157))) else (spec_l7One.j1 k a0 a1 false))))))) else (none)) else (none)
theorem spec_l7One.mono_l : ∀ k, (∀ y0 y1 y2, LeO (spec_l7One.l0 k y0 y1 y2) (spec_l7One.l0 (k + 1) y0 y1 y2)) ∧ (∀ y0 y1 y2, LeO (spec_l7One.j1 k y0 y1 y2) (spec_l7One.j1 (k + 1) y0 y1 y2))
  | 0 => ⟨fun _ _ _ r h => by simp [spec_l7One.l0] at h, fun _ _ _ r h => by simp [spec_l7One.j1] at h⟩
  | k + 1 => by
    obtain ⟨ih0, ih1⟩ := spec_l7One.mono_l k
    refine ⟨?_, ?_⟩
    · intro y0 y1 y2
      unfold spec_l7One.l0
      repeat' first
      | (with_reducible exact ih0 _ _ _)
      | (with_reducible exact ih1 _ _ _)
      | (with_reducible exact spec_l7Number.mono _ _ _)
      | (with_reducible exact spec_l7Rex.mono _ _ _)
      | (with_reducible exact spec_l7Sign.mono _ _ _)
      | (with_reducible exact spec_l7Text.mono _ _ _)
      | (with_reducible exact LeO.refl _)
      | (with_reducible exact LeO.none _)
      | (with_reducible refine LeO.ite ?_ ?_)
      | (with_reducible refine LeO.bind ?_ (fun _ => ?_))
      | exact ih0 _ _ _
      | exact ih1 _ _ _
      | exact spec_l7Number.mono _ _ _
      | exact spec_l7Rex.mono _ _ _
      | exact spec_l7Sign.mono _ _ _
      | exact spec_l7Text.mono _ _ _
      | exact LeO.none _
      | refine LeO.ite ?_ ?_
      | refine LeO.bind ?_ (fun _ => ?_)
    · intro y0 y1 y2
      unfold spec_l7One.j1
      repeat' first
      | (with_reducible exact ih0 _ _ _)
      | (with_reducible exact ih1 _ _ _)
      | (with_reducible exact spec_l7Number.mono _ _ _)
      | (with_reducible exact spec_l7Rex.mono _ _ _)
      | (with_reducible exact spec_l7Sign.mono _ _ _)
      | (with_reducible exact spec_l7Text.mono _ _ _)
      | (with_reducible exact LeO.refl _)
      | (with_reducible exact LeO.none _)
      | (with_reducible refine LeO.ite ?_ ?_)
      | (with_reducible refine LeO.bind ?_ (fun _ => ?_))
      | exact ih0 _ _ _
      | exact ih1 _ _ _
      | exact spec_l7Number.mono _ _ _
      | exact spec_l7Rex.mono _ _ _
      | exact spec_l7Sign.mono _ _ _
      | exact spec_l7Text.mono _ _ _
      | exact LeO.none _
      | refine LeO.ite ?_ ?_
      | refine LeO.bind ?_ (fun _ => ?_)
theorem spec_l7One.mono : ∀ a0 a1 a2 k, LeO (spec_l7One.f k a0 a1 a2) (spec_l7One.f (k + 1) a0 a1 a2) := by
  intro a0 a1 a2 k
  obtain ⟨ih0, ih1⟩ := spec_l7One.mono_l k
  unfold spec_l7One.f
  repeat' first
      | (with_reducible exact ih0 _ _ _)
      | (with_reducible exact ih1 _ _ _)
      | (with_reducible exact spec_l7Number.mono _ _ _)
      | (with_reducible exact spec_l7Rex.mono _ _ _)
      | (with_reducible exact spec_l7Sign.mono _ _ _)
      | (with_reducible exact spec_l7Text.mono _ _ _)
      | (with_reducible exact LeO.refl _)
      | (with_reducible exact LeO.none _)
      | (with_reducible refine LeO.ite ?_ ?_)
      | (with_reducible refine LeO.bind ?_ (fun _ => ?_))
      | exact ih0 _ _ _
      | exact ih1 _ _ _
      | exact spec_l7Number.mono _ _ _
      | exact spec_l7Rex.mono _ _ _
      | exact spec_l7Sign.mono _ _ _
      | exact spec_l7Text.mono _ _ _
      | exact LeO.none _
      | refine LeO.ite ?_ ?_
      | refine LeO.bind ?_ (fun _ => ?_)
noncomputable def spec_l7One.l0v (x0 : ByteArray) (x1 : Int) (x10 : Int) : Option (Int × ByteArray × Int × Int × Int × Bool) := limOf (fun k => spec_l7One.l0 k x0 x1 x10)
theorem spec_l7One.l0_lim (x0 : ByteArray) (x1 : Int) (x10 : Int) : Lim (fun k => spec_l7One.l0 k x0 x1 x10) (spec_l7One.l0v x0 x1 x10) := Lim.of (fun k => (spec_l7One.mono_l k).1 x0 x1 x10)
noncomputable def spec_l7One.j1v (x0 : ByteArray) (x1 : Int) (x81 : Bool) : Option (Int × ByteArray × Int × Int × Int × Bool) := limOf (fun k => spec_l7One.j1 k x0 x1 x81)
theorem spec_l7One.j1_lim (x0 : ByteArray) (x1 : Int) (x81 : Bool) : Lim (fun k => spec_l7One.j1 k x0 x1 x81) (spec_l7One.j1v x0 x1 x81) := Lim.of (fun k => (spec_l7One.mono_l k).2 x0 x1 x81)
noncomputable def spec_l7One.fv (a0 : ByteArray) (a1 : Int) (l2 : List (S32)) : Option (Int × ByteArray × Int × Int × Int × Bool) := limOf (fun k => spec_l7One.f k a0 a1 l2)
theorem spec_l7One.f_lim (a0 : ByteArray) (a1 : Int) (l2 : List (S32)) : Lim (fun k => spec_l7One.f k a0 a1 l2) (spec_l7One.fv a0 a1 l2) := Lim.of (fun k => spec_l7One.mono a0 a1 l2 k)
set_option maxHeartbeats 4000000 in
theorem spec_l7One.l0v_eq (x0 : ByteArray) (x1 : Int) (x10 : Int) : spec_l7One.l0v x0 x1 x10 = (if x10 < (x0.size : Int) then (if 0 ≤ x10 then ((spec_l7Letter.f (bt x0 x10)).bind fun t149 => (if t149 = true then (spec_l7One.l0v x0 x1 (wrap64 (x10 + 1))) else (if 0 ≤ x1 then (if x1 ≤ x10 then (if x10 ≤ (x0.size : Int) then (some (1, x0.extract (x1 : Int).toNat (x10 : Int).toNat, 0, x1, x10, decide ((wrap64 (x10 - x1)) ≤ 8))) else (none)) else (none)) else (none)))) else (none)) else (if 0 ≤ x1 then (if x1 ≤ x10 then (if x10 ≤ (x0.size : Int) then (some (1, x0.extract (x1 : Int).toNat (x10 : Int).toNat, 0, x1, x10, decide ((wrap64 (x10 - x1)) ≤ 8))) else (none)) else (none)) else (none))) := by
  refine Lim.succ (spec_l7One.l0_lim x0 x1 x10) ?_
  simp only [spec_l7One.l0]
  repeat' first
    | (with_reducible apply spec_l7One.l0_lim)
    | (with_reducible exact Lim.const _)
    | (with_reducible refine Lim.ite ?_ ?_)
    | (with_reducible refine Lim.bind ?_ (fun _ => ?_))
    | apply spec_l7One.l0_lim
    | exact Lim.const _
    | refine Lim.ite ?_ ?_
    | refine Lim.bind ?_ (fun _ => ?_)
set_option maxHeartbeats 4000000 in
theorem spec_l7One.j1v_eq (x0 : ByteArray) (x1 : Int) (x81 : Bool) : spec_l7One.j1v x0 x1 x81 = (if x81 = true then ((spec_l7Rex.fv x0 x1).bind fun bt158 => (some (4, bt158.1, 0, x1, bt158.2.1, bt158.2.2))) else ((spec_l7Sign.fv x0 x1).bind fun t161 => (some (5, t161, 0, x1, wrap64 (x1 + (t161.size : Int)), (t161.toList != ([] : List UInt8)))))) := by
  refine Lim.succ (spec_l7One.j1_lim x0 x1 x81) ?_
  simp only [spec_l7One.j1]
  repeat' first
    | (with_reducible apply spec_l7Rex.f_lim)
    | (with_reducible apply spec_l7Sign.f_lim)
    | (with_reducible exact Lim.const _)
    | (with_reducible refine Lim.ite ?_ ?_)
    | (with_reducible refine Lim.bind ?_ (fun _ => ?_))
    | apply spec_l7Rex.f_lim
    | apply spec_l7Sign.f_lim
    | exact Lim.const _
    | refine Lim.ite ?_ ?_
    | refine Lim.bind ?_ (fun _ => ?_)
set_option maxHeartbeats 4000000 in
theorem spec_l7One.fv_eq (a0 : ByteArray) (a1 : Int) (l2 : List (S32)) : spec_l7One.fv a0 a1 l2 = (if 0 ≤ a1 then (if a1 < (a0.size : Int) then ((spec_l7Letter.f (bt a0 a1)).bind fun t148 => (if t148 = true then (spec_l7One.l0v a0 a1 a1) else ((spec_l2Digit.f (bt a0 a1)).bind fun t150 => (if t150 = true then ((spec_l7Number.fv a0 a1).bind fun bt151 => (some (2, (⟨#[]⟩ : ByteArray), bt151.1, a1, bt151.2.1, bt151.2.2))) else (if (bt a0 a1) = 34 then ((spec_l7Text.fv a0 a1).bind fun bt154 => (some (3, bt154.1, 0, a1, bt154.2.1, bt154.2.2))) else (if (bt a0 a1) = 47 then ((spec_l7After.f l2).bind fun t157 => (spec_l7One.j1v a0 a1 (!t157))) else (spec_l7One.j1v a0 a1 false))))))) else (none)) else (none)) := by
  refine Lim.eq (spec_l7One.f_lim a0 a1 l2) ?_
  simp only [spec_l7One.f]
  repeat' first
    | (with_reducible apply spec_l7Number.f_lim)
    | (with_reducible apply spec_l7One.j1_lim)
    | (with_reducible apply spec_l7One.l0_lim)
    | (with_reducible apply spec_l7Text.f_lim)
    | (with_reducible exact Lim.const _)
    | (with_reducible refine Lim.ite ?_ ?_)
    | (with_reducible refine Lim.bind ?_ (fun _ => ?_))
    | apply spec_l7Number.f_lim
    | apply spec_l7One.j1_lim
    | apply spec_l7One.l0_lim
    | apply spec_l7Text.f_lim
    | exact Lim.const _
    | refine Lim.ite ?_ ?_
    | refine Lim.bind ?_ (fun _ => ?_)

/-! ### spec_Tokens -/
mutual
def spec_Tokens.l0 : Nat → ByteArray → List (S32) → Int → Option ((List (S32)) × Int)
  | 0, _, _, _ => none
  | k + 1, x0, x4, x5 => if x5 < (x0.size : Int) then (if 0 ≤ x5 then (if (bt x0 x5) = 32 then (spec_Tokens.j1 k x0 x4 x5 true) else (spec_Tokens.j1 k x0 x4 x5 ((bt x0 x5) == 10))) else (none)) else (if x4.length < 3518437208883 then (some ((x4 ++ [(⟨0, (⟨#[]⟩ : ByteArray), 0, (x0.size : Int)⟩ : S32)]), (-1))) else (none))
def spec_Tokens.j1 : Nat → ByteArray → List (S32) → Int → Bool → Option ((List (S32)) × Int)
  | 0, _, _, _, _ => none
  | k + 1, x0, x4, x5, x27 => if x27 = true then (spec_Tokens.l0 k x0 x4 (wrap64 (x5 + 1))) else (if 0 ≤ x5 then (if x5 < (x0.size : Int) then (if (bt x0 x5) = 35 then (spec_Tokens.l1 k x0 x4 x5) else ((spec_l7One.f k x0 x5 x4).bind fun bt168 => (if bt168.2.2.2.2.2 = true then (if x4.length < 3518437208883 then (spec_Tokens.l0 k x0 (x4 ++ [(⟨bt168.1, bt168.2.1, bt168.2.2.1, bt168.2.2.2.1⟩ : S32)]) bt168.2.2.2.2.1) else (none)) else (some ((([] : List (S32))), x5))))) else (none)) else (none))
def spec_Tokens.l1 : Nat → ByteArray → List (S32) → Int → Option ((List (S32)) × Int)
  | 0, _, _, _ => none
  | k + 1, x0, x4, x5 => if x5 < (x0.size : Int) then (if 0 ≤ x5 then (if (bt x0 x5) = 10 then (spec_Tokens.l0 k x0 x4 x5) else (spec_Tokens.l1 k x0 x4 (wrap64 (x5 + 1)))) else (none)) else (spec_Tokens.l0 k x0 x4 x5)
end
def spec_Tokens.f (k : Nat) (a0 : ByteArray) : Option ((List (S32)) × Int) := (some (([] : List (S32)) : List (S32))).bind fun y162 => (if (a0.size : Int) > 2000 then (some (y162, 0)) else (spec_Tokens.l0 k a0 y162 0))
theorem spec_Tokens.mono_l : ∀ k, (∀ y0 y1 y2, LeO (spec_Tokens.l0 k y0 y1 y2) (spec_Tokens.l0 (k + 1) y0 y1 y2)) ∧ (∀ y0 y1 y2 y3, LeO (spec_Tokens.j1 k y0 y1 y2 y3) (spec_Tokens.j1 (k + 1) y0 y1 y2 y3)) ∧ (∀ y0 y1 y2, LeO (spec_Tokens.l1 k y0 y1 y2) (spec_Tokens.l1 (k + 1) y0 y1 y2))
  | 0 => ⟨fun _ _ _ r h => by simp [spec_Tokens.l0] at h, fun _ _ _ _ r h => by simp [spec_Tokens.j1] at h, fun _ _ _ r h => by simp [spec_Tokens.l1] at h⟩
  | k + 1 => by
    obtain ⟨ih0, ih1, ih2⟩ := spec_Tokens.mono_l k
    refine ⟨?_, ?_, ?_⟩
    · intro y0 y1 y2
      unfold spec_Tokens.l0
      repeat' first
      | (with_reducible exact ih0 _ _ _)
      | (with_reducible exact ih1 _ _ _ _)
      | (with_reducible exact ih2 _ _ _)
      | (with_reducible exact spec_l7One.mono _ _ _ _)
      | (with_reducible exact LeO.refl _)
      | (with_reducible exact LeO.none _)
      | (with_reducible refine LeO.ite ?_ ?_)
      | (with_reducible refine LeO.bind ?_ (fun _ => ?_))
      | exact ih0 _ _ _
      | exact ih1 _ _ _ _
      | exact ih2 _ _ _
      | exact spec_l7One.mono _ _ _ _
      | exact LeO.none _
      | refine LeO.ite ?_ ?_
      | refine LeO.bind ?_ (fun _ => ?_)
    · intro y0 y1 y2 y3
      unfold spec_Tokens.j1
      repeat' first
      | (with_reducible exact ih0 _ _ _)
      | (with_reducible exact ih1 _ _ _ _)
      | (with_reducible exact ih2 _ _ _)
      | (with_reducible exact spec_l7One.mono _ _ _ _)
      | (with_reducible exact LeO.refl _)
      | (with_reducible exact LeO.none _)
      | (with_reducible refine LeO.ite ?_ ?_)
      | (with_reducible refine LeO.bind ?_ (fun _ => ?_))
      | exact ih0 _ _ _
      | exact ih1 _ _ _ _
      | exact ih2 _ _ _
      | exact spec_l7One.mono _ _ _ _
      | exact LeO.none _
      | refine LeO.ite ?_ ?_
      | refine LeO.bind ?_ (fun _ => ?_)
    · intro y0 y1 y2
      unfold spec_Tokens.l1
      repeat' first
      | (with_reducible exact ih0 _ _ _)
      | (with_reducible exact ih1 _ _ _ _)
      | (with_reducible exact ih2 _ _ _)
      | (with_reducible exact spec_l7One.mono _ _ _ _)
      | (with_reducible exact LeO.refl _)
      | (with_reducible exact LeO.none _)
      | (with_reducible refine LeO.ite ?_ ?_)
      | (with_reducible refine LeO.bind ?_ (fun _ => ?_))
      | exact ih0 _ _ _
      | exact ih1 _ _ _ _
      | exact ih2 _ _ _
      | exact spec_l7One.mono _ _ _ _
      | exact LeO.none _
      | refine LeO.ite ?_ ?_
      | refine LeO.bind ?_ (fun _ => ?_)
theorem spec_Tokens.mono : ∀ a0 k, LeO (spec_Tokens.f k a0) (spec_Tokens.f (k + 1) a0) := by
  intro a0 k
  obtain ⟨ih0, ih1, ih2⟩ := spec_Tokens.mono_l k
  unfold spec_Tokens.f
  repeat' first
      | (with_reducible exact ih0 _ _ _)
      | (with_reducible exact ih1 _ _ _ _)
      | (with_reducible exact ih2 _ _ _)
      | (with_reducible exact spec_l7One.mono _ _ _ _)
      | (with_reducible exact LeO.refl _)
      | (with_reducible exact LeO.none _)
      | (with_reducible refine LeO.ite ?_ ?_)
      | (with_reducible refine LeO.bind ?_ (fun _ => ?_))
      | exact ih0 _ _ _
      | exact ih1 _ _ _ _
      | exact ih2 _ _ _
      | exact spec_l7One.mono _ _ _ _
      | exact LeO.none _
      | refine LeO.ite ?_ ?_
      | refine LeO.bind ?_ (fun _ => ?_)
noncomputable def spec_Tokens.l0v (x0 : ByteArray) (x4 : List (S32)) (x5 : Int) : Option ((List (S32)) × Int) := limOf (fun k => spec_Tokens.l0 k x0 x4 x5)
theorem spec_Tokens.l0_lim (x0 : ByteArray) (x4 : List (S32)) (x5 : Int) : Lim (fun k => spec_Tokens.l0 k x0 x4 x5) (spec_Tokens.l0v x0 x4 x5) := Lim.of (fun k => (spec_Tokens.mono_l k).1 x0 x4 x5)
noncomputable def spec_Tokens.j1v (x0 : ByteArray) (x4 : List (S32)) (x5 : Int) (x27 : Bool) : Option ((List (S32)) × Int) := limOf (fun k => spec_Tokens.j1 k x0 x4 x5 x27)
theorem spec_Tokens.j1_lim (x0 : ByteArray) (x4 : List (S32)) (x5 : Int) (x27 : Bool) : Lim (fun k => spec_Tokens.j1 k x0 x4 x5 x27) (spec_Tokens.j1v x0 x4 x5 x27) := Lim.of (fun k => (spec_Tokens.mono_l k).2.1 x0 x4 x5 x27)
noncomputable def spec_Tokens.l1v (x0 : ByteArray) (x4 : List (S32)) (x5 : Int) : Option ((List (S32)) × Int) := limOf (fun k => spec_Tokens.l1 k x0 x4 x5)
theorem spec_Tokens.l1_lim (x0 : ByteArray) (x4 : List (S32)) (x5 : Int) : Lim (fun k => spec_Tokens.l1 k x0 x4 x5) (spec_Tokens.l1v x0 x4 x5) := Lim.of (fun k => (spec_Tokens.mono_l k).2.2 x0 x4 x5)
noncomputable def spec_Tokens.fv (a0 : ByteArray) : Option ((List (S32)) × Int) := limOf (fun k => spec_Tokens.f k a0)
theorem spec_Tokens.f_lim (a0 : ByteArray) : Lim (fun k => spec_Tokens.f k a0) (spec_Tokens.fv a0) := Lim.of (fun k => spec_Tokens.mono a0 k)
set_option maxHeartbeats 4000000 in
theorem spec_Tokens.l0v_eq (x0 : ByteArray) (x4 : List (S32)) (x5 : Int) : spec_Tokens.l0v x0 x4 x5 = (if x5 < (x0.size : Int) then (if 0 ≤ x5 then (if (bt x0 x5) = 32 then (spec_Tokens.j1v x0 x4 x5 true) else (spec_Tokens.j1v x0 x4 x5 ((bt x0 x5) == 10))) else (none)) else (if x4.length < 3518437208883 then (some ((x4 ++ [(⟨0, (⟨#[]⟩ : ByteArray), 0, (x0.size : Int)⟩ : S32)]), (-1))) else (none))) := by
  refine Lim.succ (spec_Tokens.l0_lim x0 x4 x5) ?_
  simp only [spec_Tokens.l0]
  repeat' first
    | (with_reducible apply spec_Tokens.j1_lim)
    | (with_reducible exact Lim.const _)
    | (with_reducible refine Lim.ite ?_ ?_)
    | (with_reducible refine Lim.bind ?_ (fun _ => ?_))
    | apply spec_Tokens.j1_lim
    | exact Lim.const _
    | refine Lim.ite ?_ ?_
    | refine Lim.bind ?_ (fun _ => ?_)
set_option maxHeartbeats 4000000 in
theorem spec_Tokens.j1v_eq (x0 : ByteArray) (x4 : List (S32)) (x5 : Int) (x27 : Bool) : spec_Tokens.j1v x0 x4 x5 x27 = (if x27 = true then (spec_Tokens.l0v x0 x4 (wrap64 (x5 + 1))) else (if 0 ≤ x5 then (if x5 < (x0.size : Int) then (if (bt x0 x5) = 35 then (spec_Tokens.l1v x0 x4 x5) else ((spec_l7One.fv x0 x5 x4).bind fun bt168 => (if bt168.2.2.2.2.2 = true then (if x4.length < 3518437208883 then (spec_Tokens.l0v x0 (x4 ++ [(⟨bt168.1, bt168.2.1, bt168.2.2.1, bt168.2.2.2.1⟩ : S32)]) bt168.2.2.2.2.1) else (none)) else (some ((([] : List (S32))), x5))))) else (none)) else (none))) := by
  refine Lim.succ (spec_Tokens.j1_lim x0 x4 x5 x27) ?_
  simp only [spec_Tokens.j1]
  repeat' first
    | (with_reducible apply spec_Tokens.l0_lim)
    | (with_reducible apply spec_Tokens.l1_lim)
    | (with_reducible apply spec_l7One.f_lim)
    | (with_reducible exact Lim.const _)
    | (with_reducible refine Lim.ite ?_ ?_)
    | (with_reducible refine Lim.bind ?_ (fun _ => ?_))
    | apply spec_Tokens.l0_lim
    | apply spec_Tokens.l1_lim
    | apply spec_l7One.f_lim
    | exact Lim.const _
    | refine Lim.ite ?_ ?_
    | refine Lim.bind ?_ (fun _ => ?_)
set_option maxHeartbeats 4000000 in
theorem spec_Tokens.l1v_eq (x0 : ByteArray) (x4 : List (S32)) (x5 : Int) : spec_Tokens.l1v x0 x4 x5 = (if x5 < (x0.size : Int) then (if 0 ≤ x5 then (if (bt x0 x5) = 10 then (spec_Tokens.l0v x0 x4 x5) else (spec_Tokens.l1v x0 x4 (wrap64 (x5 + 1)))) else (none)) else (spec_Tokens.l0v x0 x4 x5)) := by
  refine Lim.succ (spec_Tokens.l1_lim x0 x4 x5) ?_
  simp only [spec_Tokens.l1]
  repeat' first
    | (with_reducible apply spec_Tokens.l0_lim)
    | (with_reducible apply spec_Tokens.l1_lim)
    | (with_reducible exact Lim.const _)
    | (with_reducible refine Lim.ite ?_ ?_)
    | (with_reducible refine Lim.bind ?_ (fun _ => ?_))
    | apply spec_Tokens.l0_lim
    | apply spec_Tokens.l1_lim
    | exact Lim.const _
    | refine Lim.ite ?_ ?_
    | refine Lim.bind ?_ (fun _ => ?_)
set_option maxHeartbeats 4000000 in
theorem spec_Tokens.fv_eq (a0 : ByteArray) : spec_Tokens.fv a0 = ((some (([] : List (S32)) : List (S32))).bind fun y162 => (if (a0.size : Int) > 2000 then (some (y162, 0)) else (spec_Tokens.l0v a0 y162 0))) := by
  refine Lim.eq (spec_Tokens.f_lim a0) ?_
  simp only [spec_Tokens.f]
  repeat' first
    | (with_reducible apply spec_Tokens.l0_lim)
    | (with_reducible exact Lim.const _)
    | (with_reducible refine Lim.ite ?_ ?_)
    | (with_reducible refine Lim.bind ?_ (fun _ => ?_))
    | apply spec_Tokens.l0_lim
    | exact Lim.const _
    | refine Lim.ite ?_ ?_
    | refine Lim.bind ?_ (fun _ => ?_)

/-! ### strings_IndexByte -/
def strings_IndexByte.f (a0 : ByteArray) (a1 : Int) : Option (Int) := some (Lib.indexByte a0.data.toList a1.toNat.toUInt8)

/-! ### impl_skip -/
mutual
def impl_skip.l0 : Nat → ByteArray → Int → Option (Int)
  | 0, _, _ => none
  | k + 1, x0, x1 => if x1 < (x0.size : Int) then (if 0 ≤ x1 then (if (bt x0 x1) = 32 then (impl_skip.j1 k x0 x1 true) else (impl_skip.j1 k x0 x1 ((bt x0 x1) == 10))) else (none)) else (some x1)
def impl_skip.j1 : Nat → ByteArray → Int → Bool → Option (Int)
  | 0, _, _, _ => none
  | k + 1, x0, x1, x11 => if x11 = true then (impl_skip.l0 k x0 (wrap64 (x1 + 1))) else (if 0 ≤ x1 then (if x1 < (x0.size : Int) then (if (bt x0 x1) = 35 then (if x1 ≤ (x0.size : Int) then ((strings_IndexByte.f (x0.extract (x1 : Int).toNat x0.size) 10).bind fun t181 => (if t181 < 0 then (some (x0.size : Int)) else (impl_skip.l0 k x0 (wrap64 (x1 + t181))))) else (none)) else (some x1)) else (none)) else (none))
end
def impl_skip.f (k : Nat) (a0 : ByteArray) (a1 : Int) : Option (Int) := impl_skip.l0 k a0 a1
theorem impl_skip.mono_l : ∀ k, (∀ y0 y1, LeO (impl_skip.l0 k y0 y1) (impl_skip.l0 (k + 1) y0 y1)) ∧ (∀ y0 y1 y2, LeO (impl_skip.j1 k y0 y1 y2) (impl_skip.j1 (k + 1) y0 y1 y2))
  | 0 => ⟨fun _ _ r h => by simp [impl_skip.l0] at h, fun _ _ _ r h => by simp [impl_skip.j1] at h⟩
  | k + 1 => by
    obtain ⟨ih0, ih1⟩ := impl_skip.mono_l k
    refine ⟨?_, ?_⟩
    · intro y0 y1
      unfold impl_skip.l0
      repeat' first
      | (with_reducible exact ih0 _ _)
      | (with_reducible exact ih1 _ _ _)
      | (with_reducible exact LeO.refl _)
      | (with_reducible exact LeO.none _)
      | (with_reducible refine LeO.ite ?_ ?_)
      | (with_reducible refine LeO.bind ?_ (fun _ => ?_))
      | exact ih0 _ _
      | exact ih1 _ _ _
      | exact LeO.none _
      | refine LeO.ite ?_ ?_
      | refine LeO.bind ?_ (fun _ => ?_)
    · intro y0 y1 y2
      unfold impl_skip.j1
      repeat' first
      | (with_reducible exact ih0 _ _)
      | (with_reducible exact ih1 _ _ _)
      | (with_reducible exact LeO.refl _)
      | (with_reducible exact LeO.none _)
      | (with_reducible refine LeO.ite ?_ ?_)
      | (with_reducible refine LeO.bind ?_ (fun _ => ?_))
      | exact ih0 _ _
      | exact ih1 _ _ _
      | exact LeO.none _
      | refine LeO.ite ?_ ?_
      | refine LeO.bind ?_ (fun _ => ?_)
theorem impl_skip.mono : ∀ a0 a1 k, LeO (impl_skip.f k a0 a1) (impl_skip.f (k + 1) a0 a1) := by
  intro a0 a1 k
  obtain ⟨ih0, ih1⟩ := impl_skip.mono_l k
  unfold impl_skip.f
  repeat' first
      | (with_reducible exact ih0 _ _)
      | (with_reducible exact ih1 _ _ _)
      | (with_reducible exact LeO.refl _)
      | (with_reducible exact LeO.none _)
      | (with_reducible refine LeO.ite ?_ ?_)
      | (with_reducible refine LeO.bind ?_ (fun _ => ?_))
      | exact ih0 _ _
      | exact ih1 _ _ _
      | exact LeO.none _
      | refine LeO.ite ?_ ?_
      | refine LeO.bind ?_ (fun _ => ?_)
noncomputable def impl_skip.l0v (x0 : ByteArray) (x1 : Int) : Option (Int) := limOf (fun k => impl_skip.l0 k x0 x1)
theorem impl_skip.l0_lim (x0 : ByteArray) (x1 : Int) : Lim (fun k => impl_skip.l0 k x0 x1) (impl_skip.l0v x0 x1) := Lim.of (fun k => (impl_skip.mono_l k).1 x0 x1)
noncomputable def impl_skip.j1v (x0 : ByteArray) (x1 : Int) (x11 : Bool) : Option (Int) := limOf (fun k => impl_skip.j1 k x0 x1 x11)
theorem impl_skip.j1_lim (x0 : ByteArray) (x1 : Int) (x11 : Bool) : Lim (fun k => impl_skip.j1 k x0 x1 x11) (impl_skip.j1v x0 x1 x11) := Lim.of (fun k => (impl_skip.mono_l k).2 x0 x1 x11)
noncomputable def impl_skip.fv (a0 : ByteArray) (a1 : Int) : Option (Int) := limOf (fun k => impl_skip.f k a0 a1)
theorem impl_skip.f_lim (a0 : ByteArray) (a1 : Int) : Lim (fun k => impl_skip.f k a0 a1) (impl_skip.fv a0 a1) := Lim.of (fun k => impl_skip.mono a0 a1 k)
set_option maxHeartbeats 4000000 in
theorem impl_skip.l0v_eq (x0 : ByteArray) (x1 : Int) : impl_skip.l0v x0 x1 = (if x1 < (x0.size : Int) then (if 0 ≤ x1 then (if (bt x0 x1) = 32 then (impl_skip.j1v x0 x1 true) else (impl_skip.j1v x0 x1 ((bt x0 x1) == 10))) else (none)) else (some x1)) := by
  refine Lim.succ (impl_skip.l0_lim x0 x1) ?_
  simp only [impl_skip.l0]
  repeat' first
    | (with_reducible apply impl_skip.j1_lim)
    | (with_reducible exact Lim.const _)
    | (with_reducible refine Lim.ite ?_ ?_)
    | (with_reducible refine Lim.bind ?_ (fun _ => ?_))
    | apply impl_skip.j1_lim
    | exact Lim.const _
    | refine Lim.ite ?_ ?_
    | refine Lim.bind ?_ (fun _ => ?_)
set_option maxHeartbeats 4000000 in
theorem impl_skip.j1v_eq (x0 : ByteArray) (x1 : Int) (x11 : Bool) : impl_skip.j1v x0 x1 x11 = (if x11 = true then (impl_skip.l0v x0 (wrap64 (x1 + 1))) else (if 0 ≤ x1 then (if x1 < (x0.size : Int) then (if (bt x0 x1) = 35 then (if x1 ≤ (x0.size : Int) then ((strings_IndexByte.f (x0.extract (x1 : Int).toNat x0.size) 10).bind fun t181 => (if t181 < 0 then (some (x0.size : Int)) else (impl_skip.l0v x0 (wrap64 (x1 + t181))))) else (none)) else (some x1)) else (none)) else (none))) := by
  refine Lim.succ (impl_skip.j1_lim x0 x1 x11) ?_
  simp only [impl_skip.j1]
  repeat' first
    | (with_reducible apply impl_skip.l0_lim)
    | (with_reducible exact Lim.const _)
    | (with_reducible refine Lim.ite ?_ ?_)
    | (with_reducible refine Lim.bind ?_ (fun _ => ?_))
    | apply impl_skip.l0_lim
    | exact Lim.const _
    | refine Lim.ite ?_ ?_
    | refine Lim.bind ?_ (fun _ => ?_)
set_option maxHeartbeats 4000000 in
theorem impl_skip.fv_eq (a0 : ByteArray) (a1 : Int) : impl_skip.fv a0 a1 = (impl_skip.l0v a0 a1) := by
  refine Lim.eq (impl_skip.f_lim a0 a1) ?_
  simp only [impl_skip.f]
  repeat' first
    | (with_reducible apply impl_skip.l0_lim)
    | (with_reducible exact Lim.const _)
    | (with_reducible refine Lim.ite ?_ ?_)
    | (with_reducible refine Lim.bind ?_ (fun _ => ?_))
    | apply impl_skip.l0_lim
    | exact Lim.const _
    | refine Lim.ite ?_ ?_
    | refine Lim.bind ?_ (fun _ => ?_)

/-! ### impl_isLetter -/
def impl_isLetter.f (a0 : Int) : Option (Bool) := if a0 ≥ 97 then (if a0 ≤ 122 then (some true) else (if a0 ≥ 65 then (some (decide (a0 ≤ 90))) else (some false))) else (if a0 ≥ 65 then (some (decide (a0 ≤ 90))) else (some false))

/-! ### impl_lettersAt -/
def impl_lettersAt.l0 : Nat → ByteArray → Int → Int → Option (Int)
  | 0, _, _, _ => none
  | k + 1, x0, x1, x5 => if (wrap64 (x1 + x5)) < (x0.size : Int) then (if 0 ≤ (wrap64 (x1 + x5)) then ((impl_isLetter.f (bt x0 (wrap64 (x1 + x5)))).bind fun t182 => (if t182 = true then (impl_lettersAt.l0 k x0 x1 (wrap64 (x5 + 1))) else (some x5))) else (none)) else (some x5)
def impl_lettersAt.f (k : Nat) (a0 : ByteArray) (a1 : Int) : Option (Int) := impl_lettersAt.l0 k a0 a1 0
theorem impl_lettersAt.mono_l : ∀ k, (∀ y0 y1 y2, LeO (impl_lettersAt.l0 k y0 y1 y2) (impl_lettersAt.l0 (k + 1) y0 y1 y2))
  | 0 => fun _ _ _ r h => by simp [impl_lettersAt.l0] at h
  | k + 1 => by
    have ih0 := impl_lettersAt.mono_l k
    · intro y0 y1 y2
      unfold impl_lettersAt.l0
      repeat' first
      | (with_reducible exact ih0 _ _ _)
      | (with_reducible exact LeO.refl _)
      | (with_reducible exact LeO.none _)
      | (with_reducible refine LeO.ite ?_ ?_)
      | (with_reducible refine LeO.bind ?_ (fun _ => ?_))
      | exact ih0 _ _ _
      | exact LeO.none _
      | refine LeO.ite ?_ ?_
      | refine LeO.bind ?_ (fun _ => ?_)
theorem impl_lettersAt.mono : ∀ a0 a1 k, LeO (impl_lettersAt.f k a0 a1) (impl_lettersAt.f (k + 1) a0 a1) := by
  intro a0 a1 k
  have ih0 := impl_lettersAt.mono_l k
  unfold impl_lettersAt.f
  repeat' first
      | (with_reducible exact ih0 _ _ _)
      | (with_reducible exact LeO.refl _)
      | (with_reducible exact LeO.none _)
      | (with_reducible refine LeO.ite ?_ ?_)
      | (with_reducible refine LeO.bind ?_ (fun _ => ?_))
      | exact ih0 _ _ _
      | exact LeO.none _
      | refine LeO.ite ?_ ?_
      | refine LeO.bind ?_ (fun _ => ?_)
noncomputable def impl_lettersAt.l0v (x0 : ByteArray) (x1 : Int) (x5 : Int) : Option (Int) := limOf (fun k => impl_lettersAt.l0 k x0 x1 x5)
theorem impl_lettersAt.l0_lim (x0 : ByteArray) (x1 : Int) (x5 : Int) : Lim (fun k => impl_lettersAt.l0 k x0 x1 x5) (impl_lettersAt.l0v x0 x1 x5) := Lim.of (fun k => impl_lettersAt.mono_l k x0 x1 x5)
noncomputable def impl_lettersAt.fv (a0 : ByteArray) (a1 : Int) : Option (Int) := limOf (fun k => impl_lettersAt.f k a0 a1)
theorem impl_lettersAt.f_lim (a0 : ByteArray) (a1 : Int) : Lim (fun k => impl_lettersAt.f k a0 a1) (impl_lettersAt.fv a0 a1) := Lim.of (fun k => impl_lettersAt.mono a0 a1 k)
set_option maxHeartbeats 4000000 in
theorem impl_lettersAt.l0v_eq (x0 : ByteArray) (x1 : Int) (x5 : Int) : impl_lettersAt.l0v x0 x1 x5 = (if (wrap64 (x1 + x5)) < (x0.size : Int) then (if 0 ≤ (wrap64 (x1 + x5)) then ((impl_isLetter.f (bt x0 (wrap64 (x1 + x5)))).bind fun t182 => (if t182 = true then (impl_lettersAt.l0v x0 x1 (wrap64 (x5 + 1))) else (some x5))) else (none)) else (some x5)) := by
  refine Lim.succ (impl_lettersAt.l0_lim x0 x1 x5) ?_
  simp only [impl_lettersAt.l0]
  repeat' first
    | (with_reducible apply impl_lettersAt.l0_lim)
    | (with_reducible exact Lim.const _)
    | (with_reducible refine Lim.ite ?_ ?_)
    | (with_reducible refine Lim.bind ?_ (fun _ => ?_))
    | apply impl_lettersAt.l0_lim
    | exact Lim.const _
    | refine Lim.ite ?_ ?_
    | refine Lim.bind ?_ (fun _ => ?_)
set_option maxHeartbeats 4000000 in
theorem impl_lettersAt.fv_eq (a0 : ByteArray) (a1 : Int) : impl_lettersAt.fv a0 a1 = (impl_lettersAt.l0v a0 a1 0) := by
  refine Lim.eq (impl_lettersAt.f_lim a0 a1) ?_
  simp only [impl_lettersAt.f]
  repeat' first
    | (with_reducible apply impl_lettersAt.l0_lim)
    | (with_reducible exact Lim.const _)
    | (with_reducible refine Lim.ite ?_ ?_)
    | (with_reducible refine Lim.bind ?_ (fun _ => ?_))
    | apply impl_lettersAt.l0_lim
    | exact Lim.const _
    | refine Lim.ite ?_ ?_
    | refine Lim.bind ?_ (fun _ => ?_)

/-! ### impl_digitsAt -/
def impl_digitsAt.l0 : Nat → ByteArray → Int → Int → Option (Int)
  | 0, _, _, _ => none
  | k + 1, x0, x1, x5 => if (wrap64 (x1 + x5)) < (x0.size : Int) then (if 0 ≤ (wrap64 (x1 + x5)) then (if (bt x0 (wrap64 (x1 + x5))) ≥ 48 then (if (bt x0 (wrap64 (x1 + x5))) ≤ 57 then (impl_digitsAt.l0 k x0 x1 (wrap64 (x5 + 1))) else (some x5)) else (some x5)) else (none)) else (some x5)
def impl_digitsAt.f (k : Nat) (a0 : ByteArray) (a1 : Int) : Option (Int) := impl_digitsAt.l0 k a0 a1 0
theorem impl_digitsAt.mono_l : ∀ k, (∀ y0 y1 y2, LeO (impl_digitsAt.l0 k y0 y1 y2) (impl_digitsAt.l0 (k + 1) y0 y1 y2))
  | 0 => fun _ _ _ r h => by simp [impl_digitsAt.l0] at h
  | k + 1 => by
    have ih0 := impl_digitsAt.mono_l k
    · intro y0 y1 y2
      unfold impl_digitsAt.l0
      repeat' first
      | (with_reducible exact ih0 _ _ _)
      | (with_reducible exact LeO.refl _)
      | (with_reducible exact LeO.none _)
      | (with_reducible refine LeO.ite ?_ ?_)
      | (with_reducible refine LeO.bind ?_ (fun _ => ?_))
      | exact ih0 _ _ _
      | exact LeO.none _
      | refine LeO.ite ?_ ?_
      | refine LeO.bind ?_ (fun _ => ?_)
theorem impl_digitsAt.mono : ∀ a0 a1 k, LeO (impl_digitsAt.f k a0 a1) (impl_digitsAt.f (k + 1) a0 a1) := by
  intro a0 a1 k
  have ih0 := impl_digitsAt.mono_l k
  unfold impl_digitsAt.f
  repeat' first
      | (with_reducible exact ih0 _ _ _)
      | (with_reducible exact LeO.refl _)
      | (with_reducible exact LeO.none _)
      | (with_reducible refine LeO.ite ?_ ?_)
      | (with_reducible refine LeO.bind ?_ (fun _ => ?_))
      | exact ih0 _ _ _
      | exact LeO.none _
      | refine LeO.ite ?_ ?_
      | refine LeO.bind ?_ (fun _ => ?_)
noncomputable def impl_digitsAt.l0v (x0 : ByteArray) (x1 : Int) (x5 : Int) : Option (Int) := limOf (fun k => impl_digitsAt.l0 k x0 x1 x5)
theorem impl_digitsAt.l0_lim (x0 : ByteArray) (x1 : Int) (x5 : Int) : Lim (fun k => impl_digitsAt.l0 k x0 x1 x5) (impl_digitsAt.l0v x0 x1 x5) := Lim.of (fun k => impl_digitsAt.mono_l k x0 x1 x5)
noncomputable def impl_digitsAt.fv (a0 : ByteArray) (a1 : Int) : Option (Int) := limOf (fun k => impl_digitsAt.f k a0 a1)
theorem impl_digitsAt.f_lim (a0 : ByteArray) (a1 : Int) : Lim (fun k => impl_digitsAt.f k a0 a1) (impl_digitsAt.fv a0 a1) := Lim.of (fun k => impl_digitsAt.mono a0 a1 k)
set_option maxHeartbeats 4000000 in
theorem impl_digitsAt.l0v_eq (x0 : ByteArray) (x1 : Int) (x5 : Int) : impl_digitsAt.l0v x0 x1 x5 = (if (wrap64 (x1 + x5)) < (x0.size : Int) then (if 0 ≤ (wrap64 (x1 + x5)) then (if (bt x0 (wrap64 (x1 + x5))) ≥ 48 then (if (bt x0 (wrap64 (x1 + x5))) ≤ 57 then (impl_digitsAt.l0v x0 x1 (wrap64 (x5 + 1))) else (some x5)) else (some x5)) else (none)) else (some x5)) := by
  refine Lim.succ (impl_digitsAt.l0_lim x0 x1 x5) ?_
  simp only [impl_digitsAt.l0]
  repeat' first
    | (with_reducible apply impl_digitsAt.l0_lim)
    | (with_reducible exact Lim.const _)
    | (with_reducible refine Lim.ite ?_ ?_)
    | (with_reducible refine Lim.bind ?_ (fun _ => ?_))
    | apply impl_digitsAt.l0_lim
    | exact Lim.const _
    | refine Lim.ite ?_ ?_
    | refine Lim.bind ?_ (fun _ => ?_)
set_option maxHeartbeats 4000000 in
theorem impl_digitsAt.fv_eq (a0 : ByteArray) (a1 : Int) : impl_digitsAt.fv a0 a1 = (impl_digitsAt.l0v a0 a1 0) := by
  refine Lim.eq (impl_digitsAt.f_lim a0 a1) ?_
  simp only [impl_digitsAt.f]
  repeat' first
    | (with_reducible apply impl_digitsAt.l0_lim)
    | (with_reducible exact Lim.const _)
    | (with_reducible refine Lim.ite ?_ ?_)
    | (with_reducible refine Lim.bind ?_ (fun _ => ?_))
    | apply impl_digitsAt.l0_lim
    | exact Lim.const _
    | refine Lim.ite ?_ ?_
    | refine Lim.bind ?_ (fun _ => ?_)

/-! ### strings_TrimLeft -/
def strings_TrimLeft.f (a0 : ByteArray) (a1 : ByteArray) : Option (ByteArray) := match a1.data.toList with | [c_] => if c_.toNat < 128 ∧ a0.size ≤ 9223372036854775807 then some ⟨(Lib.trimLeftB a0.data.toList c_).toArray⟩ else none | _ => none

/-! ### strconv_Atoi -/
def strconv_Atoi.f (a0 : ByteArray) : Option (Int × Option Int) := if a0.size ≤ 18 then (match Lib.atoi a0.data.toList with | some n_ => some (n_, none) | none => none) else none

/-! ### impl_in -/
def impl_in.f (a0 : Int) (a1 : Int) (a2 : Int) : Option (Bool) := if a0 ≥ a1 then (some (decide (a0 ≤ a2))) else (some false)

/-! ### impl_DecOk -/
def impl_DecOk.f (a0 : Int) : Option (Bool) := (impl_in.f a0 (-9000000000000) 9000000000000).bind fun t183 => (some t183)

/-! ### impl_right -/
def impl_right.f (a0 : Int) : Option (Int × Bool) := (impl_DecOk.f a0).bind fun t184 => (if t184 = true then (some (a0, true)) else (some (0, false)))

/-! ### impl_millionths -/
def impl_millionths.f (a0 : ByteArray) (a1 : ByteArray) : Option (Int × Bool) := (strings_TrimLeft.f a0 (⟨#[48]⟩ : ByteArray)).bind fun t185 => (if a1.size + 6 ≤ 9223372036854775807 then (if 0 ≤ 6 then (if 6 ≤ ((a1.size : Int) + 6) then (if (t185.size : Int) > 7 then (some (0, false)) else (if 1 + t185.size ≤ 9223372036854775807 then (if ((⟨#[48]⟩ : ByteArray) ++ t185).size + ((a1 ++ (⟨#[48, 48, 48, 48, 48, 48]⟩ : ByteArray)).extract 0 6).size ≤ 9223372036854775807 then ((strconv_Atoi.f (((⟨#[48]⟩ : ByteArray) ++ t185) ++ ((a1 ++ (⟨#[48, 48, 48, 48, 48, 48]⟩ : ByteArray)).extract 0 6))).bind fun bt186 => ((impl_right.f bt186.1).bind fun bt188 => (some (bt188.1, bt188.2)))) else (none)) else (none))) else (none)) else (none)) else (none))

/-! ### impl_numAt -/
def impl_numAt.j0 : Nat → ByteArray → Int → Int → Int → ByteArray → Bool → Option (Int × Int)
  | 0, _, _, _, _, _, _ => none
  | k + 1, x0, x1, x6, x7, x8, x27 => if x27 = true then ((impl_digitsAt.f k x0 (wrap64 (x7 + 1))).bind fun t191 => (if t191 > 0 then (if 0 ≤ (wrap64 (x7 + 1)) then (if (wrap64 (x7 + 1)) ≤ (wrap64 ((wrap64 (x7 + 1)) + t191)) then (if (wrap64 ((wrap64 (x7 + 1)) + t191)) ≤ (x0.size : Int) then (if 0 ≤ x1 then (if x1 ≤ (wrap64 (x1 + x6)) then (if (wrap64 (x1 + x6)) ≤ (x0.size : Int) then ((impl_millionths.f (x0.extract (x1 : Int).toNat ((wrap64 (x1 + x6)) : Int).toNat) (x0.extract ((wrap64 (x7 + 1)) : Int).toNat ((wrap64 ((wrap64 (x7 + 1)) + t191)) : Int).toNat)).bind fun bt192 => (if bt192.2 = true then (if ((x0.extract ((wrap64 (x7 + 1)) : Int).toNat ((wrap64 ((wrap64 (x7 + 1)) + t191)) : Int).toNat).size : Int) > 6 then (some (0, (-1))) else (some (bt192.1, wrap64 (x7 + (wrap64 (1 + t191)))))) else (some (0, (-1))))) else (none)) else (none)) else (none)) else (none)) else (none)) else (none)) else (if 0 ≤ x1 then (if x1 ≤ (wrap64 (x1 + x6)) then (if (wrap64 (x1 + x6)) ≤ (x0.size : Int) then ((impl_millionths.f (x0.extract (x1 : Int).toNat ((wrap64 (x1 + x6)) : Int).toNat) x8).bind fun bt194 => (if bt194.2 = true then (if (x8.size : Int) > 6 then (some (0, (-1))) else (some (bt194.1, x7))) else (some (0, (-1))))) else (none)) else (none)) else (none)))) else (if 0 ≤ x1 then (if x1 ≤ (wrap64 (x1 + x6)) then (if (wrap64 (x1 + x6)) ≤ (x0.size : Int) then ((impl_millionths.f (x0.extract (x1 : Int).toNat ((wrap64 (x1 + x6)) : Int).toNat) x8).bind fun bt196 => (if bt196.2 = true then (if (x8.size : Int) > 6 then (some (0, (-1))) else (some (bt196.1, x7))) else (some (0, (-1))))) else (none)) else (none)) else (none))
def impl_numAt.f (k : Nat) (a0 : ByteArray) (a1 : Int) : Option (Int × Int) := (impl_digitsAt.f k a0 a1).bind fun t190 => (if (wrap64 (a1 + t190)) < (a0.size : Int) then (if 0 ≤ (wrap64 (a1 + t190)) then (impl_numAt.j0 k a0 a1 t190 (wrap64 (a1 + t190)) (⟨#[]⟩ : ByteArray) ((bt a0 (wrap64 (a1 + t190))) == 46)) else (none)) else (impl_numAt.j0 k a0 a1 t190 (wrap64 (a1 + t190)) (⟨#[]⟩ : ByteArray) false))
theorem impl_numAt.mono_l : ∀ k, (∀ y0 y1 y2 y3 y4 y5, LeO (impl_numAt.j0 k y0 y1 y2 y3 y4 y5) (impl_numAt.j0 (k + 1) y0 y1 y2 y3 y4 y5))
  | 0 => fun _ _ _ _ _ _ r h => by simp [impl_numAt.j0] at h
  | k + 1 => by
    have ih0 := impl_numAt.mono_l k
    · intro y0 y1 y2 y3 y4 y5
      unfold impl_numAt.j0
      repeat' first
      | (with_reducible exact ih0 _ _ _ _ _ _)
      | (with_reducible exact impl_digitsAt.mono _ _ _)
      | (with_reducible exact LeO.refl _)
      | (with_reducible exact LeO.none _)
      | (with_reducible refine LeO.ite ?_ ?_)
      | (with_reducible refine LeO.bind ?_ (fun _ => ?_))
      | exact ih0 _ _ _ _ _ _
      | exact impl_digitsAt.mono _ _ _
      | exact LeO.none _
      | refine LeO.ite ?_ ?_
      | refine LeO.bind ?_ (fun _ => ?_)
theorem impl_numAt.mono : ∀ a0 a1 k, LeO (impl_numAt.f k a0 a1) (impl_numAt.f (k + 1) a0 a1) := by
  intro a0 a1 k
  have ih0 := impl_numAt.mono_l k
  unfold impl_numAt.f
  repeat' first
      | (with_reducible exact ih0 _ _ _ _ _ _)
      | (with_reducible exact impl_digitsAt.mono _ _ _)
      | (with_reducible exact LeO.refl _)
      | (with_reducible exact LeO.none _)
      | (with_reducible refine LeO.ite ?_ ?_)
      | (with_reducible refine LeO.bind ?_ (fun _ => ?_))
      | exact ih0 _ _ _ _ _ _
      | exact impl_digitsAt.mono _ _ _
      | exact LeO.none _
      | refine LeO.ite ?_ ?_
      | refine LeO.bind ?_ (fun _ => ?_)
noncomputable def impl_numAt.j0v (x0 : ByteArray) (x1 : Int) (x6 : Int) (x7 : Int) (x8 : ByteArray) (x27 : Bool) : Option (Int × Int) := limOf (fun k => impl_numAt.j0 k x0 x1 x6 x7 x8 x27)
theorem impl_numAt.j0_lim (x0 : ByteArray) (x1 : Int) (x6 : Int) (x7 : Int) (x8 : ByteArray) (x27 : Bool) : Lim (fun k => impl_numAt.j0 k x0 x1 x6 x7 x8 x27) (impl_numAt.j0v x0 x1 x6 x7 x8 x27) := Lim.of (fun k => impl_numAt.mono_l k x0 x1 x6 x7 x8 x27)
noncomputable def impl_numAt.fv (a0 : ByteArray) (a1 : Int) : Option (Int × Int) := limOf (fun k => impl_numAt.f k a0 a1)
theorem impl_numAt.f_lim (a0 : ByteArray) (a1 : Int) : Lim (fun k => impl_numAt.f k a0 a1) (impl_numAt.fv a0 a1) := Lim.of (fun k => impl_numAt.mono a0 a1 k)
set_option maxHeartbeats 4000000 in
theorem impl_numAt.j0v_eq (x0 : ByteArray) (x1 : Int) (x6 : Int) (x7 : Int) (x8 : ByteArray) (x27 : Bool) : impl_numAt.j0v x0 x1 x6 x7 x8 x27 = (if x27 = true then ((impl_digitsAt.fv x0 (wrap64 (x7 + 1))).bind fun t191 => (if t191 > 0 then (if 0 ≤ (wrap64 (x7 + 1)) then (if (wrap64 (x7 + 1)) ≤ (wrap64 ((wrap64 (x7 + 1)) + t191)) then (if (wrap64 ((wrap64 (x7 + 1)) + t191)) ≤ (x0.size : Int) then (if 0 ≤ x1 then (if x1 ≤ (wrap64 (x1 + x6)) then (if (wrap64 (x1 + x6)) ≤ (x0.size : Int) then ((impl_millionths.f (x0.extract (x1 : Int).toNat ((wrap64 (x1 + x6)) : Int).toNat) (x0.extract ((wrap64 (x7 + 1)) : Int).toNat ((wrap64 ((wrap64 (x7 + 1)) + t191)) : Int).toNat)).bind fun bt192 => (if bt192.2 = true then (if ((x0.extract ((wrap64 (x7 + 1)) : Int).toNat ((wrap64 ((wrap64 (x7 + 1)) + t191)) : Int).toNat).size : Int) > 6 then (some (0, (-1))) else (some (bt192.1, wrap64 (x7 + (wrap64 (1 + t191)))))) else (some (0, (-1))))) else (none)) else (none)) else (none)) else (none)) else (none)) else (none)) else (if 0 ≤ x1 then (if x1 ≤ (wrap64 (x1 + x6)) then (if (wrap64 (x1 + x6)) ≤ (x0.size : Int) then ((impl_millionths.f (x0.extract (x1 : Int).toNat ((wrap64 (x1 + x6)) : Int).toNat) x8).bind fun bt194 => (if bt194.2 = true then (if (x8.size : Int) > 6 then (some (0, (-1))) else (some (bt194.1, x7))) else (some (0, (-1))))) else (none)) else (none)) else (none)))) else (if 0 ≤ x1 then (if x1 ≤ (wrap64 (x1 + x6)) then (if (wrap64 (x1 + x6)) ≤ (x0.size : Int) then ((impl_millionths.f (x0.extract (x1 : Int).toNat ((wrap64 (x1 + x6)) : Int).toNat) x8).bind fun bt196 => (if bt196.2 = true then (if (x8.size : Int) > 6 then (some (0, (-1))) else (some (bt196.1, x7))) else (some (0, (-1))))) else (none)) else (none)) else (none))) := by
  refine Lim.succ (impl_numAt.j0_lim x0 x1 x6 x7 x8 x27) ?_
  simp only [impl_numAt.j0]
  repeat' first
    | (with_reducible apply impl_digitsAt.f_lim)
    | (with_reducible exact Lim.const _)
    | (with_reducible refine Lim.ite ?_ ?_)
    | (with_reducible refine Lim.bind ?_ (fun _ => ?_))
    | apply impl_digitsAt.f_lim
    | exact Lim.const _
    | refine Lim.ite ?_ ?_
    | refine Lim.bind ?_ (fun _ => ?_)
set_option maxHeartbeats 4000000 in
theorem impl_numAt.fv_eq (a0 : ByteArray) (a1 : Int) : impl_numAt.fv a0 a1 = ((impl_digitsAt.fv a0 a1).bind fun t190 => (if (wrap64 (a1 + t190)) < (a0.size : Int) then (if 0 ≤ (wrap64 (a1 + t190)) then (impl_numAt.j0v a0 a1 t190 (wrap64 (a1 + t190)) (⟨#[]⟩ : ByteArray) ((bt a0 (wrap64 (a1 + t190))) == 46)) else (none)) else (impl_numAt.j0v a0 a1 t190 (wrap64 (a1 + t190)) (⟨#[]⟩ : ByteArray) false))) := by
  refine Lim.eq (impl_numAt.f_lim a0 a1) ?_
  simp only [impl_numAt.f]
  repeat' first
    | (with_reducible apply impl_digitsAt.f_lim)
    | (with_reducible apply impl_numAt.j0_lim)
    | (with_reducible exact Lim.const _)
    | (with_reducible refine Lim.ite ?_ ?_)
    | (with_reducible refine Lim.bind ?_ (fun _ => ?_))
    | apply impl_digitsAt.f_lim
    | apply impl_numAt.j0_lim
    | exact Lim.const _
    | refine Lim.ite ?_ ?_
    | refine Lim.bind ?_ (fun _ => ?_)

end Go.Proofs.YtelaipnanpfniaaDoor.QFnTokens
