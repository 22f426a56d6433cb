/- Written by wip/pr2, a program of this session. -/
import Derived.Test.YtehefologhfdhaaDoorQFnFieldsJoinx0
import Derived.Test.YtehefologhfdhaaDoorLim
import Derived.Test.YtehefologhfdhaaDoorExt
namespace Go.Proofs.YtehefologhfdhaaDoor.QFnFieldsJoin
open Go.RowKit Go.Proofs.YtehefologhfdhaaDoorW.PrintWords Go.Proofs.YtehefologhfdhaaDoorW.PrintLast Go.Proofs.YtehefologhfdhaaDoorW.PrintMore
attribute [local go_sem] max2_int min2_int max_two min_two max_three min_three max_four min_four   -- for this text's walks alone
set_option linter.unusedVariables false
set_option linter.unusedSimpArgs false
set_option maxHeartbeats 8000000

open Go.Proofs.YtehefologhfdhaaDoorW.Lims
/-! ### spec_Fields -/
mutual
def spec_Fields.l0 : Nat → ByteArray → List ByteArray → Int → Int → Option (List ByteArray)
  | 0, _, _, _, _ => none
  | k + 1, x0, x3, x4, x5 => if x5 ≤ (x0.size : Int) then (if x5 < (x0.size : Int) then (if 0 ≤ x5 then (spec_Fields.j1 k x0 x3 x4 x5 ((bt x0 x5) != 32)) else (none)) else (spec_Fields.j1 k x0 x3 x4 x5 false)) else (some x3)
def spec_Fields.j1 : Nat → ByteArray → List ByteArray → Int → Int → Bool → Option (List ByteArray)
  | 0, _, _, _, _, _ => none
  | k + 1, x0, x3, x4, x5, x22 => if x22 = true then (spec_Fields.l0 k x0 x3 x4 (wrap64 (x5 + 1))) else (if x5 > x4 then (if 0 ≤ x4 then (if x4 ≤ x5 then (if x5 ≤ (x0.size : Int) then (if x3.length < 8796093022208 then (spec_Fields.l0 k x0 (x3 ++ [x0.extract (x4 : Int).toNat (x5 : Int).toNat]) (wrap64 (x5 + 1)) (wrap64 (x5 + 1))) else (none)) else (none)) else (none)) else (none)) else (spec_Fields.l0 k x0 x3 (wrap64 (x5 + 1)) (wrap64 (x5 + 1))))
end
def spec_Fields.f (k : Nat) (a0 : ByteArray) : Option (List ByteArray) := spec_Fields.l0 k a0 (([] : List ByteArray)) 0 0
theorem spec_Fields.mono_l : ∀ k, (∀ y0 y1 y2 y3, LeO (spec_Fields.l0 k y0 y1 y2 y3) (spec_Fields.l0 (k + 1) y0 y1 y2 y3)) ∧ (∀ y0 y1 y2 y3 y4, LeO (spec_Fields.j1 k y0 y1 y2 y3 y4) (spec_Fields.j1 (k + 1) y0 y1 y2 y3 y4))
  | 0 => ⟨fun _ _ _ _ r h => by simp [spec_Fields.l0] at h, fun _ _ _ _ _ r h => by simp [spec_Fields.j1] at h⟩
  | k + 1 => by
    obtain ⟨ih0, ih1⟩ := spec_Fields.mono_l k
    refine ⟨?_, ?_⟩
    · intro y0 y1 y2 y3
      unfold spec_Fields.l0
      repeat' first
      | (with_reducible exact ih0 _ _ _ _)
      | (with_reducible exact ih1 _ _ _ _ _)
      | (with_reducible exact LeO.refl _)
      | (with_reducible exact LeO.none _)
      | (with_reducible refine LeO.ite ?_ ?_)
      | (with_reducible refine LeO.bind ?_ (fun _ => ?_))
      | exact ih0 _ _ _ _
      | exact ih1 _ _ _ _ _
      | exact LeO.none _
      | refine LeO.ite ?_ ?_
      | refine LeO.bind ?_ (fun _ => ?_)
    · intro y0 y1 y2 y3 y4
      unfold spec_Fields.j1
      repeat' first
      | (with_reducible exact ih0 _ _ _ _)
      | (with_reducible exact ih1 _ _ _ _ _)
      | (with_reducible exact LeO.refl _)
      | (with_reducible exact LeO.none _)
      | (with_reducible refine LeO.ite ?_ ?_)
      | (with_reducible refine LeO.bind ?_ (fun _ => ?_))
      | exact ih0 _ _ _ _
      | exact ih1 _ _ _ _ _
      | exact LeO.none _
      | refine LeO.ite ?_ ?_
      | refine LeO.bind ?_ (fun _ => ?_)
theorem spec_Fields.mono : ∀ a0 k, LeO (spec_Fields.f k a0) (spec_Fields.f (k + 1) a0) := by
  intro a0 k
  obtain ⟨ih0, ih1⟩ := spec_Fields.mono_l k
  unfold spec_Fields.f
  repeat' first
      | (with_reducible exact ih0 _ _ _ _)
      | (with_reducible exact ih1 _ _ _ _ _)
      | (with_reducible exact LeO.refl _)
      | (with_reducible exact LeO.none _)
      | (with_reducible refine LeO.ite ?_ ?_)
      | (with_reducible refine LeO.bind ?_ (fun _ => ?_))
      | exact ih0 _ _ _ _
      | exact ih1 _ _ _ _ _
      | exact LeO.none _
      | refine LeO.ite ?_ ?_
      | refine LeO.bind ?_ (fun _ => ?_)
noncomputable def spec_Fields.l0v (x0 : ByteArray) (x3 : List ByteArray) (x4 : Int) (x5 : Int) : Option (List ByteArray) := limOf (fun k => spec_Fields.l0 k x0 x3 x4 x5)
theorem spec_Fields.l0_lim (x0 : ByteArray) (x3 : List ByteArray) (x4 : Int) (x5 : Int) : Lim (fun k => spec_Fields.l0 k x0 x3 x4 x5) (spec_Fields.l0v x0 x3 x4 x5) := Lim.of (fun k => (spec_Fields.mono_l k).1 x0 x3 x4 x5)
noncomputable def spec_Fields.j1v (x0 : ByteArray) (x3 : List ByteArray) (x4 : Int) (x5 : Int) (x22 : Bool) : Option (List ByteArray) := limOf (fun k => spec_Fields.j1 k x0 x3 x4 x5 x22)
theorem spec_Fields.j1_lim (x0 : ByteArray) (x3 : List ByteArray) (x4 : Int) (x5 : Int) (x22 : Bool) : Lim (fun k => spec_Fields.j1 k x0 x3 x4 x5 x22) (spec_Fields.j1v x0 x3 x4 x5 x22) := Lim.of (fun k => (spec_Fields.mono_l k).2 x0 x3 x4 x5 x22)
noncomputable def spec_Fields.fv (a0 : ByteArray) : Option (List ByteArray) := limOf (fun k => spec_Fields.f k a0)
theorem spec_Fields.f_lim (a0 : ByteArray) : Lim (fun k => spec_Fields.f k a0) (spec_Fields.fv a0) := Lim.of (fun k => spec_Fields.mono a0 k)
set_option maxHeartbeats 4000000 in
theorem spec_Fields.l0v_eq (x0 : ByteArray) (x3 : List ByteArray) (x4 : Int) (x5 : Int) : spec_Fields.l0v x0 x3 x4 x5 = (if x5 ≤ (x0.size : Int) then (if x5 < (x0.size : Int) then (if 0 ≤ x5 then (spec_Fields.j1v x0 x3 x4 x5 ((bt x0 x5) != 32)) else (none)) else (spec_Fields.j1v x0 x3 x4 x5 false)) else (some x3)) := by
  refine Lim.succ (spec_Fields.l0_lim x0 x3 x4 x5) ?_
  simp only [spec_Fields.l0]
  repeat' first
    | (with_reducible apply spec_Fields.j1_lim)
    | (with_reducible exact Lim.const _)
    | (with_reducible refine Lim.ite ?_ ?_)
    | (with_reducible refine Lim.bind ?_ (fun _ => ?_))
    | apply spec_Fields.j1_lim
    | exact Lim.const _
    | refine Lim.ite ?_ ?_
    | refine Lim.bind ?_ (fun _ => ?_)
set_option maxHeartbeats 4000000 in
theorem spec_Fields.j1v_eq (x0 : ByteArray) (x3 : List ByteArray) (x4 : Int) (x5 : Int) (x22 : Bool) : spec_Fields.j1v x0 x3 x4 x5 x22 = (if x22 = true then (spec_Fields.l0v x0 x3 x4 (wrap64 (x5 + 1))) else (if x5 > x4 then (if 0 ≤ x4 then (if x4 ≤ x5 then (if x5 ≤ (x0.size : Int) then (if x3.length < 8796093022208 then (spec_Fields.l0v x0 (x3 ++ [x0.extract (x4 : Int).toNat (x5 : Int).toNat]) (wrap64 (x5 + 1)) (wrap64 (x5 + 1))) else (none)) else (none)) else (none)) else (none)) else (spec_Fields.l0v x0 x3 (wrap64 (x5 + 1)) (wrap64 (x5 + 1))))) := by
  refine Lim.succ (spec_Fields.j1_lim x0 x3 x4 x5 x22) ?_
  simp only [spec_Fields.j1]
  repeat' first
    | (with_reducible apply spec_Fields.l0_lim)
    | (with_reducible exact Lim.const _)
    | (with_reducible refine Lim.ite ?_ ?_)
    | (with_reducible refine Lim.bind ?_ (fun _ => ?_))
    | apply spec_Fields.l0_lim
    | exact Lim.const _
    | refine Lim.ite ?_ ?_
    | refine Lim.bind ?_ (fun _ => ?_)
set_option maxHeartbeats 4000000 in
theorem spec_Fields.fv_eq (a0 : ByteArray) : spec_Fields.fv a0 = (spec_Fields.l0v a0 (([] : List ByteArray)) 0 0) := by
  refine Lim.eq (spec_Fields.f_lim a0) ?_
  simp only [spec_Fields.f]
  repeat' first
    | (with_reducible apply spec_Fields.l0_lim)
    | (with_reducible exact Lim.const _)
    | (with_reducible refine Lim.ite ?_ ?_)
    | (with_reducible refine Lim.bind ?_ (fun _ => ?_))
    | apply spec_Fields.l0_lim
    | exact Lim.const _
    | refine Lim.ite ?_ ?_
    | refine Lim.bind ?_ (fun _ => ?_)

/-! ### strings_Split -/
def strings_Split.f (a0 : ByteArray) (a1 : ByteArray) : Option (List (ByteArray)) := if a0.size < 4294967281 ∧ 1 ≤ a1.size then some (Lib.splitB a1 0 (Lib.countB a0 a1) a0) else none

/-! ### impl_Fields_1 -/
def impl_Fields_1.f (a0 : ByteArray) : Option (Bool) := some (a0.toList == ([] : List UInt8))

/-! ### slices_DeleteFunc_string_string_15 -/
def slices_DeleteFunc_string_string_15.f (l0 : List (ByteArray)) : Option (List (ByteArray)) := if l0 = [] then none else some (l0.filter fun x => !((impl_Fields_1.f x).getD false))

/-! ### impl_Fields -/
def impl_Fields.f (a0 : ByteArray) : Option (List ByteArray) := (strings_Split.f a0 (⟨#[32]⟩ : ByteArray)).bind fun t107 => ((slices_DeleteFunc_string_string_15.f t107).bind fun t110 => (some t110))

/-! ### laws_big -/
def laws_big.f (l0 : List Int) : Option (Bool) := some (decide ((l0.length : Int) > 1048576))

/-! ### spec_l1Byte -/
def spec_l1Byte.f (s0_0 : List Int) (s0_1 : Int) (s0_2 : Int) : Option (Int × Int × Int) := if s0_1 < (s0_0.length : Int) then (if 0 ≤ s0_1 then (some (Go.bits .and .i64 (wrap64 ((Go.bits .and .i64 (Go.bits .xor .i64 ((wrap64 ((wrap64 (s0_2 * 6364136223846793005)) + 1442695040888963407)) / 8589934592) ((wrap64 ((wrap64 (s0_2 * 6364136223846793005)) + 1442695040888963407)) / 35184372088832)) 255) + (wrap64 (rd s0_0 s0_1)))) 255, wrap64 (s0_1 + 1), wrap64 ((wrap64 (s0_2 * 6364136223846793005)) + 1442695040888963407))) else (none)) else (some (Go.bits .and .i64 (Go.bits .xor .i64 ((wrap64 ((wrap64 (s0_2 * 6364136223846793005)) + 1442695040888963407)) / 8589934592) ((wrap64 ((wrap64 (s0_2 * 6364136223846793005)) + 1442695040888963407)) / 35184372088832)) 255, s0_1, wrap64 ((wrap64 (s0_2 * 6364136223846793005)) + 1442695040888963407)))

/-! ### spec_l1Below -/
def spec_l1Below.f (s0_0 : List Int) (s0_1 : Int) (s0_2 : Int) (a1 : Int) : Option (Int × Int × Int) := if a1 ≤ 0 then (some (0, s0_1, s0_2)) else (if a1 ≤ 256 then ((spec_l1Byte.f s0_0 s0_1 s0_2).bind fun bt114 => (if a1 = 0 then (none) else (some (Int.tmod bt114.1 a1, bt114.2.1, bt114.2.2)))) else ((spec_l1Byte.f s0_0 s0_1 s0_2).bind fun bt117 => ((spec_l1Byte.f s0_0 bt117.2.1 bt117.2.2).bind fun bt120 => ((spec_l1Byte.f s0_0 bt120.2.1 bt120.2.2).bind fun bt123 => ((spec_l1Byte.f s0_0 bt123.2.1 bt123.2.2).bind fun bt126 => (if a1 = 0 then (none) else (some (Int.tmod (wrap64 ((wrap64 ((wrap64 ((wrap64 (bt117.1 * 16777216)) + (wrap64 (bt120.1 * 65536)))) + (wrap64 (bt123.1 * 256)))) + bt126.1)) a1, bt126.2.1, bt126.2.2))))))))

/-! ### spec_l1Pick -/
def spec_l1Pick.f (s0_0 : List Int) (s0_1 : Int) (s0_2 : Int) (l1 : List ByteArray) : Option (ByteArray × Int × Int) := (spec_l1Below.f s0_0 s0_1 s0_2 (l1.length : Int)).bind fun bt129 => (if 0 ≤ bt129.1 then (if bt129.1 < (l1.length : Int) then (some (rdOf ByteArray.empty l1 bt129.1, bt129.2.1, bt129.2.2)) else (none)) else (none))

/-! ### spec_l11DrawLine -/
def spec_l11DrawLine.l0 : Nat → ByteArray → Int → List Int → Int → Int → Option (ByteArray × Int × Int)
  | 0, _, _, _, _, _ => none
  | k + 1, x3, x4, x1000, x1001, x1002 => (spec_l1Below.f x1000 x1001 x1002 5).bind fun bt133 => (if x4 < bt133.1 then ((spec_l1Pick.f x1000 bt133.2.1 bt133.2.2 (([(⟨#[97]⟩ : ByteArray), (⟨#[120]⟩ : ByteArray), (⟨#[49, 48]⟩ : ByteArray), (⟨#[55, 46, 53]⟩ : ByteArray), (⟨#[97, 98, 99]⟩ : ByteArray), (⟨#[98, 98, 99]⟩ : ByteArray), (⟨#[45, 51]⟩ : ByteArray), (⟨#[52]⟩ : ByteArray), (⟨#[120, 121, 122]⟩ : ByteArray)] : List ByteArray))).bind fun bt139 => (if x3.size + bt139.1.size ≤ 9223372036854775807 then ((spec_l1Pick.f x1000 bt139.2.1 bt139.2.2 (([(⟨#[32]⟩ : ByteArray), (⟨#[32]⟩ : ByteArray), (⟨#[32, 32]⟩ : ByteArray)] : List ByteArray))).bind fun bt145 => (if (x3 ++ bt139.1).size + bt145.1.size ≤ 9223372036854775807 then (spec_l11DrawLine.l0 k ((x3 ++ bt139.1) ++ bt145.1) (wrap64 (x4 + 1)) x1000 bt145.2.1 bt145.2.2) else (none))) else (none))) else (some (x3, bt133.2.1, bt133.2.2)))
def spec_l11DrawLine.f (k : Nat) (s0_0 : List Int) (s0_1 : Int) (s0_2 : Int) : Option (ByteArray × Int × Int) := spec_l11DrawLine.l0 k (⟨#[]⟩ : ByteArray) 0 s0_0 s0_1 s0_2
theorem spec_l11DrawLine.mono_l : ∀ k, (∀ y0 y1 y2 y3 y4, LeO (spec_l11DrawLine.l0 k y0 y1 y2 y3 y4) (spec_l11DrawLine.l0 (k + 1) y0 y1 y2 y3 y4))
  | 0 => fun _ _ _ _ _ r h => by simp [spec_l11DrawLine.l0] at h
  | k + 1 => by
    have ih0 := spec_l11DrawLine.mono_l k
    · intro y0 y1 y2 y3 y4
      unfold spec_l11DrawLine.l0
      repeat' first
      | (with_reducible exact ih0 _ _ _ _ _)
      | (with_reducible exact LeO.refl _)
      | (with_reducible exact LeO.none _)
      | (with_reducible refine LeO.ite ?_ ?_)
      | (with_reducible refine LeO.bind ?_ (fun _ => ?_))
      | exact ih0 _ _ _ _ _
      | exact LeO.none _
      | refine LeO.ite ?_ ?_
      | refine LeO.bind ?_ (fun _ => ?_)
theorem spec_l11DrawLine.mono : ∀ a0 a1 a2 k, LeO (spec_l11DrawLine.f k a0 a1 a2) (spec_l11DrawLine.f (k + 1) a0 a1 a2) := by
  intro a0 a1 a2 k
  have ih0 := spec_l11DrawLine.mono_l k
  unfold spec_l11DrawLine.f
  repeat' first
      | (with_reducible exact ih0 _ _ _ _ _)
      | (with_reducible exact LeO.refl _)
      | (with_reducible exact LeO.none _)
      | (with_reducible refine LeO.ite ?_ ?_)
      | (with_reducible refine LeO.bind ?_ (fun _ => ?_))
      | exact ih0 _ _ _ _ _
      | exact LeO.none _
      | refine LeO.ite ?_ ?_
      | refine LeO.bind ?_ (fun _ => ?_)
noncomputable def spec_l11DrawLine.l0v (x3 : ByteArray) (x4 : Int) (x1000 : List Int) (x1001 : Int) (x1002 : Int) : Option (ByteArray × Int × Int) := limOf (fun k => spec_l11DrawLine.l0 k x3 x4 x1000 x1001 x1002)
theorem spec_l11DrawLine.l0_lim (x3 : ByteArray) (x4 : Int) (x1000 : List Int) (x1001 : Int) (x1002 : Int) : Lim (fun k => spec_l11DrawLine.l0 k x3 x4 x1000 x1001 x1002) (spec_l11DrawLine.l0v x3 x4 x1000 x1001 x1002) := Lim.of (fun k => spec_l11DrawLine.mono_l k x3 x4 x1000 x1001 x1002)
noncomputable def spec_l11DrawLine.fv (s0_0 : List Int) (s0_1 : Int) (s0_2 : Int) : Option (ByteArray × Int × Int) := limOf (fun k => spec_l11DrawLine.f k s0_0 s0_1 s0_2)
theorem spec_l11DrawLine.f_lim (s0_0 : List Int) (s0_1 : Int) (s0_2 : Int) : Lim (fun k => spec_l11DrawLine.f k s0_0 s0_1 s0_2) (spec_l11DrawLine.fv s0_0 s0_1 s0_2) := Lim.of (fun k => spec_l11DrawLine.mono s0_0 s0_1 s0_2 k)
set_option maxHeartbeats 4000000 in
theorem spec_l11DrawLine.l0v_eq (x3 : ByteArray) (x4 : Int) (x1000 : List Int) (x1001 : Int) (x1002 : Int) : spec_l11DrawLine.l0v x3 x4 x1000 x1001 x1002 = ((spec_l1Below.f x1000 x1001 x1002 5).bind fun bt133 => (if x4 < bt133.1 then ((spec_l1Pick.f x1000 bt133.2.1 bt133.2.2 (([(⟨#[97]⟩ : ByteArray), (⟨#[120]⟩ : ByteArray), (⟨#[49, 48]⟩ : ByteArray), (⟨#[55, 46, 53]⟩ : ByteArray), (⟨#[97, 98, 99]⟩ : ByteArray), (⟨#[98, 98, 99]⟩ : ByteArray), (⟨#[45, 51]⟩ : ByteArray), (⟨#[52]⟩ : ByteArray), (⟨#[120, 121, 122]⟩ : ByteArray)] : List ByteArray))).bind fun bt139 => (if x3.size + bt139.1.size ≤ 9223372036854775807 then ((spec_l1Pick.f x1000 bt139.2.1 bt139.2.2 (([(⟨#[32]⟩ : ByteArray), (⟨#[32]⟩ : ByteArray), (⟨#[32, 32]⟩ : ByteArray)] : List ByteArray))).bind fun bt145 => (if (x3 ++ bt139.1).size + bt145.1.size ≤ 9223372036854775807 then (spec_l11DrawLine.l0v ((x3 ++ bt139.1) ++ bt145.1) (wrap64 (x4 + 1)) x1000 bt145.2.1 bt145.2.2) else (none))) else (none))) else (some (x3, bt133.2.1, bt133.2.2)))) := by
  refine Lim.succ (spec_l11DrawLine.l0_lim x3 x4 x1000 x1001 x1002) ?_
  simp only [spec_l11DrawLine.l0]
  repeat' first
    | (with_reducible apply spec_l11DrawLine.l0_lim)
    | (with_reducible exact Lim.const _)
    | (with_reducible refine Lim.ite ?_ ?_)
    | (with_reducible refine Lim.bind ?_ (fun _ => ?_))
    | apply spec_l11DrawLine.l0_lim
    | exact Lim.const _
    | refine Lim.ite ?_ ?_
    | refine Lim.bind ?_ (fun _ => ?_)
set_option maxHeartbeats 4000000 in
theorem spec_l11DrawLine.fv_eq (s0_0 : List Int) (s0_1 : Int) (s0_2 : Int) : spec_l11DrawLine.fv s0_0 s0_1 s0_2 = (spec_l11DrawLine.l0v (⟨#[]⟩ : ByteArray) 0 s0_0 s0_1 s0_2) := by
  refine Lim.eq (spec_l11DrawLine.f_lim s0_0 s0_1 s0_2) ?_
  simp only [spec_l11DrawLine.f]
  repeat' first
    | (with_reducible apply spec_l11DrawLine.l0_lim)
    | (with_reducible exact Lim.const _)
    | (with_reducible refine Lim.ite ?_ ?_)
    | (with_reducible refine Lim.bind ?_ (fun _ => ?_))
    | apply spec_l11DrawLine.l0_lim
    | exact Lim.const _
    | refine Lim.ite ?_ ?_
    | refine Lim.bind ?_ (fun _ => ?_)

/-! ### spec_l1New -/
def spec_l1New.l0 : Nat → List Int → Int → Int → Option (List Int × Int × Int)
  | 0, _, _, _ => none
  | k + 1, x0, x3, x4 => if x4 < (x0.length : Int) then (if x4 < 4000 then (if 0 ≤ x4 then (spec_l1New.l0 k x0 (Go.bits .and .i64 (wrap64 ((wrap64 ((wrap64 (x3 * 131)) + (wrap64 (rd x0 x4)))) + 7)) 1073741823) (wrap64 (x4 + 1))) else (none)) else (some (x0, 0, x3))) else (some (x0, 0, x3))
def spec_l1New.f (k : Nat) (l0 : List Int) : Option (List Int × Int × Int) := spec_l1New.l0 k l0 (wrap64 (20700 + (l0.length : Int))) 0
theorem spec_l1New.mono_l : ∀ k, (∀ y0 y1 y2, LeO (spec_l1New.l0 k y0 y1 y2) (spec_l1New.l0 (k + 1) y0 y1 y2))
  | 0 => fun _ _ _ r h => by simp [spec_l1New.l0] at h
  | k + 1 => by
    have ih0 := spec_l1New.mono_l k
    · intro y0 y1 y2
      unfold spec_l1New.l0
      repeat' first
      | (with_reducible exact ih0 _ _ _)
      | (with_reducible exact LeO.refl _)
      | (with_reducible exact LeO.none _)
      | (with_reducible refine LeO.ite ?_ ?_)
      | (with_reducible refine LeO.bind ?_ (fun _ => ?_))
      | exact ih0 _ _ _
      | exact LeO.none _
      | refine LeO.ite ?_ ?_
      | refine LeO.bind ?_ (fun _ => ?_)
theorem spec_l1New.mono : ∀ a0 k, LeO (spec_l1New.f k a0) (spec_l1New.f (k + 1) a0) := by
  intro a0 k
  have ih0 := spec_l1New.mono_l k
  unfold spec_l1New.f
  repeat' first
      | (with_reducible exact ih0 _ _ _)
      | (with_reducible exact LeO.refl _)
      | (with_reducible exact LeO.none _)
      | (with_reducible refine LeO.ite ?_ ?_)
      | (with_reducible refine LeO.bind ?_ (fun _ => ?_))
      | exact ih0 _ _ _
      | exact LeO.none _
      | refine LeO.ite ?_ ?_
      | refine LeO.bind ?_ (fun _ => ?_)
noncomputable def spec_l1New.l0v (x0 : List Int) (x3 : Int) (x4 : Int) : Option (List Int × Int × Int) := limOf (fun k => spec_l1New.l0 k x0 x3 x4)
theorem spec_l1New.l0_lim (x0 : List Int) (x3 : Int) (x4 : Int) : Lim (fun k => spec_l1New.l0 k x0 x3 x4) (spec_l1New.l0v x0 x3 x4) := Lim.of (fun k => spec_l1New.mono_l k x0 x3 x4)
noncomputable def spec_l1New.fv (l0 : List Int) : Option (List Int × Int × Int) := limOf (fun k => spec_l1New.f k l0)
theorem spec_l1New.f_lim (l0 : List Int) : Lim (fun k => spec_l1New.f k l0) (spec_l1New.fv l0) := Lim.of (fun k => spec_l1New.mono l0 k)
set_option maxHeartbeats 4000000 in
theorem spec_l1New.l0v_eq (x0 : List Int) (x3 : Int) (x4 : Int) : spec_l1New.l0v x0 x3 x4 = (if x4 < (x0.length : Int) then (if x4 < 4000 then (if 0 ≤ x4 then (spec_l1New.l0v x0 (Go.bits .and .i64 (wrap64 ((wrap64 ((wrap64 (x3 * 131)) + (wrap64 (rd x0 x4)))) + 7)) 1073741823) (wrap64 (x4 + 1))) else (none)) else (some (x0, 0, x3))) else (some (x0, 0, x3))) := by
  refine Lim.succ (spec_l1New.l0_lim x0 x3 x4) ?_
  simp only [spec_l1New.l0]
  repeat' first
    | (with_reducible apply spec_l1New.l0_lim)
    | (with_reducible exact Lim.const _)
    | (with_reducible refine Lim.ite ?_ ?_)
    | (with_reducible refine Lim.bind ?_ (fun _ => ?_))
    | apply spec_l1New.l0_lim
    | exact Lim.const _
    | refine Lim.ite ?_ ?_
    | refine Lim.bind ?_ (fun _ => ?_)
set_option maxHeartbeats 4000000 in
theorem spec_l1New.fv_eq (l0 : List Int) : spec_l1New.fv l0 = (spec_l1New.l0v l0 (wrap64 (20700 + (l0.length : Int))) 0) := by
  refine Lim.eq (spec_l1New.f_lim l0) ?_
  simp only [spec_l1New.f]
  repeat' first
    | (with_reducible apply spec_l1New.l0_lim)
    | (with_reducible exact Lim.const _)
    | (with_reducible refine Lim.ite ?_ ?_)
    | (with_reducible refine Lim.bind ?_ (fun _ => ?_))
    | apply spec_l1New.l0_lim
    | exact Lim.const _
    | refine Lim.ite ?_ ?_
    | refine Lim.bind ?_ (fun _ => ?_)

/-! ### spec_DrawFields -/
def spec_DrawFields.f (k : Nat) (l0 : List Int) : Option (ByteArray) := (spec_l1New.f k l0).bind fun bt151 => ((spec_l11DrawLine.f k bt151.1 bt151.2.1 bt151.2.2).bind fun bt155 => (some bt155.1))
theorem spec_DrawFields.mono : ∀ a0 k, LeO (spec_DrawFields.f k a0) (spec_DrawFields.f (k + 1) a0) := by
  intro a0 k
  unfold spec_DrawFields.f
  repeat' first
      | (with_reducible exact spec_l11DrawLine.mono _ _ _ _)
      | (with_reducible exact spec_l1New.mono _ _)
      | (with_reducible exact LeO.refl _)
      | (with_reducible exact LeO.none _)
      | (with_reducible refine LeO.ite ?_ ?_)
      | (with_reducible refine LeO.bind ?_ (fun _ => ?_))
      | exact spec_l11DrawLine.mono _ _ _ _
      | exact spec_l1New.mono _ _
      | exact LeO.none _
      | refine LeO.ite ?_ ?_
      | refine LeO.bind ?_ (fun _ => ?_)
noncomputable def spec_DrawFields.fv (l0 : List Int) : Option (ByteArray) := limOf (fun k => spec_DrawFields.f k l0)
theorem spec_DrawFields.f_lim (l0 : List Int) : Lim (fun k => spec_DrawFields.f k l0) (spec_DrawFields.fv l0) := Lim.of (fun k => spec_DrawFields.mono l0 k)
set_option maxHeartbeats 4000000 in
theorem spec_DrawFields.fv_eq (l0 : List Int) : spec_DrawFields.fv l0 = ((spec_l1New.fv l0).bind fun bt151 => ((spec_l11DrawLine.fv bt151.1 bt151.2.1 bt151.2.2).bind fun bt155 => (some bt155.1))) := by
  refine Lim.eq (spec_DrawFields.f_lim l0) ?_
  simp only [spec_DrawFields.f]
  repeat' first
    | (with_reducible apply spec_l11DrawLine.f_lim)
    | (with_reducible apply spec_l1New.f_lim)
    | (with_reducible exact Lim.const _)
    | (with_reducible refine Lim.ite ?_ ?_)
    | (with_reducible refine Lim.bind ?_ (fun _ => ?_))
    | apply spec_l11DrawLine.f_lim
    | apply spec_l1New.f_lim
    | exact Lim.const _
    | refine Lim.ite ?_ ?_
    | refine Lim.bind ?_ (fun _ => ?_)

/-! ### laws_sameTexts -/
def laws_sameTexts.l0 : Nat → List ByteArray → List ByteArray → Int → Option (Bool)
  | 0, _, _, _ => none
  | k + 1, x0, x1, x5 => if x5 < (x0.length : Int) then (if 0 ≤ x5 then (if x5 < (x1.length : Int) then (if (rdOf ByteArray.empty x0 x5).toList = (rdOf ByteArray.empty x1 x5).toList then (laws_sameTexts.l0 k x0 x1 (wrap64 (x5 + 1))) else (some false)) else (none)) else (none)) else (some true)
def laws_sameTexts.f (k : Nat) (l0 : List ByteArray) (l1 : List ByteArray) : Option (Bool) := if (l0.length : Int) = (l1.length : Int) then (laws_sameTexts.l0 k l0 l1 0) else (some false)
theorem laws_sameTexts.mono_l : ∀ k, (∀ y0 y1 y2, LeO (laws_sameTexts.l0 k y0 y1 y2) (laws_sameTexts.l0 (k + 1) y0 y1 y2))
  | 0 => fun _ _ _ r h => by simp [laws_sameTexts.l0] at h
  | k + 1 => by
    have ih0 := laws_sameTexts.mono_l k
    · intro y0 y1 y2
      unfold laws_sameTexts.l0
      repeat' first
      | (with_reducible exact ih0 _ _ _)
      | (with_reducible exact LeO.refl _)
      | (with_reducible exact LeO.none _)
      | (with_reducible refine LeO.ite ?_ ?_)
      | (with_reducible refine LeO.bind ?_ (fun _ => ?_))
      | exact ih0 _ _ _
      | exact LeO.none _
      | refine LeO.ite ?_ ?_
      | refine LeO.bind ?_ (fun _ => ?_)
theorem laws_sameTexts.mono : ∀ a0 a1 k, LeO (laws_sameTexts.f k a0 a1) (laws_sameTexts.f (k + 1) a0 a1) := by
  intro a0 a1 k
  have ih0 := laws_sameTexts.mono_l k
  unfold laws_sameTexts.f
  repeat' first
      | (with_reducible exact ih0 _ _ _)
      | (with_reducible exact LeO.refl _)
      | (with_reducible exact LeO.none _)
      | (with_reducible refine LeO.ite ?_ ?_)
      | (with_reducible refine LeO.bind ?_ (fun _ => ?_))
      | exact ih0 _ _ _
      | exact LeO.none _
      | refine LeO.ite ?_ ?_
      | refine LeO.bind ?_ (fun _ => ?_)
noncomputable def laws_sameTexts.l0v (x0 : List ByteArray) (x1 : List ByteArray) (x5 : Int) : Option (Bool) := limOf (fun k => laws_sameTexts.l0 k x0 x1 x5)
theorem laws_sameTexts.l0_lim (x0 : List ByteArray) (x1 : List ByteArray) (x5 : Int) : Lim (fun k => laws_sameTexts.l0 k x0 x1 x5) (laws_sameTexts.l0v x0 x1 x5) := Lim.of (fun k => laws_sameTexts.mono_l k x0 x1 x5)
noncomputable def laws_sameTexts.fv (l0 : List ByteArray) (l1 : List ByteArray) : Option (Bool) := limOf (fun k => laws_sameTexts.f k l0 l1)
theorem laws_sameTexts.f_lim (l0 : List ByteArray) (l1 : List ByteArray) : Lim (fun k => laws_sameTexts.f k l0 l1) (laws_sameTexts.fv l0 l1) := Lim.of (fun k => laws_sameTexts.mono l0 l1 k)
set_option maxHeartbeats 4000000 in
theorem laws_sameTexts.l0v_eq (x0 : List ByteArray) (x1 : List ByteArray) (x5 : Int) : laws_sameTexts.l0v x0 x1 x5 = (if x5 < (x0.length : Int) then (if 0 ≤ x5 then (if x5 < (x1.length : Int) then (if (rdOf ByteArray.empty x0 x5).toList = (rdOf ByteArray.empty x1 x5).toList then (laws_sameTexts.l0v x0 x1 (wrap64 (x5 + 1))) else (some false)) else (none)) else (none)) else (some true)) := by
  refine Lim.succ (laws_sameTexts.l0_lim x0 x1 x5) ?_
  simp only [laws_sameTexts.l0]
  repeat' first
    | (with_reducible apply laws_sameTexts.l0_lim)
    | (with_reducible exact Lim.const _)
    | (with_reducible refine Lim.ite ?_ ?_)
    | (with_reducible refine Lim.bind ?_ (fun _ => ?_))
    | apply laws_sameTexts.l0_lim
    | exact Lim.const _
    | refine Lim.ite ?_ ?_
    | refine Lim.bind ?_ (fun _ => ?_)
set_option maxHeartbeats 4000000 in
theorem laws_sameTexts.fv_eq (l0 : List ByteArray) (l1 : List ByteArray) : laws_sameTexts.fv l0 l1 = (if (l0.length : Int) = (l1.length : Int) then (laws_sameTexts.l0v l0 l1 0) else (some false)) := by
  refine Lim.eq (laws_sameTexts.f_lim l0 l1) ?_
  simp only [laws_sameTexts.f]
  repeat' first
    | (with_reducible apply laws_sameTexts.l0_lim)
    | (with_reducible exact Lim.const _)
    | (with_reducible refine Lim.ite ?_ ?_)
    | (with_reducible refine Lim.bind ?_ (fun _ => ?_))
    | apply laws_sameTexts.l0_lim
    | exact Lim.const _
    | refine Lim.ite ?_ ?_
    | refine Lim.bind ?_ (fun _ => ?_)

/-! ### laws_FnFieldsJoin -/
def laws_FnFieldsJoin.l0 : Nat → List ByteArray → ByteArray → Int → Option (Bool)
  | 0, _, _, _ => none
  | k + 1, x4, x5, x6 => if x6 < (x4.length : Int) then (if 0 ≤ x6 then (if (rdOf ByteArray.empty x4 x6).toList = ([] : List UInt8) then (some false) else (if x6 > 0 then (if x5.size + 1 ≤ 9223372036854775807 then (if (x5 ++ (⟨#[32]⟩ : ByteArray)).size + (rdOf ByteArray.empty x4 x6).size ≤ 9223372036854775807 then (laws_FnFieldsJoin.l0 k x4 ((x5 ++ (⟨#[32]⟩ : ByteArray)) ++ (rdOf ByteArray.empty x4 x6)) (wrap64 (x6 + 1))) else (none)) else (none)) else (if x5.size + (rdOf ByteArray.empty x4 x6).size ≤ 9223372036854775807 then (laws_FnFieldsJoin.l0 k x4 (x5 ++ (rdOf ByteArray.empty x4 x6)) (wrap64 (x6 + 1))) else (none)))) else (none)) else ((impl_Fields.f x5).bind fun t169 => ((laws_sameTexts.f k t169 x4).bind fun t172 => (some t172)))
def laws_FnFieldsJoin.f (k : Nat) (l0 : List Int) : Option (Bool) := (laws_big.f l0).bind fun t160 => (if t160 = true then (some true) else ((spec_DrawFields.f k l0).bind fun t161 => ((impl_Fields.f t161).bind fun t162 => ((spec_Fields.f k t161).bind fun t165 => ((laws_sameTexts.f k t162 t165).bind fun t168 => (if t168 = true then (laws_FnFieldsJoin.l0 k t162 (⟨#[]⟩ : ByteArray) 0) else (some false)))))))
theorem laws_FnFieldsJoin.mono_l : ∀ k, (∀ y0 y1 y2, LeO (laws_FnFieldsJoin.l0 k y0 y1 y2) (laws_FnFieldsJoin.l0 (k + 1) y0 y1 y2))
  | 0 => fun _ _ _ r h => by simp [laws_FnFieldsJoin.l0] at h
  | k + 1 => by
    have ih0 := laws_FnFieldsJoin.mono_l k
    · intro y0 y1 y2
      unfold laws_FnFieldsJoin.l0
      repeat' first
      | (with_reducible exact ih0 _ _ _)
      | (with_reducible exact laws_sameTexts.mono _ _ _)
      | (with_reducible exact spec_DrawFields.mono _ _)
      | (with_reducible exact spec_Fields.mono _ _)
      | (with_reducible exact LeO.refl _)
      | (with_reducible exact LeO.none _)
      | (with_reducible refine LeO.ite ?_ ?_)
      | (with_reducible refine LeO.bind ?_ (fun _ => ?_))
      | exact ih0 _ _ _
      | exact laws_sameTexts.mono _ _ _
      | exact spec_DrawFields.mono _ _
      | exact spec_Fields.mono _ _
      | exact LeO.none _
      | refine LeO.ite ?_ ?_
      | refine LeO.bind ?_ (fun _ => ?_)
theorem laws_FnFieldsJoin.mono : ∀ a0 k, LeO (laws_FnFieldsJoin.f k a0) (laws_FnFieldsJoin.f (k + 1) a0) := by
  intro a0 k
  have ih0 := laws_FnFieldsJoin.mono_l k
  unfold laws_FnFieldsJoin.f
  repeat' first
      | (with_reducible exact ih0 _ _ _)
      | (with_reducible exact laws_sameTexts.mono _ _ _)
      | (with_reducible exact spec_DrawFields.mono _ _)
      | (with_reducible exact spec_Fields.mono _ _)
      | (with_reducible exact LeO.refl _)
      | (with_reducible exact LeO.none _)
      | (with_reducible refine LeO.ite ?_ ?_)
      | (with_reducible refine LeO.bind ?_ (fun _ => ?_))
      | exact ih0 _ _ _
      | exact laws_sameTexts.mono _ _ _
      | exact spec_DrawFields.mono _ _
      | exact spec_Fields.mono _ _
      | exact LeO.none _
      | refine LeO.ite ?_ ?_
      | refine LeO.bind ?_ (fun _ => ?_)
noncomputable def laws_FnFieldsJoin.l0v (x4 : List ByteArray) (x5 : ByteArray) (x6 : Int) : Option (Bool) := limOf (fun k => laws_FnFieldsJoin.l0 k x4 x5 x6)
theorem laws_FnFieldsJoin.l0_lim (x4 : List ByteArray) (x5 : ByteArray) (x6 : Int) : Lim (fun k => laws_FnFieldsJoin.l0 k x4 x5 x6) (laws_FnFieldsJoin.l0v x4 x5 x6) := Lim.of (fun k => laws_FnFieldsJoin.mono_l k x4 x5 x6)
noncomputable def laws_FnFieldsJoin.fv (l0 : List Int) : Option (Bool) := limOf (fun k => laws_FnFieldsJoin.f k l0)
theorem laws_FnFieldsJoin.f_lim (l0 : List Int) : Lim (fun k => laws_FnFieldsJoin.f k l0) (laws_FnFieldsJoin.fv l0) := Lim.of (fun k => laws_FnFieldsJoin.mono l0 k)
set_option maxHeartbeats 4000000 in
theorem laws_FnFieldsJoin.l0v_eq (x4 : List ByteArray) (x5 : ByteArray) (x6 : Int) : laws_FnFieldsJoin.l0v x4 x5 x6 = (if x6 < (x4.length : Int) then (if 0 ≤ x6 then (if (rdOf ByteArray.empty x4 x6).toList = ([] : List UInt8) then (some false) else (if x6 > 0 then (if x5.size + 1 ≤ 9223372036854775807 then (if (x5 ++ (⟨#[32]⟩ : ByteArray)).size + (rdOf ByteArray.empty x4 x6).size ≤ 9223372036854775807 then (laws_FnFieldsJoin.l0v x4 ((x5 ++ (⟨#[32]⟩ : ByteArray)) ++ (rdOf ByteArray.empty x4 x6)) (wrap64 (x6 + 1))) else (none)) else (none)) else (if x5.size + (rdOf ByteArray.empty x4 x6).size ≤ 9223372036854775807 then (laws_FnFieldsJoin.l0v x4 (x5 ++ (rdOf ByteArray.empty x4 x6)) (wrap64 (x6 + 1))) else (none)))) else (none)) else ((impl_Fields.f x5).bind fun t169 => ((laws_sameTexts.fv t169 x4).bind fun t172 => (some t172)))) := by
  refine Lim.succ (laws_FnFieldsJoin.l0_lim x4 x5 x6) ?_
  simp only [laws_FnFieldsJoin.l0]
  repeat' first
    | (with_reducible apply laws_FnFieldsJoin.l0_lim)
    | (with_reducible apply laws_sameTexts.f_lim)
    | (with_reducible exact Lim.const _)
    | (with_reducible refine Lim.ite ?_ ?_)
    | (with_reducible refine Lim.bind ?_ (fun _ => ?_))
    | apply laws_FnFieldsJoin.l0_lim
    | apply laws_sameTexts.f_lim
    | exact Lim.const _
    | refine Lim.ite ?_ ?_
    | refine Lim.bind ?_ (fun _ => ?_)
set_option maxHeartbeats 4000000 in
theorem laws_FnFieldsJoin.fv_eq (l0 : List Int) : laws_FnFieldsJoin.fv l0 = ((laws_big.f l0).bind fun t160 => (if t160 = true then (some true) else ((spec_DrawFields.fv l0).bind fun t161 => ((impl_Fields.f t161).bind fun t162 => ((spec_Fields.fv t161).bind fun t165 => ((laws_sameTexts.fv t162 t165).bind fun t168 => (if t168 = true then (laws_FnFieldsJoin.l0v t162 (⟨#[]⟩ : ByteArray) 0) else (some false)))))))) := by
  refine Lim.eq (laws_FnFieldsJoin.f_lim l0) ?_
  simp only [laws_FnFieldsJoin.f]
  repeat' first
    | (with_reducible apply laws_FnFieldsJoin.l0_lim)
    | (with_reducible apply laws_sameTexts.f_lim)
    | (with_reducible apply spec_DrawFields.f_lim)
    | (with_reducible apply spec_Fields.f_lim)
    | (with_reducible exact Lim.const _)
    | (with_reducible refine Lim.ite ?_ ?_)
    | (with_reducible refine Lim.bind ?_ (fun _ => ?_))
    | apply laws_FnFieldsJoin.l0_lim
    | apply laws_sameTexts.f_lim
    | apply spec_DrawFields.f_lim
    | apply spec_Fields.f_lim
    | exact Lim.const _
    | refine Lim.ite ?_ ?_
    | refine Lim.bind ?_ (fun _ => ?_)

end Go.Proofs.YtehefologhfdhaaDoor.QFnFieldsJoin
