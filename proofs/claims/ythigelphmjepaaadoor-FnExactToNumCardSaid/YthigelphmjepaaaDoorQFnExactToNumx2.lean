/- Written by wip/pr2, a program of this session. -/
import Derived.Test.YthigelphmjepaaaDoorQFnExactToNumx0
import Derived.Test.YthigelphmjepaaaDoorQFnExactToNumx1
import Derived.Test.YthigelphmjepaaaDoorLim
namespace Go.Proofs.YthigelphmjepaaaDoor.QFnExactToNum
open Go.RowKit Go.Proofs.YthigelphmjepaaaDoorW.PrintWords Go.Proofs.YthigelphmjepaaaDoorW.PrintLast Go.Proofs.YthigelphmjepaaaDoorW.PrintMore
attribute [local go_sem] max2_int min2_int max_two min_two max_three min_three max_four min_four   -- for this text's walks alone
set_option linter.unusedVariables false
set_option linter.unusedSimpArgs false
set_option maxHeartbeats 8000000

open Go.Proofs.YthigelphmjepaaaDoorW.Lims
/-! ### impl_DecFront -/
mutual
def impl_DecFront.j0 : Nat → ByteArray → Int → Bool → Bool → Option (Int × Int)
  | 0, _, _, _, _ => none
  | k + 1, x0, x4, x5, x33 => if x33 = true then (if 0 ≤ x4 then (if x4 < (x0.size : Int) then (impl_DecFront.j1 k x0 (wrap64 (x4 + 1)) ((bt x0 x4) == 45)) else (none)) else (none)) else (impl_DecFront.j1 k x0 x4 x5)
def impl_DecFront.j1 : Nat → ByteArray → Int → Bool → Option (Int × Int)
  | 0, _, _, _ => none
  | k + 1, x0, x4, x5 => (impl_digitsAt.f k x0 x4).bind fun t119 => (if 0 ≤ x4 then (if x4 ≤ (wrap64 (x4 + t119)) then (if (wrap64 (x4 + t119)) ≤ (x0.size : Int) then (if (wrap64 (x4 + t119)) < (x0.size : Int) then (if 0 ≤ (wrap64 (x4 + t119)) then (impl_DecFront.j2 k x0 (wrap64 (x4 + t119)) x5 (x0.extract (x4 : Int).toNat ((wrap64 (x4 + t119)) : Int).toNat) (⟨#[]⟩ : ByteArray) ((bt x0 (wrap64 (x4 + t119))) == 46)) else (none)) else (impl_DecFront.j2 k x0 (wrap64 (x4 + t119)) x5 (x0.extract (x4 : Int).toNat ((wrap64 (x4 + t119)) : Int).toNat) (⟨#[]⟩ : ByteArray) false)) else (none)) else (none)) else (none))
def impl_DecFront.j2 : Nat → ByteArray → Int → Bool → ByteArray → ByteArray → Bool → Option (Int × Int)
  | 0, _, _, _, _, _, _ => none
  | k + 1, x0, x4, x5, x7, x8, x61 => if x61 = true then ((impl_digitsAt.f k x0 (wrap64 (x4 + 1))).bind fun t120 => (if t120 > 0 then (if 0 ≤ (wrap64 (x4 + 1)) then (if (wrap64 (x4 + 1)) ≤ (wrap64 ((wrap64 (x4 + 1)) + t120)) then (if (wrap64 ((wrap64 (x4 + 1)) + t120)) ≤ (x0.size : Int) then (impl_DecFront.j3 k (wrap64 (x4 + (wrap64 (1 + t120)))) x5 x7 (x0.extract ((wrap64 (x4 + 1)) : Int).toNat ((wrap64 ((wrap64 (x4 + 1)) + t120)) : Int).toNat)) else (none)) else (none)) else (none)) else (impl_DecFront.j3 k x4 x5 x7 x8))) else (impl_DecFront.j3 k x4 x5 x7 x8)
def impl_DecFront.j3 : Nat → Int → Bool → ByteArray → ByteArray → Option (Int × Int)
  | 0, _, _, _, _ => none
  | k + 1, x4, x5, x7, x8 => if x7.toList = ([] : List UInt8) then (impl_DecFront.j4 k x4 x5 x7 x8 (x8.toList == ([] : List UInt8))) else (impl_DecFront.j4 k x4 x5 x7 x8 false)
def impl_DecFront.j4 : Nat → Int → Bool → ByteArray → ByteArray → Bool → Option (Int × Int)
  | 0, _, _, _, _, _ => none
  | k + 1, x4, x5, x7, x8, x85 => if x85 = true then (some (0, 0)) else ((impl_millionths.f x7 x8).bind fun bt121 => (if bt121.2 = true then (if x5 = true then (some (wrap64 (-bt121.1), x4)) else (some (bt121.1, x4))) else (some (0, 0))))
end
def impl_DecFront.f (k : Nat) (a0 : ByteArray) : Option (Int × Int) := (strings_TrimLeft.f a0 (⟨#[32]⟩ : ByteArray)).bind fun t118 => (if (wrap64 ((a0.size : Int) - (t118.size : Int))) < (a0.size : Int) then (if 0 ≤ (wrap64 ((a0.size : Int) - (t118.size : Int))) then (if (bt a0 (wrap64 ((a0.size : Int) - (t118.size : Int)))) = 43 then (impl_DecFront.j0 k a0 (wrap64 ((a0.size : Int) - (t118.size : Int))) false true) else (impl_DecFront.j0 k a0 (wrap64 ((a0.size : Int) - (t118.size : Int))) false ((bt a0 (wrap64 ((a0.size : Int) - (t118.size : Int)))) == 45))) else (none)) else (impl_DecFront.j0 k a0 (wrap64 ((a0.size : Int) - (t118.size : Int))) false false))
theorem impl_DecFront.mono_l : ∀ k, (∀ y0 y1 y2 y3, LeO (impl_DecFront.j0 k y0 y1 y2 y3) (impl_DecFront.j0 (k + 1) y0 y1 y2 y3)) ∧ (∀ y0 y1 y2, LeO (impl_DecFront.j1 k y0 y1 y2) (impl_DecFront.j1 (k + 1) y0 y1 y2)) ∧ (∀ y0 y1 y2 y3 y4 y5, LeO (impl_DecFront.j2 k y0 y1 y2 y3 y4 y5) (impl_DecFront.j2 (k + 1) y0 y1 y2 y3 y4 y5)) ∧ (∀ y0 y1 y2 y3, LeO (impl_DecFront.j3 k y0 y1 y2 y3) (impl_DecFront.j3 (k + 1) y0 y1 y2 y3)) ∧ (∀ y0 y1 y2 y3 y4, LeO (impl_DecFront.j4 k y0 y1 y2 y3 y4) (impl_DecFront.j4 (k + 1) y0 y1 y2 y3 y4))
  | 0 => ⟨fun _ _ _ _ r h => by simp [impl_DecFront.j0] at h, fun _ _ _ r h => by simp [impl_DecFront.j1] at h, fun _ _ _ _ _ _ r h => by simp [impl_DecFront.j2] at h, fun _ _ _ _ r h => by simp [impl_DecFront.j3] at h, fun _ _ _ _ _ r h => by simp [impl_DecFront.j4] at h⟩
  | k + 1 => by
    obtain ⟨ih0, ih1, ih2, ih3, ih4⟩ := impl_DecFront.mono_l k
    refine ⟨?_, ?_, ?_, ?_, ?_⟩
    · intro y0 y1 y2 y3
      unfold impl_DecFront.j0
      repeat' first
      | (with_reducible exact ih0 _ _ _ _)
      | (with_reducible exact ih1 _ _ _)
      | (with_reducible exact ih2 _ _ _ _ _ _)
      | (with_reducible exact ih3 _ _ _ _)
      | (with_reducible exact ih4 _ _ _ _ _)
      | (with_reducible exact impl_digitsAt.mono _ _ _)
      | (with_reducible exact LeO.refl _)
      | (with_reducible exact LeO.none _)
      | (with_reducible refine LeO.ite ?_ ?_)
      | (with_reducible refine LeO.bind ?_ (fun _ => ?_))
      | exact ih0 _ _ _ _
      | exact ih1 _ _ _
      | exact ih2 _ _ _ _ _ _
      | exact ih3 _ _ _ _
      | exact ih4 _ _ _ _ _
      | exact impl_digitsAt.mono _ _ _
      | exact LeO.none _
      | refine LeO.ite ?_ ?_
      | refine LeO.bind ?_ (fun _ => ?_)
    · intro y0 y1 y2
      unfold impl_DecFront.j1
      repeat' first
      | (with_reducible exact ih0 _ _ _ _)
      | (with_reducible exact ih1 _ _ _)
      | (with_reducible exact ih2 _ _ _ _ _ _)
      | (with_reducible exact ih3 _ _ _ _)
      | (with_reducible exact ih4 _ _ _ _ _)
      | (with_reducible exact impl_digitsAt.mono _ _ _)
      | (with_reducible exact LeO.refl _)
      | (with_reducible exact LeO.none _)
      | (with_reducible refine LeO.ite ?_ ?_)
      | (with_reducible refine LeO.bind ?_ (fun _ => ?_))
      | exact ih0 _ _ _ _
      | exact ih1 _ _ _
      | exact ih2 _ _ _ _ _ _
      | exact ih3 _ _ _ _
      | exact ih4 _ _ _ _ _
      | exact impl_digitsAt.mono _ _ _
      | exact LeO.none _
      | refine LeO.ite ?_ ?_
      | refine LeO.bind ?_ (fun _ => ?_)
    · intro y0 y1 y2 y3 y4 y5
      unfold impl_DecFront.j2
      repeat' first
      | (with_reducible exact ih0 _ _ _ _)
      | (with_reducible exact ih1 _ _ _)
      | (with_reducible exact ih2 _ _ _ _ _ _)
      | (with_reducible exact ih3 _ _ _ _)
      | (with_reducible exact ih4 _ _ _ _ _)
      | (with_reducible exact impl_digitsAt.mono _ _ _)
      | (with_reducible exact LeO.refl _)
      | (with_reducible exact LeO.none _)
      | (with_reducible refine LeO.ite ?_ ?_)
      | (with_reducible refine LeO.bind ?_ (fun _ => ?_))
      | exact ih0 _ _ _ _
      | exact ih1 _ _ _
      | exact ih2 _ _ _ _ _ _
      | exact ih3 _ _ _ _
      | exact ih4 _ _ _ _ _
      | exact impl_digitsAt.mono _ _ _
      | exact LeO.none _
      | refine LeO.ite ?_ ?_
      | refine LeO.bind ?_ (fun _ => ?_)
    · intro y0 y1 y2 y3
      unfold impl_DecFront.j3
      repeat' first
      | (with_reducible exact ih0 _ _ _ _)
      | (with_reducible exact ih1 _ _ _)
      | (with_reducible exact ih2 _ _ _ _ _ _)
      | (with_reducible exact ih3 _ _ _ _)
      | (with_reducible exact ih4 _ _ _ _ _)
      | (with_reducible exact impl_digitsAt.mono _ _ _)
      | (with_reducible exact LeO.refl _)
      | (with_reducible exact LeO.none _)
      | (with_reducible refine LeO.ite ?_ ?_)
      | (with_reducible refine LeO.bind ?_ (fun _ => ?_))
      | exact ih0 _ _ _ _
      | exact ih1 _ _ _
      | exact ih2 _ _ _ _ _ _
      | exact ih3 _ _ _ _
      | exact ih4 _ _ _ _ _
      | exact impl_digitsAt.mono _ _ _
      | exact LeO.none _
      | refine LeO.ite ?_ ?_
      | refine LeO.bind ?_ (fun _ => ?_)
    · intro y0 y1 y2 y3 y4
      unfold impl_DecFront.j4
      repeat' first
      | (with_reducible exact ih0 _ _ _ _)
      | (with_reducible exact ih1 _ _ _)
      | (with_reducible exact ih2 _ _ _ _ _ _)
      | (with_reducible exact ih3 _ _ _ _)
      | (with_reducible exact ih4 _ _ _ _ _)
      | (with_reducible exact impl_digitsAt.mono _ _ _)
      | (with_reducible exact LeO.refl _)
      | (with_reducible exact LeO.none _)
      | (with_reducible refine LeO.ite ?_ ?_)
      | (with_reducible refine LeO.bind ?_ (fun _ => ?_))
      | exact ih0 _ _ _ _
      | exact ih1 _ _ _
      | exact ih2 _ _ _ _ _ _
      | exact ih3 _ _ _ _
      | exact ih4 _ _ _ _ _
      | exact impl_digitsAt.mono _ _ _
      | exact LeO.none _
      | refine LeO.ite ?_ ?_
      | refine LeO.bind ?_ (fun _ => ?_)
theorem impl_DecFront.mono : ∀ a0 k, LeO (impl_DecFront.f k a0) (impl_DecFront.f (k + 1) a0) := by
  intro a0 k
  obtain ⟨ih0, ih1, ih2, ih3, ih4⟩ := impl_DecFront.mono_l k
  unfold impl_DecFront.f
  repeat' first
      | (with_reducible exact ih0 _ _ _ _)
      | (with_reducible exact ih1 _ _ _)
      | (with_reducible exact ih2 _ _ _ _ _ _)
      | (with_reducible exact ih3 _ _ _ _)
      | (with_reducible exact ih4 _ _ _ _ _)
      | (with_reducible exact impl_digitsAt.mono _ _ _)
      | (with_reducible exact LeO.refl _)
      | (with_reducible exact LeO.none _)
      | (with_reducible refine LeO.ite ?_ ?_)
      | (with_reducible refine LeO.bind ?_ (fun _ => ?_))
      | exact ih0 _ _ _ _
      | exact ih1 _ _ _
      | exact ih2 _ _ _ _ _ _
      | exact ih3 _ _ _ _
      | exact ih4 _ _ _ _ _
      | exact impl_digitsAt.mono _ _ _
      | exact LeO.none _
      | refine LeO.ite ?_ ?_
      | refine LeO.bind ?_ (fun _ => ?_)
noncomputable def impl_DecFront.j0v (x0 : ByteArray) (x4 : Int) (x5 : Bool) (x33 : Bool) : Option (Int × Int) := limOf (fun k => impl_DecFront.j0 k x0 x4 x5 x33)
theorem impl_DecFront.j0_lim (x0 : ByteArray) (x4 : Int) (x5 : Bool) (x33 : Bool) : Lim (fun k => impl_DecFront.j0 k x0 x4 x5 x33) (impl_DecFront.j0v x0 x4 x5 x33) := Lim.of (fun k => (impl_DecFront.mono_l k).1 x0 x4 x5 x33)
noncomputable def impl_DecFront.j1v (x0 : ByteArray) (x4 : Int) (x5 : Bool) : Option (Int × Int) := limOf (fun k => impl_DecFront.j1 k x0 x4 x5)
theorem impl_DecFront.j1_lim (x0 : ByteArray) (x4 : Int) (x5 : Bool) : Lim (fun k => impl_DecFront.j1 k x0 x4 x5) (impl_DecFront.j1v x0 x4 x5) := Lim.of (fun k => (impl_DecFront.mono_l k).2.1 x0 x4 x5)
noncomputable def impl_DecFront.j2v (x0 : ByteArray) (x4 : Int) (x5 : Bool) (x7 : ByteArray) (x8 : ByteArray) (x61 : Bool) : Option (Int × Int) := limOf (fun k => impl_DecFront.j2 k x0 x4 x5 x7 x8 x61)
theorem impl_DecFront.j2_lim (x0 : ByteArray) (x4 : Int) (x5 : Bool) (x7 : ByteArray) (x8 : ByteArray) (x61 : Bool) : Lim (fun k => impl_DecFront.j2 k x0 x4 x5 x7 x8 x61) (impl_DecFront.j2v x0 x4 x5 x7 x8 x61) := Lim.of (fun k => (impl_DecFront.mono_l k).2.2.1 x0 x4 x5 x7 x8 x61)
noncomputable def impl_DecFront.j3v (x4 : Int) (x5 : Bool) (x7 : ByteArray) (x8 : ByteArray) : Option (Int × Int) := limOf (fun k => impl_DecFront.j3 k x4 x5 x7 x8)
theorem impl_DecFront.j3_lim (x4 : Int) (x5 : Bool) (x7 : ByteArray) (x8 : ByteArray) : Lim (fun k => impl_DecFront.j3 k x4 x5 x7 x8) (impl_DecFront.j3v x4 x5 x7 x8) := Lim.of (fun k => (impl_DecFront.mono_l k).2.2.2.1 x4 x5 x7 x8)
noncomputable def impl_DecFront.j4v (x4 : Int) (x5 : Bool) (x7 : ByteArray) (x8 : ByteArray) (x85 : Bool) : Option (Int × Int) := limOf (fun k => impl_DecFront.j4 k x4 x5 x7 x8 x85)
theorem impl_DecFront.j4_lim (x4 : Int) (x5 : Bool) (x7 : ByteArray) (x8 : ByteArray) (x85 : Bool) : Lim (fun k => impl_DecFront.j4 k x4 x5 x7 x8 x85) (impl_DecFront.j4v x4 x5 x7 x8 x85) := Lim.of (fun k => (impl_DecFront.mono_l k).2.2.2.2 x4 x5 x7 x8 x85)
noncomputable def impl_DecFront.fv (a0 : ByteArray) : Option (Int × Int) := limOf (fun k => impl_DecFront.f k a0)
theorem impl_DecFront.f_lim (a0 : ByteArray) : Lim (fun k => impl_DecFront.f k a0) (impl_DecFront.fv a0) := Lim.of (fun k => impl_DecFront.mono a0 k)
set_option maxHeartbeats 4000000 in
theorem impl_DecFront.j0v_eq (x0 : ByteArray) (x4 : Int) (x5 : Bool) (x33 : Bool) : impl_DecFront.j0v x0 x4 x5 x33 = (if x33 = true then (if 0 ≤ x4 then (if x4 < (x0.size : Int) then (impl_DecFront.j1v x0 (wrap64 (x4 + 1)) ((bt x0 x4) == 45)) else (none)) else (none)) else (impl_DecFront.j1v x0 x4 x5)) := by
  refine Lim.succ (impl_DecFront.j0_lim x0 x4 x5 x33) ?_
  simp only [impl_DecFront.j0]
  repeat' first
    | (with_reducible apply impl_DecFront.j1_lim)
    | (with_reducible exact Lim.const _)
    | (with_reducible refine Lim.ite ?_ ?_)
    | (with_reducible refine Lim.bind ?_ (fun _ => ?_))
    | apply impl_DecFront.j1_lim
    | exact Lim.const _
    | refine Lim.ite ?_ ?_
    | refine Lim.bind ?_ (fun _ => ?_)
set_option maxHeartbeats 4000000 in
theorem impl_DecFront.j1v_eq (x0 : ByteArray) (x4 : Int) (x5 : Bool) : impl_DecFront.j1v x0 x4 x5 = ((impl_digitsAt.fv x0 x4).bind fun t119 => (if 0 ≤ x4 then (if x4 ≤ (wrap64 (x4 + t119)) then (if (wrap64 (x4 + t119)) ≤ (x0.size : Int) then (if (wrap64 (x4 + t119)) < (x0.size : Int) then (if 0 ≤ (wrap64 (x4 + t119)) then (impl_DecFront.j2v x0 (wrap64 (x4 + t119)) x5 (x0.extract (x4 : Int).toNat ((wrap64 (x4 + t119)) : Int).toNat) (⟨#[]⟩ : ByteArray) ((bt x0 (wrap64 (x4 + t119))) == 46)) else (none)) else (impl_DecFront.j2v x0 (wrap64 (x4 + t119)) x5 (x0.extract (x4 : Int).toNat ((wrap64 (x4 + t119)) : Int).toNat) (⟨#[]⟩ : ByteArray) false)) else (none)) else (none)) else (none))) := by
  refine Lim.succ (impl_DecFront.j1_lim x0 x4 x5) ?_
  simp only [impl_DecFront.j1]
  repeat' first
    | (with_reducible apply impl_DecFront.j2_lim)
    | (with_reducible apply impl_digitsAt.f_lim)
    | (with_reducible exact Lim.const _)
    | (with_reducible refine Lim.ite ?_ ?_)
    | (with_reducible refine Lim.bind ?_ (fun _ => ?_))
    | apply impl_DecFront.j2_lim
    | apply impl_digitsAt.f_lim
    | exact Lim.const _
    | refine Lim.ite ?_ ?_
    | refine Lim.bind ?_ (fun _ => ?_)
set_option maxHeartbeats 4000000 in
theorem impl_DecFront.j2v_eq (x0 : ByteArray) (x4 : Int) (x5 : Bool) (x7 : ByteArray) (x8 : ByteArray) (x61 : Bool) : impl_DecFront.j2v x0 x4 x5 x7 x8 x61 = (if x61 = true then ((impl_digitsAt.fv x0 (wrap64 (x4 + 1))).bind fun t120 => (if t120 > 0 then (if 0 ≤ (wrap64 (x4 + 1)) then (if (wrap64 (x4 + 1)) ≤ (wrap64 ((wrap64 (x4 + 1)) + t120)) then (if (wrap64 ((wrap64 (x4 + 1)) + t120)) ≤ (x0.size : Int) then (impl_DecFront.j3v (wrap64 (x4 + (wrap64 (1 + t120)))) x5 x7 (x0.extract ((wrap64 (x4 + 1)) : Int).toNat ((wrap64 ((wrap64 (x4 + 1)) + t120)) : Int).toNat)) else (none)) else (none)) else (none)) else (impl_DecFront.j3v x4 x5 x7 x8))) else (impl_DecFront.j3v x4 x5 x7 x8)) := by
  refine Lim.succ (impl_DecFront.j2_lim x0 x4 x5 x7 x8 x61) ?_
  simp only [impl_DecFront.j2]
  repeat' first
    | (with_reducible apply impl_DecFront.j3_lim)
    | (with_reducible apply impl_digitsAt.f_lim)
    | (with_reducible exact Lim.const _)
    | (with_reducible refine Lim.ite ?_ ?_)
    | (with_reducible refine Lim.bind ?_ (fun _ => ?_))
    | apply impl_DecFront.j3_lim
    | apply impl_digitsAt.f_lim
    | exact Lim.const _
    | refine Lim.ite ?_ ?_
    | refine Lim.bind ?_ (fun _ => ?_)
set_option maxHeartbeats 4000000 in
theorem impl_DecFront.j3v_eq (x4 : Int) (x5 : Bool) (x7 : ByteArray) (x8 : ByteArray) : impl_DecFront.j3v x4 x5 x7 x8 = (if x7.toList = ([] : List UInt8) then (impl_DecFront.j4v x4 x5 x7 x8 (x8.toList == ([] : List UInt8))) else (impl_DecFront.j4v x4 x5 x7 x8 false)) := by
  refine Lim.succ (impl_DecFront.j3_lim x4 x5 x7 x8) ?_
  simp only [impl_DecFront.j3]
  repeat' first
    | (with_reducible apply impl_DecFront.j4_lim)
    | (with_reducible exact Lim.const _)
    | (with_reducible refine Lim.ite ?_ ?_)
    | (with_reducible refine Lim.bind ?_ (fun _ => ?_))
    | apply impl_DecFront.j4_lim
    | exact Lim.const _
    | refine Lim.ite ?_ ?_
    | refine Lim.bind ?_ (fun _ => ?_)
set_option maxHeartbeats 4000000 in
theorem impl_DecFront.j4v_eq (x4 : Int) (x5 : Bool) (x7 : ByteArray) (x8 : ByteArray) (x85 : Bool) : impl_DecFront.j4v x4 x5 x7 x8 x85 = (if x85 = true then (some (0, 0)) else ((impl_millionths.f x7 x8).bind fun bt121 => (if bt121.2 = true then (if x5 = true then (some (wrap64 (-bt121.1), x4)) else (some (bt121.1, x4))) else (some (0, 0))))) := by
  refine Lim.succ (impl_DecFront.j4_lim x4 x5 x7 x8 x85) ?_
  simp only [impl_DecFront.j4]
  repeat' first
    | (with_reducible exact Lim.const _)
    | (with_reducible refine Lim.ite ?_ ?_)
    | (with_reducible refine Lim.bind ?_ (fun _ => ?_))
    | exact Lim.const _
    | refine Lim.ite ?_ ?_
    | refine Lim.bind ?_ (fun _ => ?_)
set_option maxHeartbeats 4000000 in
theorem impl_DecFront.fv_eq (a0 : ByteArray) : impl_DecFront.fv a0 = ((strings_TrimLeft.f a0 (⟨#[32]⟩ : ByteArray)).bind fun t118 => (if (wrap64 ((a0.size : Int) - (t118.size : Int))) < (a0.size : Int) then (if 0 ≤ (wrap64 ((a0.size : Int) - (t118.size : Int))) then (if (bt a0 (wrap64 ((a0.size : Int) - (t118.size : Int)))) = 43 then (impl_DecFront.j0v a0 (wrap64 ((a0.size : Int) - (t118.size : Int))) false true) else (impl_DecFront.j0v a0 (wrap64 ((a0.size : Int) - (t118.size : Int))) false ((bt a0 (wrap64 ((a0.size : Int) - (t118.size : Int)))) == 45))) else (none)) else (impl_DecFront.j0v a0 (wrap64 ((a0.size : Int) - (t118.size : Int))) false false))) := by
  refine Lim.eq (impl_DecFront.f_lim a0) ?_
  simp only [impl_DecFront.f]
  repeat' first
    | (with_reducible apply impl_DecFront.j0_lim)
    | (with_reducible exact Lim.const _)
    | (with_reducible refine Lim.ite ?_ ?_)
    | (with_reducible refine Lim.bind ?_ (fun _ => ?_))
    | apply impl_DecFront.j0_lim
    | exact Lim.const _
    | refine Lim.ite ?_ ?_
    | refine Lim.bind ?_ (fun _ => ?_)

/-! ### impl_ToNum -/
def impl_ToNum.j0 : Nat → Int → Bool → Int → Int → ByteArray → Option (Int)
  | 0, _, _, _, _, _ => none
  | k + 1, x6, x7, x124000, x124001, x124002 => if x7 = true then (some x124001) else (if x6 = 2 then ((impl_DecFront.f k x124002).bind fun bt124 => (some bt124.1)) else (some 0))
def impl_ToNum.f (k : Nat) (a0_0 : Int) (a0_1 : Int) (a0_2 : ByteArray) : Option (Int) := if a0_0 = 1 then (impl_ToNum.j0 k a0_0 (a0_0 == 1) a0_0 a0_1 a0_2) else (impl_ToNum.j0 k a0_0 (a0_0 == 3) a0_0 a0_1 a0_2)
theorem impl_ToNum.mono_l : ∀ k, (∀ y0 y1 y2 y3 y4, LeO (impl_ToNum.j0 k y0 y1 y2 y3 y4) (impl_ToNum.j0 (k + 1) y0 y1 y2 y3 y4))
  | 0 => fun _ _ _ _ _ r h => by simp [impl_ToNum.j0] at h
  | k + 1 => by
    have ih0 := impl_ToNum.mono_l k
    · intro y0 y1 y2 y3 y4
      unfold impl_ToNum.j0
      repeat' first
      | (with_reducible exact ih0 _ _ _ _ _)
      | (with_reducible exact impl_DecFront.mono _ _)
      | (with_reducible exact LeO.refl _)
      | (with_reducible exact LeO.none _)
      | (with_reducible refine LeO.ite ?_ ?_)
      | (with_reducible refine LeO.bind ?_ (fun _ => ?_))
      | exact ih0 _ _ _ _ _
      | exact impl_DecFront.mono _ _
      | exact LeO.none _
      | refine LeO.ite ?_ ?_
      | refine LeO.bind ?_ (fun _ => ?_)
theorem impl_ToNum.mono : ∀ a0 a1 a2 k, LeO (impl_ToNum.f k a0 a1 a2) (impl_ToNum.f (k + 1) a0 a1 a2) := by
  intro a0 a1 a2 k
  have ih0 := impl_ToNum.mono_l k
  unfold impl_ToNum.f
  repeat' first
      | (with_reducible exact ih0 _ _ _ _ _)
      | (with_reducible exact impl_DecFront.mono _ _)
      | (with_reducible exact LeO.refl _)
      | (with_reducible exact LeO.none _)
      | (with_reducible refine LeO.ite ?_ ?_)
      | (with_reducible refine LeO.bind ?_ (fun _ => ?_))
      | exact ih0 _ _ _ _ _
      | exact impl_DecFront.mono _ _
      | exact LeO.none _
      | refine LeO.ite ?_ ?_
      | refine LeO.bind ?_ (fun _ => ?_)
noncomputable def impl_ToNum.j0v (x6 : Int) (x7 : Bool) (x124000 : Int) (x124001 : Int) (x124002 : ByteArray) : Option (Int) := limOf (fun k => impl_ToNum.j0 k x6 x7 x124000 x124001 x124002)
theorem impl_ToNum.j0_lim (x6 : Int) (x7 : Bool) (x124000 : Int) (x124001 : Int) (x124002 : ByteArray) : Lim (fun k => impl_ToNum.j0 k x6 x7 x124000 x124001 x124002) (impl_ToNum.j0v x6 x7 x124000 x124001 x124002) := Lim.of (fun k => impl_ToNum.mono_l k x6 x7 x124000 x124001 x124002)
noncomputable def impl_ToNum.fv (a0_0 : Int) (a0_1 : Int) (a0_2 : ByteArray) : Option (Int) := limOf (fun k => impl_ToNum.f k a0_0 a0_1 a0_2)
theorem impl_ToNum.f_lim (a0_0 : Int) (a0_1 : Int) (a0_2 : ByteArray) : Lim (fun k => impl_ToNum.f k a0_0 a0_1 a0_2) (impl_ToNum.fv a0_0 a0_1 a0_2) := Lim.of (fun k => impl_ToNum.mono a0_0 a0_1 a0_2 k)
set_option maxHeartbeats 4000000 in
theorem impl_ToNum.j0v_eq (x6 : Int) (x7 : Bool) (x124000 : Int) (x124001 : Int) (x124002 : ByteArray) : impl_ToNum.j0v x6 x7 x124000 x124001 x124002 = (if x7 = true then (some x124001) else (if x6 = 2 then ((impl_DecFront.fv x124002).bind fun bt124 => (some bt124.1)) else (some 0))) := by
  refine Lim.succ (impl_ToNum.j0_lim x6 x7 x124000 x124001 x124002) ?_
  simp only [impl_ToNum.j0]
  repeat' first
    | (with_reducible apply impl_DecFront.f_lim)
    | (with_reducible exact Lim.const _)
    | (with_reducible refine Lim.ite ?_ ?_)
    | (with_reducible refine Lim.bind ?_ (fun _ => ?_))
    | apply impl_DecFront.f_lim
    | exact Lim.const _
    | refine Lim.ite ?_ ?_
    | refine Lim.bind ?_ (fun _ => ?_)
set_option maxHeartbeats 4000000 in
theorem impl_ToNum.fv_eq (a0_0 : Int) (a0_1 : Int) (a0_2 : ByteArray) : impl_ToNum.fv a0_0 a0_1 a0_2 = (if a0_0 = 1 then (impl_ToNum.j0v a0_0 (a0_0 == 1) a0_0 a0_1 a0_2) else (impl_ToNum.j0v a0_0 (a0_0 == 3) a0_0 a0_1 a0_2)) := by
  refine Lim.eq (impl_ToNum.f_lim a0_0 a0_1 a0_2) ?_
  simp only [impl_ToNum.f]
  repeat' first
    | (with_reducible apply impl_ToNum.j0_lim)
    | (with_reducible exact Lim.const _)
    | (with_reducible refine Lim.ite ?_ ?_)
    | (with_reducible refine Lim.bind ?_ (fun _ => ?_))
    | apply impl_ToNum.j0_lim
    | exact Lim.const _
    | refine Lim.ite ?_ ?_
    | refine Lim.bind ?_ (fun _ => ?_)

/-! ### laws_FnExactToNum -/
def laws_FnExactToNum.f (k : Nat) (a0_0 : Int) (a0_1 : Int) (a0_2 : ByteArray) : Option (Bool) := (laws_szVal.f a0_0 a0_1 a0_2 1048576).bind fun t127 => (if t127 < 0 then (some true) else ((laws_toVal.f a0_0 a0_1 a0_2).bind fun bt128 => ((spec_ToNum.f k bt128.1 bt128.2.1 bt128.2.2).bind fun t131 => ((laws_toVal.f a0_0 a0_1 a0_2).bind fun bt132 => ((impl_ToNum.f k bt132.1 bt132.2.1 bt132.2.2).bind fun t135 => (if t135 = t131 then (some true) else (some false)))))))
theorem laws_FnExactToNum.mono : ∀ a0 a1 a2 k, LeO (laws_FnExactToNum.f k a0 a1 a2) (laws_FnExactToNum.f (k + 1) a0 a1 a2) := by
  intro a0 a1 a2 k
  unfold laws_FnExactToNum.f
  repeat' first
      | (with_reducible exact impl_ToNum.mono _ _ _ _)
      | (with_reducible exact spec_ToNum.mono _ _ _ _)
      | (with_reducible exact LeO.refl _)
      | (with_reducible exact LeO.none _)
      | (with_reducible refine LeO.ite ?_ ?_)
      | (with_reducible refine LeO.bind ?_ (fun _ => ?_))
      | exact impl_ToNum.mono _ _ _ _
      | exact spec_ToNum.mono _ _ _ _
      | exact LeO.none _
      | refine LeO.ite ?_ ?_
      | refine LeO.bind ?_ (fun _ => ?_)
noncomputable def laws_FnExactToNum.fv (a0_0 : Int) (a0_1 : Int) (a0_2 : ByteArray) : Option (Bool) := limOf (fun k => laws_FnExactToNum.f k a0_0 a0_1 a0_2)
theorem laws_FnExactToNum.f_lim (a0_0 : Int) (a0_1 : Int) (a0_2 : ByteArray) : Lim (fun k => laws_FnExactToNum.f k a0_0 a0_1 a0_2) (laws_FnExactToNum.fv a0_0 a0_1 a0_2) := Lim.of (fun k => laws_FnExactToNum.mono a0_0 a0_1 a0_2 k)
set_option maxHeartbeats 4000000 in
theorem laws_FnExactToNum.fv_eq (a0_0 : Int) (a0_1 : Int) (a0_2 : ByteArray) : laws_FnExactToNum.fv a0_0 a0_1 a0_2 = ((laws_szVal.f a0_0 a0_1 a0_2 1048576).bind fun t127 => (if t127 < 0 then (some true) else ((laws_toVal.f a0_0 a0_1 a0_2).bind fun bt128 => ((spec_ToNum.fv bt128.1 bt128.2.1 bt128.2.2).bind fun t131 => ((laws_toVal.f a0_0 a0_1 a0_2).bind fun bt132 => ((impl_ToNum.fv bt132.1 bt132.2.1 bt132.2.2).bind fun t135 => (if t135 = t131 then (some true) else (some false)))))))) := by
  refine Lim.eq (laws_FnExactToNum.f_lim a0_0 a0_1 a0_2) ?_
  simp only [laws_FnExactToNum.f]
  repeat' first
    | (with_reducible apply impl_ToNum.f_lim)
    | (with_reducible apply spec_ToNum.f_lim)
    | (with_reducible exact Lim.const _)
    | (with_reducible refine Lim.ite ?_ ?_)
    | (with_reducible refine Lim.bind ?_ (fun _ => ?_))
    | apply impl_ToNum.f_lim
    | apply spec_ToNum.f_lim
    | exact Lim.const _
    | refine Lim.ite ?_ ?_
    | refine Lim.bind ?_ (fun _ => ?_)

end Go.Proofs.YthigelphmjepaaaDoor.QFnExactToNum
