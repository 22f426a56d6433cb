/- Written by wip/pr2, a program of this session. -/
import Derived.Test.YthigelphmjepaaaDoorQFnExactValOkx0
import Derived.Test.YthigelphmjepaaaDoorQFnExactValOkx1
import Derived.Test.YthigelphmjepaaaDoorLim
namespace Go.Proofs.YthigelphmjepaaaDoor.QFnExactValOk
open Go.RowKit Go.Proofs.YthigelphmjepaaaDoorW.PrintWords Go.Proofs.YthigelphmjepaaaDoorW.PrintLast Go.Proofs.YthigelphmjepaaaDoorW.PrintMore
attribute [local go_sem] max2_int min2_int max_two min_two max_three min_three max_four min_four   -- for this text's walks alone
set_option linter.unusedVariables false
set_option linter.unusedSimpArgs false
set_option maxHeartbeats 8000000

open Go.Proofs.YthigelphmjepaaaDoorW.Lims
/-! ### impl_DecFront -/
mutual
def impl_DecFront.j0 : Nat → ByteArray → Int → Bool → Bool → Option (Int × Int)
  | 0, _, _, _, _ => none
  | k + 1, x0, x4, x5, x33 => if x33 = true then (if 0 ≤ x4 then (if x4 < (x0.size : Int) then (impl_DecFront.j1 k x0 (wrap64 (x4 + 1)) ((bt x0 x4) == 45)) else (none)) else (none)) else (impl_DecFront.j1 k x0 x4 x5)
def impl_DecFront.j1 : Nat → ByteArray → Int → Bool → Option (Int × Int)
  | 0, _, _, _ => none
  | k + 1, x0, x4, x5 => (impl_digitsAt.f k x0 x4).bind fun t124 => (if 0 ≤ x4 then (if x4 ≤ (wrap64 (x4 + t124)) then (if (wrap64 (x4 + t124)) ≤ (x0.size : Int) then (if (wrap64 (x4 + t124)) < (x0.size : Int) then (if 0 ≤ (wrap64 (x4 + t124)) then (impl_DecFront.j2 k x0 (wrap64 (x4 + t124)) x5 (x0.extract (x4 : Int).toNat ((wrap64 (x4 + t124)) : Int).toNat) (⟨#[]⟩ : ByteArray) ((bt x0 (wrap64 (x4 + t124))) == 46)) else (none)) else (impl_DecFront.j2 k x0 (wrap64 (x4 + t124)) x5 (x0.extract (x4 : Int).toNat ((wrap64 (x4 + t124)) : Int).toNat) (⟨#[]⟩ : ByteArray) false)) else (none)) else (none)) else (none))
def impl_DecFront.j2 : Nat → ByteArray → Int → Bool → ByteArray → ByteArray → Bool → Option (Int × Int)
  | 0, _, _, _, _, _, _ => none
  | k + 1, x0, x4, x5, x7, x8, x61 => if x61 = true then ((impl_digitsAt.f k x0 (wrap64 (x4 + 1))).bind fun t125 => (if t125 > 0 then (if 0 ≤ (wrap64 (x4 + 1)) then (if (wrap64 (x4 + 1)) ≤ (wrap64 ((wrap64 (x4 + 1)) + t125)) then (if (wrap64 ((wrap64 (x4 + 1)) + t125)) ≤ (x0.size : Int) then (impl_DecFront.j3 k (wrap64 (x4 + (wrap64 (1 + t125)))) x5 x7 (x0.extract ((wrap64 (x4 + 1)) : Int).toNat ((wrap64 ((wrap64 (x4 + 1)) + t125)) : Int).toNat)) else (none)) else (none)) else (none)) else (impl_DecFront.j3 k x4 x5 x7 x8))) else (impl_DecFront.j3 k x4 x5 x7 x8)
def impl_DecFront.j3 : Nat → Int → Bool → ByteArray → ByteArray → Option (Int × Int)
  | 0, _, _, _, _ => none
  | k + 1, x4, x5, x7, x8 => if x7.toList = ([] : List UInt8) then (impl_DecFront.j4 k x4 x5 x7 x8 (x8.toList == ([] : List UInt8))) else (impl_DecFront.j4 k x4 x5 x7 x8 false)
def impl_DecFront.j4 : Nat → Int → Bool → ByteArray → ByteArray → Bool → Option (Int × Int)
  | 0, _, _, _, _, _ => none
  | k + 1, x4, x5, x7, x8, x85 => if x85 = true then (some (0, 0)) else ((impl_millionths.f x7 x8).bind fun bt126 => (if bt126.2 = true then (if x5 = true then (some (wrap64 (-bt126.1), x4)) else (some (bt126.1, x4))) else (some (0, 0))))
end
def impl_DecFront.f (k : Nat) (a0 : ByteArray) : Option (Int × Int) := (strings_TrimLeft.f a0 (⟨#[32]⟩ : ByteArray)).bind fun t123 => (if (wrap64 ((a0.size : Int) - (t123.size : Int))) < (a0.size : Int) then (if 0 ≤ (wrap64 ((a0.size : Int) - (t123.size : Int))) then (if (bt a0 (wrap64 ((a0.size : Int) - (t123.size : Int)))) = 43 then (impl_DecFront.j0 k a0 (wrap64 ((a0.size : Int) - (t123.size : Int))) false true) else (impl_DecFront.j0 k a0 (wrap64 ((a0.size : Int) - (t123.size : Int))) false ((bt a0 (wrap64 ((a0.size : Int) - (t123.size : Int)))) == 45))) else (none)) else (impl_DecFront.j0 k a0 (wrap64 ((a0.size : Int) - (t123.size : Int))) false false))
theorem impl_DecFront.mono_l : ∀ k, (∀ y0 y1 y2 y3, LeO (impl_DecFront.j0 k y0 y1 y2 y3) (impl_DecFront.j0 (k + 1) y0 y1 y2 y3)) ∧ (∀ y0 y1 y2, LeO (impl_DecFront.j1 k y0 y1 y2) (impl_DecFront.j1 (k + 1) y0 y1 y2)) ∧ (∀ y0 y1 y2 y3 y4 y5, LeO (impl_DecFront.j2 k y0 y1 y2 y3 y4 y5) (impl_DecFront.j2 (k + 1) y0 y1 y2 y3 y4 y5)) ∧ (∀ y0 y1 y2 y3, LeO (impl_DecFront.j3 k y0 y1 y2 y3) (impl_DecFront.j3 (k + 1) y0 y1 y2 y3)) ∧ (∀ y0 y1 y2 y3 y4, LeO (impl_DecFront.j4 k y0 y1 y2 y3 y4) (impl_DecFront.j4 (k + 1) y0 y1 y2 y3 y4))
  | 0 => ⟨fun _ _ _ _ r h => by simp [impl_DecFront.j0] at h, fun _ _ _ r h => by simp [impl_DecFront.j1] at h, fun _ _ _ _ _ _ r h => by simp [impl_DecFront.j2] at h, fun _ _ _ _ r h => by simp [impl_DecFront.j3] at h, fun _ _ _ _ _ r h => by simp [impl_DecFront.j4] at h⟩
  | k + 1 => by
    obtain ⟨ih0, ih1, ih2, ih3, ih4⟩ := impl_DecFront.mono_l k
    refine ⟨?_, ?_, ?_, ?_, ?_⟩
    · intro y0 y1 y2 y3
      unfold impl_DecFront.j0
      repeat' first
      | (with_reducible exact ih0 _ _ _ _)
      | (with_reducible exact ih1 _ _ _)
      | (with_reducible exact ih2 _ _ _ _ _ _)
      | (with_reducible exact ih3 _ _ _ _)
      | (with_reducible exact ih4 _ _ _ _ _)
      | (with_reducible exact impl_digitsAt.mono _ _ _)
      | (with_reducible exact LeO.refl _)
      | (with_reducible exact LeO.none _)
      | (with_reducible refine LeO.ite ?_ ?_)
      | (with_reducible refine LeO.bind ?_ (fun _ => ?_))
      | exact ih0 _ _ _ _
      | exact ih1 _ _ _
      | exact ih2 _ _ _ _ _ _
      | exact ih3 _ _ _ _
      | exact ih4 _ _ _ _ _
      | exact impl_digitsAt.mono _ _ _
      | exact LeO.none _
      | refine LeO.ite ?_ ?_
      | refine LeO.bind ?_ (fun _ => ?_)
    · intro y0 y1 y2
      unfold impl_DecFront.j1
      repeat' first
      | (with_reducible exact ih0 _ _ _ _)
      | (with_reducible exact ih1 _ _ _)
      | (with_reducible exact ih2 _ _ _ _ _ _)
      | (with_reducible exact ih3 _ _ _ _)
      | (with_reducible exact ih4 _ _ _ _ _)
      | (with_reducible exact impl_digitsAt.mono _ _ _)
      | (with_reducible exact LeO.refl _)
      | (with_reducible exact LeO.none _)
      | (with_reducible refine LeO.ite ?_ ?_)
      | (with_reducible refine LeO.bind ?_ (fun _ => ?_))
      | exact ih0 _ _ _ _
      | exact ih1 _ _ _
      | exact ih2 _ _ _ _ _ _
      | exact ih3 _ _ _ _
      | exact ih4 _ _ _ _ _
      | exact impl_digitsAt.mono _ _ _
      | exact LeO.none _
      | refine LeO.ite ?_ ?_
      | refine LeO.bind ?_ (fun _ => ?_)
    · intro y0 y1 y2 y3 y4 y5
      unfold impl_DecFront.j2
      repeat' first
      | (with_reducible exact ih0 _ _ _ _)
      | (with_reducible exact ih1 _ _ _)
      | (with_reducible exact ih2 _ _ _ _ _ _)
      | (with_reducible exact ih3 _ _ _ _)
      | (with_reducible exact ih4 _ _ _ _ _)
      | (with_reducible exact impl_digitsAt.mono _ _ _)
      | (with_reducible exact LeO.refl _)
      | (with_reducible exact LeO.none _)
      | (with_reducible refine LeO.ite ?_ ?_)
      | (with_reducible refine LeO.bind ?_ (fun _ => ?_))
      | exact ih0 _ _ _ _
      | exact ih1 _ _ _
      | exact ih2 _ _ _ _ _ _
      | exact ih3 _ _ _ _
      | exact ih4 _ _ _ _ _
      | exact impl_digitsAt.mono _ _ _
      | exact LeO.none _
      | refine LeO.ite ?_ ?_
      | refine LeO.bind ?_ (fun _ => ?_)
    · intro y0 y1 y2 y3
      unfold impl_DecFront.j3
      repeat' first
      | (with_reducible exact ih0 _ _ _ _)
      | (with_reducible exact ih1 _ _ _)
      | (with_reducible exact ih2 _ _ _ _ _ _)
      | (with_reducible exact ih3 _ _ _ _)
      | (with_reducible exact ih4 _ _ _ _ _)
      | (with_reducible exact impl_digitsAt.mono _ _ _)
      | (with_reducible exact LeO.refl _)
      | (with_reducible exact LeO.none _)
      | (with_reducible refine LeO.ite ?_ ?_)
      | (with_reducible refine LeO.bind ?_ (fun _ => ?_))
      | exact ih0 _ _ _ _
      | exact ih1 _ _ _
      | exact ih2 _ _ _ _ _ _
      | exact ih3 _ _ _ _
      | exact ih4 _ _ _ _ _
      | exact impl_digitsAt.mono _ _ _
      | exact LeO.none _
      | refine LeO.ite ?_ ?_
      | refine LeO.bind ?_ (fun _ => ?_)
    · intro y0 y1 y2 y3 y4
      unfold impl_DecFront.j4
      repeat' first
      | (with_reducible exact ih0 _ _ _ _)
      | (with_reducible exact ih1 _ _ _)
      | (with_reducible exact ih2 _ _ _ _ _ _)
      | (with_reducible exact ih3 _ _ _ _)
      | (with_reducible exact ih4 _ _ _ _ _)
      | (with_reducible exact impl_digitsAt.mono _ _ _)
      | (with_reducible exact LeO.refl _)
      | (with_reducible exact LeO.none _)
      | (with_reducible refine LeO.ite ?_ ?_)
      | (with_reducible refine LeO.bind ?_ (fun _ => ?_))
      | exact ih0 _ _ _ _
      | exact ih1 _ _ _
      | exact ih2 _ _ _ _ _ _
      | exact ih3 _ _ _ _
      | exact ih4 _ _ _ _ _
      | exact impl_digitsAt.mono _ _ _
      | exact LeO.none _
      | refine LeO.ite ?_ ?_
      | refine LeO.bind ?_ (fun _ => ?_)
theorem impl_DecFront.mono : ∀ a0 k, LeO (impl_DecFront.f k a0) (impl_DecFront.f (k + 1) a0) := by
  intro a0 k
  obtain ⟨ih0, ih1, ih2, ih3, ih4⟩ := impl_DecFront.mono_l k
  unfold impl_DecFront.f
  repeat' first
      | (with_reducible exact ih0 _ _ _ _)
      | (with_reducible exact ih1 _ _ _)
      | (with_reducible exact ih2 _ _ _ _ _ _)
      | (with_reducible exact ih3 _ _ _ _)
      | (with_reducible exact ih4 _ _ _ _ _)
      | (with_reducible exact impl_digitsAt.mono _ _ _)
      | (with_reducible exact LeO.refl _)
      | (with_reducible exact LeO.none _)
      | (with_reducible refine LeO.ite ?_ ?_)
      | (with_reducible refine LeO.bind ?_ (fun _ => ?_))
      | exact ih0 _ _ _ _
      | exact ih1 _ _ _
      | exact ih2 _ _ _ _ _ _
      | exact ih3 _ _ _ _
      | exact ih4 _ _ _ _ _
      | exact impl_digitsAt.mono _ _ _
      | exact LeO.none _
      | refine LeO.ite ?_ ?_
      | refine LeO.bind ?_ (fun _ => ?_)
noncomputable def impl_DecFront.j0v (x0 : ByteArray) (x4 : Int) (x5 : Bool) (x33 : Bool) : Option (Int × Int) := limOf (fun k => impl_DecFront.j0 k x0 x4 x5 x33)
theorem impl_DecFront.j0_lim (x0 : ByteArray) (x4 : Int) (x5 : Bool) (x33 : Bool) : Lim (fun k => impl_DecFront.j0 k x0 x4 x5 x33) (impl_DecFront.j0v x0 x4 x5 x33) := Lim.of (fun k => (impl_DecFront.mono_l k).1 x0 x4 x5 x33)
noncomputable def impl_DecFront.j1v (x0 : ByteArray) (x4 : Int) (x5 : Bool) : Option (Int × Int) := limOf (fun k => impl_DecFront.j1 k x0 x4 x5)
theorem impl_DecFront.j1_lim (x0 : ByteArray) (x4 : Int) (x5 : Bool) : Lim (fun k => impl_DecFront.j1 k x0 x4 x5) (impl_DecFront.j1v x0 x4 x5) := Lim.of (fun k => (impl_DecFront.mono_l k).2.1 x0 x4 x5)
noncomputable def impl_DecFront.j2v (x0 : ByteArray) (x4 : Int) (x5 : Bool) (x7 : ByteArray) (x8 : ByteArray) (x61 : Bool) : Option (Int × Int) := limOf (fun k => impl_DecFront.j2 k x0 x4 x5 x7 x8 x61)
theorem impl_DecFront.j2_lim (x0 : ByteArray) (x4 : Int) (x5 : Bool) (x7 : ByteArray) (x8 : ByteArray) (x61 : Bool) : Lim (fun k => impl_DecFront.j2 k x0 x4 x5 x7 x8 x61) (impl_DecFront.j2v x0 x4 x5 x7 x8 x61) := Lim.of (fun k => (impl_DecFront.mono_l k).2.2.1 x0 x4 x5 x7 x8 x61)
noncomputable def impl_DecFront.j3v (x4 : Int) (x5 : Bool) (x7 : ByteArray) (x8 : ByteArray) : Option (Int × Int) := limOf (fun k => impl_DecFront.j3 k x4 x5 x7 x8)
theorem impl_DecFront.j3_lim (x4 : Int) (x5 : Bool) (x7 : ByteArray) (x8 : ByteArray) : Lim (fun k => impl_DecFront.j3 k x4 x5 x7 x8) (impl_DecFront.j3v x4 x5 x7 x8) := Lim.of (fun k => (impl_DecFront.mono_l k).2.2.2.1 x4 x5 x7 x8)
noncomputable def impl_DecFront.j4v (x4 : Int) (x5 : Bool) (x7 : ByteArray) (x8 : ByteArray) (x85 : Bool) : Option (Int × Int) := limOf (fun k => impl_DecFront.j4 k x4 x5 x7 x8 x85)
theorem impl_DecFront.j4_lim (x4 : Int) (x5 : Bool) (x7 : ByteArray) (x8 : ByteArray) (x85 : Bool) : Lim (fun k => impl_DecFront.j4 k x4 x5 x7 x8 x85) (impl_DecFront.j4v x4 x5 x7 x8 x85) := Lim.of (fun k => (impl_DecFront.mono_l k).2.2.2.2 x4 x5 x7 x8 x85)
noncomputable def impl_DecFront.fv (a0 : ByteArray) : Option (Int × Int) := limOf (fun k => impl_DecFront.f k a0)
theorem impl_DecFront.f_lim (a0 : ByteArray) : Lim (fun k => impl_DecFront.f k a0) (impl_DecFront.fv a0) := Lim.of (fun k => impl_DecFront.mono a0 k)
set_option maxHeartbeats 4000000 in
theorem impl_DecFront.j0v_eq (x0 : ByteArray) (x4 : Int) (x5 : Bool) (x33 : Bool) : impl_DecFront.j0v x0 x4 x5 x33 = (if x33 = true then (if 0 ≤ x4 then (if x4 < (x0.size : Int) then (impl_DecFront.j1v x0 (wrap64 (x4 + 1)) ((bt x0 x4) == 45)) else (none)) else (none)) else (impl_DecFront.j1v x0 x4 x5)) := by
  refine Lim.succ (impl_DecFront.j0_lim x0 x4 x5 x33) ?_
  simp only [impl_DecFront.j0]
  repeat' first
    | (with_reducible apply impl_DecFront.j1_lim)
    | (with_reducible exact Lim.const _)
    | (with_reducible refine Lim.ite ?_ ?_)
    | (with_reducible refine Lim.bind ?_ (fun _ => ?_))
    | apply impl_DecFront.j1_lim
    | exact Lim.const _
    | refine Lim.ite ?_ ?_
    | refine Lim.bind ?_ (fun _ => ?_)
set_option maxHeartbeats 4000000 in
theorem impl_DecFront.j1v_eq (x0 : ByteArray) (x4 : Int) (x5 : Bool) : impl_DecFront.j1v x0 x4 x5 = ((impl_digitsAt.fv x0 x4).bind fun t124 => (if 0 ≤ x4 then (if x4 ≤ (wrap64 (x4 + t124)) then (if (wrap64 (x4 + t124)) ≤ (x0.size : Int) then (if (wrap64 (x4 + t124)) < (x0.size : Int) then (if 0 ≤ (wrap64 (x4 + t124)) then (impl_DecFront.j2v x0 (wrap64 (x4 + t124)) x5 (x0.extract (x4 : Int).toNat ((wrap64 (x4 + t124)) : Int).toNat) (⟨#[]⟩ : ByteArray) ((bt x0 (wrap64 (x4 + t124))) == 46)) else (none)) else (impl_DecFront.j2v x0 (wrap64 (x4 + t124)) x5 (x0.extract (x4 : Int).toNat ((wrap64 (x4 + t124)) : Int).toNat) (⟨#[]⟩ : ByteArray) false)) else (none)) else (none)) else (none))) := by
  refine Lim.succ (impl_DecFront.j1_lim x0 x4 x5) ?_
  simp only [impl_DecFront.j1]
  repeat' first
    | (with_reducible apply impl_DecFront.j2_lim)
    | (with_reducible apply impl_digitsAt.f_lim)
    | (with_reducible exact Lim.const _)
    | (with_reducible refine Lim.ite ?_ ?_)
    | (with_reducible refine Lim.bind ?_ (fun _ => ?_))
    | apply impl_DecFront.j2_lim
    | apply impl_digitsAt.f_lim
    | exact Lim.const _
    | refine Lim.ite ?_ ?_
    | refine Lim.bind ?_ (fun _ => ?_)
set_option maxHeartbeats 4000000 in
theorem impl_DecFront.j2v_eq (x0 : ByteArray) (x4 : Int) (x5 : Bool) (x7 : ByteArray) (x8 : ByteArray) (x61 : Bool) : impl_DecFront.j2v x0 x4 x5 x7 x8 x61 = (if x61 = true then ((impl_digitsAt.fv x0 (wrap64 (x4 + 1))).bind fun t125 => (if t125 > 0 then (if 0 ≤ (wrap64 (x4 + 1)) then (if (wrap64 (x4 + 1)) ≤ (wrap64 ((wrap64 (x4 + 1)) + t125)) then (if (wrap64 ((wrap64 (x4 + 1)) + t125)) ≤ (x0.size : Int) then (impl_DecFront.j3v (wrap64 (x4 + (wrap64 (1 + t125)))) x5 x7 (x0.extract ((wrap64 (x4 + 1)) : Int).toNat ((wrap64 ((wrap64 (x4 + 1)) + t125)) : Int).toNat)) else (none)) else (none)) else (none)) else (impl_DecFront.j3v x4 x5 x7 x8))) else (impl_DecFront.j3v x4 x5 x7 x8)) := by
  refine Lim.succ (impl_DecFront.j2_lim x0 x4 x5 x7 x8 x61) ?_
  simp only [impl_DecFront.j2]
  repeat' first
    | (with_reducible apply impl_DecFront.j3_lim)
    | (with_reducible apply impl_digitsAt.f_lim)
    | (with_reducible exact Lim.const _)
    | (with_reducible refine Lim.ite ?_ ?_)
    | (with_reducible refine Lim.bind ?_ (fun _ => ?_))
    | apply impl_DecFront.j3_lim
    | apply impl_digitsAt.f_lim
    | exact Lim.const _
    | refine Lim.ite ?_ ?_
    | refine Lim.bind ?_ (fun _ => ?_)
set_option maxHeartbeats 4000000 in
theorem impl_DecFront.j3v_eq (x4 : Int) (x5 : Bool) (x7 : ByteArray) (x8 : ByteArray) : impl_DecFront.j3v x4 x5 x7 x8 = (if x7.toList = ([] : List UInt8) then (impl_DecFront.j4v x4 x5 x7 x8 (x8.toList == ([] : List UInt8))) else (impl_DecFront.j4v x4 x5 x7 x8 false)) := by
  refine Lim.succ (impl_DecFront.j3_lim x4 x5 x7 x8) ?_
  simp only [impl_DecFront.j3]
  repeat' first
    | (with_reducible apply impl_DecFront.j4_lim)
    | (with_reducible exact Lim.const _)
    | (with_reducible refine Lim.ite ?_ ?_)
    | (with_reducible refine Lim.bind ?_ (fun _ => ?_))
    | apply impl_DecFront.j4_lim
    | exact Lim.const _
    | refine Lim.ite ?_ ?_
    | refine Lim.bind ?_ (fun _ => ?_)
set_option maxHeartbeats 4000000 in
theorem impl_DecFront.j4v_eq (x4 : Int) (x5 : Bool) (x7 : ByteArray) (x8 : ByteArray) (x85 : Bool) : impl_DecFront.j4v x4 x5 x7 x8 x85 = (if x85 = true then (some (0, 0)) else ((impl_millionths.f x7 x8).bind fun bt126 => (if bt126.2 = true then (if x5 = true then (some (wrap64 (-bt126.1), x4)) else (some (bt126.1, x4))) else (some (0, 0))))) := by
  refine Lim.succ (impl_DecFront.j4_lim x4 x5 x7 x8 x85) ?_
  simp only [impl_DecFront.j4]
  repeat' first
    | (with_reducible exact Lim.const _)
    | (with_reducible refine Lim.ite ?_ ?_)
    | (with_reducible refine Lim.bind ?_ (fun _ => ?_))
    | exact Lim.const _
    | refine Lim.ite ?_ ?_
    | refine Lim.bind ?_ (fun _ => ?_)
set_option maxHeartbeats 4000000 in
theorem impl_DecFront.fv_eq (a0 : ByteArray) : impl_DecFront.fv a0 = ((strings_TrimLeft.f a0 (⟨#[32]⟩ : ByteArray)).bind fun t123 => (if (wrap64 ((a0.size : Int) - (t123.size : Int))) < (a0.size : Int) then (if 0 ≤ (wrap64 ((a0.size : Int) - (t123.size : Int))) then (if (bt a0 (wrap64 ((a0.size : Int) - (t123.size : Int)))) = 43 then (impl_DecFront.j0v a0 (wrap64 ((a0.size : Int) - (t123.size : Int))) false true) else (impl_DecFront.j0v a0 (wrap64 ((a0.size : Int) - (t123.size : Int))) false ((bt a0 (wrap64 ((a0.size : Int) - (t123.size : Int)))) == 45))) else (none)) else (impl_DecFront.j0v a0 (wrap64 ((a0.size : Int) - (t123.size : Int))) false false))) := by
  refine Lim.eq (impl_DecFront.f_lim a0) ?_
  simp only [impl_DecFront.f]
  repeat' first
    | (with_reducible apply impl_DecFront.j0_lim)
    | (with_reducible exact Lim.const _)
    | (with_reducible refine Lim.ite ?_ ?_)
    | (with_reducible refine Lim.bind ?_ (fun _ => ?_))
    | apply impl_DecFront.j0_lim
    | exact Lim.const _
    | refine Lim.ite ?_ ?_
    | refine Lim.bind ?_ (fun _ => ?_)

/-! ### strings_Trim -/
def strings_Trim.f (a0 : ByteArray) (a1 : ByteArray) : Option (ByteArray) := match a1.data.toList with | [c_] => if c_.toNat < 128 ∧ a0.size ≤ 9223372036854775807 then some ⟨(Lib.trimB a0.data.toList c_).toArray⟩ else none | _ => none

/-! ### impl_DecLooks -/
def impl_DecLooks.f (k : Nat) (a0 : ByteArray) : Option (Int × Bool) := (impl_DecFront.f k a0).bind fun bt128 => (if bt128.2 = 0 then (some (0, false)) else (if 0 ≤ bt128.2 then (if bt128.2 ≤ (a0.size : Int) then ((strings_Trim.f (a0.extract (bt128.2 : Int).toNat a0.size) (⟨#[32]⟩ : ByteArray)).bind fun t130 => (if t130.toList = ([] : List UInt8) then (some (bt128.1, true)) else (some (0, false)))) else (none)) else (none)))
theorem impl_DecLooks.mono : ∀ a0 k, LeO (impl_DecLooks.f k a0) (impl_DecLooks.f (k + 1) a0) := by
  intro a0 k
  unfold impl_DecLooks.f
  repeat' first
      | (with_reducible exact impl_DecFront.mono _ _)
      | (with_reducible exact LeO.refl _)
      | (with_reducible exact LeO.none _)
      | (with_reducible refine LeO.ite ?_ ?_)
      | (with_reducible refine LeO.bind ?_ (fun _ => ?_))
      | exact impl_DecFront.mono _ _
      | exact LeO.none _
      | refine LeO.ite ?_ ?_
      | refine LeO.bind ?_ (fun _ => ?_)
noncomputable def impl_DecLooks.fv (a0 : ByteArray) : Option (Int × Bool) := limOf (fun k => impl_DecLooks.f k a0)
theorem impl_DecLooks.f_lim (a0 : ByteArray) : Lim (fun k => impl_DecLooks.f k a0) (impl_DecLooks.fv a0) := Lim.of (fun k => impl_DecLooks.mono a0 k)
set_option maxHeartbeats 4000000 in
theorem impl_DecLooks.fv_eq (a0 : ByteArray) : impl_DecLooks.fv a0 = ((impl_DecFront.fv a0).bind fun bt128 => (if bt128.2 = 0 then (some (0, false)) else (if 0 ≤ bt128.2 then (if bt128.2 ≤ (a0.size : Int) then ((strings_Trim.f (a0.extract (bt128.2 : Int).toNat a0.size) (⟨#[32]⟩ : ByteArray)).bind fun t130 => (if t130.toList = ([] : List UInt8) then (some (bt128.1, true)) else (some (0, false)))) else (none)) else (none)))) := by
  refine Lim.eq (impl_DecLooks.f_lim a0) ?_
  simp only [impl_DecLooks.f]
  repeat' first
    | (with_reducible apply impl_DecFront.f_lim)
    | (with_reducible exact Lim.const _)
    | (with_reducible refine Lim.ite ?_ ?_)
    | (with_reducible refine Lim.bind ?_ (fun _ => ?_))
    | apply impl_DecFront.f_lim
    | exact Lim.const _
    | refine Lim.ite ?_ ?_
    | refine Lim.bind ?_ (fun _ => ?_)

/-! ### impl_ValOk -/
def impl_ValOk.j0 : Nat → Bool → Int → Int → ByteArray → Option (Bool)
  | 0, _, _, _, _ => none
  | k + 1, x14, x132000, x132001, x132002 => if x14 = true then (some false) else (if x132000 = 0 then (if x132001 = 0 then (some (x132002.toList == ([] : List UInt8))) else (some false)) else (if x132000 = 1 then (some (x132002.toList == ([] : List UInt8))) else (if x132000 = 2 then (some (x132001 == 0)) else (if x132000 = 3 then ((impl_DecLooks.f k x132002).bind fun bt133 => (if bt133.2 = true then (some (bt133.1 == x132001)) else (some false))) else (some false)))))
def impl_ValOk.f (k : Nat) (a0_0 : Int) (a0_1 : Int) (a0_2 : ByteArray) : Option (Bool) := (impl_DecOk.f a0_1).bind fun t132 => (if t132 = true then (impl_ValOk.j0 k (decide ((a0_2.size : Int) > 300)) a0_0 a0_1 a0_2) else (impl_ValOk.j0 k true a0_0 a0_1 a0_2))
theorem impl_ValOk.mono_l : ∀ k, (∀ y0 y1 y2 y3, LeO (impl_ValOk.j0 k y0 y1 y2 y3) (impl_ValOk.j0 (k + 1) y0 y1 y2 y3))
  | 0 => fun _ _ _ _ r h => by simp [impl_ValOk.j0] at h
  | k + 1 => by
    have ih0 := impl_ValOk.mono_l k
    · intro y0 y1 y2 y3
      unfold impl_ValOk.j0
      repeat' first
      | (with_reducible exact ih0 _ _ _ _)
      | (with_reducible exact impl_DecLooks.mono _ _)
      | (with_reducible exact LeO.refl _)
      | (with_reducible exact LeO.none _)
      | (with_reducible refine LeO.ite ?_ ?_)
      | (with_reducible refine LeO.bind ?_ (fun _ => ?_))
      | exact ih0 _ _ _ _
      | exact impl_DecLooks.mono _ _
      | exact LeO.none _
      | refine LeO.ite ?_ ?_
      | refine LeO.bind ?_ (fun _ => ?_)
theorem impl_ValOk.mono : ∀ a0 a1 a2 k, LeO (impl_ValOk.f k a0 a1 a2) (impl_ValOk.f (k + 1) a0 a1 a2) := by
  intro a0 a1 a2 k
  have ih0 := impl_ValOk.mono_l k
  unfold impl_ValOk.f
  repeat' first
      | (with_reducible exact ih0 _ _ _ _)
      | (with_reducible exact impl_DecLooks.mono _ _)
      | (with_reducible exact LeO.refl _)
      | (with_reducible exact LeO.none _)
      | (with_reducible refine LeO.ite ?_ ?_)
      | (with_reducible refine LeO.bind ?_ (fun _ => ?_))
      | exact ih0 _ _ _ _
      | exact impl_DecLooks.mono _ _
      | exact LeO.none _
      | refine LeO.ite ?_ ?_
      | refine LeO.bind ?_ (fun _ => ?_)
noncomputable def impl_ValOk.j0v (x14 : Bool) (x132000 : Int) (x132001 : Int) (x132002 : ByteArray) : Option (Bool) := limOf (fun k => impl_ValOk.j0 k x14 x132000 x132001 x132002)
theorem impl_ValOk.j0_lim (x14 : Bool) (x132000 : Int) (x132001 : Int) (x132002 : ByteArray) : Lim (fun k => impl_ValOk.j0 k x14 x132000 x132001 x132002) (impl_ValOk.j0v x14 x132000 x132001 x132002) := Lim.of (fun k => impl_ValOk.mono_l k x14 x132000 x132001 x132002)
noncomputable def impl_ValOk.fv (a0_0 : Int) (a0_1 : Int) (a0_2 : ByteArray) : Option (Bool) := limOf (fun k => impl_ValOk.f k a0_0 a0_1 a0_2)
theorem impl_ValOk.f_lim (a0_0 : Int) (a0_1 : Int) (a0_2 : ByteArray) : Lim (fun k => impl_ValOk.f k a0_0 a0_1 a0_2) (impl_ValOk.fv a0_0 a0_1 a0_2) := Lim.of (fun k => impl_ValOk.mono a0_0 a0_1 a0_2 k)
set_option maxHeartbeats 4000000 in
theorem impl_ValOk.j0v_eq (x14 : Bool) (x132000 : Int) (x132001 : Int) (x132002 : ByteArray) : impl_ValOk.j0v x14 x132000 x132001 x132002 = (if x14 = true then (some false) else (if x132000 = 0 then (if x132001 = 0 then (some (x132002.toList == ([] : List UInt8))) else (some false)) else (if x132000 = 1 then (some (x132002.toList == ([] : List UInt8))) else (if x132000 = 2 then (some (x132001 == 0)) else (if x132000 = 3 then ((impl_DecLooks.fv x132002).bind fun bt133 => (if bt133.2 = true then (some (bt133.1 == x132001)) else (some false))) else (some false)))))) := by
  refine Lim.succ (impl_ValOk.j0_lim x14 x132000 x132001 x132002) ?_
  simp only [impl_ValOk.j0]
  repeat' first
    | (with_reducible apply impl_DecLooks.f_lim)
    | (with_reducible exact Lim.const _)
    | (with_reducible refine Lim.ite ?_ ?_)
    | (with_reducible refine Lim.bind ?_ (fun _ => ?_))
    | apply impl_DecLooks.f_lim
    | exact Lim.const _
    | refine Lim.ite ?_ ?_
    | refine Lim.bind ?_ (fun _ => ?_)
set_option maxHeartbeats 4000000 in
theorem impl_ValOk.fv_eq (a0_0 : Int) (a0_1 : Int) (a0_2 : ByteArray) : impl_ValOk.fv a0_0 a0_1 a0_2 = ((impl_DecOk.f a0_1).bind fun t132 => (if t132 = true then (impl_ValOk.j0v (decide ((a0_2.size : Int) > 300)) a0_0 a0_1 a0_2) else (impl_ValOk.j0v true a0_0 a0_1 a0_2))) := by
  refine Lim.eq (impl_ValOk.f_lim a0_0 a0_1 a0_2) ?_
  simp only [impl_ValOk.f]
  repeat' first
    | (with_reducible apply impl_ValOk.j0_lim)
    | (with_reducible exact Lim.const _)
    | (with_reducible refine Lim.ite ?_ ?_)
    | (with_reducible refine Lim.bind ?_ (fun _ => ?_))
    | apply impl_ValOk.j0_lim
    | exact Lim.const _
    | refine Lim.ite ?_ ?_
    | refine Lim.bind ?_ (fun _ => ?_)

/-! ### laws_FnExactValOk -/
def laws_FnExactValOk.f (k : Nat) (a0_0 : Int) (a0_1 : Int) (a0_2 : ByteArray) : Option (Bool) := (laws_szVal.f a0_0 a0_1 a0_2 1048576).bind fun t136 => (if t136 < 0 then (some true) else ((laws_toVal.f a0_0 a0_1 a0_2).bind fun bt137 => ((spec_ValOk.f k bt137.1 bt137.2.1 bt137.2.2).bind fun t140 => ((laws_toVal.f a0_0 a0_1 a0_2).bind fun bt141 => ((impl_ValOk.f k bt141.1 bt141.2.1 bt141.2.2).bind fun t144 => (if (t144 != t140) = true then (some false) else (some true)))))))
theorem laws_FnExactValOk.mono : ∀ a0 a1 a2 k, LeO (laws_FnExactValOk.f k a0 a1 a2) (laws_FnExactValOk.f (k + 1) a0 a1 a2) := by
  intro a0 a1 a2 k
  unfold laws_FnExactValOk.f
  repeat' first
      | (with_reducible exact impl_ValOk.mono _ _ _ _)
      | (with_reducible exact spec_ValOk.mono _ _ _ _)
      | (with_reducible exact LeO.refl _)
      | (with_reducible exact LeO.none _)
      | (with_reducible refine LeO.ite ?_ ?_)
      | (with_reducible refine LeO.bind ?_ (fun _ => ?_))
      | exact impl_ValOk.mono _ _ _ _
      | exact spec_ValOk.mono _ _ _ _
      | exact LeO.none _
      | refine LeO.ite ?_ ?_
      | refine LeO.bind ?_ (fun _ => ?_)
noncomputable def laws_FnExactValOk.fv (a0_0 : Int) (a0_1 : Int) (a0_2 : ByteArray) : Option (Bool) := limOf (fun k => laws_FnExactValOk.f k a0_0 a0_1 a0_2)
theorem laws_FnExactValOk.f_lim (a0_0 : Int) (a0_1 : Int) (a0_2 : ByteArray) : Lim (fun k => laws_FnExactValOk.f k a0_0 a0_1 a0_2) (laws_FnExactValOk.fv a0_0 a0_1 a0_2) := Lim.of (fun k => laws_FnExactValOk.mono a0_0 a0_1 a0_2 k)
set_option maxHeartbeats 4000000 in
theorem laws_FnExactValOk.fv_eq (a0_0 : Int) (a0_1 : Int) (a0_2 : ByteArray) : laws_FnExactValOk.fv a0_0 a0_1 a0_2 = ((laws_szVal.f a0_0 a0_1 a0_2 1048576).bind fun t136 => (if t136 < 0 then (some true) else ((laws_toVal.f a0_0 a0_1 a0_2).bind fun bt137 => ((spec_ValOk.fv bt137.1 bt137.2.1 bt137.2.2).bind fun t140 => ((laws_toVal.f a0_0 a0_1 a0_2).bind fun bt141 => ((impl_ValOk.fv bt141.1 bt141.2.1 bt141.2.2).bind fun t144 => (if (t144 != t140) = true then (some false) else (some true)))))))) := by
  refine Lim.eq (laws_FnExactValOk.f_lim a0_0 a0_1 a0_2) ?_
  simp only [laws_FnExactValOk.f]
  repeat' first
    | (with_reducible apply impl_ValOk.f_lim)
    | (with_reducible apply spec_ValOk.f_lim)
    | (with_reducible exact Lim.const _)
    | (with_reducible refine Lim.ite ?_ ?_)
    | (with_reducible refine Lim.bind ?_ (fun _ => ?_))
    | apply impl_ValOk.f_lim
    | apply spec_ValOk.f_lim
    | exact Lim.const _
    | refine Lim.ite ?_ ?_
    | refine Lim.bind ?_ (fun _ => ?_)

end Go.Proofs.YthigelphmjepaaaDoor.QFnExactValOk
