/- Written by wip/pr2, a program of this session. -/
import Derived.Test.YtakicaelepgmcaaQFnExactTruthx0
import Derived.Test.YtakicaelepgmcaaLim
namespace Go.Proofs.Ytakicaelepgmcaa.QFnExactTruth
open Go.RowKit Go.Proofs.YtakicaelepgmcaaW.PrintWords Go.Proofs.YtakicaelepgmcaaW.PrintLast Go.Proofs.YtakicaelepgmcaaW.PrintMore
attribute [local go_sem] max2_int min2_int max_two min_two max_three min_three max_four min_four   -- for this text's walks alone
set_option linter.unusedVariables false
set_option linter.unusedSimpArgs false

open Go.Proofs.YtakicaelepgmcaaW.Lims
/-! ### laws_szVal -/
def laws_szVal.f (a0_0 : Int) (a0_1 : Int) (a0_2 : ByteArray) (a1 : Int) : Option (Int) := if (wrap64 (a1 - (a0_2.size : Int))) < 0 then (some (-1)) else (some (wrap64 (a1 - (a0_2.size : Int))))

/-! ### spec_Truth -/
def spec_Truth.j0 : Nat → Int → Bool → Int → Int → ByteArray → Option (Bool)
  | 0, _, _, _, _, _ => none
  | k + 1, x4, x5, x103000, x103001, x103002 => if x5 = true then (some (x103001 != 0)) else (if x4 = 2 then (some (x103002.toList != ([] : List UInt8))) else (some false))
def spec_Truth.f (k : Nat) (a0_0 : Int) (a0_1 : Int) (a0_2 : ByteArray) : Option (Bool) := if a0_0 = 1 then (spec_Truth.j0 k a0_0 (a0_0 == 1) a0_0 a0_1 a0_2) else (spec_Truth.j0 k a0_0 (a0_0 == 3) a0_0 a0_1 a0_2)
theorem spec_Truth.mono_l : ∀ k, (∀ y0 y1 y2 y3 y4, LeO (spec_Truth.j0 k y0 y1 y2 y3 y4) (spec_Truth.j0 (k + 1) y0 y1 y2 y3 y4))
  | 0 => fun _ _ _ _ _ r h => by simp [spec_Truth.j0] at h
  | k + 1 => by
    have ih0 := spec_Truth.mono_l k
    · intro y0 y1 y2 y3 y4
      unfold spec_Truth.j0
      repeat' first
      | (with_reducible exact ih0 _ _ _ _ _)
      | (with_reducible exact LeO.refl _)
      | (with_reducible exact LeO.none _)
      | (with_reducible refine LeO.ite ?_ ?_)
      | (with_reducible refine LeO.bind ?_ (fun _ => ?_))
      | exact ih0 _ _ _ _ _
      | exact LeO.none _
      | refine LeO.ite ?_ ?_
      | refine LeO.bind ?_ (fun _ => ?_)
theorem spec_Truth.mono : ∀ a0 a1 a2 k, LeO (spec_Truth.f k a0 a1 a2) (spec_Truth.f (k + 1) a0 a1 a2) := by
  intro a0 a1 a2 k
  have ih0 := spec_Truth.mono_l k
  unfold spec_Truth.f
  repeat' first
      | (with_reducible exact ih0 _ _ _ _ _)
      | (with_reducible exact LeO.refl _)
      | (with_reducible exact LeO.none _)
      | (with_reducible refine LeO.ite ?_ ?_)
      | (with_reducible refine LeO.bind ?_ (fun _ => ?_))
      | exact ih0 _ _ _ _ _
      | exact LeO.none _
      | refine LeO.ite ?_ ?_
      | refine LeO.bind ?_ (fun _ => ?_)
noncomputable def spec_Truth.j0v (x4 : Int) (x5 : Bool) (x103000 : Int) (x103001 : Int) (x103002 : ByteArray) : Option (Bool) := limOf (fun k => spec_Truth.j0 k x4 x5 x103000 x103001 x103002)
theorem spec_Truth.j0_lim (x4 : Int) (x5 : Bool) (x103000 : Int) (x103001 : Int) (x103002 : ByteArray) : Lim (fun k => spec_Truth.j0 k x4 x5 x103000 x103001 x103002) (spec_Truth.j0v x4 x5 x103000 x103001 x103002) := Lim.of (fun k => spec_Truth.mono_l k x4 x5 x103000 x103001 x103002)
noncomputable def spec_Truth.fv (a0_0 : Int) (a0_1 : Int) (a0_2 : ByteArray) : Option (Bool) := limOf (fun k => spec_Truth.f k a0_0 a0_1 a0_2)
theorem spec_Truth.f_lim (a0_0 : Int) (a0_1 : Int) (a0_2 : ByteArray) : Lim (fun k => spec_Truth.f k a0_0 a0_1 a0_2) (spec_Truth.fv a0_0 a0_1 a0_2) := Lim.of (fun k => spec_Truth.mono a0_0 a0_1 a0_2 k)
set_option maxHeartbeats 4000000 in
theorem spec_Truth.j0v_eq (x4 : Int) (x5 : Bool) (x103000 : Int) (x103001 : Int) (x103002 : ByteArray) : spec_Truth.j0v x4 x5 x103000 x103001 x103002 = (if x5 = true then (some (x103001 != 0)) else (if x4 = 2 then (some (x103002.toList != ([] : List UInt8))) else (some false))) := by
  refine Lim.succ (spec_Truth.j0_lim x4 x5 x103000 x103001 x103002) ?_
  simp only [spec_Truth.j0]
  repeat' first
    | (with_reducible exact Lim.const _)
    | (with_reducible refine Lim.ite ?_ ?_)
    | (with_reducible refine Lim.bind ?_ (fun _ => ?_))
    | exact Lim.const _
    | refine Lim.ite ?_ ?_
    | refine Lim.bind ?_ (fun _ => ?_)
set_option maxHeartbeats 4000000 in
theorem spec_Truth.fv_eq (a0_0 : Int) (a0_1 : Int) (a0_2 : ByteArray) : spec_Truth.fv a0_0 a0_1 a0_2 = (if a0_0 = 1 then (spec_Truth.j0v a0_0 (a0_0 == 1) a0_0 a0_1 a0_2) else (spec_Truth.j0v a0_0 (a0_0 == 3) a0_0 a0_1 a0_2)) := by
  refine Lim.eq (spec_Truth.f_lim a0_0 a0_1 a0_2) ?_
  simp only [spec_Truth.f]
  repeat' first
    | (with_reducible apply spec_Truth.j0_lim)
    | (with_reducible exact Lim.const _)
    | (with_reducible refine Lim.ite ?_ ?_)
    | (with_reducible refine Lim.bind ?_ (fun _ => ?_))
    | apply spec_Truth.j0_lim
    | exact Lim.const _
    | refine Lim.ite ?_ ?_
    | refine Lim.bind ?_ (fun _ => ?_)

/-! ### laws_toVal -/
def laws_toVal.f (a0_0 : Int) (a0_1 : Int) (a0_2 : ByteArray) : Option (Int × Int × ByteArray) := some (a0_0, a0_1, a0_2)

/-! ### impl_Truth -/
def impl_Truth.j0 : Nat → Int → Bool → Int → Int → ByteArray → Option (Bool)
  | 0, _, _, _, _, _ => none
  | k + 1, x4, x5, x107000, x107001, x107002 => if x5 = true then (some (x107001 != 0)) else (if x4 = 2 then (some (x107002.toList != ([] : List UInt8))) else (some false))
def impl_Truth.f (k : Nat) (a0_0 : Int) (a0_1 : Int) (a0_2 : ByteArray) : Option (Bool) := if a0_0 = 1 then (impl_Truth.j0 k a0_0 (a0_0 == 1) a0_0 a0_1 a0_2) else (impl_Truth.j0 k a0_0 (a0_0 == 3) a0_0 a0_1 a0_2)
theorem impl_Truth.mono_l : ∀ k, (∀ y0 y1 y2 y3 y4, LeO (impl_Truth.j0 k y0 y1 y2 y3 y4) (impl_Truth.j0 (k + 1) y0 y1 y2 y3 y4))
  | 0 => fun _ _ _ _ _ r h => by simp [impl_Truth.j0] at h
  | k + 1 => by
    have ih0 := impl_Truth.mono_l k
    · intro y0 y1 y2 y3 y4
      unfold impl_Truth.j0
      repeat' first
      | (with_reducible exact ih0 _ _ _ _ _)
      | (with_reducible exact LeO.refl _)
      | (with_reducible exact LeO.none _)
      | (with_reducible refine LeO.ite ?_ ?_)
      | (with_reducible refine LeO.bind ?_ (fun _ => ?_))
      | exact ih0 _ _ _ _ _
      | exact LeO.none _
      | refine LeO.ite ?_ ?_
      | refine LeO.bind ?_ (fun _ => ?_)
theorem impl_Truth.mono : ∀ a0 a1 a2 k, LeO (impl_Truth.f k a0 a1 a2) (impl_Truth.f (k + 1) a0 a1 a2) := by
  intro a0 a1 a2 k
  have ih0 := impl_Truth.mono_l k
  unfold impl_Truth.f
  repeat' first
      | (with_reducible exact ih0 _ _ _ _ _)
      | (with_reducible exact LeO.refl _)
      | (with_reducible exact LeO.none _)
      | (with_reducible refine LeO.ite ?_ ?_)
      | (with_reducible refine LeO.bind ?_ (fun _ => ?_))
      | exact ih0 _ _ _ _ _
      | exact LeO.none _
      | refine LeO.ite ?_ ?_
      | refine LeO.bind ?_ (fun _ => ?_)
noncomputable def impl_Truth.j0v (x4 : Int) (x5 : Bool) (x107000 : Int) (x107001 : Int) (x107002 : ByteArray) : Option (Bool) := limOf (fun k => impl_Truth.j0 k x4 x5 x107000 x107001 x107002)
theorem impl_Truth.j0_lim (x4 : Int) (x5 : Bool) (x107000 : Int) (x107001 : Int) (x107002 : ByteArray) : Lim (fun k => impl_Truth.j0 k x4 x5 x107000 x107001 x107002) (impl_Truth.j0v x4 x5 x107000 x107001 x107002) := Lim.of (fun k => impl_Truth.mono_l k x4 x5 x107000 x107001 x107002)
noncomputable def impl_Truth.fv (a0_0 : Int) (a0_1 : Int) (a0_2 : ByteArray) : Option (Bool) := limOf (fun k => impl_Truth.f k a0_0 a0_1 a0_2)
theorem impl_Truth.f_lim (a0_0 : Int) (a0_1 : Int) (a0_2 : ByteArray) : Lim (fun k => impl_Truth.f k a0_0 a0_1 a0_2) (impl_Truth.fv a0_0 a0_1 a0_2) := Lim.of (fun k => impl_Truth.mono a0_0 a0_1 a0_2 k)
set_option maxHeartbeats 4000000 in
theorem impl_Truth.j0v_eq (x4 : Int) (x5 : Bool) (x107000 : Int) (x107001 : Int) (x107002 : ByteArray) : impl_Truth.j0v x4 x5 x107000 x107001 x107002 = (if x5 = true then (some (x107001 != 0)) else (if x4 = 2 then (some (x107002.toList != ([] : List UInt8))) else (some false))) := by
  refine Lim.succ (impl_Truth.j0_lim x4 x5 x107000 x107001 x107002) ?_
  simp only [impl_Truth.j0]
  repeat' first
    | (with_reducible exact Lim.const _)
    | (with_reducible refine Lim.ite ?_ ?_)
    | (with_reducible refine Lim.bind ?_ (fun _ => ?_))
    | exact Lim.const _
    | refine Lim.ite ?_ ?_
    | refine Lim.bind ?_ (fun _ => ?_)
set_option maxHeartbeats 4000000 in
theorem impl_Truth.fv_eq (a0_0 : Int) (a0_1 : Int) (a0_2 : ByteArray) : impl_Truth.fv a0_0 a0_1 a0_2 = (if a0_0 = 1 then (impl_Truth.j0v a0_0 (a0_0 == 1) a0_0 a0_1 a0_2) else (impl_Truth.j0v a0_0 (a0_0 == 3) a0_0 a0_1 a0_2)) := by
  refine Lim.eq (impl_Truth.f_lim a0_0 a0_1 a0_2) ?_
  simp only [impl_Truth.f]
  repeat' first
    | (with_reducible apply impl_Truth.j0_lim)
    | (with_reducible exact Lim.const _)
    | (with_reducible refine Lim.ite ?_ ?_)
    | (with_reducible refine Lim.bind ?_ (fun _ => ?_))
    | apply impl_Truth.j0_lim
    | exact Lim.const _
    | refine Lim.ite ?_ ?_
    | refine Lim.bind ?_ (fun _ => ?_)

/-! ### laws_FnExactTruth -/
def laws_FnExactTruth.f (k : Nat) (a0_0 : Int) (a0_1 : Int) (a0_2 : ByteArray) : Option (Bool) := (laws_szVal.f a0_0 a0_1 a0_2 1048576).bind fun t108 => (if t108 < 0 then (some true) else ((laws_toVal.f a0_0 a0_1 a0_2).bind fun bt109 => ((spec_Truth.f k bt109.1 bt109.2.1 bt109.2.2).bind fun t112 => ((laws_toVal.f a0_0 a0_1 a0_2).bind fun bt113 => ((impl_Truth.f k bt113.1 bt113.2.1 bt113.2.2).bind fun t116 => (if (t116 != t112) = true then (some false) else (some true)))))))
theorem laws_FnExactTruth.mono : ∀ a0 a1 a2 k, LeO (laws_FnExactTruth.f k a0 a1 a2) (laws_FnExactTruth.f (k + 1) a0 a1 a2) := by
  intro a0 a1 a2 k
  unfold laws_FnExactTruth.f
  repeat' first
      | (with_reducible exact impl_Truth.mono _ _ _ _)
      | (with_reducible exact spec_Truth.mono _ _ _ _)
      | (with_reducible exact LeO.refl _)
      | (with_reducible exact LeO.none _)
      | (with_reducible refine LeO.ite ?_ ?_)
      | (with_reducible refine LeO.bind ?_ (fun _ => ?_))
      | exact impl_Truth.mono _ _ _ _
      | exact spec_Truth.mono _ _ _ _
      | exact LeO.none _
      | refine LeO.ite ?_ ?_
      | refine LeO.bind ?_ (fun _ => ?_)
noncomputable def laws_FnExactTruth.fv (a0_0 : Int) (a0_1 : Int) (a0_2 : ByteArray) : Option (Bool) := limOf (fun k => laws_FnExactTruth.f k a0_0 a0_1 a0_2)
theorem laws_FnExactTruth.f_lim (a0_0 : Int) (a0_1 : Int) (a0_2 : ByteArray) : Lim (fun k => laws_FnExactTruth.f k a0_0 a0_1 a0_2) (laws_FnExactTruth.fv a0_0 a0_1 a0_2) := Lim.of (fun k => laws_FnExactTruth.mono a0_0 a0_1 a0_2 k)
set_option maxHeartbeats 4000000 in
theorem laws_FnExactTruth.fv_eq (a0_0 : Int) (a0_1 : Int) (a0_2 : ByteArray) : laws_FnExactTruth.fv a0_0 a0_1 a0_2 = ((laws_szVal.f a0_0 a0_1 a0_2 1048576).bind fun t108 => (if t108 < 0 then (some true) else ((laws_toVal.f a0_0 a0_1 a0_2).bind fun bt109 => ((spec_Truth.fv bt109.1 bt109.2.1 bt109.2.2).bind fun t112 => ((laws_toVal.f a0_0 a0_1 a0_2).bind fun bt113 => ((impl_Truth.fv bt113.1 bt113.2.1 bt113.2.2).bind fun t116 => (if (t116 != t112) = true then (some false) else (some true)))))))) := by
  refine Lim.eq (laws_FnExactTruth.f_lim a0_0 a0_1 a0_2) ?_
  simp only [laws_FnExactTruth.f]
  repeat' first
    | (with_reducible apply impl_Truth.f_lim)
    | (with_reducible apply spec_Truth.f_lim)
    | (with_reducible exact Lim.const _)
    | (with_reducible refine Lim.ite ?_ ?_)
    | (with_reducible refine Lim.bind ?_ (fun _ => ?_))
    | apply impl_Truth.f_lim
    | apply spec_Truth.f_lim
    | exact Lim.const _
    | refine Lim.ite ?_ ?_
    | refine Lim.bind ?_ (fun _ => ?_)

end Go.Proofs.Ytakicaelepgmcaa.QFnExactTruth
