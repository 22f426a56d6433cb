/- Written by wip/pr2, a program of this session. -/
import Derived.Test.YthigelphmjepaaaQFnExactTidyx0
import Derived.Test.YthigelphmjepaaaQFnExactTidyx3
import Derived.Test.YthigelphmjepaaaWFnExactTidy
namespace Go.Proofs.Ythigelphmjepaaa.QFnExactTidy
open Go.RowKit Go.Proofs.YthigelphmjepaaaW.PrintWords Go.Proofs.YthigelphmjepaaaW.PrintLast Go.Proofs.YthigelphmjepaaaW.PrintMore
attribute [local go_sem] max2_int min2_int max_two min_two max_three min_three max_four min_four   -- for this text's walks alone
set_option linter.unusedVariables false
set_option linter.unusedSimpArgs false
set_option maxHeartbeats 8000000

open Go.Proofs.YthigelphmjepaaaW.Lims
/-! ### impl_Keyword -/
def impl_Keyword.j0 : Nat → ByteArray → Bool → Option (Bool)
  | 0, _, _ => none
  | k + 1, x0, x4 => if x4 = true then (some true) else ((impl_calls.f).bind fun t242 => ((slices_Contains_string_string.f k t242 x0).bind fun t245 => (some t245)))
def impl_Keyword.f (k : Nat) (a0 : ByteArray) : Option (Bool) := if a0.toList = ([66, 69, 71, 73, 78] : List UInt8) then (impl_Keyword.j0 k a0 (a0.toList == ([66, 69, 71, 73, 78] : List UInt8))) else (if a0.toList = ([112, 114, 105, 110, 116] : List UInt8) then (impl_Keyword.j0 k a0 (a0.toList == ([112, 114, 105, 110, 116] : List UInt8))) else (if a0.toList = ([105, 102] : List UInt8) then (impl_Keyword.j0 k a0 (a0.toList == ([105, 102] : List UInt8))) else (if a0.toList = ([101, 108, 115, 101] : List UInt8) then (impl_Keyword.j0 k a0 (a0.toList == ([101, 108, 115, 101] : List UInt8))) else (if a0.toList = ([119, 104, 105, 108, 101] : List UInt8) then (impl_Keyword.j0 k a0 (a0.toList == ([119, 104, 105, 108, 101] : List UInt8))) else (if a0.toList = ([110, 101, 120, 116] : List UInt8) then (impl_Keyword.j0 k a0 (a0.toList == ([110, 101, 120, 116] : List UInt8))) else (if a0.toList = ([100, 101, 108, 101, 116, 101] : List UInt8) then (impl_Keyword.j0 k a0 (a0.toList == ([100, 101, 108, 101, 116, 101] : List UInt8))) else (if a0.toList = ([78, 82] : List UInt8) then (impl_Keyword.j0 k a0 (a0.toList == ([78, 82] : List UInt8))) else (impl_Keyword.j0 k a0 (a0.toList == ([78, 70] : List UInt8))))))))))
theorem impl_Keyword.mono_l : ∀ k, (∀ y0 y1, LeO (impl_Keyword.j0 k y0 y1) (impl_Keyword.j0 (k + 1) y0 y1))
  | 0 => fun _ _ r h => by simp [impl_Keyword.j0] at h
  | k + 1 => by
    have ih0 := impl_Keyword.mono_l k
    · intro y0 y1
      unfold impl_Keyword.j0
      repeat' first
      | (with_reducible exact ih0 _ _)
      | (with_reducible exact slices_Contains_string_string.mono _ _ _)
      | (with_reducible exact LeO.refl _)
      | (with_reducible exact LeO.none _)
      | (with_reducible refine LeO.ite ?_ ?_)
      | (with_reducible refine LeO.bind ?_ (fun _ => ?_))
      | exact ih0 _ _
      | exact slices_Contains_string_string.mono _ _ _
      | exact LeO.none _
      | refine LeO.ite ?_ ?_
      | refine LeO.bind ?_ (fun _ => ?_)
theorem impl_Keyword.mono : ∀ a0 k, LeO (impl_Keyword.f k a0) (impl_Keyword.f (k + 1) a0) := by
  intro a0 k
  have ih0 := impl_Keyword.mono_l k
  unfold impl_Keyword.f
  repeat' first
      | (with_reducible exact ih0 _ _)
      | (with_reducible exact slices_Contains_string_string.mono _ _ _)
      | (with_reducible exact LeO.refl _)
      | (with_reducible exact LeO.none _)
      | (with_reducible refine LeO.ite ?_ ?_)
      | (with_reducible refine LeO.bind ?_ (fun _ => ?_))
      | exact ih0 _ _
      | exact slices_Contains_string_string.mono _ _ _
      | exact LeO.none _
      | refine LeO.ite ?_ ?_
      | refine LeO.bind ?_ (fun _ => ?_)
noncomputable def impl_Keyword.j0v (x0 : ByteArray) (x4 : Bool) : Option (Bool) := limOf (fun k => impl_Keyword.j0 k x0 x4)
theorem impl_Keyword.j0_lim (x0 : ByteArray) (x4 : Bool) : Lim (fun k => impl_Keyword.j0 k x0 x4) (impl_Keyword.j0v x0 x4) := Lim.of (fun k => impl_Keyword.mono_l k x0 x4)
noncomputable def impl_Keyword.fv (a0 : ByteArray) : Option (Bool) := limOf (fun k => impl_Keyword.f k a0)
theorem impl_Keyword.f_lim (a0 : ByteArray) : Lim (fun k => impl_Keyword.f k a0) (impl_Keyword.fv a0) := Lim.of (fun k => impl_Keyword.mono a0 k)
set_option maxHeartbeats 4000000 in
theorem impl_Keyword.j0v_eq (x0 : ByteArray) (x4 : Bool) : impl_Keyword.j0v x0 x4 = (if x4 = true then (some true) else ((impl_calls.f).bind fun t242 => ((slices_Contains_string_string.fv t242 x0).bind fun t245 => (some t245)))) := by
  refine Lim.succ (impl_Keyword.j0_lim x0 x4) ?_
  simp only [impl_Keyword.j0]
  repeat' first
    | (with_reducible apply slices_Contains_string_string.f_lim)
    | (with_reducible exact Lim.const _)
    | (with_reducible refine Lim.ite ?_ ?_)
    | (with_reducible refine Lim.bind ?_ (fun _ => ?_))
    | apply slices_Contains_string_string.f_lim
    | exact Lim.const _
    | refine Lim.ite ?_ ?_
    | refine Lim.bind ?_ (fun _ => ?_)
set_option maxHeartbeats 4000000 in
theorem impl_Keyword.fv_eq (a0 : ByteArray) : impl_Keyword.fv a0 = (if a0.toList = ([66, 69, 71, 73, 78] : List UInt8) then (impl_Keyword.j0v a0 (a0.toList == ([66, 69, 71, 73, 78] : List UInt8))) else (if a0.toList = ([112, 114, 105, 110, 116] : List UInt8) then (impl_Keyword.j0v a0 (a0.toList == ([112, 114, 105, 110, 116] : List UInt8))) else (if a0.toList = ([105, 102] : List UInt8) then (impl_Keyword.j0v a0 (a0.toList == ([105, 102] : List UInt8))) else (if a0.toList = ([101, 108, 115, 101] : List UInt8) then (impl_Keyword.j0v a0 (a0.toList == ([101, 108, 115, 101] : List UInt8))) else (if a0.toList = ([119, 104, 105, 108, 101] : List UInt8) then (impl_Keyword.j0v a0 (a0.toList == ([119, 104, 105, 108, 101] : List UInt8))) else (if a0.toList = ([110, 101, 120, 116] : List UInt8) then (impl_Keyword.j0v a0 (a0.toList == ([110, 101, 120, 116] : List UInt8))) else (if a0.toList = ([100, 101, 108, 101, 116, 101] : List UInt8) then (impl_Keyword.j0v a0 (a0.toList == ([100, 101, 108, 101, 116, 101] : List UInt8))) else (if a0.toList = ([78, 82] : List UInt8) then (impl_Keyword.j0v a0 (a0.toList == ([78, 82] : List UInt8))) else (impl_Keyword.j0v a0 (a0.toList == ([78, 70] : List UInt8))))))))))) := by
  refine Lim.eq (impl_Keyword.f_lim a0) ?_
  simp only [impl_Keyword.f]
  repeat' first
    | (with_reducible apply impl_Keyword.j0_lim)
    | (with_reducible exact Lim.const _)
    | (with_reducible refine Lim.ite ?_ ?_)
    | (with_reducible refine Lim.bind ?_ (fun _ => ?_))
    | apply impl_Keyword.j0_lim
    | exact Lim.const _
    | refine Lim.ite ?_ ?_
    | refine Lim.bind ?_ (fun _ => ?_)

/-! ### impl_isName -/
def impl_isName.f (k : Nat) (a0 : ByteArray) : Option (Bool) := (impl_in.f (a0.size : Int) 1 8).bind fun t246 => (if t246 = true then ((impl_lettersAt.f k a0 0).bind fun t247 => (if t247 = (a0.size : Int) then ((impl_Keyword.f k a0).bind fun t248 => (some (!t248))) else (some false))) else (some false))
theorem impl_isName.mono : ∀ a0 k, LeO (impl_isName.f k a0) (impl_isName.f (k + 1) a0) := by
  intro a0 k
  unfold impl_isName.f
  repeat' first
      | (with_reducible exact impl_Keyword.mono _ _)
      | (with_reducible exact impl_lettersAt.mono _ _ _)
      | (with_reducible exact LeO.refl _)
      | (with_reducible exact LeO.none _)
      | (with_reducible refine LeO.ite ?_ ?_)
      | (with_reducible refine LeO.bind ?_ (fun _ => ?_))
      | exact impl_Keyword.mono _ _
      | exact impl_lettersAt.mono _ _ _
      | exact LeO.none _
      | refine LeO.ite ?_ ?_
      | refine LeO.bind ?_ (fun _ => ?_)
noncomputable def impl_isName.fv (a0 : ByteArray) : Option (Bool) := limOf (fun k => impl_isName.f k a0)
theorem impl_isName.f_lim (a0 : ByteArray) : Lim (fun k => impl_isName.f k a0) (impl_isName.fv a0) := Lim.of (fun k => impl_isName.mono a0 k)
set_option maxHeartbeats 4000000 in
theorem impl_isName.fv_eq (a0 : ByteArray) : impl_isName.fv a0 = ((impl_in.f (a0.size : Int) 1 8).bind fun t246 => (if t246 = true then ((impl_lettersAt.fv a0 0).bind fun t247 => (if t247 = (a0.size : Int) then ((impl_Keyword.fv a0).bind fun t248 => (some (!t248))) else (some false))) else (some false))) := by
  refine Lim.eq (impl_isName.f_lim a0) ?_
  simp only [impl_isName.f]
  repeat' first
    | (with_reducible apply impl_Keyword.f_lim)
    | (with_reducible apply impl_lettersAt.f_lim)
    | (with_reducible exact Lim.const _)
    | (with_reducible refine Lim.ite ?_ ?_)
    | (with_reducible refine Lim.bind ?_ (fun _ => ?_))
    | apply impl_Keyword.f_lim
    | apply impl_lettersAt.f_lim
    | exact Lim.const _
    | refine Lim.ite ?_ ?_
    | refine Lim.bind ?_ (fun _ => ?_)

/-! ### impl_isE -/
mutual
def impl_allEs_1.f : Nat → Int → Int → ByteArray → List (S66) → Option (Bool)
  | 0, _, _, _, _ => none
  | k + 1, a0_0, a0_1, a0_2, l0_3 => (impl_isE.f k a0_0 a0_1 a0_2 l0_3).bind fun t250 => (some (!t250))
def impl_Node_117_190.l0 : Nat → List (S66) → Int → Int → Option (Int)
  | 0, _, _, _ => none
  | k + 1, x0, x7, x8 => if x8 < x7 then (if 0 ≤ x8 then (if x8 < (x0.length : Int) then ((impl_allEs_1.f k ((rd_T66 x0 x8).f0) ((rd_T66 x0 x8).f1) ((rd_T66 x0 x8).f2) ((rd_T66 x0 x8).f3)).bind fun t252 => (if t252 = true then (some x8) else (impl_Node_117_190.l0 k x0 x7 (wrap64 (x8 + 1))))) else (none)) else (none)) else (some (-1))
def impl_Node_117_190.f : Nat → List (S66) → Option (Int)
  | 0, _ => none
  | k + 1, l0 => impl_Node_117_190.l0 k l0 (l0.length : Int) 0
def impl_Node_117_189.f : Nat → List (S66) → Option (Bool)
  | 0, _ => none
  | k + 1, l0 => (impl_Node_117_190.f k l0).bind fun t253 => (some (decide (t253 ≥ 0)))
def impl_allEs.f : Nat → List (S66) → Option (Bool)
  | 0, _ => none
  | k + 1, l0 => (impl_Node_117_189.f k l0).bind fun t254 => (some (!t254))
def impl_isE.j0 : Nat → Int → Int → Bool → Int → Int → ByteArray → List (S66) → Option (Bool)
  | 0, _, _, _, _, _, _, _ => none
  | k + 1, x3, x9, x101, x256000, x256001, x256002, x256003 => if x101 = true then ((impl_plainNode.f x256000 x256001 x256002 x256003).bind fun t266 => (if t266 = true then (if x3 = 0 then ((impl_allEs.f k x256003).bind fun t267 => (some t267)) else (some false)) else (some false))) else (if x9 = 6 then (impl_isE.j1 k x3 x9 (x9 == 6) x256000 x256001 x256002 x256003) else (if x9 = 22 then (impl_isE.j1 k x3 x9 (x9 == 22) x256000 x256001 x256002 x256003) else (impl_isE.j1 k x3 x9 (x9 == 23) x256000 x256001 x256002 x256003)))
def impl_isE.j1 : Nat → Int → Int → Bool → Int → Int → ByteArray → List (S66) → Option (Bool)
  | 0, _, _, _, _, _, _, _ => none
  | k + 1, x3, x9, x110, x256000, x256001, x256002, x256003 => if x110 = true then ((impl_plainNode.f x256000 x256001 x256002 x256003).bind fun t268 => (if t268 = true then (if x3 = 1 then ((impl_allEs.f k x256003).bind fun t269 => (some t269)) else (some false)) else (some false))) else (if x9 = 26 then (impl_isE.j2 k x3 x9 (x9 == 26) x256000 x256001 x256002 x256003) else (impl_isE.j2 k x3 x9 (x9 == 27) x256000 x256001 x256002 x256003))
def impl_isE.j2 : Nat → Int → Int → Bool → Int → Int → ByteArray → List (S66) → Option (Bool)
  | 0, _, _, _, _, _, _, _ => none
  | k + 1, x3, x9, x120, x256000, x256001, x256002, x256003 => if x120 = true then ((impl_plainNode.f x256000 x256001 x256002 x256003).bind fun t270 => (if t270 = true then (if x3 = 2 then (if 0 < (x256003.length : Int) then (if ((rd_T66 x256003 0).f0) = 4 then ((impl_allEs.f k x256003).bind fun t272 => (some t272)) else (if ((rd_T66 x256003 0).f0) = 5 then ((impl_allEs.f k x256003).bind fun t274 => (some t274)) else (some false))) else (none)) else (some false)) else (some false))) else (if x9 = 28 then (if x256001 = 0 then ((impl_calls.f).bind fun t275 => ((slices_Contains_string_string.f k t275 x256002).bind fun t278 => (if t278 = true then ((impl_allEs.f k x256003).bind fun t279 => (some t279)) else (some false)))) else (some false)) else ((impl_in.f x256000 9 21).bind fun t280 => (if t280 = true then ((impl_plainNode.f x256000 x256001 x256002 x256003).bind fun t281 => (if t281 = true then (if x3 = 2 then ((impl_allEs.f k x256003).bind fun t282 => (some t282)) else (some false)) else (some false))) else (if x256000 = 24 then ((impl_plainNode.f x256000 x256001 x256002 x256003).bind fun t283 => (if t283 = true then (if x3 = 2 then ((impl_allEs.f k x256003).bind fun t284 => (some t284)) else (some false)) else (some false))) else (if x256000 = 25 then ((impl_plainNode.f x256000 x256001 x256002 x256003).bind fun t285 => (if t285 = true then (if x3 = 2 then ((impl_allEs.f k x256003).bind fun t286 => (some t286)) else (some false)) else (some false))) else (some false))))))
def impl_isE.f : Nat → Int → Int → ByteArray → List (S66) → Option (Bool)
  | 0, _, _, _, _ => none
  | k + 1, a0_0, a0_1, a0_2, l0_3 => if a0_0 = 1 then ((impl_in.f a0_1 0 9000000000000).bind fun t256 => (if t256 = true then (if a0_2.toList = ([] : List UInt8) then (if (l0_3.length : Int) = 0 then ((impl_allEs.f k l0_3).bind fun t257 => (some t257)) else (some false)) else (some false)) else (some false))) else (if a0_0 = 2 then (if a0_1 = 0 then ((impl_tokenText.f a0_2).bind fun t258 => (if t258 = true then (if (l0_3.length : Int) = 0 then ((impl_allEs.f k l0_3).bind fun t259 => (some t259)) else (some false)) else (some false))) else (some false)) else (if a0_0 = 3 then (if a0_1 = 0 then ((impl_tokenRex.f k a0_2).bind fun t260 => (if t260 = true then (if (l0_3.length : Int) = 0 then ((impl_allEs.f k l0_3).bind fun t261 => (some t261)) else (some false)) else (some false))) else (some false)) else (if a0_0 = 4 then (if a0_1 = 0 then ((impl_isName.f k a0_2).bind fun t262 => (if t262 = true then (if (l0_3.length : Int) = 0 then ((impl_allEs.f k l0_3).bind fun t263 => (some t263)) else (some false)) else (some false))) else (some false)) else (if a0_0 = 5 then (if a0_1 = 0 then ((impl_isName.f k a0_2).bind fun t264 => (if t264 = true then (if (l0_3.length : Int) = 1 then ((impl_allEs.f k l0_3).bind fun t265 => (some t265)) else (some false)) else (some false))) else (some false)) else (if a0_0 = 7 then (impl_isE.j0 k (l0_3.length : Int) a0_0 (a0_0 == 7) a0_0 a0_1 a0_2 l0_3) else (impl_isE.j0 k (l0_3.length : Int) a0_0 (a0_0 == 8) a0_0 a0_1 a0_2 l0_3))))))
end
set_option maxHeartbeats 8000000 in
theorem impl_allEs_1.mono_g : ∀ k, (∀ y0 y1 y2 y3, LeO (impl_allEs_1.f k y0 y1 y2 y3) (impl_allEs_1.f (k + 1) y0 y1 y2 y3)) ∧ (∀ y0, LeO (impl_Node_117_190.f k y0) (impl_Node_117_190.f (k + 1) y0)) ∧ (∀ y0 y1 y2, LeO (impl_Node_117_190.l0 k y0 y1 y2) (impl_Node_117_190.l0 (k + 1) y0 y1 y2)) ∧ (∀ y0, LeO (impl_Node_117_189.f k y0) (impl_Node_117_189.f (k + 1) y0)) ∧ (∀ y0, LeO (impl_allEs.f k y0) (impl_allEs.f (k + 1) y0)) ∧ (∀ y0 y1 y2 y3, LeO (impl_isE.f k y0 y1 y2 y3) (impl_isE.f (k + 1) y0 y1 y2 y3)) ∧ (∀ y0 y1 y2 y3 y4 y5 y6, LeO (impl_isE.j0 k y0 y1 y2 y3 y4 y5 y6) (impl_isE.j0 (k + 1) y0 y1 y2 y3 y4 y5 y6)) ∧ (∀ y0 y1 y2 y3 y4 y5 y6, LeO (impl_isE.j1 k y0 y1 y2 y3 y4 y5 y6) (impl_isE.j1 (k + 1) y0 y1 y2 y3 y4 y5 y6)) ∧ (∀ y0 y1 y2 y3 y4 y5 y6, LeO (impl_isE.j2 k y0 y1 y2 y3 y4 y5 y6) (impl_isE.j2 (k + 1) y0 y1 y2 y3 y4 y5 y6))
  | 0 => ⟨fun _ _ _ _ r h => by simp [impl_allEs_1.f] at h, fun _ r h => by simp [impl_Node_117_190.f] at h, fun _ _ _ r h => by simp [impl_Node_117_190.l0] at h, fun _ r h => by simp [impl_Node_117_189.f] at h, fun _ r h => by simp [impl_allEs.f] at h, fun _ _ _ _ r h => by simp [impl_isE.f] at h, fun _ _ _ _ _ _ _ r h => by simp [impl_isE.j0] at h, fun _ _ _ _ _ _ _ r h => by simp [impl_isE.j1] at h, fun _ _ _ _ _ _ _ r h => by simp [impl_isE.j2] at h⟩
  | k + 1 => by
    obtain ⟨ih0, ih1, ih2, ih3, ih4, ih5, ih6, ih7, ih8⟩ := impl_allEs_1.mono_g k
    refine ⟨?_, ?_, ?_, ?_, ?_, ?_, ?_, ?_, ?_⟩
    · intro y0 y1 y2 y3
      unfold impl_allEs_1.f
      repeat' first
      | (with_reducible exact ih0 _ _ _ _)
      | (with_reducible exact ih1 _)
      | (with_reducible exact ih2 _ _ _)
      | (with_reducible exact ih3 _)
      | (with_reducible exact ih4 _)
      | (with_reducible exact ih5 _ _ _ _)
      | (with_reducible exact ih6 _ _ _ _ _ _ _)
      | (with_reducible exact ih7 _ _ _ _ _ _ _)
      | (with_reducible exact ih8 _ _ _ _ _ _ _)
      | (with_reducible exact impl_isName.mono _ _)
      | (with_reducible exact impl_tokenRex.mono _ _)
      | (with_reducible exact slices_Contains_string_string.mono _ _ _)
      | (with_reducible exact LeO.refl _)
      | (with_reducible exact LeO.none _)
      | (with_reducible refine LeO.ite ?_ ?_)
      | (with_reducible refine LeO.bind ?_ (fun _ => ?_))
      | exact ih0 _ _ _ _
      | exact ih1 _
      | exact ih2 _ _ _
      | exact ih3 _
      | exact ih4 _
      | exact ih5 _ _ _ _
      | exact ih6 _ _ _ _ _ _ _
      | exact ih7 _ _ _ _ _ _ _
      | exact ih8 _ _ _ _ _ _ _
      | exact impl_isName.mono _ _
      | exact impl_tokenRex.mono _ _
      | exact slices_Contains_string_string.mono _ _ _
      | exact LeO.none _
      | refine LeO.ite ?_ ?_
      | refine LeO.bind ?_ (fun _ => ?_)
    · intro y0
      unfold impl_Node_117_190.f
      repeat' first
      | (with_reducible exact ih0 _ _ _ _)
      | (with_reducible exact ih1 _)
      | (with_reducible exact ih2 _ _ _)
      | (with_reducible exact ih3 _)
      | (with_reducible exact ih4 _)
      | (with_reducible exact ih5 _ _ _ _)
      | (with_reducible exact ih6 _ _ _ _ _ _ _)
      | (with_reducible exact ih7 _ _ _ _ _ _ _)
      | (with_reducible exact ih8 _ _ _ _ _ _ _)
      | (with_reducible exact impl_isName.mono _ _)
      | (with_reducible exact impl_tokenRex.mono _ _)
      | (with_reducible exact slices_Contains_string_string.mono _ _ _)
      | (with_reducible exact LeO.refl _)
      | (with_reducible exact LeO.none _)
      | (with_reducible refine LeO.ite ?_ ?_)
      | (with_reducible refine LeO.bind ?_ (fun _ => ?_))
      | exact ih0 _ _ _ _
      | exact ih1 _
      | exact ih2 _ _ _
      | exact ih3 _
      | exact ih4 _
      | exact ih5 _ _ _ _
      | exact ih6 _ _ _ _ _ _ _
      | exact ih7 _ _ _ _ _ _ _
      | exact ih8 _ _ _ _ _ _ _
      | exact impl_isName.mono _ _
      | exact impl_tokenRex.mono _ _
      | exact slices_Contains_string_string.mono _ _ _
      | exact LeO.none _
      | refine LeO.ite ?_ ?_
      | refine LeO.bind ?_ (fun _ => ?_)
    · intro y0 y1 y2
      unfold impl_Node_117_190.l0
      repeat' first
      | (with_reducible exact ih0 _ _ _ _)
      | (with_reducible exact ih1 _)
      | (with_reducible exact ih2 _ _ _)
      | (with_reducible exact ih3 _)
      | (with_reducible exact ih4 _)
      | (with_reducible exact ih5 _ _ _ _)
      | (with_reducible exact ih6 _ _ _ _ _ _ _)
      | (with_reducible exact ih7 _ _ _ _ _ _ _)
      | (with_reducible exact ih8 _ _ _ _ _ _ _)
      | (with_reducible exact impl_isName.mono _ _)
      | (with_reducible exact impl_tokenRex.mono _ _)
      | (with_reducible exact slices_Contains_string_string.mono _ _ _)
      | (with_reducible exact LeO.refl _)
      | (with_reducible exact LeO.none _)
      | (with_reducible refine LeO.ite ?_ ?_)
      | (with_reducible refine LeO.bind ?_ (fun _ => ?_))
      | exact ih0 _ _ _ _
      | exact ih1 _
      | exact ih2 _ _ _
      | exact ih3 _
      | exact ih4 _
      | exact ih5 _ _ _ _
      | exact ih6 _ _ _ _ _ _ _
      | exact ih7 _ _ _ _ _ _ _
      | exact ih8 _ _ _ _ _ _ _
      | exact impl_isName.mono _ _
      | exact impl_tokenRex.mono _ _
      | exact slices_Contains_string_string.mono _ _ _
      | exact LeO.none _
      | refine LeO.ite ?_ ?_
      | refine LeO.bind ?_ (fun _ => ?_)
    · intro y0
      unfold impl_Node_117_189.f
      repeat' first
      | (with_reducible exact ih0 _ _ _ _)
      | (with_reducible exact ih1 _)
      | (with_reducible exact ih2 _ _ _)
      | (with_reducible exact ih3 _)
      | (with_reducible exact ih4 _)
      | (with_reducible exact ih5 _ _ _ _)
      | (with_reducible exact ih6 _ _ _ _ _ _ _)
      | (with_reducible exact ih7 _ _ _ _ _ _ _)
      | (with_reducible exact ih8 _ _ _ _ _ _ _)
      | (with_reducible exact impl_isName.mono _ _)
      | (with_reducible exact impl_tokenRex.mono _ _)
      | (with_reducible exact slices_Contains_string_string.mono _ _ _)
      | (with_reducible exact LeO.refl _)
      | (with_reducible exact LeO.none _)
      | (with_reducible refine LeO.ite ?_ ?_)
      | (with_reducible refine LeO.bind ?_ (fun _ => ?_))
      | exact ih0 _ _ _ _
      | exact ih1 _
      | exact ih2 _ _ _
      | exact ih3 _
      | exact ih4 _
      | exact ih5 _ _ _ _
      | exact ih6 _ _ _ _ _ _ _
      | exact ih7 _ _ _ _ _ _ _
      | exact ih8 _ _ _ _ _ _ _
      | exact impl_isName.mono _ _
      | exact impl_tokenRex.mono _ _
      | exact slices_Contains_string_string.mono _ _ _
      | exact LeO.none _
      | refine LeO.ite ?_ ?_
      | refine LeO.bind ?_ (fun _ => ?_)
    · intro y0
      unfold impl_allEs.f
      repeat' first
      | (with_reducible exact ih0 _ _ _ _)
      | (with_reducible exact ih1 _)
      | (with_reducible exact ih2 _ _ _)
      | (with_reducible exact ih3 _)
      | (with_reducible exact ih4 _)
      | (with_reducible exact ih5 _ _ _ _)
      | (with_reducible exact ih6 _ _ _ _ _ _ _)
      | (with_reducible exact ih7 _ _ _ _ _ _ _)
      | (with_reducible exact ih8 _ _ _ _ _ _ _)
      | (with_reducible exact impl_isName.mono _ _)
      | (with_reducible exact impl_tokenRex.mono _ _)
      | (with_reducible exact slices_Contains_string_string.mono _ _ _)
      | (with_reducible exact LeO.refl _)
      | (with_reducible exact LeO.none _)
      | (with_reducible refine LeO.ite ?_ ?_)
      | (with_reducible refine LeO.bind ?_ (fun _ => ?_))
      | exact ih0 _ _ _ _
      | exact ih1 _
      | exact ih2 _ _ _
      | exact ih3 _
      | exact ih4 _
      | exact ih5 _ _ _ _
      | exact ih6 _ _ _ _ _ _ _
      | exact ih7 _ _ _ _ _ _ _
      | exact ih8 _ _ _ _ _ _ _
      | exact impl_isName.mono _ _
      | exact impl_tokenRex.mono _ _
      | exact slices_Contains_string_string.mono _ _ _
      | exact LeO.none _
      | refine LeO.ite ?_ ?_
      | refine LeO.bind ?_ (fun _ => ?_)
    · intro y0 y1 y2 y3
      unfold impl_isE.f
      repeat' first
      | (with_reducible exact ih0 _ _ _ _)
      | (with_reducible exact ih1 _)
      | (with_reducible exact ih2 _ _ _)
      | (with_reducible exact ih3 _)
      | (with_reducible exact ih4 _)
      | (with_reducible exact ih5 _ _ _ _)
      | (with_reducible exact ih6 _ _ _ _ _ _ _)
      | (with_reducible exact ih7 _ _ _ _ _ _ _)
      | (with_reducible exact ih8 _ _ _ _ _ _ _)
      | (with_reducible exact impl_isName.mono _ _)
      | (with_reducible exact impl_tokenRex.mono _ _)
      | (with_reducible exact slices_Contains_string_string.mono _ _ _)
      | (with_reducible exact LeO.refl _)
      | (with_reducible exact LeO.none _)
      | (with_reducible refine LeO.ite ?_ ?_)
      | (with_reducible refine LeO.bind ?_ (fun _ => ?_))
      | exact ih0 _ _ _ _
      | exact ih1 _
      | exact ih2 _ _ _
      | exact ih3 _
      | exact ih4 _
      | exact ih5 _ _ _ _
      | exact ih6 _ _ _ _ _ _ _
      | exact ih7 _ _ _ _ _ _ _
      | exact ih8 _ _ _ _ _ _ _
      | exact impl_isName.mono _ _
      | exact impl_tokenRex.mono _ _
      | exact slices_Contains_string_string.mono _ _ _
      | exact LeO.none _
      | refine LeO.ite ?_ ?_
      | refine LeO.bind ?_ (fun _ => ?_)
    · intro y0 y1 y2 y3 y4 y5 y6
      unfold impl_isE.j0
      repeat' first
      | (with_reducible exact ih0 _ _ _ _)
      | (with_reducible exact ih1 _)
      | (with_reducible exact ih2 _ _ _)
      | (with_reducible exact ih3 _)
      | (with_reducible exact ih4 _)
      | (with_reducible exact ih5 _ _ _ _)
      | (with_reducible exact ih6 _ _ _ _ _ _ _)
      | (with_reducible exact ih7 _ _ _ _ _ _ _)
      | (with_reducible exact ih8 _ _ _ _ _ _ _)
      | (with_reducible exact impl_isName.mono _ _)
      | (with_reducible exact impl_tokenRex.mono _ _)
      | (with_reducible exact slices_Contains_string_string.mono _ _ _)
      | (with_reducible exact LeO.refl _)
      | (with_reducible exact LeO.none _)
      | (with_reducible refine LeO.ite ?_ ?_)
      | (with_reducible refine LeO.bind ?_ (fun _ => ?_))
      | exact ih0 _ _ _ _
      | exact ih1 _
      | exact ih2 _ _ _
      | exact ih3 _
      | exact ih4 _
      | exact ih5 _ _ _ _
      | exact ih6 _ _ _ _ _ _ _
      | exact ih7 _ _ _ _ _ _ _
      | exact ih8 _ _ _ _ _ _ _
      | exact impl_isName.mono _ _
      | exact impl_tokenRex.mono _ _
      | exact slices_Contains_string_string.mono _ _ _
      | exact LeO.none _
      | refine LeO.ite ?_ ?_
      | refine LeO.bind ?_ (fun _ => ?_)
    · intro y0 y1 y2 y3 y4 y5 y6
      unfold impl_isE.j1
      repeat' first
      | (with_reducible exact ih0 _ _ _ _)
      | (with_reducible exact ih1 _)
      | (with_reducible exact ih2 _ _ _)
      | (with_reducible exact ih3 _)
      | (with_reducible exact ih4 _)
      | (with_reducible exact ih5 _ _ _ _)
      | (with_reducible exact ih6 _ _ _ _ _ _ _)
      | (with_reducible exact ih7 _ _ _ _ _ _ _)
      | (with_reducible exact ih8 _ _ _ _ _ _ _)
      | (with_reducible exact impl_isName.mono _ _)
      | (with_reducible exact impl_tokenRex.mono _ _)
      | (with_reducible exact slices_Contains_string_string.mono _ _ _)
      | (with_reducible exact LeO.refl _)
      | (with_reducible exact LeO.none _)
      | (with_reducible refine LeO.ite ?_ ?_)
      | (with_reducible refine LeO.bind ?_ (fun _ => ?_))
      | exact ih0 _ _ _ _
      | exact ih1 _
      | exact ih2 _ _ _
      | exact ih3 _
      | exact ih4 _
      | exact ih5 _ _ _ _
      | exact ih6 _ _ _ _ _ _ _
      | exact ih7 _ _ _ _ _ _ _
      | exact ih8 _ _ _ _ _ _ _
      | exact impl_isName.mono _ _
      | exact impl_tokenRex.mono _ _
      | exact slices_Contains_string_string.mono _ _ _
      | exact LeO.none _
      | refine LeO.ite ?_ ?_
      | refine LeO.bind ?_ (fun _ => ?_)
    · intro y0 y1 y2 y3 y4 y5 y6
      unfold impl_isE.j2
      repeat' first
      | (with_reducible exact ih0 _ _ _ _)
      | (with_reducible exact ih1 _)
      | (with_reducible exact ih2 _ _ _)
      | (with_reducible exact ih3 _)
      | (with_reducible exact ih4 _)
      | (with_reducible exact ih5 _ _ _ _)
      | (with_reducible exact ih6 _ _ _ _ _ _ _)
      | (with_reducible exact ih7 _ _ _ _ _ _ _)
      | (with_reducible exact ih8 _ _ _ _ _ _ _)
      | (with_reducible exact impl_isName.mono _ _)
      | (with_reducible exact impl_tokenRex.mono _ _)
      | (with_reducible exact slices_Contains_string_string.mono _ _ _)
      | (with_reducible exact LeO.refl _)
      | (with_reducible exact LeO.none _)
      | (with_reducible refine LeO.ite ?_ ?_)
      | (with_reducible refine LeO.bind ?_ (fun _ => ?_))
      | exact ih0 _ _ _ _
      | exact ih1 _
      | exact ih2 _ _ _
      | exact ih3 _
      | exact ih4 _
      | exact ih5 _ _ _ _
      | exact ih6 _ _ _ _ _ _ _
      | exact ih7 _ _ _ _ _ _ _
      | exact ih8 _ _ _ _ _ _ _
      | exact impl_isName.mono _ _
      | exact impl_tokenRex.mono _ _
      | exact slices_Contains_string_string.mono _ _ _
      | exact LeO.none _
      | refine LeO.ite ?_ ?_
      | refine LeO.bind ?_ (fun _ => ?_)
theorem impl_allEs_1.mono : ∀ a0 a1 a2 a3 k, LeO (impl_allEs_1.f k a0 a1 a2 a3) (impl_allEs_1.f (k + 1) a0 a1 a2 a3) := by
  intro a0 a1 a2 a3 k
  obtain ⟨ih0, ih1, ih2, ih3, ih4, ih5, ih6, ih7, ih8⟩ := impl_allEs_1.mono_g k
  exact ih0 a0 a1 a2 a3
theorem impl_Node_117_190.mono : ∀ a0 k, LeO (impl_Node_117_190.f k a0) (impl_Node_117_190.f (k + 1) a0) := by
  intro a0 k
  obtain ⟨ih0, ih1, ih2, ih3, ih4, ih5, ih6, ih7, ih8⟩ := impl_allEs_1.mono_g k
  exact ih1 a0
theorem impl_Node_117_189.mono : ∀ a0 k, LeO (impl_Node_117_189.f k a0) (impl_Node_117_189.f (k + 1) a0) := by
  intro a0 k
  obtain ⟨ih0, ih1, ih2, ih3, ih4, ih5, ih6, ih7, ih8⟩ := impl_allEs_1.mono_g k
  exact ih3 a0
theorem impl_allEs.mono : ∀ a0 k, LeO (impl_allEs.f k a0) (impl_allEs.f (k + 1) a0) := by
  intro a0 k
  obtain ⟨ih0, ih1, ih2, ih3, ih4, ih5, ih6, ih7, ih8⟩ := impl_allEs_1.mono_g k
  exact ih4 a0
theorem impl_isE.mono : ∀ a0 a1 a2 a3 k, LeO (impl_isE.f k a0 a1 a2 a3) (impl_isE.f (k + 1) a0 a1 a2 a3) := by
  intro a0 a1 a2 a3 k
  obtain ⟨ih0, ih1, ih2, ih3, ih4, ih5, ih6, ih7, ih8⟩ := impl_allEs_1.mono_g k
  exact ih5 a0 a1 a2 a3
noncomputable def impl_allEs_1.fv (a0_0 : Int) (a0_1 : Int) (a0_2 : ByteArray) (l0_3 : List (S66)) : Option (Bool) := limOf (fun k => impl_allEs_1.f k a0_0 a0_1 a0_2 l0_3)
theorem impl_allEs_1.f_lim (a0_0 : Int) (a0_1 : Int) (a0_2 : ByteArray) (l0_3 : List (S66)) : Lim (fun k => impl_allEs_1.f k a0_0 a0_1 a0_2 l0_3) (impl_allEs_1.fv a0_0 a0_1 a0_2 l0_3) := Lim.of (fun k => (impl_allEs_1.mono_g k).1 a0_0 a0_1 a0_2 l0_3)
noncomputable def impl_Node_117_190.l0v (x0 : List (S66)) (x7 : Int) (x8 : Int) : Option (Int) := limOf (fun k => impl_Node_117_190.l0 k x0 x7 x8)
theorem impl_Node_117_190.l0_lim (x0 : List (S66)) (x7 : Int) (x8 : Int) : Lim (fun k => impl_Node_117_190.l0 k x0 x7 x8) (impl_Node_117_190.l0v x0 x7 x8) := Lim.of (fun k => (impl_allEs_1.mono_g k).2.2.1 x0 x7 x8)
noncomputable def impl_Node_117_190.fv (l0 : List (S66)) : Option (Int) := limOf (fun k => impl_Node_117_190.f k l0)
theorem impl_Node_117_190.f_lim (l0 : List (S66)) : Lim (fun k => impl_Node_117_190.f k l0) (impl_Node_117_190.fv l0) := Lim.of (fun k => (impl_allEs_1.mono_g k).2.1 l0)
noncomputable def impl_Node_117_189.fv (l0 : List (S66)) : Option (Bool) := limOf (fun k => impl_Node_117_189.f k l0)
theorem impl_Node_117_189.f_lim (l0 : List (S66)) : Lim (fun k => impl_Node_117_189.f k l0) (impl_Node_117_189.fv l0) := Lim.of (fun k => (impl_allEs_1.mono_g k).2.2.2.1 l0)
noncomputable def impl_allEs.fv (l0 : List (S66)) : Option (Bool) := limOf (fun k => impl_allEs.f k l0)
theorem impl_allEs.f_lim (l0 : List (S66)) : Lim (fun k => impl_allEs.f k l0) (impl_allEs.fv l0) := Lim.of (fun k => (impl_allEs_1.mono_g k).2.2.2.2.1 l0)
noncomputable def impl_isE.j0v (x3 : Int) (x9 : Int) (x101 : Bool) (x256000 : Int) (x256001 : Int) (x256002 : ByteArray) (x256003 : List (S66)) : Option (Bool) := limOf (fun k => impl_isE.j0 k x3 x9 x101 x256000 x256001 x256002 x256003)
theorem impl_isE.j0_lim (x3 : Int) (x9 : Int) (x101 : Bool) (x256000 : Int) (x256001 : Int) (x256002 : ByteArray) (x256003 : List (S66)) : Lim (fun k => impl_isE.j0 k x3 x9 x101 x256000 x256001 x256002 x256003) (impl_isE.j0v x3 x9 x101 x256000 x256001 x256002 x256003) := Lim.of (fun k => (impl_allEs_1.mono_g k).2.2.2.2.2.2.1 x3 x9 x101 x256000 x256001 x256002 x256003)
noncomputable def impl_isE.j1v (x3 : Int) (x9 : Int) (x110 : Bool) (x256000 : Int) (x256001 : Int) (x256002 : ByteArray) (x256003 : List (S66)) : Option (Bool) := limOf (fun k => impl_isE.j1 k x3 x9 x110 x256000 x256001 x256002 x256003)
theorem impl_isE.j1_lim (x3 : Int) (x9 : Int) (x110 : Bool) (x256000 : Int) (x256001 : Int) (x256002 : ByteArray) (x256003 : List (S66)) : Lim (fun k => impl_isE.j1 k x3 x9 x110 x256000 x256001 x256002 x256003) (impl_isE.j1v x3 x9 x110 x256000 x256001 x256002 x256003) := Lim.of (fun k => (impl_allEs_1.mono_g k).2.2.2.2.2.2.2.1 x3 x9 x110 x256000 x256001 x256002 x256003)
noncomputable def impl_isE.j2v (x3 : Int) (x9 : Int) (x120 : Bool) (x256000 : Int) (x256001 : Int) (x256002 : ByteArray) (x256003 : List (S66)) : Option (Bool) := limOf (fun k => impl_isE.j2 k x3 x9 x120 x256000 x256001 x256002 x256003)
theorem impl_isE.j2_lim (x3 : Int) (x9 : Int) (x120 : Bool) (x256000 : Int) (x256001 : Int) (x256002 : ByteArray) (x256003 : List (S66)) : Lim (fun k => impl_isE.j2 k x3 x9 x120 x256000 x256001 x256002 x256003) (impl_isE.j2v x3 x9 x120 x256000 x256001 x256002 x256003) := Lim.of (fun k => (impl_allEs_1.mono_g k).2.2.2.2.2.2.2.2 x3 x9 x120 x256000 x256001 x256002 x256003)
noncomputable def impl_isE.fv (a0_0 : Int) (a0_1 : Int) (a0_2 : ByteArray) (l0_3 : List (S66)) : Option (Bool) := limOf (fun k => impl_isE.f k a0_0 a0_1 a0_2 l0_3)
theorem impl_isE.f_lim (a0_0 : Int) (a0_1 : Int) (a0_2 : ByteArray) (l0_3 : List (S66)) : Lim (fun k => impl_isE.f k a0_0 a0_1 a0_2 l0_3) (impl_isE.fv a0_0 a0_1 a0_2 l0_3) := Lim.of (fun k => (impl_allEs_1.mono_g k).2.2.2.2.2.1 a0_0 a0_1 a0_2 l0_3)
set_option maxHeartbeats 4000000 in
theorem impl_allEs_1.fv_eq (a0_0 : Int) (a0_1 : Int) (a0_2 : ByteArray) (l0_3 : List (S66)) : impl_allEs_1.fv a0_0 a0_1 a0_2 l0_3 = ((impl_isE.fv a0_0 a0_1 a0_2 l0_3).bind fun t250 => (some (!t250))) := by
  refine Lim.succ (impl_allEs_1.f_lim a0_0 a0_1 a0_2 l0_3) ?_
  simp only [impl_allEs_1.f]
  repeat' first
    | (with_reducible apply impl_isE.f_lim)
    | (with_reducible exact Lim.const _)
    | (with_reducible refine Lim.ite ?_ ?_)
    | (with_reducible refine Lim.bind ?_ (fun _ => ?_))
    | apply impl_isE.f_lim
    | exact Lim.const _
    | refine Lim.ite ?_ ?_
    | refine Lim.bind ?_ (fun _ => ?_)

set_option maxHeartbeats 4000000 in
theorem impl_Node_117_190.l0v_eq (x0 : List (S66)) (x7 : Int) (x8 : Int) : impl_Node_117_190.l0v x0 x7 x8 = (if x8 < x7 then (if 0 ≤ x8 then (if x8 < (x0.length : Int) then ((impl_allEs_1.fv ((rd_T66 x0 x8).f0) ((rd_T66 x0 x8).f1) ((rd_T66 x0 x8).f2) ((rd_T66 x0 x8).f3)).bind fun t252 => (if t252 = true then (some x8) else (impl_Node_117_190.l0v x0 x7 (wrap64 (x8 + 1))))) else (none)) else (none)) else (some (-1))) := by
  refine Lim.succ (impl_Node_117_190.l0_lim x0 x7 x8) ?_
  simp only [impl_Node_117_190.l0]
  repeat' first
    | (with_reducible apply impl_Node_117_190.l0_lim)
    | (with_reducible apply impl_allEs_1.f_lim)
    | (with_reducible exact Lim.const _)
    | (with_reducible refine Lim.ite ?_ ?_)
    | (with_reducible refine Lim.bind ?_ (fun _ => ?_))
    | apply impl_Node_117_190.l0_lim
    | apply impl_allEs_1.f_lim
    | exact Lim.const _
    | refine Lim.ite ?_ ?_
    | refine Lim.bind ?_ (fun _ => ?_)
set_option maxHeartbeats 4000000 in
theorem impl_Node_117_190.fv_eq (l0 : List (S66)) : impl_Node_117_190.fv l0 = (impl_Node_117_190.l0v l0 (l0.length : Int) 0) := by
  refine Lim.succ (impl_Node_117_190.f_lim l0) ?_
  simp only [impl_Node_117_190.f]
  repeat' first
    | (with_reducible apply impl_Node_117_190.l0_lim)
    | (with_reducible exact Lim.const _)
    | (with_reducible refine Lim.ite ?_ ?_)
    | (with_reducible refine Lim.bind ?_ (fun _ => ?_))
    | apply impl_Node_117_190.l0_lim
    | exact Lim.const _
    | refine Lim.ite ?_ ?_
    | refine Lim.bind ?_ (fun _ => ?_)

set_option maxHeartbeats 4000000 in
theorem impl_Node_117_189.fv_eq (l0 : List (S66)) : impl_Node_117_189.fv l0 = ((impl_Node_117_190.fv l0).bind fun t253 => (some (decide (t253 ≥ 0)))) := by
  refine Lim.succ (impl_Node_117_189.f_lim l0) ?_
  simp only [impl_Node_117_189.f]
  repeat' first
    | (with_reducible apply impl_Node_117_190.f_lim)
    | (with_reducible exact Lim.const _)
    | (with_reducible refine Lim.ite ?_ ?_)
    | (with_reducible refine Lim.bind ?_ (fun _ => ?_))
    | apply impl_Node_117_190.f_lim
    | exact Lim.const _
    | refine Lim.ite ?_ ?_
    | refine Lim.bind ?_ (fun _ => ?_)

set_option maxHeartbeats 4000000 in
theorem impl_allEs.fv_eq (l0 : List (S66)) : impl_allEs.fv l0 = ((impl_Node_117_189.fv l0).bind fun t254 => (some (!t254))) := by
  refine Lim.succ (impl_allEs.f_lim l0) ?_
  simp only [impl_allEs.f]
  repeat' first
    | (with_reducible apply impl_Node_117_189.f_lim)
    | (with_reducible exact Lim.const _)
    | (with_reducible refine Lim.ite ?_ ?_)
    | (with_reducible refine Lim.bind ?_ (fun _ => ?_))
    | apply impl_Node_117_189.f_lim
    | exact Lim.const _
    | refine Lim.ite ?_ ?_
    | refine Lim.bind ?_ (fun _ => ?_)

set_option maxHeartbeats 4000000 in
theorem impl_isE.j0v_eq (x3 : Int) (x9 : Int) (x101 : Bool) (x256000 : Int) (x256001 : Int) (x256002 : ByteArray) (x256003 : List (S66)) : impl_isE.j0v x3 x9 x101 x256000 x256001 x256002 x256003 = (if x101 = true then ((impl_plainNode.f x256000 x256001 x256002 x256003).bind fun t266 => (if t266 = true then (if x3 = 0 then ((impl_allEs.fv x256003).bind fun t267 => (some t267)) else (some false)) else (some false))) else (if x9 = 6 then (impl_isE.j1v x3 x9 (x9 == 6) x256000 x256001 x256002 x256003) else (if x9 = 22 then (impl_isE.j1v x3 x9 (x9 == 22) x256000 x256001 x256002 x256003) else (impl_isE.j1v x3 x9 (x9 == 23) x256000 x256001 x256002 x256003)))) := by
  refine Lim.succ (impl_isE.j0_lim x3 x9 x101 x256000 x256001 x256002 x256003) ?_
  simp only [impl_isE.j0]
  repeat' first
    | (with_reducible apply impl_allEs.f_lim)
    | (with_reducible apply impl_isE.j1_lim)
    | (with_reducible exact Lim.const _)
    | (with_reducible refine Lim.ite ?_ ?_)
    | (with_reducible refine Lim.bind ?_ (fun _ => ?_))
    | apply impl_allEs.f_lim
    | apply impl_isE.j1_lim
    | exact Lim.const _
    | refine Lim.ite ?_ ?_
    | refine Lim.bind ?_ (fun _ => ?_)
set_option maxHeartbeats 4000000 in
theorem impl_isE.j1v_eq (x3 : Int) (x9 : Int) (x110 : Bool) (x256000 : Int) (x256001 : Int) (x256002 : ByteArray) (x256003 : List (S66)) : impl_isE.j1v x3 x9 x110 x256000 x256001 x256002 x256003 = (if x110 = true then ((impl_plainNode.f x256000 x256001 x256002 x256003).bind fun t268 => (if t268 = true then (if x3 = 1 then ((impl_allEs.fv x256003).bind fun t269 => (some t269)) else (some false)) else (some false))) else (if x9 = 26 then (impl_isE.j2v x3 x9 (x9 == 26) x256000 x256001 x256002 x256003) else (impl_isE.j2v x3 x9 (x9 == 27) x256000 x256001 x256002 x256003))) := by
  refine Lim.succ (impl_isE.j1_lim x3 x9 x110 x256000 x256001 x256002 x256003) ?_
  simp only [impl_isE.j1]
  repeat' first
    | (with_reducible apply impl_allEs.f_lim)
    | (with_reducible apply impl_isE.j2_lim)
    | (with_reducible exact Lim.const _)
    | (with_reducible refine Lim.ite ?_ ?_)
    | (with_reducible refine Lim.bind ?_ (fun _ => ?_))
    | apply impl_allEs.f_lim
    | apply impl_isE.j2_lim
    | exact Lim.const _
    | refine Lim.ite ?_ ?_
    | refine Lim.bind ?_ (fun _ => ?_)
set_option maxHeartbeats 4000000 in
theorem impl_isE.j2v_eq (x3 : Int) (x9 : Int) (x120 : Bool) (x256000 : Int) (x256001 : Int) (x256002 : ByteArray) (x256003 : List (S66)) : impl_isE.j2v x3 x9 x120 x256000 x256001 x256002 x256003 = (if x120 = true then ((impl_plainNode.f x256000 x256001 x256002 x256003).bind fun t270 => (if t270 = true then (if x3 = 2 then (if 0 < (x256003.length : Int) then (if ((rd_T66 x256003 0).f0) = 4 then ((impl_allEs.fv x256003).bind fun t272 => (some t272)) else (if ((rd_T66 x256003 0).f0) = 5 then ((impl_allEs.fv x256003).bind fun t274 => (some t274)) else (some false))) else (none)) else (some false)) else (some false))) else (if x9 = 28 then (if x256001 = 0 then ((impl_calls.f).bind fun t275 => ((slices_Contains_string_string.fv t275 x256002).bind fun t278 => (if t278 = true then ((impl_allEs.fv x256003).bind fun t279 => (some t279)) else (some false)))) else (some false)) else ((impl_in.f x256000 9 21).bind fun t280 => (if t280 = true then ((impl_plainNode.f x256000 x256001 x256002 x256003).bind fun t281 => (if t281 = true then (if x3 = 2 then ((impl_allEs.fv x256003).bind fun t282 => (some t282)) else (some false)) else (some false))) else (if x256000 = 24 then ((impl_plainNode.f x256000 x256001 x256002 x256003).bind fun t283 => (if t283 = true then (if x3 = 2 then ((impl_allEs.fv x256003).bind fun t284 => (some t284)) else (some false)) else (some false))) else (if x256000 = 25 then ((impl_plainNode.f x256000 x256001 x256002 x256003).bind fun t285 => (if t285 = true then (if x3 = 2 then ((impl_allEs.fv x256003).bind fun t286 => (some t286)) else (some false)) else (some false))) else (some false))))))) := by
  refine Lim.succ (impl_isE.j2_lim x3 x9 x120 x256000 x256001 x256002 x256003) ?_
  simp only [impl_isE.j2]
  repeat' first
    | (with_reducible apply impl_allEs.f_lim)
    | (with_reducible apply slices_Contains_string_string.f_lim)
    | (with_reducible exact Lim.const _)
    | (with_reducible refine Lim.ite ?_ ?_)
    | (with_reducible refine Lim.bind ?_ (fun _ => ?_))
    | apply impl_allEs.f_lim
    | apply slices_Contains_string_string.f_lim
    | exact Lim.const _
    | refine Lim.ite ?_ ?_
    | refine Lim.bind ?_ (fun _ => ?_)
set_option maxHeartbeats 4000000 in
theorem impl_isE.fv_eq (a0_0 : Int) (a0_1 : Int) (a0_2 : ByteArray) (l0_3 : List (S66)) : impl_isE.fv a0_0 a0_1 a0_2 l0_3 = (if a0_0 = 1 then ((impl_in.f a0_1 0 9000000000000).bind fun t256 => (if t256 = true then (if a0_2.toList = ([] : List UInt8) then (if (l0_3.length : Int) = 0 then ((impl_allEs.fv l0_3).bind fun t257 => (some t257)) else (some false)) else (some false)) else (some false))) else (if a0_0 = 2 then (if a0_1 = 0 then ((impl_tokenText.f a0_2).bind fun t258 => (if t258 = true then (if (l0_3.length : Int) = 0 then ((impl_allEs.fv l0_3).bind fun t259 => (some t259)) else (some false)) else (some false))) else (some false)) else (if a0_0 = 3 then (if a0_1 = 0 then ((impl_tokenRex.fv a0_2).bind fun t260 => (if t260 = true then (if (l0_3.length : Int) = 0 then ((impl_allEs.fv l0_3).bind fun t261 => (some t261)) else (some false)) else (some false))) else (some false)) else (if a0_0 = 4 then (if a0_1 = 0 then ((impl_isName.fv a0_2).bind fun t262 => (if t262 = true then (if (l0_3.length : Int) = 0 then ((impl_allEs.fv l0_3).bind fun t263 => (some t263)) else (some false)) else (some false))) else (some false)) else (if a0_0 = 5 then (if a0_1 = 0 then ((impl_isName.fv a0_2).bind fun t264 => (if t264 = true then (if (l0_3.length : Int) = 1 then ((impl_allEs.fv l0_3).bind fun t265 => (some t265)) else (some false)) else (some false))) else (some false)) else (if a0_0 = 7 then (impl_isE.j0v (l0_3.length : Int) a0_0 (a0_0 == 7) a0_0 a0_1 a0_2 l0_3) else (impl_isE.j0v (l0_3.length : Int) a0_0 (a0_0 == 8) a0_0 a0_1 a0_2 l0_3))))))) := by
  refine Lim.succ (impl_isE.f_lim a0_0 a0_1 a0_2 l0_3) ?_
  simp only [impl_isE.f]
  repeat' first
    | (with_reducible apply impl_allEs.f_lim)
    | (with_reducible apply impl_isE.j0_lim)
    | (with_reducible apply impl_isName.f_lim)
    | (with_reducible apply impl_tokenRex.f_lim)
    | (with_reducible exact Lim.const _)
    | (with_reducible refine Lim.ite ?_ ?_)
    | (with_reducible refine Lim.bind ?_ (fun _ => ?_))
    | apply impl_allEs.f_lim
    | apply impl_isE.j0_lim
    | apply impl_isName.f_lim
    | apply impl_tokenRex.f_lim
    | exact Lim.const _
    | refine Lim.ite ?_ ?_
    | refine Lim.bind ?_ (fun _ => ?_)


end Go.Proofs.Ythigelphmjepaaa.QFnExactTidy
