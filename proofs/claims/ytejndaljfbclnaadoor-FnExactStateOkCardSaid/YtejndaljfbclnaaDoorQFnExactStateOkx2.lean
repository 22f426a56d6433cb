/- Written by wip/pr2, a program of this session. -/
import Derived.Test.YtejndaljfbclnaaDoorQFnExactStateOkx0
import Derived.Test.YtejndaljfbclnaaDoorQFnExactStateOkx1
import Derived.Test.YtejndaljfbclnaaDoorWFnExactStateOk
namespace Go.Proofs.YtejndaljfbclnaaDoor.QFnExactStateOk
open Go.RowKit Go.Proofs.YtejndaljfbclnaaDoorW.PrintWords Go.Proofs.YtejndaljfbclnaaDoorW.PrintLast Go.Proofs.YtejndaljfbclnaaDoorW.PrintMore
attribute [local go_sem] max2_int min2_int max_two min_two max_three min_three max_four min_four   -- for this text's walks alone
set_option linter.unusedVariables false
set_option linter.unusedSimpArgs false
set_option maxHeartbeats 8000000

open Go.Proofs.YtejndaljfbclnaaDoorW.Lims
/-! ### spec_StateOk -/
mutual
def spec_StateOk.l0 : Nat → Int → Int → Int → List (S26) → List (S84) → Int → Int → Option (Bool)
  | 0, _, _, _, _, _, _, _ => none
  | k + 1, x1, x2, x7, x124000, x124001, x124002, x124003 => if x7 < (x124000.length : Int) then (if 0 ≤ x7 then ((spec_ValOk.f k ((rd_T26 x124000 x7).f0) ((rd_T26 x124000 x7).f1) ((rd_T26 x124000 x7).f2)).bind fun t125 => (if t125 = true then (spec_StateOk.l0 k x1 x2 (wrap64 (x7 + 1)) x124000 x124001 x124002 x124003) else (some false))) else (none)) else (spec_StateOk.l1 k x1 x2 0 x124000 x124001 x124002 x124003)
def spec_StateOk.l1 : Nat → Int → Int → Int → List (S26) → List (S84) → Int → Int → Option (Bool)
  | 0, _, _, _, _, _, _, _ => none
  | k + 1, x1, x2, x8, x124000, x124001, x124002, x124003 => if x8 < (x124001.length : Int) then (if 0 ≤ x8 then (if ((rd_T84 x124001 x8).f0) < 0 then (some false) else (if ((rd_T84 x124001 x8).f0) ≥ x2 then (some false) else (if (((rd_T84 x124001 x8).f1).size : Int) > 300 then (some false) else ((spec_ValOk.f k ((rd_T84 x124001 x8).f2.f0) ((rd_T84 x124001 x8).f2.f1) ((rd_T84 x124001 x8).f2.f2)).bind fun t130 => (if t130 = true then (if x8 > 0 then (if 0 ≤ (wrap64 (x8 - 1)) then (if (wrap64 (x8 - 1)) < (x124001.length : Int) then ((spec_l11Less.f ((rd_T84 x124001 (wrap64 (x8 - 1))).f0) ((rd_T84 x124001 (wrap64 (x8 - 1))).f1) ((rd_T84 x124001 (wrap64 (x8 - 1))).f2.f0) ((rd_T84 x124001 (wrap64 (x8 - 1))).f2.f1) ((rd_T84 x124001 (wrap64 (x8 - 1))).f2.f2) ((rd_T84 x124001 x8).f0) ((rd_T84 x124001 x8).f1)).bind fun t132 => (if t132 = true then (spec_StateOk.l1 k x1 x2 (wrap64 (x8 + 1)) x124000 x124001 x124002 x124003) else (some false))) else (none)) else (none)) else (spec_StateOk.l1 k x1 x2 (wrap64 (x8 + 1)) x124000 x124001 x124002 x124003)) else (some false)))))) else (none)) else (if (x124000.length : Int) = x1 then (if (x124001.length : Int) ≤ 40 then ((spec_l1In.f x124002 0 1000000).bind fun t126 => (if t126 = true then ((spec_l1In.f x124003 0 7).bind fun t127 => (some t127)) else (some false))) else (some false)) else (some false))
end
def spec_StateOk.f (k : Nat) (l0_0 : List (S26)) (l0_1 : List (S84)) (a0_2 : Int) (a0_3 : Int) (a1 : Int) (a2 : Int) : Option (Bool) := spec_StateOk.l0 k a1 a2 0 l0_0 l0_1 a0_2 a0_3
theorem spec_StateOk.mono_l : ∀ k, (∀ y0 y1 y2 y3 y4 y5 y6, LeO (spec_StateOk.l0 k y0 y1 y2 y3 y4 y5 y6) (spec_StateOk.l0 (k + 1) y0 y1 y2 y3 y4 y5 y6)) ∧ (∀ y0 y1 y2 y3 y4 y5 y6, LeO (spec_StateOk.l1 k y0 y1 y2 y3 y4 y5 y6) (spec_StateOk.l1 (k + 1) y0 y1 y2 y3 y4 y5 y6))
  | 0 => ⟨fun _ _ _ _ _ _ _ r h => by simp [spec_StateOk.l0] at h, fun _ _ _ _ _ _ _ r h => by simp [spec_StateOk.l1] at h⟩
  | k + 1 => by
    obtain ⟨ih0, ih1⟩ := spec_StateOk.mono_l k
    refine ⟨?_, ?_⟩
    · intro y0 y1 y2 y3 y4 y5 y6
      unfold spec_StateOk.l0
      repeat' first
      | (with_reducible exact ih0 _ _ _ _ _ _ _)
      | (with_reducible exact ih1 _ _ _ _ _ _ _)
      | (with_reducible exact spec_ValOk.mono _ _ _ _)
      | (with_reducible exact LeO.refl _)
      | (with_reducible exact LeO.none _)
      | (with_reducible refine LeO.ite ?_ ?_)
      | (with_reducible refine LeO.bind ?_ (fun _ => ?_))
      | exact ih0 _ _ _ _ _ _ _
      | exact ih1 _ _ _ _ _ _ _
      | exact spec_ValOk.mono _ _ _ _
      | exact LeO.none _
      | refine LeO.ite ?_ ?_
      | refine LeO.bind ?_ (fun _ => ?_)
    · intro y0 y1 y2 y3 y4 y5 y6
      unfold spec_StateOk.l1
      repeat' first
      | (with_reducible exact ih0 _ _ _ _ _ _ _)
      | (with_reducible exact ih1 _ _ _ _ _ _ _)
      | (with_reducible exact spec_ValOk.mono _ _ _ _)
      | (with_reducible exact LeO.refl _)
      | (with_reducible exact LeO.none _)
      | (with_reducible refine LeO.ite ?_ ?_)
      | (with_reducible refine LeO.bind ?_ (fun _ => ?_))
      | exact ih0 _ _ _ _ _ _ _
      | exact ih1 _ _ _ _ _ _ _
      | exact spec_ValOk.mono _ _ _ _
      | exact LeO.none _
      | refine LeO.ite ?_ ?_
      | refine LeO.bind ?_ (fun _ => ?_)
theorem spec_StateOk.mono : ∀ a0 a1 a2 a3 a4 a5 k, LeO (spec_StateOk.f k a0 a1 a2 a3 a4 a5) (spec_StateOk.f (k + 1) a0 a1 a2 a3 a4 a5) := by
  intro a0 a1 a2 a3 a4 a5 k
  obtain ⟨ih0, ih1⟩ := spec_StateOk.mono_l k
  unfold spec_StateOk.f
  repeat' first
      | (with_reducible exact ih0 _ _ _ _ _ _ _)
      | (with_reducible exact ih1 _ _ _ _ _ _ _)
      | (with_reducible exact spec_ValOk.mono _ _ _ _)
      | (with_reducible exact LeO.refl _)
      | (with_reducible exact LeO.none _)
      | (with_reducible refine LeO.ite ?_ ?_)
      | (with_reducible refine LeO.bind ?_ (fun _ => ?_))
      | exact ih0 _ _ _ _ _ _ _
      | exact ih1 _ _ _ _ _ _ _
      | exact spec_ValOk.mono _ _ _ _
      | exact LeO.none _
      | refine LeO.ite ?_ ?_
      | refine LeO.bind ?_ (fun _ => ?_)
noncomputable def spec_StateOk.l0v (x1 : Int) (x2 : Int) (x7 : Int) (x124000 : List (S26)) (x124001 : List (S84)) (x124002 : Int) (x124003 : Int) : Option (Bool) := limOf (fun k => spec_StateOk.l0 k x1 x2 x7 x124000 x124001 x124002 x124003)
theorem spec_StateOk.l0_lim (x1 : Int) (x2 : Int) (x7 : Int) (x124000 : List (S26)) (x124001 : List (S84)) (x124002 : Int) (x124003 : Int) : Lim (fun k => spec_StateOk.l0 k x1 x2 x7 x124000 x124001 x124002 x124003) (spec_StateOk.l0v x1 x2 x7 x124000 x124001 x124002 x124003) := Lim.of (fun k => (spec_StateOk.mono_l k).1 x1 x2 x7 x124000 x124001 x124002 x124003)
noncomputable def spec_StateOk.l1v (x1 : Int) (x2 : Int) (x8 : Int) (x124000 : List (S26)) (x124001 : List (S84)) (x124002 : Int) (x124003 : Int) : Option (Bool) := limOf (fun k => spec_StateOk.l1 k x1 x2 x8 x124000 x124001 x124002 x124003)
theorem spec_StateOk.l1_lim (x1 : Int) (x2 : Int) (x8 : Int) (x124000 : List (S26)) (x124001 : List (S84)) (x124002 : Int) (x124003 : Int) : Lim (fun k => spec_StateOk.l1 k x1 x2 x8 x124000 x124001 x124002 x124003) (spec_StateOk.l1v x1 x2 x8 x124000 x124001 x124002 x124003) := Lim.of (fun k => (spec_StateOk.mono_l k).2 x1 x2 x8 x124000 x124001 x124002 x124003)
noncomputable def spec_StateOk.fv (l0_0 : List (S26)) (l0_1 : List (S84)) (a0_2 : Int) (a0_3 : Int) (a1 : Int) (a2 : Int) : Option (Bool) := limOf (fun k => spec_StateOk.f k l0_0 l0_1 a0_2 a0_3 a1 a2)
theorem spec_StateOk.f_lim (l0_0 : List (S26)) (l0_1 : List (S84)) (a0_2 : Int) (a0_3 : Int) (a1 : Int) (a2 : Int) : Lim (fun k => spec_StateOk.f k l0_0 l0_1 a0_2 a0_3 a1 a2) (spec_StateOk.fv l0_0 l0_1 a0_2 a0_3 a1 a2) := Lim.of (fun k => spec_StateOk.mono l0_0 l0_1 a0_2 a0_3 a1 a2 k)
set_option maxHeartbeats 4000000 in
theorem spec_StateOk.l0v_eq (x1 : Int) (x2 : Int) (x7 : Int) (x124000 : List (S26)) (x124001 : List (S84)) (x124002 : Int) (x124003 : Int) : spec_StateOk.l0v x1 x2 x7 x124000 x124001 x124002 x124003 = (if x7 < (x124000.length : Int) then (if 0 ≤ x7 then ((spec_ValOk.fv ((rd_T26 x124000 x7).f0) ((rd_T26 x124000 x7).f1) ((rd_T26 x124000 x7).f2)).bind fun t125 => (if t125 = true then (spec_StateOk.l0v x1 x2 (wrap64 (x7 + 1)) x124000 x124001 x124002 x124003) else (some false))) else (none)) else (spec_StateOk.l1v x1 x2 0 x124000 x124001 x124002 x124003)) := by
  refine Lim.succ (spec_StateOk.l0_lim x1 x2 x7 x124000 x124001 x124002 x124003) ?_
  simp only [spec_StateOk.l0]
  repeat' first
    | (with_reducible apply spec_StateOk.l0_lim)
    | (with_reducible apply spec_StateOk.l1_lim)
    | (with_reducible apply spec_ValOk.f_lim)
    | (with_reducible exact Lim.const _)
    | (with_reducible refine Lim.ite ?_ ?_)
    | (with_reducible refine Lim.bind ?_ (fun _ => ?_))
    | apply spec_StateOk.l0_lim
    | apply spec_StateOk.l1_lim
    | apply spec_ValOk.f_lim
    | exact Lim.const _
    | refine Lim.ite ?_ ?_
    | refine Lim.bind ?_ (fun _ => ?_)
set_option maxHeartbeats 4000000 in
theorem spec_StateOk.l1v_eq (x1 : Int) (x2 : Int) (x8 : Int) (x124000 : List (S26)) (x124001 : List (S84)) (x124002 : Int) (x124003 : Int) : spec_StateOk.l1v x1 x2 x8 x124000 x124001 x124002 x124003 = (if x8 < (x124001.length : Int) then (if 0 ≤ x8 then (if ((rd_T84 x124001 x8).f0) < 0 then (some false) else (if ((rd_T84 x124001 x8).f0) ≥ x2 then (some false) else (if (((rd_T84 x124001 x8).f1).size : Int) > 300 then (some false) else ((spec_ValOk.fv ((rd_T84 x124001 x8).f2.f0) ((rd_T84 x124001 x8).f2.f1) ((rd_T84 x124001 x8).f2.f2)).bind fun t130 => (if t130 = true then (if x8 > 0 then (if 0 ≤ (wrap64 (x8 - 1)) then (if (wrap64 (x8 - 1)) < (x124001.length : Int) then ((spec_l11Less.f ((rd_T84 x124001 (wrap64 (x8 - 1))).f0) ((rd_T84 x124001 (wrap64 (x8 - 1))).f1) ((rd_T84 x124001 (wrap64 (x8 - 1))).f2.f0) ((rd_T84 x124001 (wrap64 (x8 - 1))).f2.f1) ((rd_T84 x124001 (wrap64 (x8 - 1))).f2.f2) ((rd_T84 x124001 x8).f0) ((rd_T84 x124001 x8).f1)).bind fun t132 => (if t132 = true then (spec_StateOk.l1v x1 x2 (wrap64 (x8 + 1)) x124000 x124001 x124002 x124003) else (some false))) else (none)) else (none)) else (spec_StateOk.l1v x1 x2 (wrap64 (x8 + 1)) x124000 x124001 x124002 x124003)) else (some false)))))) else (none)) else (if (x124000.length : Int) = x1 then (if (x124001.length : Int) ≤ 40 then ((spec_l1In.f x124002 0 1000000).bind fun t126 => (if t126 = true then ((spec_l1In.f x124003 0 7).bind fun t127 => (some t127)) else (some false))) else (some false)) else (some false))) := by
  refine Lim.succ (spec_StateOk.l1_lim x1 x2 x8 x124000 x124001 x124002 x124003) ?_
  simp only [spec_StateOk.l1]
  repeat' first
    | (with_reducible apply spec_StateOk.l1_lim)
    | (with_reducible apply spec_ValOk.f_lim)
    | (with_reducible exact Lim.const _)
    | (with_reducible refine Lim.ite ?_ ?_)
    | (with_reducible refine Lim.bind ?_ (fun _ => ?_))
    | apply spec_StateOk.l1_lim
    | apply spec_ValOk.f_lim
    | exact Lim.const _
    | refine Lim.ite ?_ ?_
    | refine Lim.bind ?_ (fun _ => ?_)
set_option maxHeartbeats 4000000 in
theorem spec_StateOk.fv_eq (l0_0 : List (S26)) (l0_1 : List (S84)) (a0_2 : Int) (a0_3 : Int) (a1 : Int) (a2 : Int) : spec_StateOk.fv l0_0 l0_1 a0_2 a0_3 a1 a2 = (spec_StateOk.l0v a1 a2 0 l0_0 l0_1 a0_2 a0_3) := by
  refine Lim.eq (spec_StateOk.f_lim l0_0 l0_1 a0_2 a0_3 a1 a2) ?_
  simp only [spec_StateOk.f]
  repeat' first
    | (with_reducible apply spec_StateOk.l0_lim)
    | (with_reducible exact Lim.const _)
    | (with_reducible refine Lim.ite ?_ ?_)
    | (with_reducible refine Lim.bind ?_ (fun _ => ?_))
    | apply spec_StateOk.l0_lim
    | exact Lim.const _
    | refine Lim.ite ?_ ?_
    | refine Lim.bind ?_ (fun _ => ?_)

/-! ### laws_toVal -/
def laws_toVal.f (a0_0 : Int) (a0_1 : Int) (a0_2 : ByteArray) : Option (Int × Int × ByteArray) := some (a0_0, a0_1, a0_2)

/-! ### laws_toValS -/
def laws_toValS.l0 : Nat → List (S23) → List (S26) → Int → Option ((List (S26)))
  | 0, _, _, _ => none
  | k + 1, x0, x3, x4 => if x4 < (x0.length : Int) then (if 0 ≤ x4 then ((laws_toVal.f ((rd_T23 x0 x4).f0) ((rd_T23 x0 x4).f1) ((rd_T23 x0 x4).f2)).bind fun bt140 => (if x4 < (x3.length : Int) then (laws_toValS.l0 k x0 (x3.set (x4 : Int).toNat (⟨bt140.1, bt140.2.1, bt140.2.2⟩ : S26)) (wrap64 (x4 + 1))) else (none))) else (none)) else (some x3)
def laws_toValS.f (k : Nat) (l0 : List (S23)) : Option ((List (S26))) := if 0 ≤ (l0.length : Int) then (if ((l0.length : Int) : Int).toNat ≤ 8796093022208 then (laws_toValS.l0 k l0 (List.replicate ((l0.length : Int) : Int).toNat z26) 0) else (none)) else (none)
theorem laws_toValS.mono_l : ∀ k, (∀ y0 y1 y2, LeO (laws_toValS.l0 k y0 y1 y2) (laws_toValS.l0 (k + 1) y0 y1 y2))
  | 0 => fun _ _ _ r h => by simp [laws_toValS.l0] at h
  | k + 1 => by
    have ih0 := laws_toValS.mono_l k
    · intro y0 y1 y2
      unfold laws_toValS.l0
      repeat' first
      | (with_reducible exact ih0 _ _ _)
      | (with_reducible exact LeO.refl _)
      | (with_reducible exact LeO.none _)
      | (with_reducible refine LeO.ite ?_ ?_)
      | (with_reducible refine LeO.bind ?_ (fun _ => ?_))
      | exact ih0 _ _ _
      | exact LeO.none _
      | refine LeO.ite ?_ ?_
      | refine LeO.bind ?_ (fun _ => ?_)
theorem laws_toValS.mono : ∀ a0 k, LeO (laws_toValS.f k a0) (laws_toValS.f (k + 1) a0) := by
  intro a0 k
  have ih0 := laws_toValS.mono_l k
  unfold laws_toValS.f
  repeat' first
      | (with_reducible exact ih0 _ _ _)
      | (with_reducible exact LeO.refl _)
      | (with_reducible exact LeO.none _)
      | (with_reducible refine LeO.ite ?_ ?_)
      | (with_reducible refine LeO.bind ?_ (fun _ => ?_))
      | exact ih0 _ _ _
      | exact LeO.none _
      | refine LeO.ite ?_ ?_
      | refine LeO.bind ?_ (fun _ => ?_)
noncomputable def laws_toValS.l0v (x0 : List (S23)) (x3 : List (S26)) (x4 : Int) : Option ((List (S26))) := limOf (fun k => laws_toValS.l0 k x0 x3 x4)
theorem laws_toValS.l0_lim (x0 : List (S23)) (x3 : List (S26)) (x4 : Int) : Lim (fun k => laws_toValS.l0 k x0 x3 x4) (laws_toValS.l0v x0 x3 x4) := Lim.of (fun k => laws_toValS.mono_l k x0 x3 x4)
noncomputable def laws_toValS.fv (l0 : List (S23)) : Option ((List (S26))) := limOf (fun k => laws_toValS.f k l0)
theorem laws_toValS.f_lim (l0 : List (S23)) : Lim (fun k => laws_toValS.f k l0) (laws_toValS.fv l0) := Lim.of (fun k => laws_toValS.mono l0 k)
set_option maxHeartbeats 4000000 in
theorem laws_toValS.l0v_eq (x0 : List (S23)) (x3 : List (S26)) (x4 : Int) : laws_toValS.l0v x0 x3 x4 = (if x4 < (x0.length : Int) then (if 0 ≤ x4 then ((laws_toVal.f ((rd_T23 x0 x4).f0) ((rd_T23 x0 x4).f1) ((rd_T23 x0 x4).f2)).bind fun bt140 => (if x4 < (x3.length : Int) then (laws_toValS.l0v x0 (x3.set (x4 : Int).toNat (⟨bt140.1, bt140.2.1, bt140.2.2⟩ : S26)) (wrap64 (x4 + 1))) else (none))) else (none)) else (some x3)) := by
  refine Lim.succ (laws_toValS.l0_lim x0 x3 x4) ?_
  simp only [laws_toValS.l0]
  repeat' first
    | (with_reducible apply laws_toValS.l0_lim)
    | (with_reducible exact Lim.const _)
    | (with_reducible refine Lim.ite ?_ ?_)
    | (with_reducible refine Lim.bind ?_ (fun _ => ?_))
    | apply laws_toValS.l0_lim
    | exact Lim.const _
    | refine Lim.ite ?_ ?_
    | refine Lim.bind ?_ (fun _ => ?_)
set_option maxHeartbeats 4000000 in
theorem laws_toValS.fv_eq (l0 : List (S23)) : laws_toValS.fv l0 = (if 0 ≤ (l0.length : Int) then (if ((l0.length : Int) : Int).toNat ≤ 8796093022208 then (laws_toValS.l0v l0 (List.replicate ((l0.length : Int) : Int).toNat z26) 0) else (none)) else (none)) := by
  refine Lim.eq (laws_toValS.f_lim l0) ?_
  simp only [laws_toValS.f]
  repeat' first
    | (with_reducible apply laws_toValS.l0_lim)
    | (with_reducible exact Lim.const _)
    | (with_reducible refine Lim.ite ?_ ?_)
    | (with_reducible refine Lim.bind ?_ (fun _ => ?_))
    | apply laws_toValS.l0_lim
    | exact Lim.const _
    | refine Lim.ite ?_ ?_
    | refine Lim.bind ?_ (fun _ => ?_)

/-! ### laws_toCell -/
def laws_toCell.f (a0_0 : Int) (a0_1 : ByteArray) (a0_2 : Int) (a0_3 : Int) (a0_4 : ByteArray) : Option (Int × ByteArray × Int × Int × ByteArray) := (laws_toVal.f a0_2 a0_3 a0_4).bind fun bt147 => (some (a0_0, a0_1, bt147.1, bt147.2.1, bt147.2.2))

/-! ### laws_toCellS -/
def laws_toCellS.l0 : Nat → List (S128) → List (S84) → Int → Option ((List (S84)))
  | 0, _, _, _ => none
  | k + 1, x0, x3, x4 => if x4 < (x0.length : Int) then (if 0 ≤ x4 then ((laws_toCell.f ((rd_T128 x0 x4).f0) ((rd_T128 x0 x4).f1) ((rd_T128 x0 x4).f2.f0) ((rd_T128 x0 x4).f2.f1) ((rd_T128 x0 x4).f2.f2)).bind fun bt154 => (if x4 < (x3.length : Int) then (laws_toCellS.l0 k x0 (x3.set (x4 : Int).toNat (⟨bt154.1, bt154.2.1, (⟨bt154.2.2.1, bt154.2.2.2.1, bt154.2.2.2.2⟩ : S26)⟩ : S84)) (wrap64 (x4 + 1))) else (none))) else (none)) else (some x3)
def laws_toCellS.f (k : Nat) (l0 : List (S128)) : Option ((List (S84))) := if 0 ≤ (l0.length : Int) then (if ((l0.length : Int) : Int).toNat ≤ 5026338869833 then (laws_toCellS.l0 k l0 (List.replicate ((l0.length : Int) : Int).toNat z84) 0) else (none)) else (none)
theorem laws_toCellS.mono_l : ∀ k, (∀ y0 y1 y2, LeO (laws_toCellS.l0 k y0 y1 y2) (laws_toCellS.l0 (k + 1) y0 y1 y2))
  | 0 => fun _ _ _ r h => by simp [laws_toCellS.l0] at h
  | k + 1 => by
    have ih0 := laws_toCellS.mono_l k
    · intro y0 y1 y2
      unfold laws_toCellS.l0
      repeat' first
      | (with_reducible exact ih0 _ _ _)
      | (with_reducible exact LeO.refl _)
      | (with_reducible exact LeO.none _)
      | (with_reducible refine LeO.ite ?_ ?_)
      | (with_reducible refine LeO.bind ?_ (fun _ => ?_))
      | exact ih0 _ _ _
      | exact LeO.none _
      | refine LeO.ite ?_ ?_
      | refine LeO.bind ?_ (fun _ => ?_)
theorem laws_toCellS.mono : ∀ a0 k, LeO (laws_toCellS.f k a0) (laws_toCellS.f (k + 1) a0) := by
  intro a0 k
  have ih0 := laws_toCellS.mono_l k
  unfold laws_toCellS.f
  repeat' first
      | (with_reducible exact ih0 _ _ _)
      | (with_reducible exact LeO.refl _)
      | (with_reducible exact LeO.none _)
      | (with_reducible refine LeO.ite ?_ ?_)
      | (with_reducible refine LeO.bind ?_ (fun _ => ?_))
      | exact ih0 _ _ _
      | exact LeO.none _
      | refine LeO.ite ?_ ?_
      | refine LeO.bind ?_ (fun _ => ?_)
noncomputable def laws_toCellS.l0v (x0 : List (S128)) (x3 : List (S84)) (x4 : Int) : Option ((List (S84))) := limOf (fun k => laws_toCellS.l0 k x0 x3 x4)
theorem laws_toCellS.l0_lim (x0 : List (S128)) (x3 : List (S84)) (x4 : Int) : Lim (fun k => laws_toCellS.l0 k x0 x3 x4) (laws_toCellS.l0v x0 x3 x4) := Lim.of (fun k => laws_toCellS.mono_l k x0 x3 x4)
noncomputable def laws_toCellS.fv (l0 : List (S128)) : Option ((List (S84))) := limOf (fun k => laws_toCellS.f k l0)
theorem laws_toCellS.f_lim (l0 : List (S128)) : Lim (fun k => laws_toCellS.f k l0) (laws_toCellS.fv l0) := Lim.of (fun k => laws_toCellS.mono l0 k)
set_option maxHeartbeats 4000000 in
theorem laws_toCellS.l0v_eq (x0 : List (S128)) (x3 : List (S84)) (x4 : Int) : laws_toCellS.l0v x0 x3 x4 = (if x4 < (x0.length : Int) then (if 0 ≤ x4 then ((laws_toCell.f ((rd_T128 x0 x4).f0) ((rd_T128 x0 x4).f1) ((rd_T128 x0 x4).f2.f0) ((rd_T128 x0 x4).f2.f1) ((rd_T128 x0 x4).f2.f2)).bind fun bt154 => (if x4 < (x3.length : Int) then (laws_toCellS.l0v x0 (x3.set (x4 : Int).toNat (⟨bt154.1, bt154.2.1, (⟨bt154.2.2.1, bt154.2.2.2.1, bt154.2.2.2.2⟩ : S26)⟩ : S84)) (wrap64 (x4 + 1))) else (none))) else (none)) else (some x3)) := by
  refine Lim.succ (laws_toCellS.l0_lim x0 x3 x4) ?_
  simp only [laws_toCellS.l0]
  repeat' first
    | (with_reducible apply laws_toCellS.l0_lim)
    | (with_reducible exact Lim.const _)
    | (with_reducible refine Lim.ite ?_ ?_)
    | (with_reducible refine Lim.bind ?_ (fun _ => ?_))
    | apply laws_toCellS.l0_lim
    | exact Lim.const _
    | refine Lim.ite ?_ ?_
    | refine Lim.bind ?_ (fun _ => ?_)
set_option maxHeartbeats 4000000 in
theorem laws_toCellS.fv_eq (l0 : List (S128)) : laws_toCellS.fv l0 = (if 0 ≤ (l0.length : Int) then (if ((l0.length : Int) : Int).toNat ≤ 5026338869833 then (laws_toCellS.l0v l0 (List.replicate ((l0.length : Int) : Int).toNat z84) 0) else (none)) else (none)) := by
  refine Lim.eq (laws_toCellS.f_lim l0) ?_
  simp only [laws_toCellS.f]
  repeat' first
    | (with_reducible apply laws_toCellS.l0_lim)
    | (with_reducible exact Lim.const _)
    | (with_reducible refine Lim.ite ?_ ?_)
    | (with_reducible refine Lim.bind ?_ (fun _ => ?_))
    | apply laws_toCellS.l0_lim
    | exact Lim.const _
    | refine Lim.ite ?_ ?_
    | refine Lim.bind ?_ (fun _ => ?_)

/-! ### laws_toState -/
def laws_toState.f (k : Nat) (l0_0 : List (S23)) (l0_1 : List (S128)) (a0_2 : Int) (a0_3 : Int) : Option ((List (S26)) × (List (S84)) × Int × Int) := (laws_toValS.f k l0_0).bind fun t163 => ((laws_toCellS.f k l0_1).bind fun t166 => (some (t163, t166, a0_2, a0_3)))
theorem laws_toState.mono : ∀ a0 a1 a2 a3 k, LeO (laws_toState.f k a0 a1 a2 a3) (laws_toState.f (k + 1) a0 a1 a2 a3) := by
  intro a0 a1 a2 a3 k
  unfold laws_toState.f
  repeat' first
      | (with_reducible exact laws_toCellS.mono _ _)
      | (with_reducible exact laws_toValS.mono _ _)
      | (with_reducible exact LeO.refl _)
      | (with_reducible exact LeO.none _)
      | (with_reducible refine LeO.ite ?_ ?_)
      | (with_reducible refine LeO.bind ?_ (fun _ => ?_))
      | exact laws_toCellS.mono _ _
      | exact laws_toValS.mono _ _
      | exact LeO.none _
      | refine LeO.ite ?_ ?_
      | refine LeO.bind ?_ (fun _ => ?_)
noncomputable def laws_toState.fv (l0_0 : List (S23)) (l0_1 : List (S128)) (a0_2 : Int) (a0_3 : Int) : Option ((List (S26)) × (List (S84)) × Int × Int) := limOf (fun k => laws_toState.f k l0_0 l0_1 a0_2 a0_3)
theorem laws_toState.f_lim (l0_0 : List (S23)) (l0_1 : List (S128)) (a0_2 : Int) (a0_3 : Int) : Lim (fun k => laws_toState.f k l0_0 l0_1 a0_2 a0_3) (laws_toState.fv l0_0 l0_1 a0_2 a0_3) := Lim.of (fun k => laws_toState.mono l0_0 l0_1 a0_2 a0_3 k)
set_option maxHeartbeats 4000000 in
theorem laws_toState.fv_eq (l0_0 : List (S23)) (l0_1 : List (S128)) (a0_2 : Int) (a0_3 : Int) : laws_toState.fv l0_0 l0_1 a0_2 a0_3 = ((laws_toValS.fv l0_0).bind fun t163 => ((laws_toCellS.fv l0_1).bind fun t166 => (some (t163, t166, a0_2, a0_3)))) := by
  refine Lim.eq (laws_toState.f_lim l0_0 l0_1 a0_2 a0_3) ?_
  simp only [laws_toState.f]
  repeat' first
    | (with_reducible apply laws_toCellS.f_lim)
    | (with_reducible apply laws_toValS.f_lim)
    | (with_reducible exact Lim.const _)
    | (with_reducible refine Lim.ite ?_ ?_)
    | (with_reducible refine Lim.bind ?_ (fun _ => ?_))
    | apply laws_toCellS.f_lim
    | apply laws_toValS.f_lim
    | exact Lim.const _
    | refine Lim.ite ?_ ?_
    | refine Lim.bind ?_ (fun _ => ?_)

/-! ### impl_in -/
def impl_in.f (a0 : Int) (a1 : Int) (a2 : Int) : Option (Bool) := if a0 ≥ a1 then (some (decide (a0 ≤ a2))) else (some false)

/-! ### strings_TrimLeft -/
def strings_TrimLeft.f (a0 : ByteArray) (a1 : ByteArray) : Option (ByteArray) := match a1.data.toList with | [c_] => if c_.toNat < 128 ∧ a0.size ≤ 9223372036854775807 then some ⟨(Lib.trimLeftB a0.data.toList c_).toArray⟩ else none | _ => none

/-! ### impl_digitsAt -/
def impl_digitsAt.l0 : Nat → ByteArray → Int → Int → Option (Int)
  | 0, _, _, _ => none
  | k + 1, x0, x1, x5 => if (wrap64 (x1 + x5)) < (x0.size : Int) then (if 0 ≤ (wrap64 (x1 + x5)) then (if (bt x0 (wrap64 (x1 + x5))) ≥ 48 then (if (bt x0 (wrap64 (x1 + x5))) ≤ 57 then (impl_digitsAt.l0 k x0 x1 (wrap64 (x5 + 1))) else (some x5)) else (some x5)) else (none)) else (some x5)
def impl_digitsAt.f (k : Nat) (a0 : ByteArray) (a1 : Int) : Option (Int) := impl_digitsAt.l0 k a0 a1 0
theorem impl_digitsAt.mono_l : ∀ k, (∀ y0 y1 y2, LeO (impl_digitsAt.l0 k y0 y1 y2) (impl_digitsAt.l0 (k + 1) y0 y1 y2))
  | 0 => fun _ _ _ r h => by simp [impl_digitsAt.l0] at h
  | k + 1 => by
    have ih0 := impl_digitsAt.mono_l k
    · intro y0 y1 y2
      unfold impl_digitsAt.l0
      repeat' first
      | (with_reducible exact ih0 _ _ _)
      | (with_reducible exact LeO.refl _)
      | (with_reducible exact LeO.none _)
      | (with_reducible refine LeO.ite ?_ ?_)
      | (with_reducible refine LeO.bind ?_ (fun _ => ?_))
      | exact ih0 _ _ _
      | exact LeO.none _
      | refine LeO.ite ?_ ?_
      | refine LeO.bind ?_ (fun _ => ?_)
theorem impl_digitsAt.mono : ∀ a0 a1 k, LeO (impl_digitsAt.f k a0 a1) (impl_digitsAt.f (k + 1) a0 a1) := by
  intro a0 a1 k
  have ih0 := impl_digitsAt.mono_l k
  unfold impl_digitsAt.f
  repeat' first
      | (with_reducible exact ih0 _ _ _)
      | (with_reducible exact LeO.refl _)
      | (with_reducible exact LeO.none _)
      | (with_reducible refine LeO.ite ?_ ?_)
      | (with_reducible refine LeO.bind ?_ (fun _ => ?_))
      | exact ih0 _ _ _
      | exact LeO.none _
      | refine LeO.ite ?_ ?_
      | refine LeO.bind ?_ (fun _ => ?_)
noncomputable def impl_digitsAt.l0v (x0 : ByteArray) (x1 : Int) (x5 : Int) : Option (Int) := limOf (fun k => impl_digitsAt.l0 k x0 x1 x5)
theorem impl_digitsAt.l0_lim (x0 : ByteArray) (x1 : Int) (x5 : Int) : Lim (fun k => impl_digitsAt.l0 k x0 x1 x5) (impl_digitsAt.l0v x0 x1 x5) := Lim.of (fun k => impl_digitsAt.mono_l k x0 x1 x5)
noncomputable def impl_digitsAt.fv (a0 : ByteArray) (a1 : Int) : Option (Int) := limOf (fun k => impl_digitsAt.f k a0 a1)
theorem impl_digitsAt.f_lim (a0 : ByteArray) (a1 : Int) : Lim (fun k => impl_digitsAt.f k a0 a1) (impl_digitsAt.fv a0 a1) := Lim.of (fun k => impl_digitsAt.mono a0 a1 k)
set_option maxHeartbeats 4000000 in
theorem impl_digitsAt.l0v_eq (x0 : ByteArray) (x1 : Int) (x5 : Int) : impl_digitsAt.l0v x0 x1 x5 = (if (wrap64 (x1 + x5)) < (x0.size : Int) then (if 0 ≤ (wrap64 (x1 + x5)) then (if (bt x0 (wrap64 (x1 + x5))) ≥ 48 then (if (bt x0 (wrap64 (x1 + x5))) ≤ 57 then (impl_digitsAt.l0v x0 x1 (wrap64 (x5 + 1))) else (some x5)) else (some x5)) else (none)) else (some x5)) := by
  refine Lim.succ (impl_digitsAt.l0_lim x0 x1 x5) ?_
  simp only [impl_digitsAt.l0]
  repeat' first
    | (with_reducible apply impl_digitsAt.l0_lim)
    | (with_reducible exact Lim.const _)
    | (with_reducible refine Lim.ite ?_ ?_)
    | (with_reducible refine Lim.bind ?_ (fun _ => ?_))
    | apply impl_digitsAt.l0_lim
    | exact Lim.const _
    | refine Lim.ite ?_ ?_
    | refine Lim.bind ?_ (fun _ => ?_)
set_option maxHeartbeats 4000000 in
theorem impl_digitsAt.fv_eq (a0 : ByteArray) (a1 : Int) : impl_digitsAt.fv a0 a1 = (impl_digitsAt.l0v a0 a1 0) := by
  refine Lim.eq (impl_digitsAt.f_lim a0 a1) ?_
  simp only [impl_digitsAt.f]
  repeat' first
    | (with_reducible apply impl_digitsAt.l0_lim)
    | (with_reducible exact Lim.const _)
    | (with_reducible refine Lim.ite ?_ ?_)
    | (with_reducible refine Lim.bind ?_ (fun _ => ?_))
    | apply impl_digitsAt.l0_lim
    | exact Lim.const _
    | refine Lim.ite ?_ ?_
    | refine Lim.bind ?_ (fun _ => ?_)

/-! ### strconv_Atoi -/
def strconv_Atoi.f (a0 : ByteArray) : Option (Int × Option Int) := if a0.size ≤ 18 then (match Lib.atoi a0.data.toList with | some n_ => some (n_, none) | none => none) else none

/-! ### impl_DecOk -/
def impl_DecOk.f (a0 : Int) : Option (Bool) := (impl_in.f a0 (-9000000000000) 9000000000000).bind fun t169 => (some t169)

/-! ### impl_right -/
def impl_right.f (a0 : Int) : Option (Int × Bool) := (impl_DecOk.f a0).bind fun t170 => (if t170 = true then (some (a0, true)) else (some (0, false)))

/-! ### impl_millionths -/
def impl_millionths.f (a0 : ByteArray) (a1 : ByteArray) : Option (Int × Bool) := (strings_TrimLeft.f a0 (⟨#[48]⟩ : ByteArray)).bind fun t171 => (if a1.size + 6 ≤ 9223372036854775807 then (if 0 ≤ 6 then (if 6 ≤ ((a1 ++ (⟨#[48, 48, 48, 48, 48, 48]⟩ : ByteArray)).size : Int) then (if (t171.size : Int) > 7 then (some (0, false)) else (if 1 + t171.size ≤ 9223372036854775807 then (if ((⟨#[48]⟩ : ByteArray) ++ t171).size + ((a1 ++ (⟨#[48, 48, 48, 48, 48, 48]⟩ : ByteArray)).extract 0 6).size ≤ 9223372036854775807 then ((strconv_Atoi.f (((⟨#[48]⟩ : ByteArray) ++ t171) ++ ((a1 ++ (⟨#[48, 48, 48, 48, 48, 48]⟩ : ByteArray)).extract 0 6))).bind fun bt172 => ((impl_right.f bt172.1).bind fun bt174 => (some (bt174.1, bt174.2)))) else (none)) else (none))) else (none)) else (none)) else (none))

/-! ### impl_DecFront -/
mutual
def impl_DecFront.j0 : Nat → ByteArray → Int → Bool → Bool → Option (Int × Int)
  | 0, _, _, _, _ => none
  | k + 1, x0, x4, x5, x33 => if x33 = true then (if 0 ≤ x4 then (if x4 < (x0.size : Int) then (impl_DecFront.j1 k x0 (wrap64 (x4 + 1)) ((bt x0 x4) == 45)) else (none)) else (none)) else (impl_DecFront.j1 k x0 x4 x5)
def impl_DecFront.j1 : Nat → ByteArray → Int → Bool → Option (Int × Int)
  | 0, _, _, _ => none
  | k + 1, x0, x4, x5 => (impl_digitsAt.f k x0 x4).bind fun t177 => (if 0 ≤ x4 then (if x4 ≤ (wrap64 (x4 + t177)) then (if (wrap64 (x4 + t177)) ≤ (x0.size : Int) then (if (wrap64 (x4 + t177)) < (x0.size : Int) then (if 0 ≤ (wrap64 (x4 + t177)) then (impl_DecFront.j2 k x0 (wrap64 (x4 + t177)) x5 (x0.extract (x4 : Int).toNat ((wrap64 (x4 + t177)) : Int).toNat) (⟨#[]⟩ : ByteArray) ((bt x0 (wrap64 (x4 + t177))) == 46)) else (none)) else (impl_DecFront.j2 k x0 (wrap64 (x4 + t177)) x5 (x0.extract (x4 : Int).toNat ((wrap64 (x4 + t177)) : Int).toNat) (⟨#[]⟩ : ByteArray) false)) else (none)) else (none)) else (none))
def impl_DecFront.j2 : Nat → ByteArray → Int → Bool → ByteArray → ByteArray → Bool → Option (Int × Int)
  | 0, _, _, _, _, _, _ => none
  | k + 1, x0, x4, x5, x7, x8, x61 => if x61 = true then ((impl_digitsAt.f k x0 (wrap64 (x4 + 1))).bind fun t178 => (if t178 > 0 then (if 0 ≤ (wrap64 (x4 + 1)) then (if (wrap64 (x4 + 1)) ≤ (wrap64 ((wrap64 (x4 + 1)) + t178)) then (if (wrap64 ((wrap64 (x4 + 1)) + t178)) ≤ (x0.size : Int) then (impl_DecFront.j3 k (wrap64 (x4 + (wrap64 (1 + t178)))) x5 x7 (x0.extract ((wrap64 (x4 + 1)) : Int).toNat ((wrap64 ((wrap64 (x4 + 1)) + t178)) : Int).toNat)) else (none)) else (none)) else (none)) else (impl_DecFront.j3 k x4 x5 x7 x8))) else (impl_DecFront.j3 k x4 x5 x7 x8)
def impl_DecFront.j3 : Nat → Int → Bool → ByteArray → ByteArray → Option (Int × Int)
  | 0, _, _, _, _ => none
  | k + 1, x4, x5, x7, x8 => if x7.toList = ([] : List UInt8) then (impl_DecFront.j4 k x4 x5 x7 x8 (x8.toList == ([] : List UInt8))) else (impl_DecFront.j4 k x4 x5 x7 x8 false)
def impl_DecFront.j4 : Nat → Int → Bool → ByteArray → ByteArray → Bool → Option (Int × Int)
  | 0, _, _, _, _, _ => none
  | k + 1, x4, x5, x7, x8, x85 => if x85 = true then (some (0, 0)) else ((impl_millionths.f x7 x8).bind fun bt179 => (if bt179.2 = true then (if x5 = true then (some (wrap64 (-bt179.1), x4)) else (some (bt179.1, x4))) else (some (0, 0))))
end
def impl_DecFront.f (k : Nat) (a0 : ByteArray) : Option (Int × Int) := (strings_TrimLeft.f a0 (⟨#[32]⟩ : ByteArray)).bind fun t176 => (if (wrap64 ((a0.size : Int) - (t176.size : Int))) < (a0.size : Int) then (if 0 ≤ (wrap64 ((a0.size : Int) - (t176.size : Int))) then (if (bt a0 (wrap64 ((a0.size : Int) - (t176.size : Int)))) = 43 then (impl_DecFront.j0 k a0 (wrap64 ((a0.size : Int) - (t176.size : Int))) false true) else (impl_DecFront.j0 k a0 (wrap64 ((a0.size : Int) - (t176.size : Int))) false ((bt a0 (wrap64 ((a0.size : Int) - (t176.size : Int)))) == 45))) else (none)) else (impl_DecFront.j0 k a0 (wrap64 ((a0.size : Int) - (t176.size : Int))) false false))
theorem impl_DecFront.mono_l : ∀ k, (∀ y0 y1 y2 y3, LeO (impl_DecFront.j0 k y0 y1 y2 y3) (impl_DecFront.j0 (k + 1) y0 y1 y2 y3)) ∧ (∀ y0 y1 y2, LeO (impl_DecFront.j1 k y0 y1 y2) (impl_DecFront.j1 (k + 1) y0 y1 y2)) ∧ (∀ y0 y1 y2 y3 y4 y5, LeO (impl_DecFront.j2 k y0 y1 y2 y3 y4 y5) (impl_DecFront.j2 (k + 1) y0 y1 y2 y3 y4 y5)) ∧ (∀ y0 y1 y2 y3, LeO (impl_DecFront.j3 k y0 y1 y2 y3) (impl_DecFront.j3 (k + 1) y0 y1 y2 y3)) ∧ (∀ y0 y1 y2 y3 y4, LeO (impl_DecFront.j4 k y0 y1 y2 y3 y4) (impl_DecFront.j4 (k + 1) y0 y1 y2 y3 y4))
  | 0 => ⟨fun _ _ _ _ r h => by simp [impl_DecFront.j0] at h, fun _ _ _ r h => by simp [impl_DecFront.j1] at h, fun _ _ _ _ _ _ r h => by simp [impl_DecFront.j2] at h, fun _ _ _ _ r h => by simp [impl_DecFront.j3] at h, fun _ _ _ _ _ r h => by simp [impl_DecFront.j4] at h⟩
  | k + 1 => by
    obtain ⟨ih0, ih1, ih2, ih3, ih4⟩ := impl_DecFront.mono_l k
    refine ⟨?_, ?_, ?_, ?_, ?_⟩
    · intro y0 y1 y2 y3
      unfold impl_DecFront.j0
      repeat' first
      | (with_reducible exact ih0 _ _ _ _)
      | (with_reducible exact ih1 _ _ _)
      | (with_reducible exact ih2 _ _ _ _ _ _)
      | (with_reducible exact ih3 _ _ _ _)
      | (with_reducible exact ih4 _ _ _ _ _)
      | (with_reducible exact impl_digitsAt.mono _ _ _)
      | (with_reducible exact LeO.refl _)
      | (with_reducible exact LeO.none _)
      | (with_reducible refine LeO.ite ?_ ?_)
      | (with_reducible refine LeO.bind ?_ (fun _ => ?_))
      | exact ih0 _ _ _ _
      | exact ih1 _ _ _
      | exact ih2 _ _ _ _ _ _
      | exact ih3 _ _ _ _
      | exact ih4 _ _ _ _ _
      | exact impl_digitsAt.mono _ _ _
      | exact LeO.none _
      | refine LeO.ite ?_ ?_
      | refine LeO.bind ?_ (fun _ => ?_)
    · intro y0 y1 y2
      unfold impl_DecFront.j1
      repeat' first
      | (with_reducible exact ih0 _ _ _ _)
      | (with_reducible exact ih1 _ _ _)
      | (with_reducible exact ih2 _ _ _ _ _ _)
      | (with_reducible exact ih3 _ _ _ _)
      | (with_reducible exact ih4 _ _ _ _ _)
      | (with_reducible exact impl_digitsAt.mono _ _ _)
      | (with_reducible exact LeO.refl _)
      | (with_reducible exact LeO.none _)
      | (with_reducible refine LeO.ite ?_ ?_)
      | (with_reducible refine LeO.bind ?_ (fun _ => ?_))
      | exact ih0 _ _ _ _
      | exact ih1 _ _ _
      | exact ih2 _ _ _ _ _ _
      | exact ih3 _ _ _ _
      | exact ih4 _ _ _ _ _
      | exact impl_digitsAt.mono _ _ _
      | exact LeO.none _
      | refine LeO.ite ?_ ?_
      | refine LeO.bind ?_ (fun _ => ?_)
    · intro y0 y1 y2 y3 y4 y5
      unfold impl_DecFront.j2
      repeat' first
      | (with_reducible exact ih0 _ _ _ _)
      | (with_reducible exact ih1 _ _ _)
      | (with_reducible exact ih2 _ _ _ _ _ _)
      | (with_reducible exact ih3 _ _ _ _)
      | (with_reducible exact ih4 _ _ _ _ _)
      | (with_reducible exact impl_digitsAt.mono _ _ _)
      | (with_reducible exact LeO.refl _)
      | (with_reducible exact LeO.none _)
      | (with_reducible refine LeO.ite ?_ ?_)
      | (with_reducible refine LeO.bind ?_ (fun _ => ?_))
      | exact ih0 _ _ _ _
      | exact ih1 _ _ _
      | exact ih2 _ _ _ _ _ _
      | exact ih3 _ _ _ _
      | exact ih4 _ _ _ _ _
      | exact impl_digitsAt.mono _ _ _
      | exact LeO.none _
      | refine LeO.ite ?_ ?_
      | refine LeO.bind ?_ (fun _ => ?_)
    · intro y0 y1 y2 y3
      unfold impl_DecFront.j3
      repeat' first
      | (with_reducible exact ih0 _ _ _ _)
      | (with_reducible exact ih1 _ _ _)
      | (with_reducible exact ih2 _ _ _ _ _ _)
      | (with_reducible exact ih3 _ _ _ _)
      | (with_reducible exact ih4 _ _ _ _ _)
      | (with_reducible exact impl_digitsAt.mono _ _ _)
      | (with_reducible exact LeO.refl _)
      | (with_reducible exact LeO.none _)
      | (with_reducible refine LeO.ite ?_ ?_)
      | (with_reducible refine LeO.bind ?_ (fun _ => ?_))
      | exact ih0 _ _ _ _
      | exact ih1 _ _ _
      | exact ih2 _ _ _ _ _ _
      | exact ih3 _ _ _ _
      | exact ih4 _ _ _ _ _
      | exact impl_digitsAt.mono _ _ _
      | exact LeO.none _
      | refine LeO.ite ?_ ?_
      | refine LeO.bind ?_ (fun _ => ?_)
    · intro y0 y1 y2 y3 y4
      unfold impl_DecFront.j4
      repeat' first
      | (with_reducible exact ih0 _ _ _ _)
      | (with_reducible exact ih1 _ _ _)
      | (with_reducible exact ih2 _ _ _ _ _ _)
      | (with_reducible exact ih3 _ _ _ _)
      | (with_reducible exact ih4 _ _ _ _ _)
      | (with_reducible exact impl_digitsAt.mono _ _ _)
      | (with_reducible exact LeO.refl _)
      | (with_reducible exact LeO.none _)
      | (with_reducible refine LeO.ite ?_ ?_)
      | (with_reducible refine LeO.bind ?_ (fun _ => ?_))
      | exact ih0 _ _ _ _
      | exact ih1 _ _ _
      | exact ih2 _ _ _ _ _ _
      | exact ih3 _ _ _ _
      | exact ih4 _ _ _ _ _
      | exact impl_digitsAt.mono _ _ _
      | exact LeO.none _
      | refine LeO.ite ?_ ?_
      | refine LeO.bind ?_ (fun _ => ?_)
theorem impl_DecFront.mono : ∀ a0 k, LeO (impl_DecFront.f k a0) (impl_DecFront.f (k + 1) a0) := by
  intro a0 k
  obtain ⟨ih0, ih1, ih2, ih3, ih4⟩ := impl_DecFront.mono_l k
  unfold impl_DecFront.f
  repeat' first
      | (with_reducible exact ih0 _ _ _ _)
      | (with_reducible exact ih1 _ _ _)
      | (with_reducible exact ih2 _ _ _ _ _ _)
      | (with_reducible exact ih3 _ _ _ _)
      | (with_reducible exact ih4 _ _ _ _ _)
      | (with_reducible exact impl_digitsAt.mono _ _ _)
      | (with_reducible exact LeO.refl _)
      | (with_reducible exact LeO.none _)
      | (with_reducible refine LeO.ite ?_ ?_)
      | (with_reducible refine LeO.bind ?_ (fun _ => ?_))
      | exact ih0 _ _ _ _
      | exact ih1 _ _ _
      | exact ih2 _ _ _ _ _ _
      | exact ih3 _ _ _ _
      | exact ih4 _ _ _ _ _
      | exact impl_digitsAt.mono _ _ _
      | exact LeO.none _
      | refine LeO.ite ?_ ?_
      | refine LeO.bind ?_ (fun _ => ?_)
noncomputable def impl_DecFront.j0v (x0 : ByteArray) (x4 : Int) (x5 : Bool) (x33 : Bool) : Option (Int × Int) := limOf (fun k => impl_DecFront.j0 k x0 x4 x5 x33)
theorem impl_DecFront.j0_lim (x0 : ByteArray) (x4 : Int) (x5 : Bool) (x33 : Bool) : Lim (fun k => impl_DecFront.j0 k x0 x4 x5 x33) (impl_DecFront.j0v x0 x4 x5 x33) := Lim.of (fun k => (impl_DecFront.mono_l k).1 x0 x4 x5 x33)
noncomputable def impl_DecFront.j1v (x0 : ByteArray) (x4 : Int) (x5 : Bool) : Option (Int × Int) := limOf (fun k => impl_DecFront.j1 k x0 x4 x5)
theorem impl_DecFront.j1_lim (x0 : ByteArray) (x4 : Int) (x5 : Bool) : Lim (fun k => impl_DecFront.j1 k x0 x4 x5) (impl_DecFront.j1v x0 x4 x5) := Lim.of (fun k => (impl_DecFront.mono_l k).2.1 x0 x4 x5)
noncomputable def impl_DecFront.j2v (x0 : ByteArray) (x4 : Int) (x5 : Bool) (x7 : ByteArray) (x8 : ByteArray) (x61 : Bool) : Option (Int × Int) := limOf (fun k => impl_DecFront.j2 k x0 x4 x5 x7 x8 x61)
theorem impl_DecFront.j2_lim (x0 : ByteArray) (x4 : Int) (x5 : Bool) (x7 : ByteArray) (x8 : ByteArray) (x61 : Bool) : Lim (fun k => impl_DecFront.j2 k x0 x4 x5 x7 x8 x61) (impl_DecFront.j2v x0 x4 x5 x7 x8 x61) := Lim.of (fun k => (impl_DecFront.mono_l k).2.2.1 x0 x4 x5 x7 x8 x61)
noncomputable def impl_DecFront.j3v (x4 : Int) (x5 : Bool) (x7 : ByteArray) (x8 : ByteArray) : Option (Int × Int) := limOf (fun k => impl_DecFront.j3 k x4 x5 x7 x8)
theorem impl_DecFront.j3_lim (x4 : Int) (x5 : Bool) (x7 : ByteArray) (x8 : ByteArray) : Lim (fun k => impl_DecFront.j3 k x4 x5 x7 x8) (impl_DecFront.j3v x4 x5 x7 x8) := Lim.of (fun k => (impl_DecFront.mono_l k).2.2.2.1 x4 x5 x7 x8)
noncomputable def impl_DecFront.j4v (x4 : Int) (x5 : Bool) (x7 : ByteArray) (x8 : ByteArray) (x85 : Bool) : Option (Int × Int) := limOf (fun k => impl_DecFront.j4 k x4 x5 x7 x8 x85)
theorem impl_DecFront.j4_lim (x4 : Int) (x5 : Bool) (x7 : ByteArray) (x8 : ByteArray) (x85 : Bool) : Lim (fun k => impl_DecFront.j4 k x4 x5 x7 x8 x85) (impl_DecFront.j4v x4 x5 x7 x8 x85) := Lim.of (fun k => (impl_DecFront.mono_l k).2.2.2.2 x4 x5 x7 x8 x85)
noncomputable def impl_DecFront.fv (a0 : ByteArray) : Option (Int × Int) := limOf (fun k => impl_DecFront.f k a0)
theorem impl_DecFront.f_lim (a0 : ByteArray) : Lim (fun k => impl_DecFront.f k a0) (impl_DecFront.fv a0) := Lim.of (fun k => impl_DecFront.mono a0 k)
set_option maxHeartbeats 4000000 in
theorem impl_DecFront.j0v_eq (x0 : ByteArray) (x4 : Int) (x5 : Bool) (x33 : Bool) : impl_DecFront.j0v x0 x4 x5 x33 = (if x33 = true then (if 0 ≤ x4 then (if x4 < (x0.size : Int) then (impl_DecFront.j1v x0 (wrap64 (x4 + 1)) ((bt x0 x4) == 45)) else (none)) else (none)) else (impl_DecFront.j1v x0 x4 x5)) := by
  refine Lim.succ (impl_DecFront.j0_lim x0 x4 x5 x33) ?_
  simp only [impl_DecFront.j0]
  repeat' first
    | (with_reducible apply impl_DecFront.j1_lim)
    | (with_reducible exact Lim.const _)
    | (with_reducible refine Lim.ite ?_ ?_)
    | (with_reducible refine Lim.bind ?_ (fun _ => ?_))
    | apply impl_DecFront.j1_lim
    | exact Lim.const _
    | refine Lim.ite ?_ ?_
    | refine Lim.bind ?_ (fun _ => ?_)
set_option maxHeartbeats 4000000 in
theorem impl_DecFront.j1v_eq (x0 : ByteArray) (x4 : Int) (x5 : Bool) : impl_DecFront.j1v x0 x4 x5 = ((impl_digitsAt.fv x0 x4).bind fun t177 => (if 0 ≤ x4 then (if x4 ≤ (wrap64 (x4 + t177)) then (if (wrap64 (x4 + t177)) ≤ (x0.size : Int) then (if (wrap64 (x4 + t177)) < (x0.size : Int) then (if 0 ≤ (wrap64 (x4 + t177)) then (impl_DecFront.j2v x0 (wrap64 (x4 + t177)) x5 (x0.extract (x4 : Int).toNat ((wrap64 (x4 + t177)) : Int).toNat) (⟨#[]⟩ : ByteArray) ((bt x0 (wrap64 (x4 + t177))) == 46)) else (none)) else (impl_DecFront.j2v x0 (wrap64 (x4 + t177)) x5 (x0.extract (x4 : Int).toNat ((wrap64 (x4 + t177)) : Int).toNat) (⟨#[]⟩ : ByteArray) false)) else (none)) else (none)) else (none))) := by
  refine Lim.succ (impl_DecFront.j1_lim x0 x4 x5) ?_
  simp only [impl_DecFront.j1]
  repeat' first
    | (with_reducible apply impl_DecFront.j2_lim)
    | (with_reducible apply impl_digitsAt.f_lim)
    | (with_reducible exact Lim.const _)
    | (with_reducible refine Lim.ite ?_ ?_)
    | (with_reducible refine Lim.bind ?_ (fun _ => ?_))
    | apply impl_DecFront.j2_lim
    | apply impl_digitsAt.f_lim
    | exact Lim.const _
    | refine Lim.ite ?_ ?_
    | refine Lim.bind ?_ (fun _ => ?_)
set_option maxHeartbeats 4000000 in
theorem impl_DecFront.j2v_eq (x0 : ByteArray) (x4 : Int) (x5 : Bool) (x7 : ByteArray) (x8 : ByteArray) (x61 : Bool) : impl_DecFront.j2v x0 x4 x5 x7 x8 x61 = (if x61 = true then ((impl_digitsAt.fv x0 (wrap64 (x4 + 1))).bind fun t178 => (if t178 > 0 then (if 0 ≤ (wrap64 (x4 + 1)) then (if (wrap64 (x4 + 1)) ≤ (wrap64 ((wrap64 (x4 + 1)) + t178)) then (if (wrap64 ((wrap64 (x4 + 1)) + t178)) ≤ (x0.size : Int) then (impl_DecFront.j3v (wrap64 (x4 + (wrap64 (1 + t178)))) x5 x7 (x0.extract ((wrap64 (x4 + 1)) : Int).toNat ((wrap64 ((wrap64 (x4 + 1)) + t178)) : Int).toNat)) else (none)) else (none)) else (none)) else (impl_DecFront.j3v x4 x5 x7 x8))) else (impl_DecFront.j3v x4 x5 x7 x8)) := by
  refine Lim.succ (impl_DecFront.j2_lim x0 x4 x5 x7 x8 x61) ?_
  simp only [impl_DecFront.j2]
  repeat' first
    | (with_reducible apply impl_DecFront.j3_lim)
    | (with_reducible apply impl_digitsAt.f_lim)
    | (with_reducible exact Lim.const _)
    | (with_reducible refine Lim.ite ?_ ?_)
    | (with_reducible refine Lim.bind ?_ (fun _ => ?_))
    | apply impl_DecFront.j3_lim
    | apply impl_digitsAt.f_lim
    | exact Lim.const _
    | refine Lim.ite ?_ ?_
    | refine Lim.bind ?_ (fun _ => ?_)
set_option maxHeartbeats 4000000 in
theorem impl_DecFront.j3v_eq (x4 : Int) (x5 : Bool) (x7 : ByteArray) (x8 : ByteArray) : impl_DecFront.j3v x4 x5 x7 x8 = (if x7.toList = ([] : List UInt8) then (impl_DecFront.j4v x4 x5 x7 x8 (x8.toList == ([] : List UInt8))) else (impl_DecFront.j4v x4 x5 x7 x8 false)) := by
  refine Lim.succ (impl_DecFront.j3_lim x4 x5 x7 x8) ?_
  simp only [impl_DecFront.j3]
  repeat' first
    | (with_reducible apply impl_DecFront.j4_lim)
    | (with_reducible exact Lim.const _)
    | (with_reducible refine Lim.ite ?_ ?_)
    | (with_reducible refine Lim.bind ?_ (fun _ => ?_))
    | apply impl_DecFront.j4_lim
    | exact Lim.const _
    | refine Lim.ite ?_ ?_
    | refine Lim.bind ?_ (fun _ => ?_)
set_option maxHeartbeats 4000000 in
theorem impl_DecFront.j4v_eq (x4 : Int) (x5 : Bool) (x7 : ByteArray) (x8 : ByteArray) (x85 : Bool) : impl_DecFront.j4v x4 x5 x7 x8 x85 = (if x85 = true then (some (0, 0)) else ((impl_millionths.f x7 x8).bind fun bt179 => (if bt179.2 = true then (if x5 = true then (some (wrap64 (-bt179.1), x4)) else (some (bt179.1, x4))) else (some (0, 0))))) := by
  refine Lim.succ (impl_DecFront.j4_lim x4 x5 x7 x8 x85) ?_
  simp only [impl_DecFront.j4]
  repeat' first
    | (with_reducible exact Lim.const _)
    | (with_reducible refine Lim.ite ?_ ?_)
    | (with_reducible refine Lim.bind ?_ (fun _ => ?_))
    | exact Lim.const _
    | refine Lim.ite ?_ ?_
    | refine Lim.bind ?_ (fun _ => ?_)
set_option maxHeartbeats 4000000 in
theorem impl_DecFront.fv_eq (a0 : ByteArray) : impl_DecFront.fv a0 = ((strings_TrimLeft.f a0 (⟨#[32]⟩ : ByteArray)).bind fun t176 => (if (wrap64 ((a0.size : Int) - (t176.size : Int))) < (a0.size : Int) then (if 0 ≤ (wrap64 ((a0.size : Int) - (t176.size : Int))) then (if (bt a0 (wrap64 ((a0.size : Int) - (t176.size : Int)))) = 43 then (impl_DecFront.j0v a0 (wrap64 ((a0.size : Int) - (t176.size : Int))) false true) else (impl_DecFront.j0v a0 (wrap64 ((a0.size : Int) - (t176.size : Int))) false ((bt a0 (wrap64 ((a0.size : Int) - (t176.size : Int)))) == 45))) else (none)) else (impl_DecFront.j0v a0 (wrap64 ((a0.size : Int) - (t176.size : Int))) false false))) := by
  refine Lim.eq (impl_DecFront.f_lim a0) ?_
  simp only [impl_DecFront.f]
  repeat' first
    | (with_reducible apply impl_DecFront.j0_lim)
    | (with_reducible exact Lim.const _)
    | (with_reducible refine Lim.ite ?_ ?_)
    | (with_reducible refine Lim.bind ?_ (fun _ => ?_))
    | apply impl_DecFront.j0_lim
    | exact Lim.const _
    | refine Lim.ite ?_ ?_
    | refine Lim.bind ?_ (fun _ => ?_)

/-! ### strings_Trim -/
def strings_Trim.f (a0 : ByteArray) (a1 : ByteArray) : Option (ByteArray) := match a1.data.toList with | [c_] => if c_.toNat < 128 ∧ a0.size ≤ 9223372036854775807 then some ⟨(Lib.trimB a0.data.toList c_).toArray⟩ else none | _ => none

/-! ### impl_DecLooks -/
def impl_DecLooks.f (k : Nat) (a0 : ByteArray) : Option (Int × Bool) := (impl_DecFront.f k a0).bind fun bt181 => (if bt181.2 = 0 then (some (0, false)) else (if 0 ≤ bt181.2 then (if bt181.2 ≤ (a0.size : Int) then ((strings_Trim.f (a0.extract (bt181.2 : Int).toNat a0.size) (⟨#[32]⟩ : ByteArray)).bind fun t183 => (if t183.toList = ([] : List UInt8) then (some (bt181.1, true)) else (some (0, false)))) else (none)) else (none)))
theorem impl_DecLooks.mono : ∀ a0 k, LeO (impl_DecLooks.f k a0) (impl_DecLooks.f (k + 1) a0) := by
  intro a0 k
  unfold impl_DecLooks.f
  repeat' first
      | (with_reducible exact impl_DecFront.mono _ _)
      | (with_reducible exact LeO.refl _)
      | (with_reducible exact LeO.none _)
      | (with_reducible refine LeO.ite ?_ ?_)
      | (with_reducible refine LeO.bind ?_ (fun _ => ?_))
      | exact impl_DecFront.mono _ _
      | exact LeO.none _
      | refine LeO.ite ?_ ?_
      | refine LeO.bind ?_ (fun _ => ?_)
noncomputable def impl_DecLooks.fv (a0 : ByteArray) : Option (Int × Bool) := limOf (fun k => impl_DecLooks.f k a0)
theorem impl_DecLooks.f_lim (a0 : ByteArray) : Lim (fun k => impl_DecLooks.f k a0) (impl_DecLooks.fv a0) := Lim.of (fun k => impl_DecLooks.mono a0 k)
set_option maxHeartbeats 4000000 in
theorem impl_DecLooks.fv_eq (a0 : ByteArray) : impl_DecLooks.fv a0 = ((impl_DecFront.fv a0).bind fun bt181 => (if bt181.2 = 0 then (some (0, false)) else (if 0 ≤ bt181.2 then (if bt181.2 ≤ (a0.size : Int) then ((strings_Trim.f (a0.extract (bt181.2 : Int).toNat a0.size) (⟨#[32]⟩ : ByteArray)).bind fun t183 => (if t183.toList = ([] : List UInt8) then (some (bt181.1, true)) else (some (0, false)))) else (none)) else (none)))) := by
  refine Lim.eq (impl_DecLooks.f_lim a0) ?_
  simp only [impl_DecLooks.f]
  repeat' first
    | (with_reducible apply impl_DecFront.f_lim)
    | (with_reducible exact Lim.const _)
    | (with_reducible refine Lim.ite ?_ ?_)
    | (with_reducible refine Lim.bind ?_ (fun _ => ?_))
    | apply impl_DecFront.f_lim
    | exact Lim.const _
    | refine Lim.ite ?_ ?_
    | refine Lim.bind ?_ (fun _ => ?_)

/-! ### impl_ValOk -/
def impl_ValOk.j0 : Nat → Bool → Int → Int → ByteArray → Option (Bool)
  | 0, _, _, _, _ => none
  | k + 1, x14, x185000, x185001, x185002 => if x14 = true then (some false) else (if x185000 = 0 then (if x185001 = 0 then (some (x185002.toList == ([] : List UInt8))) else (some false)) else (if x185000 = 1 then (some (x185002.toList == ([] : List UInt8))) else (if x185000 = 2 then (some (x185001 == 0)) else (if x185000 = 3 then ((impl_DecLooks.f k x185002).bind fun bt186 => (if bt186.2 = true then (some (bt186.1 == x185001)) else (some false))) else (some false)))))
def impl_ValOk.f (k : Nat) (a0_0 : Int) (a0_1 : Int) (a0_2 : ByteArray) : Option (Bool) := (impl_DecOk.f a0_1).bind fun t185 => (if t185 = true then (impl_ValOk.j0 k (decide ((a0_2.size : Int) > 300)) a0_0 a0_1 a0_2) else (impl_ValOk.j0 k true a0_0 a0_1 a0_2))
theorem impl_ValOk.mono_l : ∀ k, (∀ y0 y1 y2 y3, LeO (impl_ValOk.j0 k y0 y1 y2 y3) (impl_ValOk.j0 (k + 1) y0 y1 y2 y3))
  | 0 => fun _ _ _ _ r h => by simp [impl_ValOk.j0] at h
  | k + 1 => by
    have ih0 := impl_ValOk.mono_l k
    · intro y0 y1 y2 y3
      unfold impl_ValOk.j0
      repeat' first
      | (with_reducible exact ih0 _ _ _ _)
      | (with_reducible exact impl_DecLooks.mono _ _)
      | (with_reducible exact LeO.refl _)
      | (with_reducible exact LeO.none _)
      | (with_reducible refine LeO.ite ?_ ?_)
      | (with_reducible refine LeO.bind ?_ (fun _ => ?_))
      | exact ih0 _ _ _ _
      | exact impl_DecLooks.mono _ _
      | exact LeO.none _
      | refine LeO.ite ?_ ?_
      | refine LeO.bind ?_ (fun _ => ?_)
theorem impl_ValOk.mono : ∀ a0 a1 a2 k, LeO (impl_ValOk.f k a0 a1 a2) (impl_ValOk.f (k + 1) a0 a1 a2) := by
  intro a0 a1 a2 k
  have ih0 := impl_ValOk.mono_l k
  unfold impl_ValOk.f
  repeat' first
      | (with_reducible exact ih0 _ _ _ _)
      | (with_reducible exact impl_DecLooks.mono _ _)
      | (with_reducible exact LeO.refl _)
      | (with_reducible exact LeO.none _)
      | (with_reducible refine LeO.ite ?_ ?_)
      | (with_reducible refine LeO.bind ?_ (fun _ => ?_))
      | exact ih0 _ _ _ _
      | exact impl_DecLooks.mono _ _
      | exact LeO.none _
      | refine LeO.ite ?_ ?_
      | refine LeO.bind ?_ (fun _ => ?_)
noncomputable def impl_ValOk.j0v (x14 : Bool) (x185000 : Int) (x185001 : Int) (x185002 : ByteArray) : Option (Bool) := limOf (fun k => impl_ValOk.j0 k x14 x185000 x185001 x185002)
theorem impl_ValOk.j0_lim (x14 : Bool) (x185000 : Int) (x185001 : Int) (x185002 : ByteArray) : Lim (fun k => impl_ValOk.j0 k x14 x185000 x185001 x185002) (impl_ValOk.j0v x14 x185000 x185001 x185002) := Lim.of (fun k => impl_ValOk.mono_l k x14 x185000 x185001 x185002)
noncomputable def impl_ValOk.fv (a0_0 : Int) (a0_1 : Int) (a0_2 : ByteArray) : Option (Bool) := limOf (fun k => impl_ValOk.f k a0_0 a0_1 a0_2)
theorem impl_ValOk.f_lim (a0_0 : Int) (a0_1 : Int) (a0_2 : ByteArray) : Lim (fun k => impl_ValOk.f k a0_0 a0_1 a0_2) (impl_ValOk.fv a0_0 a0_1 a0_2) := Lim.of (fun k => impl_ValOk.mono a0_0 a0_1 a0_2 k)
set_option maxHeartbeats 4000000 in
theorem impl_ValOk.j0v_eq (x14 : Bool) (x185000 : Int) (x185001 : Int) (x185002 : ByteArray) : impl_ValOk.j0v x14 x185000 x185001 x185002 = (if x14 = true then (some false) else (if x185000 = 0 then (if x185001 = 0 then (some (x185002.toList == ([] : List UInt8))) else (some false)) else (if x185000 = 1 then (some (x185002.toList == ([] : List UInt8))) else (if x185000 = 2 then (some (x185001 == 0)) else (if x185000 = 3 then ((impl_DecLooks.fv x185002).bind fun bt186 => (if bt186.2 = true then (some (bt186.1 == x185001)) else (some false))) else (some false)))))) := by
  refine Lim.succ (impl_ValOk.j0_lim x14 x185000 x185001 x185002) ?_
  simp only [impl_ValOk.j0]
  repeat' first
    | (with_reducible apply impl_DecLooks.f_lim)
    | (with_reducible exact Lim.const _)
    | (with_reducible refine Lim.ite ?_ ?_)
    | (with_reducible refine Lim.bind ?_ (fun _ => ?_))
    | apply impl_DecLooks.f_lim
    | exact Lim.const _
    | refine Lim.ite ?_ ?_
    | refine Lim.bind ?_ (fun _ => ?_)
set_option maxHeartbeats 4000000 in
theorem impl_ValOk.fv_eq (a0_0 : Int) (a0_1 : Int) (a0_2 : ByteArray) : impl_ValOk.fv a0_0 a0_1 a0_2 = ((impl_DecOk.f a0_1).bind fun t185 => (if t185 = true then (impl_ValOk.j0v (decide ((a0_2.size : Int) > 300)) a0_0 a0_1 a0_2) else (impl_ValOk.j0v true a0_0 a0_1 a0_2))) := by
  refine Lim.eq (impl_ValOk.f_lim a0_0 a0_1 a0_2) ?_
  simp only [impl_ValOk.f]
  repeat' first
    | (with_reducible apply impl_ValOk.j0_lim)
    | (with_reducible exact Lim.const _)
    | (with_reducible refine Lim.ite ?_ ?_)
    | (with_reducible refine Lim.bind ?_ (fun _ => ?_))
    | apply impl_ValOk.j0_lim
    | exact Lim.const _
    | refine Lim.ite ?_ ?_
    | refine Lim.bind ?_ (fun _ => ?_)

/-! ### impl_StateOk_1 -/
def impl_StateOk_1.f (k : Nat) (a0_0 : Int) (a0_1 : Int) (a0_2 : ByteArray) : Option (Bool) := (impl_ValOk.f k a0_0 a0_1 a0_2).bind fun t189 => (some (!t189))
theorem impl_StateOk_1.mono : ∀ a0 a1 a2 k, LeO (impl_StateOk_1.f k a0 a1 a2) (impl_StateOk_1.f (k + 1) a0 a1 a2) := by
  intro a0 a1 a2 k
  unfold impl_StateOk_1.f
  repeat' first
      | (with_reducible exact impl_ValOk.mono _ _ _ _)
      | (with_reducible exact LeO.refl _)
      | (with_reducible exact LeO.none _)
      | (with_reducible refine LeO.ite ?_ ?_)
      | (with_reducible refine LeO.bind ?_ (fun _ => ?_))
      | exact impl_ValOk.mono _ _ _ _
      | exact LeO.none _
      | refine LeO.ite ?_ ?_
      | refine LeO.bind ?_ (fun _ => ?_)
noncomputable def impl_StateOk_1.fv (a0_0 : Int) (a0_1 : Int) (a0_2 : ByteArray) : Option (Bool) := limOf (fun k => impl_StateOk_1.f k a0_0 a0_1 a0_2)
theorem impl_StateOk_1.f_lim (a0_0 : Int) (a0_1 : Int) (a0_2 : ByteArray) : Lim (fun k => impl_StateOk_1.f k a0_0 a0_1 a0_2) (impl_StateOk_1.fv a0_0 a0_1 a0_2) := Lim.of (fun k => impl_StateOk_1.mono a0_0 a0_1 a0_2 k)
set_option maxHeartbeats 4000000 in
theorem impl_StateOk_1.fv_eq (a0_0 : Int) (a0_1 : Int) (a0_2 : ByteArray) : impl_StateOk_1.fv a0_0 a0_1 a0_2 = ((impl_ValOk.fv a0_0 a0_1 a0_2).bind fun t189 => (some (!t189))) := by
  refine Lim.eq (impl_StateOk_1.f_lim a0_0 a0_1 a0_2) ?_
  simp only [impl_StateOk_1.f]
  repeat' first
    | (with_reducible apply impl_ValOk.f_lim)
    | (with_reducible exact Lim.const _)
    | (with_reducible refine Lim.ite ?_ ?_)
    | (with_reducible refine Lim.bind ?_ (fun _ => ?_))
    | apply impl_ValOk.f_lim
    | exact Lim.const _
    | refine Lim.ite ?_ ?_
    | refine Lim.bind ?_ (fun _ => ?_)

/-! ### strings_Compare -/
def strings_Compare.f (a0 : ByteArray) (a1 : ByteArray) : Option (Int) := some (Lib.compareBytes a0.data.toList a1.data.toList)

/-! ### impl_cellBefore -/
def impl_cellBefore.f (a0_0 : Int) (a0_1 : ByteArray) (a0_2 : Int) (a0_3 : Int) (a0_4 : ByteArray) (a1_0 : Int) (a1_1 : ByteArray) (a1_2 : Int) (a1_3 : Int) (a1_4 : ByteArray) : Option (Int) := if a0_0 < a1_0 then (some (-1)) else (if a0_0 > a1_0 then (some 1) else ((strings_Compare.f a0_1 a1_1).bind fun t192 => (some t192)))

/-! ### impl_Val_71_188 -/
def impl_Val_71_188.l0 : Nat → List (S26) → Int → Int → Option (Int)
  | 0, _, _, _ => none
  | k + 1, x0, x7, x8 => if x8 < x7 then (if 0 ≤ x8 then (if x8 < (x0.length : Int) then ((impl_StateOk_1.f k ((rd_T26 x0 x8).f0) ((rd_T26 x0 x8).f1) ((rd_T26 x0 x8).f2)).bind fun t194 => (if t194 = true then (some x8) else (impl_Val_71_188.l0 k x0 x7 (wrap64 (x8 + 1))))) else (none)) else (none)) else (some (-1))
def impl_Val_71_188.f (k : Nat) (l0 : List (S26))  : Option (Int) := impl_Val_71_188.l0 k l0 (l0.length : Int) 0
theorem impl_Val_71_188.mono_l : ∀ k, (∀ y0 y1 y2, LeO (impl_Val_71_188.l0 k y0 y1 y2) (impl_Val_71_188.l0 (k + 1) y0 y1 y2))
  | 0 => fun _ _ _ r h => by simp [impl_Val_71_188.l0] at h
  | k + 1 => by
    have ih0 := impl_Val_71_188.mono_l k
    · intro y0 y1 y2
      unfold impl_Val_71_188.l0
      repeat' first
      | (with_reducible exact ih0 _ _ _)
      | (with_reducible exact impl_StateOk_1.mono _ _ _ _)
      | (with_reducible exact LeO.refl _)
      | (with_reducible exact LeO.none _)
      | (with_reducible refine LeO.ite ?_ ?_)
      | (with_reducible refine LeO.bind ?_ (fun _ => ?_))
      | exact ih0 _ _ _
      | exact impl_StateOk_1.mono _ _ _ _
      | exact LeO.none _
      | refine LeO.ite ?_ ?_
      | refine LeO.bind ?_ (fun _ => ?_)
theorem impl_Val_71_188.mono : ∀ a0 k, LeO (impl_Val_71_188.f k a0) (impl_Val_71_188.f (k + 1) a0) := by
  intro a0 k
  have ih0 := impl_Val_71_188.mono_l k
  unfold impl_Val_71_188.f
  repeat' first
      | (with_reducible exact ih0 _ _ _)
      | (with_reducible exact impl_StateOk_1.mono _ _ _ _)
      | (with_reducible exact LeO.refl _)
      | (with_reducible exact LeO.none _)
      | (with_reducible refine LeO.ite ?_ ?_)
      | (with_reducible refine LeO.bind ?_ (fun _ => ?_))
      | exact ih0 _ _ _
      | exact impl_StateOk_1.mono _ _ _ _
      | exact LeO.none _
      | refine LeO.ite ?_ ?_
      | refine LeO.bind ?_ (fun _ => ?_)
noncomputable def impl_Val_71_188.l0v (x0 : List (S26)) (x7 : Int) (x8 : Int) : Option (Int) := limOf (fun k => impl_Val_71_188.l0 k x0 x7 x8)
theorem impl_Val_71_188.l0_lim (x0 : List (S26)) (x7 : Int) (x8 : Int) : Lim (fun k => impl_Val_71_188.l0 k x0 x7 x8) (impl_Val_71_188.l0v x0 x7 x8) := Lim.of (fun k => impl_Val_71_188.mono_l k x0 x7 x8)
noncomputable def impl_Val_71_188.fv (l0 : List (S26)) : Option (Int) := limOf (fun k => impl_Val_71_188.f k l0)
theorem impl_Val_71_188.f_lim (l0 : List (S26)) : Lim (fun k => impl_Val_71_188.f k l0) (impl_Val_71_188.fv l0) := Lim.of (fun k => impl_Val_71_188.mono l0 k)
set_option maxHeartbeats 4000000 in
theorem impl_Val_71_188.l0v_eq (x0 : List (S26)) (x7 : Int) (x8 : Int) : impl_Val_71_188.l0v x0 x7 x8 = (if x8 < x7 then (if 0 ≤ x8 then (if x8 < (x0.length : Int) then ((impl_StateOk_1.fv ((rd_T26 x0 x8).f0) ((rd_T26 x0 x8).f1) ((rd_T26 x0 x8).f2)).bind fun t194 => (if t194 = true then (some x8) else (impl_Val_71_188.l0v x0 x7 (wrap64 (x8 + 1))))) else (none)) else (none)) else (some (-1))) := by
  refine Lim.succ (impl_Val_71_188.l0_lim x0 x7 x8) ?_
  simp only [impl_Val_71_188.l0]
  repeat' first
    | (with_reducible apply impl_StateOk_1.f_lim)
    | (with_reducible apply impl_Val_71_188.l0_lim)
    | (with_reducible exact Lim.const _)
    | (with_reducible refine Lim.ite ?_ ?_)
    | (with_reducible refine Lim.bind ?_ (fun _ => ?_))
    | apply impl_StateOk_1.f_lim
    | apply impl_Val_71_188.l0_lim
    | exact Lim.const _
    | refine Lim.ite ?_ ?_
    | refine Lim.bind ?_ (fun _ => ?_)
set_option maxHeartbeats 4000000 in
theorem impl_Val_71_188.fv_eq (l0 : List (S26)) : impl_Val_71_188.fv l0 = (impl_Val_71_188.l0v l0 (l0.length : Int) 0) := by
  refine Lim.eq (impl_Val_71_188.f_lim l0) ?_
  simp only [impl_Val_71_188.f]
  repeat' first
    | (with_reducible apply impl_Val_71_188.l0_lim)
    | (with_reducible exact Lim.const _)
    | (with_reducible refine Lim.ite ?_ ?_)
    | (with_reducible refine Lim.bind ?_ (fun _ => ?_))
    | apply impl_Val_71_188.l0_lim
    | exact Lim.const _
    | refine Lim.ite ?_ ?_
    | refine Lim.bind ?_ (fun _ => ?_)

/-! ### impl_Val_71_187 -/
def impl_Val_71_187.f (k : Nat) (l0 : List (S26))  : Option (Bool) := (impl_Val_71_188.f k l0).bind fun t195 => (some (decide (t195 ≥ 0)))
theorem impl_Val_71_187.mono : ∀ a0 k, LeO (impl_Val_71_187.f k a0) (impl_Val_71_187.f (k + 1) a0) := by
  intro a0 k
  unfold impl_Val_71_187.f
  repeat' first
      | (with_reducible exact impl_Val_71_188.mono _ _)
      | (with_reducible exact LeO.refl _)
      | (with_reducible exact LeO.none _)
      | (with_reducible refine LeO.ite ?_ ?_)
      | (with_reducible refine LeO.bind ?_ (fun _ => ?_))
      | exact impl_Val_71_188.mono _ _
      | exact LeO.none _
      | refine LeO.ite ?_ ?_
      | refine LeO.bind ?_ (fun _ => ?_)
noncomputable def impl_Val_71_187.fv (l0 : List (S26)) : Option (Bool) := limOf (fun k => impl_Val_71_187.f k l0)
theorem impl_Val_71_187.f_lim (l0 : List (S26)) : Lim (fun k => impl_Val_71_187.f k l0) (impl_Val_71_187.fv l0) := Lim.of (fun k => impl_Val_71_187.mono l0 k)
set_option maxHeartbeats 4000000 in
theorem impl_Val_71_187.fv_eq (l0 : List (S26)) : impl_Val_71_187.fv l0 = ((impl_Val_71_188.fv l0).bind fun t195 => (some (decide (t195 ≥ 0)))) := by
  refine Lim.eq (impl_Val_71_187.f_lim l0) ?_
  simp only [impl_Val_71_187.f]
  repeat' first
    | (with_reducible apply impl_Val_71_188.f_lim)
    | (with_reducible exact Lim.const _)
    | (with_reducible refine Lim.ite ?_ ?_)
    | (with_reducible refine Lim.bind ?_ (fun _ => ?_))
    | apply impl_Val_71_188.f_lim
    | exact Lim.const _
    | refine Lim.ite ?_ ?_
    | refine Lim.bind ?_ (fun _ => ?_)

end Go.Proofs.YtejndaljfbclnaaDoor.QFnExactStateOk
