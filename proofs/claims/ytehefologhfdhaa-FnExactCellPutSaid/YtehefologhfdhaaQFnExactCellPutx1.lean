/- Written by wip/pr2, a program of this session. -/
import Derived.Test.YtehefologhfdhaaQFnExactCellPutx0
import Derived.Test.YtehefologhfdhaaWFnExactCellPut
namespace Go.Proofs.Ytehefologhfdhaa.QFnExactCellPut
open Go.RowKit Go.Proofs.YtehefologhfdhaaW.PrintWords Go.Proofs.YtehefologhfdhaaW.PrintLast Go.Proofs.YtehefologhfdhaaW.PrintMore
attribute [local go_sem] max2_int min2_int max_two min_two max_three min_three max_four min_four   -- for this text's walks alone
set_option linter.unusedVariables false
set_option linter.unusedSimpArgs false
set_option maxHeartbeats 8000000

open Go.Proofs.YtehefologhfdhaaW.Lims
/-! ### laws_szVal -/
def laws_szVal.f (a0_0 : Int) (a0_1 : Int) (a0_2 : ByteArray) (a1 : Int) : Option (Int) := if (wrap64 (a1 - (a0_2.size : Int))) < 0 then (some (-1)) else (some (wrap64 (a1 - (a0_2.size : Int))))

/-! ### laws_szValS -/
def laws_szValS.l0 : Nat → List (S42) → Int → Int → Option (Int)
  | 0, _, _, _ => none
  | k + 1, x0, x1, x5 => if x5 < (x0.length : Int) then (if 0 ≤ x5 then ((laws_szVal.f ((rd_T42 x0 x5).f0) ((rd_T42 x0 x5).f1) ((rd_T42 x0 x5).f2) x1).bind fun t103 => (if t103 < 0 then (some (-1)) else (laws_szValS.l0 k x0 t103 (wrap64 (x5 + 1))))) else (none)) else (some x1)
def laws_szValS.f (k : Nat) (l0 : List (S42)) (a1 : Int) : Option (Int) := if (wrap64 (a1 - (l0.length : Int))) < 0 then (some (-1)) else (laws_szValS.l0 k l0 (wrap64 (a1 - (l0.length : Int))) 0)
theorem laws_szValS.mono_l : ∀ k, (∀ y0 y1 y2, LeO (laws_szValS.l0 k y0 y1 y2) (laws_szValS.l0 (k + 1) y0 y1 y2))
  | 0 => fun _ _ _ r h => by simp [laws_szValS.l0] at h
  | k + 1 => by
    have ih0 := laws_szValS.mono_l k
    · intro y0 y1 y2
      unfold laws_szValS.l0
      repeat' first
      | (with_reducible exact ih0 _ _ _)
      | (with_reducible exact LeO.refl _)
      | (with_reducible exact LeO.none _)
      | (with_reducible refine LeO.ite ?_ ?_)
      | (with_reducible refine LeO.bind ?_ (fun _ => ?_))
      | exact ih0 _ _ _
      | exact LeO.none _
      | refine LeO.ite ?_ ?_
      | refine LeO.bind ?_ (fun _ => ?_)
theorem laws_szValS.mono : ∀ a0 a1 k, LeO (laws_szValS.f k a0 a1) (laws_szValS.f (k + 1) a0 a1) := by
  intro a0 a1 k
  have ih0 := laws_szValS.mono_l k
  unfold laws_szValS.f
  repeat' first
      | (with_reducible exact ih0 _ _ _)
      | (with_reducible exact LeO.refl _)
      | (with_reducible exact LeO.none _)
      | (with_reducible refine LeO.ite ?_ ?_)
      | (with_reducible refine LeO.bind ?_ (fun _ => ?_))
      | exact ih0 _ _ _
      | exact LeO.none _
      | refine LeO.ite ?_ ?_
      | refine LeO.bind ?_ (fun _ => ?_)
noncomputable def laws_szValS.l0v (x0 : List (S42)) (x1 : Int) (x5 : Int) : Option (Int) := limOf (fun k => laws_szValS.l0 k x0 x1 x5)
theorem laws_szValS.l0_lim (x0 : List (S42)) (x1 : Int) (x5 : Int) : Lim (fun k => laws_szValS.l0 k x0 x1 x5) (laws_szValS.l0v x0 x1 x5) := Lim.of (fun k => laws_szValS.mono_l k x0 x1 x5)
noncomputable def laws_szValS.fv (l0 : List (S42)) (a1 : Int) : Option (Int) := limOf (fun k => laws_szValS.f k l0 a1)
theorem laws_szValS.f_lim (l0 : List (S42)) (a1 : Int) : Lim (fun k => laws_szValS.f k l0 a1) (laws_szValS.fv l0 a1) := Lim.of (fun k => laws_szValS.mono l0 a1 k)
set_option maxHeartbeats 4000000 in
theorem laws_szValS.l0v_eq (x0 : List (S42)) (x1 : Int) (x5 : Int) : laws_szValS.l0v x0 x1 x5 = (if x5 < (x0.length : Int) then (if 0 ≤ x5 then ((laws_szVal.f ((rd_T42 x0 x5).f0) ((rd_T42 x0 x5).f1) ((rd_T42 x0 x5).f2) x1).bind fun t103 => (if t103 < 0 then (some (-1)) else (laws_szValS.l0v x0 t103 (wrap64 (x5 + 1))))) else (none)) else (some x1)) := by
  refine Lim.succ (laws_szValS.l0_lim x0 x1 x5) ?_
  simp only [laws_szValS.l0]
  repeat' first
    | (with_reducible apply laws_szValS.l0_lim)
    | (with_reducible exact Lim.const _)
    | (with_reducible refine Lim.ite ?_ ?_)
    | (with_reducible refine Lim.bind ?_ (fun _ => ?_))
    | apply laws_szValS.l0_lim
    | exact Lim.const _
    | refine Lim.ite ?_ ?_
    | refine Lim.bind ?_ (fun _ => ?_)
set_option maxHeartbeats 4000000 in
theorem laws_szValS.fv_eq (l0 : List (S42)) (a1 : Int) : laws_szValS.fv l0 a1 = (if (wrap64 (a1 - (l0.length : Int))) < 0 then (some (-1)) else (laws_szValS.l0v l0 (wrap64 (a1 - (l0.length : Int))) 0)) := by
  refine Lim.eq (laws_szValS.f_lim l0 a1) ?_
  simp only [laws_szValS.f]
  repeat' first
    | (with_reducible apply laws_szValS.l0_lim)
    | (with_reducible exact Lim.const _)
    | (with_reducible refine Lim.ite ?_ ?_)
    | (with_reducible refine Lim.bind ?_ (fun _ => ?_))
    | apply laws_szValS.l0_lim
    | exact Lim.const _
    | refine Lim.ite ?_ ?_
    | refine Lim.bind ?_ (fun _ => ?_)

/-! ### laws_szCell -/
def laws_szCell.f (a0_0 : Int) (a0_1 : ByteArray) (a0_2 : Int) (a0_3 : Int) (a0_4 : ByteArray) (a1 : Int) : Option (Int) := if (wrap64 (a1 - (a0_1.size : Int))) < 0 then (some (-1)) else ((laws_szVal.f a0_2 a0_3 a0_4 (wrap64 (a1 - (a0_1.size : Int)))).bind fun t105 => (if t105 < 0 then (some (-1)) else (some t105)))

/-! ### laws_szCellS -/
def laws_szCellS.l0 : Nat → List (S72) → Int → Int → Option (Int)
  | 0, _, _, _ => none
  | k + 1, x0, x1, x5 => if x5 < (x0.length : Int) then (if 0 ≤ x5 then ((laws_szCell.f ((rd_T72 x0 x5).f0) ((rd_T72 x0 x5).f1) ((rd_T72 x0 x5).f2.f0) ((rd_T72 x0 x5).f2.f1) ((rd_T72 x0 x5).f2.f2) x1).bind fun t107 => (if t107 < 0 then (some (-1)) else (laws_szCellS.l0 k x0 t107 (wrap64 (x5 + 1))))) else (none)) else (some x1)
def laws_szCellS.f (k : Nat) (l0 : List (S72)) (a1 : Int) : Option (Int) := if (wrap64 (a1 - (l0.length : Int))) < 0 then (some (-1)) else (laws_szCellS.l0 k l0 (wrap64 (a1 - (l0.length : Int))) 0)
theorem laws_szCellS.mono_l : ∀ k, (∀ y0 y1 y2, LeO (laws_szCellS.l0 k y0 y1 y2) (laws_szCellS.l0 (k + 1) y0 y1 y2))
  | 0 => fun _ _ _ r h => by simp [laws_szCellS.l0] at h
  | k + 1 => by
    have ih0 := laws_szCellS.mono_l k
    · intro y0 y1 y2
      unfold laws_szCellS.l0
      repeat' first
      | (with_reducible exact ih0 _ _ _)
      | (with_reducible exact LeO.refl _)
      | (with_reducible exact LeO.none _)
      | (with_reducible refine LeO.ite ?_ ?_)
      | (with_reducible refine LeO.bind ?_ (fun _ => ?_))
      | exact ih0 _ _ _
      | exact LeO.none _
      | refine LeO.ite ?_ ?_
      | refine LeO.bind ?_ (fun _ => ?_)
theorem laws_szCellS.mono : ∀ a0 a1 k, LeO (laws_szCellS.f k a0 a1) (laws_szCellS.f (k + 1) a0 a1) := by
  intro a0 a1 k
  have ih0 := laws_szCellS.mono_l k
  unfold laws_szCellS.f
  repeat' first
      | (with_reducible exact ih0 _ _ _)
      | (with_reducible exact LeO.refl _)
      | (with_reducible exact LeO.none _)
      | (with_reducible refine LeO.ite ?_ ?_)
      | (with_reducible refine LeO.bind ?_ (fun _ => ?_))
      | exact ih0 _ _ _
      | exact LeO.none _
      | refine LeO.ite ?_ ?_
      | refine LeO.bind ?_ (fun _ => ?_)
noncomputable def laws_szCellS.l0v (x0 : List (S72)) (x1 : Int) (x5 : Int) : Option (Int) := limOf (fun k => laws_szCellS.l0 k x0 x1 x5)
theorem laws_szCellS.l0_lim (x0 : List (S72)) (x1 : Int) (x5 : Int) : Lim (fun k => laws_szCellS.l0 k x0 x1 x5) (laws_szCellS.l0v x0 x1 x5) := Lim.of (fun k => laws_szCellS.mono_l k x0 x1 x5)
noncomputable def laws_szCellS.fv (l0 : List (S72)) (a1 : Int) : Option (Int) := limOf (fun k => laws_szCellS.f k l0 a1)
theorem laws_szCellS.f_lim (l0 : List (S72)) (a1 : Int) : Lim (fun k => laws_szCellS.f k l0 a1) (laws_szCellS.fv l0 a1) := Lim.of (fun k => laws_szCellS.mono l0 a1 k)
set_option maxHeartbeats 4000000 in
theorem laws_szCellS.l0v_eq (x0 : List (S72)) (x1 : Int) (x5 : Int) : laws_szCellS.l0v x0 x1 x5 = (if x5 < (x0.length : Int) then (if 0 ≤ x5 then ((laws_szCell.f ((rd_T72 x0 x5).f0) ((rd_T72 x0 x5).f1) ((rd_T72 x0 x5).f2.f0) ((rd_T72 x0 x5).f2.f1) ((rd_T72 x0 x5).f2.f2) x1).bind fun t107 => (if t107 < 0 then (some (-1)) else (laws_szCellS.l0v x0 t107 (wrap64 (x5 + 1))))) else (none)) else (some x1)) := by
  refine Lim.succ (laws_szCellS.l0_lim x0 x1 x5) ?_
  simp only [laws_szCellS.l0]
  repeat' first
    | (with_reducible apply laws_szCellS.l0_lim)
    | (with_reducible exact Lim.const _)
    | (with_reducible refine Lim.ite ?_ ?_)
    | (with_reducible refine Lim.bind ?_ (fun _ => ?_))
    | apply laws_szCellS.l0_lim
    | exact Lim.const _
    | refine Lim.ite ?_ ?_
    | refine Lim.bind ?_ (fun _ => ?_)
set_option maxHeartbeats 4000000 in
theorem laws_szCellS.fv_eq (l0 : List (S72)) (a1 : Int) : laws_szCellS.fv l0 a1 = (if (wrap64 (a1 - (l0.length : Int))) < 0 then (some (-1)) else (laws_szCellS.l0v l0 (wrap64 (a1 - (l0.length : Int))) 0)) := by
  refine Lim.eq (laws_szCellS.f_lim l0 a1) ?_
  simp only [laws_szCellS.f]
  repeat' first
    | (with_reducible apply laws_szCellS.l0_lim)
    | (with_reducible exact Lim.const _)
    | (with_reducible refine Lim.ite ?_ ?_)
    | (with_reducible refine Lim.bind ?_ (fun _ => ?_))
    | apply laws_szCellS.l0_lim
    | exact Lim.const _
    | refine Lim.ite ?_ ?_
    | refine Lim.bind ?_ (fun _ => ?_)

/-! ### laws_szState -/
def laws_szState.f (k : Nat) (l0_0 : List (S42)) (l0_1 : List (S72)) (a0_2 : Int) (a0_3 : Int) (a1 : Int) : Option (Int) := (laws_szValS.f k l0_0 a1).bind fun t109 => (if t109 < 0 then (some (-1)) else ((laws_szCellS.f k l0_1 t109).bind fun t110 => (if t110 < 0 then (some (-1)) else (some t110))))
theorem laws_szState.mono : ∀ a0 a1 a2 a3 a4 k, LeO (laws_szState.f k a0 a1 a2 a3 a4) (laws_szState.f (k + 1) a0 a1 a2 a3 a4) := by
  intro a0 a1 a2 a3 a4 k
  unfold laws_szState.f
  repeat' first
      | (with_reducible exact laws_szCellS.mono _ _ _)
      | (with_reducible exact laws_szValS.mono _ _ _)
      | (with_reducible exact LeO.refl _)
      | (with_reducible exact LeO.none _)
      | (with_reducible refine LeO.ite ?_ ?_)
      | (with_reducible refine LeO.bind ?_ (fun _ => ?_))
      | exact laws_szCellS.mono _ _ _
      | exact laws_szValS.mono _ _ _
      | exact LeO.none _
      | refine LeO.ite ?_ ?_
      | refine LeO.bind ?_ (fun _ => ?_)
noncomputable def laws_szState.fv (l0_0 : List (S42)) (l0_1 : List (S72)) (a0_2 : Int) (a0_3 : Int) (a1 : Int) : Option (Int) := limOf (fun k => laws_szState.f k l0_0 l0_1 a0_2 a0_3 a1)
theorem laws_szState.f_lim (l0_0 : List (S42)) (l0_1 : List (S72)) (a0_2 : Int) (a0_3 : Int) (a1 : Int) : Lim (fun k => laws_szState.f k l0_0 l0_1 a0_2 a0_3 a1) (laws_szState.fv l0_0 l0_1 a0_2 a0_3 a1) := Lim.of (fun k => laws_szState.mono l0_0 l0_1 a0_2 a0_3 a1 k)
set_option maxHeartbeats 4000000 in
theorem laws_szState.fv_eq (l0_0 : List (S42)) (l0_1 : List (S72)) (a0_2 : Int) (a0_3 : Int) (a1 : Int) : laws_szState.fv l0_0 l0_1 a0_2 a0_3 a1 = ((laws_szValS.fv l0_0 a1).bind fun t109 => (if t109 < 0 then (some (-1)) else ((laws_szCellS.fv l0_1 t109).bind fun t110 => (if t110 < 0 then (some (-1)) else (some t110))))) := by
  refine Lim.eq (laws_szState.f_lim l0_0 l0_1 a0_2 a0_3 a1) ?_
  simp only [laws_szState.f]
  repeat' first
    | (with_reducible apply laws_szCellS.f_lim)
    | (with_reducible apply laws_szValS.f_lim)
    | (with_reducible exact Lim.const _)
    | (with_reducible refine Lim.ite ?_ ?_)
    | (with_reducible refine Lim.bind ?_ (fun _ => ?_))
    | apply laws_szCellS.f_lim
    | apply laws_szValS.f_lim
    | exact Lim.const _
    | refine Lim.ite ?_ ?_
    | refine Lim.bind ?_ (fun _ => ?_)

/-! ### laws_toVal -/
def laws_toVal.f (a0_0 : Int) (a0_1 : Int) (a0_2 : ByteArray) : Option (Int × Int × ByteArray) := some (a0_0, a0_1, a0_2)

/-! ### laws_toValS -/
def laws_toValS.l0 : Nat → List (S42) → List (S46) → Int → Option ((List (S46)))
  | 0, _, _, _ => none
  | k + 1, x0, x3, x4 => if x4 < (x0.length : Int) then (if 0 ≤ x4 then ((laws_toVal.f ((rd_T42 x0 x4).f0) ((rd_T42 x0 x4).f1) ((rd_T42 x0 x4).f2)).bind fun bt118 => (if x4 < (x3.length : Int) then (laws_toValS.l0 k x0 (x3.set (x4 : Int).toNat (⟨bt118.1, bt118.2.1, bt118.2.2⟩ : S46)) (wrap64 (x4 + 1))) else (none))) else (none)) else (some x3)
def laws_toValS.f (k : Nat) (l0 : List (S42)) : Option ((List (S46))) := if 0 ≤ (l0.length : Int) then (if ((l0.length : Int) : Int).toNat ≤ 8796093022208 then (laws_toValS.l0 k l0 (List.replicate ((l0.length : Int) : Int).toNat z46) 0) else (none)) else (none)
theorem laws_toValS.mono_l : ∀ k, (∀ y0 y1 y2, LeO (laws_toValS.l0 k y0 y1 y2) (laws_toValS.l0 (k + 1) y0 y1 y2))
  | 0 => fun _ _ _ r h => by simp [laws_toValS.l0] at h
  | k + 1 => by
    have ih0 := laws_toValS.mono_l k
    · intro y0 y1 y2
      unfold laws_toValS.l0
      repeat' first
      | (with_reducible exact ih0 _ _ _)
      | (with_reducible exact LeO.refl _)
      | (with_reducible exact LeO.none _)
      | (with_reducible refine LeO.ite ?_ ?_)
      | (with_reducible refine LeO.bind ?_ (fun _ => ?_))
      | exact ih0 _ _ _
      | exact LeO.none _
      | refine LeO.ite ?_ ?_
      | refine LeO.bind ?_ (fun _ => ?_)
theorem laws_toValS.mono : ∀ a0 k, LeO (laws_toValS.f k a0) (laws_toValS.f (k + 1) a0) := by
  intro a0 k
  have ih0 := laws_toValS.mono_l k
  unfold laws_toValS.f
  repeat' first
      | (with_reducible exact ih0 _ _ _)
      | (with_reducible exact LeO.refl _)
      | (with_reducible exact LeO.none _)
      | (with_reducible refine LeO.ite ?_ ?_)
      | (with_reducible refine LeO.bind ?_ (fun _ => ?_))
      | exact ih0 _ _ _
      | exact LeO.none _
      | refine LeO.ite ?_ ?_
      | refine LeO.bind ?_ (fun _ => ?_)
noncomputable def laws_toValS.l0v (x0 : List (S42)) (x3 : List (S46)) (x4 : Int) : Option ((List (S46))) := limOf (fun k => laws_toValS.l0 k x0 x3 x4)
theorem laws_toValS.l0_lim (x0 : List (S42)) (x3 : List (S46)) (x4 : Int) : Lim (fun k => laws_toValS.l0 k x0 x3 x4) (laws_toValS.l0v x0 x3 x4) := Lim.of (fun k => laws_toValS.mono_l k x0 x3 x4)
noncomputable def laws_toValS.fv (l0 : List (S42)) : Option ((List (S46))) := limOf (fun k => laws_toValS.f k l0)
theorem laws_toValS.f_lim (l0 : List (S42)) : Lim (fun k => laws_toValS.f k l0) (laws_toValS.fv l0) := Lim.of (fun k => laws_toValS.mono l0 k)
set_option maxHeartbeats 4000000 in
theorem laws_toValS.l0v_eq (x0 : List (S42)) (x3 : List (S46)) (x4 : Int) : laws_toValS.l0v x0 x3 x4 = (if x4 < (x0.length : Int) then (if 0 ≤ x4 then ((laws_toVal.f ((rd_T42 x0 x4).f0) ((rd_T42 x0 x4).f1) ((rd_T42 x0 x4).f2)).bind fun bt118 => (if x4 < (x3.length : Int) then (laws_toValS.l0v x0 (x3.set (x4 : Int).toNat (⟨bt118.1, bt118.2.1, bt118.2.2⟩ : S46)) (wrap64 (x4 + 1))) else (none))) else (none)) else (some x3)) := by
  refine Lim.succ (laws_toValS.l0_lim x0 x3 x4) ?_
  simp only [laws_toValS.l0]
  repeat' first
    | (with_reducible apply laws_toValS.l0_lim)
    | (with_reducible exact Lim.const _)
    | (with_reducible refine Lim.ite ?_ ?_)
    | (with_reducible refine Lim.bind ?_ (fun _ => ?_))
    | apply laws_toValS.l0_lim
    | exact Lim.const _
    | refine Lim.ite ?_ ?_
    | refine Lim.bind ?_ (fun _ => ?_)
set_option maxHeartbeats 4000000 in
theorem laws_toValS.fv_eq (l0 : List (S42)) : laws_toValS.fv l0 = (if 0 ≤ (l0.length : Int) then (if ((l0.length : Int) : Int).toNat ≤ 8796093022208 then (laws_toValS.l0v l0 (List.replicate ((l0.length : Int) : Int).toNat z46) 0) else (none)) else (none)) := by
  refine Lim.eq (laws_toValS.f_lim l0) ?_
  simp only [laws_toValS.f]
  repeat' first
    | (with_reducible apply laws_toValS.l0_lim)
    | (with_reducible exact Lim.const _)
    | (with_reducible refine Lim.ite ?_ ?_)
    | (with_reducible refine Lim.bind ?_ (fun _ => ?_))
    | apply laws_toValS.l0_lim
    | exact Lim.const _
    | refine Lim.ite ?_ ?_
    | refine Lim.bind ?_ (fun _ => ?_)

/-! ### laws_toCell -/
def laws_toCell.f (a0_0 : Int) (a0_1 : ByteArray) (a0_2 : Int) (a0_3 : Int) (a0_4 : ByteArray) : Option (Int × ByteArray × Int × Int × ByteArray) := (laws_toVal.f a0_2 a0_3 a0_4).bind fun bt125 => (some (a0_0, a0_1, bt125.1, bt125.2.1, bt125.2.2))

/-! ### laws_toCellS -/
def laws_toCellS.l0 : Nat → List (S72) → List (S58) → Int → Option ((List (S58)))
  | 0, _, _, _ => none
  | k + 1, x0, x3, x4 => if x4 < (x0.length : Int) then (if 0 ≤ x4 then ((laws_toCell.f ((rd_T72 x0 x4).f0) ((rd_T72 x0 x4).f1) ((rd_T72 x0 x4).f2.f0) ((rd_T72 x0 x4).f2.f1) ((rd_T72 x0 x4).f2.f2)).bind fun bt132 => (if x4 < (x3.length : Int) then (laws_toCellS.l0 k x0 (x3.set (x4 : Int).toNat (⟨bt132.1, bt132.2.1, (⟨bt132.2.2.1, bt132.2.2.2.1, bt132.2.2.2.2⟩ : S46)⟩ : S58)) (wrap64 (x4 + 1))) else (none))) else (none)) else (some x3)
def laws_toCellS.f (k : Nat) (l0 : List (S72)) : Option ((List (S58))) := if 0 ≤ (l0.length : Int) then (if ((l0.length : Int) : Int).toNat ≤ 5026338869833 then (laws_toCellS.l0 k l0 (List.replicate ((l0.length : Int) : Int).toNat z58) 0) else (none)) else (none)
theorem laws_toCellS.mono_l : ∀ k, (∀ y0 y1 y2, LeO (laws_toCellS.l0 k y0 y1 y2) (laws_toCellS.l0 (k + 1) y0 y1 y2))
  | 0 => fun _ _ _ r h => by simp [laws_toCellS.l0] at h
  | k + 1 => by
    have ih0 := laws_toCellS.mono_l k
    · intro y0 y1 y2
      unfold laws_toCellS.l0
      repeat' first
      | (with_reducible exact ih0 _ _ _)
      | (with_reducible exact LeO.refl _)
      | (with_reducible exact LeO.none _)
      | (with_reducible refine LeO.ite ?_ ?_)
      | (with_reducible refine LeO.bind ?_ (fun _ => ?_))
      | exact ih0 _ _ _
      | exact LeO.none _
      | refine LeO.ite ?_ ?_
      | refine LeO.bind ?_ (fun _ => ?_)
theorem laws_toCellS.mono : ∀ a0 k, LeO (laws_toCellS.f k a0) (laws_toCellS.f (k + 1) a0) := by
  intro a0 k
  have ih0 := laws_toCellS.mono_l k
  unfold laws_toCellS.f
  repeat' first
      | (with_reducible exact ih0 _ _ _)
      | (with_reducible exact LeO.refl _)
      | (with_reducible exact LeO.none _)
      | (with_reducible refine LeO.ite ?_ ?_)
      | (with_reducible refine LeO.bind ?_ (fun _ => ?_))
      | exact ih0 _ _ _
      | exact LeO.none _
      | refine LeO.ite ?_ ?_
      | refine LeO.bind ?_ (fun _ => ?_)
noncomputable def laws_toCellS.l0v (x0 : List (S72)) (x3 : List (S58)) (x4 : Int) : Option ((List (S58))) := limOf (fun k => laws_toCellS.l0 k x0 x3 x4)
theorem laws_toCellS.l0_lim (x0 : List (S72)) (x3 : List (S58)) (x4 : Int) : Lim (fun k => laws_toCellS.l0 k x0 x3 x4) (laws_toCellS.l0v x0 x3 x4) := Lim.of (fun k => laws_toCellS.mono_l k x0 x3 x4)
noncomputable def laws_toCellS.fv (l0 : List (S72)) : Option ((List (S58))) := limOf (fun k => laws_toCellS.f k l0)
theorem laws_toCellS.f_lim (l0 : List (S72)) : Lim (fun k => laws_toCellS.f k l0) (laws_toCellS.fv l0) := Lim.of (fun k => laws_toCellS.mono l0 k)
set_option maxHeartbeats 4000000 in
theorem laws_toCellS.l0v_eq (x0 : List (S72)) (x3 : List (S58)) (x4 : Int) : laws_toCellS.l0v x0 x3 x4 = (if x4 < (x0.length : Int) then (if 0 ≤ x4 then ((laws_toCell.f ((rd_T72 x0 x4).f0) ((rd_T72 x0 x4).f1) ((rd_T72 x0 x4).f2.f0) ((rd_T72 x0 x4).f2.f1) ((rd_T72 x0 x4).f2.f2)).bind fun bt132 => (if x4 < (x3.length : Int) then (laws_toCellS.l0v x0 (x3.set (x4 : Int).toNat (⟨bt132.1, bt132.2.1, (⟨bt132.2.2.1, bt132.2.2.2.1, bt132.2.2.2.2⟩ : S46)⟩ : S58)) (wrap64 (x4 + 1))) else (none))) else (none)) else (some x3)) := by
  refine Lim.succ (laws_toCellS.l0_lim x0 x3 x4) ?_
  simp only [laws_toCellS.l0]
  repeat' first
    | (with_reducible apply laws_toCellS.l0_lim)
    | (with_reducible exact Lim.const _)
    | (with_reducible refine Lim.ite ?_ ?_)
    | (with_reducible refine Lim.bind ?_ (fun _ => ?_))
    | apply laws_toCellS.l0_lim
    | exact Lim.const _
    | refine Lim.ite ?_ ?_
    | refine Lim.bind ?_ (fun _ => ?_)
set_option maxHeartbeats 4000000 in
theorem laws_toCellS.fv_eq (l0 : List (S72)) : laws_toCellS.fv l0 = (if 0 ≤ (l0.length : Int) then (if ((l0.length : Int) : Int).toNat ≤ 5026338869833 then (laws_toCellS.l0v l0 (List.replicate ((l0.length : Int) : Int).toNat z58) 0) else (none)) else (none)) := by
  refine Lim.eq (laws_toCellS.f_lim l0) ?_
  simp only [laws_toCellS.f]
  repeat' first
    | (with_reducible apply laws_toCellS.l0_lim)
    | (with_reducible exact Lim.const _)
    | (with_reducible refine Lim.ite ?_ ?_)
    | (with_reducible refine Lim.bind ?_ (fun _ => ?_))
    | apply laws_toCellS.l0_lim
    | exact Lim.const _
    | refine Lim.ite ?_ ?_
    | refine Lim.bind ?_ (fun _ => ?_)

/-! ### laws_toState -/
def laws_toState.f (k : Nat) (l0_0 : List (S42)) (l0_1 : List (S72)) (a0_2 : Int) (a0_3 : Int) : Option ((List (S46)) × (List (S58)) × Int × Int) := (laws_toValS.f k l0_0).bind fun t141 => ((laws_toCellS.f k l0_1).bind fun t144 => (some (t141, t144, a0_2, a0_3)))
theorem laws_toState.mono : ∀ a0 a1 a2 a3 k, LeO (laws_toState.f k a0 a1 a2 a3) (laws_toState.f (k + 1) a0 a1 a2 a3) := by
  intro a0 a1 a2 a3 k
  unfold laws_toState.f
  repeat' first
      | (with_reducible exact laws_toCellS.mono _ _)
      | (with_reducible exact laws_toValS.mono _ _)
      | (with_reducible exact LeO.refl _)
      | (with_reducible exact LeO.none _)
      | (with_reducible refine LeO.ite ?_ ?_)
      | (with_reducible refine LeO.bind ?_ (fun _ => ?_))
      | exact laws_toCellS.mono _ _
      | exact laws_toValS.mono _ _
      | exact LeO.none _
      | refine LeO.ite ?_ ?_
      | refine LeO.bind ?_ (fun _ => ?_)
noncomputable def laws_toState.fv (l0_0 : List (S42)) (l0_1 : List (S72)) (a0_2 : Int) (a0_3 : Int) : Option ((List (S46)) × (List (S58)) × Int × Int) := limOf (fun k => laws_toState.f k l0_0 l0_1 a0_2 a0_3)
theorem laws_toState.f_lim (l0_0 : List (S42)) (l0_1 : List (S72)) (a0_2 : Int) (a0_3 : Int) : Lim (fun k => laws_toState.f k l0_0 l0_1 a0_2 a0_3) (laws_toState.fv l0_0 l0_1 a0_2 a0_3) := Lim.of (fun k => laws_toState.mono l0_0 l0_1 a0_2 a0_3 k)
set_option maxHeartbeats 4000000 in
theorem laws_toState.fv_eq (l0_0 : List (S42)) (l0_1 : List (S72)) (a0_2 : Int) (a0_3 : Int) : laws_toState.fv l0_0 l0_1 a0_2 a0_3 = ((laws_toValS.fv l0_0).bind fun t141 => ((laws_toCellS.fv l0_1).bind fun t144 => (some (t141, t144, a0_2, a0_3)))) := by
  refine Lim.eq (laws_toState.f_lim l0_0 l0_1 a0_2 a0_3) ?_
  simp only [laws_toState.f]
  repeat' first
    | (with_reducible apply laws_toCellS.f_lim)
    | (with_reducible apply laws_toValS.f_lim)
    | (with_reducible exact Lim.const _)
    | (with_reducible refine Lim.ite ?_ ?_)
    | (with_reducible refine Lim.bind ?_ (fun _ => ?_))
    | apply laws_toCellS.f_lim
    | apply laws_toValS.f_lim
    | exact Lim.const _
    | refine Lim.ite ?_ ?_
    | refine Lim.bind ?_ (fun _ => ?_)

/-! ### laws_eqVal -/
def laws_eqVal.f (a0_0 : Int) (a0_1 : Int) (a0_2 : ByteArray) (a1_0 : Int) (a1_1 : Int) (a1_2 : ByteArray) : Option (Bool) := if a0_0 = a1_0 then (if a0_1 = a1_1 then (if a0_2.toList = a1_2.toList then (some true) else (some false)) else (some false)) else (some false)

/-! ### laws_eqValS -/
def laws_eqValS.l0 : Nat → List (S46) → List (S46) → Int → Option (Bool)
  | 0, _, _, _ => none
  | k + 1, x0, x1, x5 => if x5 < (x0.length : Int) then (if 0 ≤ x5 then (if x5 < (x1.length : Int) then ((laws_eqVal.f ((rd_T46 x0 x5).f0) ((rd_T46 x0 x5).f1) ((rd_T46 x0 x5).f2) ((rd_T46 x1 x5).f0) ((rd_T46 x1 x5).f1) ((rd_T46 x1 x5).f2)).bind fun t151 => (if t151 = true then (laws_eqValS.l0 k x0 x1 (wrap64 (x5 + 1))) else (some false))) else (none)) else (none)) else (some true)
def laws_eqValS.f (k : Nat) (l0 : List (S46)) (l1 : List (S46)) : Option (Bool) := if (l0.length : Int) = (l1.length : Int) then (laws_eqValS.l0 k l0 l1 0) else (some false)
theorem laws_eqValS.mono_l : ∀ k, (∀ y0 y1 y2, LeO (laws_eqValS.l0 k y0 y1 y2) (laws_eqValS.l0 (k + 1) y0 y1 y2))
  | 0 => fun _ _ _ r h => by simp [laws_eqValS.l0] at h
  | k + 1 => by
    have ih0 := laws_eqValS.mono_l k
    · intro y0 y1 y2
      unfold laws_eqValS.l0
      repeat' first
      | (with_reducible exact ih0 _ _ _)
      | (with_reducible exact LeO.refl _)
      | (with_reducible exact LeO.none _)
      | (with_reducible refine LeO.ite ?_ ?_)
      | (with_reducible refine LeO.bind ?_ (fun _ => ?_))
      | exact ih0 _ _ _
      | exact LeO.none _
      | refine LeO.ite ?_ ?_
      | refine LeO.bind ?_ (fun _ => ?_)
theorem laws_eqValS.mono : ∀ a0 a1 k, LeO (laws_eqValS.f k a0 a1) (laws_eqValS.f (k + 1) a0 a1) := by
  intro a0 a1 k
  have ih0 := laws_eqValS.mono_l k
  unfold laws_eqValS.f
  repeat' first
      | (with_reducible exact ih0 _ _ _)
      | (with_reducible exact LeO.refl _)
      | (with_reducible exact LeO.none _)
      | (with_reducible refine LeO.ite ?_ ?_)
      | (with_reducible refine LeO.bind ?_ (fun _ => ?_))
      | exact ih0 _ _ _
      | exact LeO.none _
      | refine LeO.ite ?_ ?_
      | refine LeO.bind ?_ (fun _ => ?_)
noncomputable def laws_eqValS.l0v (x0 : List (S46)) (x1 : List (S46)) (x5 : Int) : Option (Bool) := limOf (fun k => laws_eqValS.l0 k x0 x1 x5)
theorem laws_eqValS.l0_lim (x0 : List (S46)) (x1 : List (S46)) (x5 : Int) : Lim (fun k => laws_eqValS.l0 k x0 x1 x5) (laws_eqValS.l0v x0 x1 x5) := Lim.of (fun k => laws_eqValS.mono_l k x0 x1 x5)
noncomputable def laws_eqValS.fv (l0 : List (S46)) (l1 : List (S46)) : Option (Bool) := limOf (fun k => laws_eqValS.f k l0 l1)
theorem laws_eqValS.f_lim (l0 : List (S46)) (l1 : List (S46)) : Lim (fun k => laws_eqValS.f k l0 l1) (laws_eqValS.fv l0 l1) := Lim.of (fun k => laws_eqValS.mono l0 l1 k)
set_option maxHeartbeats 4000000 in
theorem laws_eqValS.l0v_eq (x0 : List (S46)) (x1 : List (S46)) (x5 : Int) : laws_eqValS.l0v x0 x1 x5 = (if x5 < (x0.length : Int) then (if 0 ≤ x5 then (if x5 < (x1.length : Int) then ((laws_eqVal.f ((rd_T46 x0 x5).f0) ((rd_T46 x0 x5).f1) ((rd_T46 x0 x5).f2) ((rd_T46 x1 x5).f0) ((rd_T46 x1 x5).f1) ((rd_T46 x1 x5).f2)).bind fun t151 => (if t151 = true then (laws_eqValS.l0v x0 x1 (wrap64 (x5 + 1))) else (some false))) else (none)) else (none)) else (some true)) := by
  refine Lim.succ (laws_eqValS.l0_lim x0 x1 x5) ?_
  simp only [laws_eqValS.l0]
  repeat' first
    | (with_reducible apply laws_eqValS.l0_lim)
    | (with_reducible exact Lim.const _)
    | (with_reducible refine Lim.ite ?_ ?_)
    | (with_reducible refine Lim.bind ?_ (fun _ => ?_))
    | apply laws_eqValS.l0_lim
    | exact Lim.const _
    | refine Lim.ite ?_ ?_
    | refine Lim.bind ?_ (fun _ => ?_)
set_option maxHeartbeats 4000000 in
theorem laws_eqValS.fv_eq (l0 : List (S46)) (l1 : List (S46)) : laws_eqValS.fv l0 l1 = (if (l0.length : Int) = (l1.length : Int) then (laws_eqValS.l0v l0 l1 0) else (some false)) := by
  refine Lim.eq (laws_eqValS.f_lim l0 l1) ?_
  simp only [laws_eqValS.f]
  repeat' first
    | (with_reducible apply laws_eqValS.l0_lim)
    | (with_reducible exact Lim.const _)
    | (with_reducible refine Lim.ite ?_ ?_)
    | (with_reducible refine Lim.bind ?_ (fun _ => ?_))
    | apply laws_eqValS.l0_lim
    | exact Lim.const _
    | refine Lim.ite ?_ ?_
    | refine Lim.bind ?_ (fun _ => ?_)

/-! ### laws_eqCell -/
def laws_eqCell.f (a0_0 : Int) (a0_1 : ByteArray) (a0_2 : Int) (a0_3 : Int) (a0_4 : ByteArray) (a1_0 : Int) (a1_1 : ByteArray) (a1_2 : Int) (a1_3 : Int) (a1_4 : ByteArray) : Option (Bool) := if a0_0 = a1_0 then (if a0_1.toList = a1_1.toList then ((laws_eqVal.f a0_2 a0_3 a0_4 a1_2 a1_3 a1_4).bind fun t154 => (if t154 = true then (some true) else (some false))) else (some false)) else (some false)

/-! ### laws_eqCellS -/
def laws_eqCellS.l0 : Nat → List (S58) → List (S58) → Int → Option (Bool)
  | 0, _, _, _ => none
  | k + 1, x0, x1, x5 => if x5 < (x0.length : Int) then (if 0 ≤ x5 then (if x5 < (x1.length : Int) then ((laws_eqCell.f ((rd_T58 x0 x5).f0) ((rd_T58 x0 x5).f1) ((rd_T58 x0 x5).f2.f0) ((rd_T58 x0 x5).f2.f1) ((rd_T58 x0 x5).f2.f2) ((rd_T58 x1 x5).f0) ((rd_T58 x1 x5).f1) ((rd_T58 x1 x5).f2.f0) ((rd_T58 x1 x5).f2.f1) ((rd_T58 x1 x5).f2.f2)).bind fun t157 => (if t157 = true then (laws_eqCellS.l0 k x0 x1 (wrap64 (x5 + 1))) else (some false))) else (none)) else (none)) else (some true)
def laws_eqCellS.f (k : Nat) (l0 : List (S58)) (l1 : List (S58)) : Option (Bool) := if (l0.length : Int) = (l1.length : Int) then (laws_eqCellS.l0 k l0 l1 0) else (some false)
theorem laws_eqCellS.mono_l : ∀ k, (∀ y0 y1 y2, LeO (laws_eqCellS.l0 k y0 y1 y2) (laws_eqCellS.l0 (k + 1) y0 y1 y2))
  | 0 => fun _ _ _ r h => by simp [laws_eqCellS.l0] at h
  | k + 1 => by
    have ih0 := laws_eqCellS.mono_l k
    · intro y0 y1 y2
      unfold laws_eqCellS.l0
      repeat' first
      | (with_reducible exact ih0 _ _ _)
      | (with_reducible exact LeO.refl _)
      | (with_reducible exact LeO.none _)
      | (with_reducible refine LeO.ite ?_ ?_)
      | (with_reducible refine LeO.bind ?_ (fun _ => ?_))
      | exact ih0 _ _ _
      | exact LeO.none _
      | refine LeO.ite ?_ ?_
      | refine LeO.bind ?_ (fun _ => ?_)
theorem laws_eqCellS.mono : ∀ a0 a1 k, LeO (laws_eqCellS.f k a0 a1) (laws_eqCellS.f (k + 1) a0 a1) := by
  intro a0 a1 k
  have ih0 := laws_eqCellS.mono_l k
  unfold laws_eqCellS.f
  repeat' first
      | (with_reducible exact ih0 _ _ _)
      | (with_reducible exact LeO.refl _)
      | (with_reducible exact LeO.none _)
      | (with_reducible refine LeO.ite ?_ ?_)
      | (with_reducible refine LeO.bind ?_ (fun _ => ?_))
      | exact ih0 _ _ _
      | exact LeO.none _
      | refine LeO.ite ?_ ?_
      | refine LeO.bind ?_ (fun _ => ?_)
noncomputable def laws_eqCellS.l0v (x0 : List (S58)) (x1 : List (S58)) (x5 : Int) : Option (Bool) := limOf (fun k => laws_eqCellS.l0 k x0 x1 x5)
theorem laws_eqCellS.l0_lim (x0 : List (S58)) (x1 : List (S58)) (x5 : Int) : Lim (fun k => laws_eqCellS.l0 k x0 x1 x5) (laws_eqCellS.l0v x0 x1 x5) := Lim.of (fun k => laws_eqCellS.mono_l k x0 x1 x5)
noncomputable def laws_eqCellS.fv (l0 : List (S58)) (l1 : List (S58)) : Option (Bool) := limOf (fun k => laws_eqCellS.f k l0 l1)
theorem laws_eqCellS.f_lim (l0 : List (S58)) (l1 : List (S58)) : Lim (fun k => laws_eqCellS.f k l0 l1) (laws_eqCellS.fv l0 l1) := Lim.of (fun k => laws_eqCellS.mono l0 l1 k)
set_option maxHeartbeats 4000000 in
theorem laws_eqCellS.l0v_eq (x0 : List (S58)) (x1 : List (S58)) (x5 : Int) : laws_eqCellS.l0v x0 x1 x5 = (if x5 < (x0.length : Int) then (if 0 ≤ x5 then (if x5 < (x1.length : Int) then ((laws_eqCell.f ((rd_T58 x0 x5).f0) ((rd_T58 x0 x5).f1) ((rd_T58 x0 x5).f2.f0) ((rd_T58 x0 x5).f2.f1) ((rd_T58 x0 x5).f2.f2) ((rd_T58 x1 x5).f0) ((rd_T58 x1 x5).f1) ((rd_T58 x1 x5).f2.f0) ((rd_T58 x1 x5).f2.f1) ((rd_T58 x1 x5).f2.f2)).bind fun t157 => (if t157 = true then (laws_eqCellS.l0v x0 x1 (wrap64 (x5 + 1))) else (some false))) else (none)) else (none)) else (some true)) := by
  refine Lim.succ (laws_eqCellS.l0_lim x0 x1 x5) ?_
  simp only [laws_eqCellS.l0]
  repeat' first
    | (with_reducible apply laws_eqCellS.l0_lim)
    | (with_reducible exact Lim.const _)
    | (with_reducible refine Lim.ite ?_ ?_)
    | (with_reducible refine Lim.bind ?_ (fun _ => ?_))
    | apply laws_eqCellS.l0_lim
    | exact Lim.const _
    | refine Lim.ite ?_ ?_
    | refine Lim.bind ?_ (fun _ => ?_)
set_option maxHeartbeats 4000000 in
theorem laws_eqCellS.fv_eq (l0 : List (S58)) (l1 : List (S58)) : laws_eqCellS.fv l0 l1 = (if (l0.length : Int) = (l1.length : Int) then (laws_eqCellS.l0v l0 l1 0) else (some false)) := by
  refine Lim.eq (laws_eqCellS.f_lim l0 l1) ?_
  simp only [laws_eqCellS.f]
  repeat' first
    | (with_reducible apply laws_eqCellS.l0_lim)
    | (with_reducible exact Lim.const _)
    | (with_reducible refine Lim.ite ?_ ?_)
    | (with_reducible refine Lim.bind ?_ (fun _ => ?_))
    | apply laws_eqCellS.l0_lim
    | exact Lim.const _
    | refine Lim.ite ?_ ?_
    | refine Lim.bind ?_ (fun _ => ?_)

/-! ### laws_eqState -/
def laws_eqState.f (k : Nat) (l0_0 : List (S46)) (l0_1 : List (S58)) (a0_2 : Int) (a0_3 : Int) (l1_0 : List (S46)) (l1_1 : List (S58)) (a1_2 : Int) (a1_3 : Int) : Option (Bool) := (laws_eqValS.f k l0_0 l1_0).bind fun t160 => (if t160 = true then ((laws_eqCellS.f k l0_1 l1_1).bind fun t161 => (if t161 = true then (if a0_2 = a1_2 then (if a0_3 = a1_3 then (some true) else (some false)) else (some false)) else (some false))) else (some false))
theorem laws_eqState.mono : ∀ a0 a1 a2 a3 a4 a5 a6 a7 k, LeO (laws_eqState.f k a0 a1 a2 a3 a4 a5 a6 a7) (laws_eqState.f (k + 1) a0 a1 a2 a3 a4 a5 a6 a7) := by
  intro a0 a1 a2 a3 a4 a5 a6 a7 k
  unfold laws_eqState.f
  repeat' first
      | (with_reducible exact laws_eqCellS.mono _ _ _)
      | (with_reducible exact laws_eqValS.mono _ _ _)
      | (with_reducible exact LeO.refl _)
      | (with_reducible exact LeO.none _)
      | (with_reducible refine LeO.ite ?_ ?_)
      | (with_reducible refine LeO.bind ?_ (fun _ => ?_))
      | exact laws_eqCellS.mono _ _ _
      | exact laws_eqValS.mono _ _ _
      | exact LeO.none _
      | refine LeO.ite ?_ ?_
      | refine LeO.bind ?_ (fun _ => ?_)
noncomputable def laws_eqState.fv (l0_0 : List (S46)) (l0_1 : List (S58)) (a0_2 : Int) (a0_3 : Int) (l1_0 : List (S46)) (l1_1 : List (S58)) (a1_2 : Int) (a1_3 : Int) : Option (Bool) := limOf (fun k => laws_eqState.f k l0_0 l0_1 a0_2 a0_3 l1_0 l1_1 a1_2 a1_3)
theorem laws_eqState.f_lim (l0_0 : List (S46)) (l0_1 : List (S58)) (a0_2 : Int) (a0_3 : Int) (l1_0 : List (S46)) (l1_1 : List (S58)) (a1_2 : Int) (a1_3 : Int) : Lim (fun k => laws_eqState.f k l0_0 l0_1 a0_2 a0_3 l1_0 l1_1 a1_2 a1_3) (laws_eqState.fv l0_0 l0_1 a0_2 a0_3 l1_0 l1_1 a1_2 a1_3) := Lim.of (fun k => laws_eqState.mono l0_0 l0_1 a0_2 a0_3 l1_0 l1_1 a1_2 a1_3 k)
set_option maxHeartbeats 4000000 in
theorem laws_eqState.fv_eq (l0_0 : List (S46)) (l0_1 : List (S58)) (a0_2 : Int) (a0_3 : Int) (l1_0 : List (S46)) (l1_1 : List (S58)) (a1_2 : Int) (a1_3 : Int) : laws_eqState.fv l0_0 l0_1 a0_2 a0_3 l1_0 l1_1 a1_2 a1_3 = ((laws_eqValS.fv l0_0 l1_0).bind fun t160 => (if t160 = true then ((laws_eqCellS.fv l0_1 l1_1).bind fun t161 => (if t161 = true then (if a0_2 = a1_2 then (if a0_3 = a1_3 then (some true) else (some false)) else (some false)) else (some false))) else (some false))) := by
  refine Lim.eq (laws_eqState.f_lim l0_0 l0_1 a0_2 a0_3 l1_0 l1_1 a1_2 a1_3) ?_
  simp only [laws_eqState.f]
  repeat' first
    | (with_reducible apply laws_eqCellS.f_lim)
    | (with_reducible apply laws_eqValS.f_lim)
    | (with_reducible exact Lim.const _)
    | (with_reducible refine Lim.ite ?_ ?_)
    | (with_reducible refine Lim.bind ?_ (fun _ => ?_))
    | apply laws_eqCellS.f_lim
    | apply laws_eqValS.f_lim
    | exact Lim.const _
    | refine Lim.ite ?_ ?_
    | refine Lim.bind ?_ (fun _ => ?_)

/-! ### laws_markText -/
def laws_markText.l0 : Nat → Int → ByteArray → Option (ByteArray)
  | 0, _, _ => none
  | k + 1, x0, x3 => if x0 > 0 then ((some (([(wrap64 (48 + (Int.tmod x0 10))) % 256] : List Int) : List Int)).bind fun y162 => (if (strOfNums y162).size + x3.size ≤ 9223372036854775807 then (laws_markText.l0 k (wrap64 (Int.tdiv x0 10)) ((strOfNums y162) ++ x3)) else (none))) else (if 1 + x3.size ≤ 9223372036854775807 then (some ((⟨#[109]⟩ : ByteArray) ++ x3)) else (none))
def laws_markText.f (k : Nat) (a0 : Int) : Option (ByteArray) := if a0 ≤ 0 then (some (⟨#[109, 48]⟩ : ByteArray)) else (laws_markText.l0 k a0 (⟨#[]⟩ : ByteArray))
theorem laws_markText.mono_l : ∀ k, (∀ y0 y1, LeO (laws_markText.l0 k y0 y1) (laws_markText.l0 (k + 1) y0 y1))
  | 0 => fun _ _ r h => by simp [laws_markText.l0] at h
  | k + 1 => by
    have ih0 := laws_markText.mono_l k
    · intro y0 y1
      unfold laws_markText.l0
      repeat' first
      | (with_reducible exact ih0 _ _)
      | (with_reducible exact LeO.refl _)
      | (with_reducible exact LeO.none _)
      | (with_reducible refine LeO.ite ?_ ?_)
      | (with_reducible refine LeO.bind ?_ (fun _ => ?_))
      | exact ih0 _ _
      | exact LeO.none _
      | refine LeO.ite ?_ ?_
      | refine LeO.bind ?_ (fun _ => ?_)
theorem laws_markText.mono : ∀ a0 k, LeO (laws_markText.f k a0) (laws_markText.f (k + 1) a0) := by
  intro a0 k
  have ih0 := laws_markText.mono_l k
  unfold laws_markText.f
  repeat' first
      | (with_reducible exact ih0 _ _)
      | (with_reducible exact LeO.refl _)
      | (with_reducible exact LeO.none _)
      | (with_reducible refine LeO.ite ?_ ?_)
      | (with_reducible refine LeO.bind ?_ (fun _ => ?_))
      | exact ih0 _ _
      | exact LeO.none _
      | refine LeO.ite ?_ ?_
      | refine LeO.bind ?_ (fun _ => ?_)
noncomputable def laws_markText.l0v (x0 : Int) (x3 : ByteArray) : Option (ByteArray) := limOf (fun k => laws_markText.l0 k x0 x3)
theorem laws_markText.l0_lim (x0 : Int) (x3 : ByteArray) : Lim (fun k => laws_markText.l0 k x0 x3) (laws_markText.l0v x0 x3) := Lim.of (fun k => laws_markText.mono_l k x0 x3)
noncomputable def laws_markText.fv (a0 : Int) : Option (ByteArray) := limOf (fun k => laws_markText.f k a0)
theorem laws_markText.f_lim (a0 : Int) : Lim (fun k => laws_markText.f k a0) (laws_markText.fv a0) := Lim.of (fun k => laws_markText.mono a0 k)
set_option maxHeartbeats 4000000 in
theorem laws_markText.l0v_eq (x0 : Int) (x3 : ByteArray) : laws_markText.l0v x0 x3 = (if x0 > 0 then ((some (([(wrap64 (48 + (Int.tmod x0 10))) % 256] : List Int) : List Int)).bind fun y162 => (if (strOfNums y162).size + x3.size ≤ 9223372036854775807 then (laws_markText.l0v (wrap64 (Int.tdiv x0 10)) ((strOfNums y162) ++ x3)) else (none))) else (if 1 + x3.size ≤ 9223372036854775807 then (some ((⟨#[109]⟩ : ByteArray) ++ x3)) else (none))) := by
  refine Lim.succ (laws_markText.l0_lim x0 x3) ?_
  simp only [laws_markText.l0]
  repeat' first
    | (with_reducible apply laws_markText.l0_lim)
    | (with_reducible exact Lim.const _)
    | (with_reducible refine Lim.ite ?_ ?_)
    | (with_reducible refine Lim.bind ?_ (fun _ => ?_))
    | apply laws_markText.l0_lim
    | exact Lim.const _
    | refine Lim.ite ?_ ?_
    | refine Lim.bind ?_ (fun _ => ?_)
set_option maxHeartbeats 4000000 in
theorem laws_markText.fv_eq (a0 : Int) : laws_markText.fv a0 = (if a0 ≤ 0 then (some (⟨#[109, 48]⟩ : ByteArray)) else (laws_markText.l0v a0 (⟨#[]⟩ : ByteArray))) := by
  refine Lim.eq (laws_markText.f_lim a0) ?_
  simp only [laws_markText.f]
  repeat' first
    | (with_reducible apply laws_markText.l0_lim)
    | (with_reducible exact Lim.const _)
    | (with_reducible refine Lim.ite ?_ ?_)
    | (with_reducible refine Lim.bind ?_ (fun _ => ?_))
    | apply laws_markText.l0_lim
    | exact Lim.const _
    | refine Lim.ite ?_ ?_
    | refine Lim.bind ?_ (fun _ => ?_)

/-! ### laws_markValS -/
def laws_markValS.l0 : Nat → List (S46) → Int → Int → Option (Int × (List (S46)))
  | 0, _, _, _ => none
  | k + 1, x0, x1, x5 => if x5 < (x0.length : Int) then (if 0 ≤ x5 then ((some (x0.set (x5 : Int).toNat (⟨x1, (rd_T46 x0 x5).f1, (rd_T46 x0 x5).f2⟩ : S46) : List (S46))).bind fun y165 => ((some (y165.set (x5 : Int).toNat (⟨(rd_T46 y165 x5).f0, wrap64 (x1 + 1), (rd_T46 y165 x5).f2⟩ : S46) : List (S46))).bind fun y166 => ((laws_markText.f k (wrap64 ((wrap64 (x1 + 1)) + 1))).bind fun t167 => (laws_markValS.l0 k (y166.set (x5 : Int).toNat (⟨(rd_T46 y166 x5).f0, (rd_T46 y166 x5).f1, t167⟩ : S46)) (wrap64 ((wrap64 ((wrap64 (x1 + 1)) + 1)) + 1)) (wrap64 (x5 + 1)))))) else (none)) else (some (x1, x0))
def laws_markValS.f (k : Nat) (l0 : List (S46)) (a1 : Int) : Option (Int × (List (S46))) := laws_markValS.l0 k l0 a1 0
theorem laws_markValS.mono_l : ∀ k, (∀ y0 y1 y2, LeO (laws_markValS.l0 k y0 y1 y2) (laws_markValS.l0 (k + 1) y0 y1 y2))
  | 0 => fun _ _ _ r h => by simp [laws_markValS.l0] at h
  | k + 1 => by
    have ih0 := laws_markValS.mono_l k
    · intro y0 y1 y2
      unfold laws_markValS.l0
      repeat' first
      | (with_reducible exact ih0 _ _ _)
      | (with_reducible exact laws_markText.mono _ _)
      | (with_reducible exact LeO.refl _)
      | (with_reducible exact LeO.none _)
      | (with_reducible refine LeO.ite ?_ ?_)
      | (with_reducible refine LeO.bind ?_ (fun _ => ?_))
      | exact ih0 _ _ _
      | exact laws_markText.mono _ _
      | exact LeO.none _
      | refine LeO.ite ?_ ?_
      | refine LeO.bind ?_ (fun _ => ?_)
theorem laws_markValS.mono : ∀ a0 a1 k, LeO (laws_markValS.f k a0 a1) (laws_markValS.f (k + 1) a0 a1) := by
  intro a0 a1 k
  have ih0 := laws_markValS.mono_l k
  unfold laws_markValS.f
  repeat' first
      | (with_reducible exact ih0 _ _ _)
      | (with_reducible exact laws_markText.mono _ _)
      | (with_reducible exact LeO.refl _)
      | (with_reducible exact LeO.none _)
      | (with_reducible refine LeO.ite ?_ ?_)
      | (with_reducible refine LeO.bind ?_ (fun _ => ?_))
      | exact ih0 _ _ _
      | exact laws_markText.mono _ _
      | exact LeO.none _
      | refine LeO.ite ?_ ?_
      | refine LeO.bind ?_ (fun _ => ?_)
noncomputable def laws_markValS.l0v (x0 : List (S46)) (x1 : Int) (x5 : Int) : Option (Int × (List (S46))) := limOf (fun k => laws_markValS.l0 k x0 x1 x5)
theorem laws_markValS.l0_lim (x0 : List (S46)) (x1 : Int) (x5 : Int) : Lim (fun k => laws_markValS.l0 k x0 x1 x5) (laws_markValS.l0v x0 x1 x5) := Lim.of (fun k => laws_markValS.mono_l k x0 x1 x5)
noncomputable def laws_markValS.fv (l0 : List (S46)) (a1 : Int) : Option (Int × (List (S46))) := limOf (fun k => laws_markValS.f k l0 a1)
theorem laws_markValS.f_lim (l0 : List (S46)) (a1 : Int) : Lim (fun k => laws_markValS.f k l0 a1) (laws_markValS.fv l0 a1) := Lim.of (fun k => laws_markValS.mono l0 a1 k)
set_option maxHeartbeats 4000000 in
theorem laws_markValS.l0v_eq (x0 : List (S46)) (x1 : Int) (x5 : Int) : laws_markValS.l0v x0 x1 x5 = (if x5 < (x0.length : Int) then (if 0 ≤ x5 then ((some (x0.set (x5 : Int).toNat (⟨x1, (rd_T46 x0 x5).f1, (rd_T46 x0 x5).f2⟩ : S46) : List (S46))).bind fun y165 => ((some (y165.set (x5 : Int).toNat (⟨(rd_T46 y165 x5).f0, wrap64 (x1 + 1), (rd_T46 y165 x5).f2⟩ : S46) : List (S46))).bind fun y166 => ((laws_markText.fv (wrap64 ((wrap64 (x1 + 1)) + 1))).bind fun t167 => (laws_markValS.l0v (y166.set (x5 : Int).toNat (⟨(rd_T46 y166 x5).f0, (rd_T46 y166 x5).f1, t167⟩ : S46)) (wrap64 ((wrap64 ((wrap64 (x1 + 1)) + 1)) + 1)) (wrap64 (x5 + 1)))))) else (none)) else (some (x1, x0))) := by
  refine Lim.succ (laws_markValS.l0_lim x0 x1 x5) ?_
  simp only [laws_markValS.l0]
  repeat' first
    | (with_reducible apply laws_markText.f_lim)
    | (with_reducible apply laws_markValS.l0_lim)
    | (with_reducible exact Lim.const _)
    | (with_reducible refine Lim.ite ?_ ?_)
    | (with_reducible refine Lim.bind ?_ (fun _ => ?_))
    | apply laws_markText.f_lim
    | apply laws_markValS.l0_lim
    | exact Lim.const _
    | refine Lim.ite ?_ ?_
    | refine Lim.bind ?_ (fun _ => ?_)
set_option maxHeartbeats 4000000 in
theorem laws_markValS.fv_eq (l0 : List (S46)) (a1 : Int) : laws_markValS.fv l0 a1 = (laws_markValS.l0v l0 a1 0) := by
  refine Lim.eq (laws_markValS.f_lim l0 a1) ?_
  simp only [laws_markValS.f]
  repeat' first
    | (with_reducible apply laws_markValS.l0_lim)
    | (with_reducible exact Lim.const _)
    | (with_reducible refine Lim.ite ?_ ?_)
    | (with_reducible refine Lim.bind ?_ (fun _ => ?_))
    | apply laws_markValS.l0_lim
    | exact Lim.const _
    | refine Lim.ite ?_ ?_
    | refine Lim.bind ?_ (fun _ => ?_)

/-! ### laws_markCellS -/
def laws_markCellS.l0 : Nat → List (S58) → Int → Int → Option (Int × (List (S58)))
  | 0, _, _, _ => none
  | k + 1, x0, x1, x5 => if x5 < (x0.length : Int) then (if 0 ≤ x5 then ((some (x0.set (x5 : Int).toNat (⟨x1, (rd_T58 x0 x5).f1, (⟨(rd_T58 x0 x5).f2.f0, (rd_T58 x0 x5).f2.f1, (rd_T58 x0 x5).f2.f2⟩ : S46)⟩ : S58) : List (S58))).bind fun y169 => ((laws_markText.f k (wrap64 (x1 + 1))).bind fun t170 => ((some (y169.set (x5 : Int).toNat (⟨(rd_T58 y169 x5).f0, t170, (⟨(rd_T58 y169 x5).f2.f0, (rd_T58 y169 x5).f2.f1, (rd_T58 y169 x5).f2.f2⟩ : S46)⟩ : S58) : List (S58))).bind fun y171 => ((some (y171.set (x5 : Int).toNat (⟨(rd_T58 y171 x5).f0, (rd_T58 y171 x5).f1, (⟨wrap64 ((wrap64 (x1 + 1)) + 1), (rd_T58 y171 x5).f2.f1, (rd_T58 y171 x5).f2.f2⟩ : S46)⟩ : S58) : List (S58))).bind fun y172 => ((some (y172.set (x5 : Int).toNat (⟨(rd_T58 y172 x5).f0, (rd_T58 y172 x5).f1, (⟨(rd_T58 y172 x5).f2.f0, wrap64 ((wrap64 ((wrap64 (x1 + 1)) + 1)) + 1), (rd_T58 y172 x5).f2.f2⟩ : S46)⟩ : S58) : List (S58))).bind fun y173 => ((laws_markText.f k (wrap64 ((wrap64 ((wrap64 ((wrap64 (x1 + 1)) + 1)) + 1)) + 1))).bind fun t174 => (laws_markCellS.l0 k (y173.set (x5 : Int).toNat (⟨(rd_T58 y173 x5).f0, (rd_T58 y173 x5).f1, (⟨(rd_T58 y173 x5).f2.f0, (rd_T58 y173 x5).f2.f1, t174⟩ : S46)⟩ : S58)) (wrap64 ((wrap64 ((wrap64 ((wrap64 ((wrap64 (x1 + 1)) + 1)) + 1)) + 1)) + 1)) (wrap64 (x5 + 1))))))))) else (none)) else (some (x1, x0))
def laws_markCellS.f (k : Nat) (l0 : List (S58)) (a1 : Int) : Option (Int × (List (S58))) := laws_markCellS.l0 k l0 a1 0
theorem laws_markCellS.mono_l : ∀ k, (∀ y0 y1 y2, LeO (laws_markCellS.l0 k y0 y1 y2) (laws_markCellS.l0 (k + 1) y0 y1 y2))
  | 0 => fun _ _ _ r h => by simp [laws_markCellS.l0] at h
  | k + 1 => by
    have ih0 := laws_markCellS.mono_l k
    · intro y0 y1 y2
      unfold laws_markCellS.l0
      repeat' first
      | (with_reducible exact ih0 _ _ _)
      | (with_reducible exact laws_markText.mono _ _)
      | (with_reducible exact LeO.refl _)
      | (with_reducible exact LeO.none _)
      | (with_reducible refine LeO.ite ?_ ?_)
      | (with_reducible refine LeO.bind ?_ (fun _ => ?_))
      | exact ih0 _ _ _
      | exact laws_markText.mono _ _
      | exact LeO.none _
      | refine LeO.ite ?_ ?_
      | refine LeO.bind ?_ (fun _ => ?_)
theorem laws_markCellS.mono : ∀ a0 a1 k, LeO (laws_markCellS.f k a0 a1) (laws_markCellS.f (k + 1) a0 a1) := by
  intro a0 a1 k
  have ih0 := laws_markCellS.mono_l k
  unfold laws_markCellS.f
  repeat' first
      | (with_reducible exact ih0 _ _ _)
      | (with_reducible exact laws_markText.mono _ _)
      | (with_reducible exact LeO.refl _)
      | (with_reducible exact LeO.none _)
      | (with_reducible refine LeO.ite ?_ ?_)
      | (with_reducible refine LeO.bind ?_ (fun _ => ?_))
      | exact ih0 _ _ _
      | exact laws_markText.mono _ _
      | exact LeO.none _
      | refine LeO.ite ?_ ?_
      | refine LeO.bind ?_ (fun _ => ?_)
noncomputable def laws_markCellS.l0v (x0 : List (S58)) (x1 : Int) (x5 : Int) : Option (Int × (List (S58))) := limOf (fun k => laws_markCellS.l0 k x0 x1 x5)
theorem laws_markCellS.l0_lim (x0 : List (S58)) (x1 : Int) (x5 : Int) : Lim (fun k => laws_markCellS.l0 k x0 x1 x5) (laws_markCellS.l0v x0 x1 x5) := Lim.of (fun k => laws_markCellS.mono_l k x0 x1 x5)
noncomputable def laws_markCellS.fv (l0 : List (S58)) (a1 : Int) : Option (Int × (List (S58))) := limOf (fun k => laws_markCellS.f k l0 a1)
theorem laws_markCellS.f_lim (l0 : List (S58)) (a1 : Int) : Lim (fun k => laws_markCellS.f k l0 a1) (laws_markCellS.fv l0 a1) := Lim.of (fun k => laws_markCellS.mono l0 a1 k)
set_option maxHeartbeats 4000000 in
theorem laws_markCellS.l0v_eq (x0 : List (S58)) (x1 : Int) (x5 : Int) : laws_markCellS.l0v x0 x1 x5 = (if x5 < (x0.length : Int) then (if 0 ≤ x5 then ((some (x0.set (x5 : Int).toNat (⟨x1, (rd_T58 x0 x5).f1, (⟨(rd_T58 x0 x5).f2.f0, (rd_T58 x0 x5).f2.f1, (rd_T58 x0 x5).f2.f2⟩ : S46)⟩ : S58) : List (S58))).bind fun y169 => ((laws_markText.fv (wrap64 (x1 + 1))).bind fun t170 => ((some (y169.set (x5 : Int).toNat (⟨(rd_T58 y169 x5).f0, t170, (⟨(rd_T58 y169 x5).f2.f0, (rd_T58 y169 x5).f2.f1, (rd_T58 y169 x5).f2.f2⟩ : S46)⟩ : S58) : List (S58))).bind fun y171 => ((some (y171.set (x5 : Int).toNat (⟨(rd_T58 y171 x5).f0, (rd_T58 y171 x5).f1, (⟨wrap64 ((wrap64 (x1 + 1)) + 1), (rd_T58 y171 x5).f2.f1, (rd_T58 y171 x5).f2.f2⟩ : S46)⟩ : S58) : List (S58))).bind fun y172 => ((some (y172.set (x5 : Int).toNat (⟨(rd_T58 y172 x5).f0, (rd_T58 y172 x5).f1, (⟨(rd_T58 y172 x5).f2.f0, wrap64 ((wrap64 ((wrap64 (x1 + 1)) + 1)) + 1), (rd_T58 y172 x5).f2.f2⟩ : S46)⟩ : S58) : List (S58))).bind fun y173 => ((laws_markText.fv (wrap64 ((wrap64 ((wrap64 ((wrap64 (x1 + 1)) + 1)) + 1)) + 1))).bind fun t174 => (laws_markCellS.l0v (y173.set (x5 : Int).toNat (⟨(rd_T58 y173 x5).f0, (rd_T58 y173 x5).f1, (⟨(rd_T58 y173 x5).f2.f0, (rd_T58 y173 x5).f2.f1, t174⟩ : S46)⟩ : S58)) (wrap64 ((wrap64 ((wrap64 ((wrap64 ((wrap64 (x1 + 1)) + 1)) + 1)) + 1)) + 1)) (wrap64 (x5 + 1))))))))) else (none)) else (some (x1, x0))) := by
  refine Lim.succ (laws_markCellS.l0_lim x0 x1 x5) ?_
  simp only [laws_markCellS.l0]
  repeat' first
    | (with_reducible apply laws_markCellS.l0_lim)
    | (with_reducible apply laws_markText.f_lim)
    | (with_reducible exact Lim.const _)
    | (with_reducible refine Lim.ite ?_ ?_)
    | (with_reducible refine Lim.bind ?_ (fun _ => ?_))
    | apply laws_markCellS.l0_lim
    | apply laws_markText.f_lim
    | exact Lim.const _
    | refine Lim.ite ?_ ?_
    | refine Lim.bind ?_ (fun _ => ?_)
set_option maxHeartbeats 4000000 in
theorem laws_markCellS.fv_eq (l0 : List (S58)) (a1 : Int) : laws_markCellS.fv l0 a1 = (laws_markCellS.l0v l0 a1 0) := by
  refine Lim.eq (laws_markCellS.f_lim l0 a1) ?_
  simp only [laws_markCellS.f]
  repeat' first
    | (with_reducible apply laws_markCellS.l0_lim)
    | (with_reducible exact Lim.const _)
    | (with_reducible refine Lim.ite ?_ ?_)
    | (with_reducible refine Lim.bind ?_ (fun _ => ?_))
    | apply laws_markCellS.l0_lim
    | exact Lim.const _
    | refine Lim.ite ?_ ?_
    | refine Lim.bind ?_ (fun _ => ?_)

/-! ### laws_markState -/
def laws_markState.f (k : Nat) (l0_0 : List (S46)) (l0_1 : List (S58)) (a0_2 : Int) (a0_3 : Int) (a1 : Int) : Option (Int × (List (S46)) × (List (S58))) := (laws_markValS.f k l0_0 a1).bind fun bt177 => ((laws_markCellS.f k l0_1 bt177.1).bind fun bt179 => (some (bt179.1, bt177.2, bt179.2)))
theorem laws_markState.mono : ∀ a0 a1 a2 a3 a4 k, LeO (laws_markState.f k a0 a1 a2 a3 a4) (laws_markState.f (k + 1) a0 a1 a2 a3 a4) := by
  intro a0 a1 a2 a3 a4 k
  unfold laws_markState.f
  repeat' first
      | (with_reducible exact laws_markCellS.mono _ _ _)
      | (with_reducible exact laws_markValS.mono _ _ _)
      | (with_reducible exact LeO.refl _)
      | (with_reducible exact LeO.none _)
      | (with_reducible refine LeO.ite ?_ ?_)
      | (with_reducible refine LeO.bind ?_ (fun _ => ?_))
      | exact laws_markCellS.mono _ _ _
      | exact laws_markValS.mono _ _ _
      | exact LeO.none _
      | refine LeO.ite ?_ ?_
      | refine LeO.bind ?_ (fun _ => ?_)
noncomputable def laws_markState.fv (l0_0 : List (S46)) (l0_1 : List (S58)) (a0_2 : Int) (a0_3 : Int) (a1 : Int) : Option (Int × (List (S46)) × (List (S58))) := limOf (fun k => laws_markState.f k l0_0 l0_1 a0_2 a0_3 a1)
theorem laws_markState.f_lim (l0_0 : List (S46)) (l0_1 : List (S58)) (a0_2 : Int) (a0_3 : Int) (a1 : Int) : Lim (fun k => laws_markState.f k l0_0 l0_1 a0_2 a0_3 a1) (laws_markState.fv l0_0 l0_1 a0_2 a0_3 a1) := Lim.of (fun k => laws_markState.mono l0_0 l0_1 a0_2 a0_3 a1 k)
set_option maxHeartbeats 4000000 in
theorem laws_markState.fv_eq (l0_0 : List (S46)) (l0_1 : List (S58)) (a0_2 : Int) (a0_3 : Int) (a1 : Int) : laws_markState.fv l0_0 l0_1 a0_2 a0_3 a1 = ((laws_markValS.fv l0_0 a1).bind fun bt177 => ((laws_markCellS.fv l0_1 bt177.1).bind fun bt179 => (some (bt179.1, bt177.2, bt179.2)))) := by
  refine Lim.eq (laws_markState.f_lim l0_0 l0_1 a0_2 a0_3 a1) ?_
  simp only [laws_markState.f]
  repeat' first
    | (with_reducible apply laws_markCellS.f_lim)
    | (with_reducible apply laws_markValS.f_lim)
    | (with_reducible exact Lim.const _)
    | (with_reducible refine Lim.ite ?_ ?_)
    | (with_reducible refine Lim.bind ?_ (fun _ => ?_))
    | apply laws_markCellS.f_lim
    | apply laws_markValS.f_lim
    | exact Lim.const _
    | refine Lim.ite ?_ ?_
    | refine Lim.bind ?_ (fun _ => ?_)

/-! ### laws_heldValS -/
def laws_heldValS.l0 : Nat → List (S46) → Int → Int → Option (Int)
  | 0, _, _, _ => none
  | k + 1, x0, x1, x5 => if x5 < (x0.length : Int) then (if 0 ≤ x5 then (if ((rd_T46 x0 x5).f0) = x1 then (if ((rd_T46 x0 x5).f1) = (wrap64 (x1 + 1)) then ((laws_markText.f k (wrap64 ((wrap64 (x1 + 1)) + 1))).bind fun t184 => (if ((rd_T46 x0 x5).f2).toList = t184.toList then (laws_heldValS.l0 k x0 (wrap64 ((wrap64 ((wrap64 (x1 + 1)) + 1)) + 1)) (wrap64 (x5 + 1))) else (some (-1)))) else (some (-1))) else (some (-1))) else (none)) else (some x1)
def laws_heldValS.f (k : Nat) (l0 : List (S46)) (a1 : Int) : Option (Int) := laws_heldValS.l0 k l0 a1 0
theorem laws_heldValS.mono_l : ∀ k, (∀ y0 y1 y2, LeO (laws_heldValS.l0 k y0 y1 y2) (laws_heldValS.l0 (k + 1) y0 y1 y2))
  | 0 => fun _ _ _ r h => by simp [laws_heldValS.l0] at h
  | k + 1 => by
    have ih0 := laws_heldValS.mono_l k
    · intro y0 y1 y2
      unfold laws_heldValS.l0
      repeat' first
      | (with_reducible exact ih0 _ _ _)
      | (with_reducible exact laws_markText.mono _ _)
      | (with_reducible exact LeO.refl _)
      | (with_reducible exact LeO.none _)
      | (with_reducible refine LeO.ite ?_ ?_)
      | (with_reducible refine LeO.bind ?_ (fun _ => ?_))
      | exact ih0 _ _ _
      | exact laws_markText.mono _ _
      | exact LeO.none _
      | refine LeO.ite ?_ ?_
      | refine LeO.bind ?_ (fun _ => ?_)
theorem laws_heldValS.mono : ∀ a0 a1 k, LeO (laws_heldValS.f k a0 a1) (laws_heldValS.f (k + 1) a0 a1) := by
  intro a0 a1 k
  have ih0 := laws_heldValS.mono_l k
  unfold laws_heldValS.f
  repeat' first
      | (with_reducible exact ih0 _ _ _)
      | (with_reducible exact laws_markText.mono _ _)
      | (with_reducible exact LeO.refl _)
      | (with_reducible exact LeO.none _)
      | (with_reducible refine LeO.ite ?_ ?_)
      | (with_reducible refine LeO.bind ?_ (fun _ => ?_))
      | exact ih0 _ _ _
      | exact laws_markText.mono _ _
      | exact LeO.none _
      | refine LeO.ite ?_ ?_
      | refine LeO.bind ?_ (fun _ => ?_)
noncomputable def laws_heldValS.l0v (x0 : List (S46)) (x1 : Int) (x5 : Int) : Option (Int) := limOf (fun k => laws_heldValS.l0 k x0 x1 x5)
theorem laws_heldValS.l0_lim (x0 : List (S46)) (x1 : Int) (x5 : Int) : Lim (fun k => laws_heldValS.l0 k x0 x1 x5) (laws_heldValS.l0v x0 x1 x5) := Lim.of (fun k => laws_heldValS.mono_l k x0 x1 x5)
noncomputable def laws_heldValS.fv (l0 : List (S46)) (a1 : Int) : Option (Int) := limOf (fun k => laws_heldValS.f k l0 a1)
theorem laws_heldValS.f_lim (l0 : List (S46)) (a1 : Int) : Lim (fun k => laws_heldValS.f k l0 a1) (laws_heldValS.fv l0 a1) := Lim.of (fun k => laws_heldValS.mono l0 a1 k)
set_option maxHeartbeats 4000000 in
theorem laws_heldValS.l0v_eq (x0 : List (S46)) (x1 : Int) (x5 : Int) : laws_heldValS.l0v x0 x1 x5 = (if x5 < (x0.length : Int) then (if 0 ≤ x5 then (if ((rd_T46 x0 x5).f0) = x1 then (if ((rd_T46 x0 x5).f1) = (wrap64 (x1 + 1)) then ((laws_markText.fv (wrap64 ((wrap64 (x1 + 1)) + 1))).bind fun t184 => (if ((rd_T46 x0 x5).f2).toList = t184.toList then (laws_heldValS.l0v x0 (wrap64 ((wrap64 ((wrap64 (x1 + 1)) + 1)) + 1)) (wrap64 (x5 + 1))) else (some (-1)))) else (some (-1))) else (some (-1))) else (none)) else (some x1)) := by
  refine Lim.succ (laws_heldValS.l0_lim x0 x1 x5) ?_
  simp only [laws_heldValS.l0]
  repeat' first
    | (with_reducible apply laws_heldValS.l0_lim)
    | (with_reducible apply laws_markText.f_lim)
    | (with_reducible exact Lim.const _)
    | (with_reducible refine Lim.ite ?_ ?_)
    | (with_reducible refine Lim.bind ?_ (fun _ => ?_))
    | apply laws_heldValS.l0_lim
    | apply laws_markText.f_lim
    | exact Lim.const _
    | refine Lim.ite ?_ ?_
    | refine Lim.bind ?_ (fun _ => ?_)
set_option maxHeartbeats 4000000 in
theorem laws_heldValS.fv_eq (l0 : List (S46)) (a1 : Int) : laws_heldValS.fv l0 a1 = (laws_heldValS.l0v l0 a1 0) := by
  refine Lim.eq (laws_heldValS.f_lim l0 a1) ?_
  simp only [laws_heldValS.f]
  repeat' first
    | (with_reducible apply laws_heldValS.l0_lim)
    | (with_reducible exact Lim.const _)
    | (with_reducible refine Lim.ite ?_ ?_)
    | (with_reducible refine Lim.bind ?_ (fun _ => ?_))
    | apply laws_heldValS.l0_lim
    | exact Lim.const _
    | refine Lim.ite ?_ ?_
    | refine Lim.bind ?_ (fun _ => ?_)

end Go.Proofs.Ytehefologhfdhaa.QFnExactCellPut
