/- Written by wip/pr2, a program of this session. -/
import Derived.Test.YtehefologhfdhaaQFnExactCellDropx0
import Derived.Test.YtehefologhfdhaaWFnExactCellDrop
namespace Go.Proofs.Ytehefologhfdhaa.QFnExactCellDrop
open Go.RowKit Go.Proofs.YtehefologhfdhaaW.PrintWords Go.Proofs.YtehefologhfdhaaW.PrintLast Go.Proofs.YtehefologhfdhaaW.PrintMore
attribute [local go_sem] max2_int min2_int max_two min_two max_three min_three max_four min_four   -- for this text's walks alone
set_option linter.unusedVariables false
set_option linter.unusedSimpArgs false
set_option maxHeartbeats 8000000

open Go.Proofs.YtehefologhfdhaaW.Lims
/-! ### laws_szVal -/
def laws_szVal.f (a0_0 : Int) (a0_1 : Int) (a0_2 : ByteArray) (a1 : Int) : Option (Int) := if (wrap64 (a1 - (a0_2.size : Int))) < 0 then (some (-1)) else (some (wrap64 (a1 - (a0_2.size : Int))))

/-! ### laws_szValS -/
def laws_szValS.l0 : Nat → List (S42) → Int → Int → Option (Int)
  | 0, _, _, _ => none
  | k + 1, x0, x1, x5 => if x5 < (x0.length : Int) then (if 0 ≤ x5 then ((laws_szVal.f ((rd_T42 x0 x5).f0) ((rd_T42 x0 x5).f1) ((rd_T42 x0 x5).f2) x1).bind fun t103 => (if t103 < 0 then (some (-1)) else (laws_szValS.l0 k x0 t103 (wrap64 (x5 + 1))))) else (none)) else (some x1)
def laws_szValS.f (k : Nat) (l0 : List (S42)) (a1 : Int) : Option (Int) := if (wrap64 (a1 - (l0.length : Int))) < 0 then (some (-1)) else (laws_szValS.l0 k l0 (wrap64 (a1 - (l0.length : Int))) 0)
theorem laws_szValS.mono_l : ∀ k, (∀ y0 y1 y2, LeO (laws_szValS.l0 k y0 y1 y2) (laws_szValS.l0 (k + 1) y0 y1 y2))
  | 0 => fun _ _ _ r h => by simp [laws_szValS.l0] at h
  | k + 1 => by
    have ih0 := laws_szValS.mono_l k
    · intro y0 y1 y2
      unfold laws_szValS.l0
      repeat' first
      | (with_reducible exact ih0 _ _ _)
      | (with_reducible exact LeO.refl _)
      | (with_reducible exact LeO.none _)
      | (with_reducible refine LeO.ite ?_ ?_)
      | (with_reducible refine LeO.bind ?_ (fun _ => ?_))
      | exact ih0 _ _ _
      | exact LeO.none _
      | refine LeO.ite ?_ ?_
      | refine LeO.bind ?_ (fun _ => ?_)
theorem laws_szValS.mono : ∀ a0 a1 k, LeO (laws_szValS.f k a0 a1) (laws_szValS.f (k + 1) a0 a1) := by
  intro a0 a1 k
  have ih0 := laws_szValS.mono_l k
  unfold laws_szValS.f
  repeat' first
      | (with_reducible exact ih0 _ _ _)
      | (with_reducible exact LeO.refl _)
      | (with_reducible exact LeO.none _)
      | (with_reducible refine LeO.ite ?_ ?_)
      | (with_reducible refine LeO.bind ?_ (fun _ => ?_))
      | exact ih0 _ _ _
      | exact LeO.none _
      | refine LeO.ite ?_ ?_
      | refine LeO.bind ?_ (fun _ => ?_)
noncomputable def laws_szValS.l0v (x0 : List (S42)) (x1 : Int) (x5 : Int) : Option (Int) := limOf (fun k => laws_szValS.l0 k x0 x1 x5)
theorem laws_szValS.l0_lim (x0 : List (S42)) (x1 : Int) (x5 : Int) : Lim (fun k => laws_szValS.l0 k x0 x1 x5) (laws_szValS.l0v x0 x1 x5) := Lim.of (fun k => laws_szValS.mono_l k x0 x1 x5)
noncomputable def laws_szValS.fv (l0 : List (S42)) (a1 : Int) : Option (Int) := limOf (fun k => laws_szValS.f k l0 a1)
theorem laws_szValS.f_lim (l0 : List (S42)) (a1 : Int) : Lim (fun k => laws_szValS.f k l0 a1) (laws_szValS.fv l0 a1) := Lim.of (fun k => laws_szValS.mono l0 a1 k)
set_option maxHeartbeats 4000000 in
theorem laws_szValS.l0v_eq (x0 : List (S42)) (x1 : Int) (x5 : Int) : laws_szValS.l0v x0 x1 x5 = (if x5 < (x0.length : Int) then (if 0 ≤ x5 then ((laws_szVal.f ((rd_T42 x0 x5).f0) ((rd_T42 x0 x5).f1) ((rd_T42 x0 x5).f2) x1).bind fun t103 => (if t103 < 0 then (some (-1)) else (laws_szValS.l0v x0 t103 (wrap64 (x5 + 1))))) else (none)) else (some x1)) := by
  refine Lim.succ (laws_szValS.l0_lim x0 x1 x5) ?_
  simp only [laws_szValS.l0]
  repeat' first
    | (with_reducible apply laws_szValS.l0_lim)
    | (with_reducible exact Lim.const _)
    | (with_reducible refine Lim.ite ?_ ?_)
    | (with_reducible refine Lim.bind ?_ (fun _ => ?_))
    | apply laws_szValS.l0_lim
    | exact Lim.const _
    | refine Lim.ite ?_ ?_
    | refine Lim.bind ?_ (fun _ => ?_)
set_option maxHeartbeats 4000000 in
theorem laws_szValS.fv_eq (l0 : List (S42)) (a1 : Int) : laws_szValS.fv l0 a1 = (if (wrap64 (a1 - (l0.length : Int))) < 0 then (some (-1)) else (laws_szValS.l0v l0 (wrap64 (a1 - (l0.length : Int))) 0)) := by
  refine Lim.eq (laws_szValS.f_lim l0 a1) ?_
  simp only [laws_szValS.f]
  repeat' first
    | (with_reducible apply laws_szValS.l0_lim)
    | (with_reducible exact Lim.const _)
    | (with_reducible refine Lim.ite ?_ ?_)
    | (with_reducible refine Lim.bind ?_ (fun _ => ?_))
    | apply laws_szValS.l0_lim
    | exact Lim.const _
    | refine Lim.ite ?_ ?_
    | refine Lim.bind ?_ (fun _ => ?_)

/-! ### laws_szCell -/
def laws_szCell.f (a0_0 : Int) (a0_1 : ByteArray) (a0_2 : Int) (a0_3 : Int) (a0_4 : ByteArray) (a1 : Int) : Option (Int) := if (wrap64 (a1 - (a0_1.size : Int))) < 0 then (some (-1)) else ((laws_szVal.f a0_2 a0_3 a0_4 (wrap64 (a1 - (a0_1.size : Int)))).bind fun t105 => (if t105 < 0 then (some (-1)) else (some t105)))

/-! ### laws_szCellS -/
def laws_szCellS.l0 : Nat → List (S72) → Int → Int → Option (Int)
  | 0, _, _, _ => none
  | k + 1, x0, x1, x5 => if x5 < (x0.length : Int) then (if 0 ≤ x5 then ((laws_szCell.f ((rd_T72 x0 x5).f0) ((rd_T72 x0 x5).f1) ((rd_T72 x0 x5).f2.f0) ((rd_T72 x0 x5).f2.f1) ((rd_T72 x0 x5).f2.f2) x1).bind fun t107 => (if t107 < 0 then (some (-1)) else (laws_szCellS.l0 k x0 t107 (wrap64 (x5 + 1))))) else (none)) else (some x1)
def laws_szCellS.f (k : Nat) (l0 : List (S72)) (a1 : Int) : Option (Int) := if (wrap64 (a1 - (l0.length : Int))) < 0 then (some (-1)) else (laws_szCellS.l0 k l0 (wrap64 (a1 - (l0.length : Int))) 0)
theorem laws_szCellS.mono_l : ∀ k, (∀ y0 y1 y2, LeO (laws_szCellS.l0 k y0 y1 y2) (laws_szCellS.l0 (k + 1) y0 y1 y2))
  | 0 => fun _ _ _ r h => by simp [laws_szCellS.l0] at h
  | k + 1 => by
    have ih0 := laws_szCellS.mono_l k
    · intro y0 y1 y2
      unfold laws_szCellS.l0
      repeat' first
      | (with_reducible exact ih0 _ _ _)
      | (with_reducible exact LeO.refl _)
      | (with_reducible exact LeO.none _)
      | (with_reducible refine LeO.ite ?_ ?_)
      | (with_reducible refine LeO.bind ?_ (fun _ => ?_))
      | exact ih0 _ _ _
      | exact LeO.none _
      | refine LeO.ite ?_ ?_
      | refine LeO.bind ?_ (fun _ => ?_)
theorem laws_szCellS.mono : ∀ a0 a1 k, LeO (laws_szCellS.f k a0 a1) (laws_szCellS.f (k + 1) a0 a1) := by
  intro a0 a1 k
  have ih0 := laws_szCellS.mono_l k
  unfold laws_szCellS.f
  repeat' first
      | (with_reducible exact ih0 _ _ _)
      | (with_reducible exact LeO.refl _)
      | (with_reducible exact LeO.none _)
      | (with_reducible refine LeO.ite ?_ ?_)
      | (with_reducible refine LeO.bind ?_ (fun _ => ?_))
      | exact ih0 _ _ _
      | exact LeO.none _
      | refine LeO.ite ?_ ?_
      | refine LeO.bind ?_ (fun _ => ?_)
noncomputable def laws_szCellS.l0v (x0 : List (S72)) (x1 : Int) (x5 : Int) : Option (Int) := limOf (fun k => laws_szCellS.l0 k x0 x1 x5)
theorem laws_szCellS.l0_lim (x0 : List (S72)) (x1 : Int) (x5 : Int) : Lim (fun k => laws_szCellS.l0 k x0 x1 x5) (laws_szCellS.l0v x0 x1 x5) := Lim.of (fun k => laws_szCellS.mono_l k x0 x1 x5)
noncomputable def laws_szCellS.fv (l0 : List (S72)) (a1 : Int) : Option (Int) := limOf (fun k => laws_szCellS.f k l0 a1)
theorem laws_szCellS.f_lim (l0 : List (S72)) (a1 : Int) : Lim (fun k => laws_szCellS.f k l0 a1) (laws_szCellS.fv l0 a1) := Lim.of (fun k => laws_szCellS.mono l0 a1 k)
set_option maxHeartbeats 4000000 in
theorem laws_szCellS.l0v_eq (x0 : List (S72)) (x1 : Int) (x5 : Int) : laws_szCellS.l0v x0 x1 x5 = (if x5 < (x0.length : Int) then (if 0 ≤ x5 then ((laws_szCell.f ((rd_T72 x0 x5).f0) ((rd_T72 x0 x5).f1) ((rd_T72 x0 x5).f2.f0) ((rd_T72 x0 x5).f2.f1) ((rd_T72 x0 x5).f2.f2) x1).bind fun t107 => (if t107 < 0 then (some (-1)) else (laws_szCellS.l0v x0 t107 (wrap64 (x5 + 1))))) else (none)) else (some x1)) := by
  refine Lim.succ (laws_szCellS.l0_lim x0 x1 x5) ?_
  simp only [laws_szCellS.l0]
  repeat' first
    | (with_reducible apply laws_szCellS.l0_lim)
    | (with_reducible exact Lim.const _)
    | (with_reducible refine Lim.ite ?_ ?_)
    | (with_reducible refine Lim.bind ?_ (fun _ => ?_))
    | apply laws_szCellS.l0_lim
    | exact Lim.const _
    | refine Lim.ite ?_ ?_
    | refine Lim.bind ?_ (fun _ => ?_)
set_option maxHeartbeats 4000000 in
theorem laws_szCellS.fv_eq (l0 : List (S72)) (a1 : Int) : laws_szCellS.fv l0 a1 = (if (wrap64 (a1 - (l0.length : Int))) < 0 then (some (-1)) else (laws_szCellS.l0v l0 (wrap64 (a1 - (l0.length : Int))) 0)) := by
  refine Lim.eq (laws_szCellS.f_lim l0 a1) ?_
  simp only [laws_szCellS.f]
  repeat' first
    | (with_reducible apply laws_szCellS.l0_lim)
    | (with_reducible exact Lim.const _)
    | (with_reducible refine Lim.ite ?_ ?_)
    | (with_reducible refine Lim.bind ?_ (fun _ => ?_))
    | apply laws_szCellS.l0_lim
    | exact Lim.const _
    | refine Lim.ite ?_ ?_
    | refine Lim.bind ?_ (fun _ => ?_)

/-! ### laws_szState -/
def laws_szState.f (k : Nat) (l0_0 : List (S42)) (l0_1 : List (S72)) (a0_2 : Int) (a0_3 : Int) (a1 : Int) : Option (Int) := (laws_szValS.f k l0_0 a1).bind fun t109 => (if t109 < 0 then (some (-1)) else ((laws_szCellS.f k l0_1 t109).bind fun t110 => (if t110 < 0 then (some (-1)) else (some t110))))
theorem laws_szState.mono : ∀ a0 a1 a2 a3 a4 k, LeO (laws_szState.f k a0 a1 a2 a3 a4) (laws_szState.f (k + 1) a0 a1 a2 a3 a4) := by
  intro a0 a1 a2 a3 a4 k
  unfold laws_szState.f
  repeat' first
      | (with_reducible exact laws_szCellS.mono _ _ _)
      | (with_reducible exact laws_szValS.mono _ _ _)
      | (with_reducible exact LeO.refl _)
      | (with_reducible exact LeO.none _)
      | (with_reducible refine LeO.ite ?_ ?_)
      | (with_reducible refine LeO.bind ?_ (fun _ => ?_))
      | exact laws_szCellS.mono _ _ _
      | exact laws_szValS.mono _ _ _
      | exact LeO.none _
      | refine LeO.ite ?_ ?_
      | refine LeO.bind ?_ (fun _ => ?_)
noncomputable def laws_szState.fv (l0_0 : List (S42)) (l0_1 : List (S72)) (a0_2 : Int) (a0_3 : Int) (a1 : Int) : Option (Int) := limOf (fun k => laws_szState.f k l0_0 l0_1 a0_2 a0_3 a1)
theorem laws_szState.f_lim (l0_0 : List (S42)) (l0_1 : List (S72)) (a0_2 : Int) (a0_3 : Int) (a1 : Int) : Lim (fun k => laws_szState.f k l0_0 l0_1 a0_2 a0_3 a1) (laws_szState.fv l0_0 l0_1 a0_2 a0_3 a1) := Lim.of (fun k => laws_szState.mono l0_0 l0_1 a0_2 a0_3 a1 k)
set_option maxHeartbeats 4000000 in
theorem laws_szState.fv_eq (l0_0 : List (S42)) (l0_1 : List (S72)) (a0_2 : Int) (a0_3 : Int) (a1 : Int) : laws_szState.fv l0_0 l0_1 a0_2 a0_3 a1 = ((laws_szValS.fv l0_0 a1).bind fun t109 => (if t109 < 0 then (some (-1)) else ((laws_szCellS.fv l0_1 t109).bind fun t110 => (if t110 < 0 then (some (-1)) else (some t110))))) := by
  refine Lim.eq (laws_szState.f_lim l0_0 l0_1 a0_2 a0_3 a1) ?_
  simp only [laws_szState.f]
  repeat' first
    | (with_reducible apply laws_szCellS.f_lim)
    | (with_reducible apply laws_szValS.f_lim)
    | (with_reducible exact Lim.const _)
    | (with_reducible refine Lim.ite ?_ ?_)
    | (with_reducible refine Lim.bind ?_ (fun _ => ?_))
    | apply laws_szCellS.f_lim
    | apply laws_szValS.f_lim
    | exact Lim.const _
    | refine Lim.ite ?_ ?_
    | refine Lim.bind ?_ (fun _ => ?_)

/-! ### spec_l11Copy -/
def spec_l11Copy.f (l0_0 : List (S46)) (l0_1 : List (S58)) (a0_2 : Int) (a0_3 : Int) : Option ((List (S46)) × (List (S58)) × Int × Int) := (some (([] : List (S46)) : List (S46))).bind fun y113 => (if y113.length + l0_0.length < 4398046511104 then ((some (([] : List (S58)) : List (S58))).bind fun y119 => (if y119.length + l0_1.length < 2513169434916 then (some ((y113 ++ l0_0), (y119 ++ l0_1), a0_2, a0_3)) else (none))) else (none))

/-! ### spec_l11At -/
def spec_l11At.l0 : Nat → Int → ByteArray → Int → List (S46) → List (S58) → Int → Int → Option (Int)
  | 0, _, _, _, _, _, _, _ => none
  | k + 1, x1, x2, x7, x126000, x126001, x126002, x126003 => if x7 < (x126001.length : Int) then (if 0 ≤ x7 then (if ((rd_T58 x126001 x7).f0) = x1 then (if ((rd_T58 x126001 x7).f1).toList = x2.toList then (some x7) else (spec_l11At.l0 k x1 x2 (wrap64 (x7 + 1)) x126000 x126001 x126002 x126003)) else (spec_l11At.l0 k x1 x2 (wrap64 (x7 + 1)) x126000 x126001 x126002 x126003)) else (none)) else (some (-1))
def spec_l11At.f (k : Nat) (l0_0 : List (S46)) (l0_1 : List (S58)) (a0_2 : Int) (a0_3 : Int) (a1 : Int) (a2 : ByteArray) : Option (Int) := spec_l11At.l0 k a1 a2 0 l0_0 l0_1 a0_2 a0_3
theorem spec_l11At.mono_l : ∀ k, (∀ y0 y1 y2 y3 y4 y5 y6, LeO (spec_l11At.l0 k y0 y1 y2 y3 y4 y5 y6) (spec_l11At.l0 (k + 1) y0 y1 y2 y3 y4 y5 y6))
  | 0 => fun _ _ _ _ _ _ _ r h => by simp [spec_l11At.l0] at h
  | k + 1 => by
    have ih0 := spec_l11At.mono_l k
    · intro y0 y1 y2 y3 y4 y5 y6
      unfold spec_l11At.l0
      repeat' first
      | (with_reducible exact ih0 _ _ _ _ _ _ _)
      | (with_reducible exact LeO.refl _)
      | (with_reducible exact LeO.none _)
      | (with_reducible refine LeO.ite ?_ ?_)
      | (with_reducible refine LeO.bind ?_ (fun _ => ?_))
      | exact ih0 _ _ _ _ _ _ _
      | exact LeO.none _
      | refine LeO.ite ?_ ?_
      | refine LeO.bind ?_ (fun _ => ?_)
theorem spec_l11At.mono : ∀ a0 a1 a2 a3 a4 a5 k, LeO (spec_l11At.f k a0 a1 a2 a3 a4 a5) (spec_l11At.f (k + 1) a0 a1 a2 a3 a4 a5) := by
  intro a0 a1 a2 a3 a4 a5 k
  have ih0 := spec_l11At.mono_l k
  unfold spec_l11At.f
  repeat' first
      | (with_reducible exact ih0 _ _ _ _ _ _ _)
      | (with_reducible exact LeO.refl _)
      | (with_reducible exact LeO.none _)
      | (with_reducible refine LeO.ite ?_ ?_)
      | (with_reducible refine LeO.bind ?_ (fun _ => ?_))
      | exact ih0 _ _ _ _ _ _ _
      | exact LeO.none _
      | refine LeO.ite ?_ ?_
      | refine LeO.bind ?_ (fun _ => ?_)
noncomputable def spec_l11At.l0v (x1 : Int) (x2 : ByteArray) (x7 : Int) (x126000 : List (S46)) (x126001 : List (S58)) (x126002 : Int) (x126003 : Int) : Option (Int) := limOf (fun k => spec_l11At.l0 k x1 x2 x7 x126000 x126001 x126002 x126003)
theorem spec_l11At.l0_lim (x1 : Int) (x2 : ByteArray) (x7 : Int) (x126000 : List (S46)) (x126001 : List (S58)) (x126002 : Int) (x126003 : Int) : Lim (fun k => spec_l11At.l0 k x1 x2 x7 x126000 x126001 x126002 x126003) (spec_l11At.l0v x1 x2 x7 x126000 x126001 x126002 x126003) := Lim.of (fun k => spec_l11At.mono_l k x1 x2 x7 x126000 x126001 x126002 x126003)
noncomputable def spec_l11At.fv (l0_0 : List (S46)) (l0_1 : List (S58)) (a0_2 : Int) (a0_3 : Int) (a1 : Int) (a2 : ByteArray) : Option (Int) := limOf (fun k => spec_l11At.f k l0_0 l0_1 a0_2 a0_3 a1 a2)
theorem spec_l11At.f_lim (l0_0 : List (S46)) (l0_1 : List (S58)) (a0_2 : Int) (a0_3 : Int) (a1 : Int) (a2 : ByteArray) : Lim (fun k => spec_l11At.f k l0_0 l0_1 a0_2 a0_3 a1 a2) (spec_l11At.fv l0_0 l0_1 a0_2 a0_3 a1 a2) := Lim.of (fun k => spec_l11At.mono l0_0 l0_1 a0_2 a0_3 a1 a2 k)
set_option maxHeartbeats 4000000 in
theorem spec_l11At.l0v_eq (x1 : Int) (x2 : ByteArray) (x7 : Int) (x126000 : List (S46)) (x126001 : List (S58)) (x126002 : Int) (x126003 : Int) : spec_l11At.l0v x1 x2 x7 x126000 x126001 x126002 x126003 = (if x7 < (x126001.length : Int) then (if 0 ≤ x7 then (if ((rd_T58 x126001 x7).f0) = x1 then (if ((rd_T58 x126001 x7).f1).toList = x2.toList then (some x7) else (spec_l11At.l0v x1 x2 (wrap64 (x7 + 1)) x126000 x126001 x126002 x126003)) else (spec_l11At.l0v x1 x2 (wrap64 (x7 + 1)) x126000 x126001 x126002 x126003)) else (none)) else (some (-1))) := by
  refine Lim.succ (spec_l11At.l0_lim x1 x2 x7 x126000 x126001 x126002 x126003) ?_
  simp only [spec_l11At.l0]
  repeat' first
    | (with_reducible apply spec_l11At.l0_lim)
    | (with_reducible exact Lim.const _)
    | (with_reducible refine Lim.ite ?_ ?_)
    | (with_reducible refine Lim.bind ?_ (fun _ => ?_))
    | apply spec_l11At.l0_lim
    | exact Lim.const _
    | refine Lim.ite ?_ ?_
    | refine Lim.bind ?_ (fun _ => ?_)
set_option maxHeartbeats 4000000 in
theorem spec_l11At.fv_eq (l0_0 : List (S46)) (l0_1 : List (S58)) (a0_2 : Int) (a0_3 : Int) (a1 : Int) (a2 : ByteArray) : spec_l11At.fv l0_0 l0_1 a0_2 a0_3 a1 a2 = (spec_l11At.l0v a1 a2 0 l0_0 l0_1 a0_2 a0_3) := by
  refine Lim.eq (spec_l11At.f_lim l0_0 l0_1 a0_2 a0_3 a1 a2) ?_
  simp only [spec_l11At.f]
  repeat' first
    | (with_reducible apply spec_l11At.l0_lim)
    | (with_reducible exact Lim.const _)
    | (with_reducible refine Lim.ite ?_ ?_)
    | (with_reducible refine Lim.bind ?_ (fun _ => ?_))
    | apply spec_l11At.l0_lim
    | exact Lim.const _
    | refine Lim.ite ?_ ?_
    | refine Lim.bind ?_ (fun _ => ?_)

/-! ### spec_CellDrop -/
def spec_CellDrop.f (k : Nat) (l0_0 : List (S46)) (l0_1 : List (S58)) (a0_2 : Int) (a0_3 : Int) (a1 : Int) (a2 : ByteArray) : Option ((List (S46)) × (List (S58)) × Int × Int) := (spec_l11Copy.f l0_0 l0_1 a0_2 a0_3).bind fun bt130 => ((spec_l11At.f k l0_0 l0_1 a0_2 a0_3 a1 a2).bind fun t139 => (if t139 ≥ 0 then ((some (([] : List (S58)) : List (S58))).bind fun y140 => (if 0 ≤ t139 then (if t139 ≤ (l0_1.length : Int) then ((some (l0_1.take (t139 : Int).toNat : List (S58))).bind fun y143 => (if y140.length + y143.length < 2513169434916 then ((some (y140 ++ y143 : List (S58))).bind fun y147 => (if 0 ≤ (wrap64 (t139 + 1)) then (if (wrap64 (t139 + 1)) ≤ (l0_1.length : Int) then ((some (l0_1.drop ((wrap64 (t139 + 1)) : Int).toNat : List (S58))).bind fun y150 => (if y147.length + y150.length < 2513169434916 then (some (bt130.1, (y147 ++ y150), bt130.2.2.1, bt130.2.2.2)) else (none))) else (none)) else (none))) else (none))) else (none)) else (none))) else (some (bt130.1, bt130.2.1, bt130.2.2.1, bt130.2.2.2))))
theorem spec_CellDrop.mono : ∀ a0 a1 a2 a3 a4 a5 k, LeO (spec_CellDrop.f k a0 a1 a2 a3 a4 a5) (spec_CellDrop.f (k + 1) a0 a1 a2 a3 a4 a5) := by
  intro a0 a1 a2 a3 a4 a5 k
  unfold spec_CellDrop.f
  repeat' first
      | (with_reducible exact spec_l11At.mono _ _ _ _ _ _ _)
      | (with_reducible exact LeO.refl _)
      | (with_reducible exact LeO.none _)
      | (with_reducible refine LeO.ite ?_ ?_)
      | (with_reducible refine LeO.bind ?_ (fun _ => ?_))
      | exact spec_l11At.mono _ _ _ _ _ _ _
      | exact LeO.none _
      | refine LeO.ite ?_ ?_
      | refine LeO.bind ?_ (fun _ => ?_)
noncomputable def spec_CellDrop.fv (l0_0 : List (S46)) (l0_1 : List (S58)) (a0_2 : Int) (a0_3 : Int) (a1 : Int) (a2 : ByteArray) : Option ((List (S46)) × (List (S58)) × Int × Int) := limOf (fun k => spec_CellDrop.f k l0_0 l0_1 a0_2 a0_3 a1 a2)
theorem spec_CellDrop.f_lim (l0_0 : List (S46)) (l0_1 : List (S58)) (a0_2 : Int) (a0_3 : Int) (a1 : Int) (a2 : ByteArray) : Lim (fun k => spec_CellDrop.f k l0_0 l0_1 a0_2 a0_3 a1 a2) (spec_CellDrop.fv l0_0 l0_1 a0_2 a0_3 a1 a2) := Lim.of (fun k => spec_CellDrop.mono l0_0 l0_1 a0_2 a0_3 a1 a2 k)
set_option maxHeartbeats 4000000 in
theorem spec_CellDrop.fv_eq (l0_0 : List (S46)) (l0_1 : List (S58)) (a0_2 : Int) (a0_3 : Int) (a1 : Int) (a2 : ByteArray) : spec_CellDrop.fv l0_0 l0_1 a0_2 a0_3 a1 a2 = ((spec_l11Copy.f l0_0 l0_1 a0_2 a0_3).bind fun bt130 => ((spec_l11At.fv l0_0 l0_1 a0_2 a0_3 a1 a2).bind fun t139 => (if t139 ≥ 0 then ((some (([] : List (S58)) : List (S58))).bind fun y140 => (if 0 ≤ t139 then (if t139 ≤ (l0_1.length : Int) then ((some (l0_1.take (t139 : Int).toNat : List (S58))).bind fun y143 => (if y140.length + y143.length < 2513169434916 then ((some (y140 ++ y143 : List (S58))).bind fun y147 => (if 0 ≤ (wrap64 (t139 + 1)) then (if (wrap64 (t139 + 1)) ≤ (l0_1.length : Int) then ((some (l0_1.drop ((wrap64 (t139 + 1)) : Int).toNat : List (S58))).bind fun y150 => (if y147.length + y150.length < 2513169434916 then (some (bt130.1, (y147 ++ y150), bt130.2.2.1, bt130.2.2.2)) else (none))) else (none)) else (none))) else (none))) else (none)) else (none))) else (some (bt130.1, bt130.2.1, bt130.2.2.1, bt130.2.2.2))))) := by
  refine Lim.eq (spec_CellDrop.f_lim l0_0 l0_1 a0_2 a0_3 a1 a2) ?_
  simp only [spec_CellDrop.f]
  repeat' first
    | (with_reducible apply spec_l11At.f_lim)
    | (with_reducible exact Lim.const _)
    | (with_reducible refine Lim.ite ?_ ?_)
    | (with_reducible refine Lim.bind ?_ (fun _ => ?_))
    | apply spec_l11At.f_lim
    | exact Lim.const _
    | refine Lim.ite ?_ ?_
    | refine Lim.bind ?_ (fun _ => ?_)

/-! ### laws_toVal -/
def laws_toVal.f (a0_0 : Int) (a0_1 : Int) (a0_2 : ByteArray) : Option (Int × Int × ByteArray) := some (a0_0, a0_1, a0_2)

/-! ### laws_toValS -/
def laws_toValS.l0 : Nat → List (S42) → List (S46) → Int → Option ((List (S46)))
  | 0, _, _, _ => none
  | k + 1, x0, x3, x4 => if x4 < (x0.length : Int) then (if 0 ≤ x4 then ((laws_toVal.f ((rd_T42 x0 x4).f0) ((rd_T42 x0 x4).f1) ((rd_T42 x0 x4).f2)).bind fun bt164 => (if x4 < (x3.length : Int) then (laws_toValS.l0 k x0 (x3.set (x4 : Int).toNat (⟨bt164.1, bt164.2.1, bt164.2.2⟩ : S46)) (wrap64 (x4 + 1))) else (none))) else (none)) else (some x3)
def laws_toValS.f (k : Nat) (l0 : List (S42)) : Option ((List (S46))) := if 0 ≤ (l0.length : Int) then (if ((l0.length : Int) : Int).toNat ≤ 8796093022208 then (laws_toValS.l0 k l0 (List.replicate ((l0.length : Int) : Int).toNat z46) 0) else (none)) else (none)
theorem laws_toValS.mono_l : ∀ k, (∀ y0 y1 y2, LeO (laws_toValS.l0 k y0 y1 y2) (laws_toValS.l0 (k + 1) y0 y1 y2))
  | 0 => fun _ _ _ r h => by simp [laws_toValS.l0] at h
  | k + 1 => by
    have ih0 := laws_toValS.mono_l k
    · intro y0 y1 y2
      unfold laws_toValS.l0
      repeat' first
      | (with_reducible exact ih0 _ _ _)
      | (with_reducible exact LeO.refl _)
      | (with_reducible exact LeO.none _)
      | (with_reducible refine LeO.ite ?_ ?_)
      | (with_reducible refine LeO.bind ?_ (fun _ => ?_))
      | exact ih0 _ _ _
      | exact LeO.none _
      | refine LeO.ite ?_ ?_
      | refine LeO.bind ?_ (fun _ => ?_)
theorem laws_toValS.mono : ∀ a0 k, LeO (laws_toValS.f k a0) (laws_toValS.f (k + 1) a0) := by
  intro a0 k
  have ih0 := laws_toValS.mono_l k
  unfold laws_toValS.f
  repeat' first
      | (with_reducible exact ih0 _ _ _)
      | (with_reducible exact LeO.refl _)
      | (with_reducible exact LeO.none _)
      | (with_reducible refine LeO.ite ?_ ?_)
      | (with_reducible refine LeO.bind ?_ (fun _ => ?_))
      | exact ih0 _ _ _
      | exact LeO.none _
      | refine LeO.ite ?_ ?_
      | refine LeO.bind ?_ (fun _ => ?_)
noncomputable def laws_toValS.l0v (x0 : List (S42)) (x3 : List (S46)) (x4 : Int) : Option ((List (S46))) := limOf (fun k => laws_toValS.l0 k x0 x3 x4)
theorem laws_toValS.l0_lim (x0 : List (S42)) (x3 : List (S46)) (x4 : Int) : Lim (fun k => laws_toValS.l0 k x0 x3 x4) (laws_toValS.l0v x0 x3 x4) := Lim.of (fun k => laws_toValS.mono_l k x0 x3 x4)
noncomputable def laws_toValS.fv (l0 : List (S42)) : Option ((List (S46))) := limOf (fun k => laws_toValS.f k l0)
theorem laws_toValS.f_lim (l0 : List (S42)) : Lim (fun k => laws_toValS.f k l0) (laws_toValS.fv l0) := Lim.of (fun k => laws_toValS.mono l0 k)
set_option maxHeartbeats 4000000 in
theorem laws_toValS.l0v_eq (x0 : List (S42)) (x3 : List (S46)) (x4 : Int) : laws_toValS.l0v x0 x3 x4 = (if x4 < (x0.length : Int) then (if 0 ≤ x4 then ((laws_toVal.f ((rd_T42 x0 x4).f0) ((rd_T42 x0 x4).f1) ((rd_T42 x0 x4).f2)).bind fun bt164 => (if x4 < (x3.length : Int) then (laws_toValS.l0v x0 (x3.set (x4 : Int).toNat (⟨bt164.1, bt164.2.1, bt164.2.2⟩ : S46)) (wrap64 (x4 + 1))) else (none))) else (none)) else (some x3)) := by
  refine Lim.succ (laws_toValS.l0_lim x0 x3 x4) ?_
  simp only [laws_toValS.l0]
  repeat' first
    | (with_reducible apply laws_toValS.l0_lim)
    | (with_reducible exact Lim.const _)
    | (with_reducible refine Lim.ite ?_ ?_)
    | (with_reducible refine Lim.bind ?_ (fun _ => ?_))
    | apply laws_toValS.l0_lim
    | exact Lim.const _
    | refine Lim.ite ?_ ?_
    | refine Lim.bind ?_ (fun _ => ?_)
set_option maxHeartbeats 4000000 in
theorem laws_toValS.fv_eq (l0 : List (S42)) : laws_toValS.fv l0 = (if 0 ≤ (l0.length : Int) then (if ((l0.length : Int) : Int).toNat ≤ 8796093022208 then (laws_toValS.l0v l0 (List.replicate ((l0.length : Int) : Int).toNat z46) 0) else (none)) else (none)) := by
  refine Lim.eq (laws_toValS.f_lim l0) ?_
  simp only [laws_toValS.f]
  repeat' first
    | (with_reducible apply laws_toValS.l0_lim)
    | (with_reducible exact Lim.const _)
    | (with_reducible refine Lim.ite ?_ ?_)
    | (with_reducible refine Lim.bind ?_ (fun _ => ?_))
    | apply laws_toValS.l0_lim
    | exact Lim.const _
    | refine Lim.ite ?_ ?_
    | refine Lim.bind ?_ (fun _ => ?_)

/-! ### laws_toCell -/
def laws_toCell.f (a0_0 : Int) (a0_1 : ByteArray) (a0_2 : Int) (a0_3 : Int) (a0_4 : ByteArray) : Option (Int × ByteArray × Int × Int × ByteArray) := (laws_toVal.f a0_2 a0_3 a0_4).bind fun bt171 => (some (a0_0, a0_1, bt171.1, bt171.2.1, bt171.2.2))

/-! ### laws_toCellS -/
def laws_toCellS.l0 : Nat → List (S72) → List (S58) → Int → Option ((List (S58)))
  | 0, _, _, _ => none
  | k + 1, x0, x3, x4 => if x4 < (x0.length : Int) then (if 0 ≤ x4 then ((laws_toCell.f ((rd_T72 x0 x4).f0) ((rd_T72 x0 x4).f1) ((rd_T72 x0 x4).f2.f0) ((rd_T72 x0 x4).f2.f1) ((rd_T72 x0 x4).f2.f2)).bind fun bt178 => (if x4 < (x3.length : Int) then (laws_toCellS.l0 k x0 (x3.set (x4 : Int).toNat (⟨bt178.1, bt178.2.1, (⟨bt178.2.2.1, bt178.2.2.2.1, bt178.2.2.2.2⟩ : S46)⟩ : S58)) (wrap64 (x4 + 1))) else (none))) else (none)) else (some x3)
def laws_toCellS.f (k : Nat) (l0 : List (S72)) : Option ((List (S58))) := if 0 ≤ (l0.length : Int) then (if ((l0.length : Int) : Int).toNat ≤ 5026338869833 then (laws_toCellS.l0 k l0 (List.replicate ((l0.length : Int) : Int).toNat z58) 0) else (none)) else (none)
theorem laws_toCellS.mono_l : ∀ k, (∀ y0 y1 y2, LeO (laws_toCellS.l0 k y0 y1 y2) (laws_toCellS.l0 (k + 1) y0 y1 y2))
  | 0 => fun _ _ _ r h => by simp [laws_toCellS.l0] at h
  | k + 1 => by
    have ih0 := laws_toCellS.mono_l k
    · intro y0 y1 y2
      unfold laws_toCellS.l0
      repeat' first
      | (with_reducible exact ih0 _ _ _)
      | (with_reducible exact LeO.refl _)
      | (with_reducible exact LeO.none _)
      | (with_reducible refine LeO.ite ?_ ?_)
      | (with_reducible refine LeO.bind ?_ (fun _ => ?_))
      | exact ih0 _ _ _
      | exact LeO.none _
      | refine LeO.ite ?_ ?_
      | refine LeO.bind ?_ (fun _ => ?_)
theorem laws_toCellS.mono : ∀ a0 k, LeO (laws_toCellS.f k a0) (laws_toCellS.f (k + 1) a0) := by
  intro a0 k
  have ih0 := laws_toCellS.mono_l k
  unfold laws_toCellS.f
  repeat' first
      | (with_reducible exact ih0 _ _ _)
      | (with_reducible exact LeO.refl _)
      | (with_reducible exact LeO.none _)
      | (with_reducible refine LeO.ite ?_ ?_)
      | (with_reducible refine LeO.bind ?_ (fun _ => ?_))
      | exact ih0 _ _ _
      | exact LeO.none _
      | refine LeO.ite ?_ ?_
      | refine LeO.bind ?_ (fun _ => ?_)
noncomputable def laws_toCellS.l0v (x0 : List (S72)) (x3 : List (S58)) (x4 : Int) : Option ((List (S58))) := limOf (fun k => laws_toCellS.l0 k x0 x3 x4)
theorem laws_toCellS.l0_lim (x0 : List (S72)) (x3 : List (S58)) (x4 : Int) : Lim (fun k => laws_toCellS.l0 k x0 x3 x4) (laws_toCellS.l0v x0 x3 x4) := Lim.of (fun k => laws_toCellS.mono_l k x0 x3 x4)
noncomputable def laws_toCellS.fv (l0 : List (S72)) : Option ((List (S58))) := limOf (fun k => laws_toCellS.f k l0)
theorem laws_toCellS.f_lim (l0 : List (S72)) : Lim (fun k => laws_toCellS.f k l0) (laws_toCellS.fv l0) := Lim.of (fun k => laws_toCellS.mono l0 k)
set_option maxHeartbeats 4000000 in
theorem laws_toCellS.l0v_eq (x0 : List (S72)) (x3 : List (S58)) (x4 : Int) : laws_toCellS.l0v x0 x3 x4 = (if x4 < (x0.length : Int) then (if 0 ≤ x4 then ((laws_toCell.f ((rd_T72 x0 x4).f0) ((rd_T72 x0 x4).f1) ((rd_T72 x0 x4).f2.f0) ((rd_T72 x0 x4).f2.f1) ((rd_T72 x0 x4).f2.f2)).bind fun bt178 => (if x4 < (x3.length : Int) then (laws_toCellS.l0v x0 (x3.set (x4 : Int).toNat (⟨bt178.1, bt178.2.1, (⟨bt178.2.2.1, bt178.2.2.2.1, bt178.2.2.2.2⟩ : S46)⟩ : S58)) (wrap64 (x4 + 1))) else (none))) else (none)) else (some x3)) := by
  refine Lim.succ (laws_toCellS.l0_lim x0 x3 x4) ?_
  simp only [laws_toCellS.l0]
  repeat' first
    | (with_reducible apply laws_toCellS.l0_lim)
    | (with_reducible exact Lim.const _)
    | (with_reducible refine Lim.ite ?_ ?_)
    | (with_reducible refine Lim.bind ?_ (fun _ => ?_))
    | apply laws_toCellS.l0_lim
    | exact Lim.const _
    | refine Lim.ite ?_ ?_
    | refine Lim.bind ?_ (fun _ => ?_)
set_option maxHeartbeats 4000000 in
theorem laws_toCellS.fv_eq (l0 : List (S72)) : laws_toCellS.fv l0 = (if 0 ≤ (l0.length : Int) then (if ((l0.length : Int) : Int).toNat ≤ 5026338869833 then (laws_toCellS.l0v l0 (List.replicate ((l0.length : Int) : Int).toNat z58) 0) else (none)) else (none)) := by
  refine Lim.eq (laws_toCellS.f_lim l0) ?_
  simp only [laws_toCellS.f]
  repeat' first
    | (with_reducible apply laws_toCellS.l0_lim)
    | (with_reducible exact Lim.const _)
    | (with_reducible refine Lim.ite ?_ ?_)
    | (with_reducible refine Lim.bind ?_ (fun _ => ?_))
    | apply laws_toCellS.l0_lim
    | exact Lim.const _
    | refine Lim.ite ?_ ?_
    | refine Lim.bind ?_ (fun _ => ?_)

/-! ### laws_toState -/
def laws_toState.f (k : Nat) (l0_0 : List (S42)) (l0_1 : List (S72)) (a0_2 : Int) (a0_3 : Int) : Option ((List (S46)) × (List (S58)) × Int × Int) := (laws_toValS.f k l0_0).bind fun t187 => ((laws_toCellS.f k l0_1).bind fun t190 => (some (t187, t190, a0_2, a0_3)))
theorem laws_toState.mono : ∀ a0 a1 a2 a3 k, LeO (laws_toState.f k a0 a1 a2 a3) (laws_toState.f (k + 1) a0 a1 a2 a3) := by
  intro a0 a1 a2 a3 k
  unfold laws_toState.f
  repeat' first
      | (with_reducible exact laws_toCellS.mono _ _)
      | (with_reducible exact laws_toValS.mono _ _)
      | (with_reducible exact LeO.refl _)
      | (with_reducible exact LeO.none _)
      | (with_reducible refine LeO.ite ?_ ?_)
      | (with_reducible refine LeO.bind ?_ (fun _ => ?_))
      | exact laws_toCellS.mono _ _
      | exact laws_toValS.mono _ _
      | exact LeO.none _
      | refine LeO.ite ?_ ?_
      | refine LeO.bind ?_ (fun _ => ?_)
noncomputable def laws_toState.fv (l0_0 : List (S42)) (l0_1 : List (S72)) (a0_2 : Int) (a0_3 : Int) : Option ((List (S46)) × (List (S58)) × Int × Int) := limOf (fun k => laws_toState.f k l0_0 l0_1 a0_2 a0_3)
theorem laws_toState.f_lim (l0_0 : List (S42)) (l0_1 : List (S72)) (a0_2 : Int) (a0_3 : Int) : Lim (fun k => laws_toState.f k l0_0 l0_1 a0_2 a0_3) (laws_toState.fv l0_0 l0_1 a0_2 a0_3) := Lim.of (fun k => laws_toState.mono l0_0 l0_1 a0_2 a0_3 k)
set_option maxHeartbeats 4000000 in
theorem laws_toState.fv_eq (l0_0 : List (S42)) (l0_1 : List (S72)) (a0_2 : Int) (a0_3 : Int) : laws_toState.fv l0_0 l0_1 a0_2 a0_3 = ((laws_toValS.fv l0_0).bind fun t187 => ((laws_toCellS.fv l0_1).bind fun t190 => (some (t187, t190, a0_2, a0_3)))) := by
  refine Lim.eq (laws_toState.f_lim l0_0 l0_1 a0_2 a0_3) ?_
  simp only [laws_toState.f]
  repeat' first
    | (with_reducible apply laws_toCellS.f_lim)
    | (with_reducible apply laws_toValS.f_lim)
    | (with_reducible exact Lim.const _)
    | (with_reducible refine Lim.ite ?_ ?_)
    | (with_reducible refine Lim.bind ?_ (fun _ => ?_))
    | apply laws_toCellS.f_lim
    | apply laws_toValS.f_lim
    | exact Lim.const _
    | refine Lim.ite ?_ ?_
    | refine Lim.bind ?_ (fun _ => ?_)

/-! ### impl_Val -/
def impl_Val.f (l0 : List (S46)) : Option (List (S46)) := if l0.length ≤ 2000000 then some l0 else none

/-! ### impl_Cell_49 -/
def impl_Cell_49.f (l0 : List (S58)) : Option (List (S58)) := if l0.length ≤ 2000000 then some l0 else none

/-! ### impl_cloneState -/
def impl_cloneState.f (l0_0 : List (S46)) (l0_1 : List (S58)) (a0_2 : Int) (a0_3 : Int) : Option ((List (S46)) × (List (S58)) × Int × Int) := (impl_Val.f l0_0).bind fun t195 => ((impl_Cell_49.f l0_1).bind fun t198 => (some (t195, t198, a0_2, a0_3)))

/-! ### impl_cellAt_1 -/
def impl_cellAt_1.f (a0_0 : Int) (a0_1 : ByteArray) (a0_2 : Int) (a0_3 : Int) (a0_4 : ByteArray) (a1_0 : Int) (a2_0 : ByteArray) : Option (Bool) := if a0_0 = a1_0 then (some (a0_1.toList == a2_0.toList)) else (some false)

/-! ### impl_Cell_50 -/
def impl_Cell_50.l0 : Nat → List (S58) → Int → Int → Int → ByteArray → Option (Int)
  | 0, _, _, _, _, _ => none
  | k + 1, x0, x7, x8, x205000, x206000 => if x8 < x7 then (if 0 ≤ x8 then (if x8 < (x0.length : Int) then ((impl_cellAt_1.f ((rd_T58 x0 x8).f0) ((rd_T58 x0 x8).f1) ((rd_T58 x0 x8).f2.f0) ((rd_T58 x0 x8).f2.f1) ((rd_T58 x0 x8).f2.f2) x205000 x206000).bind fun t207 => (if t207 = true then (some x8) else (impl_Cell_50.l0 k x0 x7 (wrap64 (x8 + 1)) x205000 x206000))) else (none)) else (none)) else (some (-1))
def impl_Cell_50.f (k : Nat) (l0 : List (S58)) (a1q0_0 : Int) (a1q1_0 : ByteArray) : Option (Int) := impl_Cell_50.l0 k l0 (l0.length : Int) 0 a1q0_0 a1q1_0
theorem impl_Cell_50.mono_l : ∀ k, (∀ y0 y1 y2 y3 y4, LeO (impl_Cell_50.l0 k y0 y1 y2 y3 y4) (impl_Cell_50.l0 (k + 1) y0 y1 y2 y3 y4))
  | 0 => fun _ _ _ _ _ r h => by simp [impl_Cell_50.l0] at h
  | k + 1 => by
    have ih0 := impl_Cell_50.mono_l k
    · intro y0 y1 y2 y3 y4
      unfold impl_Cell_50.l0
      repeat' first
      | (with_reducible exact ih0 _ _ _ _ _)
      | (with_reducible exact LeO.refl _)
      | (with_reducible exact LeO.none _)
      | (with_reducible refine LeO.ite ?_ ?_)
      | (with_reducible refine LeO.bind ?_ (fun _ => ?_))
      | exact ih0 _ _ _ _ _
      | exact LeO.none _
      | refine LeO.ite ?_ ?_
      | refine LeO.bind ?_ (fun _ => ?_)
theorem impl_Cell_50.mono : ∀ a0 a1 a2 k, LeO (impl_Cell_50.f k a0 a1 a2) (impl_Cell_50.f (k + 1) a0 a1 a2) := by
  intro a0 a1 a2 k
  have ih0 := impl_Cell_50.mono_l k
  unfold impl_Cell_50.f
  repeat' first
      | (with_reducible exact ih0 _ _ _ _ _)
      | (with_reducible exact LeO.refl _)
      | (with_reducible exact LeO.none _)
      | (with_reducible refine LeO.ite ?_ ?_)
      | (with_reducible refine LeO.bind ?_ (fun _ => ?_))
      | exact ih0 _ _ _ _ _
      | exact LeO.none _
      | refine LeO.ite ?_ ?_
      | refine LeO.bind ?_ (fun _ => ?_)
noncomputable def impl_Cell_50.l0v (x0 : List (S58)) (x7 : Int) (x8 : Int) (x205000 : Int) (x206000 : ByteArray) : Option (Int) := limOf (fun k => impl_Cell_50.l0 k x0 x7 x8 x205000 x206000)
theorem impl_Cell_50.l0_lim (x0 : List (S58)) (x7 : Int) (x8 : Int) (x205000 : Int) (x206000 : ByteArray) : Lim (fun k => impl_Cell_50.l0 k x0 x7 x8 x205000 x206000) (impl_Cell_50.l0v x0 x7 x8 x205000 x206000) := Lim.of (fun k => impl_Cell_50.mono_l k x0 x7 x8 x205000 x206000)
noncomputable def impl_Cell_50.fv (l0 : List (S58)) (a1q0_0 : Int) (a1q1_0 : ByteArray) : Option (Int) := limOf (fun k => impl_Cell_50.f k l0 a1q0_0 a1q1_0)
theorem impl_Cell_50.f_lim (l0 : List (S58)) (a1q0_0 : Int) (a1q1_0 : ByteArray) : Lim (fun k => impl_Cell_50.f k l0 a1q0_0 a1q1_0) (impl_Cell_50.fv l0 a1q0_0 a1q1_0) := Lim.of (fun k => impl_Cell_50.mono l0 a1q0_0 a1q1_0 k)
set_option maxHeartbeats 4000000 in
theorem impl_Cell_50.l0v_eq (x0 : List (S58)) (x7 : Int) (x8 : Int) (x205000 : Int) (x206000 : ByteArray) : impl_Cell_50.l0v x0 x7 x8 x205000 x206000 = (if x8 < x7 then (if 0 ≤ x8 then (if x8 < (x0.length : Int) then ((impl_cellAt_1.f ((rd_T58 x0 x8).f0) ((rd_T58 x0 x8).f1) ((rd_T58 x0 x8).f2.f0) ((rd_T58 x0 x8).f2.f1) ((rd_T58 x0 x8).f2.f2) x205000 x206000).bind fun t207 => (if t207 = true then (some x8) else (impl_Cell_50.l0v x0 x7 (wrap64 (x8 + 1)) x205000 x206000))) else (none)) else (none)) else (some (-1))) := by
  refine Lim.succ (impl_Cell_50.l0_lim x0 x7 x8 x205000 x206000) ?_
  simp only [impl_Cell_50.l0]
  repeat' first
    | (with_reducible apply impl_Cell_50.l0_lim)
    | (with_reducible exact Lim.const _)
    | (with_reducible refine Lim.ite ?_ ?_)
    | (with_reducible refine Lim.bind ?_ (fun _ => ?_))
    | apply impl_Cell_50.l0_lim
    | exact Lim.const _
    | refine Lim.ite ?_ ?_
    | refine Lim.bind ?_ (fun _ => ?_)
set_option maxHeartbeats 4000000 in
theorem impl_Cell_50.fv_eq (l0 : List (S58)) (a1q0_0 : Int) (a1q1_0 : ByteArray) : impl_Cell_50.fv l0 a1q0_0 a1q1_0 = (impl_Cell_50.l0v l0 (l0.length : Int) 0 a1q0_0 a1q1_0) := by
  refine Lim.eq (impl_Cell_50.f_lim l0 a1q0_0 a1q1_0) ?_
  simp only [impl_Cell_50.f]
  repeat' first
    | (with_reducible apply impl_Cell_50.l0_lim)
    | (with_reducible exact Lim.const _)
    | (with_reducible refine Lim.ite ?_ ?_)
    | (with_reducible refine Lim.bind ?_ (fun _ => ?_))
    | apply impl_Cell_50.l0_lim
    | exact Lim.const _
    | refine Lim.ite ?_ ?_
    | refine Lim.bind ?_ (fun _ => ?_)

/-! ### impl_cellAt -/
def impl_cellAt.f (k : Nat) (l0_0 : List (S46)) (l0_1 : List (S58)) (a0_2 : Int) (a0_3 : Int) (a1 : Int) (a2 : ByteArray) : Option (Int) := (impl_Cell_50.f k l0_1 a1 a2).bind fun t211 => (some t211)
theorem impl_cellAt.mono : ∀ a0 a1 a2 a3 a4 a5 k, LeO (impl_cellAt.f k a0 a1 a2 a3 a4 a5) (impl_cellAt.f (k + 1) a0 a1 a2 a3 a4 a5) := by
  intro a0 a1 a2 a3 a4 a5 k
  unfold impl_cellAt.f
  repeat' first
      | (with_reducible exact impl_Cell_50.mono _ _ _ _)
      | (with_reducible exact LeO.refl _)
      | (with_reducible exact LeO.none _)
      | (with_reducible refine LeO.ite ?_ ?_)
      | (with_reducible refine LeO.bind ?_ (fun _ => ?_))
      | exact impl_Cell_50.mono _ _ _ _
      | exact LeO.none _
      | refine LeO.ite ?_ ?_
      | refine LeO.bind ?_ (fun _ => ?_)
noncomputable def impl_cellAt.fv (l0_0 : List (S46)) (l0_1 : List (S58)) (a0_2 : Int) (a0_3 : Int) (a1 : Int) (a2 : ByteArray) : Option (Int) := limOf (fun k => impl_cellAt.f k l0_0 l0_1 a0_2 a0_3 a1 a2)
theorem impl_cellAt.f_lim (l0_0 : List (S46)) (l0_1 : List (S58)) (a0_2 : Int) (a0_3 : Int) (a1 : Int) (a2 : ByteArray) : Lim (fun k => impl_cellAt.f k l0_0 l0_1 a0_2 a0_3 a1 a2) (impl_cellAt.fv l0_0 l0_1 a0_2 a0_3 a1 a2) := Lim.of (fun k => impl_cellAt.mono l0_0 l0_1 a0_2 a0_3 a1 a2 k)
set_option maxHeartbeats 4000000 in
theorem impl_cellAt.fv_eq (l0_0 : List (S46)) (l0_1 : List (S58)) (a0_2 : Int) (a0_3 : Int) (a1 : Int) (a2 : ByteArray) : impl_cellAt.fv l0_0 l0_1 a0_2 a0_3 a1 a2 = ((impl_Cell_50.fv l0_1 a1 a2).bind fun t211 => (some t211)) := by
  refine Lim.eq (impl_cellAt.f_lim l0_0 l0_1 a0_2 a0_3 a1 a2) ?_
  simp only [impl_cellAt.f]
  repeat' first
    | (with_reducible apply impl_Cell_50.f_lim)
    | (with_reducible exact Lim.const _)
    | (with_reducible refine Lim.ite ?_ ?_)
    | (with_reducible refine Lim.bind ?_ (fun _ => ?_))
    | apply impl_Cell_50.f_lim
    | exact Lim.const _
    | refine Lim.ite ?_ ?_
    | refine Lim.bind ?_ (fun _ => ?_)

/-! ### impl_Cell_32 -/
def impl_Cell_32.f (l0 : List (S58)) (a1 : Int) (a2 : Int) : Option (List (S58)) := if 0 ≤ a1 ∧ a2 = a1 + 1 ∧ a2 ≤ (l0.length : Int) ∧ l0.length ≤ 2000000 then some (l0.take a1.toNat ++ l0.drop a2.toNat) else none

/-! ### impl_CellDrop -/
def impl_CellDrop.f (k : Nat) (l0_0 : List (S46)) (l0_1 : List (S58)) (a0_2 : Int) (a0_3 : Int) (a1 : Int) (a2 : ByteArray) : Option ((List (S46)) × (List (S58)) × Int × Int) := (impl_cloneState.f l0_0 l0_1 a0_2 a0_3).bind fun bt214 => ((impl_cellAt.f k l0_0 l0_1 a0_2 a0_3 a1 a2).bind fun t223 => (if t223 ≥ 0 then ((impl_Cell_32.f bt214.2.1 t223 (wrap64 (t223 + 1))).bind fun t224 => (some (bt214.1, t224, bt214.2.2.1, bt214.2.2.2))) else (some (bt214.1, bt214.2.1, bt214.2.2.1, bt214.2.2.2))))
theorem impl_CellDrop.mono : ∀ a0 a1 a2 a3 a4 a5 k, LeO (impl_CellDrop.f k a0 a1 a2 a3 a4 a5) (impl_CellDrop.f (k + 1) a0 a1 a2 a3 a4 a5) := by
  intro a0 a1 a2 a3 a4 a5 k
  unfold impl_CellDrop.f
  repeat' first
      | (with_reducible exact impl_cellAt.mono _ _ _ _ _ _ _)
      | (with_reducible exact LeO.refl _)
      | (with_reducible exact LeO.none _)
      | (with_reducible refine LeO.ite ?_ ?_)
      | (with_reducible refine LeO.bind ?_ (fun _ => ?_))
      | exact impl_cellAt.mono _ _ _ _ _ _ _
      | exact LeO.none _
      | refine LeO.ite ?_ ?_
      | refine LeO.bind ?_ (fun _ => ?_)
noncomputable def impl_CellDrop.fv (l0_0 : List (S46)) (l0_1 : List (S58)) (a0_2 : Int) (a0_3 : Int) (a1 : Int) (a2 : ByteArray) : Option ((List (S46)) × (List (S58)) × Int × Int) := limOf (fun k => impl_CellDrop.f k l0_0 l0_1 a0_2 a0_3 a1 a2)
theorem impl_CellDrop.f_lim (l0_0 : List (S46)) (l0_1 : List (S58)) (a0_2 : Int) (a0_3 : Int) (a1 : Int) (a2 : ByteArray) : Lim (fun k => impl_CellDrop.f k l0_0 l0_1 a0_2 a0_3 a1 a2) (impl_CellDrop.fv l0_0 l0_1 a0_2 a0_3 a1 a2) := Lim.of (fun k => impl_CellDrop.mono l0_0 l0_1 a0_2 a0_3 a1 a2 k)
set_option maxHeartbeats 4000000 in
theorem impl_CellDrop.fv_eq (l0_0 : List (S46)) (l0_1 : List (S58)) (a0_2 : Int) (a0_3 : Int) (a1 : Int) (a2 : ByteArray) : impl_CellDrop.fv l0_0 l0_1 a0_2 a0_3 a1 a2 = ((impl_cloneState.f l0_0 l0_1 a0_2 a0_3).bind fun bt214 => ((impl_cellAt.fv l0_0 l0_1 a0_2 a0_3 a1 a2).bind fun t223 => (if t223 ≥ 0 then ((impl_Cell_32.f bt214.2.1 t223 (wrap64 (t223 + 1))).bind fun t224 => (some (bt214.1, t224, bt214.2.2.1, bt214.2.2.2))) else (some (bt214.1, bt214.2.1, bt214.2.2.1, bt214.2.2.2))))) := by
  refine Lim.eq (impl_CellDrop.f_lim l0_0 l0_1 a0_2 a0_3 a1 a2) ?_
  simp only [impl_CellDrop.f]
  repeat' first
    | (with_reducible apply impl_cellAt.f_lim)
    | (with_reducible exact Lim.const _)
    | (with_reducible refine Lim.ite ?_ ?_)
    | (with_reducible refine Lim.bind ?_ (fun _ => ?_))
    | apply impl_cellAt.f_lim
    | exact Lim.const _
    | refine Lim.ite ?_ ?_
    | refine Lim.bind ?_ (fun _ => ?_)

/-! ### laws_eqVal -/
def laws_eqVal.f (a0_0 : Int) (a0_1 : Int) (a0_2 : ByteArray) (a1_0 : Int) (a1_1 : Int) (a1_2 : ByteArray) : Option (Bool) := if a0_0 = a1_0 then (if a0_1 = a1_1 then (if a0_2.toList = a1_2.toList then (some true) else (some false)) else (some false)) else (some false)

/-! ### laws_eqValS -/
def laws_eqValS.l0 : Nat → List (S46) → List (S46) → Int → Option (Bool)
  | 0, _, _, _ => none
  | k + 1, x0, x1, x5 => if x5 < (x0.length : Int) then (if 0 ≤ x5 then (if x5 < (x1.length : Int) then ((laws_eqVal.f ((rd_T46 x0 x5).f0) ((rd_T46 x0 x5).f1) ((rd_T46 x0 x5).f2) ((rd_T46 x1 x5).f0) ((rd_T46 x1 x5).f1) ((rd_T46 x1 x5).f2)).bind fun t231 => (if t231 = true then (laws_eqValS.l0 k x0 x1 (wrap64 (x5 + 1))) else (some false))) else (none)) else (none)) else (some true)
def laws_eqValS.f (k : Nat) (l0 : List (S46)) (l1 : List (S46)) : Option (Bool) := if (l0.length : Int) = (l1.length : Int) then (laws_eqValS.l0 k l0 l1 0) else (some false)
theorem laws_eqValS.mono_l : ∀ k, (∀ y0 y1 y2, LeO (laws_eqValS.l0 k y0 y1 y2) (laws_eqValS.l0 (k + 1) y0 y1 y2))
  | 0 => fun _ _ _ r h => by simp [laws_eqValS.l0] at h
  | k + 1 => by
    have ih0 := laws_eqValS.mono_l k
    · intro y0 y1 y2
      unfold laws_eqValS.l0
      repeat' first
      | (with_reducible exact ih0 _ _ _)
      | (with_reducible exact LeO.refl _)
      | (with_reducible exact LeO.none _)
      | (with_reducible refine LeO.ite ?_ ?_)
      | (with_reducible refine LeO.bind ?_ (fun _ => ?_))
      | exact ih0 _ _ _
      | exact LeO.none _
      | refine LeO.ite ?_ ?_
      | refine LeO.bind ?_ (fun _ => ?_)
theorem laws_eqValS.mono : ∀ a0 a1 k, LeO (laws_eqValS.f k a0 a1) (laws_eqValS.f (k + 1) a0 a1) := by
  intro a0 a1 k
  have ih0 := laws_eqValS.mono_l k
  unfold laws_eqValS.f
  repeat' first
      | (with_reducible exact ih0 _ _ _)
      | (with_reducible exact LeO.refl _)
      | (with_reducible exact LeO.none _)
      | (with_reducible refine LeO.ite ?_ ?_)
      | (with_reducible refine LeO.bind ?_ (fun _ => ?_))
      | exact ih0 _ _ _
      | exact LeO.none _
      | refine LeO.ite ?_ ?_
      | refine LeO.bind ?_ (fun _ => ?_)
noncomputable def laws_eqValS.l0v (x0 : List (S46)) (x1 : List (S46)) (x5 : Int) : Option (Bool) := limOf (fun k => laws_eqValS.l0 k x0 x1 x5)
theorem laws_eqValS.l0_lim (x0 : List (S46)) (x1 : List (S46)) (x5 : Int) : Lim (fun k => laws_eqValS.l0 k x0 x1 x5) (laws_eqValS.l0v x0 x1 x5) := Lim.of (fun k => laws_eqValS.mono_l k x0 x1 x5)
noncomputable def laws_eqValS.fv (l0 : List (S46)) (l1 : List (S46)) : Option (Bool) := limOf (fun k => laws_eqValS.f k l0 l1)
theorem laws_eqValS.f_lim (l0 : List (S46)) (l1 : List (S46)) : Lim (fun k => laws_eqValS.f k l0 l1) (laws_eqValS.fv l0 l1) := Lim.of (fun k => laws_eqValS.mono l0 l1 k)
set_option maxHeartbeats 4000000 in
theorem laws_eqValS.l0v_eq (x0 : List (S46)) (x1 : List (S46)) (x5 : Int) : laws_eqValS.l0v x0 x1 x5 = (if x5 < (x0.length : Int) then (if 0 ≤ x5 then (if x5 < (x1.length : Int) then ((laws_eqVal.f ((rd_T46 x0 x5).f0) ((rd_T46 x0 x5).f1) ((rd_T46 x0 x5).f2) ((rd_T46 x1 x5).f0) ((rd_T46 x1 x5).f1) ((rd_T46 x1 x5).f2)).bind fun t231 => (if t231 = true then (laws_eqValS.l0v x0 x1 (wrap64 (x5 + 1))) else (some false))) else (none)) else (none)) else (some true)) := by
  refine Lim.succ (laws_eqValS.l0_lim x0 x1 x5) ?_
  simp only [laws_eqValS.l0]
  repeat' first
    | (with_reducible apply laws_eqValS.l0_lim)
    | (with_reducible exact Lim.const _)
    | (with_reducible refine Lim.ite ?_ ?_)
    | (with_reducible refine Lim.bind ?_ (fun _ => ?_))
    | apply laws_eqValS.l0_lim
    | exact Lim.const _
    | refine Lim.ite ?_ ?_
    | refine Lim.bind ?_ (fun _ => ?_)
set_option maxHeartbeats 4000000 in
theorem laws_eqValS.fv_eq (l0 : List (S46)) (l1 : List (S46)) : laws_eqValS.fv l0 l1 = (if (l0.length : Int) = (l1.length : Int) then (laws_eqValS.l0v l0 l1 0) else (some false)) := by
  refine Lim.eq (laws_eqValS.f_lim l0 l1) ?_
  simp only [laws_eqValS.f]
  repeat' first
    | (with_reducible apply laws_eqValS.l0_lim)
    | (with_reducible exact Lim.const _)
    | (with_reducible refine Lim.ite ?_ ?_)
    | (with_reducible refine Lim.bind ?_ (fun _ => ?_))
    | apply laws_eqValS.l0_lim
    | exact Lim.const _
    | refine Lim.ite ?_ ?_
    | refine Lim.bind ?_ (fun _ => ?_)

/-! ### laws_eqCell -/
def laws_eqCell.f (a0_0 : Int) (a0_1 : ByteArray) (a0_2 : Int) (a0_3 : Int) (a0_4 : ByteArray) (a1_0 : Int) (a1_1 : ByteArray) (a1_2 : Int) (a1_3 : Int) (a1_4 : ByteArray) : Option (Bool) := if a0_0 = a1_0 then (if a0_1.toList = a1_1.toList then ((laws_eqVal.f a0_2 a0_3 a0_4 a1_2 a1_3 a1_4).bind fun t234 => (if t234 = true then (some true) else (some false))) else (some false)) else (some false)

/-! ### laws_eqCellS -/
def laws_eqCellS.l0 : Nat → List (S58) → List (S58) → Int → Option (Bool)
  | 0, _, _, _ => none
  | k + 1, x0, x1, x5 => if x5 < (x0.length : Int) then (if 0 ≤ x5 then (if x5 < (x1.length : Int) then ((laws_eqCell.f ((rd_T58 x0 x5).f0) ((rd_T58 x0 x5).f1) ((rd_T58 x0 x5).f2.f0) ((rd_T58 x0 x5).f2.f1) ((rd_T58 x0 x5).f2.f2) ((rd_T58 x1 x5).f0) ((rd_T58 x1 x5).f1) ((rd_T58 x1 x5).f2.f0) ((rd_T58 x1 x5).f2.f1) ((rd_T58 x1 x5).f2.f2)).bind fun t237 => (if t237 = true then (laws_eqCellS.l0 k x0 x1 (wrap64 (x5 + 1))) else (some false))) else (none)) else (none)) else (some true)
def laws_eqCellS.f (k : Nat) (l0 : List (S58)) (l1 : List (S58)) : Option (Bool) := if (l0.length : Int) = (l1.length : Int) then (laws_eqCellS.l0 k l0 l1 0) else (some false)
theorem laws_eqCellS.mono_l : ∀ k, (∀ y0 y1 y2, LeO (laws_eqCellS.l0 k y0 y1 y2) (laws_eqCellS.l0 (k + 1) y0 y1 y2))
  | 0 => fun _ _ _ r h => by simp [laws_eqCellS.l0] at h
  | k + 1 => by
    have ih0 := laws_eqCellS.mono_l k
    · intro y0 y1 y2
      unfold laws_eqCellS.l0
      repeat' first
      | (with_reducible exact ih0 _ _ _)
      | (with_reducible exact LeO.refl _)
      | (with_reducible exact LeO.none _)
      | (with_reducible refine LeO.ite ?_ ?_)
      | (with_reducible refine LeO.bind ?_ (fun _ => ?_))
      | exact ih0 _ _ _
      | exact LeO.none _
      | refine LeO.ite ?_ ?_
      | refine LeO.bind ?_ (fun _ => ?_)
theorem laws_eqCellS.mono : ∀ a0 a1 k, LeO (laws_eqCellS.f k a0 a1) (laws_eqCellS.f (k + 1) a0 a1) := by
  intro a0 a1 k
  have ih0 := laws_eqCellS.mono_l k
  unfold laws_eqCellS.f
  repeat' first
      | (with_reducible exact ih0 _ _ _)
      | (with_reducible exact LeO.refl _)
      | (with_reducible exact LeO.none _)
      | (with_reducible refine LeO.ite ?_ ?_)
      | (with_reducible refine LeO.bind ?_ (fun _ => ?_))
      | exact ih0 _ _ _
      | exact LeO.none _
      | refine LeO.ite ?_ ?_
      | refine LeO.bind ?_ (fun _ => ?_)
noncomputable def laws_eqCellS.l0v (x0 : List (S58)) (x1 : List (S58)) (x5 : Int) : Option (Bool) := limOf (fun k => laws_eqCellS.l0 k x0 x1 x5)
theorem laws_eqCellS.l0_lim (x0 : List (S58)) (x1 : List (S58)) (x5 : Int) : Lim (fun k => laws_eqCellS.l0 k x0 x1 x5) (laws_eqCellS.l0v x0 x1 x5) := Lim.of (fun k => laws_eqCellS.mono_l k x0 x1 x5)
noncomputable def laws_eqCellS.fv (l0 : List (S58)) (l1 : List (S58)) : Option (Bool) := limOf (fun k => laws_eqCellS.f k l0 l1)
theorem laws_eqCellS.f_lim (l0 : List (S58)) (l1 : List (S58)) : Lim (fun k => laws_eqCellS.f k l0 l1) (laws_eqCellS.fv l0 l1) := Lim.of (fun k => laws_eqCellS.mono l0 l1 k)
set_option maxHeartbeats 4000000 in
theorem laws_eqCellS.l0v_eq (x0 : List (S58)) (x1 : List (S58)) (x5 : Int) : laws_eqCellS.l0v x0 x1 x5 = (if x5 < (x0.length : Int) then (if 0 ≤ x5 then (if x5 < (x1.length : Int) then ((laws_eqCell.f ((rd_T58 x0 x5).f0) ((rd_T58 x0 x5).f1) ((rd_T58 x0 x5).f2.f0) ((rd_T58 x0 x5).f2.f1) ((rd_T58 x0 x5).f2.f2) ((rd_T58 x1 x5).f0) ((rd_T58 x1 x5).f1) ((rd_T58 x1 x5).f2.f0) ((rd_T58 x1 x5).f2.f1) ((rd_T58 x1 x5).f2.f2)).bind fun t237 => (if t237 = true then (laws_eqCellS.l0v x0 x1 (wrap64 (x5 + 1))) else (some false))) else (none)) else (none)) else (some true)) := by
  refine Lim.succ (laws_eqCellS.l0_lim x0 x1 x5) ?_
  simp only [laws_eqCellS.l0]
  repeat' first
    | (with_reducible apply laws_eqCellS.l0_lim)
    | (with_reducible exact Lim.const _)
    | (with_reducible refine Lim.ite ?_ ?_)
    | (with_reducible refine Lim.bind ?_ (fun _ => ?_))
    | apply laws_eqCellS.l0_lim
    | exact Lim.const _
    | refine Lim.ite ?_ ?_
    | refine Lim.bind ?_ (fun _ => ?_)
set_option maxHeartbeats 4000000 in
theorem laws_eqCellS.fv_eq (l0 : List (S58)) (l1 : List (S58)) : laws_eqCellS.fv l0 l1 = (if (l0.length : Int) = (l1.length : Int) then (laws_eqCellS.l0v l0 l1 0) else (some false)) := by
  refine Lim.eq (laws_eqCellS.f_lim l0 l1) ?_
  simp only [laws_eqCellS.f]
  repeat' first
    | (with_reducible apply laws_eqCellS.l0_lim)
    | (with_reducible exact Lim.const _)
    | (with_reducible refine Lim.ite ?_ ?_)
    | (with_reducible refine Lim.bind ?_ (fun _ => ?_))
    | apply laws_eqCellS.l0_lim
    | exact Lim.const _
    | refine Lim.ite ?_ ?_
    | refine Lim.bind ?_ (fun _ => ?_)

/-! ### laws_eqState -/
def laws_eqState.f (k : Nat) (l0_0 : List (S46)) (l0_1 : List (S58)) (a0_2 : Int) (a0_3 : Int) (l1_0 : List (S46)) (l1_1 : List (S58)) (a1_2 : Int) (a1_3 : Int) : Option (Bool) := (laws_eqValS.f k l0_0 l1_0).bind fun t240 => (if t240 = true then ((laws_eqCellS.f k l0_1 l1_1).bind fun t241 => (if t241 = true then (if a0_2 = a1_2 then (if a0_3 = a1_3 then (some true) else (some false)) else (some false)) else (some false))) else (some false))
theorem laws_eqState.mono : ∀ a0 a1 a2 a3 a4 a5 a6 a7 k, LeO (laws_eqState.f k a0 a1 a2 a3 a4 a5 a6 a7) (laws_eqState.f (k + 1) a0 a1 a2 a3 a4 a5 a6 a7) := by
  intro a0 a1 a2 a3 a4 a5 a6 a7 k
  unfold laws_eqState.f
  repeat' first
      | (with_reducible exact laws_eqCellS.mono _ _ _)
      | (with_reducible exact laws_eqValS.mono _ _ _)
      | (with_reducible exact LeO.refl _)
      | (with_reducible exact LeO.none _)
      | (with_reducible refine LeO.ite ?_ ?_)
      | (with_reducible refine LeO.bind ?_ (fun _ => ?_))
      | exact laws_eqCellS.mono _ _ _
      | exact laws_eqValS.mono _ _ _
      | exact LeO.none _
      | refine LeO.ite ?_ ?_
      | refine LeO.bind ?_ (fun _ => ?_)
noncomputable def laws_eqState.fv (l0_0 : List (S46)) (l0_1 : List (S58)) (a0_2 : Int) (a0_3 : Int) (l1_0 : List (S46)) (l1_1 : List (S58)) (a1_2 : Int) (a1_3 : Int) : Option (Bool) := limOf (fun k => laws_eqState.f k l0_0 l0_1 a0_2 a0_3 l1_0 l1_1 a1_2 a1_3)
theorem laws_eqState.f_lim (l0_0 : List (S46)) (l0_1 : List (S58)) (a0_2 : Int) (a0_3 : Int) (l1_0 : List (S46)) (l1_1 : List (S58)) (a1_2 : Int) (a1_3 : Int) : Lim (fun k => laws_eqState.f k l0_0 l0_1 a0_2 a0_3 l1_0 l1_1 a1_2 a1_3) (laws_eqState.fv l0_0 l0_1 a0_2 a0_3 l1_0 l1_1 a1_2 a1_3) := Lim.of (fun k => laws_eqState.mono l0_0 l0_1 a0_2 a0_3 l1_0 l1_1 a1_2 a1_3 k)
set_option maxHeartbeats 4000000 in
theorem laws_eqState.fv_eq (l0_0 : List (S46)) (l0_1 : List (S58)) (a0_2 : Int) (a0_3 : Int) (l1_0 : List (S46)) (l1_1 : List (S58)) (a1_2 : Int) (a1_3 : Int) : laws_eqState.fv l0_0 l0_1 a0_2 a0_3 l1_0 l1_1 a1_2 a1_3 = ((laws_eqValS.fv l0_0 l1_0).bind fun t240 => (if t240 = true then ((laws_eqCellS.fv l0_1 l1_1).bind fun t241 => (if t241 = true then (if a0_2 = a1_2 then (if a0_3 = a1_3 then (some true) else (some false)) else (some false)) else (some false))) else (some false))) := by
  refine Lim.eq (laws_eqState.f_lim l0_0 l0_1 a0_2 a0_3 l1_0 l1_1 a1_2 a1_3) ?_
  simp only [laws_eqState.f]
  repeat' first
    | (with_reducible apply laws_eqCellS.f_lim)
    | (with_reducible apply laws_eqValS.f_lim)
    | (with_reducible exact Lim.const _)
    | (with_reducible refine Lim.ite ?_ ?_)
    | (with_reducible refine Lim.bind ?_ (fun _ => ?_))
    | apply laws_eqCellS.f_lim
    | apply laws_eqValS.f_lim
    | exact Lim.const _
    | refine Lim.ite ?_ ?_
    | refine Lim.bind ?_ (fun _ => ?_)

/-! ### laws_markText -/
def laws_markText.l0 : Nat → Int → ByteArray → Option (ByteArray)
  | 0, _, _ => none
  | k + 1, x0, x3 => if x0 > 0 then ((some (([(wrap64 (48 + (Int.tmod x0 10))) % 256] : List Int) : List Int)).bind fun y242 => (if (strOfNums y242).size + x3.size ≤ 9223372036854775807 then (laws_markText.l0 k (wrap64 (Int.tdiv x0 10)) ((strOfNums y242) ++ x3)) else (none))) else (if 1 + x3.size ≤ 9223372036854775807 then (some ((⟨#[109]⟩ : ByteArray) ++ x3)) else (none))
def laws_markText.f (k : Nat) (a0 : Int) : Option (ByteArray) := if a0 ≤ 0 then (some (⟨#[109, 48]⟩ : ByteArray)) else (laws_markText.l0 k a0 (⟨#[]⟩ : ByteArray))
theorem laws_markText.mono_l : ∀ k, (∀ y0 y1, LeO (laws_markText.l0 k y0 y1) (laws_markText.l0 (k + 1) y0 y1))
  | 0 => fun _ _ r h => by simp [laws_markText.l0] at h
  | k + 1 => by
    have ih0 := laws_markText.mono_l k
    · intro y0 y1
      unfold laws_markText.l0
      repeat' first
      | (with_reducible exact ih0 _ _)
      | (with_reducible exact LeO.refl _)
      | (with_reducible exact LeO.none _)
      | (with_reducible refine LeO.ite ?_ ?_)
      | (with_reducible refine LeO.bind ?_ (fun _ => ?_))
      | exact ih0 _ _
      | exact LeO.none _
      | refine LeO.ite ?_ ?_
      | refine LeO.bind ?_ (fun _ => ?_)
theorem laws_markText.mono : ∀ a0 k, LeO (laws_markText.f k a0) (laws_markText.f (k + 1) a0) := by
  intro a0 k
  have ih0 := laws_markText.mono_l k
  unfold laws_markText.f
  repeat' first
      | (with_reducible exact ih0 _ _)
      | (with_reducible exact LeO.refl _)
      | (with_reducible exact LeO.none _)
      | (with_reducible refine LeO.ite ?_ ?_)
      | (with_reducible refine LeO.bind ?_ (fun _ => ?_))
      | exact ih0 _ _
      | exact LeO.none _
      | refine LeO.ite ?_ ?_
      | refine LeO.bind ?_ (fun _ => ?_)
noncomputable def laws_markText.l0v (x0 : Int) (x3 : ByteArray) : Option (ByteArray) := limOf (fun k => laws_markText.l0 k x0 x3)
theorem laws_markText.l0_lim (x0 : Int) (x3 : ByteArray) : Lim (fun k => laws_markText.l0 k x0 x3) (laws_markText.l0v x0 x3) := Lim.of (fun k => laws_markText.mono_l k x0 x3)
noncomputable def laws_markText.fv (a0 : Int) : Option (ByteArray) := limOf (fun k => laws_markText.f k a0)
theorem laws_markText.f_lim (a0 : Int) : Lim (fun k => laws_markText.f k a0) (laws_markText.fv a0) := Lim.of (fun k => laws_markText.mono a0 k)
set_option maxHeartbeats 4000000 in
theorem laws_markText.l0v_eq (x0 : Int) (x3 : ByteArray) : laws_markText.l0v x0 x3 = (if x0 > 0 then ((some (([(wrap64 (48 + (Int.tmod x0 10))) % 256] : List Int) : List Int)).bind fun y242 => (if (strOfNums y242).size + x3.size ≤ 9223372036854775807 then (laws_markText.l0v (wrap64 (Int.tdiv x0 10)) ((strOfNums y242) ++ x3)) else (none))) else (if 1 + x3.size ≤ 9223372036854775807 then (some ((⟨#[109]⟩ : ByteArray) ++ x3)) else (none))) := by
  refine Lim.succ (laws_markText.l0_lim x0 x3) ?_
  simp only [laws_markText.l0]
  repeat' first
    | (with_reducible apply laws_markText.l0_lim)
    | (with_reducible exact Lim.const _)
    | (with_reducible refine Lim.ite ?_ ?_)
    | (with_reducible refine Lim.bind ?_ (fun _ => ?_))
    | apply laws_markText.l0_lim
    | exact Lim.const _
    | refine Lim.ite ?_ ?_
    | refine Lim.bind ?_ (fun _ => ?_)
set_option maxHeartbeats 4000000 in
theorem laws_markText.fv_eq (a0 : Int) : laws_markText.fv a0 = (if a0 ≤ 0 then (some (⟨#[109, 48]⟩ : ByteArray)) else (laws_markText.l0v a0 (⟨#[]⟩ : ByteArray))) := by
  refine Lim.eq (laws_markText.f_lim a0) ?_
  simp only [laws_markText.f]
  repeat' first
    | (with_reducible apply laws_markText.l0_lim)
    | (with_reducible exact Lim.const _)
    | (with_reducible refine Lim.ite ?_ ?_)
    | (with_reducible refine Lim.bind ?_ (fun _ => ?_))
    | apply laws_markText.l0_lim
    | exact Lim.const _
    | refine Lim.ite ?_ ?_
    | refine Lim.bind ?_ (fun _ => ?_)

end Go.Proofs.Ytehefologhfdhaa.QFnExactCellDrop
