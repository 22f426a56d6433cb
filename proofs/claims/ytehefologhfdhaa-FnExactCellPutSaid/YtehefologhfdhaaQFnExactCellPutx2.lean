/- Written by wip/pr2, a program of this session. -/
import Derived.Test.YtehefologhfdhaaQFnExactCellPutx0
import Derived.Test.YtehefologhfdhaaQFnExactCellPutx1
import Derived.Test.YtehefologhfdhaaWFnExactCellPut
namespace Go.Proofs.Ytehefologhfdhaa.QFnExactCellPut
open Go.RowKit Go.Proofs.YtehefologhfdhaaW.PrintWords Go.Proofs.YtehefologhfdhaaW.PrintLast Go.Proofs.YtehefologhfdhaaW.PrintMore
attribute [local go_sem] max2_int min2_int max_two min_two max_three min_three max_four min_four   -- for this text's walks alone
set_option linter.unusedVariables false
set_option linter.unusedSimpArgs false
set_option maxHeartbeats 8000000

open Go.Proofs.YtehefologhfdhaaW.Lims
/-! ### laws_heldCellS -/
def laws_heldCellS.l0 : Nat → List (S58) → Int → Int → Option (Int)
  | 0, _, _, _ => none
  | k + 1, x0, x1, x5 => if x5 < (x0.length : Int) then (if 0 ≤ x5 then (if ((rd_T58 x0 x5).f0) = x1 then ((laws_markText.f k (wrap64 (x1 + 1))).bind fun t187 => (if ((rd_T58 x0 x5).f1).toList = t187.toList then (if ((rd_T58 x0 x5).f2.f0) = (wrap64 ((wrap64 (x1 + 1)) + 1)) then (if ((rd_T58 x0 x5).f2.f1) = (wrap64 ((wrap64 ((wrap64 (x1 + 1)) + 1)) + 1)) then ((laws_markText.f k (wrap64 ((wrap64 ((wrap64 ((wrap64 (x1 + 1)) + 1)) + 1)) + 1))).bind fun t191 => (if ((rd_T58 x0 x5).f2.f2).toList = t191.toList then (laws_heldCellS.l0 k x0 (wrap64 ((wrap64 ((wrap64 ((wrap64 ((wrap64 (x1 + 1)) + 1)) + 1)) + 1)) + 1)) (wrap64 (x5 + 1))) else (some (-1)))) else (some (-1))) else (some (-1))) else (some (-1)))) else (some (-1))) else (none)) else (some x1)
def laws_heldCellS.f (k : Nat) (l0 : List (S58)) (a1 : Int) : Option (Int) := laws_heldCellS.l0 k l0 a1 0
theorem laws_heldCellS.mono_l : ∀ k, (∀ y0 y1 y2, LeO (laws_heldCellS.l0 k y0 y1 y2) (laws_heldCellS.l0 (k + 1) y0 y1 y2))
  | 0 => fun _ _ _ r h => by simp [laws_heldCellS.l0] at h
  | k + 1 => by
    have ih0 := laws_heldCellS.mono_l k
    · intro y0 y1 y2
      unfold laws_heldCellS.l0
      repeat' first
      | (with_reducible exact ih0 _ _ _)
      | (with_reducible exact laws_markText.mono _ _)
      | (with_reducible exact LeO.refl _)
      | (with_reducible exact LeO.none _)
      | (with_reducible refine LeO.ite ?_ ?_)
      | (with_reducible refine LeO.bind ?_ (fun _ => ?_))
      | exact ih0 _ _ _
      | exact laws_markText.mono _ _
      | exact LeO.none _
      | refine LeO.ite ?_ ?_
      | refine LeO.bind ?_ (fun _ => ?_)
theorem laws_heldCellS.mono : ∀ a0 a1 k, LeO (laws_heldCellS.f k a0 a1) (laws_heldCellS.f (k + 1) a0 a1) := by
  intro a0 a1 k
  have ih0 := laws_heldCellS.mono_l k
  unfold laws_heldCellS.f
  repeat' first
      | (with_reducible exact ih0 _ _ _)
      | (with_reducible exact laws_markText.mono _ _)
      | (with_reducible exact LeO.refl _)
      | (with_reducible exact LeO.none _)
      | (with_reducible refine LeO.ite ?_ ?_)
      | (with_reducible refine LeO.bind ?_ (fun _ => ?_))
      | exact ih0 _ _ _
      | exact laws_markText.mono _ _
      | exact LeO.none _
      | refine LeO.ite ?_ ?_
      | refine LeO.bind ?_ (fun _ => ?_)
noncomputable def laws_heldCellS.l0v (x0 : List (S58)) (x1 : Int) (x5 : Int) : Option (Int) := limOf (fun k => laws_heldCellS.l0 k x0 x1 x5)
theorem laws_heldCellS.l0_lim (x0 : List (S58)) (x1 : Int) (x5 : Int) : Lim (fun k => laws_heldCellS.l0 k x0 x1 x5) (laws_heldCellS.l0v x0 x1 x5) := Lim.of (fun k => laws_heldCellS.mono_l k x0 x1 x5)
noncomputable def laws_heldCellS.fv (l0 : List (S58)) (a1 : Int) : Option (Int) := limOf (fun k => laws_heldCellS.f k l0 a1)
theorem laws_heldCellS.f_lim (l0 : List (S58)) (a1 : Int) : Lim (fun k => laws_heldCellS.f k l0 a1) (laws_heldCellS.fv l0 a1) := Lim.of (fun k => laws_heldCellS.mono l0 a1 k)
set_option maxHeartbeats 4000000 in
theorem laws_heldCellS.l0v_eq (x0 : List (S58)) (x1 : Int) (x5 : Int) : laws_heldCellS.l0v x0 x1 x5 = (if x5 < (x0.length : Int) then (if 0 ≤ x5 then (if ((rd_T58 x0 x5).f0) = x1 then ((laws_markText.fv (wrap64 (x1 + 1))).bind fun t187 => (if ((rd_T58 x0 x5).f1).toList = t187.toList then (if ((rd_T58 x0 x5).f2.f0) = (wrap64 ((wrap64 (x1 + 1)) + 1)) then (if ((rd_T58 x0 x5).f2.f1) = (wrap64 ((wrap64 ((wrap64 (x1 + 1)) + 1)) + 1)) then ((laws_markText.fv (wrap64 ((wrap64 ((wrap64 ((wrap64 (x1 + 1)) + 1)) + 1)) + 1))).bind fun t191 => (if ((rd_T58 x0 x5).f2.f2).toList = t191.toList then (laws_heldCellS.l0v x0 (wrap64 ((wrap64 ((wrap64 ((wrap64 ((wrap64 (x1 + 1)) + 1)) + 1)) + 1)) + 1)) (wrap64 (x5 + 1))) else (some (-1)))) else (some (-1))) else (some (-1))) else (some (-1)))) else (some (-1))) else (none)) else (some x1)) := by
  refine Lim.succ (laws_heldCellS.l0_lim x0 x1 x5) ?_
  simp only [laws_heldCellS.l0]
  repeat' first
    | (with_reducible apply laws_heldCellS.l0_lim)
    | (with_reducible apply laws_markText.f_lim)
    | (with_reducible exact Lim.const _)
    | (with_reducible refine Lim.ite ?_ ?_)
    | (with_reducible refine Lim.bind ?_ (fun _ => ?_))
    | apply laws_heldCellS.l0_lim
    | apply laws_markText.f_lim
    | exact Lim.const _
    | refine Lim.ite ?_ ?_
    | refine Lim.bind ?_ (fun _ => ?_)
set_option maxHeartbeats 4000000 in
theorem laws_heldCellS.fv_eq (l0 : List (S58)) (a1 : Int) : laws_heldCellS.fv l0 a1 = (laws_heldCellS.l0v l0 a1 0) := by
  refine Lim.eq (laws_heldCellS.f_lim l0 a1) ?_
  simp only [laws_heldCellS.f]
  repeat' first
    | (with_reducible apply laws_heldCellS.l0_lim)
    | (with_reducible exact Lim.const _)
    | (with_reducible refine Lim.ite ?_ ?_)
    | (with_reducible refine Lim.bind ?_ (fun _ => ?_))
    | apply laws_heldCellS.l0_lim
    | exact Lim.const _
    | refine Lim.ite ?_ ?_
    | refine Lim.bind ?_ (fun _ => ?_)

/-! ### laws_heldState -/
def laws_heldState.f (k : Nat) (l0_0 : List (S46)) (l0_1 : List (S58)) (a0_2 : Int) (a0_3 : Int) (a1 : Int) : Option (Int) := (laws_heldValS.f k l0_0 a1).bind fun t193 => (if t193 < 0 then (some (-1)) else ((laws_heldCellS.f k l0_1 t193).bind fun t194 => (if t194 < 0 then (some (-1)) else (some t194))))
theorem laws_heldState.mono : ∀ a0 a1 a2 a3 a4 k, LeO (laws_heldState.f k a0 a1 a2 a3 a4) (laws_heldState.f (k + 1) a0 a1 a2 a3 a4) := by
  intro a0 a1 a2 a3 a4 k
  unfold laws_heldState.f
  repeat' first
      | (with_reducible exact laws_heldCellS.mono _ _ _)
      | (with_reducible exact laws_heldValS.mono _ _ _)
      | (with_reducible exact LeO.refl _)
      | (with_reducible exact LeO.none _)
      | (with_reducible refine LeO.ite ?_ ?_)
      | (with_reducible refine LeO.bind ?_ (fun _ => ?_))
      | exact laws_heldCellS.mono _ _ _
      | exact laws_heldValS.mono _ _ _
      | exact LeO.none _
      | refine LeO.ite ?_ ?_
      | refine LeO.bind ?_ (fun _ => ?_)
noncomputable def laws_heldState.fv (l0_0 : List (S46)) (l0_1 : List (S58)) (a0_2 : Int) (a0_3 : Int) (a1 : Int) : Option (Int) := limOf (fun k => laws_heldState.f k l0_0 l0_1 a0_2 a0_3 a1)
theorem laws_heldState.f_lim (l0_0 : List (S46)) (l0_1 : List (S58)) (a0_2 : Int) (a0_3 : Int) (a1 : Int) : Lim (fun k => laws_heldState.f k l0_0 l0_1 a0_2 a0_3 a1) (laws_heldState.fv l0_0 l0_1 a0_2 a0_3 a1) := Lim.of (fun k => laws_heldState.mono l0_0 l0_1 a0_2 a0_3 a1 k)
set_option maxHeartbeats 4000000 in
theorem laws_heldState.fv_eq (l0_0 : List (S46)) (l0_1 : List (S58)) (a0_2 : Int) (a0_3 : Int) (a1 : Int) : laws_heldState.fv l0_0 l0_1 a0_2 a0_3 a1 = ((laws_heldValS.fv l0_0 a1).bind fun t193 => (if t193 < 0 then (some (-1)) else ((laws_heldCellS.fv l0_1 t193).bind fun t194 => (if t194 < 0 then (some (-1)) else (some t194))))) := by
  refine Lim.eq (laws_heldState.f_lim l0_0 l0_1 a0_2 a0_3 a1) ?_
  simp only [laws_heldState.f]
  repeat' first
    | (with_reducible apply laws_heldCellS.f_lim)
    | (with_reducible apply laws_heldValS.f_lim)
    | (with_reducible exact Lim.const _)
    | (with_reducible refine Lim.ite ?_ ?_)
    | (with_reducible refine Lim.bind ?_ (fun _ => ?_))
    | apply laws_heldCellS.f_lim
    | apply laws_heldValS.f_lim
    | exact Lim.const _
    | refine Lim.ite ?_ ?_
    | refine Lim.bind ?_ (fun _ => ?_)

/-! ### spec_l11Copy -/
def spec_l11Copy.f (l0_0 : List (S46)) (l0_1 : List (S58)) (a0_2 : Int) (a0_3 : Int) : Option ((List (S46)) × (List (S58)) × Int × Int) := (some (([] : List (S46)) : List (S46))).bind fun y197 => (if y197.length + l0_0.length < 4398046511104 then ((some (([] : List (S58)) : List (S58))).bind fun y203 => (if y203.length + l0_1.length < 2513169434916 then (some ((y197 ++ l0_0), (y203 ++ l0_1), a0_2, a0_3)) else (none))) else (none))

/-! ### spec_l11At -/
def spec_l11At.l0 : Nat → Int → ByteArray → Int → List (S46) → List (S58) → Int → Int → Option (Int)
  | 0, _, _, _, _, _, _, _ => none
  | k + 1, x1, x2, x7, x210000, x210001, x210002, x210003 => if x7 < (x210001.length : Int) then (if 0 ≤ x7 then (if ((rd_T58 x210001 x7).f0) = x1 then (if ((rd_T58 x210001 x7).f1).toList = x2.toList then (some x7) else (spec_l11At.l0 k x1 x2 (wrap64 (x7 + 1)) x210000 x210001 x210002 x210003)) else (spec_l11At.l0 k x1 x2 (wrap64 (x7 + 1)) x210000 x210001 x210002 x210003)) else (none)) else (some (-1))
def spec_l11At.f (k : Nat) (l0_0 : List (S46)) (l0_1 : List (S58)) (a0_2 : Int) (a0_3 : Int) (a1 : Int) (a2 : ByteArray) : Option (Int) := spec_l11At.l0 k a1 a2 0 l0_0 l0_1 a0_2 a0_3
theorem spec_l11At.mono_l : ∀ k, (∀ y0 y1 y2 y3 y4 y5 y6, LeO (spec_l11At.l0 k y0 y1 y2 y3 y4 y5 y6) (spec_l11At.l0 (k + 1) y0 y1 y2 y3 y4 y5 y6))
  | 0 => fun _ _ _ _ _ _ _ r h => by simp [spec_l11At.l0] at h
  | k + 1 => by
    have ih0 := spec_l11At.mono_l k
    · intro y0 y1 y2 y3 y4 y5 y6
      unfold spec_l11At.l0
      repeat' first
      | (with_reducible exact ih0 _ _ _ _ _ _ _)
      | (with_reducible exact LeO.refl _)
      | (with_reducible exact LeO.none _)
      | (with_reducible refine LeO.ite ?_ ?_)
      | (with_reducible refine LeO.bind ?_ (fun _ => ?_))
      | exact ih0 _ _ _ _ _ _ _
      | exact LeO.none _
      | refine LeO.ite ?_ ?_
      | refine LeO.bind ?_ (fun _ => ?_)
theorem spec_l11At.mono : ∀ a0 a1 a2 a3 a4 a5 k, LeO (spec_l11At.f k a0 a1 a2 a3 a4 a5) (spec_l11At.f (k + 1) a0 a1 a2 a3 a4 a5) := by
  intro a0 a1 a2 a3 a4 a5 k
  have ih0 := spec_l11At.mono_l k
  unfold spec_l11At.f
  repeat' first
      | (with_reducible exact ih0 _ _ _ _ _ _ _)
      | (with_reducible exact LeO.refl _)
      | (with_reducible exact LeO.none _)
      | (with_reducible refine LeO.ite ?_ ?_)
      | (with_reducible refine LeO.bind ?_ (fun _ => ?_))
      | exact ih0 _ _ _ _ _ _ _
      | exact LeO.none _
      | refine LeO.ite ?_ ?_
      | refine LeO.bind ?_ (fun _ => ?_)
noncomputable def spec_l11At.l0v (x1 : Int) (x2 : ByteArray) (x7 : Int) (x210000 : List (S46)) (x210001 : List (S58)) (x210002 : Int) (x210003 : Int) : Option (Int) := limOf (fun k => spec_l11At.l0 k x1 x2 x7 x210000 x210001 x210002 x210003)
theorem spec_l11At.l0_lim (x1 : Int) (x2 : ByteArray) (x7 : Int) (x210000 : List (S46)) (x210001 : List (S58)) (x210002 : Int) (x210003 : Int) : Lim (fun k => spec_l11At.l0 k x1 x2 x7 x210000 x210001 x210002 x210003) (spec_l11At.l0v x1 x2 x7 x210000 x210001 x210002 x210003) := Lim.of (fun k => spec_l11At.mono_l k x1 x2 x7 x210000 x210001 x210002 x210003)
noncomputable def spec_l11At.fv (l0_0 : List (S46)) (l0_1 : List (S58)) (a0_2 : Int) (a0_3 : Int) (a1 : Int) (a2 : ByteArray) : Option (Int) := limOf (fun k => spec_l11At.f k l0_0 l0_1 a0_2 a0_3 a1 a2)
theorem spec_l11At.f_lim (l0_0 : List (S46)) (l0_1 : List (S58)) (a0_2 : Int) (a0_3 : Int) (a1 : Int) (a2 : ByteArray) : Lim (fun k => spec_l11At.f k l0_0 l0_1 a0_2 a0_3 a1 a2) (spec_l11At.fv l0_0 l0_1 a0_2 a0_3 a1 a2) := Lim.of (fun k => spec_l11At.mono l0_0 l0_1 a0_2 a0_3 a1 a2 k)
set_option maxHeartbeats 4000000 in
theorem spec_l11At.l0v_eq (x1 : Int) (x2 : ByteArray) (x7 : Int) (x210000 : List (S46)) (x210001 : List (S58)) (x210002 : Int) (x210003 : Int) : spec_l11At.l0v x1 x2 x7 x210000 x210001 x210002 x210003 = (if x7 < (x210001.length : Int) then (if 0 ≤ x7 then (if ((rd_T58 x210001 x7).f0) = x1 then (if ((rd_T58 x210001 x7).f1).toList = x2.toList then (some x7) else (spec_l11At.l0v x1 x2 (wrap64 (x7 + 1)) x210000 x210001 x210002 x210003)) else (spec_l11At.l0v x1 x2 (wrap64 (x7 + 1)) x210000 x210001 x210002 x210003)) else (none)) else (some (-1))) := by
  refine Lim.succ (spec_l11At.l0_lim x1 x2 x7 x210000 x210001 x210002 x210003) ?_
  simp only [spec_l11At.l0]
  repeat' first
    | (with_reducible apply spec_l11At.l0_lim)
    | (with_reducible exact Lim.const _)
    | (with_reducible refine Lim.ite ?_ ?_)
    | (with_reducible refine Lim.bind ?_ (fun _ => ?_))
    | apply spec_l11At.l0_lim
    | exact Lim.const _
    | refine Lim.ite ?_ ?_
    | refine Lim.bind ?_ (fun _ => ?_)
set_option maxHeartbeats 4000000 in
theorem spec_l11At.fv_eq (l0_0 : List (S46)) (l0_1 : List (S58)) (a0_2 : Int) (a0_3 : Int) (a1 : Int) (a2 : ByteArray) : spec_l11At.fv l0_0 l0_1 a0_2 a0_3 a1 a2 = (spec_l11At.l0v a1 a2 0 l0_0 l0_1 a0_2 a0_3) := by
  refine Lim.eq (spec_l11At.f_lim l0_0 l0_1 a0_2 a0_3 a1 a2) ?_
  simp only [spec_l11At.f]
  repeat' first
    | (with_reducible apply spec_l11At.l0_lim)
    | (with_reducible exact Lim.const _)
    | (with_reducible refine Lim.ite ?_ ?_)
    | (with_reducible refine Lim.bind ?_ (fun _ => ?_))
    | apply spec_l11At.l0_lim
    | exact Lim.const _
    | refine Lim.ite ?_ ?_
    | refine Lim.bind ?_ (fun _ => ?_)

/-! ### spec_l11Less -/
def spec_l11Less.f (a0_0 : Int) (a0_1 : ByteArray) (a0_2 : Int) (a0_3 : Int) (a0_4 : ByteArray) (a1 : Int) (a2 : ByteArray) : Option (Bool) := if a0_0 < a1 then (some true) else (if a0_0 = a1 then (some (Op.bytesLess a0_1.toList a2.toList)) else (some false))

/-! ### spec_CellPut -/
def spec_CellPut.l0 : Nat → Int → ByteArray → Int → List (S46) → List (S58) → Int → Int → Int → Int → ByteArray → List (S46) → List (S58) → Int → Int → Option ((List (S46)) × (List (S58)) × Int × Int × Bool)
  | 0, _, _, _, _, _, _, _, _, _, _, _, _, _, _ => none
  | k + 1, x1, x2, x11, x214000, x214001, x214002, x214003, x215000, x215001, x215002, x225000, x225001, x225002, x225003 => if x11 < (x214001.length : Int) then (if 0 ≤ x11 then ((spec_l11Less.f ((rd_T58 x214001 x11).f0) ((rd_T58 x214001 x11).f1) ((rd_T58 x214001 x11).f2.f0) ((rd_T58 x214001 x11).f2.f1) ((rd_T58 x214001 x11).f2.f2) x1 x2).bind fun t228 => (if t228 = true then (spec_CellPut.l0 k x1 x2 (wrap64 (x11 + 1)) x214000 x214001 x214002 x214003 x215000 x215001 x215002 x225000 x225001 x225002 x225003) else ((some (([] : List (S58)) : List (S58))).bind fun y229 => (if x11 ≤ (x214001.length : Int) then ((some (x214001.take (x11 : Int).toNat : List (S58))).bind fun y232 => (if y229.length + y232.length < 2513169434916 then ((some (y229 ++ y232 : List (S58))).bind fun y236 => (if y236.length < 2513169434916 then ((some (y236 ++ [(⟨x1, x2, (⟨x215000, x215001, x215002⟩ : S46)⟩ : S58)] : List (S58))).bind fun y239 => ((some (x214001.drop (x11 : Int).toNat : List (S58))).bind fun y242 => (if y239.length + y242.length < 2513169434916 then (some (x225000, (y239 ++ y242), x225002, x225003, true)) else (none)))) else (none))) else (none))) else (none))))) else (none)) else ((some (([] : List (S58)) : List (S58))).bind fun y249 => (if 0 ≤ x11 then (if x11 ≤ (x214001.length : Int) then ((some (x214001.take (x11 : Int).toNat : List (S58))).bind fun y252 => (if y249.length + y252.length < 2513169434916 then ((some (y249 ++ y252 : List (S58))).bind fun y256 => (if y256.length < 2513169434916 then ((some (y256 ++ [(⟨x1, x2, (⟨x215000, x215001, x215002⟩ : S46)⟩ : S58)] : List (S58))).bind fun y259 => ((some (x214001.drop (x11 : Int).toNat : List (S58))).bind fun y262 => (if y259.length + y262.length < 2513169434916 then (some (x225000, (y259 ++ y262), x225002, x225003, true)) else (none)))) else (none))) else (none))) else (none)) else (none)))
def spec_CellPut.f (k : Nat) (l0_0 : List (S46)) (l0_1 : List (S58)) (a0_2 : Int) (a0_3 : Int) (a1 : Int) (a2 : ByteArray) (a3_0 : Int) (a3_1 : Int) (a3_2 : ByteArray) : Option ((List (S46)) × (List (S58)) × Int × Int × Bool) := (spec_l11Copy.f l0_0 l0_1 a0_2 a0_3).bind fun bt216 => ((spec_l11At.f k l0_0 l0_1 a0_2 a0_3 a1 a2).bind fun t225 => (if t225 ≥ 0 then (if 0 ≤ t225 then (if t225 < (bt216.2.1.length : Int) then (some (bt216.1, (bt216.2.1.set (t225 : Int).toNat (⟨(rd_T58 bt216.2.1 t225).f0, (rd_T58 bt216.2.1 t225).f1, (⟨a3_0, a3_1, a3_2⟩ : S46)⟩ : S58)), bt216.2.2.1, bt216.2.2.2, true)) else (none)) else (none)) else (if (l0_1.length : Int) ≥ 40 then (some (bt216.1, bt216.2.1, bt216.2.2.1, bt216.2.2.2, false)) else (spec_CellPut.l0 k a1 a2 0 l0_0 l0_1 a0_2 a0_3 a3_0 a3_1 a3_2 bt216.1 bt216.2.1 bt216.2.2.1 bt216.2.2.2))))
theorem spec_CellPut.mono_l : ∀ k, (∀ y0 y1 y2 y3 y4 y5 y6 y7 y8 y9 y10 y11 y12 y13, LeO (spec_CellPut.l0 k y0 y1 y2 y3 y4 y5 y6 y7 y8 y9 y10 y11 y12 y13) (spec_CellPut.l0 (k + 1) y0 y1 y2 y3 y4 y5 y6 y7 y8 y9 y10 y11 y12 y13))
  | 0 => fun _ _ _ _ _ _ _ _ _ _ _ _ _ _ r h => by simp [spec_CellPut.l0] at h
  | k + 1 => by
    have ih0 := spec_CellPut.mono_l k
    · intro y0 y1 y2 y3 y4 y5 y6 y7 y8 y9 y10 y11 y12 y13
      unfold spec_CellPut.l0
      repeat' first
      | (with_reducible exact ih0 _ _ _ _ _ _ _ _ _ _ _ _ _ _)
      | (with_reducible exact spec_l11At.mono _ _ _ _ _ _ _)
      | (with_reducible exact LeO.refl _)
      | (with_reducible exact LeO.none _)
      | (with_reducible refine LeO.ite ?_ ?_)
      | (with_reducible refine LeO.bind ?_ (fun _ => ?_))
      | exact ih0 _ _ _ _ _ _ _ _ _ _ _ _ _ _
      | exact spec_l11At.mono _ _ _ _ _ _ _
      | exact LeO.none _
      | refine LeO.ite ?_ ?_
      | refine LeO.bind ?_ (fun _ => ?_)
theorem spec_CellPut.mono : ∀ a0 a1 a2 a3 a4 a5 a6 a7 a8 k, LeO (spec_CellPut.f k a0 a1 a2 a3 a4 a5 a6 a7 a8) (spec_CellPut.f (k + 1) a0 a1 a2 a3 a4 a5 a6 a7 a8) := by
  intro a0 a1 a2 a3 a4 a5 a6 a7 a8 k
  have ih0 := spec_CellPut.mono_l k
  unfold spec_CellPut.f
  repeat' first
      | (with_reducible exact ih0 _ _ _ _ _ _ _ _ _ _ _ _ _ _)
      | (with_reducible exact spec_l11At.mono _ _ _ _ _ _ _)
      | (with_reducible exact LeO.refl _)
      | (with_reducible exact LeO.none _)
      | (with_reducible refine LeO.ite ?_ ?_)
      | (with_reducible refine LeO.bind ?_ (fun _ => ?_))
      | exact ih0 _ _ _ _ _ _ _ _ _ _ _ _ _ _
      | exact spec_l11At.mono _ _ _ _ _ _ _
      | exact LeO.none _
      | refine LeO.ite ?_ ?_
      | refine LeO.bind ?_ (fun _ => ?_)
noncomputable def spec_CellPut.l0v (x1 : Int) (x2 : ByteArray) (x11 : Int) (x214000 : List (S46)) (x214001 : List (S58)) (x214002 : Int) (x214003 : Int) (x215000 : Int) (x215001 : Int) (x215002 : ByteArray) (x225000 : List (S46)) (x225001 : List (S58)) (x225002 : Int) (x225003 : Int) : Option ((List (S46)) × (List (S58)) × Int × Int × Bool) := limOf (fun k => spec_CellPut.l0 k x1 x2 x11 x214000 x214001 x214002 x214003 x215000 x215001 x215002 x225000 x225001 x225002 x225003)
theorem spec_CellPut.l0_lim (x1 : Int) (x2 : ByteArray) (x11 : Int) (x214000 : List (S46)) (x214001 : List (S58)) (x214002 : Int) (x214003 : Int) (x215000 : Int) (x215001 : Int) (x215002 : ByteArray) (x225000 : List (S46)) (x225001 : List (S58)) (x225002 : Int) (x225003 : Int) : Lim (fun k => spec_CellPut.l0 k x1 x2 x11 x214000 x214001 x214002 x214003 x215000 x215001 x215002 x225000 x225001 x225002 x225003) (spec_CellPut.l0v x1 x2 x11 x214000 x214001 x214002 x214003 x215000 x215001 x215002 x225000 x225001 x225002 x225003) := Lim.of (fun k => spec_CellPut.mono_l k x1 x2 x11 x214000 x214001 x214002 x214003 x215000 x215001 x215002 x225000 x225001 x225002 x225003)
noncomputable def spec_CellPut.fv (l0_0 : List (S46)) (l0_1 : List (S58)) (a0_2 : Int) (a0_3 : Int) (a1 : Int) (a2 : ByteArray) (a3_0 : Int) (a3_1 : Int) (a3_2 : ByteArray) : Option ((List (S46)) × (List (S58)) × Int × Int × Bool) := limOf (fun k => spec_CellPut.f k l0_0 l0_1 a0_2 a0_3 a1 a2 a3_0 a3_1 a3_2)
theorem spec_CellPut.f_lim (l0_0 : List (S46)) (l0_1 : List (S58)) (a0_2 : Int) (a0_3 : Int) (a1 : Int) (a2 : ByteArray) (a3_0 : Int) (a3_1 : Int) (a3_2 : ByteArray) : Lim (fun k => spec_CellPut.f k l0_0 l0_1 a0_2 a0_3 a1 a2 a3_0 a3_1 a3_2) (spec_CellPut.fv l0_0 l0_1 a0_2 a0_3 a1 a2 a3_0 a3_1 a3_2) := Lim.of (fun k => spec_CellPut.mono l0_0 l0_1 a0_2 a0_3 a1 a2 a3_0 a3_1 a3_2 k)
set_option maxHeartbeats 4000000 in
theorem spec_CellPut.l0v_eq (x1 : Int) (x2 : ByteArray) (x11 : Int) (x214000 : List (S46)) (x214001 : List (S58)) (x214002 : Int) (x214003 : Int) (x215000 : Int) (x215001 : Int) (x215002 : ByteArray) (x225000 : List (S46)) (x225001 : List (S58)) (x225002 : Int) (x225003 : Int) : spec_CellPut.l0v x1 x2 x11 x214000 x214001 x214002 x214003 x215000 x215001 x215002 x225000 x225001 x225002 x225003 = (if x11 < (x214001.length : Int) then (if 0 ≤ x11 then ((spec_l11Less.f ((rd_T58 x214001 x11).f0) ((rd_T58 x214001 x11).f1) ((rd_T58 x214001 x11).f2.f0) ((rd_T58 x214001 x11).f2.f1) ((rd_T58 x214001 x11).f2.f2) x1 x2).bind fun t228 => (if t228 = true then (spec_CellPut.l0v x1 x2 (wrap64 (x11 + 1)) x214000 x214001 x214002 x214003 x215000 x215001 x215002 x225000 x225001 x225002 x225003) else ((some (([] : List (S58)) : List (S58))).bind fun y229 => (if x11 ≤ (x214001.length : Int) then ((some (x214001.take (x11 : Int).toNat : List (S58))).bind fun y232 => (if y229.length + y232.length < 2513169434916 then ((some (y229 ++ y232 : List (S58))).bind fun y236 => (if y236.length < 2513169434916 then ((some (y236 ++ [(⟨x1, x2, (⟨x215000, x215001, x215002⟩ : S46)⟩ : S58)] : List (S58))).bind fun y239 => ((some (x214001.drop (x11 : Int).toNat : List (S58))).bind fun y242 => (if y239.length + y242.length < 2513169434916 then (some (x225000, (y239 ++ y242), x225002, x225003, true)) else (none)))) else (none))) else (none))) else (none))))) else (none)) else ((some (([] : List (S58)) : List (S58))).bind fun y249 => (if 0 ≤ x11 then (if x11 ≤ (x214001.length : Int) then ((some (x214001.take (x11 : Int).toNat : List (S58))).bind fun y252 => (if y249.length + y252.length < 2513169434916 then ((some (y249 ++ y252 : List (S58))).bind fun y256 => (if y256.length < 2513169434916 then ((some (y256 ++ [(⟨x1, x2, (⟨x215000, x215001, x215002⟩ : S46)⟩ : S58)] : List (S58))).bind fun y259 => ((some (x214001.drop (x11 : Int).toNat : List (S58))).bind fun y262 => (if y259.length + y262.length < 2513169434916 then (some (x225000, (y259 ++ y262), x225002, x225003, true)) else (none)))) else (none))) else (none))) else (none)) else (none)))) := by
  refine Lim.succ (spec_CellPut.l0_lim x1 x2 x11 x214000 x214001 x214002 x214003 x215000 x215001 x215002 x225000 x225001 x225002 x225003) ?_
  simp only [spec_CellPut.l0]
  repeat' first
    | (with_reducible apply spec_CellPut.l0_lim)
    | (with_reducible exact Lim.const _)
    | (with_reducible refine Lim.ite ?_ ?_)
    | (with_reducible refine Lim.bind ?_ (fun _ => ?_))
    | apply spec_CellPut.l0_lim
    | exact Lim.const _
    | refine Lim.ite ?_ ?_
    | refine Lim.bind ?_ (fun _ => ?_)
set_option maxHeartbeats 4000000 in
theorem spec_CellPut.fv_eq (l0_0 : List (S46)) (l0_1 : List (S58)) (a0_2 : Int) (a0_3 : Int) (a1 : Int) (a2 : ByteArray) (a3_0 : Int) (a3_1 : Int) (a3_2 : ByteArray) : spec_CellPut.fv l0_0 l0_1 a0_2 a0_3 a1 a2 a3_0 a3_1 a3_2 = ((spec_l11Copy.f l0_0 l0_1 a0_2 a0_3).bind fun bt216 => ((spec_l11At.fv l0_0 l0_1 a0_2 a0_3 a1 a2).bind fun t225 => (if t225 ≥ 0 then (if 0 ≤ t225 then (if t225 < (bt216.2.1.length : Int) then (some (bt216.1, (bt216.2.1.set (t225 : Int).toNat (⟨(rd_T58 bt216.2.1 t225).f0, (rd_T58 bt216.2.1 t225).f1, (⟨a3_0, a3_1, a3_2⟩ : S46)⟩ : S58)), bt216.2.2.1, bt216.2.2.2, true)) else (none)) else (none)) else (if (l0_1.length : Int) ≥ 40 then (some (bt216.1, bt216.2.1, bt216.2.2.1, bt216.2.2.2, false)) else (spec_CellPut.l0v a1 a2 0 l0_0 l0_1 a0_2 a0_3 a3_0 a3_1 a3_2 bt216.1 bt216.2.1 bt216.2.2.1 bt216.2.2.2))))) := by
  refine Lim.eq (spec_CellPut.f_lim l0_0 l0_1 a0_2 a0_3 a1 a2 a3_0 a3_1 a3_2) ?_
  simp only [spec_CellPut.f]
  repeat' first
    | (with_reducible apply spec_CellPut.l0_lim)
    | (with_reducible apply spec_l11At.f_lim)
    | (with_reducible exact Lim.const _)
    | (with_reducible refine Lim.ite ?_ ?_)
    | (with_reducible refine Lim.bind ?_ (fun _ => ?_))
    | apply spec_CellPut.l0_lim
    | apply spec_l11At.f_lim
    | exact Lim.const _
    | refine Lim.ite ?_ ?_
    | refine Lim.bind ?_ (fun _ => ?_)

/-! ### impl_Val -/
def impl_Val.f (l0 : List (S46)) : Option (List (S46)) := if l0.length ≤ 2000000 then some l0 else none

/-! ### impl_Cell_49 -/
def impl_Cell_49.f (l0 : List (S58)) : Option (List (S58)) := if l0.length ≤ 2000000 then some l0 else none

/-! ### impl_cloneState -/
def impl_cloneState.f (l0_0 : List (S46)) (l0_1 : List (S58)) (a0_2 : Int) (a0_3 : Int) : Option ((List (S46)) × (List (S58)) × Int × Int) := (impl_Val.f l0_0).bind fun t271 => ((impl_Cell_49.f l0_1).bind fun t274 => (some (t271, t274, a0_2, a0_3)))

/-! ### impl_cellAt_1 -/
def impl_cellAt_1.f (a0_0 : Int) (a0_1 : ByteArray) (a0_2 : Int) (a0_3 : Int) (a0_4 : ByteArray) (a1_0 : Int) (a2_0 : ByteArray) : Option (Bool) := if a0_0 = a1_0 then (some (a0_1.toList == a2_0.toList)) else (some false)

/-! ### impl_Cell_50 -/
def impl_Cell_50.l0 : Nat → List (S58) → Int → Int → Int → ByteArray → Option (Int)
  | 0, _, _, _, _, _ => none
  | k + 1, x0, x7, x8, x281000, x282000 => if x8 < x7 then (if 0 ≤ x8 then (if x8 < (x0.length : Int) then ((impl_cellAt_1.f ((rd_T58 x0 x8).f0) ((rd_T58 x0 x8).f1) ((rd_T58 x0 x8).f2.f0) ((rd_T58 x0 x8).f2.f1) ((rd_T58 x0 x8).f2.f2) x281000 x282000).bind fun t283 => (if t283 = true then (some x8) else (impl_Cell_50.l0 k x0 x7 (wrap64 (x8 + 1)) x281000 x282000))) else (none)) else (none)) else (some (-1))
def impl_Cell_50.f (k : Nat) (l0 : List (S58)) (a1q0_0 : Int) (a1q1_0 : ByteArray) : Option (Int) := impl_Cell_50.l0 k l0 (l0.length : Int) 0 a1q0_0 a1q1_0
theorem impl_Cell_50.mono_l : ∀ k, (∀ y0 y1 y2 y3 y4, LeO (impl_Cell_50.l0 k y0 y1 y2 y3 y4) (impl_Cell_50.l0 (k + 1) y0 y1 y2 y3 y4))
  | 0 => fun _ _ _ _ _ r h => by simp [impl_Cell_50.l0] at h
  | k + 1 => by
    have ih0 := impl_Cell_50.mono_l k
    · intro y0 y1 y2 y3 y4
      unfold impl_Cell_50.l0
      repeat' first
      | (with_reducible exact ih0 _ _ _ _ _)
      | (with_reducible exact LeO.refl _)
      | (with_reducible exact LeO.none _)
      | (with_reducible refine LeO.ite ?_ ?_)
      | (with_reducible refine LeO.bind ?_ (fun _ => ?_))
      | exact ih0 _ _ _ _ _
      | exact LeO.none _
      | refine LeO.ite ?_ ?_
      | refine LeO.bind ?_ (fun _ => ?_)
theorem impl_Cell_50.mono : ∀ a0 a1 a2 k, LeO (impl_Cell_50.f k a0 a1 a2) (impl_Cell_50.f (k + 1) a0 a1 a2) := by
  intro a0 a1 a2 k
  have ih0 := impl_Cell_50.mono_l k
  unfold impl_Cell_50.f
  repeat' first
      | (with_reducible exact ih0 _ _ _ _ _)
      | (with_reducible exact LeO.refl _)
      | (with_reducible exact LeO.none _)
      | (with_reducible refine LeO.ite ?_ ?_)
      | (with_reducible refine LeO.bind ?_ (fun _ => ?_))
      | exact ih0 _ _ _ _ _
      | exact LeO.none _
      | refine LeO.ite ?_ ?_
      | refine LeO.bind ?_ (fun _ => ?_)
noncomputable def impl_Cell_50.l0v (x0 : List (S58)) (x7 : Int) (x8 : Int) (x281000 : Int) (x282000 : ByteArray) : Option (Int) := limOf (fun k => impl_Cell_50.l0 k x0 x7 x8 x281000 x282000)
theorem impl_Cell_50.l0_lim (x0 : List (S58)) (x7 : Int) (x8 : Int) (x281000 : Int) (x282000 : ByteArray) : Lim (fun k => impl_Cell_50.l0 k x0 x7 x8 x281000 x282000) (impl_Cell_50.l0v x0 x7 x8 x281000 x282000) := Lim.of (fun k => impl_Cell_50.mono_l k x0 x7 x8 x281000 x282000)
noncomputable def impl_Cell_50.fv (l0 : List (S58)) (a1q0_0 : Int) (a1q1_0 : ByteArray) : Option (Int) := limOf (fun k => impl_Cell_50.f k l0 a1q0_0 a1q1_0)
theorem impl_Cell_50.f_lim (l0 : List (S58)) (a1q0_0 : Int) (a1q1_0 : ByteArray) : Lim (fun k => impl_Cell_50.f k l0 a1q0_0 a1q1_0) (impl_Cell_50.fv l0 a1q0_0 a1q1_0) := Lim.of (fun k => impl_Cell_50.mono l0 a1q0_0 a1q1_0 k)
set_option maxHeartbeats 4000000 in
theorem impl_Cell_50.l0v_eq (x0 : List (S58)) (x7 : Int) (x8 : Int) (x281000 : Int) (x282000 : ByteArray) : impl_Cell_50.l0v x0 x7 x8 x281000 x282000 = (if x8 < x7 then (if 0 ≤ x8 then (if x8 < (x0.length : Int) then ((impl_cellAt_1.f ((rd_T58 x0 x8).f0) ((rd_T58 x0 x8).f1) ((rd_T58 x0 x8).f2.f0) ((rd_T58 x0 x8).f2.f1) ((rd_T58 x0 x8).f2.f2) x281000 x282000).bind fun t283 => (if t283 = true then (some x8) else (impl_Cell_50.l0v x0 x7 (wrap64 (x8 + 1)) x281000 x282000))) else (none)) else (none)) else (some (-1))) := by
  refine Lim.succ (impl_Cell_50.l0_lim x0 x7 x8 x281000 x282000) ?_
  simp only [impl_Cell_50.l0]
  repeat' first
    | (with_reducible apply impl_Cell_50.l0_lim)
    | (with_reducible exact Lim.const _)
    | (with_reducible refine Lim.ite ?_ ?_)
    | (with_reducible refine Lim.bind ?_ (fun _ => ?_))
    | apply impl_Cell_50.l0_lim
    | exact Lim.const _
    | refine Lim.ite ?_ ?_
    | refine Lim.bind ?_ (fun _ => ?_)
set_option maxHeartbeats 4000000 in
theorem impl_Cell_50.fv_eq (l0 : List (S58)) (a1q0_0 : Int) (a1q1_0 : ByteArray) : impl_Cell_50.fv l0 a1q0_0 a1q1_0 = (impl_Cell_50.l0v l0 (l0.length : Int) 0 a1q0_0 a1q1_0) := by
  refine Lim.eq (impl_Cell_50.f_lim l0 a1q0_0 a1q1_0) ?_
  simp only [impl_Cell_50.f]
  repeat' first
    | (with_reducible apply impl_Cell_50.l0_lim)
    | (with_reducible exact Lim.const _)
    | (with_reducible refine Lim.ite ?_ ?_)
    | (with_reducible refine Lim.bind ?_ (fun _ => ?_))
    | apply impl_Cell_50.l0_lim
    | exact Lim.const _
    | refine Lim.ite ?_ ?_
    | refine Lim.bind ?_ (fun _ => ?_)

/-! ### impl_cellAt -/
def impl_cellAt.f (k : Nat) (l0_0 : List (S46)) (l0_1 : List (S58)) (a0_2 : Int) (a0_3 : Int) (a1 : Int) (a2 : ByteArray) : Option (Int) := (impl_Cell_50.f k l0_1 a1 a2).bind fun t287 => (some t287)
theorem impl_cellAt.mono : ∀ a0 a1 a2 a3 a4 a5 k, LeO (impl_cellAt.f k a0 a1 a2 a3 a4 a5) (impl_cellAt.f (k + 1) a0 a1 a2 a3 a4 a5) := by
  intro a0 a1 a2 a3 a4 a5 k
  unfold impl_cellAt.f
  repeat' first
      | (with_reducible exact impl_Cell_50.mono _ _ _ _)
      | (with_reducible exact LeO.refl _)
      | (with_reducible exact LeO.none _)
      | (with_reducible refine LeO.ite ?_ ?_)
      | (with_reducible refine LeO.bind ?_ (fun _ => ?_))
      | exact impl_Cell_50.mono _ _ _ _
      | exact LeO.none _
      | refine LeO.ite ?_ ?_
      | refine LeO.bind ?_ (fun _ => ?_)
noncomputable def impl_cellAt.fv (l0_0 : List (S46)) (l0_1 : List (S58)) (a0_2 : Int) (a0_3 : Int) (a1 : Int) (a2 : ByteArray) : Option (Int) := limOf (fun k => impl_cellAt.f k l0_0 l0_1 a0_2 a0_3 a1 a2)
theorem impl_cellAt.f_lim (l0_0 : List (S46)) (l0_1 : List (S58)) (a0_2 : Int) (a0_3 : Int) (a1 : Int) (a2 : ByteArray) : Lim (fun k => impl_cellAt.f k l0_0 l0_1 a0_2 a0_3 a1 a2) (impl_cellAt.fv l0_0 l0_1 a0_2 a0_3 a1 a2) := Lim.of (fun k => impl_cellAt.mono l0_0 l0_1 a0_2 a0_3 a1 a2 k)
set_option maxHeartbeats 4000000 in
theorem impl_cellAt.fv_eq (l0_0 : List (S46)) (l0_1 : List (S58)) (a0_2 : Int) (a0_3 : Int) (a1 : Int) (a2 : ByteArray) : impl_cellAt.fv l0_0 l0_1 a0_2 a0_3 a1 a2 = ((impl_Cell_50.fv l0_1 a1 a2).bind fun t287 => (some t287)) := by
  refine Lim.eq (impl_cellAt.f_lim l0_0 l0_1 a0_2 a0_3 a1 a2) ?_
  simp only [impl_cellAt.f]
  repeat' first
    | (with_reducible apply impl_Cell_50.f_lim)
    | (with_reducible exact Lim.const _)
    | (with_reducible refine Lim.ite ?_ ?_)
    | (with_reducible refine Lim.bind ?_ (fun _ => ?_))
    | apply impl_Cell_50.f_lim
    | exact Lim.const _
    | refine Lim.ite ?_ ?_
    | refine Lim.bind ?_ (fun _ => ?_)

/-! ### strings_Compare -/
def strings_Compare.f (a0 : ByteArray) (a1 : ByteArray) : Option (Int) := some (Lib.compareBytes a0.data.toList a1.data.toList)

/-! ### impl_cellBefore -/
def impl_cellBefore.f (a0_0 : Int) (a0_1 : ByteArray) (a0_2 : Int) (a0_3 : Int) (a0_4 : ByteArray) (a1_0 : Int) (a1_1 : ByteArray) (a1_2 : Int) (a1_3 : Int) (a1_4 : ByteArray) : Option (Int) := if a0_0 < a1_0 then (some (-1)) else (if a0_0 > a1_0 then (some 1) else ((strings_Compare.f a0_1 a1_1).bind fun t290 => (some t290)))

/-! ### impl_CellPut_1 -/
def impl_CellPut_1.f (a0_0 : Int) (a0_1 : ByteArray) (a0_2 : Int) (a0_3 : Int) (a0_4 : ByteArray) (a1_0 : Int) (a1_1 : ByteArray) (a1_2 : Int) (a1_3 : Int) (a1_4 : ByteArray) : Option (Bool) := (impl_cellBefore.f a0_0 a0_1 a0_2 a0_3 a0_4 a1_0 a1_1 a1_2 a1_3 a1_4).bind fun t293 => (some (decide (t293 > 0)))

/-! ### impl_Cell_43 -/
def impl_Cell_43.f (l0 : List (S58)) (a1 : Int) (l2 : List (S58)) : Option (List (S58)) := if 0 ≤ a1 ∧ a1 ≤ (l0.length : Int) ∧ l2.length = 1 ∧ l0.length ≤ 2000000 then some (l0.take a1.toNat ++ l2 ++ l0.drop a1.toNat) else none

/-! ### impl_Cell_41 -/
def impl_Cell_41.l0 : Nat → List (S58) → Int → Int → Int → ByteArray → Int → Int → ByteArray → Option (Int)
  | 0, _, _, _, _, _, _, _, _ => none
  | k + 1, x0, x7, x8, x295000, x295001, x295002, x295003, x295004 => if x8 < x7 then (if 0 ≤ x8 then (if x8 < (x0.length : Int) then ((impl_CellPut_1.f ((rd_T58 x0 x8).f0) ((rd_T58 x0 x8).f1) ((rd_T58 x0 x8).f2.f0) ((rd_T58 x0 x8).f2.f1) ((rd_T58 x0 x8).f2.f2) x295000 x295001 x295002 x295003 x295004).bind fun t296 => (if t296 = true then (some x8) else (impl_Cell_41.l0 k x0 x7 (wrap64 (x8 + 1)) x295000 x295001 x295002 x295003 x295004))) else (none)) else (none)) else (some (-1))
def impl_Cell_41.f (k : Nat) (l0 : List (S58)) (a1q0_0 : Int) (a1q0_1 : ByteArray) (a1q0_2 : Int) (a1q0_3 : Int) (a1q0_4 : ByteArray) : Option (Int) := impl_Cell_41.l0 k l0 (l0.length : Int) 0 a1q0_0 a1q0_1 a1q0_2 a1q0_3 a1q0_4
theorem impl_Cell_41.mono_l : ∀ k, (∀ y0 y1 y2 y3 y4 y5 y6 y7, LeO (impl_Cell_41.l0 k y0 y1 y2 y3 y4 y5 y6 y7) (impl_Cell_41.l0 (k + 1) y0 y1 y2 y3 y4 y5 y6 y7))
  | 0 => fun _ _ _ _ _ _ _ _ r h => by simp [impl_Cell_41.l0] at h
  | k + 1 => by
    have ih0 := impl_Cell_41.mono_l k
    · intro y0 y1 y2 y3 y4 y5 y6 y7
      unfold impl_Cell_41.l0
      repeat' first
      | (with_reducible exact ih0 _ _ _ _ _ _ _ _)
      | (with_reducible exact LeO.refl _)
      | (with_reducible exact LeO.none _)
      | (with_reducible refine LeO.ite ?_ ?_)
      | (with_reducible refine LeO.bind ?_ (fun _ => ?_))
      | exact ih0 _ _ _ _ _ _ _ _
      | exact LeO.none _
      | refine LeO.ite ?_ ?_
      | refine LeO.bind ?_ (fun _ => ?_)
theorem impl_Cell_41.mono : ∀ a0 a1 a2 a3 a4 a5 k, LeO (impl_Cell_41.f k a0 a1 a2 a3 a4 a5) (impl_Cell_41.f (k + 1) a0 a1 a2 a3 a4 a5) := by
  intro a0 a1 a2 a3 a4 a5 k
  have ih0 := impl_Cell_41.mono_l k
  unfold impl_Cell_41.f
  repeat' first
      | (with_reducible exact ih0 _ _ _ _ _ _ _ _)
      | (with_reducible exact LeO.refl _)
      | (with_reducible exact LeO.none _)
      | (with_reducible refine LeO.ite ?_ ?_)
      | (with_reducible refine LeO.bind ?_ (fun _ => ?_))
      | exact ih0 _ _ _ _ _ _ _ _
      | exact LeO.none _
      | refine LeO.ite ?_ ?_
      | refine LeO.bind ?_ (fun _ => ?_)
noncomputable def impl_Cell_41.l0v (x0 : List (S58)) (x7 : Int) (x8 : Int) (x295000 : Int) (x295001 : ByteArray) (x295002 : Int) (x295003 : Int) (x295004 : ByteArray) : Option (Int) := limOf (fun k => impl_Cell_41.l0 k x0 x7 x8 x295000 x295001 x295002 x295003 x295004)
theorem impl_Cell_41.l0_lim (x0 : List (S58)) (x7 : Int) (x8 : Int) (x295000 : Int) (x295001 : ByteArray) (x295002 : Int) (x295003 : Int) (x295004 : ByteArray) : Lim (fun k => impl_Cell_41.l0 k x0 x7 x8 x295000 x295001 x295002 x295003 x295004) (impl_Cell_41.l0v x0 x7 x8 x295000 x295001 x295002 x295003 x295004) := Lim.of (fun k => impl_Cell_41.mono_l k x0 x7 x8 x295000 x295001 x295002 x295003 x295004)
noncomputable def impl_Cell_41.fv (l0 : List (S58)) (a1q0_0 : Int) (a1q0_1 : ByteArray) (a1q0_2 : Int) (a1q0_3 : Int) (a1q0_4 : ByteArray) : Option (Int) := limOf (fun k => impl_Cell_41.f k l0 a1q0_0 a1q0_1 a1q0_2 a1q0_3 a1q0_4)
theorem impl_Cell_41.f_lim (l0 : List (S58)) (a1q0_0 : Int) (a1q0_1 : ByteArray) (a1q0_2 : Int) (a1q0_3 : Int) (a1q0_4 : ByteArray) : Lim (fun k => impl_Cell_41.f k l0 a1q0_0 a1q0_1 a1q0_2 a1q0_3 a1q0_4) (impl_Cell_41.fv l0 a1q0_0 a1q0_1 a1q0_2 a1q0_3 a1q0_4) := Lim.of (fun k => impl_Cell_41.mono l0 a1q0_0 a1q0_1 a1q0_2 a1q0_3 a1q0_4 k)
set_option maxHeartbeats 4000000 in
theorem impl_Cell_41.l0v_eq (x0 : List (S58)) (x7 : Int) (x8 : Int) (x295000 : Int) (x295001 : ByteArray) (x295002 : Int) (x295003 : Int) (x295004 : ByteArray) : impl_Cell_41.l0v x0 x7 x8 x295000 x295001 x295002 x295003 x295004 = (if x8 < x7 then (if 0 ≤ x8 then (if x8 < (x0.length : Int) then ((impl_CellPut_1.f ((rd_T58 x0 x8).f0) ((rd_T58 x0 x8).f1) ((rd_T58 x0 x8).f2.f0) ((rd_T58 x0 x8).f2.f1) ((rd_T58 x0 x8).f2.f2) x295000 x295001 x295002 x295003 x295004).bind fun t296 => (if t296 = true then (some x8) else (impl_Cell_41.l0v x0 x7 (wrap64 (x8 + 1)) x295000 x295001 x295002 x295003 x295004))) else (none)) else (none)) else (some (-1))) := by
  refine Lim.succ (impl_Cell_41.l0_lim x0 x7 x8 x295000 x295001 x295002 x295003 x295004) ?_
  simp only [impl_Cell_41.l0]
  repeat' first
    | (with_reducible apply impl_Cell_41.l0_lim)
    | (with_reducible exact Lim.const _)
    | (with_reducible refine Lim.ite ?_ ?_)
    | (with_reducible refine Lim.bind ?_ (fun _ => ?_))
    | apply impl_Cell_41.l0_lim
    | exact Lim.const _
    | refine Lim.ite ?_ ?_
    | refine Lim.bind ?_ (fun _ => ?_)
set_option maxHeartbeats 4000000 in
theorem impl_Cell_41.fv_eq (l0 : List (S58)) (a1q0_0 : Int) (a1q0_1 : ByteArray) (a1q0_2 : Int) (a1q0_3 : Int) (a1q0_4 : ByteArray) : impl_Cell_41.fv l0 a1q0_0 a1q0_1 a1q0_2 a1q0_3 a1q0_4 = (impl_Cell_41.l0v l0 (l0.length : Int) 0 a1q0_0 a1q0_1 a1q0_2 a1q0_3 a1q0_4) := by
  refine Lim.eq (impl_Cell_41.f_lim l0 a1q0_0 a1q0_1 a1q0_2 a1q0_3 a1q0_4) ?_
  simp only [impl_Cell_41.f]
  repeat' first
    | (with_reducible apply impl_Cell_41.l0_lim)
    | (with_reducible exact Lim.const _)
    | (with_reducible refine Lim.ite ?_ ?_)
    | (with_reducible refine Lim.bind ?_ (fun _ => ?_))
    | apply impl_Cell_41.l0_lim
    | exact Lim.const _
    | refine Lim.ite ?_ ?_
    | refine Lim.bind ?_ (fun _ => ?_)

/-! ### impl_CellPut -/
def impl_CellPut.f (k : Nat) (l0_0 : List (S46)) (l0_1 : List (S58)) (a0_2 : Int) (a0_3 : Int) (a1 : Int) (a2 : ByteArray) (a3_0 : Int) (a3_1 : Int) (a3_2 : ByteArray) : Option ((List (S46)) × (List (S58)) × Int × Int × Bool) := (impl_cloneState.f l0_0 l0_1 a0_2 a0_3).bind fun bt300 => ((impl_cellAt.f k l0_0 l0_1 a0_2 a0_3 a1 a2).bind fun t309 => (if t309 ≥ 0 then (if 0 ≤ t309 then (if t309 < (bt300.2.1.length : Int) then (some (bt300.1, (bt300.2.1.set (t309 : Int).toNat (⟨(rd_T58 bt300.2.1 t309).f0, (rd_T58 bt300.2.1 t309).f1, (⟨a3_0, a3_1, a3_2⟩ : S46)⟩ : S58)), bt300.2.2.1, bt300.2.2.2, true)) else (none)) else (none)) else (if (l0_1.length : Int) ≥ 40 then (some (bt300.1, bt300.2.1, bt300.2.2.1, bt300.2.2.2, false)) else ((impl_Cell_41.f k l0_1 a1 a2 a3_0 a3_1 a3_2).bind fun t312 => (if t312 < 0 then ((impl_Cell_43.f bt300.2.1 (l0_1.length : Int) (([(⟨a1, a2, (⟨a3_0, a3_1, a3_2⟩ : S46)⟩ : S58)] : List (S58)))).bind fun t316 => (some (bt300.1, t316, bt300.2.2.1, bt300.2.2.2, true))) else ((impl_Cell_43.f bt300.2.1 t312 (([(⟨a1, a2, (⟨a3_0, a3_1, a3_2⟩ : S46)⟩ : S58)] : List (S58)))).bind fun t322 => (some (bt300.1, t322, bt300.2.2.1, bt300.2.2.2, true))))))))
theorem impl_CellPut.mono : ∀ a0 a1 a2 a3 a4 a5 a6 a7 a8 k, LeO (impl_CellPut.f k a0 a1 a2 a3 a4 a5 a6 a7 a8) (impl_CellPut.f (k + 1) a0 a1 a2 a3 a4 a5 a6 a7 a8) := by
  intro a0 a1 a2 a3 a4 a5 a6 a7 a8 k
  unfold impl_CellPut.f
  repeat' first
      | (with_reducible exact impl_Cell_41.mono _ _ _ _ _ _ _)
      | (with_reducible exact impl_cellAt.mono _ _ _ _ _ _ _)
      | (with_reducible exact LeO.refl _)
      | (with_reducible exact LeO.none _)
      | (with_reducible refine LeO.ite ?_ ?_)
      | (with_reducible refine LeO.bind ?_ (fun _ => ?_))
      | exact impl_Cell_41.mono _ _ _ _ _ _ _
      | exact impl_cellAt.mono _ _ _ _ _ _ _
      | exact LeO.none _
      | refine LeO.ite ?_ ?_
      | refine LeO.bind ?_ (fun _ => ?_)
noncomputable def impl_CellPut.fv (l0_0 : List (S46)) (l0_1 : List (S58)) (a0_2 : Int) (a0_3 : Int) (a1 : Int) (a2 : ByteArray) (a3_0 : Int) (a3_1 : Int) (a3_2 : ByteArray) : Option ((List (S46)) × (List (S58)) × Int × Int × Bool) := limOf (fun k => impl_CellPut.f k l0_0 l0_1 a0_2 a0_3 a1 a2 a3_0 a3_1 a3_2)
theorem impl_CellPut.f_lim (l0_0 : List (S46)) (l0_1 : List (S58)) (a0_2 : Int) (a0_3 : Int) (a1 : Int) (a2 : ByteArray) (a3_0 : Int) (a3_1 : Int) (a3_2 : ByteArray) : Lim (fun k => impl_CellPut.f k l0_0 l0_1 a0_2 a0_3 a1 a2 a3_0 a3_1 a3_2) (impl_CellPut.fv l0_0 l0_1 a0_2 a0_3 a1 a2 a3_0 a3_1 a3_2) := Lim.of (fun k => impl_CellPut.mono l0_0 l0_1 a0_2 a0_3 a1 a2 a3_0 a3_1 a3_2 k)
set_option maxHeartbeats 4000000 in
theorem impl_CellPut.fv_eq (l0_0 : List (S46)) (l0_1 : List (S58)) (a0_2 : Int) (a0_3 : Int) (a1 : Int) (a2 : ByteArray) (a3_0 : Int) (a3_1 : Int) (a3_2 : ByteArray) : impl_CellPut.fv l0_0 l0_1 a0_2 a0_3 a1 a2 a3_0 a3_1 a3_2 = ((impl_cloneState.f l0_0 l0_1 a0_2 a0_3).bind fun bt300 => ((impl_cellAt.fv l0_0 l0_1 a0_2 a0_3 a1 a2).bind fun t309 => (if t309 ≥ 0 then (if 0 ≤ t309 then (if t309 < (bt300.2.1.length : Int) then (some (bt300.1, (bt300.2.1.set (t309 : Int).toNat (⟨(rd_T58 bt300.2.1 t309).f0, (rd_T58 bt300.2.1 t309).f1, (⟨a3_0, a3_1, a3_2⟩ : S46)⟩ : S58)), bt300.2.2.1, bt300.2.2.2, true)) else (none)) else (none)) else (if (l0_1.length : Int) ≥ 40 then (some (bt300.1, bt300.2.1, bt300.2.2.1, bt300.2.2.2, false)) else ((impl_Cell_41.fv l0_1 a1 a2 a3_0 a3_1 a3_2).bind fun t312 => (if t312 < 0 then ((impl_Cell_43.f bt300.2.1 (l0_1.length : Int) (([(⟨a1, a2, (⟨a3_0, a3_1, a3_2⟩ : S46)⟩ : S58)] : List (S58)))).bind fun t316 => (some (bt300.1, t316, bt300.2.2.1, bt300.2.2.2, true))) else ((impl_Cell_43.f bt300.2.1 t312 (([(⟨a1, a2, (⟨a3_0, a3_1, a3_2⟩ : S46)⟩ : S58)] : List (S58)))).bind fun t322 => (some (bt300.1, t322, bt300.2.2.1, bt300.2.2.2, true))))))))) := by
  refine Lim.eq (impl_CellPut.f_lim l0_0 l0_1 a0_2 a0_3 a1 a2 a3_0 a3_1 a3_2) ?_
  simp only [impl_CellPut.f]
  repeat' first
    | (with_reducible apply impl_Cell_41.f_lim)
    | (with_reducible apply impl_cellAt.f_lim)
    | (with_reducible exact Lim.const _)
    | (with_reducible refine Lim.ite ?_ ?_)
    | (with_reducible refine Lim.bind ?_ (fun _ => ?_))
    | apply impl_Cell_41.f_lim
    | apply impl_cellAt.f_lim
    | exact Lim.const _
    | refine Lim.ite ?_ ?_
    | refine Lim.bind ?_ (fun _ => ?_)

end Go.Proofs.Ytehefologhfdhaa.QFnExactCellPut
