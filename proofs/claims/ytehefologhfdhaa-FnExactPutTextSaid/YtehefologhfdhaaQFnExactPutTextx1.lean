/- Written by wip/pr2, a program of this session. -/
import Derived.Test.YtehefologhfdhaaQFnExactPutTextx0
import Derived.Test.YtehefologhfdhaaLim
namespace Go.Proofs.Ytehefologhfdhaa.QFnExactPutText
open Go.RowKit Go.Proofs.YtehefologhfdhaaW.PrintWords Go.Proofs.YtehefologhfdhaaW.PrintLast Go.Proofs.YtehefologhfdhaaW.PrintMore
attribute [local go_sem] max2_int min2_int max_two min_two max_three min_three max_four min_four   -- for this text's walks alone
set_option linter.unusedVariables false
set_option linter.unusedSimpArgs false
set_option maxHeartbeats 8000000

open Go.Proofs.YtehefologhfdhaaW.Lims
/-! ### spec_l1In -/
def spec_l1In.f (a0 : Int) (a1 : Int) (a2 : Int) : Option (Bool) := if a0 ≥ a1 then (some (decide (a0 ≤ a2))) else (some false)

/-! ### spec_PutNum -/
def spec_PutNum.l0 : Nat → Int → List Int → Option (List Int)
  | 0, _, _ => none
  | k + 1, x0, x3 => if x0 > 127 then (if x3.length < 140737488355328 then (spec_PutNum.l0 k (wrap64 (Int.tdiv x0 128)) (x3 ++ [(wrap64 ((Int.tmod x0 128) + 128)) % 256])) else (none)) else (if x3.length < 140737488355328 then (some (x3 ++ [(x0) % 256])) else (none))
def spec_PutNum.f (k : Nat) (a0 : Int) : Option (List Int) := (some (([] : List Int) : List Int)).bind fun y101 => ((spec_l1In.f a0 0 4611686018427387903).bind fun t104 => (if t104 = true then (spec_PutNum.l0 k a0 y101) else (some y101)))
theorem spec_PutNum.mono_l : ∀ k, (∀ y0 y1, LeO (spec_PutNum.l0 k y0 y1) (spec_PutNum.l0 (k + 1) y0 y1))
  | 0 => fun _ _ r h => by simp [spec_PutNum.l0] at h
  | k + 1 => by
    have ih0 := spec_PutNum.mono_l k
    · intro y0 y1
      unfold spec_PutNum.l0
      repeat' first
      | (with_reducible exact ih0 _ _)
      | (with_reducible exact LeO.refl _)
      | (with_reducible exact LeO.none _)
      | (with_reducible refine LeO.ite ?_ ?_)
      | (with_reducible refine LeO.bind ?_ (fun _ => ?_))
      | exact ih0 _ _
      | exact LeO.none _
      | refine LeO.ite ?_ ?_
      | refine LeO.bind ?_ (fun _ => ?_)
theorem spec_PutNum.mono : ∀ a0 k, LeO (spec_PutNum.f k a0) (spec_PutNum.f (k + 1) a0) := by
  intro a0 k
  have ih0 := spec_PutNum.mono_l k
  unfold spec_PutNum.f
  repeat' first
      | (with_reducible exact ih0 _ _)
      | (with_reducible exact LeO.refl _)
      | (with_reducible exact LeO.none _)
      | (with_reducible refine LeO.ite ?_ ?_)
      | (with_reducible refine LeO.bind ?_ (fun _ => ?_))
      | exact ih0 _ _
      | exact LeO.none _
      | refine LeO.ite ?_ ?_
      | refine LeO.bind ?_ (fun _ => ?_)
noncomputable def spec_PutNum.l0v (x0 : Int) (x3 : List Int) : Option (List Int) := limOf (fun k => spec_PutNum.l0 k x0 x3)
theorem spec_PutNum.l0_lim (x0 : Int) (x3 : List Int) : Lim (fun k => spec_PutNum.l0 k x0 x3) (spec_PutNum.l0v x0 x3) := Lim.of (fun k => spec_PutNum.mono_l k x0 x3)
noncomputable def spec_PutNum.fv (a0 : Int) : Option (List Int) := limOf (fun k => spec_PutNum.f k a0)
theorem spec_PutNum.f_lim (a0 : Int) : Lim (fun k => spec_PutNum.f k a0) (spec_PutNum.fv a0) := Lim.of (fun k => spec_PutNum.mono a0 k)
set_option maxHeartbeats 4000000 in
theorem spec_PutNum.l0v_eq (x0 : Int) (x3 : List Int) : spec_PutNum.l0v x0 x3 = (if x0 > 127 then (if x3.length < 140737488355328 then (spec_PutNum.l0v (wrap64 (Int.tdiv x0 128)) (x3 ++ [(wrap64 ((Int.tmod x0 128) + 128)) % 256])) else (none)) else (if x3.length < 140737488355328 then (some (x3 ++ [(x0) % 256])) else (none))) := by
  refine Lim.succ (spec_PutNum.l0_lim x0 x3) ?_
  simp only [spec_PutNum.l0]
  repeat' first
    | (with_reducible apply spec_PutNum.l0_lim)
    | (with_reducible exact Lim.const _)
    | (with_reducible refine Lim.ite ?_ ?_)
    | (with_reducible refine Lim.bind ?_ (fun _ => ?_))
    | apply spec_PutNum.l0_lim
    | exact Lim.const _
    | refine Lim.ite ?_ ?_
    | refine Lim.bind ?_ (fun _ => ?_)
set_option maxHeartbeats 4000000 in
theorem spec_PutNum.fv_eq (a0 : Int) : spec_PutNum.fv a0 = ((some (([] : List Int) : List Int)).bind fun y101 => ((spec_l1In.f a0 0 4611686018427387903).bind fun t104 => (if t104 = true then (spec_PutNum.l0v a0 y101) else (some y101)))) := by
  refine Lim.eq (spec_PutNum.f_lim a0) ?_
  simp only [spec_PutNum.f]
  repeat' first
    | (with_reducible apply spec_PutNum.l0_lim)
    | (with_reducible exact Lim.const _)
    | (with_reducible refine Lim.ite ?_ ?_)
    | (with_reducible refine Lim.bind ?_ (fun _ => ?_))
    | apply spec_PutNum.l0_lim
    | exact Lim.const _
    | refine Lim.ite ?_ ?_
    | refine Lim.bind ?_ (fun _ => ?_)

/-! ### spec_PutText -/
def spec_PutText.f (k : Nat) (a0 : ByteArray) : Option (List Int) := (spec_PutNum.f k (a0.size : Int)).bind fun t111 => (if t111.length + a0.size < 140737488355328 then (some (t111 ++ bytesOf a0)) else (none))
theorem spec_PutText.mono : ∀ a0 k, LeO (spec_PutText.f k a0) (spec_PutText.f (k + 1) a0) := by
  intro a0 k
  unfold spec_PutText.f
  repeat' first
      | (with_reducible exact spec_PutNum.mono _ _)
      | (with_reducible exact LeO.refl _)
      | (with_reducible exact LeO.none _)
      | (with_reducible refine LeO.ite ?_ ?_)
      | (with_reducible refine LeO.bind ?_ (fun _ => ?_))
      | exact spec_PutNum.mono _ _
      | exact LeO.none _
      | refine LeO.ite ?_ ?_
      | refine LeO.bind ?_ (fun _ => ?_)
noncomputable def spec_PutText.fv (a0 : ByteArray) : Option (List Int) := limOf (fun k => spec_PutText.f k a0)
theorem spec_PutText.f_lim (a0 : ByteArray) : Lim (fun k => spec_PutText.f k a0) (spec_PutText.fv a0) := Lim.of (fun k => spec_PutText.mono a0 k)
set_option maxHeartbeats 4000000 in
theorem spec_PutText.fv_eq (a0 : ByteArray) : spec_PutText.fv a0 = ((spec_PutNum.fv (a0.size : Int)).bind fun t111 => (if t111.length + a0.size < 140737488355328 then (some (t111 ++ bytesOf a0)) else (none))) := by
  refine Lim.eq (spec_PutText.f_lim a0) ?_
  simp only [spec_PutText.f]
  repeat' first
    | (with_reducible apply spec_PutNum.f_lim)
    | (with_reducible exact Lim.const _)
    | (with_reducible refine Lim.ite ?_ ?_)
    | (with_reducible refine Lim.bind ?_ (fun _ => ?_))
    | apply spec_PutNum.f_lim
    | exact Lim.const _
    | refine Lim.ite ?_ ?_
    | refine Lim.bind ?_ (fun _ => ?_)

/-! ### impl_in -/
def impl_in.f (a0 : Int) (a1 : Int) (a2 : Int) : Option (Bool) := if a0 ≥ a1 then (some (decide (a0 ≤ a2))) else (some false)

/-! ### impl_PutNum -/
def impl_PutNum.l0 : Nat → Int → List Int → Option (List Int)
  | 0, _, _ => none
  | k + 1, x0, x3 => if x0 > 127 then (if x3.length < 140737488355328 then (impl_PutNum.l0 k (x0 / 128) (x3 ++ [(Go.bits .or .i64 (Go.bits .and .i64 x0 127) 128) % 256])) else (none)) else (if x3.length < 140737488355328 then (some (x3 ++ [(x0) % 256])) else (none))
def impl_PutNum.f (k : Nat) (a0 : Int) : Option (List Int) := (impl_in.f a0 0 4611686018427387903).bind fun t117 => (if t117 = true then (impl_PutNum.l0 k a0 (([] : List Int))) else (some ([] : List Int)))
theorem impl_PutNum.mono_l : ∀ k, (∀ y0 y1, LeO (impl_PutNum.l0 k y0 y1) (impl_PutNum.l0 (k + 1) y0 y1))
  | 0 => fun _ _ r h => by simp [impl_PutNum.l0] at h
  | k + 1 => by
    have ih0 := impl_PutNum.mono_l k
    · intro y0 y1
      unfold impl_PutNum.l0
      repeat' first
      | (with_reducible exact ih0 _ _)
      | (with_reducible exact LeO.refl _)
      | (with_reducible exact LeO.none _)
      | (with_reducible refine LeO.ite ?_ ?_)
      | (with_reducible refine LeO.bind ?_ (fun _ => ?_))
      | exact ih0 _ _
      | exact LeO.none _
      | refine LeO.ite ?_ ?_
      | refine LeO.bind ?_ (fun _ => ?_)
theorem impl_PutNum.mono : ∀ a0 k, LeO (impl_PutNum.f k a0) (impl_PutNum.f (k + 1) a0) := by
  intro a0 k
  have ih0 := impl_PutNum.mono_l k
  unfold impl_PutNum.f
  repeat' first
      | (with_reducible exact ih0 _ _)
      | (with_reducible exact LeO.refl _)
      | (with_reducible exact LeO.none _)
      | (with_reducible refine LeO.ite ?_ ?_)
      | (with_reducible refine LeO.bind ?_ (fun _ => ?_))
      | exact ih0 _ _
      | exact LeO.none _
      | refine LeO.ite ?_ ?_
      | refine LeO.bind ?_ (fun _ => ?_)
noncomputable def impl_PutNum.l0v (x0 : Int) (x3 : List Int) : Option (List Int) := limOf (fun k => impl_PutNum.l0 k x0 x3)
theorem impl_PutNum.l0_lim (x0 : Int) (x3 : List Int) : Lim (fun k => impl_PutNum.l0 k x0 x3) (impl_PutNum.l0v x0 x3) := Lim.of (fun k => impl_PutNum.mono_l k x0 x3)
noncomputable def impl_PutNum.fv (a0 : Int) : Option (List Int) := limOf (fun k => impl_PutNum.f k a0)
theorem impl_PutNum.f_lim (a0 : Int) : Lim (fun k => impl_PutNum.f k a0) (impl_PutNum.fv a0) := Lim.of (fun k => impl_PutNum.mono a0 k)
set_option maxHeartbeats 4000000 in
theorem impl_PutNum.l0v_eq (x0 : Int) (x3 : List Int) : impl_PutNum.l0v x0 x3 = (if x0 > 127 then (if x3.length < 140737488355328 then (impl_PutNum.l0v (x0 / 128) (x3 ++ [(Go.bits .or .i64 (Go.bits .and .i64 x0 127) 128) % 256])) else (none)) else (if x3.length < 140737488355328 then (some (x3 ++ [(x0) % 256])) else (none))) := by
  refine Lim.succ (impl_PutNum.l0_lim x0 x3) ?_
  simp only [impl_PutNum.l0]
  repeat' first
    | (with_reducible apply impl_PutNum.l0_lim)
    | (with_reducible exact Lim.const _)
    | (with_reducible refine Lim.ite ?_ ?_)
    | (with_reducible refine Lim.bind ?_ (fun _ => ?_))
    | apply impl_PutNum.l0_lim
    | exact Lim.const _
    | refine Lim.ite ?_ ?_
    | refine Lim.bind ?_ (fun _ => ?_)
set_option maxHeartbeats 4000000 in
theorem impl_PutNum.fv_eq (a0 : Int) : impl_PutNum.fv a0 = ((impl_in.f a0 0 4611686018427387903).bind fun t117 => (if t117 = true then (impl_PutNum.l0v a0 (([] : List Int))) else (some ([] : List Int)))) := by
  refine Lim.eq (impl_PutNum.f_lim a0) ?_
  simp only [impl_PutNum.f]
  repeat' first
    | (with_reducible apply impl_PutNum.l0_lim)
    | (with_reducible exact Lim.const _)
    | (with_reducible refine Lim.ite ?_ ?_)
    | (with_reducible refine Lim.bind ?_ (fun _ => ?_))
    | apply impl_PutNum.l0_lim
    | exact Lim.const _
    | refine Lim.ite ?_ ?_
    | refine Lim.bind ?_ (fun _ => ?_)

/-! ### impl_PutText -/
def impl_PutText.f (k : Nat) (a0 : ByteArray) : Option (List Int) := (impl_PutNum.f k (a0.size : Int)).bind fun t127 => (if t127.length + a0.size < 140737488355328 then (some (t127 ++ bytesOf a0)) else (none))
theorem impl_PutText.mono : ∀ a0 k, LeO (impl_PutText.f k a0) (impl_PutText.f (k + 1) a0) := by
  intro a0 k
  unfold impl_PutText.f
  repeat' first
      | (with_reducible exact impl_PutNum.mono _ _)
      | (with_reducible exact LeO.refl _)
      | (with_reducible exact LeO.none _)
      | (with_reducible refine LeO.ite ?_ ?_)
      | (with_reducible refine LeO.bind ?_ (fun _ => ?_))
      | exact impl_PutNum.mono _ _
      | exact LeO.none _
      | refine LeO.ite ?_ ?_
      | refine LeO.bind ?_ (fun _ => ?_)
noncomputable def impl_PutText.fv (a0 : ByteArray) : Option (List Int) := limOf (fun k => impl_PutText.f k a0)
theorem impl_PutText.f_lim (a0 : ByteArray) : Lim (fun k => impl_PutText.f k a0) (impl_PutText.fv a0) := Lim.of (fun k => impl_PutText.mono a0 k)
set_option maxHeartbeats 4000000 in
theorem impl_PutText.fv_eq (a0 : ByteArray) : impl_PutText.fv a0 = ((impl_PutNum.fv (a0.size : Int)).bind fun t127 => (if t127.length + a0.size < 140737488355328 then (some (t127 ++ bytesOf a0)) else (none))) := by
  refine Lim.eq (impl_PutText.f_lim a0) ?_
  simp only [impl_PutText.f]
  repeat' first
    | (with_reducible apply impl_PutNum.f_lim)
    | (with_reducible exact Lim.const _)
    | (with_reducible refine Lim.ite ?_ ?_)
    | (with_reducible refine Lim.bind ?_ (fun _ => ?_))
    | apply impl_PutNum.f_lim
    | exact Lim.const _
    | refine Lim.ite ?_ ?_
    | refine Lim.bind ?_ (fun _ => ?_)

/-! ### laws_eqByteS -/
def laws_eqByteS.l0 : Nat → List Int → List Int → Int → Option (Bool)
  | 0, _, _, _ => none
  | k + 1, x0, x1, x5 => if x5 < (x0.length : Int) then (if 0 ≤ x5 then (if x5 < (x1.length : Int) then (if (rd x0 x5) = (rd x1 x5) then (laws_eqByteS.l0 k x0 x1 (wrap64 (x5 + 1))) else (some false)) else (none)) else (none)) else (some true)
def laws_eqByteS.f (k : Nat) (l0 : List Int) (l1 : List Int) : Option (Bool) := if (l0.length : Int) = (l1.length : Int) then (laws_eqByteS.l0 k l0 l1 0) else (some false)
theorem laws_eqByteS.mono_l : ∀ k, (∀ y0 y1 y2, LeO (laws_eqByteS.l0 k y0 y1 y2) (laws_eqByteS.l0 (k + 1) y0 y1 y2))
  | 0 => fun _ _ _ r h => by simp [laws_eqByteS.l0] at h
  | k + 1 => by
    have ih0 := laws_eqByteS.mono_l k
    · intro y0 y1 y2
      unfold laws_eqByteS.l0
      repeat' first
      | (with_reducible exact ih0 _ _ _)
      | (with_reducible exact LeO.refl _)
      | (with_reducible exact LeO.none _)
      | (with_reducible refine LeO.ite ?_ ?_)
      | (with_reducible refine LeO.bind ?_ (fun _ => ?_))
      | exact ih0 _ _ _
      | exact LeO.none _
      | refine LeO.ite ?_ ?_
      | refine LeO.bind ?_ (fun _ => ?_)
theorem laws_eqByteS.mono : ∀ a0 a1 k, LeO (laws_eqByteS.f k a0 a1) (laws_eqByteS.f (k + 1) a0 a1) := by
  intro a0 a1 k
  have ih0 := laws_eqByteS.mono_l k
  unfold laws_eqByteS.f
  repeat' first
      | (with_reducible exact ih0 _ _ _)
      | (with_reducible exact LeO.refl _)
      | (with_reducible exact LeO.none _)
      | (with_reducible refine LeO.ite ?_ ?_)
      | (with_reducible refine LeO.bind ?_ (fun _ => ?_))
      | exact ih0 _ _ _
      | exact LeO.none _
      | refine LeO.ite ?_ ?_
      | refine LeO.bind ?_ (fun _ => ?_)
noncomputable def laws_eqByteS.l0v (x0 : List Int) (x1 : List Int) (x5 : Int) : Option (Bool) := limOf (fun k => laws_eqByteS.l0 k x0 x1 x5)
theorem laws_eqByteS.l0_lim (x0 : List Int) (x1 : List Int) (x5 : Int) : Lim (fun k => laws_eqByteS.l0 k x0 x1 x5) (laws_eqByteS.l0v x0 x1 x5) := Lim.of (fun k => laws_eqByteS.mono_l k x0 x1 x5)
noncomputable def laws_eqByteS.fv (l0 : List Int) (l1 : List Int) : Option (Bool) := limOf (fun k => laws_eqByteS.f k l0 l1)
theorem laws_eqByteS.f_lim (l0 : List Int) (l1 : List Int) : Lim (fun k => laws_eqByteS.f k l0 l1) (laws_eqByteS.fv l0 l1) := Lim.of (fun k => laws_eqByteS.mono l0 l1 k)
set_option maxHeartbeats 4000000 in
theorem laws_eqByteS.l0v_eq (x0 : List Int) (x1 : List Int) (x5 : Int) : laws_eqByteS.l0v x0 x1 x5 = (if x5 < (x0.length : Int) then (if 0 ≤ x5 then (if x5 < (x1.length : Int) then (if (rd x0 x5) = (rd x1 x5) then (laws_eqByteS.l0v x0 x1 (wrap64 (x5 + 1))) else (some false)) else (none)) else (none)) else (some true)) := by
  refine Lim.succ (laws_eqByteS.l0_lim x0 x1 x5) ?_
  simp only [laws_eqByteS.l0]
  repeat' first
    | (with_reducible apply laws_eqByteS.l0_lim)
    | (with_reducible exact Lim.const _)
    | (with_reducible refine Lim.ite ?_ ?_)
    | (with_reducible refine Lim.bind ?_ (fun _ => ?_))
    | apply laws_eqByteS.l0_lim
    | exact Lim.const _
    | refine Lim.ite ?_ ?_
    | refine Lim.bind ?_ (fun _ => ?_)
set_option maxHeartbeats 4000000 in
theorem laws_eqByteS.fv_eq (l0 : List Int) (l1 : List Int) : laws_eqByteS.fv l0 l1 = (if (l0.length : Int) = (l1.length : Int) then (laws_eqByteS.l0v l0 l1 0) else (some false)) := by
  refine Lim.eq (laws_eqByteS.f_lim l0 l1) ?_
  simp only [laws_eqByteS.f]
  repeat' first
    | (with_reducible apply laws_eqByteS.l0_lim)
    | (with_reducible exact Lim.const _)
    | (with_reducible refine Lim.ite ?_ ?_)
    | (with_reducible refine Lim.bind ?_ (fun _ => ?_))
    | apply laws_eqByteS.l0_lim
    | exact Lim.const _
    | refine Lim.ite ?_ ?_
    | refine Lim.bind ?_ (fun _ => ?_)

/-! ### laws_markByteS -/
def laws_markByteS.l0 : Nat → List Int → Int → Int → Option (Int × List Int)
  | 0, _, _, _ => none
  | k + 1, x0, x1, x5 => if x5 < (x0.length : Int) then (if 0 ≤ x5 then (laws_markByteS.l0 k (x0.set (x5 : Int).toNat ((x1) % 256)) (wrap64 (x1 + 1)) (wrap64 (x5 + 1))) else (none)) else (some (x1, x0))
def laws_markByteS.f (k : Nat) (l0 : List Int) (a1 : Int) : Option (Int × List Int) := laws_markByteS.l0 k l0 a1 0
theorem laws_markByteS.mono_l : ∀ k, (∀ y0 y1 y2, LeO (laws_markByteS.l0 k y0 y1 y2) (laws_markByteS.l0 (k + 1) y0 y1 y2))
  | 0 => fun _ _ _ r h => by simp [laws_markByteS.l0] at h
  | k + 1 => by
    have ih0 := laws_markByteS.mono_l k
    · intro y0 y1 y2
      unfold laws_markByteS.l0
      repeat' first
      | (with_reducible exact ih0 _ _ _)
      | (with_reducible exact LeO.refl _)
      | (with_reducible exact LeO.none _)
      | (with_reducible refine LeO.ite ?_ ?_)
      | (with_reducible refine LeO.bind ?_ (fun _ => ?_))
      | exact ih0 _ _ _
      | exact LeO.none _
      | refine LeO.ite ?_ ?_
      | refine LeO.bind ?_ (fun _ => ?_)
theorem laws_markByteS.mono : ∀ a0 a1 k, LeO (laws_markByteS.f k a0 a1) (laws_markByteS.f (k + 1) a0 a1) := by
  intro a0 a1 k
  have ih0 := laws_markByteS.mono_l k
  unfold laws_markByteS.f
  repeat' first
      | (with_reducible exact ih0 _ _ _)
      | (with_reducible exact LeO.refl _)
      | (with_reducible exact LeO.none _)
      | (with_reducible refine LeO.ite ?_ ?_)
      | (with_reducible refine LeO.bind ?_ (fun _ => ?_))
      | exact ih0 _ _ _
      | exact LeO.none _
      | refine LeO.ite ?_ ?_
      | refine LeO.bind ?_ (fun _ => ?_)
noncomputable def laws_markByteS.l0v (x0 : List Int) (x1 : Int) (x5 : Int) : Option (Int × List Int) := limOf (fun k => laws_markByteS.l0 k x0 x1 x5)
theorem laws_markByteS.l0_lim (x0 : List Int) (x1 : Int) (x5 : Int) : Lim (fun k => laws_markByteS.l0 k x0 x1 x5) (laws_markByteS.l0v x0 x1 x5) := Lim.of (fun k => laws_markByteS.mono_l k x0 x1 x5)
noncomputable def laws_markByteS.fv (l0 : List Int) (a1 : Int) : Option (Int × List Int) := limOf (fun k => laws_markByteS.f k l0 a1)
theorem laws_markByteS.f_lim (l0 : List Int) (a1 : Int) : Lim (fun k => laws_markByteS.f k l0 a1) (laws_markByteS.fv l0 a1) := Lim.of (fun k => laws_markByteS.mono l0 a1 k)
set_option maxHeartbeats 4000000 in
theorem laws_markByteS.l0v_eq (x0 : List Int) (x1 : Int) (x5 : Int) : laws_markByteS.l0v x0 x1 x5 = (if x5 < (x0.length : Int) then (if 0 ≤ x5 then (laws_markByteS.l0v (x0.set (x5 : Int).toNat ((x1) % 256)) (wrap64 (x1 + 1)) (wrap64 (x5 + 1))) else (none)) else (some (x1, x0))) := by
  refine Lim.succ (laws_markByteS.l0_lim x0 x1 x5) ?_
  simp only [laws_markByteS.l0]
  repeat' first
    | (with_reducible apply laws_markByteS.l0_lim)
    | (with_reducible exact Lim.const _)
    | (with_reducible refine Lim.ite ?_ ?_)
    | (with_reducible refine Lim.bind ?_ (fun _ => ?_))
    | apply laws_markByteS.l0_lim
    | exact Lim.const _
    | refine Lim.ite ?_ ?_
    | refine Lim.bind ?_ (fun _ => ?_)
set_option maxHeartbeats 4000000 in
theorem laws_markByteS.fv_eq (l0 : List Int) (a1 : Int) : laws_markByteS.fv l0 a1 = (laws_markByteS.l0v l0 a1 0) := by
  refine Lim.eq (laws_markByteS.f_lim l0 a1) ?_
  simp only [laws_markByteS.f]
  repeat' first
    | (with_reducible apply laws_markByteS.l0_lim)
    | (with_reducible exact Lim.const _)
    | (with_reducible refine Lim.ite ?_ ?_)
    | (with_reducible refine Lim.bind ?_ (fun _ => ?_))
    | apply laws_markByteS.l0_lim
    | exact Lim.const _
    | refine Lim.ite ?_ ?_
    | refine Lim.bind ?_ (fun _ => ?_)

/-! ### laws_heldByteS -/
def laws_heldByteS.l0 : Nat → List Int → Int → Int → Option (Int)
  | 0, _, _, _ => none
  | k + 1, x0, x1, x5 => if x5 < (x0.length : Int) then (if 0 ≤ x5 then (if (rd x0 x5) = ((x1) % 256) then (laws_heldByteS.l0 k x0 (wrap64 (x1 + 1)) (wrap64 (x5 + 1))) else (some (-1))) else (none)) else (some x1)
def laws_heldByteS.f (k : Nat) (l0 : List Int) (a1 : Int) : Option (Int) := laws_heldByteS.l0 k l0 a1 0
theorem laws_heldByteS.mono_l : ∀ k, (∀ y0 y1 y2, LeO (laws_heldByteS.l0 k y0 y1 y2) (laws_heldByteS.l0 (k + 1) y0 y1 y2))
  | 0 => fun _ _ _ r h => by simp [laws_heldByteS.l0] at h
  | k + 1 => by
    have ih0 := laws_heldByteS.mono_l k
    · intro y0 y1 y2
      unfold laws_heldByteS.l0
      repeat' first
      | (with_reducible exact ih0 _ _ _)
      | (with_reducible exact LeO.refl _)
      | (with_reducible exact LeO.none _)
      | (with_reducible refine LeO.ite ?_ ?_)
      | (with_reducible refine LeO.bind ?_ (fun _ => ?_))
      | exact ih0 _ _ _
      | exact LeO.none _
      | refine LeO.ite ?_ ?_
      | refine LeO.bind ?_ (fun _ => ?_)
theorem laws_heldByteS.mono : ∀ a0 a1 k, LeO (laws_heldByteS.f k a0 a1) (laws_heldByteS.f (k + 1) a0 a1) := by
  intro a0 a1 k
  have ih0 := laws_heldByteS.mono_l k
  unfold laws_heldByteS.f
  repeat' first
      | (with_reducible exact ih0 _ _ _)
      | (with_reducible exact LeO.refl _)
      | (with_reducible exact LeO.none _)
      | (with_reducible refine LeO.ite ?_ ?_)
      | (with_reducible refine LeO.bind ?_ (fun _ => ?_))
      | exact ih0 _ _ _
      | exact LeO.none _
      | refine LeO.ite ?_ ?_
      | refine LeO.bind ?_ (fun _ => ?_)
noncomputable def laws_heldByteS.l0v (x0 : List Int) (x1 : Int) (x5 : Int) : Option (Int) := limOf (fun k => laws_heldByteS.l0 k x0 x1 x5)
theorem laws_heldByteS.l0_lim (x0 : List Int) (x1 : Int) (x5 : Int) : Lim (fun k => laws_heldByteS.l0 k x0 x1 x5) (laws_heldByteS.l0v x0 x1 x5) := Lim.of (fun k => laws_heldByteS.mono_l k x0 x1 x5)
noncomputable def laws_heldByteS.fv (l0 : List Int) (a1 : Int) : Option (Int) := limOf (fun k => laws_heldByteS.f k l0 a1)
theorem laws_heldByteS.f_lim (l0 : List Int) (a1 : Int) : Lim (fun k => laws_heldByteS.f k l0 a1) (laws_heldByteS.fv l0 a1) := Lim.of (fun k => laws_heldByteS.mono l0 a1 k)
set_option maxHeartbeats 4000000 in
theorem laws_heldByteS.l0v_eq (x0 : List Int) (x1 : Int) (x5 : Int) : laws_heldByteS.l0v x0 x1 x5 = (if x5 < (x0.length : Int) then (if 0 ≤ x5 then (if (rd x0 x5) = ((x1) % 256) then (laws_heldByteS.l0v x0 (wrap64 (x1 + 1)) (wrap64 (x5 + 1))) else (some (-1))) else (none)) else (some x1)) := by
  refine Lim.succ (laws_heldByteS.l0_lim x0 x1 x5) ?_
  simp only [laws_heldByteS.l0]
  repeat' first
    | (with_reducible apply laws_heldByteS.l0_lim)
    | (with_reducible exact Lim.const _)
    | (with_reducible refine Lim.ite ?_ ?_)
    | (with_reducible refine Lim.bind ?_ (fun _ => ?_))
    | apply laws_heldByteS.l0_lim
    | exact Lim.const _
    | refine Lim.ite ?_ ?_
    | refine Lim.bind ?_ (fun _ => ?_)
set_option maxHeartbeats 4000000 in
theorem laws_heldByteS.fv_eq (l0 : List Int) (a1 : Int) : laws_heldByteS.fv l0 a1 = (laws_heldByteS.l0v l0 a1 0) := by
  refine Lim.eq (laws_heldByteS.f_lim l0 a1) ?_
  simp only [laws_heldByteS.f]
  repeat' first
    | (with_reducible apply laws_heldByteS.l0_lim)
    | (with_reducible exact Lim.const _)
    | (with_reducible refine Lim.ite ?_ ?_)
    | (with_reducible refine Lim.bind ?_ (fun _ => ?_))
    | apply laws_heldByteS.l0_lim
    | exact Lim.const _
    | refine Lim.ite ?_ ?_
    | refine Lim.bind ?_ (fun _ => ?_)

/-! ### laws_FnExactPutText -/
def laws_FnExactPutText.f (k : Nat) (a0 : ByteArray) : Option (Bool) := if (a0.size : Int) > 1048576 then (some true) else ((spec_PutText.f k a0).bind fun t137 => ((impl_PutText.f k a0).bind fun t140 => ((laws_eqByteS.f k t140 t137).bind fun t143 => (if t143 = true then ((laws_markByteS.f k t140 1).bind fun bt144 => ((laws_heldByteS.f k bt144.2 1).bind fun t146 => (if t146 < 0 then (some false) else (if t146 = bt144.1 then ((impl_PutText.f k a0).bind fun t147 => ((laws_eqByteS.f k t147 t137).bind fun t150 => (if t150 = true then ((laws_heldByteS.f k bt144.2 1).bind fun t151 => (if t151 < 0 then (some false) else (if t151 = bt144.1 then (some true) else (some false)))) else (some false)))) else (some false))))) else (some false)))))
theorem laws_FnExactPutText.mono : ∀ a0 k, LeO (laws_FnExactPutText.f k a0) (laws_FnExactPutText.f (k + 1) a0) := by
  intro a0 k
  unfold laws_FnExactPutText.f
  repeat' first
      | (with_reducible exact impl_PutText.mono _ _)
      | (with_reducible exact laws_eqByteS.mono _ _ _)
      | (with_reducible exact laws_heldByteS.mono _ _ _)
      | (with_reducible exact laws_markByteS.mono _ _ _)
      | (with_reducible exact spec_PutText.mono _ _)
      | (with_reducible exact LeO.refl _)
      | (with_reducible exact LeO.none _)
      | (with_reducible refine LeO.ite ?_ ?_)
      | (with_reducible refine LeO.bind ?_ (fun _ => ?_))
      | exact impl_PutText.mono _ _
      | exact laws_eqByteS.mono _ _ _
      | exact laws_heldByteS.mono _ _ _
      | exact laws_markByteS.mono _ _ _
      | exact spec_PutText.mono _ _
      | exact LeO.none _
      | refine LeO.ite ?_ ?_
      | refine LeO.bind ?_ (fun _ => ?_)
noncomputable def laws_FnExactPutText.fv (a0 : ByteArray) : Option (Bool) := limOf (fun k => laws_FnExactPutText.f k a0)
theorem laws_FnExactPutText.f_lim (a0 : ByteArray) : Lim (fun k => laws_FnExactPutText.f k a0) (laws_FnExactPutText.fv a0) := Lim.of (fun k => laws_FnExactPutText.mono a0 k)
set_option maxHeartbeats 4000000 in
theorem laws_FnExactPutText.fv_eq (a0 : ByteArray) : laws_FnExactPutText.fv a0 = (if (a0.size : Int) > 1048576 then (some true) else ((spec_PutText.fv a0).bind fun t137 => ((impl_PutText.fv a0).bind fun t140 => ((laws_eqByteS.fv t140 t137).bind fun t143 => (if t143 = true then ((laws_markByteS.fv t140 1).bind fun bt144 => ((laws_heldByteS.fv bt144.2 1).bind fun t146 => (if t146 < 0 then (some false) else (if t146 = bt144.1 then ((impl_PutText.fv a0).bind fun t147 => ((laws_eqByteS.fv t147 t137).bind fun t150 => (if t150 = true then ((laws_heldByteS.fv bt144.2 1).bind fun t151 => (if t151 < 0 then (some false) else (if t151 = bt144.1 then (some true) else (some false)))) else (some false)))) else (some false))))) else (some false)))))) := by
  refine Lim.eq (laws_FnExactPutText.f_lim a0) ?_
  simp only [laws_FnExactPutText.f]
  repeat' first
    | (with_reducible apply impl_PutText.f_lim)
    | (with_reducible apply laws_eqByteS.f_lim)
    | (with_reducible apply laws_heldByteS.f_lim)
    | (with_reducible apply laws_markByteS.f_lim)
    | (with_reducible apply spec_PutText.f_lim)
    | (with_reducible exact Lim.const _)
    | (with_reducible refine Lim.ite ?_ ?_)
    | (with_reducible refine Lim.bind ?_ (fun _ => ?_))
    | apply impl_PutText.f_lim
    | apply laws_eqByteS.f_lim
    | apply laws_heldByteS.f_lim
    | apply laws_markByteS.f_lim
    | apply spec_PutText.f_lim
    | exact Lim.const _
    | refine Lim.ite ?_ ?_
    | refine Lim.bind ?_ (fun _ => ?_)

end Go.Proofs.Ytehefologhfdhaa.QFnExactPutText
