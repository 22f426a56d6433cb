/- Written by wip/pr2, a program of this session. -/
import Derived.Test.YtgdhiccjllpogaaQFnExactCmdOkx0
import Derived.Test.YtgdhiccjllpogaaLim
namespace Go.Proofs.Ytgdhiccjllpogaa.QFnExactCmdOk
open Go.RowKit Go.Proofs.YtgdhiccjllpogaaW.PrintWords Go.Proofs.YtgdhiccjllpogaaW.PrintLast Go.Proofs.YtgdhiccjllpogaaW.PrintMore
attribute [local go_sem] max2_int min2_int max_two min_two max_three min_three max_four min_four   -- for this text's walks alone
set_option linter.unusedVariables false
set_option linter.unusedSimpArgs false

open Go.Proofs.YtgdhiccjllpogaaW.Lims
/-! ### laws_szCmd -/
def laws_szCmd.f (a0_0 : Int) (a0_1 : Int) (a0_2 : ByteArray) (a1 : Int) : Option (Int) := if (wrap64 (a1 - (a0_2.size : Int))) < 0 then (some (-1)) else (some (wrap64 (a1 - (a0_2.size : Int))))

/-! ### spec_l1In -/
def spec_l1In.f (a0 : Int) (a1 : Int) (a2 : Int) : Option (Bool) := if a0 ≥ a1 then (some (decide (a0 ≤ a2))) else (some false)

/-! ### spec_l9Line -/
def spec_l9Line.l0 : Nat → ByteArray → Int → Option (Bool)
  | 0, _, _ => none
  | k + 1, x0, x3 => if x3 < (x0.size : Int) then (if 0 ≤ x3 then (if (bt x0 x3) = 10 then (some false) else (spec_l9Line.l0 k x0 (wrap64 (x3 + 1)))) else (none)) else (some true)
def spec_l9Line.f (k : Nat) (a0 : ByteArray) : Option (Bool) := spec_l9Line.l0 k a0 0
theorem spec_l9Line.mono_l : ∀ k, (∀ y0 y1, LeO (spec_l9Line.l0 k y0 y1) (spec_l9Line.l0 (k + 1) y0 y1))
  | 0 => fun _ _ r h => by simp [spec_l9Line.l0] at h
  | k + 1 => by
    have ih0 := spec_l9Line.mono_l k
    · intro y0 y1
      unfold spec_l9Line.l0
      repeat' first
      | (with_reducible exact ih0 _ _)
      | (with_reducible exact LeO.refl _)
      | (with_reducible exact LeO.none _)
      | (with_reducible refine LeO.ite ?_ ?_)
      | (with_reducible refine LeO.bind ?_ (fun _ => ?_))
      | exact ih0 _ _
      | exact LeO.none _
      | refine LeO.ite ?_ ?_
      | refine LeO.bind ?_ (fun _ => ?_)
theorem spec_l9Line.mono : ∀ a0 k, LeO (spec_l9Line.f k a0) (spec_l9Line.f (k + 1) a0) := by
  intro a0 k
  have ih0 := spec_l9Line.mono_l k
  unfold spec_l9Line.f
  repeat' first
      | (with_reducible exact ih0 _ _)
      | (with_reducible exact LeO.refl _)
      | (with_reducible exact LeO.none _)
      | (with_reducible refine LeO.ite ?_ ?_)
      | (with_reducible refine LeO.bind ?_ (fun _ => ?_))
      | exact ih0 _ _
      | exact LeO.none _
      | refine LeO.ite ?_ ?_
      | refine LeO.bind ?_ (fun _ => ?_)
noncomputable def spec_l9Line.l0v (x0 : ByteArray) (x3 : Int) : Option (Bool) := limOf (fun k => spec_l9Line.l0 k x0 x3)
theorem spec_l9Line.l0_lim (x0 : ByteArray) (x3 : Int) : Lim (fun k => spec_l9Line.l0 k x0 x3) (spec_l9Line.l0v x0 x3) := Lim.of (fun k => spec_l9Line.mono_l k x0 x3)
noncomputable def spec_l9Line.fv (a0 : ByteArray) : Option (Bool) := limOf (fun k => spec_l9Line.f k a0)
theorem spec_l9Line.f_lim (a0 : ByteArray) : Lim (fun k => spec_l9Line.f k a0) (spec_l9Line.fv a0) := Lim.of (fun k => spec_l9Line.mono a0 k)
set_option maxHeartbeats 4000000 in
theorem spec_l9Line.l0v_eq (x0 : ByteArray) (x3 : Int) : spec_l9Line.l0v x0 x3 = (if x3 < (x0.size : Int) then (if 0 ≤ x3 then (if (bt x0 x3) = 10 then (some false) else (spec_l9Line.l0v x0 (wrap64 (x3 + 1)))) else (none)) else (some true)) := by
  refine Lim.succ (spec_l9Line.l0_lim x0 x3) ?_
  simp only [spec_l9Line.l0]
  repeat' first
    | (with_reducible apply spec_l9Line.l0_lim)
    | (with_reducible exact Lim.const _)
    | (with_reducible refine Lim.ite ?_ ?_)
    | (with_reducible refine Lim.bind ?_ (fun _ => ?_))
    | apply spec_l9Line.l0_lim
    | exact Lim.const _
    | refine Lim.ite ?_ ?_
    | refine Lim.bind ?_ (fun _ => ?_)
set_option maxHeartbeats 4000000 in
theorem spec_l9Line.fv_eq (a0 : ByteArray) : spec_l9Line.fv a0 = (spec_l9Line.l0v a0 0) := by
  refine Lim.eq (spec_l9Line.f_lim a0) ?_
  simp only [spec_l9Line.f]
  repeat' first
    | (with_reducible apply spec_l9Line.l0_lim)
    | (with_reducible exact Lim.const _)
    | (with_reducible refine Lim.ite ?_ ?_)
    | (with_reducible refine Lim.bind ?_ (fun _ => ?_))
    | apply spec_l9Line.l0_lim
    | exact Lim.const _
    | refine Lim.ite ?_ ?_
    | refine Lim.bind ?_ (fun _ => ?_)

/-! ### spec_CmdOk -/
def spec_CmdOk.f (k : Nat) (a0_0 : Int) (a0_1 : Int) (a0_2 : ByteArray) : Option (Bool) := if a0_0 = (-1) then (if a0_1 = 0 then (some (a0_2.toList == ([] : List UInt8))) else (some false)) else ((spec_l1In.f a0_0 0 2).bind fun t103 => (if t103 = true then ((spec_l1In.f a0_1 1 100000).bind fun t104 => (if t104 = true then (if (a0_2.size : Int) ≤ 60 then ((spec_l9Line.f k a0_2).bind fun t105 => (some t105)) else (some false)) else (some false))) else (some false)))
theorem spec_CmdOk.mono : ∀ a0 a1 a2 k, LeO (spec_CmdOk.f k a0 a1 a2) (spec_CmdOk.f (k + 1) a0 a1 a2) := by
  intro a0 a1 a2 k
  unfold spec_CmdOk.f
  repeat' first
      | (with_reducible exact spec_l9Line.mono _ _)
      | (with_reducible exact LeO.refl _)
      | (with_reducible exact LeO.none _)
      | (with_reducible refine LeO.ite ?_ ?_)
      | (with_reducible refine LeO.bind ?_ (fun _ => ?_))
      | exact spec_l9Line.mono _ _
      | exact LeO.none _
      | refine LeO.ite ?_ ?_
      | refine LeO.bind ?_ (fun _ => ?_)
noncomputable def spec_CmdOk.fv (a0_0 : Int) (a0_1 : Int) (a0_2 : ByteArray) : Option (Bool) := limOf (fun k => spec_CmdOk.f k a0_0 a0_1 a0_2)
theorem spec_CmdOk.f_lim (a0_0 : Int) (a0_1 : Int) (a0_2 : ByteArray) : Lim (fun k => spec_CmdOk.f k a0_0 a0_1 a0_2) (spec_CmdOk.fv a0_0 a0_1 a0_2) := Lim.of (fun k => spec_CmdOk.mono a0_0 a0_1 a0_2 k)
set_option maxHeartbeats 4000000 in
theorem spec_CmdOk.fv_eq (a0_0 : Int) (a0_1 : Int) (a0_2 : ByteArray) : spec_CmdOk.fv a0_0 a0_1 a0_2 = (if a0_0 = (-1) then (if a0_1 = 0 then (some (a0_2.toList == ([] : List UInt8))) else (some false)) else ((spec_l1In.f a0_0 0 2).bind fun t103 => (if t103 = true then ((spec_l1In.f a0_1 1 100000).bind fun t104 => (if t104 = true then (if (a0_2.size : Int) ≤ 60 then ((spec_l9Line.fv a0_2).bind fun t105 => (some t105)) else (some false)) else (some false))) else (some false)))) := by
  refine Lim.eq (spec_CmdOk.f_lim a0_0 a0_1 a0_2) ?_
  simp only [spec_CmdOk.f]
  repeat' first
    | (with_reducible apply spec_l9Line.f_lim)
    | (with_reducible exact Lim.const _)
    | (with_reducible refine Lim.ite ?_ ?_)
    | (with_reducible refine Lim.bind ?_ (fun _ => ?_))
    | apply spec_l9Line.f_lim
    | exact Lim.const _
    | refine Lim.ite ?_ ?_
    | refine Lim.bind ?_ (fun _ => ?_)

/-! ### laws_toCmd -/
def laws_toCmd.f (a0_0 : Int) (a0_1 : Int) (a0_2 : ByteArray) : Option (Int × Int × ByteArray) := some (a0_0, a0_1, a0_2)

/-! ### impl_in -/
def impl_in.f (a0 : Int) (a1 : Int) (a2 : Int) : Option (Bool) := if a0 ≥ a1 then (some (decide (a0 ≤ a2))) else (some false)

/-! ### strings_Index -/
def strings_Index.f (a0 : ByteArray) (a1 : ByteArray) : Option (Int) := match a1.data.toList with | [c_] => some (Lib.indexByte a0.data.toList c_) | _ => none

/-! ### strings_Contains -/
def strings_Contains.f (a0 : ByteArray) (a1 : ByteArray) : Option (Bool) := match a1.data.toList with | [c_] => some (decide (0 ≤ Lib.indexByte a0.data.toList c_)) | _ => none

/-! ### impl_lineOk -/
def impl_lineOk.f (a0 : ByteArray) : Option (Bool) := if (a0.size : Int) ≤ 60 then ((strings_Contains.f a0 (⟨#[10]⟩ : ByteArray)).bind fun t109 => (some (!t109))) else (some false)

/-! ### impl_CmdOk -/
def impl_CmdOk.f (a0_0 : Int) (a0_1 : Int) (a0_2 : ByteArray) : Option (Bool) := if a0_0 = (-1) then (if a0_1 = 0 then (some (a0_2.toList == ([] : List UInt8))) else (some false)) else ((impl_in.f a0_0 0 2).bind fun t111 => (if t111 = true then ((impl_in.f a0_1 1 100000).bind fun t112 => (if t112 = true then ((impl_lineOk.f a0_2).bind fun t113 => (some t113)) else (some false))) else (some false)))

/-! ### laws_FnExactCmdOk -/
def laws_FnExactCmdOk.f (k : Nat) (a0_0 : Int) (a0_1 : Int) (a0_2 : ByteArray) : Option (Bool) := (laws_szCmd.f a0_0 a0_1 a0_2 1048576).bind fun t115 => (if t115 < 0 then (some true) else ((laws_toCmd.f a0_0 a0_1 a0_2).bind fun bt116 => ((spec_CmdOk.f k bt116.1 bt116.2.1 bt116.2.2).bind fun t119 => ((laws_toCmd.f a0_0 a0_1 a0_2).bind fun bt120 => ((impl_CmdOk.f bt120.1 bt120.2.1 bt120.2.2).bind fun t123 => (if (t123 != t119) = true then (some false) else (some true)))))))
theorem laws_FnExactCmdOk.mono : ∀ a0 a1 a2 k, LeO (laws_FnExactCmdOk.f k a0 a1 a2) (laws_FnExactCmdOk.f (k + 1) a0 a1 a2) := by
  intro a0 a1 a2 k
  unfold laws_FnExactCmdOk.f
  repeat' first
      | (with_reducible exact spec_CmdOk.mono _ _ _ _)
      | (with_reducible exact LeO.refl _)
      | (with_reducible exact LeO.none _)
      | (with_reducible refine LeO.ite ?_ ?_)
      | (with_reducible refine LeO.bind ?_ (fun _ => ?_))
      | exact spec_CmdOk.mono _ _ _ _
      | exact LeO.none _
      | refine LeO.ite ?_ ?_
      | refine LeO.bind ?_ (fun _ => ?_)
noncomputable def laws_FnExactCmdOk.fv (a0_0 : Int) (a0_1 : Int) (a0_2 : ByteArray) : Option (Bool) := limOf (fun k => laws_FnExactCmdOk.f k a0_0 a0_1 a0_2)
theorem laws_FnExactCmdOk.f_lim (a0_0 : Int) (a0_1 : Int) (a0_2 : ByteArray) : Lim (fun k => laws_FnExactCmdOk.f k a0_0 a0_1 a0_2) (laws_FnExactCmdOk.fv a0_0 a0_1 a0_2) := Lim.of (fun k => laws_FnExactCmdOk.mono a0_0 a0_1 a0_2 k)
set_option maxHeartbeats 4000000 in
theorem laws_FnExactCmdOk.fv_eq (a0_0 : Int) (a0_1 : Int) (a0_2 : ByteArray) : laws_FnExactCmdOk.fv a0_0 a0_1 a0_2 = ((laws_szCmd.f a0_0 a0_1 a0_2 1048576).bind fun t115 => (if t115 < 0 then (some true) else ((laws_toCmd.f a0_0 a0_1 a0_2).bind fun bt116 => ((spec_CmdOk.fv bt116.1 bt116.2.1 bt116.2.2).bind fun t119 => ((laws_toCmd.f a0_0 a0_1 a0_2).bind fun bt120 => ((impl_CmdOk.f bt120.1 bt120.2.1 bt120.2.2).bind fun t123 => (if (t123 != t119) = true then (some false) else (some true)))))))) := by
  refine Lim.eq (laws_FnExactCmdOk.f_lim a0_0 a0_1 a0_2) ?_
  simp only [laws_FnExactCmdOk.f]
  repeat' first
    | (with_reducible apply spec_CmdOk.f_lim)
    | (with_reducible exact Lim.const _)
    | (with_reducible refine Lim.ite ?_ ?_)
    | (with_reducible refine Lim.bind ?_ (fun _ => ?_))
    | apply spec_CmdOk.f_lim
    | exact Lim.const _
    | refine Lim.ite ?_ ?_
    | refine Lim.bind ?_ (fun _ => ?_)

end Go.Proofs.Ytgdhiccjllpogaa.QFnExactCmdOk
