/- Written by wip/pr2, a program of this session. -/
import Derived.Test.YtelaipnanpfniaaDoorQFnExactTokensx0
import Derived.Test.YtelaipnanpfniaaDoorQFnExactTokensx2
import Derived.Test.YtelaipnanpfniaaDoorQFnExactTokensx3
import Derived.Test.YtelaipnanpfniaaDoorWFnExactTokens
namespace Go.Proofs.YtelaipnanpfniaaDoor.QFnExactTokens
open Go.RowKit Go.Proofs.YtelaipnanpfniaaDoorW.PrintWords Go.Proofs.YtelaipnanpfniaaDoorW.PrintLast Go.Proofs.YtelaipnanpfniaaDoorW.PrintMore
attribute [local go_sem] max2_int min2_int max_two min_two max_three min_three max_four min_four   -- for this text's walks alone
set_option linter.unusedVariables false
set_option linter.unusedSimpArgs false
set_option maxHeartbeats 8000000

open Go.Proofs.YtelaipnanpfniaaDoorW.Lims
/-! ### laws_FnExactTokens -/
mutual
def laws_FnExactTokens.j0 : Nat → ByteArray → List (S32) → Int → List (S32) → Bool → Option (Bool)
  | 0, _, _, _, _, _ => none
  | k + 1, x0, x3, x4, x5, x32 => if x32 = true then (some false) else ((laws_markTokenS.f k x5 1).bind fun bt297 => ((laws_heldTokenS.f k bt297.2 1).bind fun t299 => (if t299 < 0 then (some false) else (if t299 = bt297.1 then ((impl_Tokens.f k x0).bind fun bt300 => ((laws_eqTokenS.f k bt300.1 x3).bind fun t304 => (if t304 = true then (laws_FnExactTokens.j1 k bt297.2 bt297.1 (bt300.2 != x4)) else (laws_FnExactTokens.j1 k bt297.2 bt297.1 true)))) else (some false)))))
def laws_FnExactTokens.j1 : Nat → List (S32) → Int → Bool → Option (Bool)
  | 0, _, _, _ => none
  | k + 1, x5, x7, x57 => if x57 = true then (some false) else ((laws_heldTokenS.f k x5 1).bind fun t305 => (if t305 < 0 then (some false) else (if t305 = x7 then (some true) else (some false))))
end
def laws_FnExactTokens.f (k : Nat) (a0 : ByteArray) : Option (Bool) := if (a0.size : Int) > 1048576 then (some true) else ((spec_Tokens.f k a0).bind fun bt288 => ((impl_Tokens.f k a0).bind fun bt292 => ((laws_eqTokenS.f k bt292.1 bt288.1).bind fun t296 => (if t296 = true then (laws_FnExactTokens.j0 k a0 bt288.1 bt288.2 bt292.1 (bt292.2 != bt288.2)) else (laws_FnExactTokens.j0 k a0 bt288.1 bt288.2 bt292.1 true)))))
theorem laws_FnExactTokens.mono_l : ∀ k, (∀ y0 y1 y2 y3 y4, LeO (laws_FnExactTokens.j0 k y0 y1 y2 y3 y4) (laws_FnExactTokens.j0 (k + 1) y0 y1 y2 y3 y4)) ∧ (∀ y0 y1 y2, LeO (laws_FnExactTokens.j1 k y0 y1 y2) (laws_FnExactTokens.j1 (k + 1) y0 y1 y2))
  | 0 => ⟨fun _ _ _ _ _ r h => by simp [laws_FnExactTokens.j0] at h, fun _ _ _ r h => by simp [laws_FnExactTokens.j1] at h⟩
  | k + 1 => by
    obtain ⟨ih0, ih1⟩ := laws_FnExactTokens.mono_l k
    refine ⟨?_, ?_⟩
    · intro y0 y1 y2 y3 y4
      unfold laws_FnExactTokens.j0
      repeat' first
      | (with_reducible exact ih0 _ _ _ _ _)
      | (with_reducible exact ih1 _ _ _)
      | (with_reducible exact impl_Tokens.mono _ _)
      | (with_reducible exact laws_eqTokenS.mono _ _ _)
      | (with_reducible exact laws_heldTokenS.mono _ _ _)
      | (with_reducible exact laws_markTokenS.mono _ _ _)
      | (with_reducible exact spec_Tokens.mono _ _)
      | (with_reducible exact LeO.refl _)
      | (with_reducible exact LeO.none _)
      | (with_reducible refine LeO.ite ?_ ?_)
      | (with_reducible refine LeO.bind ?_ (fun _ => ?_))
      | exact ih0 _ _ _ _ _
      | exact ih1 _ _ _
      | exact impl_Tokens.mono _ _
      | exact laws_eqTokenS.mono _ _ _
      | exact laws_heldTokenS.mono _ _ _
      | exact laws_markTokenS.mono _ _ _
      | exact spec_Tokens.mono _ _
      | exact LeO.none _
      | refine LeO.ite ?_ ?_
      | refine LeO.bind ?_ (fun _ => ?_)
    · intro y0 y1 y2
      unfold laws_FnExactTokens.j1
      repeat' first
      | (with_reducible exact ih0 _ _ _ _ _)
      | (with_reducible exact ih1 _ _ _)
      | (with_reducible exact impl_Tokens.mono _ _)
      | (with_reducible exact laws_eqTokenS.mono _ _ _)
      | (with_reducible exact laws_heldTokenS.mono _ _ _)
      | (with_reducible exact laws_markTokenS.mono _ _ _)
      | (with_reducible exact spec_Tokens.mono _ _)
      | (with_reducible exact LeO.refl _)
      | (with_reducible exact LeO.none _)
      | (with_reducible refine LeO.ite ?_ ?_)
      | (with_reducible refine LeO.bind ?_ (fun _ => ?_))
      | exact ih0 _ _ _ _ _
      | exact ih1 _ _ _
      | exact impl_Tokens.mono _ _
      | exact laws_eqTokenS.mono _ _ _
      | exact laws_heldTokenS.mono _ _ _
      | exact laws_markTokenS.mono _ _ _
      | exact spec_Tokens.mono _ _
      | exact LeO.none _
      | refine LeO.ite ?_ ?_
      | refine LeO.bind ?_ (fun _ => ?_)
theorem laws_FnExactTokens.mono : ∀ a0 k, LeO (laws_FnExactTokens.f k a0) (laws_FnExactTokens.f (k + 1) a0) := by
  intro a0 k
  obtain ⟨ih0, ih1⟩ := laws_FnExactTokens.mono_l k
  unfold laws_FnExactTokens.f
  repeat' first
      | (with_reducible exact ih0 _ _ _ _ _)
      | (with_reducible exact ih1 _ _ _)
      | (with_reducible exact impl_Tokens.mono _ _)
      | (with_reducible exact laws_eqTokenS.mono _ _ _)
      | (with_reducible exact laws_heldTokenS.mono _ _ _)
      | (with_reducible exact laws_markTokenS.mono _ _ _)
      | (with_reducible exact spec_Tokens.mono _ _)
      | (with_reducible exact LeO.refl _)
      | (with_reducible exact LeO.none _)
      | (with_reducible refine LeO.ite ?_ ?_)
      | (with_reducible refine LeO.bind ?_ (fun _ => ?_))
      | exact ih0 _ _ _ _ _
      | exact ih1 _ _ _
      | exact impl_Tokens.mono _ _
      | exact laws_eqTokenS.mono _ _ _
      | exact laws_heldTokenS.mono _ _ _
      | exact laws_markTokenS.mono _ _ _
      | exact spec_Tokens.mono _ _
      | exact LeO.none _
      | refine LeO.ite ?_ ?_
      | refine LeO.bind ?_ (fun _ => ?_)
noncomputable def laws_FnExactTokens.j0v (x0 : ByteArray) (x3 : List (S32)) (x4 : Int) (x5 : List (S32)) (x32 : Bool) : Option (Bool) := limOf (fun k => laws_FnExactTokens.j0 k x0 x3 x4 x5 x32)
theorem laws_FnExactTokens.j0_lim (x0 : ByteArray) (x3 : List (S32)) (x4 : Int) (x5 : List (S32)) (x32 : Bool) : Lim (fun k => laws_FnExactTokens.j0 k x0 x3 x4 x5 x32) (laws_FnExactTokens.j0v x0 x3 x4 x5 x32) := Lim.of (fun k => (laws_FnExactTokens.mono_l k).1 x0 x3 x4 x5 x32)
noncomputable def laws_FnExactTokens.j1v (x5 : List (S32)) (x7 : Int) (x57 : Bool) : Option (Bool) := limOf (fun k => laws_FnExactTokens.j1 k x5 x7 x57)
theorem laws_FnExactTokens.j1_lim (x5 : List (S32)) (x7 : Int) (x57 : Bool) : Lim (fun k => laws_FnExactTokens.j1 k x5 x7 x57) (laws_FnExactTokens.j1v x5 x7 x57) := Lim.of (fun k => (laws_FnExactTokens.mono_l k).2 x5 x7 x57)
noncomputable def laws_FnExactTokens.fv (a0 : ByteArray) : Option (Bool) := limOf (fun k => laws_FnExactTokens.f k a0)
theorem laws_FnExactTokens.f_lim (a0 : ByteArray) : Lim (fun k => laws_FnExactTokens.f k a0) (laws_FnExactTokens.fv a0) := Lim.of (fun k => laws_FnExactTokens.mono a0 k)
set_option maxHeartbeats 4000000 in
theorem laws_FnExactTokens.j0v_eq (x0 : ByteArray) (x3 : List (S32)) (x4 : Int) (x5 : List (S32)) (x32 : Bool) : laws_FnExactTokens.j0v x0 x3 x4 x5 x32 = (if x32 = true then (some false) else ((laws_markTokenS.fv x5 1).bind fun bt297 => ((laws_heldTokenS.fv bt297.2 1).bind fun t299 => (if t299 < 0 then (some false) else (if t299 = bt297.1 then ((impl_Tokens.fv x0).bind fun bt300 => ((laws_eqTokenS.fv bt300.1 x3).bind fun t304 => (if t304 = true then (laws_FnExactTokens.j1v bt297.2 bt297.1 (bt300.2 != x4)) else (laws_FnExactTokens.j1v bt297.2 bt297.1 true)))) else (some false)))))) := by
  refine Lim.succ (laws_FnExactTokens.j0_lim x0 x3 x4 x5 x32) ?_
  simp only [laws_FnExactTokens.j0]
  repeat' first
    | (with_reducible apply impl_Tokens.f_lim)
    | (with_reducible apply laws_FnExactTokens.j1_lim)
    | (with_reducible apply laws_eqTokenS.f_lim)
    | (with_reducible apply laws_heldTokenS.f_lim)
    | (with_reducible apply laws_markTokenS.f_lim)
    | (with_reducible exact Lim.const _)
    | (with_reducible refine Lim.ite ?_ ?_)
    | (with_reducible refine Lim.bind ?_ (fun _ => ?_))
    | apply impl_Tokens.f_lim
    | apply laws_FnExactTokens.j1_lim
    | apply laws_eqTokenS.f_lim
    | apply laws_heldTokenS.f_lim
    | apply laws_markTokenS.f_lim
    | exact Lim.const _
    | refine Lim.ite ?_ ?_
    | refine Lim.bind ?_ (fun _ => ?_)
set_option maxHeartbeats 4000000 in
theorem laws_FnExactTokens.j1v_eq (x5 : List (S32)) (x7 : Int) (x57 : Bool) : laws_FnExactTokens.j1v x5 x7 x57 = (if x57 = true then (some false) else ((laws_heldTokenS.fv x5 1).bind fun t305 => (if t305 < 0 then (some false) else (if t305 = x7 then (some true) else (some false))))) := by
  refine Lim.succ (laws_FnExactTokens.j1_lim x5 x7 x57) ?_
  simp only [laws_FnExactTokens.j1]
  repeat' first
    | (with_reducible apply laws_heldTokenS.f_lim)
    | (with_reducible exact Lim.const _)
    | (with_reducible refine Lim.ite ?_ ?_)
    | (with_reducible refine Lim.bind ?_ (fun _ => ?_))
    | apply laws_heldTokenS.f_lim
    | exact Lim.const _
    | refine Lim.ite ?_ ?_
    | refine Lim.bind ?_ (fun _ => ?_)
set_option maxHeartbeats 4000000 in
theorem laws_FnExactTokens.fv_eq (a0 : ByteArray) : laws_FnExactTokens.fv a0 = (if (a0.size : Int) > 1048576 then (some true) else ((spec_Tokens.fv a0).bind fun bt288 => ((impl_Tokens.fv a0).bind fun bt292 => ((laws_eqTokenS.fv bt292.1 bt288.1).bind fun t296 => (if t296 = true then (laws_FnExactTokens.j0v a0 bt288.1 bt288.2 bt292.1 (bt292.2 != bt288.2)) else (laws_FnExactTokens.j0v a0 bt288.1 bt288.2 bt292.1 true)))))) := by
  refine Lim.eq (laws_FnExactTokens.f_lim a0) ?_
  simp only [laws_FnExactTokens.f]
  repeat' first
    | (with_reducible apply impl_Tokens.f_lim)
    | (with_reducible apply laws_FnExactTokens.j0_lim)
    | (with_reducible apply laws_eqTokenS.f_lim)
    | (with_reducible apply spec_Tokens.f_lim)
    | (with_reducible exact Lim.const _)
    | (with_reducible refine Lim.ite ?_ ?_)
    | (with_reducible refine Lim.bind ?_ (fun _ => ?_))
    | apply impl_Tokens.f_lim
    | apply laws_FnExactTokens.j0_lim
    | apply laws_eqTokenS.f_lim
    | apply spec_Tokens.f_lim
    | exact Lim.const _
    | refine Lim.ite ?_ ?_
    | refine Lim.bind ?_ (fun _ => ?_)

end Go.Proofs.YtelaipnanpfniaaDoor.QFnExactTokens
