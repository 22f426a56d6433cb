/- Written by wip/pr2, a program of this session. -/
import Derived.Test.YthigelphmjepaaaQFnExactTidyx0
import Derived.Test.YthigelphmjepaaaQFnExactTidyx1
import Derived.Test.YthigelphmjepaaaQFnExactTidyx3
import Derived.Test.YthigelphmjepaaaQFnExactTidyx5
import Derived.Test.YthigelphmjepaaaWFnExactTidy
namespace Go.Proofs.Ythigelphmjepaaa.QFnExactTidy
open Go.RowKit Go.Proofs.YthigelphmjepaaaW.PrintWords Go.Proofs.YthigelphmjepaaaW.PrintLast Go.Proofs.YthigelphmjepaaaW.PrintMore
attribute [local go_sem] max2_int min2_int max_two min_two max_three min_three max_four min_four   -- for this text's walks alone
set_option linter.unusedVariables false
set_option linter.unusedSimpArgs false
set_option maxHeartbeats 8000000

open Go.Proofs.YthigelphmjepaaaW.Lims
/-! ### laws_FnExactTidy -/
def laws_FnExactTidy.f (k : Nat) (l0 : List (S63)) : Option (Bool) := (laws_szRuleS.f k l0 1048576).bind fun t344 => (if t344 < 0 then (some true) else ((laws_toRuleS.f k l0).bind fun t345 => ((spec_Tidy.f k t345).bind fun t348 => ((laws_toRuleS.f k l0).bind fun t349 => ((impl_Tidy.f k t349).bind fun t352 => (if (t352 != t348) = true then (some false) else ((laws_toRuleS.f k l0).bind fun t353 => ((laws_eqRuleS.f k t349 t353).bind fun t356 => (if t356 = true then (some true) else (some false))))))))))
theorem laws_FnExactTidy.mono : ∀ a0 k, LeO (laws_FnExactTidy.f k a0) (laws_FnExactTidy.f (k + 1) a0) := by
  intro a0 k
  unfold laws_FnExactTidy.f
  repeat' first
      | (with_reducible exact impl_Tidy.mono _ _)
      | (with_reducible exact laws_eqRuleS.mono _ _ _)
      | (with_reducible exact laws_szRuleS.mono _ _ _)
      | (with_reducible exact laws_toRuleS.mono _ _)
      | (with_reducible exact spec_Tidy.mono _ _)
      | (with_reducible exact LeO.refl _)
      | (with_reducible exact LeO.none _)
      | (with_reducible refine LeO.ite ?_ ?_)
      | (with_reducible refine LeO.bind ?_ (fun _ => ?_))
      | exact impl_Tidy.mono _ _
      | exact laws_eqRuleS.mono _ _ _
      | exact laws_szRuleS.mono _ _ _
      | exact laws_toRuleS.mono _ _
      | exact spec_Tidy.mono _ _
      | exact LeO.none _
      | refine LeO.ite ?_ ?_
      | refine LeO.bind ?_ (fun _ => ?_)
noncomputable def laws_FnExactTidy.fv (l0 : List (S63)) : Option (Bool) := limOf (fun k => laws_FnExactTidy.f k l0)
theorem laws_FnExactTidy.f_lim (l0 : List (S63)) : Lim (fun k => laws_FnExactTidy.f k l0) (laws_FnExactTidy.fv l0) := Lim.of (fun k => laws_FnExactTidy.mono l0 k)
set_option maxHeartbeats 4000000 in
theorem laws_FnExactTidy.fv_eq (l0 : List (S63)) : laws_FnExactTidy.fv l0 = ((laws_szRuleS.fv l0 1048576).bind fun t344 => (if t344 < 0 then (some true) else ((laws_toRuleS.fv l0).bind fun t345 => ((spec_Tidy.fv t345).bind fun t348 => ((laws_toRuleS.fv l0).bind fun t349 => ((impl_Tidy.fv t349).bind fun t352 => (if (t352 != t348) = true then (some false) else ((laws_toRuleS.fv l0).bind fun t353 => ((laws_eqRuleS.fv t349 t353).bind fun t356 => (if t356 = true then (some true) else (some false))))))))))) := by
  refine Lim.eq (laws_FnExactTidy.f_lim l0) ?_
  simp only [laws_FnExactTidy.f]
  repeat' first
    | (with_reducible apply impl_Tidy.f_lim)
    | (with_reducible apply laws_eqRuleS.f_lim)
    | (with_reducible apply laws_szRuleS.f_lim)
    | (with_reducible apply laws_toRuleS.f_lim)
    | (with_reducible apply spec_Tidy.f_lim)
    | (with_reducible exact Lim.const _)
    | (with_reducible refine Lim.ite ?_ ?_)
    | (with_reducible refine Lim.bind ?_ (fun _ => ?_))
    | apply impl_Tidy.f_lim
    | apply laws_eqRuleS.f_lim
    | apply laws_szRuleS.f_lim
    | apply laws_toRuleS.f_lim
    | apply spec_Tidy.f_lim
    | exact Lim.const _
    | refine Lim.ite ?_ ?_
    | refine Lim.bind ?_ (fun _ => ?_)

end Go.Proofs.Ythigelphmjepaaa.QFnExactTidy
