/- Written by wip/pr2, a program of this session. -/
import Derived.Test.YtakicaelepgmcaaQFnExactDecSubx0
import Derived.Test.YtakicaelepgmcaaLim
namespace Go.Proofs.Ytakicaelepgmcaa.QFnExactDecSub
open Go.RowKit Go.Proofs.YtakicaelepgmcaaW.PrintWords Go.Proofs.YtakicaelepgmcaaW.PrintLast Go.Proofs.YtakicaelepgmcaaW.PrintMore
attribute [local go_sem] max2_int min2_int max_two min_two max_three min_three max_four min_four   -- for this text's walks alone
set_option linter.unusedVariables false
set_option linter.unusedSimpArgs false

open Go.Proofs.YtakicaelepgmcaaW.Lims
/-! ### spec_l1In -/
def spec_l1In.f (a0 : Int) (a1 : Int) (a2 : Int) : Option (Bool) := if a0 ≥ a1 then (some (decide (a0 ≤ a2))) else (some false)

/-! ### spec_DecOk -/
def spec_DecOk.f (a0 : Int) : Option (Bool) := (spec_l1In.f a0 (-9000000000000) 9000000000000).bind fun t101 => (some t101)

/-! ### spec_l1Right -/
def spec_l1Right.f (a0 : Int) : Option (Int × Bool) := (spec_DecOk.f a0).bind fun t102 => (if t102 = true then (some (a0, true)) else (some (0, false)))

/-! ### spec_DecSub -/
def spec_DecSub.f (a0 : Int) (a1 : Int) : Option (Int × Bool) := (spec_DecOk.f a0).bind fun t103 => (if t103 = true then ((spec_DecOk.f a1).bind fun t104 => (if t104 = true then ((spec_l1Right.f (wrap64 (a0 - a1))).bind fun bt105 => (some (bt105.1, bt105.2))) else (some (0, false)))) else (some (0, false)))

/-! ### impl_in -/
def impl_in.f (a0 : Int) (a1 : Int) (a2 : Int) : Option (Bool) := if a0 ≥ a1 then (some (decide (a0 ≤ a2))) else (some false)

/-! ### impl_DecOk -/
def impl_DecOk.f (a0 : Int) : Option (Bool) := (impl_in.f a0 (-9000000000000) 9000000000000).bind fun t107 => (some t107)

/-! ### impl_right -/
def impl_right.f (a0 : Int) : Option (Int × Bool) := (impl_DecOk.f a0).bind fun t108 => (if t108 = true then (some (a0, true)) else (some (0, false)))

/-! ### impl_DecSub -/
def impl_DecSub.f (a0 : Int) (a1 : Int) : Option (Int × Bool) := (impl_DecOk.f a0).bind fun t109 => (if t109 = true then ((impl_DecOk.f a1).bind fun t110 => (if t110 = true then ((impl_right.f (wrap64 (a0 - a1))).bind fun bt111 => (some (bt111.1, bt111.2))) else (some (0, false)))) else (some (0, false)))

/-! ### laws_FnExactDecSub -/
def laws_FnExactDecSub.f (a0 : Int) (a1 : Int) : Option (Bool) := (spec_DecSub.f a0 a1).bind fun bt113 => ((impl_DecSub.f a0 a1).bind fun bt115 => (if bt115.1 = bt113.1 then (if (bt115.2 != bt113.2) = true then (some false) else (some true)) else (some false)))

end Go.Proofs.Ytakicaelepgmcaa.QFnExactDecSub
