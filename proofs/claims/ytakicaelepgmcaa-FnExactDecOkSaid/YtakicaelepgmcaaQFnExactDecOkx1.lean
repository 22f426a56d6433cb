/- Written by wip/pr2, a program of this session. -/
import Derived.Test.YtakicaelepgmcaaQFnExactDecOkx0
import Derived.Test.YtakicaelepgmcaaLim
namespace Go.Proofs.Ytakicaelepgmcaa.QFnExactDecOk
open Go.RowKit Go.Proofs.YtakicaelepgmcaaW.PrintWords Go.Proofs.YtakicaelepgmcaaW.PrintLast Go.Proofs.YtakicaelepgmcaaW.PrintMore
attribute [local go_sem] max2_int min2_int max_two min_two max_three min_three max_four min_four   -- for this text's walks alone
set_option linter.unusedVariables false
set_option linter.unusedSimpArgs false

open Go.Proofs.YtakicaelepgmcaaW.Lims
/-! ### spec_l1In -/
def spec_l1In.f (a0 : Int) (a1 : Int) (a2 : Int) : Option (Bool) := if a0 ≥ a1 then (some (decide (a0 ≤ a2))) else (some false)

/-! ### spec_DecOk -/
def spec_DecOk.f (a0 : Int) : Option (Bool) := (spec_l1In.f a0 (-9000000000000) 9000000000000).bind fun t101 => (some t101)

/-! ### impl_in -/
def impl_in.f (a0 : Int) (a1 : Int) (a2 : Int) : Option (Bool) := if a0 ≥ a1 then (some (decide (a0 ≤ a2))) else (some false)

/-! ### impl_DecOk -/
def impl_DecOk.f (a0 : Int) : Option (Bool) := (impl_in.f a0 (-9000000000000) 9000000000000).bind fun t102 => (some t102)

/-! ### laws_FnExactDecOk -/
def laws_FnExactDecOk.f (a0 : Int) : Option (Bool) := (spec_DecOk.f a0).bind fun t103 => ((impl_DecOk.f a0).bind fun t104 => (if (t104 != t103) = true then (some false) else (some true)))

end Go.Proofs.Ytakicaelepgmcaa.QFnExactDecOk
