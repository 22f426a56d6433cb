/- Written by wip/pr2, a program of this session. -/
import Derived.Test.YtakicaelepgmcaaQFnExactDecIntx0
import Derived.Test.YtakicaelepgmcaaLim
namespace Go.Proofs.Ytakicaelepgmcaa.QFnExactDecInt
open Go.RowKit Go.Proofs.YtakicaelepgmcaaW.PrintWords Go.Proofs.YtakicaelepgmcaaW.PrintLast Go.Proofs.YtakicaelepgmcaaW.PrintMore
attribute [local go_sem] max2_int min2_int max_two min_two max_three min_three max_four min_four   -- for this text's walks alone
set_option linter.unusedVariables false
set_option linter.unusedSimpArgs false

open Go.Proofs.YtakicaelepgmcaaW.Lims
/-! ### spec_DecInt -/
def spec_DecInt.f (a0 : Int) : Option (Int) := some (wrap64 ((wrap64 (Int.tdiv a0 1000000)) * 1000000))

/-! ### impl_DecInt -/
def impl_DecInt.f (a0 : Int) : Option (Int) := some (wrap64 (a0 - (Int.tmod a0 1000000)))

/-! ### laws_FnExactDecInt -/
def laws_FnExactDecInt.f (a0 : Int) : Option (Bool) := (spec_DecInt.f a0).bind fun t101 => ((impl_DecInt.f a0).bind fun t102 => (if t102 = t101 then (some true) else (some false)))

end Go.Proofs.Ytakicaelepgmcaa.QFnExactDecInt
