/- Written by wip/pr2, a program of this session. -/
import Derived.Test.YtakicaelepgmcaaQFnExactConstantsx0
import Derived.Test.YtakicaelepgmcaaLim
namespace Go.Proofs.Ytakicaelepgmcaa.QFnExactConstants
open Go.RowKit Go.Proofs.YtakicaelepgmcaaW.PrintWords Go.Proofs.YtakicaelepgmcaaW.PrintLast Go.Proofs.YtakicaelepgmcaaW.PrintMore
attribute [local go_sem] max2_int min2_int max_two min_two max_three min_three max_four min_four   -- for this text's walks alone
set_option linter.unusedVariables false
set_option linter.unusedSimpArgs false

open Go.Proofs.YtakicaelepgmcaaW.Lims
/-! ### laws_FnExactConstants -/
def laws_FnExactConstants.f  : Option (Bool) := some true

end Go.Proofs.Ytakicaelepgmcaa.QFnExactConstants
