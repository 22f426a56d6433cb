/- Written by wip/pr2, a program of this session. -/
import Derived.Test.YtakicaelepgmcaaQFnExactKeywordx0
import Derived.Test.YtakicaelepgmcaaQFnExactKeywordx1
namespace Go.Proofs.Ytakicaelepgmcaa.QFnExactKeyword
open Go.RowKit Go.Proofs.YtakicaelepgmcaaW.PrintWords Go.Proofs.YtakicaelepgmcaaW.PrintLast Go.Proofs.YtakicaelepgmcaaW.PrintMore
attribute [local go_sem] max2_int min2_int max_two min_two max_three min_three max_four min_four   -- for this text's walks alone
set_option linter.unusedVariables false
set_option linter.unusedSimpArgs false

def laws_FnExactKeyword.Pure : Prop := ∀ (x0 : ByteArray), x0.size ≤ maxLen → ∃ k, laws_FnExactKeyword.f k x0 = some true

end Go.Proofs.Ytakicaelepgmcaa.QFnExactKeyword
