/- Written by wip/pr2, a program of this session. -/
import Derived.Test.YtakicaelepgmcaaQFnExactPutNumx0
import Derived.Test.YtakicaelepgmcaaQFnExactPutNumx1
namespace Go.Proofs.Ytakicaelepgmcaa.QFnExactPutNum
open Go.RowKit Go.Proofs.YtakicaelepgmcaaW.PrintWords Go.Proofs.YtakicaelepgmcaaW.PrintLast Go.Proofs.YtakicaelepgmcaaW.PrintMore
attribute [local go_sem] max2_int min2_int max_two min_two max_three min_three max_four min_four   -- for this text's walks alone
set_option linter.unusedVariables false
set_option linter.unusedSimpArgs false

def laws_FnExactPutNum.Pure : Prop := ∀ (x0 : Int), (Lit.int .i64 x0).wf = true → ∃ k, laws_FnExactPutNum.f k x0 = some true

end Go.Proofs.Ytakicaelepgmcaa.QFnExactPutNum
