/- Written by wip/pr2, a program of this session. -/
import Derived.Test.YtakicaelepgmcaaQFnExactTruthx0
import Derived.Test.YtakicaelepgmcaaQFnExactTruthx1
import Derived.Test.YtakicaelepgmcaaQFnExactTruthxW
namespace Go.Proofs.Ytakicaelepgmcaa.QFnExactTruth
open Go.RowKit Go.Proofs.YtakicaelepgmcaaW.PrintWords Go.Proofs.YtakicaelepgmcaaW.PrintLast Go.Proofs.YtakicaelepgmcaaW.PrintMore
attribute [local go_sem] max2_int min2_int max_two min_two max_three min_three max_four min_four   -- for this text's walks alone
set_option linter.unusedVariables false
set_option linter.unusedSimpArgs false

def laws_FnExactTruth.Pure : Prop := ∀ (x0 : S30), Wf30 x0 → ∃ k, laws_FnExactTruth.f k x0.f0 x0.f1 x0.f2 = some true

end Go.Proofs.Ytakicaelepgmcaa.QFnExactTruth
