/- Written by wip/pr2, a program of this session. -/
import Derived.Test.YtgdhiccjllpogaaQFnExactCmdOkx0
import Derived.Test.YtgdhiccjllpogaaQFnExactCmdOkx1
import Derived.Test.YtgdhiccjllpogaaQFnExactCmdOkxW
namespace Go.Proofs.Ytgdhiccjllpogaa.QFnExactCmdOk
open Go.RowKit Go.Proofs.YtgdhiccjllpogaaW.PrintWords Go.Proofs.YtgdhiccjllpogaaW.PrintLast Go.Proofs.YtgdhiccjllpogaaW.PrintMore
attribute [local go_sem] max2_int min2_int max_two min_two max_three min_three max_four min_four   -- for this text's walks alone
set_option linter.unusedVariables false
set_option linter.unusedSimpArgs false

def laws_FnExactCmdOk.Pure : Prop := ∀ (x0 : S33), Wf33 x0 → ∃ k, laws_FnExactCmdOk.f k x0.f0 x0.f1 x0.f2 = some true

end Go.Proofs.Ytgdhiccjllpogaa.QFnExactCmdOk
