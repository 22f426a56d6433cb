/- Written by wip/pr2, a program of this session. -/
import Derived.Test.YtgdhiccjllpogaaQFnExactStateNewx0
import Derived.Test.YtgdhiccjllpogaaQFnExactStateNewx1
namespace Go.Proofs.Ytgdhiccjllpogaa.QFnExactStateNew
open Go.RowKit Go.Proofs.YtgdhiccjllpogaaW.PrintWords Go.Proofs.YtgdhiccjllpogaaW.PrintLast Go.Proofs.YtgdhiccjllpogaaW.PrintMore
attribute [local go_sem] max2_int min2_int max_two min_two max_three min_three max_four min_four   -- for this text's walks alone
set_option linter.unusedVariables false
set_option linter.unusedSimpArgs false

def laws_FnExactStateNew.Pure : Prop := ∀ (x0 : Int), (Lit.int .i64 x0).wf = true → ∃ k, laws_FnExactStateNew.f k x0 = some true

end Go.Proofs.Ytgdhiccjllpogaa.QFnExactStateNew
