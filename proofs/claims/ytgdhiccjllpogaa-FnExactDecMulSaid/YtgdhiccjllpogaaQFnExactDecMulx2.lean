/- Written by wip/pr2, a program of this session. -/
import Derived.Test.YtgdhiccjllpogaaQFnExactDecMulx0
import Derived.Test.YtgdhiccjllpogaaQFnExactDecMulx1
namespace Go.Proofs.Ytgdhiccjllpogaa.QFnExactDecMul
open Go.RowKit Go.Proofs.YtgdhiccjllpogaaW.PrintWords Go.Proofs.YtgdhiccjllpogaaW.PrintLast Go.Proofs.YtgdhiccjllpogaaW.PrintMore
attribute [local go_sem] max2_int min2_int max_two min_two max_three min_three max_four min_four   -- for this text's walks alone
set_option linter.unusedVariables false
set_option linter.unusedSimpArgs false
set_option maxHeartbeats 8000000

def laws_FnExactDecMul.Pure : Prop := ∀ (x0 : Int) (x1 : Int), (Lit.int .i64 x0).wf = true → (Lit.int .i64 x1).wf = true → ∃ k, laws_FnExactDecMul.f k x0 x1 = some true

end Go.Proofs.Ytgdhiccjllpogaa.QFnExactDecMul
