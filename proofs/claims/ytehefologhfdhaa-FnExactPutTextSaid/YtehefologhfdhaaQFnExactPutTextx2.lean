/- Written by wip/pr2, a program of this session. -/
import Derived.Test.YtehefologhfdhaaQFnExactPutTextx0
import Derived.Test.YtehefologhfdhaaQFnExactPutTextx1
namespace Go.Proofs.Ytehefologhfdhaa.QFnExactPutText
open Go.RowKit Go.Proofs.YtehefologhfdhaaW.PrintWords Go.Proofs.YtehefologhfdhaaW.PrintLast Go.Proofs.YtehefologhfdhaaW.PrintMore
attribute [local go_sem] max2_int min2_int max_two min_two max_three min_three max_four min_four   -- for this text's walks alone
set_option linter.unusedVariables false
set_option linter.unusedSimpArgs false
set_option maxHeartbeats 8000000

def laws_FnExactPutText.Pure : Prop := ∀ (x0 : ByteArray), x0.size ≤ maxLen → ∃ k, laws_FnExactPutText.f k x0 = some true

end Go.Proofs.Ytehefologhfdhaa.QFnExactPutText
