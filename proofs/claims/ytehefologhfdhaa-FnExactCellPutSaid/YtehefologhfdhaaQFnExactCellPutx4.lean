/- Written by wip/pr2, a program of this session. -/
import Derived.Test.YtehefologhfdhaaQFnExactCellPutx0
import Derived.Test.YtehefologhfdhaaQFnExactCellPutx3
import Derived.Test.YtehefologhfdhaaQFnExactCellPutxW
namespace Go.Proofs.Ytehefologhfdhaa.QFnExactCellPut
open Go.RowKit Go.Proofs.YtehefologhfdhaaW.PrintWords Go.Proofs.YtehefologhfdhaaW.PrintLast Go.Proofs.YtehefologhfdhaaW.PrintMore
attribute [local go_sem] max2_int min2_int max_two min_two max_three min_three max_four min_four   -- for this text's walks alone
set_option linter.unusedVariables false
set_option linter.unusedSimpArgs false
set_option maxHeartbeats 8000000

def laws_FnExactCellPut.Pure : Prop := ∀ (x0 : S30) (x1 : Int) (x2 : ByteArray) (x3 : S42), Wf30 x0 → (Lit.int .i64 x1).wf = true → x2.size ≤ maxLen → Wf42 x3 → ∃ k, laws_FnExactCellPut.f k x0.f0 x0.f1 x0.f2 x0.f3 x1 x2 x3.f0 x3.f1 x3.f2 = some true

end Go.Proofs.Ytehefologhfdhaa.QFnExactCellPut
