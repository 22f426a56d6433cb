/- Written by wip/pr2, a program of this session. -/
import Derived.Test.YtehefologhfdhaaQFnExactCellDropx0
import Derived.Test.YtehefologhfdhaaQFnExactCellDropx2
import Derived.Test.YtehefologhfdhaaQFnExactCellDropxW
namespace Go.Proofs.Ytehefologhfdhaa.QFnExactCellDrop
open Go.RowKit Go.Proofs.YtehefologhfdhaaW.PrintWords Go.Proofs.YtehefologhfdhaaW.PrintLast Go.Proofs.YtehefologhfdhaaW.PrintMore
attribute [local go_sem] max2_int min2_int max_two min_two max_three min_three max_four min_four   -- for this text's walks alone
set_option linter.unusedVariables false
set_option linter.unusedSimpArgs false
set_option maxHeartbeats 8000000

def laws_FnExactCellDrop.Pure : Prop := ∀ (x0 : S30) (x1 : Int) (x2 : ByteArray), Wf30 x0 → (Lit.int .i64 x1).wf = true → x2.size ≤ maxLen → ∃ k, laws_FnExactCellDrop.f k x0.f0 x0.f1 x0.f2 x0.f3 x1 x2 = some true

end Go.Proofs.Ytehefologhfdhaa.QFnExactCellDrop
