/- Written by wip/pr2, a program of this session. -/
import Derived.Test.YtgdhiccjllpogaaQFnExactCellGetx0
import Derived.Test.YtgdhiccjllpogaaQFnExactCellGetx1
import Derived.Test.YtgdhiccjllpogaaQFnExactCellGetxW
namespace Go.Proofs.Ytgdhiccjllpogaa.QFnExactCellGet
open Go.RowKit Go.Proofs.YtgdhiccjllpogaaW.PrintWords Go.Proofs.YtgdhiccjllpogaaW.PrintLast Go.Proofs.YtgdhiccjllpogaaW.PrintMore
attribute [local go_sem] max2_int min2_int max_two min_two max_three min_three max_four min_four   -- for this text's walks alone
set_option linter.unusedVariables false
set_option linter.unusedSimpArgs false

def laws_FnExactCellGet.Pure : Prop := ∀ (x0 : S50) (x1 : Int) (x2 : ByteArray), Wf50 x0 → (Lit.int .i64 x1).wf = true → x2.size ≤ maxLen → ∃ k, laws_FnExactCellGet.f k x0.f0 x0.f1 x0.f2 x0.f3 x1 x2 = some true

end Go.Proofs.Ytgdhiccjllpogaa.QFnExactCellGet
