/- Written by wip/pr2, a program of this session. -/
import Derived.Test.YtejndaljfbclnaaDoorQFnExactStateOkx0
import Derived.Test.YtejndaljfbclnaaDoorQFnExactStateOkx3
import Derived.Test.YtejndaljfbclnaaDoorQFnExactStateOkxW
namespace Go.Proofs.YtejndaljfbclnaaDoor.QFnExactStateOk
open Go.RowKit Go.Proofs.YtejndaljfbclnaaDoorW.PrintWords Go.Proofs.YtejndaljfbclnaaDoorW.PrintLast Go.Proofs.YtejndaljfbclnaaDoorW.PrintMore
attribute [local go_sem] max2_int min2_int max_two min_two max_three min_three max_four min_four   -- for this text's walks alone
set_option linter.unusedVariables false
set_option linter.unusedSimpArgs false
set_option maxHeartbeats 8000000

def laws_FnExactStateOk.Pure : Prop := ∀ (x0 : S48) (x1 : Int) (x2 : Int), Wf48 x0 → (Lit.int .i64 x1).wf = true → (Lit.int .i64 x2).wf = true → ∃ k, laws_FnExactStateOk.f k x0.f0 x0.f1 x0.f2 x0.f3 x1 x2 = some true

end Go.Proofs.YtejndaljfbclnaaDoor.QFnExactStateOk
