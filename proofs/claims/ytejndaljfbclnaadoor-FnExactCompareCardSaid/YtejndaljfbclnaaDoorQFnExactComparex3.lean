/- Written by wip/pr2, a program of this session. -/
import Derived.Test.YtejndaljfbclnaaDoorQFnExactComparex0
import Derived.Test.YtejndaljfbclnaaDoorQFnExactComparex2
import Derived.Test.YtejndaljfbclnaaDoorQFnExactComparexW
namespace Go.Proofs.YtejndaljfbclnaaDoor.QFnExactCompare
open Go.RowKit Go.Proofs.YtejndaljfbclnaaDoorW.PrintWords Go.Proofs.YtejndaljfbclnaaDoorW.PrintLast Go.Proofs.YtejndaljfbclnaaDoorW.PrintMore
attribute [local go_sem] max2_int min2_int max_two min_two max_three min_three max_four min_four   -- for this text's walks alone
set_option linter.unusedVariables false
set_option linter.unusedSimpArgs false
set_option maxHeartbeats 8000000

def laws_FnExactCompare.Pure : Prop := ∀ (x0 : S23) (x1 : S23), Wf23 x0 → Wf23 x1 → ∃ k, laws_FnExactCompare.f k x0.f0 x0.f1 x0.f2 x1.f0 x1.f1 x1.f2 = some true

end Go.Proofs.YtejndaljfbclnaaDoor.QFnExactCompare
