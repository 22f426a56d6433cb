/- Written by wip/pr2, a program of this session. -/
import Derived.Test.YthigelphmjepaaaDoorQFnExactValOkx0
import Derived.Test.YthigelphmjepaaaDoorQFnExactValOkx2
import Derived.Test.YthigelphmjepaaaDoorQFnExactValOkxW
namespace Go.Proofs.YthigelphmjepaaaDoor.QFnExactValOk
open Go.RowKit Go.Proofs.YthigelphmjepaaaDoorW.PrintWords Go.Proofs.YthigelphmjepaaaDoorW.PrintLast Go.Proofs.YthigelphmjepaaaDoorW.PrintMore
attribute [local go_sem] max2_int min2_int max_two min_two max_three min_three max_four min_four   -- for this text's walks alone
set_option linter.unusedVariables false
set_option linter.unusedSimpArgs false
set_option maxHeartbeats 8000000

def laws_FnExactValOk.Pure : Prop := ∀ (x0 : S25), Wf25 x0 → ∃ k, laws_FnExactValOk.f k x0.f0 x0.f1 x0.f2 = some true

end Go.Proofs.YthigelphmjepaaaDoor.QFnExactValOk
