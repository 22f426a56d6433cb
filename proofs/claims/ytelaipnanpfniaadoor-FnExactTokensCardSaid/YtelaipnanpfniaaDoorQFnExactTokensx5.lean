/- Written by wip/pr2, a program of this session. -/
import Derived.Test.YtelaipnanpfniaaDoorQFnExactTokensx0
import Derived.Test.YtelaipnanpfniaaDoorQFnExactTokensx4
namespace Go.Proofs.YtelaipnanpfniaaDoor.QFnExactTokens
open Go.RowKit Go.Proofs.YtelaipnanpfniaaDoorW.PrintWords Go.Proofs.YtelaipnanpfniaaDoorW.PrintLast Go.Proofs.YtelaipnanpfniaaDoorW.PrintMore
attribute [local go_sem] max2_int min2_int max_two min_two max_three min_three max_four min_four   -- for this text's walks alone
set_option linter.unusedVariables false
set_option linter.unusedSimpArgs false
set_option maxHeartbeats 8000000

def laws_FnExactTokens.Pure : Prop := ∀ (x0 : ByteArray), x0.size ≤ maxLen → ∃ k, laws_FnExactTokens.f k x0 = some true

end Go.Proofs.YtelaipnanpfniaaDoor.QFnExactTokens
