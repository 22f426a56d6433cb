/- Written by wip/pr2, a program of this session. -/
import Derived.Test.YtelaipnanpfniaaDoorQFnTokensx0
import Derived.Test.YtelaipnanpfniaaDoorQFnTokensx5
namespace Go.Proofs.YtelaipnanpfniaaDoor.QFnTokens
open Go.RowKit Go.Proofs.YtelaipnanpfniaaDoorW.PrintWords Go.Proofs.YtelaipnanpfniaaDoorW.PrintLast Go.Proofs.YtelaipnanpfniaaDoorW.PrintMore
attribute [local go_sem] max2_int min2_int max_two min_two max_three min_three max_four min_four   -- for this text's walks alone
set_option linter.unusedVariables false
set_option linter.unusedSimpArgs false
set_option maxHeartbeats 8000000

def laws_FnTokens.Pure : Prop := ∀ (x0 : List Int), (x0.length ≤ maxLen ∧ ∀ x_ ∈ x0, (fun n_ : Int => (Lit.int .u8 n_).wf = true) x_) → ∃ k, laws_FnTokens.f k x0 = some true

end Go.Proofs.YtelaipnanpfniaaDoor.QFnTokens
