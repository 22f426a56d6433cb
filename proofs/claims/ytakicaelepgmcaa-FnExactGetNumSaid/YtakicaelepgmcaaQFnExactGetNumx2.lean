/- Written by wip/pr2, a program of this session. -/
import Derived.Test.YtakicaelepgmcaaQFnExactGetNumx0
import Derived.Test.YtakicaelepgmcaaQFnExactGetNumx1
namespace Go.Proofs.Ytakicaelepgmcaa.QFnExactGetNum
open Go.RowKit Go.Proofs.YtakicaelepgmcaaW.PrintWords Go.Proofs.YtakicaelepgmcaaW.PrintLast Go.Proofs.YtakicaelepgmcaaW.PrintMore
attribute [local go_sem] max2_int min2_int max_two min_two max_three min_three max_four min_four   -- for this text's walks alone
set_option linter.unusedVariables false
set_option linter.unusedSimpArgs false

def laws_FnExactGetNum.Pure : Prop := ∀ (x0 : List Int) (x1 : Int), (x0.length ≤ maxLen ∧ ∀ x_ ∈ x0, (fun n_ : Int => (Lit.int .u8 n_).wf = true) x_) → (Lit.int .i64 x1).wf = true → ∃ k, laws_FnExactGetNum.f k x0 x1 = some true

end Go.Proofs.Ytakicaelepgmcaa.QFnExactGetNum
