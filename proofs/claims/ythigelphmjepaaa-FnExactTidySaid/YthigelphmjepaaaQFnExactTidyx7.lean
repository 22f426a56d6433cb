/- Written by wip/pr2, a program of this session. -/
import Derived.Test.YthigelphmjepaaaQFnExactTidyx0
import Derived.Test.YthigelphmjepaaaQFnExactTidyx6
import Derived.Test.YthigelphmjepaaaQFnExactTidyxW
namespace Go.Proofs.Ythigelphmjepaaa.QFnExactTidy
open Go.RowKit Go.Proofs.YthigelphmjepaaaW.PrintWords Go.Proofs.YthigelphmjepaaaW.PrintLast Go.Proofs.YthigelphmjepaaaW.PrintMore
attribute [local go_sem] max2_int min2_int max_two min_two max_three min_three max_four min_four   -- for this text's walks alone
set_option linter.unusedVariables false
set_option linter.unusedSimpArgs false
set_option maxHeartbeats 8000000

def laws_FnExactTidy.Pure : Prop := ∀ (x0 : List (S63)), (x0.length ≤ maxLen ∧ ∀ x_ ∈ x0, Wf63 x_) → ∃ k, laws_FnExactTidy.f k x0 = some true

end Go.Proofs.Ythigelphmjepaaa.QFnExactTidy
