/- Written by wip/pr2, a program of this session. -/
import Derived.Test.YtgdhiccjllpogaaQFnExactNfaOkx0
import Derived.Test.YtgdhiccjllpogaaQFnExactNfaOkx1
import Derived.Test.YtgdhiccjllpogaaQFnExactNfaOkxW
namespace Go.Proofs.Ytgdhiccjllpogaa.QFnExactNfaOk
open Go.RowKit Go.Proofs.YtgdhiccjllpogaaW.PrintWords Go.Proofs.YtgdhiccjllpogaaW.PrintLast Go.Proofs.YtgdhiccjllpogaaW.PrintMore
attribute [local go_sem] max2_int min2_int max_two min_two max_three min_three max_four min_four   -- for this text's walks alone
set_option linter.unusedVariables false
set_option linter.unusedSimpArgs false

def laws_FnExactNfaOk.Pure : Prop := ∀ (x0 : List (S88)), (x0.length ≤ maxLen ∧ ∀ x_ ∈ x0, Wf88 x_) → ∃ k, laws_FnExactNfaOk.f k x0 = some true

end Go.Proofs.Ytgdhiccjllpogaa.QFnExactNfaOk
