/- Written by wip/pr2, a program of this session. -/
import Derived.Test.YtgdhiccjllpogaaQFnExactCmdOkx0
import Derived.Test.YtgdhiccjllpogaaOpen
namespace Go.Proofs.Ytgdhiccjllpogaa.QFnExactCmdOk
open Go.RowKit Go.Proofs.YtgdhiccjllpogaaW.PrintWords Go.Proofs.YtgdhiccjllpogaaW.PrintLast Go.Proofs.YtgdhiccjllpogaaW.PrintMore
attribute [local go_sem] max2_int min2_int max_two min_two max_three min_three max_four min_four   -- for this text's walks alone
set_option linter.unusedVariables false
set_option linter.unusedSimpArgs false

open Go.Proofs.YtgdhiccjllpogaaW.Opens
def Wf33 (x : S33) : Prop := (Lit.int .i64 x.f0).wf = true ∧ (Lit.int .i64 x.f1).wf = true ∧ x.f2.size ≤ maxLen
theorem opens33 : Opens Try.prog k33 Wf33 33 := fun n =>
  opensAt_iso (fun x : S33 => (x.f0, x.f1, x.f2)) (fun y => ⟨y.1, y.2.1, y.2.2⟩) (fun _ => rfl) (opensAt_struct Try.underlying33 (by kernel_rfl) n (fun m_ hm_ => (fields_cons rfl (by kernel_rfl) (opens_int Try.underlying3 m_) (fields_cons rfl (by kernel_rfl) (opens_int Try.underlying3 m_) (fields_one rfl (by kernel_rfl) (opens_string Try.underlying9 m_))))))
end Go.Proofs.Ytgdhiccjllpogaa.QFnExactCmdOk
