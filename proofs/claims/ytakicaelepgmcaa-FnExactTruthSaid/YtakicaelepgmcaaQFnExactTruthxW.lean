/- Written by wip/pr2, a program of this session. -/
import Derived.Test.YtakicaelepgmcaaQFnExactTruthx0
import Derived.Test.YtakicaelepgmcaaOpen
namespace Go.Proofs.Ytakicaelepgmcaa.QFnExactTruth
open Go.RowKit Go.Proofs.YtakicaelepgmcaaW.PrintWords Go.Proofs.YtakicaelepgmcaaW.PrintLast Go.Proofs.YtakicaelepgmcaaW.PrintMore
attribute [local go_sem] max2_int min2_int max_two min_two max_three min_three max_four min_four   -- for this text's walks alone
set_option linter.unusedVariables false
set_option linter.unusedSimpArgs false

open Go.Proofs.YtakicaelepgmcaaW.Opens
def Wf30 (x : S30) : Prop := (Lit.int .i64 x.f0).wf = true ∧ (Lit.int .i64 x.f1).wf = true ∧ x.f2.size ≤ maxLen
theorem opens30 : Opens Try.prog k30 Wf30 30 := fun n =>
  opensAt_iso (fun x : S30 => (x.f0, x.f1, x.f2)) (fun y => ⟨y.1, y.2.1, y.2.2⟩) (fun _ => rfl) (opensAt_struct Try.underlying30 (by kernel_rfl) n (fun m_ hm_ => (fields_cons rfl (by kernel_rfl) (opens_int Try.underlying3 m_) (fields_cons rfl (by kernel_rfl) (opens_int Try.underlying3 m_) (fields_one rfl (by kernel_rfl) (opens_string Try.underlying9 m_))))))
end Go.Proofs.Ytakicaelepgmcaa.QFnExactTruth
