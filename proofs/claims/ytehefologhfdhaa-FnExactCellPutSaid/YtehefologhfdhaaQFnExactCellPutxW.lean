/- Written by wip/pr2, a program of this session. -/
import Derived.Test.YtehefologhfdhaaQFnExactCellPutx0
import Derived.Test.YtehefologhfdhaaWFnExactCellPut
namespace Go.Proofs.Ytehefologhfdhaa.QFnExactCellPut
open Go.RowKit Go.Proofs.YtehefologhfdhaaW.PrintWords Go.Proofs.YtehefologhfdhaaW.PrintLast Go.Proofs.YtehefologhfdhaaW.PrintMore
attribute [local go_sem] max2_int min2_int max_two min_two max_three min_three max_four min_four   -- for this text's walks alone
set_option linter.unusedVariables false
set_option linter.unusedSimpArgs false
set_option maxHeartbeats 8000000

open Go.Proofs.YtehefologhfdhaaW.Opens
def Wf42 (x : S42) : Prop := (Lit.int .i64 x.f0).wf = true ∧ (Lit.int .i64 x.f1).wf = true ∧ x.f2.size ≤ maxLen
theorem opens42 : Opens Try.prog k42 Wf42 42 := fun n =>
  opensAt_iso (fun x : S42 => (x.f0, x.f1, x.f2)) (fun y => ⟨y.1, y.2.1, y.2.2⟩) (fun _ => rfl) (opensAt_struct Try.underlying42 (by kernel_rfl) n (fun m_ hm_ => (fields_cons rfl (by kernel_rfl) (opens_int Try.underlying3 m_) (fields_cons rfl (by kernel_rfl) (opens_int Try.underlying3 m_) (fields_one rfl (by kernel_rfl) (opens_string Try.underlying9 m_))))))
def Wf72 (x : S72) : Prop := (Lit.int .i64 x.f0).wf = true ∧ x.f1.size ≤ maxLen ∧ Wf42 x.f2
theorem opens72 : Opens Try.prog k72 Wf72 72 := fun n =>
  opensAt_iso (fun x : S72 => (x.f0, x.f1, x.f2)) (fun y => ⟨y.1, y.2.1, y.2.2⟩) (fun _ => rfl) (opensAt_struct Try.underlying72 (by kernel_rfl) n (fun m_ hm_ => (fields_cons rfl (by kernel_rfl) (opens_int Try.underlying3 m_) (fields_cons rfl (by kernel_rfl) (opens_string Try.underlying9 m_) (fields_one rfl (by kernel_rfl) (opens42 m_))))))
def Wf30 (x : S30) : Prop := (x.f0.length ≤ maxLen ∧ ∀ x_ ∈ x.f0, Wf42 x_) ∧ (x.f1.length ≤ maxLen ∧ ∀ x_ ∈ x.f1, Wf72 x_) ∧ (Lit.int .i64 x.f2).wf = true ∧ (Lit.int .i64 x.f3).wf = true
theorem opens30 : Opens Try.prog k30 Wf30 30 := fun n =>
  opensAt_iso (fun x : S30 => (x.f0, x.f1, x.f2, x.f3)) (fun y => ⟨y.1, y.2.1, y.2.2.1, y.2.2.2⟩) (fun _ => rfl) (opensAt_struct Try.underlying30 (by kernel_rfl) n (fun m_ hm_ => (fields_cons rfl (by kernel_rfl) (opens_slice Try.underlying27 (by kernel_rfl) (fun m_ => (opens42 m_)) m_) (fields_cons rfl (by kernel_rfl) (opens_slice Try.underlying28 (by kernel_rfl) (fun m_ => (opens72 m_)) m_) (fields_cons rfl (by kernel_rfl) (opens_int Try.underlying3 m_) (fields_one rfl (by kernel_rfl) (opens_int Try.underlying3 m_)))))))
end Go.Proofs.Ytehefologhfdhaa.QFnExactCellPut
