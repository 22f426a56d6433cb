/- Written by wip/pr2, a program of this session. -/
import Derived.Test.YtgdhiccjllpogaaQFnExactCellGetx0
import Derived.Test.YtgdhiccjllpogaaOpen
namespace Go.Proofs.Ytgdhiccjllpogaa.QFnExactCellGet
open Go.RowKit Go.Proofs.YtgdhiccjllpogaaW.PrintWords Go.Proofs.YtgdhiccjllpogaaW.PrintLast Go.Proofs.YtgdhiccjllpogaaW.PrintMore
attribute [local go_sem] max2_int min2_int max_two min_two max_three min_three max_four min_four   -- for this text's walks alone
set_option linter.unusedVariables false
set_option linter.unusedSimpArgs false

open Go.Proofs.YtgdhiccjllpogaaW.Opens
def Wf73 (x : S73) : Prop := (Lit.int .i64 x.f0).wf = true ∧ (Lit.int .i64 x.f1).wf = true ∧ x.f2.size ≤ maxLen
theorem opens73 : Opens Try.prog k73 Wf73 73 := fun n =>
  opensAt_iso (fun x : S73 => (x.f0, x.f1, x.f2)) (fun y => ⟨y.1, y.2.1, y.2.2⟩) (fun _ => rfl) (opensAt_struct Try.underlying73 (by kernel_rfl) n (fun m_ hm_ => (fields_cons rfl (by kernel_rfl) (opens_int Try.underlying3 m_) (fields_cons rfl (by kernel_rfl) (opens_int Try.underlying3 m_) (fields_one rfl (by kernel_rfl) (opens_string Try.underlying9 m_))))))
def Wf152 (x : S152) : Prop := (Lit.int .i64 x.f0).wf = true ∧ x.f1.size ≤ maxLen ∧ Wf73 x.f2
theorem opens152 : Opens Try.prog k152 Wf152 152 := fun n =>
  opensAt_iso (fun x : S152 => (x.f0, x.f1, x.f2)) (fun y => ⟨y.1, y.2.1, y.2.2⟩) (fun _ => rfl) (opensAt_struct Try.underlying152 (by kernel_rfl) n (fun m_ hm_ => (fields_cons rfl (by kernel_rfl) (opens_int Try.underlying3 m_) (fields_cons rfl (by kernel_rfl) (opens_string Try.underlying9 m_) (fields_one rfl (by kernel_rfl) (opens73 m_))))))
def Wf50 (x : S50) : Prop := (x.f0.length ≤ maxLen ∧ ∀ x_ ∈ x.f0, Wf73 x_) ∧ (x.f1.length ≤ maxLen ∧ ∀ x_ ∈ x.f1, Wf152 x_) ∧ (Lit.int .i64 x.f2).wf = true ∧ (Lit.int .i64 x.f3).wf = true
theorem opens50 : Opens Try.prog k50 Wf50 50 := fun n =>
  opensAt_iso (fun x : S50 => (x.f0, x.f1, x.f2, x.f3)) (fun y => ⟨y.1, y.2.1, y.2.2.1, y.2.2.2⟩) (fun _ => rfl) (opensAt_struct Try.underlying50 (by kernel_rfl) n (fun m_ hm_ => (fields_cons rfl (by kernel_rfl) (opens_slice Try.underlying47 (by kernel_rfl) (fun m_ => (opens73 m_)) m_) (fields_cons rfl (by kernel_rfl) (opens_slice Try.underlying48 (by kernel_rfl) (fun m_ => (opens152 m_)) m_) (fields_cons rfl (by kernel_rfl) (opens_int Try.underlying3 m_) (fields_one rfl (by kernel_rfl) (opens_int Try.underlying3 m_)))))))
end Go.Proofs.Ytgdhiccjllpogaa.QFnExactCellGet
