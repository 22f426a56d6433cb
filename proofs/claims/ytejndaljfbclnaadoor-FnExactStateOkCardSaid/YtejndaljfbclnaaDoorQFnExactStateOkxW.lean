/- Written by wip/pr2, a program of this session. -/
import Derived.Test.YtejndaljfbclnaaDoorQFnExactStateOkx0
import Derived.Test.YtejndaljfbclnaaDoorWFnExactStateOk
namespace Go.Proofs.YtejndaljfbclnaaDoor.QFnExactStateOk
open Go.RowKit Go.Proofs.YtejndaljfbclnaaDoorW.PrintWords Go.Proofs.YtejndaljfbclnaaDoorW.PrintLast Go.Proofs.YtejndaljfbclnaaDoorW.PrintMore
attribute [local go_sem] max2_int min2_int max_two min_two max_three min_three max_four min_four   -- for this text's walks alone
set_option linter.unusedVariables false
set_option linter.unusedSimpArgs false
set_option maxHeartbeats 8000000

open Go.Proofs.YtejndaljfbclnaaDoorW.Opens
def Wf23 (x : S23) : Prop := (Lit.int .i64 x.f0).wf = true ∧ (Lit.int .i64 x.f1).wf = true ∧ x.f2.size ≤ maxLen
theorem opens23 : Opens Tryd.prog k23 Wf23 23 := fun n =>
  opensAt_iso (fun x : S23 => (x.f0, x.f1, x.f2)) (fun y => ⟨y.1, y.2.1, y.2.2⟩) (fun _ => rfl) (opensAt_struct Tryd.underlying23 (by kernel_rfl) n (fun m_ hm_ => (fields_cons rfl (by kernel_rfl) (opens_int Tryd.underlying3 m_) (fields_cons rfl (by kernel_rfl) (opens_int Tryd.underlying3 m_) (fields_one rfl (by kernel_rfl) (opens_string Tryd.underlying9 m_))))))
def Wf128 (x : S128) : Prop := (Lit.int .i64 x.f0).wf = true ∧ x.f1.size ≤ maxLen ∧ Wf23 x.f2
theorem opens128 : Opens Tryd.prog k128 Wf128 128 := fun n =>
  opensAt_iso (fun x : S128 => (x.f0, x.f1, x.f2)) (fun y => ⟨y.1, y.2.1, y.2.2⟩) (fun _ => rfl) (opensAt_struct Tryd.underlying128 (by kernel_rfl) n (fun m_ hm_ => (fields_cons rfl (by kernel_rfl) (opens_int Tryd.underlying3 m_) (fields_cons rfl (by kernel_rfl) (opens_string Tryd.underlying9 m_) (fields_one rfl (by kernel_rfl) (opens23 m_))))))
def Wf48 (x : S48) : Prop := (x.f0.length ≤ maxLen ∧ ∀ x_ ∈ x.f0, Wf23 x_) ∧ (x.f1.length ≤ maxLen ∧ ∀ x_ ∈ x.f1, Wf128 x_) ∧ (Lit.int .i64 x.f2).wf = true ∧ (Lit.int .i64 x.f3).wf = true
theorem opens48 : Opens Tryd.prog k48 Wf48 48 := fun n =>
  opensAt_iso (fun x : S48 => (x.f0, x.f1, x.f2, x.f3)) (fun y => ⟨y.1, y.2.1, y.2.2.1, y.2.2.2⟩) (fun _ => rfl) (opensAt_struct Tryd.underlying48 (by kernel_rfl) n (fun m_ hm_ => (fields_cons rfl (by kernel_rfl) (opens_slice Tryd.underlying45 (by kernel_rfl) (fun m_ => (opens23 m_)) m_) (fields_cons rfl (by kernel_rfl) (opens_slice Tryd.underlying46 (by kernel_rfl) (fun m_ => (opens128 m_)) m_) (fields_cons rfl (by kernel_rfl) (opens_int Tryd.underlying3 m_) (fields_one rfl (by kernel_rfl) (opens_int Tryd.underlying3 m_)))))))
end Go.Proofs.YtejndaljfbclnaaDoor.QFnExactStateOk
