/- The program's DecOk returns what the reference's returns, for every whole number. -/
import Derived.Test.YtakicaelepgmcaaQFnExactDecOkx2
namespace Go.Proofs.Ytakicaelepgmcaa.Pure
open Go.RowKit Go.Proofs.Ytakicaelepgmcaa.QFnExactDecOk Go.Proofs.YtakicaelepgmcaaW.PrintWords Go.Proofs.YtakicaelepgmcaaW.PrintLast

theorem FnExactDecOk : laws_FnExactDecOk.Pure := by
  intro a h
  have e : impl_DecOk.f a = spec_DecOk.f a := rfl
  unfold laws_FnExactDecOk.f
  rw [e]
  unfold spec_DecOk.f spec_l1In.f
  by_cases h1 : a ≥ -9000000000000 <;> simp [h1]

end Go.Proofs.Ytakicaelepgmcaa.Pure
