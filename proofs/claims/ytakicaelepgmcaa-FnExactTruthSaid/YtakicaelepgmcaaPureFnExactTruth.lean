/- The program's Truth returns what the reference's returns, for every value. -/
import Derived.Test.YtakicaelepgmcaaQFnExactTruthx2
import Derived.Test.YtakicaelepgmcaaLim
namespace Go.Proofs.Ytakicaelepgmcaa.Pure
open Go.RowKit Go.Proofs.Ytakicaelepgmcaa.QFnExactTruth Go.Proofs.YtakicaelepgmcaaW.PrintWords Go.Proofs.YtakicaelepgmcaaW.PrintLast Go.Proofs.YtakicaelepgmcaaW.PrintMore Go.Proofs.YtakicaelepgmcaaW.Lims
namespace FnExactTruthAid

theorem none_ : True := trivial
end FnExactTruthAid
open FnExactTruthAid

theorem FnExactTruth : laws_FnExactTruth.Pure := by
  intro x hx
  refine (laws_FnExactTruth.f_lim _ _ _).get ?_
  have hs := len_le hx.2.2
  have same : ∀ a b c, impl_Truth.fv a b c = spec_Truth.fv a b c := by
    intro a b c
    rw [impl_Truth.fv_eq, spec_Truth.fv_eq]
    simp only [impl_Truth.j0v_eq, spec_Truth.j0v_eq]
  have is : ∀ a b c, ∃ r, spec_Truth.fv a b c = some r := by
    intro a b c
    rw [spec_Truth.fv_eq]
    simp only [spec_Truth.j0v_eq]
    repeat' split
    all_goals exact ⟨_, rfl⟩
  obtain ⟨r, hr⟩ := is x.f0 x.f1 x.f2
  rw [laws_FnExactTruth.fv_eq]
  unfold laws_szVal.f laws_toVal.f
  simp only [same, hr, Option.bind_some]
  rw [wrap_in (by omega) (by omega)]
  split
  · simp
  · simp only [Option.bind_some]
    rw [if_neg (by omega)]
    simp

end Go.Proofs.Ytakicaelepgmcaa.Pure
