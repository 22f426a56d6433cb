/- The program's DecSub returns what the reference's returns, for all whole numbers. -/
import Derived.Test.YtakicaelepgmcaaQFnExactDecSubx2
namespace Go.Proofs.Ytakicaelepgmcaa.Pure
open Go.RowKit Go.Proofs.Ytakicaelepgmcaa.QFnExactDecSub Go.Proofs.YtakicaelepgmcaaW.PrintWords Go.Proofs.YtakicaelepgmcaaW.PrintLast

theorem in_some (a b c : Int) : spec_l1In.f a b c = some (decide (b ≤ a ∧ a ≤ c)) := by
  unfold spec_l1In.f
  by_cases h : a ≥ b
  · rw [if_pos h]; simp [h]
  · rw [if_neg h]; simp; omega

theorem dec_some (a b : Int) : ∃ r, spec_DecSub.f a b = some r := by
  unfold spec_DecSub.f spec_l1Right.f spec_DecOk.f
  simp only [in_some, Option.bind_some]
  repeat' split
  all_goals exact ⟨_, rfl⟩

theorem FnExactDecSub : laws_FnExactDecSub.Pure := by
  intro a b ha hb
  have e : impl_DecSub.f a b = spec_DecSub.f a b := rfl
  unfold laws_FnExactDecSub.f
  rw [e]
  obtain ⟨r, hr⟩ := dec_some a b
  rw [hr]
  simp

end Go.Proofs.Ytakicaelepgmcaa.Pure
