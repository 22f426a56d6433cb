/- The program's DecInt returns what the reference's returns, for every whole number. -/
import Derived.Test.YtakicaelepgmcaaQFnExactDecIntx2
namespace Go.Proofs.Ytakicaelepgmcaa.Pure
open Go.RowKit Go.Proofs.Ytakicaelepgmcaa.QFnExactDecInt Go.Proofs.YtakicaelepgmcaaW.PrintWords Go.Proofs.YtakicaelepgmcaaW.PrintLast

theorem FnExactDecInt : laws_FnExactDecInt.Pure := by
  intro a h
  obtain ⟨h1, h2⟩ := Go.Proofs.YtakicaelepgmcaaW.Lims.wf64 h
  unfold laws_FnExactDecInt.f spec_DecInt.f impl_DecInt.f
  simp only [Option.bind_some]
  have e := Int.mul_tdiv_add_tmod a 1000000
  have b1 : -9223372036854775808 ≤ a.tdiv 1000000 * 1000000 ∧ a.tdiv 1000000 * 1000000 ≤ 9223372036854775807 := by
    rcases Int.le_total 0 a with h0 | h0
    · rw [Int.tdiv_eq_ediv_of_nonneg h0]; omega
    · obtain ⟨b, rfl⟩ : ∃ b, a = -b := ⟨-a, by omega⟩
      rw [Int.neg_tdiv, Int.tdiv_eq_ediv_of_nonneg (by omega)]; omega
  have e2 : a - a.tmod 1000000 = a.tdiv 1000000 * 1000000 := by omega
  rw [e2, if_pos]
  unfold wrap64
  omega

end Go.Proofs.Ytakicaelepgmcaa.Pure
