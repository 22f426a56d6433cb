/- Written by wip/pr2, a program of this session. -/
import Derived.Test.YtakicaelepgmcaaQFnExactDeepx0
import Derived.Test.YtakicaelepgmcaaOpen
namespace Go.Proofs.Ytakicaelepgmcaa.QFnExactDeep
open Go.RowKit Go.Proofs.YtakicaelepgmcaaW.PrintWords Go.Proofs.YtakicaelepgmcaaW.PrintLast Go.Proofs.YtakicaelepgmcaaW.PrintMore
attribute [local go_sem] max2_int min2_int max_two min_two max_three min_three max_four min_four   -- for this text's walks alone
set_option linter.unusedVariables false
set_option linter.unusedSimpArgs false

open Go.Proofs.YtakicaelepgmcaaW.Opens
inductive Wf47 : S47 → Prop
  | mk (x : S47) (h0 : (Lit.int .i64 x.f0).wf = true) (h1 : (Lit.int .i64 x.f1).wf = true) (h2 : x.f2.size ≤ maxLen) (h3 : x.f3.length ≤ maxLen) (g3 : ∀ y, y ∈ x.f3 → Wf47 y) : Wf47 x
theorem opens47 : Opens Try.prog k47 Wf47 47 := by
  intro n
  induction n using Nat.strongRecOn with
  | _ n ih =>
  intro H enc w base spare held cs x h
  obtain ⟨y, hy, hq⟩ := opensAt_struct (d := (Kd.pair (Kd.int .i64) (Kd.pair (Kd.int .i64) (Kd.pair Kd.string (Kd.slice 47 k47))))) Try.underlying47 (by kernel_rfl) n (fun m_ hm_ => (fields_cons rfl (by kernel_rfl) (opens_int Try.underlying3 m_) (fields_cons rfl (by kernel_rfl) (opens_int Try.underlying3 m_) (fields_cons rfl (by kernel_rfl) (opens_string Try.underlying9 m_) (fields_one rfl (by kernel_rfl) (opensAt_slice Try.underlying45 (by kernel_rfl) m_ (fun m2_ hm2_ => ih m2_ (by omega)))))))) H enc w base spare held cs x h
  obtain ⟨_, _, rfl, rfl, ⟨_, _, rfl, rfl, ⟨_, _, rfl, rfl, ⟨A3, c3, rfl, l3, g3⟩⟩⟩⟩ := hy
  exact ⟨⟨y.1, y.2.1, y.2.2.1, y.2.2.2⟩, k47_mk w ⟨y.1, y.2.1, y.2.2.1, y.2.2.2⟩ l3 g3, Wf47.mk _ hq.1 hq.2.1 hq.2.2.1 hq.2.2.2.1 hq.2.2.2.2⟩
end Go.Proofs.Ytakicaelepgmcaa.QFnExactDeep
