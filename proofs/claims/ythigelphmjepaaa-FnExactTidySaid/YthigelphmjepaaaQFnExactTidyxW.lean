/- Written by wip/pr2, a program of this session. -/
import Derived.Test.YthigelphmjepaaaQFnExactTidyx0
import Derived.Test.YthigelphmjepaaaWFnExactTidy
namespace Go.Proofs.Ythigelphmjepaaa.QFnExactTidy
open Go.RowKit Go.Proofs.YthigelphmjepaaaW.PrintWords Go.Proofs.YthigelphmjepaaaW.PrintLast Go.Proofs.YthigelphmjepaaaW.PrintMore
attribute [local go_sem] max2_int min2_int max_two min_two max_three min_three max_four min_four   -- for this text's walks alone
set_option linter.unusedVariables false
set_option linter.unusedSimpArgs false
set_option maxHeartbeats 8000000

open Go.Proofs.YthigelphmjepaaaW.Opens
inductive Wf61 : S61 → Prop
  | mk (x : S61) (h0 : (Lit.int .i64 x.f0).wf = true) (h1 : (Lit.int .i64 x.f1).wf = true) (h2 : x.f2.size ≤ maxLen) (h3 : x.f3.length ≤ maxLen) (g3 : ∀ y, y ∈ x.f3 → Wf61 y) : Wf61 x
theorem opens61 : Opens Try.prog k61 Wf61 61 := by
  intro n
  induction n using Nat.strongRecOn with
  | _ n ih =>
  intro H enc w base spare held cs x h
  obtain ⟨y, hy, hq⟩ := opensAt_struct (d := (Kd.pair (Kd.int .i64) (Kd.pair (Kd.int .i64) (Kd.pair Kd.string (Kd.slice 61 k61))))) Try.underlying61 (by kernel_rfl) n (fun m_ hm_ => (fields_cons rfl (by kernel_rfl) (opens_int Try.underlying3 m_) (fields_cons rfl (by kernel_rfl) (opens_int Try.underlying3 m_) (fields_cons rfl (by kernel_rfl) (opens_string Try.underlying9 m_) (fields_one rfl (by kernel_rfl) (opensAt_slice Try.underlying59 (by kernel_rfl) m_ (fun m2_ hm2_ => ih m2_ (by omega)))))))) H enc w base spare held cs x h
  obtain ⟨_, _, rfl, rfl, ⟨_, _, rfl, rfl, ⟨_, _, rfl, rfl, ⟨A3, c3, rfl, l3, g3⟩⟩⟩⟩ := hy
  exact ⟨⟨y.1, y.2.1, y.2.2.1, y.2.2.2⟩, k61_mk w ⟨y.1, y.2.1, y.2.2.1, y.2.2.2⟩ l3 g3, Wf61.mk _ hq.1 hq.2.1 hq.2.2.1 hq.2.2.2.1 hq.2.2.2.2⟩
def Wf63 (x : S63) : Prop := (Lit.int .i64 x.f0).wf = true ∧ Wf61 x.f1 ∧ Wf61 x.f2
theorem opens63 : Opens Try.prog k63 Wf63 63 := fun n =>
  opensAt_iso (fun x : S63 => (x.f0, x.f1, x.f2)) (fun y => ⟨y.1, y.2.1, y.2.2⟩) (fun _ => rfl) (opensAt_struct Try.underlying63 (by kernel_rfl) n (fun m_ hm_ => (fields_cons rfl (by kernel_rfl) (opens_int Try.underlying3 m_) (fields_cons rfl (by kernel_rfl) (opens61 m_) (fields_one rfl (by kernel_rfl) (opens61 m_))))))
end Go.Proofs.Ythigelphmjepaaa.QFnExactTidy
