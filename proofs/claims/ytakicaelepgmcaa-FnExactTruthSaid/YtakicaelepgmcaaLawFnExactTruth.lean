/- FnExactTruth answers true at every argument, and leaves it as it was: out of its pure statement. No condition. -/
import Derived.Test.YtakicaelepgmcaaRows
import Derived.Test.YtakicaelepgmcaaQFnExactTruthx3
import Derived.Test.YtakicaelepgmcaaQFnExactTruthx2
import Derived.Test.YtakicaelepgmcaaQFnExactTruthxW
import Derived.Test.YtakicaelepgmcaaPureFnExactTruth
import Derived.Test.YtakicaelepgmcaaOpen
import Derived.WalkKit
import Derived.ProofKit
import Derived.OpenShut
import Derived.ShutString
import Derived.ChangeOld
import Derived.Below
import Derived.SizedLaws
namespace Go.Proofs.Ytakicaelepgmcaa.fnExactTruth
open Go.ChangeShapes Go.WideShapes Go.ChangeAt Go.RowKit Go.Proofs.YtakicaelepgmcaaW.Opens Go.Proofs.YtakicaelepgmcaaW.PrintWords Go.Proofs.Ytakicaelepgmcaa.QFnExactTruth
open Go.ChangeMaps (open_string shut_string)
theorem own : ownKnob Try.prog.godebug = none := by kernel_rfl
theorem laidOut : laidOutB Try.prog = true := by kernel_rfl
set_option maxRecDepth 100000 in
theorem lifted (os : Os) (started : os.Started) (H : Type) (enc : TypeId × Value → H) :
    ReturnsInHanded {} Try.checked os 10 .any (Rows.fnExactTruthSpec.pre6 enc Try.prog Try.f10 Rows.fnExactTruthRow.domain false) (Rows.fnExactTruthSpec.post enc Try.prog Try.f10 false true false false) := by
  refine returnsInHanded_of_change_sized (C := Try.checked) own started (by kernel_rfl) Try.func10
    (ChangeSpec.witness6 (enc := enc) (C := Try.checked) false ⟨#[], #[.agg #[.int .i64 0, .int .i64 0, .string ByteArray.empty]], []⟩ 8 (by kernel_rfl) (by kernel_rfl) (by kernel_rfl) (by kernel_rfl)) ?_
  intro W base args ds gs before hval0 hW hcnd _ _
  have hval : ∀ (j : Nat) t v, Try.f10.params[j]? = some t → args[j]? = some v → Value.okWide Try.prog W .any base t v := hval0
  have hW' := hW
  obtain ⟨p, q, hA0, hV, rfl, hfz, hnd⟩ := hW
  have hA : DataW.TrodAll enc Try.prog W 0 (fun _ => true) true Try.f10.params.toList args.toList ds p := hA0
  rw [Try.params10] at hA hval
  obtain ⟨v0, vs0, d0, ds0, p0, q0, hargs, rfl, rfl, h0, r0⟩ := trodAll_cons hA
  obtain ⟨rfl, rfl, rfl⟩ := trodAll_nil r0
  obtain rfl : args = #[v0] := by cases args; simp_all
  obtain ⟨rfl, rfl⟩ := trodVars_none hV
  have k0 := h0
  have lt0 : ∀ x ∈ p0, x.block < W.heap.size := by obtain ⟨m, hm⟩ := k0; exact DataW.trod_lt m _ _ _ hm
  obtain ⟨x0, cs0, rfl, hK0, w0⟩ := open_struct Try.underlying30 opens30 (hval 0 30 v0 rfl rfl) h0
  obtain rfl := k30_open hK0
  clear hA0 hval0
  obtain ⟨k_, hk_⟩ := Pure.FnExactTruth x0 w0
  refine (laws_FnExactTruth.calls k_ x0.f0 x0.f1 x0.f2 true W  hk_).mono fun e W' he_ => ?_
  obtain ⟨rfl, hd_⟩ := he_
  have bel : Below W.heap.size W W' := hd_
  exact ⟨_, rfl, _, _, _, [], _, [], hW', trodAll_mk1 (shut_bool Try.underlying4 _), (trodAll_cons_mk (Below.trod laidOut (by kernel_rfl) (of_decide_eq_true (by kernel_rfl)) k0 bel lt0) trodAll_mk0), rfl, bel.frame _, fun h => by cases h⟩
theorem over : Rows.fnExactTruthRow.holds Try.pinned (OpenSpec.ofChange Rows.fnExactTruthSpec) :=
  OpenClaim.holds_of_wide 10 Try.f10 rfl rfl rfl rfl rfl rfl rfl ⟨rfl, rfl, rfl, rfl, rfl⟩ rfl rfl rfl rfl rfl (by kernel_rfl) Try.func10 (by kernel_rfl)
    (of_decide_eq_true (by kernel_rfl)) (by unfold Func.isWrapper; first | (rw [if_pos (by decide +kernel)]; kernel_rfl) | (rw [if_neg (by decide +kernel)]; exact ⟨rfl, rfl⟩))
    (fun os started H enc _ => lifted os started H enc)
theorem proved : Rows.FnExactTruthSaid := over
#print axioms proved
end Go.Proofs.Ytakicaelepgmcaa.fnExactTruth
namespace Go.Proofs.Ytakicaelepgmcaa
/-- The row, under a short name, for the claim. -/
theorem fnExactTruth_holds : Rows.FnExactTruthSaid := fnExactTruth.proved
end Go.Proofs.Ytakicaelepgmcaa
