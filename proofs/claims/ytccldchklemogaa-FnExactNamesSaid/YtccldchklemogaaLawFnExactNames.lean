/- FnExactNames answers true at every argument, and leaves it as it was: out of its pure statement. No condition. -/
import Derived.Test.YtccldchklemogaaRows
import Derived.Test.YtccldchklemogaaAFnExactNamesk
import Derived.Test.YtccldchklemogaaAFnExactNamesx1
import Derived.Test.YtccldchklemogaaPureFnExactNames
import Derived.WalkKit
import Derived.ProofKit
import Derived.OpenShut
import Derived.ShutString
import Derived.ChangeOld
import Derived.Below
import Derived.SizedLaws
namespace Go.Proofs.Ytccldchklemogaa.fnExactNames
open Go.ChangeShapes Go.WideShapes Go.ChangeAt Go.RowKit Go.Proofs.YtccldchklemogaaW.AM Go.Proofs.Ytccldchklemogaa.TFnExactNames Go.Proofs.Ytccldchklemogaa.QFnExactNames
open Go.ChangeMaps (open_string shut_string)
theorem own : ownKnob Try.prog.godebug = none := by kernel_rfl
theorem laidOut : laidOutB Try.prog = true := by kernel_rfl
set_option maxRecDepth 100000 in
theorem lifted (os : Os) (started : os.Started) (H : Type) (enc : TypeId × Value → H) :
    ReturnsInHanded {} Try.checked os 4 .any (Rows.fnExactNamesSpec.pre6 enc Try.prog Try.f4 Rows.fnExactNamesRow.domain false) (Rows.fnExactNamesSpec.post enc Try.prog Try.f4 false true false false) := by
  refine returnsInHanded_of_change_sized (C := Try.checked) own started (by kernel_rfl) Try.func4
    (ChangeSpec.witness6 (enc := enc) (C := Try.checked) false ⟨#[], #[.slice none 0 0], []⟩ 8 (by kernel_rfl) (by kernel_rfl) (by kernel_rfl) (by kernel_rfl)) ?_
  intro W base args ds gs before hval0 hW hcnd _ _
  have hval : ∀ (j : Nat) t v, Try.f4.params[j]? = some t → args[j]? = some v → Value.okWide Try.prog W .any base t v := hval0
  have hW' := hW
  obtain ⟨p, q, hA0, hV, rfl, hfz, hnd⟩ := hW
  have hA : DataW.TrodAll enc Try.prog W 0 (fun _ => true) true Try.f4.params.toList args.toList ds p := hA0
  rw [Try.params4] at hA hval
  obtain ⟨v0, vs0, d0, ds0, p0, q0, hargs, rfl, rfl, h0, r0⟩ := trodAll_cons hA
  obtain ⟨rfl, rfl, rfl⟩ := trodAll_nil r0
  obtain rfl : args = #[v0] := by cases args; simp_all
  obtain ⟨rfl, rfl⟩ := trodVars_none hV
  have k0 := h0
  have lt0 : ∀ x ∈ p0, x.block < W.heap.size := by obtain ⟨m, hm⟩ := k0; exact DataW.trod_lt m _ _ _ hm
  obtain ⟨a0, n0, c0, rfl⟩ := okWide_slice Try.underlying30 (hval 0 30 v0 rfl rfl)
  obtain ⟨x0, y0, w0⟩ := arg_one (E := fun l : List S58 => .row (l.map e58)) (fun n => (opA_slice e58 Try.underlying30 (by kernel_rfl) (by decide) n (fun m2_ _ => (opA58 m2_)))) h0 rfl
  clear hA0 hval0
  have hk_ := Pure.FnExactNames x0 w0
  refine (law_true G_ok orc_ok ⟨fun _ _ _ h => (by cases h), fun _ _ h => (by cases h)⟩ (laws_FnExactNames_ev (h := hk_)) (.cons y0 .nil)).mono fun e W' he_ => ?_
  obtain ⟨rfl, bel⟩ := he_
  exact ⟨_, rfl, _, _, _, [], _, [], hW', trodAll_mk1 (shut_bool Try.underlying4 _), (trodAll_cons_mk (Below.trod laidOut (by kernel_rfl) (of_decide_eq_true (by kernel_rfl)) k0 bel lt0) trodAll_mk0), rfl, bel.frame _, fun h => by cases h⟩
theorem over : Rows.fnExactNamesRow.holds Try.pinned (OpenSpec.ofChange Rows.fnExactNamesSpec) :=
  OpenClaim.holds_of_wide 4 Try.f4 rfl rfl rfl rfl rfl rfl rfl ⟨rfl, rfl, rfl, rfl, rfl⟩ rfl rfl rfl rfl rfl (by kernel_rfl) Try.func4 (by kernel_rfl)
    (of_decide_eq_true (by kernel_rfl)) (by unfold Func.isWrapper; first | (rw [if_pos (by decide +kernel)]; kernel_rfl) | (rw [if_neg (by decide +kernel)]; exact ⟨rfl, rfl⟩))
    (fun os started H enc _ => lifted os started H enc)
theorem proved : Rows.FnExactNamesSaid := over
#print axioms proved
end Go.Proofs.Ytccldchklemogaa.fnExactNames
namespace Go.Proofs.Ytccldchklemogaa
/-- The row, under a short name, for the claim. -/
theorem fnExactNames_holds : Rows.FnExactNamesSaid := fnExactNames.proved
end Go.Proofs.Ytccldchklemogaa
