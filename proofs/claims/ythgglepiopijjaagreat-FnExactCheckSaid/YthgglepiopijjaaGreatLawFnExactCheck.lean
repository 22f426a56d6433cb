/- FnExactCheck answers true at every argument, and leaves it as it was: out of its pure statement. No condition. -/
import Derived.Test.YthgglepiopijjaaGreatRows
import Derived.Test.YthgglepiopijjaaGreatAFnExactCheckk
import Derived.Test.YthgglepiopijjaaGreatAFnExactCheckx8
import Derived.Test.YthgglepiopijjaaGreatPureFnExactCheck
import Derived.WalkKit
import Derived.ProofKit
import Derived.OpenShut
import Derived.ShutString
import Derived.ChangeOld
import Derived.Below
import Derived.SizedLaws
import Derived.HandedShaped
namespace Go.Proofs.YthgglepiopijjaaGreat.fnExactCheck
open Go.ChangeShapes Go.WideShapes Go.ChangeAt Go.RowKit Go.Proofs.YthgglepiopijjaaGreatW.AM Go.Proofs.YthgglepiopijjaaGreat.TFnExactCheck Go.Proofs.YthgglepiopijjaaGreat.QFnExactCheck
open Go.ChangeMaps (open_string shut_string)
theorem own : ownKnob Tryz.prog.godebug = none := by kernel_rfl
theorem laidOut : laidOutB Tryz.prog = true := by kernel_rfl
set_option maxRecDepth 100000 in
theorem lifted (os : Os) (started : os.Started) (H : Type) (enc : TypeId × Value → H) :
    ReturnsInHanded {} Tryz.checked os 3 .any (Rows.fnExactCheckSpec.pre6 enc Tryz.prog Tryz.f3 Rows.fnExactCheckRow.domain false) (Rows.fnExactCheckSpec.post enc Tryz.prog Tryz.f3 false true false false) := by
  refine returnsInHanded_of_change_shaped (C := Tryz.checked) own started (by kernel_rfl) Tryz.func3
    (ChangeSpec.witness6 (enc := enc) (C := Tryz.checked) false ⟨#[], #[.slice none 0 0], []⟩ 8 (by kernel_rfl) (by kernel_rfl) (by kernel_rfl) (by kernel_rfl)) ?_
  intro W base args ds gs before hval0 hW hcnd _ hsh _
  have hval : ∀ (j : Nat) t v, Tryz.f3.params[j]? = some t → args[j]? = some v → Value.okWide Tryz.prog W .any base t v := hval0
  have hW' := hW
  obtain ⟨p, q, hA0, hV, rfl, hfz, hnd⟩ := hW
  have hA : DataW.TrodAll enc Tryz.prog W 0 (fun _ => true) true Tryz.f3.params.toList args.toList ds p := hA0
  rw [Tryz.params3] at hA hval
  obtain ⟨v0, vs0, d0, ds0, p0, q0, hargs, rfl, rfl, h0, r0⟩ := trodAll_cons hA
  obtain ⟨rfl, rfl, rfl⟩ := trodAll_nil r0
  obtain rfl : args = #[v0] := by cases args; simp_all
  obtain ⟨rfl, rfl⟩ := trodVars_none hV
  have k0 := h0
  have lt0 : ∀ x ∈ p0, x.block < W.heap.size := by obtain ⟨m, hm⟩ := k0; exact DataW.trod_lt m _ _ _ hm
  obtain ⟨a0, n0, c0, rfl⟩ := okWide_slice Tryz.underlying22 (hval 0 22 v0 rfl rfl)
  obtain ⟨x0, y0, w0⟩ := arg_one (E := fun l : List S34 => .row (l.map e34)) (fun n => (opA_slice e34 Tryz.underlying22 (by kernel_rfl) (by decide) n (fun m2_ _ => (opA34 m2_)))) h0 rfl
  obtain ⟨m_, hm_⟩ := Tryz.laysM144.s1_3 W hsh
  clear hA0 hval0
  have hk_ := Pure.FnExactCheck x0 w0
  refine (law_true G_ok orc_ok (tab_ok hm_) (laws_FnExactCheck_ev (h := hk_)) (.cons y0 .nil)).mono fun e W' he_ => ?_
  obtain ⟨rfl, bel⟩ := he_
  exact ⟨_, rfl, _, _, _, [], _, [], hW', trodAll_mk1 (shut_bool Tryz.underlying4 _), (trodAll_cons_mk (Below.trod laidOut (by kernel_rfl) (of_decide_eq_true (by kernel_rfl)) k0 bel lt0) trodAll_mk0), rfl, bel.frame _, fun h => by cases h⟩
theorem over : Rows.fnExactCheckRow.holds Tryz.pinned (OpenSpec.ofChange Rows.fnExactCheckSpec) :=
  OpenClaim.holds_of_wide 3 Tryz.f3 rfl rfl rfl rfl rfl rfl rfl ⟨rfl, rfl, rfl, rfl, rfl⟩ rfl rfl rfl rfl rfl (by kernel_rfl) Tryz.func3 (by kernel_rfl)
    (of_decide_eq_true (by kernel_rfl)) (by unfold Func.isWrapper; first | (rw [if_pos (by decide +kernel)]; kernel_rfl) | (rw [if_neg (by decide +kernel)]; exact ⟨rfl, rfl⟩))
    (fun os started H enc _ => lifted os started H enc)
theorem proved : Rows.FnExactCheckSaid := over
#print axioms proved
end Go.Proofs.YthgglepiopijjaaGreat.fnExactCheck
namespace Go.Proofs.YthgglepiopijjaaGreat
/-- The row, under a short name, for the claim. -/
theorem fnExactCheck_holds : Rows.FnExactCheckSaid := fnExactCheck.proved
end Go.Proofs.YthgglepiopijjaaGreat
