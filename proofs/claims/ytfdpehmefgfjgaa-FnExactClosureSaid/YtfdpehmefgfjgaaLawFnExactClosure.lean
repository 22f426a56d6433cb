/- FnExactClosure answers true at every argument, and leaves it as it was: out of its pure statement. No condition. -/
import Derived.Test.YtfdpehmefgfjgaaRows
import Derived.Test.YtfdpehmefgfjgaaAFnExactClosurek
import Derived.Test.YtfdpehmefgfjgaaAFnExactClosurex1
import Derived.Test.YtfdpehmefgfjgaaPureFnExactClosure
import Derived.WalkKit
import Derived.ProofKit
import Derived.OpenShut
import Derived.ShutString
import Derived.ChangeOld
import Derived.Below
import Derived.SizedLaws
namespace Go.Proofs.Ytfdpehmefgfjgaa.fnExactClosure
open Go.ChangeShapes Go.WideShapes Go.ChangeAt Go.RowKit Go.Proofs.YtfdpehmefgfjgaaW.AM Go.Proofs.Ytfdpehmefgfjgaa.TFnExactClosure Go.Proofs.Ytfdpehmefgfjgaa.QFnExactClosure
open Go.ChangeMaps (open_string shut_string)
theorem own : ownKnob Try.prog.godebug = none := by kernel_rfl
theorem laidOut : laidOutB Try.prog = true := by kernel_rfl
set_option maxRecDepth 100000 in
theorem lifted (os : Os) (started : os.Started) (H : Type) (enc : TypeId × Value → H) :
    ReturnsInHanded {} Try.checked os 5 .any (Rows.fnExactClosureSpec.pre6 enc Try.prog Try.f5 Rows.fnExactClosureRow.domain false) (Rows.fnExactClosureSpec.post enc Try.prog Try.f5 false true false false) := by
  refine returnsInHanded_of_change_sized (C := Try.checked) own started (by kernel_rfl) Try.func5
    (ChangeSpec.witness6 (enc := enc) (C := Try.checked) false ⟨#[], #[.slice none 0 0, .slice none 0 0, .bool false, .bool false], []⟩ 8 (by kernel_rfl) (by kernel_rfl) (by kernel_rfl) (by kernel_rfl)) ?_
  intro W base args ds gs before hval0 hW hcnd _ _
  have hval : ∀ (j : Nat) t v, Try.f5.params[j]? = some t → args[j]? = some v → Value.okWide Try.prog W .any base t v := hval0
  have hW' := hW
  obtain ⟨p, q, hA0, hV, rfl, hfz, hnd⟩ := hW
  have hA : DataW.TrodAll enc Try.prog W 0 (fun _ => true) true Try.f5.params.toList args.toList ds p := hA0
  rw [Try.params5] at hA hval
  obtain ⟨v0, vs0, d0, ds0, p0, q0, hargs, rfl, rfl, h0, r0⟩ := trodAll_cons hA
  obtain ⟨v1, vs1, d1, ds1, p1, q1, rfl, rfl, rfl, h1, r1⟩ := trodAll_cons r0
  obtain ⟨v2, vs2, d2, ds2, p2, q2, rfl, rfl, rfl, h2, r2⟩ := trodAll_cons r1
  obtain ⟨v3, vs3, d3, ds3, p3, q3, rfl, rfl, rfl, h3, r3⟩ := trodAll_cons r2
  obtain ⟨rfl, rfl, rfl⟩ := trodAll_nil r3
  obtain rfl : args = #[v0, v1, v2, v3] := by cases args; simp_all
  obtain ⟨rfl, rfl⟩ := trodVars_none hV
  have k0 := h0
  have lt0 : ∀ x ∈ p0, x.block < W.heap.size := by obtain ⟨m, hm⟩ := k0; exact DataW.trod_lt m _ _ _ hm
  obtain ⟨a0, n0, c0, rfl⟩ := okWide_slice Try.underlying42 (hval 0 42 v0 rfl rfl)
  obtain ⟨x0, y0, w0⟩ := arg_one (E := fun l : List S99 => .row (l.map e99)) (fun n => (opA_slice e99 Try.underlying42 (by kernel_rfl) (by decide) n (fun m2_ _ => (opA99 m2_)))) h0 rfl
  have k1 := h1
  have lt1 : ∀ x ∈ p1, x.block < W.heap.size := by obtain ⟨m, hm⟩ := k1; exact DataW.trod_lt m _ _ _ hm
  obtain ⟨a1, n1, c1, rfl⟩ := okWide_slice Try.underlying29 (hval 1 29 v1 rfl rfl)
  obtain ⟨x1, y1, w1⟩ := arg_one (E := fun l : List Int => .row (l.map (VV.int .i64))) (fun n => (opA_slice (VV.int .i64) Try.underlying29 (by kernel_rfl) (by decide) n (fun m2_ _ => (opA_int Try.underlying3 m2_)))) h1 rfl
  obtain ⟨x2, rfl, rfl, rfl⟩ := open_bool Try.underlying4 (hval 2 4 v2 rfl rfl) h2
  obtain ⟨x3, rfl, rfl, rfl⟩ := open_bool Try.underlying4 (hval 3 4 v3 rfl rfl) h3
  clear hA0 hval0
  have hk_ := Pure.FnExactClosure x0 x1 x2 x3 w0 w1
  refine (law_true G_ok orc_ok (fun _ _ _ h => by cases h) (laws_FnExactClosure_ev (h := hk_)) (.cons y0 (.cons y1 (.cons (.bool x2) (.cons (.bool x3) .nil))))).mono fun e W' he_ => ?_
  obtain ⟨rfl, bel⟩ := he_
  exact ⟨_, rfl, _, _, _, [], _, [], hW', trodAll_mk1 (shut_bool Try.underlying4 _), (trodAll_cons_mk (Below.trod laidOut (by kernel_rfl) (of_decide_eq_true (by kernel_rfl)) k0 bel lt0) (trodAll_cons_mk (Below.trod laidOut (by kernel_rfl) (of_decide_eq_true (by kernel_rfl)) k1 bel lt1) (trodAll_cons_mk (shut_bool Try.underlying4 _) (trodAll_cons_mk (shut_bool Try.underlying4 _) trodAll_mk0)))), rfl, bel.frame _, fun h => by cases h⟩
theorem over : Rows.fnExactClosureRow.holds Try.pinned (OpenSpec.ofChange Rows.fnExactClosureSpec) :=
  OpenClaim.holds_of_wide 5 Try.f5 rfl rfl rfl rfl rfl rfl rfl ⟨rfl, rfl, rfl, rfl, rfl⟩ rfl rfl rfl rfl rfl (by kernel_rfl) Try.func5 (by kernel_rfl)
    (of_decide_eq_true (by kernel_rfl)) (by unfold Func.isWrapper; first | (rw [if_pos (by decide +kernel)]; kernel_rfl) | (rw [if_neg (by decide +kernel)]; exact ⟨rfl, rfl⟩))
    (fun os started H enc _ => lifted os started H enc)
theorem proved : Rows.FnExactClosureSaid := over
#print axioms proved
end Go.Proofs.Ytfdpehmefgfjgaa.fnExactClosure
namespace Go.Proofs.Ytfdpehmefgfjgaa
/-- The row, under a short name, for the claim. -/
theorem fnExactClosure_holds : Rows.FnExactClosureSaid := fnExactClosure.proved
end Go.Proofs.Ytfdpehmefgfjgaa
