/- FnExactCellPut answers true at every argument, and leaves it as it was: out of its pure statement. No condition. -/
import Derived.Test.YtehefologhfdhaaRows
import Derived.Test.YtehefologhfdhaaQFnExactCellPutx12
import Derived.Test.YtehefologhfdhaaQFnExactCellPutx4
import Derived.Test.YtehefologhfdhaaQFnExactCellPutxW
import Derived.Test.YtehefologhfdhaaPureFnExactCellPut
import Derived.Test.YtehefologhfdhaaWFnExactCellPut
import Derived.WalkKit
import Derived.ProofKit
import Derived.OpenShut
import Derived.ShutString
import Derived.ChangeOld
import Derived.Below
import Derived.SizedLaws
namespace Go.Proofs.Ytehefologhfdhaa.fnExactCellPut
open Go.ChangeShapes Go.WideShapes Go.ChangeAt Go.RowKit Go.Proofs.YtehefologhfdhaaW.Opens Go.Proofs.YtehefologhfdhaaW.PrintWords Go.Proofs.Ytehefologhfdhaa.QFnExactCellPut
open Go.ChangeMaps (open_string shut_string)
theorem own : ownKnob Try.prog.godebug = none := by kernel_rfl
theorem laidOut : laidOutB Try.prog = true := by kernel_rfl
set_option maxRecDepth 100000 in
theorem lifted (os : Os) (started : os.Started) (H : Type) (enc : TypeId × Value → H) :
    ReturnsInHanded {} Try.checked os 5 .any (Rows.fnExactCellPutSpec.pre6 enc Try.prog Try.f5 Rows.fnExactCellPutRow.domain false) (Rows.fnExactCellPutSpec.post enc Try.prog Try.f5 false true false false) := by
  refine returnsInHanded_of_change_sized (C := Try.checked) own started (by kernel_rfl) Try.func5
    (ChangeSpec.witness6 (enc := enc) (C := Try.checked) false ⟨#[], #[.agg #[.slice none 0 0, .slice none 0 0, .int .i64 0, .int .i64 0], .int .i64 0, .string ByteArray.empty, .agg #[.int .i64 0, .int .i64 0, .string ByteArray.empty]], []⟩ 8 (by kernel_rfl) (by kernel_rfl) (by kernel_rfl) (by kernel_rfl)) ?_
  intro W base args ds gs before hval0 hW hcnd _ _
  have hval : ∀ (j : Nat) t v, Try.f5.params[j]? = some t → args[j]? = some v → Value.okWide Try.prog W .any base t v := hval0
  have hW' := hW
  obtain ⟨p, q, hA0, hV, rfl, hfz, hnd⟩ := hW
  have hA : DataW.TrodAll enc Try.prog W 0 (fun _ => true) true Try.f5.params.toList args.toList ds p := hA0
  rw [Try.params5] at hA hval
  obtain ⟨v0, vs0, d0, ds0, p0, q0, hargs, rfl, rfl, h0, r0⟩ := trodAll_cons hA
  obtain ⟨v1, vs1, d1, ds1, p1, q1, rfl, rfl, rfl, h1, r1⟩ := trodAll_cons r0
  obtain ⟨v2, vs2, d2, ds2, p2, q2, rfl, rfl, rfl, h2, r2⟩ := trodAll_cons r1
  obtain ⟨v3, vs3, d3, ds3, p3, q3, rfl, rfl, rfl, h3, r3⟩ := trodAll_cons r2
  obtain ⟨rfl, rfl, rfl⟩ := trodAll_nil r3
  obtain rfl : args = #[v0, v1, v2, v3] := by cases args; simp_all
  obtain ⟨rfl, rfl⟩ := trodVars_none hV
  have k0 := h0
  have lt0 : ∀ x ∈ p0, x.block < W.heap.size := by obtain ⟨m, hm⟩ := k0; exact DataW.trod_lt m _ _ _ hm
  obtain ⟨x0, cs0, rfl, hK0, w0⟩ := open_struct Try.underlying30 opens30 (hval 0 30 v0 rfl rfl) h0
  obtain ⟨A0_0, c0_0, A0_1, c0_1, rfl, l0_0, g0_0, l0_1, g0_1⟩ := k30_open hK0
  obtain ⟨x1, rfl, rfl, rfl, w1⟩ := open_int Try.underlying3 (hval 1 3 v1 rfl rfl) h1
  obtain ⟨x2, rfl, rfl, rfl, w2⟩ := open_string Try.underlying9 (hval 2 9 v2 rfl rfl) h2
  have k3 := h3
  have lt3 : ∀ x ∈ p3, x.block < W.heap.size := by obtain ⟨m, hm⟩ := k3; exact DataW.trod_lt m _ _ _ hm
  obtain ⟨x3, cs3, rfl, hK3, w3⟩ := open_struct Try.underlying42 opens42 (hval 3 42 v3 rfl rfl) h3
  obtain rfl := k42_open hK3
  clear hA0 hval0
  obtain ⟨k_, hk_⟩ := Pure.FnExactCellPut x0 x1 x2 x3 w0 w1 w2 w3
  refine (laws_FnExactCellPut.calls k_ _ _ x0.f0 _ _ x0.f1 x0.f2 x0.f3 x1 x2 x3.f0 x3.f1 x3.f2 true W g0_0 l0_0 g0_1 l0_1 hk_).mono fun e W' he_ => ?_
  obtain ⟨rfl, hd_⟩ := he_
  have bel : Below W.heap.size W W' := hd_
  exact ⟨_, rfl, _, _, _, [], _, [], hW', trodAll_mk1 (shut_bool Try.underlying4 _), (trodAll_cons_mk (Below.trod laidOut (by kernel_rfl) (of_decide_eq_true (by kernel_rfl)) k0 bel lt0) (trodAll_cons_mk (shut_int Try.underlying3 w1) (trodAll_cons_mk (shut_string Try.underlying9 w2) (trodAll_cons_mk (Below.trod laidOut (by kernel_rfl) (of_decide_eq_true (by kernel_rfl)) k3 bel lt3) trodAll_mk0)))), rfl, bel.frame _, fun h => by cases h⟩
theorem over : Rows.fnExactCellPutRow.holds Try.pinned (OpenSpec.ofChange Rows.fnExactCellPutSpec) :=
  OpenClaim.holds_of_wide 5 Try.f5 rfl rfl rfl rfl rfl rfl rfl ⟨rfl, rfl, rfl, rfl, rfl⟩ rfl rfl rfl rfl rfl (by kernel_rfl) Try.func5 (by kernel_rfl)
    (of_decide_eq_true (by kernel_rfl)) (by unfold Func.isWrapper; first | (rw [if_pos (by decide +kernel)]; kernel_rfl) | (rw [if_neg (by decide +kernel)]; exact ⟨rfl, rfl⟩))
    (fun os started H enc _ => lifted os started H enc)
theorem proved : Rows.FnExactCellPutSaid := over
#print axioms proved
end Go.Proofs.Ytehefologhfdhaa.fnExactCellPut
namespace Go.Proofs.Ytehefologhfdhaa
/-- The row, under a short name, for the claim. -/
theorem fnExactCellPut_holds : Rows.FnExactCellPutSaid := fnExactCellPut.proved
end Go.Proofs.Ytehefologhfdhaa
