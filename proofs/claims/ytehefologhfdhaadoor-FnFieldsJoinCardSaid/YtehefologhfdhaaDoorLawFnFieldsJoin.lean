/- FnFieldsJoin answers true at every argument, and leaves it as it was: out of its pure statement. No condition. -/
import Derived.Test.YtehefologhfdhaaDoorRows
import Derived.Test.YtehefologhfdhaaDoorCards
import Derived.Test.YtehefologhfdhaaDoorTie
import Derived.Test.YtehefologhfdhaaDoorShaped
import Derived.Test.YtehefologhfdhaaDoorQFnFieldsJoinx4
import Derived.Test.YtehefologhfdhaaDoorQFnFieldsJoinx2
import Derived.Test.YtehefologhfdhaaDoorPureFnFieldsJoin
import Derived.Test.YtehefologhfdhaaDoorOpen
import Derived.WalkKit
import Derived.ProofKit
import Derived.OpenShut
import Derived.ShutString
import Derived.ChangeOld
import Derived.Below
import Derived.SizedLaws
import Derived.LaidMore
import Derived.Lay
import Derived.SevenTiedAt
import Derived.Stop.Joined
import Derived.Stop.LaidErr
namespace Go.Proofs.YtehefologhfdhaaDoor.fnFieldsJoin
open Go.ChangeShapes Go.WideShapes Go.ChangeAt Go.RowKit Go.Proofs.YtehefologhfdhaaDoorW.Opens Go.Proofs.YtehefologhfdhaaDoorW.PrintWords Go.Proofs.YtehefologhfdhaaDoor.QFnFieldsJoin
open Go.ChangeMaps (open_string shut_string)
theorem own : ownKnob Tryd.prog.godebug = none := by kernel_rfl
theorem laidOut : laidOutB Tryd.prog = true := by kernel_rfl
set_option maxRecDepth 100000 in
theorem lifted (os : Os) (started : os.Started) (H : Type) (enc : TypeId × Value → H) :
    ReturnsInHanded {} Tryd.checked os 4 .any (fun w args => (Rows.fnFieldsJoinSpec.pre enc Tryd.prog Tryd.f4 Rows.fnFieldsJoinRow.domain false w args ∧ laidMetH Tryd.prog Rows.fnFieldsJoinRow.laid w) ∧ sizedMet enc Tryd.prog Tryd.f4 (OpenSpec.ofChange Rows.fnFieldsJoinSpec) false w args) (Rows.fnFieldsJoinSpec.post enc Tryd.prog Tryd.f4 false true false false) := by
  refine YtehefologhfdhaaDoorW.wrapLaidShaped (C := Tryd.checked) (X := fun w _ => laidMetH Tryd.prog Rows.fnFieldsJoinRow.laid w) (fun _ _ _ hh h => h.of_heap hh) own started (by kernel_rfl) Tryd.func4
    (ChangeSpec.witness_shaped (enc := enc) (C := Tryd.checked) (os := os) (X := fun w _ => laidMetH Tryd.prog Rows.fnFieldsJoinRow.laid w) false (World.laidAll Tryd.prog os Rows.fnFieldsJoinRow.laid) #[.slice none 0 0] 8 (World.laidAll_os _ _ _)
      (World.shaped_of_ZipB (by kernel_rfl) (by kernel_rfl)) (by kernel_rfl) (by kernel_rfl) (by kernel_rfl)
      (by rw [MakeChecks.laidMetH_plain _ _ _ (by kernel_rfl)]; exact laidMet_laidAll _ (by kernel_rfl) (by kernel_rfl))) ?_
  intro W base args ds gs before hsh hval0 hW hL
  have hval : ∀ (j : Nat) t v, Tryd.f4.params[j]? = some t → args[j]? = some v → Value.okWide Tryd.prog W .any base t v := hval0
  have hW' := hW
  obtain ⟨p, q, hA0, hV, rfl, hfz, hnd⟩ := hW
  have hA : DataW.TrodAll enc Tryd.prog W 0 (fun _ => true) true Tryd.f4.params.toList args.toList ds p := hA0
  rw [Tryd.params4] at hA hval
  obtain ⟨v0, vs0, d0, ds0, p0, q0, hargs, rfl, rfl, h0, r0⟩ := trodAll_cons hA
  obtain ⟨rfl, rfl, rfl⟩ := trodAll_nil r0
  obtain rfl : args = #[v0] := by cases args; simp_all
  obtain ⟨rfl, rfl⟩ := trodVars_none hV
  have k0 := h0
  have lt0 : ∀ x ∈ p0, x.block < W.heap.size := by obtain ⟨m, hm⟩ := k0; exact DataW.trod_lt m _ _ _ hm
  obtain ⟨A0, c0, x0, rfl, l0, g0, w0⟩ := Go.Proofs.YtehefologhfdhaaDoorW.Opens.open_row Tryd.underlying27 (by kernel_rfl) (fun m_ => (opens_int Tryd.underlying5 m_)) (hval 0 27 v0 rfl rfl) h0
  clear hA0 hval0
  have HT : Aside0 (Ext.TabOk W) := ⟨cell_of_shapedOpen_int (zero := #[.int .i64 0]) hsh (by decide +kernel) (by kernel_rfl) (by kernel_rfl) (by kernel_rfl) (by kernel_rfl) Tryd.underlying3⟩
  obtain ⟨k_, hk_⟩ := Pure.FnFieldsJoin x0 w0
  refine (laws_FnFieldsJoin.calls k_ _ _ x0 true W g0 l0 hk_).mono fun e W' he_ => ?_
  obtain ⟨rfl, hd_⟩ := he_
  have bel : Below W.heap.size W W' := hd_
  exact ⟨_, rfl, _, _, _, [], _, [], hW', trodAll_mk1 (shut_bool Tryd.underlying4 _), (trodAll_cons_mk (Below.trod laidOut (by kernel_rfl) (of_decide_eq_true (by kernel_rfl)) k0 bel lt0) trodAll_mk0), rfl, bel.frame _, fun h => by cases h⟩
theorem over : Rows.fnFieldsJoinRow.holds Tryd.pinned (OpenSpec.ofChange Rows.fnFieldsJoinSpec) :=
  OpenClaim.holds_of_wide 4 Tryd.f4 rfl rfl rfl rfl rfl rfl rfl ⟨rfl, rfl, rfl, rfl, rfl⟩ rfl rfl rfl rfl rfl (by kernel_rfl) Tryd.func4 (by kernel_rfl)
    (of_decide_eq_true (by kernel_rfl)) (by unfold Func.isWrapper; first | (rw [if_pos (by decide +kernel)]; kernel_rfl) | (rw [if_neg (by decide +kernel)]; exact ⟨rfl, rfl⟩))
    (fun os started H enc _ => lifted os started H enc)
theorem proved : Rows.FnFieldsJoinCardSaid :=
  Claim7.holds_tied_plain_at .later [] [.data, .pinned] true (true, "cae955552473e63d0c970cd82a2098605e52f884fff3d1ce6f64d1af3fed1328") false over (fun _ h => by cases h) (by kernel_rfl) (fun _ h => by cases h) fnFieldsJoin_row_tie rfl ⟨rfl, rfl⟩ (by kernel_rfl) rfl
    (fun f fn hf hfn => by
      obtain rfl : f = 4 := Option.some.inj ((show Tryd.prog.funcNamed "loop.example/g00289/laws.FnFieldsJoin" = some 4 by kernel_rfl).symm.trans hf) |>.symm
      obtain rfl : fn = Tryd.f4 := (Option.some.inj (Tryd.func4.symm.trans hfn)).symm
      exact ⟨by kernel_rfl, fun j t ht => by
        rw [Tryd.params4] at ht
        have hm : t ∈ [27] := by simpa using Array.mem_of_getElem? ht
        have hall : ([27].all fun u => !Tryd.prog.wantsStandIn u) = true := by kernel_rfl
        exact (show Tryd.prog.wantsStandIn t = false by simpa using List.all_eq_true.1 hall t hm)⟩)
    (by kernel_rfl)
#print axioms proved
end Go.Proofs.YtehefologhfdhaaDoor.fnFieldsJoin
namespace Go.Proofs.YtehefologhfdhaaDoor
/-- The row, under a short name, for the claim. -/
theorem fnFieldsJoin_holds : Rows.FnFieldsJoinCardSaid := fnFieldsJoin.proved
end Go.Proofs.YtehefologhfdhaaDoor
