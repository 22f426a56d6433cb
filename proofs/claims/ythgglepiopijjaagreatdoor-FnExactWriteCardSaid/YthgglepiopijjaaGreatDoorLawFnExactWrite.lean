/- FnExactWrite answers true at every argument, and leaves it as it was: out of its pure statement. No condition. -/
import Derived.Test.YthgglepiopijjaaGreatDoorRows
import Derived.Test.YthgglepiopijjaaGreatDoorShaped
import Derived.Test.YthgglepiopijjaaGreatDoorCards
import Derived.Test.YthgglepiopijjaaGreatDoorTie
import Derived.Test.YthgglepiopijjaaGreatDoorAFnExactWritek
import Derived.Test.YthgglepiopijjaaGreatDoorAFnExactWritex6
import Derived.Test.YthgglepiopijjaaGreatDoorPureFnExactWrite
import Derived.WalkKit
import Derived.ProofKit
import Derived.OpenShut
import Derived.ShutString
import Derived.ChangeOld
import Derived.Below
import Derived.SizedLaws
import Derived.Lib.LaidTab
import Derived.LaidMore
import Derived.Lay
import Derived.SevenTiedAt
import Derived.Stop.Joined
import Derived.Stop.LaidErr
import Derived.HandedShaped
namespace Go.Proofs.YthgglepiopijjaaGreatDoor.fnExactWrite
open Go.ChangeShapes Go.WideShapes Go.ChangeAt Go.RowKit Go.Proofs.YthgglepiopijjaaGreatDoorW.AM Go.Proofs.YthgglepiopijjaaGreatDoor.TFnExactWrite Go.Proofs.YthgglepiopijjaaGreatDoor.QFnExactWrite
open Go.ChangeMaps (open_string shut_string)
theorem own : ownKnob Tryz.prog.godebug = none := by kernel_rfl
theorem laidOut : laidOutB Tryz.prog = true := by kernel_rfl
set_option maxRecDepth 100000 in
theorem lifted (os : Os) (started : os.Started) (H : Type) (enc : TypeId × Value → H) :
    ReturnsInHanded {} Tryz.checked os 3 .any (fun w args => (Rows.fnExactWriteSpec.pre enc Tryz.prog Tryz.f3 Rows.fnExactWriteRow.domain false w args ∧ laidMetH Tryz.prog Rows.fnExactWriteRow.laid w) ∧ sizedMet enc Tryz.prog Tryz.f3 (OpenSpec.ofChange Rows.fnExactWriteSpec) false w args) (Rows.fnExactWriteSpec.post enc Tryz.prog Tryz.f3 false true false false) := by
  refine YthgglepiopijjaaGreatDoorW.wrapLaidShaped (C := Tryz.checked) (X := fun w _ => laidMetH Tryz.prog Rows.fnExactWriteRow.laid w) (fun _ _ _ hh h => h.of_heap hh) own started (by kernel_rfl) Tryz.func3
    (ChangeSpec.witness_shaped (enc := enc) (C := Tryz.checked) (os := os) (X := fun w _ => laidMetH Tryz.prog Rows.fnExactWriteRow.laid w) false (World.laidAll Tryz.prog os Rows.fnExactWriteRow.laid) #[.slice none 0 0] 8 (World.laidAll_os _ _ _)
      (World.shaped_of_ZipB (by kernel_rfl) (by kernel_rfl)) (by kernel_rfl) (by kernel_rfl) (by kernel_rfl)
      (by rw [MakeChecks.laidMetH_plain _ _ _ (by kernel_rfl)]; exact laidMet_laidAll _ (by kernel_rfl) (by kernel_rfl))) ?_
  intro W base args ds gs before hsh hval0 hW hL
  have hval : ∀ (j : Nat) t v, Tryz.f3.params[j]? = some t → args[j]? = some v → Value.okWide Tryz.prog W .any base t v := hval0
  have hW' := hW
  obtain ⟨p, q, hA0, hV, rfl, hfz, hnd⟩ := hW
  have hA : DataW.TrodAll enc Tryz.prog W 0 (fun _ => true) true Tryz.f3.params.toList args.toList ds p := hA0
  rw [Tryz.params3] at hA hval
  obtain ⟨v0, vs0, d0, ds0, p0, q0, hargs, rfl, rfl, h0, r0⟩ := trodAll_cons hA
  obtain ⟨rfl, rfl, rfl⟩ := trodAll_nil r0
  obtain rfl : args = #[v0] := by cases args; simp_all
  obtain ⟨rfl, rfl⟩ := trodVars_none hV
  have k0 := h0
  have lt0 : ∀ x ∈ p0, x.block < W.heap.size := by obtain ⟨m, hm⟩ := k0; exact DataW.trod_lt m _ _ _ hm
  obtain ⟨a0, n0, c0, rfl⟩ := okWide_slice Tryz.underlying22 (hval 0 22 v0 rfl rfl)
  obtain ⟨x0, y0, w0⟩ := arg_one (E := fun l : List S34 => .row (l.map e34)) (fun n => (opA_slice e34 Tryz.underlying22 (by kernel_rfl) (by decide) n (fun m2_ _ => (opA34 m2_)))) h0 rfl
  obtain ⟨m_, hm_⟩ := Tryz.laysM144.s1_3 W hsh
  have hp_ : Lib.TabIs Tryz.prog W "internal/strconv.uint64pow10" .u64 Lib.pow10Tab := by
    rw [MakeChecks.laidMetH_plain _ _ _ (by kernel_rfl)] at hL
    exact Lib.tabIs_of_head (g := 3) (t := 121) (e := 106) (n := 20) (by kernel_rfl) (by kernel_rfl) Tryz.underlying121 Tryz.underlying106 (by kernel_rfl) (by kernel_rfl) (laidMet.tail (laidMet.tail hL))
  clear hA0 hval0
  have hk_ := Pure.FnExactWrite x0 w0
  refine (law_true G_ok orc_ok (tab_ok hm_ hp_) (laws_FnExactWrite_ev (h := hk_)) (.cons y0 .nil)).mono fun e W' he_ => ?_
  obtain ⟨rfl, bel⟩ := he_
  exact ⟨_, rfl, _, _, _, [], _, [], hW', trodAll_mk1 (shut_bool Tryz.underlying4 _), (trodAll_cons_mk (Below.trod laidOut (by kernel_rfl) (of_decide_eq_true (by kernel_rfl)) k0 bel lt0) trodAll_mk0), rfl, bel.frame _, fun h => by cases h⟩
theorem over : Rows.fnExactWriteRow.holds Tryz.pinned (OpenSpec.ofChange Rows.fnExactWriteSpec) :=
  OpenClaim.holds_of_wide 3 Tryz.f3 rfl rfl rfl rfl rfl rfl rfl ⟨rfl, rfl, rfl, rfl, rfl⟩ rfl rfl rfl rfl rfl (by kernel_rfl) Tryz.func3 (by kernel_rfl)
    (of_decide_eq_true (by kernel_rfl)) (by unfold Func.isWrapper; first | (rw [if_pos (by decide +kernel)]; kernel_rfl) | (rw [if_neg (by decide +kernel)]; exact ⟨rfl, rfl⟩))
    (fun os started H enc _ => lifted os started H enc)
theorem proved : Rows.FnExactWriteCardSaid :=
  Claim7.holds_tied_plain_at .later [] [.data, .data, .data, .data, .pinned] true (true, "dc8055cccea7a4158299dff0bd0f9ae75a61775dc38d3ba629efe7c70c52fc33") false over (fun _ h => by cases h) (by kernel_rfl) (fun _ h => by cases h) fnExactWrite_row_tie rfl ⟨rfl, rfl⟩ (by kernel_rfl) rfl
    (fun f fn hf hfn => by
      obtain rfl : f = 3 := Option.some.inj ((show Tryz.prog.funcNamed "loop.example/g00289/laws.FnExactWrite" = some 3 by kernel_rfl).symm.trans hf) |>.symm
      obtain rfl : fn = Tryz.f3 := (Option.some.inj (Tryz.func3.symm.trans hfn)).symm
      exact ⟨by kernel_rfl, fun j t ht => by
        rw [Tryz.params3] at ht
        have hm : t ∈ [22] := by simpa using Array.mem_of_getElem? ht
        have hall : ([22].all fun u => !Tryz.prog.wantsStandIn u) = true := by kernel_rfl
        exact (show Tryz.prog.wantsStandIn t = false by simpa using List.all_eq_true.1 hall t hm)⟩)
    (by kernel_rfl)
#print axioms proved
end Go.Proofs.YthgglepiopijjaaGreatDoor.fnExactWrite
namespace Go.Proofs.YthgglepiopijjaaGreatDoor
/-- The row, under a short name, for the claim. -/
theorem fnExactWrite_holds : Rows.FnExactWriteCardSaid := fnExactWrite.proved
end Go.Proofs.YthgglepiopijjaaGreatDoor
