/- FnOps answers true at every argument, and leaves it as it was: out of its pure statement. No condition. -/
import Derived.Test.YtchhkbkbbglgbaaGreatDoorRows
import Derived.Test.YtchhkbkbbglgbaaGreatDoorShaped
import Derived.Test.YtchhkbkbbglgbaaGreatDoorCards
import Derived.Test.YtchhkbkbbglgbaaGreatDoorTie
import Derived.Test.YtchhkbkbbglgbaaGreatDoorAFnOpsk
import Derived.Test.YtchhkbkbbglgbaaGreatDoorAFnOpsx9
import Derived.Test.YtchhkbkbbglgbaaGreatDoorPureFnOps
import Derived.WalkKit
import Derived.ProofKit
import Derived.OpenShut
import Derived.ShutString
import Derived.ChangeOld
import Derived.Below
import Derived.SizedLaws
import Derived.Lib.LaidTab
import Derived.LaidMore
import Derived.Lay
import Derived.SevenTiedAt
import Derived.Stop.Joined
import Derived.Stop.LaidErr
import Derived.HandedShaped
namespace Go.Proofs.YtchhkbkbbglgbaaGreatDoor.fnOps
open Go.ChangeShapes Go.WideShapes Go.ChangeAt Go.RowKit Go.Proofs.YtchhkbkbbglgbaaGreatDoorW.AM Go.Proofs.YtchhkbkbbglgbaaGreatDoor.TFnOps Go.Proofs.YtchhkbkbbglgbaaGreatDoor.QFnOps
open Go.ChangeMaps (open_string shut_string)
theorem own : ownKnob Tryz.prog.godebug = none := by kernel_rfl
theorem laidOut : laidOutB Tryz.prog = true := by kernel_rfl
set_option maxRecDepth 100000 in
theorem lifted (os : Os) (started : os.Started) (H : Type) (enc : TypeId × Value → H) :
    ReturnsInHanded {} Tryz.checked os 3 .any (fun w args => (Rows.fnOpsSpec.pre enc Tryz.prog Tryz.f3 Rows.fnOpsRow.domain false w args ∧ laidMetH Tryz.prog Rows.fnOpsRow.laid w) ∧ sizedMet enc Tryz.prog Tryz.f3 (OpenSpec.ofChange Rows.fnOpsSpec) false w args) (Rows.fnOpsSpec.post enc Tryz.prog Tryz.f3 false true false false) := by
  refine YtchhkbkbbglgbaaGreatDoorW.wrapLaidShaped (C := Tryz.checked) (X := fun w _ => laidMetH Tryz.prog Rows.fnOpsRow.laid w) (fun _ _ _ hh h => h.of_heap hh) own started (by kernel_rfl) Tryz.func3
    (ChangeSpec.witness_shaped (enc := enc) (C := Tryz.checked) (os := os) (X := fun w _ => laidMetH Tryz.prog Rows.fnOpsRow.laid w) false (World.laidAll Tryz.prog os Rows.fnOpsRow.laid) #[.slice none 0 0] 8 (World.laidAll_os _ _ _)
      (World.shaped_of_ZipB (by kernel_rfl) (by kernel_rfl)) (by kernel_rfl) (by kernel_rfl) (by kernel_rfl)
      (by rw [MakeChecks.laidMetH_plain _ _ _ (by kernel_rfl)]; exact laidMet_laidAll _ (by kernel_rfl) (by kernel_rfl))) ?_
  intro W base args ds gs before hsh hval0 hW hL
  have hval : ∀ (j : Nat) t v, Tryz.f3.params[j]? = some t → args[j]? = some v → Value.okWide Tryz.prog W .any base t v := hval0
  have hW' := hW
  obtain ⟨p, q, hA0, hV, rfl, hfz, hnd⟩ := hW
  have hA : DataW.TrodAll enc Tryz.prog W 0 (fun _ => true) true Tryz.f3.params.toList args.toList ds p := hA0
  rw [Tryz.params3] at hA hval
  obtain ⟨v0, vs0, d0, ds0, p0, q0, hargs, rfl, rfl, h0, r0⟩ := trodAll_cons hA
  obtain ⟨rfl, rfl, rfl⟩ := trodAll_nil r0
  obtain rfl : args = #[v0] := by cases args; simp_all
  obtain ⟨rfl, rfl⟩ := trodVars_none hV
  have k0 := h0
  have lt0 : ∀ x ∈ p0, x.block < W.heap.size := by obtain ⟨m, hm⟩ := k0; exact DataW.trod_lt m _ _ _ hm
  obtain ⟨a0, n0, c0, rfl⟩ := okWide_slice Tryz.underlying22 (hval 0 22 v0 rfl rfl)
  obtain ⟨x0, y0, w0⟩ := arg_one (E := fun l : List Int => .row (l.map (VV.int .u8))) (fun n => (opA_slice (VV.int .u8) Tryz.underlying22 (by kernel_rfl) (by decide) n (fun m2_ _ => (opA_int Tryz.underlying5 m2_)))) h0 rfl
  have hp_ : Lib.TabIs Tryz.prog W "internal/strconv.uint64pow10" .u64 Lib.pow10Tab := by
    rw [MakeChecks.laidMetH_plain _ _ _ (by kernel_rfl)] at hL
    exact Lib.tabIs_of_head (g := 0) (t := 132) (e := 111) (n := 20) (by kernel_rfl) (by kernel_rfl) Tryz.underlying132 Tryz.underlying111 (by kernel_rfl) (by kernel_rfl) (laidMet.tail (laidMet.tail hL))
  clear hA0 hval0
  have hk_ := Pure.FnOps x0 w0
  refine (law_true G_ok orc_ok (tab_ok (m := 0) hp_) (laws_FnOps_ev (h := hk_)) (.cons y0 .nil)).mono fun e W' he_ => ?_
  obtain ⟨rfl, bel⟩ := he_
  exact ⟨_, rfl, _, _, _, [], _, [], hW', trodAll_mk1 (shut_bool Tryz.underlying4 _), (trodAll_cons_mk (Below.trod laidOut (by kernel_rfl) (of_decide_eq_true (by kernel_rfl)) k0 bel lt0) trodAll_mk0), rfl, bel.frame _, fun h => by cases h⟩
theorem over : Rows.fnOpsRow.holds Tryz.pinned (OpenSpec.ofChange Rows.fnOpsSpec) :=
  OpenClaim.holds_of_wide 3 Tryz.f3 rfl rfl rfl rfl rfl rfl rfl ⟨rfl, rfl, rfl, rfl, rfl⟩ rfl rfl rfl rfl rfl (by kernel_rfl) Tryz.func3 (by kernel_rfl)
    (of_decide_eq_true (by kernel_rfl)) (by unfold Func.isWrapper; first | (rw [if_pos (by decide +kernel)]; kernel_rfl) | (rw [if_neg (by decide +kernel)]; exact ⟨rfl, rfl⟩))
    (fun os started H enc _ => lifted os started H enc)
theorem proved : Rows.FnOpsCardSaid :=
  Claim7.holds_tied_plain_at .later [] [.data, .data, .data, .data, .pinned] true (true, "ec05966873391923ad3510f577c91296b6696c5cfccbbe31c5d44bc3da733a7b") false over (fun _ h => by cases h) (by kernel_rfl) (fun _ h => by cases h) fnOps_row_tie rfl ⟨rfl, rfl⟩ (by kernel_rfl) rfl
    (fun f fn hf hfn => by
      obtain rfl : f = 3 := Option.some.inj ((show Tryz.prog.funcNamed "loop.example/g00289/laws.FnOps" = some 3 by kernel_rfl).symm.trans hf) |>.symm
      obtain rfl : fn = Tryz.f3 := (Option.some.inj (Tryz.func3.symm.trans hfn)).symm
      exact ⟨by kernel_rfl, fun j t ht => by
        rw [Tryz.params3] at ht
        have hm : t ∈ [22] := by simpa using Array.mem_of_getElem? ht
        have hall : ([22].all fun u => !Tryz.prog.wantsStandIn u) = true := by kernel_rfl
        exact (show Tryz.prog.wantsStandIn t = false by simpa using List.all_eq_true.1 hall t hm)⟩)
    (by kernel_rfl)
#print axioms proved
end Go.Proofs.YtchhkbkbbglgbaaGreatDoor.fnOps
namespace Go.Proofs.YtchhkbkbbglgbaaGreatDoor
/-- The row, under a short name, for the claim. -/
theorem fnOps_holds : Rows.FnOpsCardSaid := fnOps.proved
end Go.Proofs.YtchhkbkbbglgbaaGreatDoor
