/- FnExactMachOk answers true at every argument, and leaves it as it was: out of its pure statement. No condition. -/
import Derived.Test.YtdpioibndfpjfaaGreatDoorRows
import Derived.Test.YtdpioibndfpjfaaGreatDoorShaped
import Derived.Test.YtdpioibndfpjfaaGreatDoorCards
import Derived.Test.YtdpioibndfpjfaaGreatDoorTie
import Derived.Test.YtdpioibndfpjfaaGreatDoorAFnExactMachOkk
import Derived.Test.YtdpioibndfpjfaaGreatDoorAFnExactMachOkx6
import Derived.Test.YtdpioibndfpjfaaGreatDoorPureFnExactMachOk
import Derived.WalkKit
import Derived.ProofKit
import Derived.OpenShut
import Derived.ShutString
import Derived.ChangeOld
import Derived.Below
import Derived.SizedLaws
import Derived.Lib.LaidTab
import Derived.LaidMore
import Derived.Lay
import Derived.SevenTiedAt
import Derived.Stop.Joined
import Derived.Stop.LaidErr
namespace Go.Proofs.YtdpioibndfpjfaaGreatDoor.fnExactMachOk
open Go.ChangeShapes Go.WideShapes Go.ChangeAt Go.RowKit Go.Proofs.YtdpioibndfpjfaaGreatDoorW.AM Go.Proofs.YtdpioibndfpjfaaGreatDoor.TFnExactMachOk Go.Proofs.YtdpioibndfpjfaaGreatDoor.QFnExactMachOk
open Go.ChangeMaps (open_string shut_string)
theorem own : ownKnob Tryz.prog.godebug = none := by kernel_rfl
theorem laidOut : laidOutB Tryz.prog = true := by kernel_rfl
set_option maxRecDepth 100000 in
theorem lifted (os : Os) (started : os.Started) (H : Type) (enc : TypeId × Value → H) :
    ReturnsInHanded {} Tryz.checked os 3 .any (fun w args => (Rows.fnExactMachOkSpec.pre enc Tryz.prog Tryz.f3 Rows.fnExactMachOkRow.domain false w args ∧ laidMetH Tryz.prog Rows.fnExactMachOkRow.laid w) ∧ sizedMet enc Tryz.prog Tryz.f3 (OpenSpec.ofChange Rows.fnExactMachOkSpec) false w args) (Rows.fnExactMachOkSpec.post enc Tryz.prog Tryz.f3 false true false false) := by
  refine YtdpioibndfpjfaaGreatDoorW.wrapLaidShaped (C := Tryz.checked) (X := fun w _ => laidMetH Tryz.prog Rows.fnExactMachOkRow.laid w) (fun _ _ _ hh h => h.of_heap hh) own started (by kernel_rfl) Tryz.func3
    (ChangeSpec.witness_shaped (enc := enc) (C := Tryz.checked) (os := os) (X := fun w _ => laidMetH Tryz.prog Rows.fnExactMachOkRow.laid w) false (World.laidAll Tryz.prog os Rows.fnExactMachOkRow.laid) #[.agg #[.slice none 0 0, .slice none 0 0, .slice none 0 0, .slice none 0 0], .agg #[.slice none 0 0, .slice none 0 0, .int .i64 0, .int .i64 0, .slice none 0 0, .string ByteArray.empty]] 8 (World.laidAll_os _ _ _)
      (World.shaped_of_ZipB (by kernel_rfl) (by kernel_rfl)) (by kernel_rfl) (by kernel_rfl) (by kernel_rfl)
      (by rw [MakeChecks.laidMetH_plain _ _ _ (by kernel_rfl)]; exact laidMet_laidAll _ (by kernel_rfl) (by kernel_rfl))) ?_
  intro W base args ds gs before hsh hval0 hW hL
  have hval : ∀ (j : Nat) t v, Tryz.f3.params[j]? = some t → args[j]? = some v → Value.okWide Tryz.prog W .any base t v := hval0
  have hW' := hW
  obtain ⟨p, q, hA0, hV, rfl, hfz, hnd⟩ := hW
  have hA : DataW.TrodAll enc Tryz.prog W 0 (fun _ => true) true Tryz.f3.params.toList args.toList ds p := hA0
  rw [Tryz.params3] at hA hval
  obtain ⟨v0, vs0, d0, ds0, p0, q0, hargs, rfl, rfl, h0, r0⟩ := trodAll_cons hA
  obtain ⟨v1, vs1, d1, ds1, p1, q1, rfl, rfl, rfl, h1, r1⟩ := trodAll_cons r0
  obtain ⟨rfl, rfl, rfl⟩ := trodAll_nil r1
  obtain rfl : args = #[v0, v1] := by cases args; simp_all
  obtain ⟨rfl, rfl⟩ := trodVars_none hV
  have k0 := h0
  have lt0 : ∀ x ∈ p0, x.block < W.heap.size := by obtain ⟨m, hm⟩ := k0; exact DataW.trod_lt m _ _ _ hm
  obtain ⟨x0, y0, w0⟩ := arg_struct Tryz.underlying25 opA25 (hval 0 25 v0 rfl rfl) h0
  have k1 := h1
  have lt1 : ∀ x ∈ p1, x.block < W.heap.size := by obtain ⟨m, hm⟩ := k1; exact DataW.trod_lt m _ _ _ hm
  obtain ⟨x1, y1, w1⟩ := arg_struct Tryz.underlying32 opA32 (hval 1 32 v1 rfl rfl) h1
  clear hA0 hval0
  have hk_ := Pure.FnExactMachOk x0 x1 w0 w1
  refine (law_true G_ok orc_ok ⟨fun _ _ _ h => (by cases h), fun _ _ h => (by cases h)⟩ (laws_FnExactMachOk_ev (h := hk_)) (.cons y0 (.cons y1 .nil))).mono fun e W' he_ => ?_
  obtain ⟨rfl, bel⟩ := he_
  exact ⟨_, rfl, _, _, _, [], _, [], hW', trodAll_mk1 (shut_bool Tryz.underlying4 _), (trodAll_cons_mk (Below.trod laidOut (by kernel_rfl) (of_decide_eq_true (by kernel_rfl)) k0 bel lt0) (trodAll_cons_mk (Below.trod laidOut (by kernel_rfl) (of_decide_eq_true (by kernel_rfl)) k1 bel lt1) trodAll_mk0)), rfl, bel.frame _, fun h => by cases h⟩
theorem over : Rows.fnExactMachOkRow.holds Tryz.pinned (OpenSpec.ofChange Rows.fnExactMachOkSpec) :=
  OpenClaim.holds_of_wide 3 Tryz.f3 rfl rfl rfl rfl rfl rfl rfl ⟨rfl, rfl, rfl, rfl, rfl⟩ rfl rfl rfl rfl rfl (by kernel_rfl) Tryz.func3 (by kernel_rfl)
    (of_decide_eq_true (by kernel_rfl)) (by unfold Func.isWrapper; first | (rw [if_pos (by decide +kernel)]; kernel_rfl) | (rw [if_neg (by decide +kernel)]; exact ⟨rfl, rfl⟩))
    (fun os started H enc _ => lifted os started H enc)
theorem proved : Rows.FnExactMachOkCardSaid :=
  Claim7.holds_tied_plain_at .later [] [.data, .data, .data, .data, .sentinel, .sentinel, .pinned] true (true, "cd9d92762ecd62603b1d5324db741127ff194625e2cfb555f557716f7a1cb0ef") true over (fun _ h => by cases h) (by kernel_rfl) (fun _ h => by cases h) fnExactMachOk_row_tie rfl ⟨rfl, rfl⟩ (by kernel_rfl) rfl
    (fun f fn hf hfn => by
      obtain rfl : f = 3 := Option.some.inj ((show Tryz.prog.funcNamed "loop.example/g00289/laws.FnExactMachOk" = some 3 by kernel_rfl).symm.trans hf) |>.symm
      obtain rfl : fn = Tryz.f3 := (Option.some.inj (Tryz.func3.symm.trans hfn)).symm
      exact ⟨by kernel_rfl, fun j t ht => by
        rw [Tryz.params3] at ht
        have hm : t ∈ [25, 32] := by simpa using Array.mem_of_getElem? ht
        have hall : ([25, 32].all fun u => !Tryz.prog.wantsStandIn u) = true := by kernel_rfl
        exact (show Tryz.prog.wantsStandIn t = false by simpa using List.all_eq_true.1 hall t hm)⟩)
    (by kernel_rfl)
#print axioms proved
end Go.Proofs.YtdpioibndfpjfaaGreatDoor.fnExactMachOk
namespace Go.Proofs.YtdpioibndfpjfaaGreatDoor
/-- The row, under a short name, for the claim. -/
theorem fnExactMachOk_holds : Rows.FnExactMachOkCardSaid := fnExactMachOk.proved
end Go.Proofs.YtdpioibndfpjfaaGreatDoor
