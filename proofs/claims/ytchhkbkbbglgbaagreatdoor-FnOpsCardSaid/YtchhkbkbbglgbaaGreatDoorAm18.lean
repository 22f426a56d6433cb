/- What Go's library does, told by contracts: calls that make nothing, and calls that sort a row of the call's own. -/
import Derived.Test.YtchhkbkbbglgbaaGreatDoorAm17
import Derived.Lib.SlKeysI
import Derived.Lib.OwnBridge
import Derived.Lib.SlicesCompact
import Derived.Lib.Join
set_option linter.unusedVariables false
set_option linter.unusedSimpArgs false
namespace Go.Proofs.YtchhkbkbbglgbaaGreatDoorW.AM
open Go Go.RowKit Go.Sort
theorem below_grow (w : World) (k : Nat) (os : Array Obj) : Below w.heap.size w (grow (w.drewN k) os) :=
 ⟨rfl, rfl, rfl, by simp [grow, World.drewN], fun i hi => by
  show ((w.drewN k).heap ++ os)[i]? = w.heap[i]?
  exact Array.getElem?_append_left hi⟩
theorem orc_pure {G : Env} {f : FuncId} {as : List A0} {v : VV} {C : Cx G.tab} {w : World} {args : List Value} (hargs : FA (RepA C) as args) (hw : WR C (heap0 []) w) (hv : ∀ a ∈ as, ∃ u, a = A0.val u)
  (hc : ∀ (I : Nat → Nat → Option Value) (w : World) (args : List Value), (∀ b j v, I b j = some v → cellI w b j = some v) → TabW G.tab w → FA (fun a x => ∃ u, a = A0.val u ∧ RepV I u x) as args → Calls G.P f args.toArray w fun e w' => ∃ x, e = .returned x ∧ RepV I v x ∧ Below w.heap.size w w') :
  Calls G.P f args.toArray w fun e w' => ∃ (x : Value) (C' : Cx G.tab), e = .returned x ∧ RepAV C' (tupOf [.val v]) x ∧ WR C' (heapN ([] : List Ob).length []) w' ∧ Stp C C' w w' ∧ ([] : List Ob).length ≤ ([] : List Ob).length := by
 refine (hc C.I w args hw.inI ⟨fun b j v h => hw.inI _ _ _ (hw.inT _ _ _ h), fun b n h => (hw.inZ b n h).1⟩ (fa_of (fa_len hargs) fun i a x ha hx => ?_)).mono ?_
 ·obtain ⟨u, rfl⟩ := hv a (List.mem_iff_getElem?.2 ⟨i, ha⟩)
  obtain ⟨x', hx', hr⟩ := fa_get hargs ha
  rw [hx] at hx'; cases hx'
  exact ⟨u, rfl, hr⟩
 ·rintro e w' ⟨x, rfl, hx, hb⟩
  refine ⟨x, C, rfl, hx, ?_, Stp.keep hb.os hb.tape hb.output hb.size hb.block, Nat.le_refl _⟩
  have hw := hw.keep hb.size hb.block
  refine ⟨hw.inI, fun id _ => hw.dom id (by simp [heap0]), fun id o h => ?_, hw.sep, hw.lt, hw.inT, hw.inZ⟩
  obtain ⟨k, _, h1⟩ := heapN_inv (by simp) h
  simp at h1
/-! ### rows of texts -/
end Go.Proofs.YtchhkbkbbglgbaaGreatDoorW.AM
