/- A law over a world whose listed tables are laid and whose other variables have their shape: the wrap that hands both to the walk. -/
import Derived.SizedLaws
import Derived.Shelf.Vars
namespace Go.Proofs.YtchhkbkbbglgbaaGreatDoorW
open Go
theorem wrapLaidShaped {H : Type} {enc : TypeId × Value → H} {asm : Assume} {C : Checked} {sys : Os} {fid : FuncId} {fn : Func} {sp : ChangeSpec} {cs : List PathCond} {apart fresh handsOn again : Bool} {X : World → Array Value → Prop}
    (hX : ∀ (u v : World) (xs : Array Value), u.heap = v.heap → X u xs → X v xs) (own : ownKnob C.prog.godebug = none) (started : sys.Started) (noInit : C.prog.inits.idxOf? fid = none) (hfn : C.prog.funcs[fid]? = some fn)
    (wit : ∃ (u : World) (tape : Tape) (i : Input), u.os = sys ∧ (u.forCall tape i).Shaped C.prog ∧ i.vars = [] ∧ Input.okWide C.prog (u.forCall tape i) .any u.heap.size fid i ∧
      ((sp.pre enc C.prog fn cs apart (u.forCall tape i).memory i.args ∧ X (u.forCall tape i).memory i.args) ∧ sizedMet enc C.prog fn (OpenSpec.ofChange sp) apart (u.forCall tape i).memory i.args) ∧ asm.holds C.prog (lone (Frame.enter C.prog fid i.args .normal) [] (u.forCall tape i)))
    (walk : ∀ (W : World) (base : Nat) (args : Array Value) (ds gs : List (DataW H)) (before : List MemPlace), W.ShapedOpen C.prog →
      (∀ (j : Nat) t v, fn.params[j]? = some t → args[j]? = some v → Value.okWide C.prog W .any base t v) → DataW.Whole enc C.prog fn.params.toList sp.vars apart W args.toList ds gs before → X W args →
      Calls C.prog fid args W fun e W' => ∃ v, e = .returned v ∧ sp.post enc C.prog fn apart fresh handsOn again W args v W') :
    ReturnsInHanded asm C sys fid .any (fun u args => (sp.pre enc C.prog fn cs apart u args ∧ X u args) ∧ sizedMet enc C.prog fn (OpenSpec.ofChange sp) apart u args) (sp.post enc C.prog fn apart fresh handsOn again) :=
  returnsInHanded_of_calls own started noInit wit fun u tape i _ shaped _ ok pre _ => by
    obtain ⟨_, _, _, fn2, hfn2, _, _, _, _, hval⟩ := ok
    cases Option.some.inj (hfn2.symm.trans hfn)
    obtain ⟨⟨⟨ds, gs, before, whole, _⟩, x⟩, _⟩ := pre
    refine (walk (u.forCall tape i) u.heap.size i.args ds gs before shaped hval (DataW.Whole.of_heap (w' := u.forCall tape i) (by rfl) whole) (hX _ _ _ (by rfl) x)).mono ?_
    rintro e W' ⟨v, rfl, post⟩
    exact ChangeSpec.post_blind post
end Go.Proofs.YtchhkbkbbglgbaaGreatDoorW
