/- The walks of the functions that FnExactRexParse reaches, through the abstract machine. -/
import Derived.Test.YtccldchklemogaaAFnExactRexParseh
import Derived.Test.YtccldchklemogaaExt
import Derived.Test.YtccldchklemogaaFFnExactRexParse
import Derived.Test.YtccldchklemogaaProg
set_option maxHeartbeats 4000000
set_option maxRecDepth 100000
set_option linter.unusedVariables false
set_option linter.unusedSimpArgs false
namespace Go.Proofs.Ytccldchklemogaa.TFnExactRexParse
open Go Go.RowKit Go.Proofs Go.Proofs.YtccldchklemogaaW.AM Go.Proofs.Ytccldchklemogaa.QFnExactRexParse Go.Proofs.YtccldchklemogaaW.PrintWords Go.Proofs.YtccldchklemogaaW.Pgs
theorem G_ok : G.Ok := by
  refine ⟨fun t i h => ?_, fun f F h => ?_, fun f F h => ?_, by kernel_rfl⟩
  · exact assoc_all (Q := fun t i => tiOf Try.prog t = some i) (l := tis) ⟨by show _ = _; kernel_rfl, by show _ = _; kernel_rfl, by show _ = _; kernel_rfl, by show _ = _; kernel_rfl, by show _ = _; kernel_rfl, by show _ = _; kernel_rfl, by show _ = _; kernel_rfl, by show _ = _; kernel_rfl, by show _ = _; kernel_rfl, by show _ = _; kernel_rfl, trivial⟩ h
  · exact assoc_all (Q := fun f F => Try.prog.funcs[f]? = some F) (l := [(3, Try.f3), (5, Try.f5), (6, Try.f6), (7, Try.f7), (8, Try.f8), (9, Try.f9), (19, Try.f19), (20, Try.f20), (21, Try.f21), (22, Try.f22), (23, Try.f23), (24, Try.f24), (25, Try.f25), (33, Try.f33), (35, Try.f35), (36, Try.f36), (37, Try.f37), (38, Try.f38), (39, Try.f39), (47, Try.f47), (48, Try.f48), (49, Try.f49), (56, Try.f56), (57, Try.f57), (58, Try.f58), (70, Try.f70), (71, Try.f71), (78, Try.f78)]) ⟨Try.func3, Try.func5, Try.func6, Try.func7, Try.func8, Try.func9, Try.func19, Try.func20, Try.func21, Try.func22, Try.func23, Try.func24, Try.func25, Try.func33, Try.func35, Try.func36, Try.func37, Try.func38, Try.func39, Try.func47, Try.func48, Try.func49, Try.func56, Try.func57, Try.func58, Try.func70, Try.func71, Try.func78, trivial⟩ h
  · exact assoc_all (Q := fun f F => (F.name == "runtime.NumGoroutine") = false ∧ F.body.isNone = false) (l := [(3, Try.f3), (5, Try.f5), (6, Try.f6), (7, Try.f7), (8, Try.f8), (9, Try.f9), (19, Try.f19), (20, Try.f20), (21, Try.f21), (22, Try.f22), (23, Try.f23), (24, Try.f24), (25, Try.f25), (33, Try.f33), (35, Try.f35), (36, Try.f36), (37, Try.f37), (38, Try.f38), (39, Try.f39), (47, Try.f47), (48, Try.f48), (49, Try.f49), (56, Try.f56), (57, Try.f57), (58, Try.f58), (70, Try.f70), (71, Try.f71), (78, Try.f78)]) ⟨⟨by kernel_rfl, by kernel_rfl⟩, ⟨by kernel_rfl, by kernel_rfl⟩, ⟨by kernel_rfl, by kernel_rfl⟩, ⟨by kernel_rfl, by kernel_rfl⟩, ⟨by kernel_rfl, by kernel_rfl⟩, ⟨by kernel_rfl, by kernel_rfl⟩, ⟨by kernel_rfl, by kernel_rfl⟩, ⟨by kernel_rfl, by kernel_rfl⟩, ⟨by kernel_rfl, by kernel_rfl⟩, ⟨by kernel_rfl, by kernel_rfl⟩, ⟨by kernel_rfl, by kernel_rfl⟩, ⟨by kernel_rfl, by kernel_rfl⟩, ⟨by kernel_rfl, by kernel_rfl⟩, ⟨by kernel_rfl, by kernel_rfl⟩, ⟨by kernel_rfl, by kernel_rfl⟩, ⟨by kernel_rfl, by kernel_rfl⟩, ⟨by kernel_rfl, by kernel_rfl⟩, ⟨by kernel_rfl, by kernel_rfl⟩, ⟨by kernel_rfl, by kernel_rfl⟩, ⟨by kernel_rfl, by kernel_rfl⟩, ⟨by kernel_rfl, by kernel_rfl⟩, ⟨by kernel_rfl, by kernel_rfl⟩, ⟨by kernel_rfl, by kernel_rfl⟩, ⟨by kernel_rfl, by kernel_rfl⟩, ⟨by kernel_rfl, by kernel_rfl⟩, ⟨by kernel_rfl, by kernel_rfl⟩, ⟨by kernel_rfl, by kernel_rfl⟩, ⟨by kernel_rfl, by kernel_rfl⟩, trivial⟩ h
theorem orc_ok : CFS G G.orc := by
  intro f xs obs rs obs' h C w args hargs hw hm
  rcases h with ⟨s, c, rfl, rfl, rfl, rfl, rfl⟩ | h
  · refine orc_pure hargs hw (fun a ha => ?_) (fun I w args hI hT hr => ?_)
    · simp only [List.mem_cons, List.not_mem_nil, or_false] at ha; rcases ha with rfl | rfl <;> exact ⟨_, rfl⟩
    · rcases hr with _ | ⟨⟨u0, e0, h0⟩, _ | ⟨⟨u1, e1, h1⟩, _ | _⟩⟩; cases e0; cases h0; cases e1; cases h1
      refine (Try.strings_IndexByte s c w).mono ?_; rintro e w' ⟨rfl, rfl⟩; exact ⟨_, rfl, .int _ _, Below.refl _ _⟩
  · exact h.elim

end Go.Proofs.Ytccldchklemogaa.TFnExactRexParse
