/- The walks of the functions that FnExactMatchAt reaches, through the abstract machine. -/
import Derived.Test.YtdajhceookjdmaaAFnExactMatchAth
import Derived.Test.YtdajhceookjdmaaExt
import Derived.Test.YtdajhceookjdmaaFFnExactMatchAt
import Derived.Test.YtdajhceookjdmaaProg
set_option maxHeartbeats 4000000
set_option maxRecDepth 100000
set_option linter.unusedVariables false
set_option linter.unusedSimpArgs false
namespace Go.Proofs.Ytdajhceookjdmaa.TFnExactMatchAt
open Go Go.RowKit Go.Proofs Go.Proofs.YtdajhceookjdmaaW.AM Go.Proofs.Ytdajhceookjdmaa.QFnExactMatchAt Go.Proofs.YtdajhceookjdmaaW.PrintWords Go.Proofs.YtdajhceookjdmaaW.Pgs
theorem G_ok : G.Ok := by
  refine ⟨fun t i h => ?_, fun f F h => ?_, fun f F h => ?_, by kernel_rfl⟩
  · exact assoc_all (Q := fun t i => tiOf Try.prog t = some i) (l := tis) ⟨by show _ = _; kernel_rfl, by show _ = _; kernel_rfl, by show _ = _; kernel_rfl, by show _ = _; kernel_rfl, by show _ = _; kernel_rfl, by show _ = _; kernel_rfl, by show _ = _; kernel_rfl, by show _ = _; kernel_rfl, by show _ = _; kernel_rfl, by show _ = _; kernel_rfl, trivial⟩ h
  · exact assoc_all (Q := fun f F => Try.prog.funcs[f]? = some F) (l := [(3, Try.f3), (7, Try.f7), (8, Try.f8), (9, Try.f9), (10, Try.f10), (11, Try.f11), (28, Try.f28), (32, Try.f32), (33, Try.f33), (35, Try.f35), (36, Try.f36), (37, Try.f37), (38, Try.f38), (39, Try.f39), (40, Try.f40), (41, Try.f41), (42, Try.f42), (43, Try.f43), (57, Try.f57), (58, Try.f58), (63, Try.f63), (64, Try.f64), (65, Try.f65), (66, Try.f66), (67, Try.f67), (68, Try.f68), (69, Try.f69)]) ⟨Try.func3, Try.func7, Try.func8, Try.func9, Try.func10, Try.func11, Try.func28, Try.func32, Try.func33, Try.func35, Try.func36, Try.func37, Try.func38, Try.func39, Try.func40, Try.func41, Try.func42, Try.func43, Try.func57, Try.func58, Try.func63, Try.func64, Try.func65, Try.func66, Try.func67, Try.func68, Try.func69, trivial⟩ h
  · exact assoc_all (Q := fun f F => (F.name == "runtime.NumGoroutine") = false ∧ F.body.isNone = false) (l := [(3, Try.f3), (7, Try.f7), (8, Try.f8), (9, Try.f9), (10, Try.f10), (11, Try.f11), (28, Try.f28), (32, Try.f32), (33, Try.f33), (35, Try.f35), (36, Try.f36), (37, Try.f37), (38, Try.f38), (39, Try.f39), (40, Try.f40), (41, Try.f41), (42, Try.f42), (43, Try.f43), (57, Try.f57), (58, Try.f58), (63, Try.f63), (64, Try.f64), (65, Try.f65), (66, Try.f66), (67, Try.f67), (68, Try.f68), (69, Try.f69)]) ⟨⟨by kernel_rfl, by kernel_rfl⟩, ⟨by kernel_rfl, by kernel_rfl⟩, ⟨by kernel_rfl, by kernel_rfl⟩, ⟨by kernel_rfl, by kernel_rfl⟩, ⟨by kernel_rfl, by kernel_rfl⟩, ⟨by kernel_rfl, by kernel_rfl⟩, ⟨by kernel_rfl, by kernel_rfl⟩, ⟨by kernel_rfl, by kernel_rfl⟩, ⟨by kernel_rfl, by kernel_rfl⟩, ⟨by kernel_rfl, by kernel_rfl⟩, ⟨by kernel_rfl, by kernel_rfl⟩, ⟨by kernel_rfl, by kernel_rfl⟩, ⟨by kernel_rfl, by kernel_rfl⟩, ⟨by kernel_rfl, by kernel_rfl⟩, ⟨by kernel_rfl, by kernel_rfl⟩, ⟨by kernel_rfl, by kernel_rfl⟩, ⟨by kernel_rfl, by kernel_rfl⟩, ⟨by kernel_rfl, by kernel_rfl⟩, ⟨by kernel_rfl, by kernel_rfl⟩, ⟨by kernel_rfl, by kernel_rfl⟩, ⟨by kernel_rfl, by kernel_rfl⟩, ⟨by kernel_rfl, by kernel_rfl⟩, ⟨by kernel_rfl, by kernel_rfl⟩, ⟨by kernel_rfl, by kernel_rfl⟩, ⟨by kernel_rfl, by kernel_rfl⟩, ⟨by kernel_rfl, by kernel_rfl⟩, ⟨by kernel_rfl, by kernel_rfl⟩, trivial⟩ h
theorem orc_ok : CFS G G.orc := by
  intro f xs obs rs obs' h C w args hargs hw hm
  rcases h with ⟨e, g, zs, rfl, rfl, rfl, rfl, rfl, hc⟩ | ⟨s, c, rfl, rfl, rfl, rfl, rfl⟩ | ⟨s, c, rfl, rfl, rfl, rfl, rfl⟩ | h
  · exact sort_ints hargs hw hc Try.slices_Sort_int_none Try.slices_Sort_int
  · refine orc_pure hargs hw (fun a ha => ?_) (fun I w args _ hr => ?_)
    · simp only [List.mem_cons, List.not_mem_nil, or_false] at ha; rcases ha with rfl | rfl <;> exact ⟨_, rfl⟩
    · rcases hr with _ | ⟨⟨u0, e0, h0⟩, _ | ⟨⟨u1, e1, h1⟩, _ | _⟩⟩; cases e0; cases h0; cases e1; cases h1
      refine (Try.strings_IndexByte s c w).mono ?_; rintro e w' ⟨rfl, rfl⟩; exact ⟨_, rfl, .int _ _, Below.refl _ _⟩
  · refine orc_pure hargs hw (fun a ha => ?_) (fun I w args _ hr => ?_)
    · simp only [List.mem_cons, List.not_mem_nil, or_false] at ha; rcases ha with rfl | rfl <;> exact ⟨_, rfl⟩
    · rcases hr with _ | ⟨⟨u0, e0, h0⟩, _ | ⟨⟨u1, e1, h1⟩, _ | _⟩⟩; cases e0; cases h0; cases e1; cases h1
      refine (Try.strings_Contains_one s c w).mono ?_; rintro e w' ⟨rfl, rfl⟩; exact ⟨_, rfl, .bool _, Below.refl _ _⟩
  · exact h.elim
theorem opA59 (n : Nat) : OpA Try.prog n 6 (fun s => (e59 s).cells) Wf59 59 := by
  have h0 := opA_struct Try.underlying59 (by kernel_rfl) n (fun m_ hm_ => (flA_cons rfl (by kernel_rfl) (opA_int Try.underlying3 m_) (flA_cons rfl (by kernel_rfl) (opA_int Try.underlying3 m_) (flA_cons rfl (by kernel_rfl) (opA_string Try.underlying9 m_) (flA_cons rfl (by kernel_rfl) (opA_bool Try.underlying4 m_) (flA_cons rfl (by kernel_rfl) (opA_int Try.underlying3 m_) (flA_one rfl (by kernel_rfl) (opA_int Try.underlying3 m_))))))))
  refine opA_conv h0 (fun (y : Int × Int × ByteArray × Bool × Int × Int) => ⟨y.1, y.2.1, y.2.2.1, y.2.2.2.1, y.2.2.2.2.1, y.2.2.2.2.2⟩) (fun y => rfl) (fun y h => ?_)
  exact h
end Go.Proofs.Ytdajhceookjdmaa.TFnExactMatchAt
