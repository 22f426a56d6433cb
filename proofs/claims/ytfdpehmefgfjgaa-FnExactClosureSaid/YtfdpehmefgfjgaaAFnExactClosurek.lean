/- The walks of the functions that FnExactClosure reaches, through the abstract machine. -/
import Derived.Test.YtfdpehmefgfjgaaAFnExactClosureh
import Derived.Test.YtfdpehmefgfjgaaExt
import Derived.Test.YtfdpehmefgfjgaaFFnExactClosure
import Derived.Test.YtfdpehmefgfjgaaProg
set_option maxHeartbeats 4000000
set_option maxRecDepth 100000
set_option linter.unusedVariables false
set_option linter.unusedSimpArgs false
namespace Go.Proofs.Ytfdpehmefgfjgaa.TFnExactClosure
open Go Go.RowKit Go.Proofs Go.Proofs.YtfdpehmefgfjgaaW.AM Go.Proofs.Ytfdpehmefgfjgaa.QFnExactClosure Go.Proofs.YtfdpehmefgfjgaaW.PrintWords Go.Proofs.YtfdpehmefgfjgaaW.Pgs
theorem G_ok : G.Ok := by
  refine ⟨fun t i h => ?_, fun f F h => ?_, fun f F h => ?_, by kernel_rfl⟩
  · exact assoc_all (Q := fun t i => tiOf Try.prog t = some i) (l := tis) ⟨by show _ = _; kernel_rfl, by show _ = _; kernel_rfl, by show _ = _; kernel_rfl, by show _ = _; kernel_rfl, by show _ = _; kernel_rfl, by show _ = _; kernel_rfl, by show _ = _; kernel_rfl, by show _ = _; kernel_rfl, by show _ = _; kernel_rfl, by show _ = _; kernel_rfl, by show _ = _; kernel_rfl, trivial⟩ h
  · exact assoc_all (Q := fun f F => Try.prog.funcs[f]? = some F) (l := [(5, Try.f5), (22, Try.f22), (23, Try.f23), (24, Try.f24), (25, Try.f25), (26, Try.f26), (27, Try.f27), (28, Try.f28), (29, Try.f29), (30, Try.f30), (31, Try.f31), (46, Try.f46), (51, Try.f51), (65, Try.f65), (66, Try.f66), (67, Try.f67), (68, Try.f68), (69, Try.f69), (70, Try.f70), (71, Try.f71)]) ⟨Try.func5, Try.func22, Try.func23, Try.func24, Try.func25, Try.func26, Try.func27, Try.func28, Try.func29, Try.func30, Try.func31, Try.func46, Try.func51, Try.func65, Try.func66, Try.func67, Try.func68, Try.func69, Try.func70, Try.func71, trivial⟩ h
  · exact assoc_all (Q := fun f F => (F.name == "runtime.NumGoroutine") = false ∧ F.body.isNone = false) (l := [(5, Try.f5), (22, Try.f22), (23, Try.f23), (24, Try.f24), (25, Try.f25), (26, Try.f26), (27, Try.f27), (28, Try.f28), (29, Try.f29), (30, Try.f30), (31, Try.f31), (46, Try.f46), (51, Try.f51), (65, Try.f65), (66, Try.f66), (67, Try.f67), (68, Try.f68), (69, Try.f69), (70, Try.f70), (71, Try.f71)]) ⟨⟨by kernel_rfl, by kernel_rfl⟩, ⟨by kernel_rfl, by kernel_rfl⟩, ⟨by kernel_rfl, by kernel_rfl⟩, ⟨by kernel_rfl, by kernel_rfl⟩, ⟨by kernel_rfl, by kernel_rfl⟩, ⟨by kernel_rfl, by kernel_rfl⟩, ⟨by kernel_rfl, by kernel_rfl⟩, ⟨by kernel_rfl, by kernel_rfl⟩, ⟨by kernel_rfl, by kernel_rfl⟩, ⟨by kernel_rfl, by kernel_rfl⟩, ⟨by kernel_rfl, by kernel_rfl⟩, ⟨by kernel_rfl, by kernel_rfl⟩, ⟨by kernel_rfl, by kernel_rfl⟩, ⟨by kernel_rfl, by kernel_rfl⟩, ⟨by kernel_rfl, by kernel_rfl⟩, ⟨by kernel_rfl, by kernel_rfl⟩, ⟨by kernel_rfl, by kernel_rfl⟩, ⟨by kernel_rfl, by kernel_rfl⟩, ⟨by kernel_rfl, by kernel_rfl⟩, ⟨by kernel_rfl, by kernel_rfl⟩, trivial⟩ h
theorem orc_ok : CFS G G.orc := by
  intro f xs obs rs obs' h C w args hargs hw hm
  rcases h with ⟨e, g, zs, rfl, rfl, rfl, rfl, rfl, hc⟩ | ⟨s, c, rfl, rfl, rfl, rfl, rfl⟩ | ⟨s, c, rfl, rfl, rfl, rfl, rfl⟩ | h
  · exact sort_ints hargs hw hc Try.slices_Sort_int_none Try.slices_Sort_int
  · refine orc_pure hargs hw (fun a ha => ?_) (fun I w args _ hr => ?_)
    · simp only [List.mem_cons, List.not_mem_nil, or_false] at ha; rcases ha with rfl | rfl <;> exact ⟨_, rfl⟩
    · rcases hr with _ | ⟨⟨u0, e0, h0⟩, _ | ⟨⟨u1, e1, h1⟩, _ | _⟩⟩; cases e0; cases h0; cases e1; cases h1
      refine (Try.strings_IndexByte s c w).mono ?_; rintro e w' ⟨rfl, rfl⟩; exact ⟨_, rfl, .int _ _, Below.refl _ _⟩
  · refine orc_pure hargs hw (fun a ha => ?_) (fun I w args _ hr => ?_)
    · simp only [List.mem_cons, List.not_mem_nil, or_false] at ha; rcases ha with rfl | rfl <;> exact ⟨_, rfl⟩
    · rcases hr with _ | ⟨⟨u0, e0, h0⟩, _ | ⟨⟨u1, e1, h1⟩, _ | _⟩⟩; cases e0; cases h0; cases e1; cases h1
      refine (Try.strings_Contains_one s c w).mono ?_; rintro e w' ⟨rfl, rfl⟩; exact ⟨_, rfl, .bool _, Below.refl _ _⟩
  · exact h.elim
theorem opA99 (n : Nat) : OpA Try.prog n 6 (fun s => (e99 s).cells) Wf99 99 := by
  have h0 := opA_struct Try.underlying99 (by kernel_rfl) n (fun m_ hm_ => (flA_cons rfl (by kernel_rfl) (opA_int Try.underlying3 m_) (flA_cons rfl (by kernel_rfl) (opA_int Try.underlying3 m_) (flA_cons rfl (by kernel_rfl) (opA_string Try.underlying9 m_) (flA_cons rfl (by kernel_rfl) (opA_bool Try.underlying4 m_) (flA_cons rfl (by kernel_rfl) (opA_int Try.underlying3 m_) (flA_one rfl (by kernel_rfl) (opA_int Try.underlying3 m_))))))))
  refine opA_conv h0 (fun (y : Int × Int × ByteArray × Bool × Int × Int) => ⟨y.1, y.2.1, y.2.2.1, y.2.2.2.1, y.2.2.2.2.1, y.2.2.2.2.2⟩) (fun y => rfl) (fun y h => ?_)
  exact h
end Go.Proofs.Ytfdpehmefgfjgaa.TFnExactClosure
