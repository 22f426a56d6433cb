/- The walks of the functions that FnExactNames reaches, through the abstract machine. -/
import Derived.Test.YtccldchklemogaaAFnExactNamesh
import Derived.Test.YtccldchklemogaaExt
import Derived.Test.YtccldchklemogaaFFnExactNames
import Derived.Test.YtccldchklemogaaProg
set_option maxHeartbeats 4000000
set_option maxRecDepth 100000
set_option linter.unusedVariables false
set_option linter.unusedSimpArgs false
namespace Go.Proofs.Ytccldchklemogaa.TFnExactNames
open Go Go.RowKit Go.Proofs Go.Proofs.YtccldchklemogaaW.AM Go.Proofs.Ytccldchklemogaa.QFnExactNames Go.Proofs.YtccldchklemogaaW.PrintWords Go.Proofs.YtccldchklemogaaW.Pgs
theorem G_ok : G.Ok := by
  refine ⟨fun t i h => ?_, fun f F h => ?_, fun f F h => ?_, by kernel_rfl⟩
  · exact assoc_all (Q := fun t i => tiOf Try.prog t = some i) (l := tis) ⟨by show _ = _; kernel_rfl, by show _ = _; kernel_rfl, by show _ = _; kernel_rfl, by show _ = _; kernel_rfl, by show _ = _; kernel_rfl, by show _ = _; kernel_rfl, by show _ = _; kernel_rfl, by show _ = _; kernel_rfl, by show _ = _; kernel_rfl, by show _ = _; kernel_rfl, by show _ = _; kernel_rfl, by show _ = _; kernel_rfl, by show _ = _; kernel_rfl, by show _ = _; kernel_rfl, by show _ = _; kernel_rfl, trivial⟩ h
  · exact assoc_all (Q := fun f F => Try.prog.funcs[f]? = some F) (l := [(4, Try.f4), (10, Try.f10), (11, Try.f11), (12, Try.f12), (13, Try.f13), (14, Try.f14), (15, Try.f15), (16, Try.f16), (17, Try.f17), (18, Try.f18), (26, Try.f26), (27, Try.f27), (28, Try.f28), (29, Try.f29), (30, Try.f30), (31, Try.f31), (32, Try.f32), (33, Try.f33), (34, Try.f34), (40, Try.f40), (41, Try.f41), (42, Try.f42), (43, Try.f43), (44, Try.f44), (45, Try.f45), (46, Try.f46), (50, Try.f50), (51, Try.f51), (52, Try.f52), (55, Try.f55)]) ⟨Try.func4, Try.func10, Try.func11, Try.func12, Try.func13, Try.func14, Try.func15, Try.func16, Try.func17, Try.func18, Try.func26, Try.func27, Try.func28, Try.func29, Try.func30, Try.func31, Try.func32, Try.func33, Try.func34, Try.func40, Try.func41, Try.func42, Try.func43, Try.func44, Try.func45, Try.func46, Try.func50, Try.func51, Try.func52, Try.func55, trivial⟩ h
  · exact assoc_all (Q := fun f F => (F.name == "runtime.NumGoroutine") = false ∧ F.body.isNone = false) (l := [(4, Try.f4), (10, Try.f10), (11, Try.f11), (12, Try.f12), (13, Try.f13), (14, Try.f14), (15, Try.f15), (16, Try.f16), (17, Try.f17), (18, Try.f18), (26, Try.f26), (27, Try.f27), (28, Try.f28), (29, Try.f29), (30, Try.f30), (31, Try.f31), (32, Try.f32), (33, Try.f33), (34, Try.f34), (40, Try.f40), (41, Try.f41), (42, Try.f42), (43, Try.f43), (44, Try.f44), (45, Try.f45), (46, Try.f46), (50, Try.f50), (51, Try.f51), (52, Try.f52), (55, Try.f55)]) ⟨⟨by kernel_rfl, by kernel_rfl⟩, ⟨by kernel_rfl, by kernel_rfl⟩, ⟨by kernel_rfl, by kernel_rfl⟩, ⟨by kernel_rfl, by kernel_rfl⟩, ⟨by kernel_rfl, by kernel_rfl⟩, ⟨by kernel_rfl, by kernel_rfl⟩, ⟨by kernel_rfl, by kernel_rfl⟩, ⟨by kernel_rfl, by kernel_rfl⟩, ⟨by kernel_rfl, by kernel_rfl⟩, ⟨by kernel_rfl, by kernel_rfl⟩, ⟨by kernel_rfl, by kernel_rfl⟩, ⟨by kernel_rfl, by kernel_rfl⟩, ⟨by kernel_rfl, by kernel_rfl⟩, ⟨by kernel_rfl, by kernel_rfl⟩, ⟨by kernel_rfl, by kernel_rfl⟩, ⟨by kernel_rfl, by kernel_rfl⟩, ⟨by kernel_rfl, by kernel_rfl⟩, ⟨by kernel_rfl, by kernel_rfl⟩, ⟨by kernel_rfl, by kernel_rfl⟩, ⟨by kernel_rfl, by kernel_rfl⟩, ⟨by kernel_rfl, by kernel_rfl⟩, ⟨by kernel_rfl, by kernel_rfl⟩, ⟨by kernel_rfl, by kernel_rfl⟩, ⟨by kernel_rfl, by kernel_rfl⟩, ⟨by kernel_rfl, by kernel_rfl⟩, ⟨by kernel_rfl, by kernel_rfl⟩, ⟨by kernel_rfl, by kernel_rfl⟩, ⟨by kernel_rfl, by kernel_rfl⟩, ⟨by kernel_rfl, by kernel_rfl⟩, ⟨by kernel_rfl, by kernel_rfl⟩, trivial⟩ h
theorem orc_ok : CFS G G.orc := by
  intro f xs obs rs obs' h C w args hargs hw hm
  rcases h with ⟨e, g, zs, rfl, rfl, rfl, rfl, rfl, hc⟩ | ⟨e, g, zs, rfl, rfl, rfl, rfl, rfl, hc⟩ | h
  · exact sort_strs hargs hw hc Try.slices_Sort_string_none Try.slices_Sort_string
  · exact compact_strs hargs hw hc Try.slices_Compact_string_empty Try.slices_Compact_string compact_le compact_nil
  · exact h.elim
theorem opA56 : ∀ n, OpA Try.prog n 4 (fun s => (e56 s).cells) Wf56 56 := by
  intro n
  induction n using Nat.strongRecOn with
  | _ n ih =>
  have h0 := opA_struct Try.underlying56 (by kernel_rfl) n (fun m_ hm_ => (flA_cons rfl (by kernel_rfl) (opA_int Try.underlying3 m_) (flA_cons rfl (by kernel_rfl) (opA_int Try.underlying3 m_) (flA_cons rfl (by kernel_rfl) (opA_string Try.underlying9 m_) (flA_one rfl (by kernel_rfl) (opA_slice e56 Try.underlying54 (by kernel_rfl) (by decide) m_ (fun m2_ hm2_ => ih m2_ (by omega))))))))
  refine opA_conv h0 (fun (y : Int × Int × ByteArray × (List S56)) => ⟨y.1, y.2.1, y.2.2.1, y.2.2.2⟩) (fun y => by rw [e56_eq]; rfl) (fun y h => ?_)
  exact Wf56.mk _ h.1 h.2.1 h.2.2.1 h.2.2.2.1 h.2.2.2.2
theorem opA58 (n : Nat) : OpA Try.prog n 9 (fun s => (e58 s).cells) Wf58 58 := by
  have h0 := opA_struct Try.underlying58 (by kernel_rfl) n (fun m_ hm_ => (flA_cons rfl (by kernel_rfl) (opA_int Try.underlying3 m_) (flA_cons rfl (by kernel_rfl) (opA56 m_) (flA_one rfl (by kernel_rfl) (opA56 m_)))))
  refine opA_conv h0 (fun (y : Int × S56 × S56) => ⟨y.1, (y.2.1).f0, (y.2.1).f1, (y.2.1).f2, (y.2.1).f3, (y.2.2).f0, (y.2.2).f1, (y.2.2).f2, (y.2.2).f3⟩) (fun y => by simp only [e56_eq]; rfl) (fun y h => ?_)
  obtain ⟨y0, y1, y2⟩ := y
  obtain ⟨h0, h1, h2⟩ := h
  change Wf56 y1 at h1
  cases h1 with | mk _ a1_0 a1_1 a1_2 a1_3 b1_3 => 
    change Wf56 y2 at h2
    cases h2 with | mk _ a2_0 a2_1 a2_2 a2_3 b2_3 => 
      exact ⟨h0, a1_0, a1_1, a1_2, ⟨a1_3, b1_3⟩, a2_0, a2_1, a2_2, ⟨a2_3, b2_3⟩⟩
end Go.Proofs.Ytccldchklemogaa.TFnExactNames
