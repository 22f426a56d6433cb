/- The walks of the functions that FnExactOpText reaches, through the abstract machine. -/
import Derived.Test.YthgglepiopijjaaDoorAFnExactOpTexth
import Derived.Test.YthgglepiopijjaaDoorExt
import Derived.Test.YthgglepiopijjaaDoorFFnExactOpText
import Derived.Test.YthgglepiopijjaaDoorProg
set_option maxHeartbeats 4000000
set_option maxRecDepth 100000
set_option linter.unusedVariables false
set_option linter.unusedSimpArgs false
namespace Go.Proofs.YthgglepiopijjaaDoor.TFnExactOpText
open Go Go.RowKit Go.Proofs Go.Proofs.YthgglepiopijjaaDoorW.AM Go.Proofs.YthgglepiopijjaaDoor.QFnExactOpText Go.Proofs.YthgglepiopijjaaDoorW.PrintWords Go.Proofs.YthgglepiopijjaaDoorW.Pgs
variable {m_ : Int}
theorem tabis {m : Int} {w : World} (hT : TabW (G m).tab w) : Lib.TabIs Tryd.prog w "internal/strconv.uint64pow10" .u64 Lib.pow10Tab :=
  var_of (g := 0) (vs := Lib.pow10Tab.map (Value.int .u64)) (by kernel_rfl) hT (by show some 20 = some _; rw [List.length_map, Lib.pow10Tab_length]) (fun j v hv => by show (Lib.pow10Tab[j]?).map _ = _; rw [← List.getElem?_map]; exact hv)
theorem G_ok : (G m_).Ok := by
  refine ⟨fun t i h => ?_, fun f F h => ?_, fun f F h => ?_, by kernel_rfl⟩
  · exact assoc_all (Q := fun t i => tiOf Tryd.prog t = some i) (l := tis) ⟨by show _ = _; kernel_rfl, by show _ = _; kernel_rfl, by show _ = _; kernel_rfl, by show _ = _; kernel_rfl, by show _ = _; kernel_rfl, by show _ = _; kernel_rfl, by show _ = _; kernel_rfl, by show _ = _; kernel_rfl, by show _ = _; kernel_rfl, trivial⟩ h
  · exact assoc_all (Q := fun f F => Tryd.prog.funcs[f]? = some F) (l := [(3, Tryd.f3), (4, Tryd.f4), (5, Tryd.f5), (6, Tryd.f6), (7, Tryd.f7), (8, Tryd.f8), (9, Tryd.f9), (10, Tryd.f10), (11, Tryd.f11), (12, Tryd.f12), (13, Tryd.f13), (14, Tryd.f14), (15, Tryd.f15), (16, Tryd.f16), (17, Tryd.f17), (18, Tryd.f18)]) ⟨Tryd.func3, Tryd.func4, Tryd.func5, Tryd.func6, Tryd.func7, Tryd.func8, Tryd.func9, Tryd.func10, Tryd.func11, Tryd.func12, Tryd.func13, Tryd.func14, Tryd.func15, Tryd.func16, Tryd.func17, Tryd.func18, trivial⟩ h
  · exact assoc_all (Q := fun f F => (F.name == "runtime.NumGoroutine") = false ∧ F.body.isNone = false) (l := [(3, Tryd.f3), (4, Tryd.f4), (5, Tryd.f5), (6, Tryd.f6), (7, Tryd.f7), (8, Tryd.f8), (9, Tryd.f9), (10, Tryd.f10), (11, Tryd.f11), (12, Tryd.f12), (13, Tryd.f13), (14, Tryd.f14), (15, Tryd.f15), (16, Tryd.f16), (17, Tryd.f17), (18, Tryd.f18)]) ⟨⟨by kernel_rfl, by kernel_rfl⟩, ⟨by kernel_rfl, by kernel_rfl⟩, ⟨by kernel_rfl, by kernel_rfl⟩, ⟨by kernel_rfl, by kernel_rfl⟩, ⟨by kernel_rfl, by kernel_rfl⟩, ⟨by kernel_rfl, by kernel_rfl⟩, ⟨by kernel_rfl, by kernel_rfl⟩, ⟨by kernel_rfl, by kernel_rfl⟩, ⟨by kernel_rfl, by kernel_rfl⟩, ⟨by kernel_rfl, by kernel_rfl⟩, ⟨by kernel_rfl, by kernel_rfl⟩, ⟨by kernel_rfl, by kernel_rfl⟩, ⟨by kernel_rfl, by kernel_rfl⟩, ⟨by kernel_rfl, by kernel_rfl⟩, ⟨by kernel_rfl, by kernel_rfl⟩, ⟨by kernel_rfl, by kernel_rfl⟩, trivial⟩ h
theorem tab_ok {m : Int} {W : World} (hp : Lib.TabIs Tryd.prog W "internal/strconv.uint64pow10" .u64 Lib.pow10Tab) : TabW (G m).tab W := by
  refine ⟨fun b j v h => ?_, fun b n h => ?_⟩
  · change tabF m b j = some v at h
    unfold tabF at h
    cases hc : Nat.beq b 0 with
    | false => rw [hc] at h; cases h
    | true =>
      rw [hc] at h
      have e := Nat.eq_of_beq_eq_true hc
      subst e
      exact (of_var (g := 0) (vs := Lib.pow10Tab.map (Value.int .u64)) (by kernel_rfl) hp).2 j v (by rw [List.getElem?_map]; exact h)
  · change tabZ b = some n at h
    unfold tabZ at h
    cases hc : Nat.beq b 0 with
    | false => rw [hc] at h; cases h
    | true =>
      rw [hc] at h
      have e := Nat.eq_of_beq_eq_true hc
      subst e
      cases h
      have h1 := (of_var (g := 0) (vs := Lib.pow10Tab.map (Value.int .u64)) (by kernel_rfl) hp).1
      rw [List.length_map, Lib.pow10Tab_length] at h1
      exact h1
theorem orc_ok : CFS (G m_) (G m_).orc := by
  intro f xs obs rs obs' h C w args hargs hw hm
  rcases h with ⟨s, rfl, rfl, rfl, rfl, rfl, hc⟩ | ⟨s, c, rfl, rfl, rfl, rfl, rfl, hc⟩ | h
  · refine orc_pure hargs hw (fun a ha => ?_) (fun I w args hI hT hr => ?_)
    · simp only [List.mem_cons, List.not_mem_nil, or_false] at ha; rcases ha with rfl <;> exact ⟨_, rfl⟩
    · rcases hr with _ | ⟨⟨u0, e0, h0⟩, _ | _⟩; cases e0; cases h0
      refine (Tryd.strconv_Itoa s hc.1 hc.2 w (tabis hT)).mono ?_; rintro e w' ⟨rfl, k_, os_, rfl⟩; exact ⟨_, rfl, .str _, below_grow w k_ os_⟩
  · refine orc_pure hargs hw (fun a ha => ?_) (fun I w args hI hT hr => ?_)
    · simp only [List.mem_cons, List.not_mem_nil, or_false] at ha; rcases ha with rfl | rfl <;> exact ⟨_, rfl⟩
    · rcases hr with _ | ⟨⟨u0, e0, h0⟩, _ | ⟨⟨u1, e1, h1⟩, _ | _⟩⟩; cases e0; cases h0; cases e1; cases h1
      refine (Tryd.strings_TrimRight_one s c hc.1 w hc.2).mono ?_; rintro e w' ⟨rfl, rfl⟩; exact ⟨_, rfl, .str _, Below.refl _ _⟩
  · exact h.elim
theorem opA23 (n : Nat) : OpA Tryd.prog n 3 (fun s => (e23 s).cells) Wf23 23 := by
  have h0 := opA_struct Tryd.underlying23 (by kernel_rfl) n (fun m_ hm_ => (flA_cons rfl (by kernel_rfl) (opA_int Tryd.underlying3 m_) (flA_cons rfl (by kernel_rfl) (opA_int Tryd.underlying3 m_) (flA_one rfl (by kernel_rfl) (opA_string Tryd.underlying9 m_)))))
  refine opA_conv h0 (fun (y : Int × Int × ByteArray) => ⟨y.1, y.2.1, y.2.2⟩) (fun y => rfl) (fun y h => ?_)
  exact h
end Go.Proofs.YthgglepiopijjaaDoor.TFnExactOpText
