/- The walks of the functions that FnExactWrite reaches, through the abstract machine. -/
import Derived.Test.YthgglepiopijjaaGreatDoorAFnExactWriteh
import Derived.Test.YthgglepiopijjaaGreatDoorExt
import Derived.Test.YthgglepiopijjaaGreatDoorFFnExactWrite
import Derived.Test.YthgglepiopijjaaGreatDoorProg
set_option maxHeartbeats 4000000
set_option maxRecDepth 100000
set_option linter.unusedVariables false
set_option linter.unusedSimpArgs false
namespace Go.Proofs.YthgglepiopijjaaGreatDoor.TFnExactWrite
open Go Go.RowKit Go.Proofs Go.Proofs.YthgglepiopijjaaGreatDoorW.AM Go.Proofs.YthgglepiopijjaaGreatDoor.QFnExactWrite Go.Proofs.YthgglepiopijjaaGreatDoorW.PrintWords Go.Proofs.YthgglepiopijjaaGreatDoorW.Pgs
variable {m_ : Int}
theorem tabis {m : Int} {w : World} (hT : TabW (G m).tab w) : Lib.TabIs Tryz.prog w "internal/strconv.uint64pow10" .u64 Lib.pow10Tab :=
  var_of (g := 3) (vs := Lib.pow10Tab.map (Value.int .u64)) (by kernel_rfl) hT (by show some 20 = some _; rw [List.length_map, Lib.pow10Tab_length]) (fun j v hv => by show (Lib.pow10Tab[j]?).map _ = _; rw [← List.getElem?_map]; exact hv)
theorem G_ok : (G m_).Ok := by
  refine ⟨fun t i h => ?_, fun f F h => ?_, fun f F h => ?_, by kernel_rfl⟩
  · exact assoc_all (Q := fun t i => tiOf Tryz.prog t = some i) (l := tis) ⟨by show _ = _; kernel_rfl, by show _ = _; kernel_rfl, by show _ = _; kernel_rfl, by show _ = _; kernel_rfl, by show _ = _; kernel_rfl, by show _ = _; kernel_rfl, by show _ = _; kernel_rfl, by show _ = _; kernel_rfl, by show _ = _; kernel_rfl, by show _ = _; kernel_rfl, by show _ = _; kernel_rfl, by show _ = _; kernel_rfl, by show _ = _; kernel_rfl, by show _ = _; kernel_rfl, by show _ = _; kernel_rfl, by show _ = _; kernel_rfl, trivial⟩ h
  · exact assoc_all (Q := fun f F => Tryz.prog.funcs[f]? = some F) (l := [(3, Tryz.f3), (4, Tryz.f4), (5, Tryz.f5), (6, Tryz.f6), (7, Tryz.f7), (8, Tryz.f8), (9, Tryz.f9), (10, Tryz.f10), (11, Tryz.f11), (12, Tryz.f12), (13, Tryz.f13), (14, Tryz.f14), (15, Tryz.f15), (16, Tryz.f16), (17, Tryz.f17), (18, Tryz.f18), (19, Tryz.f19), (20, Tryz.f20), (21, Tryz.f21), (22, Tryz.f22), (23, Tryz.f23), (24, Tryz.f24), (25, Tryz.f25), (26, Tryz.f26), (27, Tryz.f27), (28, Tryz.f28), (29, Tryz.f29), (30, Tryz.f30), (31, Tryz.f31), (32, Tryz.f32), (33, Tryz.f33), (34, Tryz.f34), (35, Tryz.f35), (36, Tryz.f36), (37, Tryz.f37), (38, Tryz.f38), (39, Tryz.f39), (40, Tryz.f40), (41, Tryz.f41), (42, Tryz.f42), (43, Tryz.f43), (44, Tryz.f44), (45, Tryz.f45), (46, Tryz.f46), (47, Tryz.f47), (48, Tryz.f48), (49, Tryz.f49), (50, Tryz.f50), (51, Tryz.f51), (52, Tryz.f52), (53, Tryz.f53), (54, Tryz.f54), (55, Tryz.f55), (56, Tryz.f56), (57, Tryz.f57), (58, Tryz.f58), (59, Tryz.f59), (60, Tryz.f60), (61, Tryz.f61), (62, Tryz.f62), (63, Tryz.f63), (64, Tryz.f64), (65, Tryz.f65), (66, Tryz.f66), (67, Tryz.f67), (68, Tryz.f68), (69, Tryz.f69), (71, Tryz.f71), (72, Tryz.f72), (73, Tryz.f73), (74, Tryz.f74), (75, Tryz.f75), (76, Tryz.f76), (77, Tryz.f77), (78, Tryz.f78), (79, Tryz.f79), (80, Tryz.f80), (81, Tryz.f81), (82, Tryz.f82), (94, Tryz.f94)]) ⟨Tryz.func3, Tryz.func4, Tryz.func5, Tryz.func6, Tryz.func7, Tryz.func8, Tryz.func9, Tryz.func10, Tryz.func11, Tryz.func12, Tryz.func13, Tryz.func14, Tryz.func15, Tryz.func16, Tryz.func17, Tryz.func18, Tryz.func19, Tryz.func20, Tryz.func21, Tryz.func22, Tryz.func23, Tryz.func24, Tryz.func25, Tryz.func26, Tryz.func27, Tryz.func28, Tryz.func29, Tryz.func30, Tryz.func31, Tryz.func32, Tryz.func33, Tryz.func34, Tryz.func35, Tryz.func36, Tryz.func37, Tryz.func38, Tryz.func39, Tryz.func40, Tryz.func41, Tryz.func42, Tryz.func43, Tryz.func44, Tryz.func45, Tryz.func46, Tryz.func47, Tryz.func48, Tryz.func49, Tryz.func50, Tryz.func51, Tryz.func52, Tryz.func53, Tryz.func54, Tryz.func55, Tryz.func56, Tryz.func57, Tryz.func58, Tryz.func59, Tryz.func60, Tryz.func61, Tryz.func62, Tryz.func63, Tryz.func64, Tryz.func65, Tryz.func66, Tryz.func67, Tryz.func68, Tryz.func69, Tryz.func71, Tryz.func72, Tryz.func73, Tryz.func74, Tryz.func75, Tryz.func76, Tryz.func77, Tryz.func78, Tryz.func79, Tryz.func80, Tryz.func81, Tryz.func82, Tryz.func94, trivial⟩ h
  · exact assoc_all (Q := fun f F => (F.name == "runtime.NumGoroutine") = false ∧ F.body.isNone = false) (l := [(3, Tryz.f3), (4, Tryz.f4), (5, Tryz.f5), (6, Tryz.f6), (7, Tryz.f7), (8, Tryz.f8), (9, Tryz.f9), (10, Tryz.f10), (11, Tryz.f11), (12, Tryz.f12), (13, Tryz.f13), (14, Tryz.f14), (15, Tryz.f15), (16, Tryz.f16), (17, Tryz.f17), (18, Tryz.f18), (19, Tryz.f19), (20, Tryz.f20), (21, Tryz.f21), (22, Tryz.f22), (23, Tryz.f23), (24, Tryz.f24), (25, Tryz.f25), (26, Tryz.f26), (27, Tryz.f27), (28, Tryz.f28), (29, Tryz.f29), (30, Tryz.f30), (31, Tryz.f31), (32, Tryz.f32), (33, Tryz.f33), (34, Tryz.f34), (35, Tryz.f35), (36, Tryz.f36), (37, Tryz.f37), (38, Tryz.f38), (39, Tryz.f39), (40, Tryz.f40), (41, Tryz.f41), (42, Tryz.f42), (43, Tryz.f43), (44, Tryz.f44), (45, Tryz.f45), (46, Tryz.f46), (47, Tryz.f47), (48, Tryz.f48), (49, Tryz.f49), (50, Tryz.f50), (51, Tryz.f51), (52, Tryz.f52), (53, Tryz.f53), (54, Tryz.f54), (55, Tryz.f55), (56, Tryz.f56), (57, Tryz.f57), (58, Tryz.f58), (59, Tryz.f59), (60, Tryz.f60), (61, Tryz.f61), (62, Tryz.f62), (63, Tryz.f63), (64, Tryz.f64), (65, Tryz.f65), (66, Tryz.f66), (67, Tryz.f67), (68, Tryz.f68), (69, Tryz.f69), (71, Tryz.f71), (72, Tryz.f72), (73, Tryz.f73), (74, Tryz.f74), (75, Tryz.f75), (76, Tryz.f76), (77, Tryz.f77), (78, Tryz.f78), (79, Tryz.f79), (80, Tryz.f80), (81, Tryz.f81), (82, Tryz.f82), (94, Tryz.f94)]) ⟨⟨by kernel_rfl, by kernel_rfl⟩, ⟨by kernel_rfl, by kernel_rfl⟩, ⟨by kernel_rfl, by kernel_rfl⟩, ⟨by kernel_rfl, by kernel_rfl⟩, ⟨by kernel_rfl, by kernel_rfl⟩, ⟨by kernel_rfl, by kernel_rfl⟩, ⟨by kernel_rfl, by kernel_rfl⟩, ⟨by kernel_rfl, by kernel_rfl⟩, ⟨by kernel_rfl, by kernel_rfl⟩, ⟨by kernel_rfl, by kernel_rfl⟩, ⟨by kernel_rfl, by kernel_rfl⟩, ⟨by kernel_rfl, by kernel_rfl⟩, ⟨by kernel_rfl, by kernel_rfl⟩, ⟨by kernel_rfl, by kernel_rfl⟩, ⟨by kernel_rfl, by kernel_rfl⟩, ⟨by kernel_rfl, by kernel_rfl⟩, ⟨by kernel_rfl, by kernel_rfl⟩, ⟨by kernel_rfl, by kernel_rfl⟩, ⟨by kernel_rfl, by kernel_rfl⟩, ⟨by kernel_rfl, by kernel_rfl⟩, ⟨by kernel_rfl, by kernel_rfl⟩, ⟨by kernel_rfl, by kernel_rfl⟩, ⟨by kernel_rfl, by kernel_rfl⟩, ⟨by kernel_rfl, by kernel_rfl⟩, ⟨by kernel_rfl, by kernel_rfl⟩, ⟨by kernel_rfl, by kernel_rfl⟩, ⟨by kernel_rfl, by kernel_rfl⟩, ⟨by kernel_rfl, by kernel_rfl⟩, ⟨by kernel_rfl, by kernel_rfl⟩, ⟨by kernel_rfl, by kernel_rfl⟩, ⟨by kernel_rfl, by kernel_rfl⟩, ⟨by kernel_rfl, by kernel_rfl⟩, ⟨by kernel_rfl, by kernel_rfl⟩, ⟨by kernel_rfl, by kernel_rfl⟩, ⟨by kernel_rfl, by kernel_rfl⟩, ⟨by kernel_rfl, by kernel_rfl⟩, ⟨by kernel_rfl, by kernel_rfl⟩, ⟨by kernel_rfl, by kernel_rfl⟩, ⟨by kernel_rfl, by kernel_rfl⟩, ⟨by kernel_rfl, by kernel_rfl⟩, ⟨by kernel_rfl, by kernel_rfl⟩, ⟨by kernel_rfl, by kernel_rfl⟩, ⟨by kernel_rfl, by kernel_rfl⟩, ⟨by kernel_rfl, by kernel_rfl⟩, ⟨by kernel_rfl, by kernel_rfl⟩, ⟨by kernel_rfl, by kernel_rfl⟩, ⟨by kernel_rfl, by kernel_rfl⟩, ⟨by kernel_rfl, by kernel_rfl⟩, ⟨by kernel_rfl, by kernel_rfl⟩, ⟨by kernel_rfl, by kernel_rfl⟩, ⟨by kernel_rfl, by kernel_rfl⟩, ⟨by kernel_rfl, by kernel_rfl⟩, ⟨by kernel_rfl, by kernel_rfl⟩, ⟨by kernel_rfl, by kernel_rfl⟩, ⟨by kernel_rfl, by kernel_rfl⟩, ⟨by kernel_rfl, by kernel_rfl⟩, ⟨by kernel_rfl, by kernel_rfl⟩, ⟨by kernel_rfl, by kernel_rfl⟩, ⟨by kernel_rfl, by kernel_rfl⟩, ⟨by kernel_rfl, by kernel_rfl⟩, ⟨by kernel_rfl, by kernel_rfl⟩, ⟨by kernel_rfl, by kernel_rfl⟩, ⟨by kernel_rfl, by kernel_rfl⟩, ⟨by kernel_rfl, by kernel_rfl⟩, ⟨by kernel_rfl, by kernel_rfl⟩, ⟨by kernel_rfl, by kernel_rfl⟩, ⟨by kernel_rfl, by kernel_rfl⟩, ⟨by kernel_rfl, by kernel_rfl⟩, ⟨by kernel_rfl, by kernel_rfl⟩, ⟨by kernel_rfl, by kernel_rfl⟩, ⟨by kernel_rfl, by kernel_rfl⟩, ⟨by kernel_rfl, by kernel_rfl⟩, ⟨by kernel_rfl, by kernel_rfl⟩, ⟨by kernel_rfl, by kernel_rfl⟩, ⟨by kernel_rfl, by kernel_rfl⟩, ⟨by kernel_rfl, by kernel_rfl⟩, ⟨by kernel_rfl, by kernel_rfl⟩, ⟨by kernel_rfl, by kernel_rfl⟩, ⟨by kernel_rfl, by kernel_rfl⟩, ⟨by kernel_rfl, by kernel_rfl⟩, trivial⟩ h
theorem tab_ok {m : Int} {W : World} (h0 : W.cell? ⟨0, 0, none⟩ = some (.int .i64 m)) (hp : Lib.TabIs Tryz.prog W "internal/strconv.uint64pow10" .u64 Lib.pow10Tab) : TabW (G m).tab W := by
  refine ⟨fun b j v h => ?_, fun b n h => ?_⟩
  · change tabF m b j = some v at h
    unfold tabF at h
    cases hb : (Nat.beq b 0 && Nat.beq j 0) with
    | false =>
      rw [hb] at h
      cases hc : Nat.beq b 3 with
      | false => rw [hc] at h; cases h
      | true =>
        rw [hc] at h
        have e := Nat.eq_of_beq_eq_true hc
        subst e
        exact (of_var (g := 3) (vs := Lib.pow10Tab.map (Value.int .u64)) (by kernel_rfl) hp).2 j v (by rw [List.getElem?_map]; exact h)
    | true =>
      rw [hb] at h
      obtain ⟨h1, h2⟩ := Bool.and_eq_true_iff.1 hb
      have e1 := Nat.eq_of_beq_eq_true h1
      have e2 := Nat.eq_of_beq_eq_true h2
      subst e1 e2
      exact h0.trans h
  · change tabZ b = some n at h
    unfold tabZ at h
    cases hc : Nat.beq b 3 with
    | false => rw [hc] at h; cases h
    | true =>
      rw [hc] at h
      have e := Nat.eq_of_beq_eq_true hc
      subst e
      cases h
      have h1 := (of_var (g := 3) (vs := Lib.pow10Tab.map (Value.int .u64)) (by kernel_rfl) hp).1
      rw [List.length_map, Lib.pow10Tab_length] at h1
      exact h1
theorem orc_ok : CFS (G m_) (G m_).orc := by
  intro f xs obs rs obs' h C w args hargs hw hm
  rcases h with ⟨s, c, d, rfl, rfl, rfl, rfl, rfl, hc⟩ | ⟨s, rfl, rfl, rfl, rfl, rfl, hc⟩ | ⟨s, c, rfl, rfl, rfl, rfl, rfl, hc⟩ | ⟨l, c, rfl, rfl, rfl, rfl, rfl, hc⟩ | ⟨s, c, rfl, rfl, rfl, rfl, rfl, hc⟩ | h
  · refine orc_pure hargs hw (fun a ha => ?_) (fun I w args hI hT hr => ?_)
    · simp only [List.mem_cons, List.not_mem_nil, or_false] at ha; rcases ha with rfl | rfl | rfl <;> exact ⟨_, rfl⟩
    · rcases hr with _ | ⟨⟨u0, e0, h0⟩, _ | ⟨⟨u1, e1, h1⟩, _ | ⟨⟨u2, e2, h2⟩, _ | _⟩⟩⟩; cases e0; cases h0; cases e1; cases h1; cases e2; cases h2
      refine (Tryz.strings_ReplaceAll s c d m_ w hc.1 (hT.1 0 0 _ rfl) hc.2.1 hc.2.2).mono ?_; rintro e w' ⟨rfl, hb_⟩; exact ⟨_, rfl, .str _, hb_⟩
  · refine orc_pure hargs hw (fun a ha => ?_) (fun I w args hI hT hr => ?_)
    · simp only [List.mem_cons, List.not_mem_nil, or_false] at ha; rcases ha with rfl <;> exact ⟨_, rfl⟩
    · rcases hr with _ | ⟨⟨u0, e0, h0⟩, _ | _⟩; cases e0; cases h0
      refine (Tryz.strconv_Itoa s hc.1 hc.2 w (tabis hT)).mono ?_; rintro e w' ⟨rfl, k_, os_, rfl⟩; exact ⟨_, rfl, .str _, below_grow w k_ os_⟩
  · refine orc_pure hargs hw (fun a ha => ?_) (fun I w args hI hT hr => ?_)
    · simp only [List.mem_cons, List.not_mem_nil, or_false] at ha; rcases ha with rfl | rfl <;> exact ⟨_, rfl⟩
    · rcases hr with _ | ⟨⟨u0, e0, h0⟩, _ | ⟨⟨u1, e1, h1⟩, _ | _⟩⟩; cases e0; cases h0; cases e1; cases h1
      refine (Tryz.strings_TrimRight_one s c hc.1 w hc.2).mono ?_; rintro e w' ⟨rfl, rfl⟩; exact ⟨_, rfl, .str _, Below.refl _ _⟩
  · refine orc_pure hargs hw (fun a ha => ?_) (fun I w args hI hT hr => ?_)
    · simp only [List.mem_cons, List.not_mem_nil, or_false] at ha; rcases ha with rfl | rfl <;> exact ⟨_, rfl⟩
    · rcases hr with _ | ⟨⟨u0, e0, h0⟩, _ | ⟨⟨u1, e1, h1⟩, _ | _⟩⟩; cases e0; cases e1; cases h1
      exact join_call hI h0 hc.1 hc.2 Tryz.strings_Join_none Tryz.strings_Join
  · refine orc_pure hargs hw (fun a ha => ?_) (fun I w args hI hT hr => ?_)
    · simp only [List.mem_cons, List.not_mem_nil, or_false] at ha; rcases ha with rfl | rfl <;> exact ⟨_, rfl⟩
    · rcases hr with _ | ⟨⟨u0, e0, h0⟩, _ | ⟨⟨u1, e1, h1⟩, _ | _⟩⟩; cases e0; cases h0; cases e1; cases h1
      refine (Tryz.strings_Contains s c m_ w hc (hT.1 0 0 _ rfl)).mono ?_; rintro e w' ⟨rfl, rfl⟩; exact ⟨_, rfl, .bool _, Below.refl _ _⟩
  · exact h.elim
theorem opA32 : ∀ n, OpA Tryz.prog n 4 (fun s => (e32 s).cells) Wf32 32 := by
  intro n
  induction n using Nat.strongRecOn with
  | _ n ih =>
  have h0 := opA_struct Tryz.underlying32 (by kernel_rfl) n (fun m_ hm_ => (flA_cons rfl (by kernel_rfl) (opA_int Tryz.underlying3 m_) (flA_cons rfl (by kernel_rfl) (opA_int Tryz.underlying3 m_) (flA_cons rfl (by kernel_rfl) (opA_string Tryz.underlying9 m_) (flA_one rfl (by kernel_rfl) (opA_slice e32 Tryz.underlying30 (by kernel_rfl) (by decide) m_ (fun m2_ hm2_ => ih m2_ (by omega))))))))
  refine opA_conv h0 (fun (y : Int × Int × ByteArray × (List S32)) => ⟨y.1, y.2.1, y.2.2.1, y.2.2.2⟩) (fun y => by rw [e32_eq]; rfl) (fun y h => ?_)
  exact Wf32.mk _ h.1 h.2.1 h.2.2.1 h.2.2.2.1 h.2.2.2.2
theorem opA34 (n : Nat) : OpA Tryz.prog n 9 (fun s => (e34 s).cells) Wf34 34 := by
  have h0 := opA_struct Tryz.underlying34 (by kernel_rfl) n (fun m_ hm_ => (flA_cons rfl (by kernel_rfl) (opA_int Tryz.underlying3 m_) (flA_cons rfl (by kernel_rfl) (opA32 m_) (flA_one rfl (by kernel_rfl) (opA32 m_)))))
  refine opA_conv h0 (fun (y : Int × S32 × S32) => ⟨y.1, (y.2.1).f0, (y.2.1).f1, (y.2.1).f2, (y.2.1).f3, (y.2.2).f0, (y.2.2).f1, (y.2.2).f2, (y.2.2).f3⟩) (fun y => by simp only [e32_eq]; rfl) (fun y h => ?_)
  obtain ⟨y0, y1, y2⟩ := y
  obtain ⟨h0, h1, h2⟩ := h
  change Wf32 y1 at h1
  cases h1 with | mk _ a1_0 a1_1 a1_2 a1_3 b1_3 => 
    change Wf32 y2 at h2
    cases h2 with | mk _ a2_0 a2_1 a2_2 a2_3 b2_3 => 
      exact ⟨h0, a1_0, a1_1, a1_2, ⟨a1_3, b1_3⟩, a2_0, a2_1, a2_2, ⟨a2_3, b2_3⟩⟩
end Go.Proofs.YthgglepiopijjaaGreatDoor.TFnExactWrite
