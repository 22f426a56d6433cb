/- The walks of the functions that FnBrackets reaches, through the abstract machine. -/
import Derived.Test.YtfdpehmefgfjgaaAFnBracketsh
import Derived.Test.YtfdpehmefgfjgaaExt
import Derived.Test.YtfdpehmefgfjgaaFFnBrackets
import Derived.Test.YtfdpehmefgfjgaaProg
set_option maxHeartbeats 4000000
set_option maxRecDepth 100000
set_option linter.unusedVariables false
set_option linter.unusedSimpArgs false
namespace Go.Proofs.Ytfdpehmefgfjgaa.TFnBrackets
open Go Go.RowKit Go.Proofs Go.Proofs.YtfdpehmefgfjgaaW.AM Go.Proofs.Ytfdpehmefgfjgaa.QFnBrackets Go.Proofs.YtfdpehmefgfjgaaW.PrintWords Go.Proofs.YtfdpehmefgfjgaaW.Pgs
variable {m_ : Int}
theorem G_ok : (G m_).Ok := by
  refine ⟨fun t i h => ?_, fun f F h => ?_, fun f F h => ?_, by kernel_rfl⟩
  · exact assoc_all (Q := fun t i => tiOf Try.prog t = some i) (l := tis) ⟨by show _ = _; kernel_rfl, by show _ = _; kernel_rfl, by show _ = _; kernel_rfl, by show _ = _; kernel_rfl, by show _ = _; kernel_rfl, by show _ = _; kernel_rfl, by show _ = _; kernel_rfl, by show _ = _; kernel_rfl, by show _ = _; kernel_rfl, by show _ = _; kernel_rfl, by show _ = _; kernel_rfl, by show _ = _; kernel_rfl, by show _ = _; kernel_rfl, by show _ = _; kernel_rfl, by show _ = _; kernel_rfl, by show _ = _; kernel_rfl, trivial⟩ h
  · exact assoc_all (Q := fun f F => Try.prog.funcs[f]? = some F) (l := [(6, Try.f6), (8, Try.f8), (13, Try.f13), (14, Try.f14), (17, Try.f17), (18, Try.f18), (32, Try.f32), (42, Try.f42), (45, Try.f45), (46, Try.f46), (53, Try.f53), (54, Try.f54), (58, Try.f58), (59, Try.f59), (60, Try.f60), (61, Try.f61), (72, Try.f72), (73, Try.f73), (74, Try.f74), (86, Try.f86), (87, Try.f87), (93, Try.f93), (94, Try.f94), (95, Try.f95), (96, Try.f96), (98, Try.f98), (99, Try.f99), (100, Try.f100), (101, Try.f101), (102, Try.f102), (103, Try.f103), (118, Try.f118), (119, Try.f119), (121, Try.f121), (122, Try.f122), (123, Try.f123), (143, Try.f143), (144, Try.f144), (145, Try.f145), (162, Try.f162), (163, Try.f163)]) ⟨Try.func6, Try.func8, Try.func13, Try.func14, Try.func17, Try.func18, Try.func32, Try.func42, Try.func45, Try.func46, Try.func53, Try.func54, Try.func58, Try.func59, Try.func60, Try.func61, Try.func72, Try.func73, Try.func74, Try.func86, Try.func87, Try.func93, Try.func94, Try.func95, Try.func96, Try.func98, Try.func99, Try.func100, Try.func101, Try.func102, Try.func103, Try.func118, Try.func119, Try.func121, Try.func122, Try.func123, Try.func143, Try.func144, Try.func145, Try.func162, Try.func163, trivial⟩ h
  · exact assoc_all (Q := fun f F => (F.name == "runtime.NumGoroutine") = false ∧ F.body.isNone = false) (l := [(6, Try.f6), (8, Try.f8), (13, Try.f13), (14, Try.f14), (17, Try.f17), (18, Try.f18), (32, Try.f32), (42, Try.f42), (45, Try.f45), (46, Try.f46), (53, Try.f53), (54, Try.f54), (58, Try.f58), (59, Try.f59), (60, Try.f60), (61, Try.f61), (72, Try.f72), (73, Try.f73), (74, Try.f74), (86, Try.f86), (87, Try.f87), (93, Try.f93), (94, Try.f94), (95, Try.f95), (96, Try.f96), (98, Try.f98), (99, Try.f99), (100, Try.f100), (101, Try.f101), (102, Try.f102), (103, Try.f103), (118, Try.f118), (119, Try.f119), (121, Try.f121), (122, Try.f122), (123, Try.f123), (143, Try.f143), (144, Try.f144), (145, Try.f145), (162, Try.f162), (163, Try.f163)]) ⟨⟨by kernel_rfl, by kernel_rfl⟩, ⟨by kernel_rfl, by kernel_rfl⟩, ⟨by kernel_rfl, by kernel_rfl⟩, ⟨by kernel_rfl, by kernel_rfl⟩, ⟨by kernel_rfl, by kernel_rfl⟩, ⟨by kernel_rfl, by kernel_rfl⟩, ⟨by kernel_rfl, by kernel_rfl⟩, ⟨by kernel_rfl, by kernel_rfl⟩, ⟨by kernel_rfl, by kernel_rfl⟩, ⟨by kernel_rfl, by kernel_rfl⟩, ⟨by kernel_rfl, by kernel_rfl⟩, ⟨by kernel_rfl, by kernel_rfl⟩, ⟨by kernel_rfl, by kernel_rfl⟩, ⟨by kernel_rfl, by kernel_rfl⟩, ⟨by kernel_rfl, by kernel_rfl⟩, ⟨by kernel_rfl, by kernel_rfl⟩, ⟨by kernel_rfl, by kernel_rfl⟩, ⟨by kernel_rfl, by kernel_rfl⟩, ⟨by kernel_rfl, by kernel_rfl⟩, ⟨by kernel_rfl, by kernel_rfl⟩, ⟨by kernel_rfl, by kernel_rfl⟩, ⟨by kernel_rfl, by kernel_rfl⟩, ⟨by kernel_rfl, by kernel_rfl⟩, ⟨by kernel_rfl, by kernel_rfl⟩, ⟨by kernel_rfl, by kernel_rfl⟩, ⟨by kernel_rfl, by kernel_rfl⟩, ⟨by kernel_rfl, by kernel_rfl⟩, ⟨by kernel_rfl, by kernel_rfl⟩, ⟨by kernel_rfl, by kernel_rfl⟩, ⟨by kernel_rfl, by kernel_rfl⟩, ⟨by kernel_rfl, by kernel_rfl⟩, ⟨by kernel_rfl, by kernel_rfl⟩, ⟨by kernel_rfl, by kernel_rfl⟩, ⟨by kernel_rfl, by kernel_rfl⟩, ⟨by kernel_rfl, by kernel_rfl⟩, ⟨by kernel_rfl, by kernel_rfl⟩, ⟨by kernel_rfl, by kernel_rfl⟩, ⟨by kernel_rfl, by kernel_rfl⟩, ⟨by kernel_rfl, by kernel_rfl⟩, ⟨by kernel_rfl, by kernel_rfl⟩, ⟨by kernel_rfl, by kernel_rfl⟩, trivial⟩ h
theorem tab_ok {m : Int} {I : Nat → Nat → Option Value} (h0 : I 0 0 = some (.int .i64 m)) (b j : Nat) (v : Value) (h : (G m).tab b j = some v) : I b j = some v := by
  change tabF m b j = some v at h
  unfold tabF at h
  cases hb : (Nat.beq b 0 && Nat.beq j 0) with
  | false => rw [hb] at h; cases h
  | true =>
    rw [hb] at h
    obtain ⟨h1, h2⟩ := Bool.and_eq_true_iff.1 hb
    have e1 := Nat.eq_of_beq_eq_true h1
    have e2 := Nat.eq_of_beq_eq_true h2
    subst e1 e2
    rw [h0]; exact h
theorem orc_ok : CFS (G m_) (G m_).orc := by
  intro f xs obs rs obs' h C w args hargs hw hm
  rcases h with ⟨s, c, rfl, rfl, rfl, rfl, rfl⟩ | ⟨s, c, rfl, rfl, rfl, rfl, rfl, hc⟩ | h
  · refine orc_pure hargs hw (fun a ha => ?_) (fun I w args hT hr => ?_)
    · simp only [List.mem_cons, List.not_mem_nil, or_false] at ha; rcases ha with rfl | rfl <;> exact ⟨_, rfl⟩
    · rcases hr with _ | ⟨⟨u0, e0, h0⟩, _ | ⟨⟨u1, e1, h1⟩, _ | _⟩⟩; cases e0; cases h0; cases e1; cases h1
      refine (Try.strings_IndexByte s c w).mono ?_; rintro e w' ⟨rfl, rfl⟩; exact ⟨_, rfl, .int _ _, Below.refl _ _⟩
  · refine orc_pure hargs hw (fun a ha => ?_) (fun I w args hT hr => ?_)
    · simp only [List.mem_cons, List.not_mem_nil, or_false] at ha; rcases ha with rfl | rfl <;> exact ⟨_, rfl⟩
    · rcases hr with _ | ⟨⟨u0, e0, h0⟩, _ | ⟨⟨u1, e1, h1⟩, _ | _⟩⟩; cases e0; cases h0; cases e1; cases h1
      refine (Try.strings_Contains s c m_ w hc (hT 0 0 _ rfl)).mono ?_; rintro e w' ⟨rfl, rfl⟩; exact ⟨_, rfl, .bool _, Below.refl _ _⟩
  · exact h.elim

end Go.Proofs.Ytfdpehmefgfjgaa.TFnBrackets
