/- Written by wip/pr2, a program of this session. -/
import Derived.Test.YthigelphmjepaaaQFnExactTidyx0
import Derived.Test.YthigelphmjepaaaQFnExactTidyx3
import Derived.Test.YthigelphmjepaaaQFnExactTidyx4
import Derived.Test.YthigelphmjepaaaQFnExactTidyx13
import Derived.Test.YthigelphmjepaaaQFnExactTidyx14
import Derived.Test.YthigelphmjepaaaWFnExactTidy
namespace Go.Proofs.Ythigelphmjepaaa.QFnExactTidy
open Go.RowKit Go.Proofs.YthigelphmjepaaaW.PrintWords Go.Proofs.YthigelphmjepaaaW.PrintLast Go.Proofs.YthigelphmjepaaaW.PrintMore Go.Proofs.YthigelphmjepaaaW.Mac
attribute [local go_sem] max2_int min2_int max_two min_two max_three min_three max_four min_four   -- for this text's walks alone
set_option linter.unusedVariables false
set_option linter.unusedSimpArgs false
set_option maxHeartbeats 8000000
set_option maxRecDepth 100000

set_option maxHeartbeats 8000000 in
def impl_isE.T26 : Bool × List (List Nat × List Nat) := (true, [([], []), ([0], [0]), ([1], [1]), ([2], [2]), ([3, 3], [3]), ([3], [3]), ([5, 3], [3, 5]), ([4, 6, 4, 3], [3, 4, 6]), ([3, 7], [3, 7]), ([8, 7, 0, 1, 2, 3, 4, 5, 6, 7, 8], [8])])
def impl_isE.B26 : List Nat := [0, 1, 3, 7, 15, 15, 47, 127, 255, 511]
theorem impl_isE.tab26 : rtab .any (opsOf Try.f43 26) = impl_isE.T26 := by kernel_rfl
theorem impl_isE.bits26 : waitsOk impl_isE.T26.2 impl_isE.B26 = true := by kernel_rfl
set_option maxRecDepth 100000 in
theorem impl_isE.step (k : Nat) (ih117 : ∀ m_, m_ < k → ∀ (a0_0 : Int) (a0_1 : Int) (a0_2 : ByteArray) (A0_3 : Option Addr) (c0_3 : Nat) (l0_3 : List (S66)) (r : Bool) (w : World) (hr0_3 : Kd.C k66 w A0_3 l0_3.length l0_3) (hc0_3 : l0_3.length ≤ c0_3) (h : impl_allEs_1.f m_ a0_0 a0_1 a0_2 l0_3 = some r),
  Calls Try.prog 117 #[.agg #[.int .i64 a0_0, .int .i64 a0_1, .string a0_2, .slice A0_3 l0_3.length c0_3]] w fun e w' => e = .returned (.bool r) ∧ Below w.heap.size w w') (ih190 : ∀ m_, m_ < k → ∀ (A0 : Option Addr) (c0 : Nat) (l0 : List (S66))  (r : Int) (w : World) (hr0 : Kd.C k66 w A0 l0.length l0) (hc0 : l0.length ≤ c0) (h : impl_Node_117_190.f m_ l0 = some r),
  Calls Try.prog 113 #[.slice A0 l0.length c0, .func (.func 117) #[] #[]] w fun e w' => e = .returned (.int .i64 r) ∧ Below w.heap.size w w') (ih189 : ∀ m_, m_ < k → ∀ (A0 : Option Addr) (c0 : Nat) (l0 : List (S66))  (r : Bool) (w : World) (hr0 : Kd.C k66 w A0 l0.length l0) (hc0 : l0.length ≤ c0) (h : impl_Node_117_189.f m_ l0 = some r),
  Calls Try.prog 82 #[.slice A0 l0.length c0, .func (.func 117) #[] #[]] w fun e w' => e = .returned (.bool r) ∧ Below w.heap.size w w') (ih89 : ∀ m_, m_ < k → ∀ (A0 : Option Addr) (c0 : Nat) (l0 : List (S66)) (r : Bool) (w : World) (hr0 : Kd.C k66 w A0 l0.length l0) (hc0 : l0.length ≤ c0) (h : impl_allEs.f m_ l0 = some r),
  Calls Try.prog 89 #[.slice A0 l0.length c0] w fun e w' => e = .returned (.bool r) ∧ Below w.heap.size w w') (ih43 : ∀ m_, m_ < k → ∀ (a0_0 : Int) (a0_1 : Int) (a0_2 : ByteArray) (A0_3 : Option Addr) (c0_3 : Nat) (l0_3 : List (S66)) (r : Bool) (w : World) (hr0_3 : Kd.C k66 w A0_3 l0_3.length l0_3) (hc0_3 : l0_3.length ≤ c0_3) (h : impl_isE.f m_ a0_0 a0_1 a0_2 l0_3 = some r),
  Calls Try.prog 43 #[.agg #[.int .i64 a0_0, .int .i64 a0_1, .string a0_2, .slice A0_3 l0_3.length c0_3]] w fun e w' => e = .returned (.bool r) ∧ Below w.heap.size w w') : ∀ (a0_0 : Int) (a0_1 : Int) (a0_2 : ByteArray) (A0_3 : Option Addr) (c0_3 : Nat) (l0_3 : List (S66)) (r : Bool) (w : World) (hr0_3 : Kd.C k66 w A0_3 l0_3.length l0_3) (hc0_3 : l0_3.length ≤ c0_3) (h : impl_isE.f k a0_0 a0_1 a0_2 l0_3 = some r),
  Calls Try.prog 43 #[.agg #[.int .i64 a0_0, .int .i64 a0_1, .string a0_2, .slice A0_3 l0_3.length c0_3]] w fun e w' => e = .returned (.bool r) ∧ Below w.heap.size w w' := by
 intro a0_0 a0_1 a0_2 A0_3 c0_3 l0_3 r w hr0_3 hc0_3 h
 cases k with
 | zero => exact absurd h (by simp [impl_isE.f])
 | succ k =>
 rw [impl_isE.f] at h
 have hu66 := Try.underlying66
 have HR0_3 := Aside0.mk hr0_3
 have HC0_3 := Aside0.mk hc0_3
 clear hr0_3 hc0_3
 have HB := Aside0.mk (Below.refl w.heap.size w)
 have H := h
 clear h
 replace H := zI H; obtain ⟨c2, H⟩ | ⟨c2, H⟩ := H
 ·have c2b0 := beq_iff_eq.mpr c2
  have c2b1 := bne_eq_false_iff_eq.mpr c2
  clear c2
  replace H := zO H; obtain ⟨t256, A3, H⟩ := H
  by_cases c4 : t256 = true
  ·subst c4; replace H := zT H
   replace H := zI H; obtain ⟨c5, H⟩ | ⟨c5, H⟩ := H
   ·have c5b0 := beq_iff_eq.mpr c5
    have c5b1 := bne_eq_false_iff_eq.mpr c5
    clear c5
    replace H := zI H; obtain ⟨c6, H⟩ | ⟨c6, H⟩ := H
    ·have c6b0 := beq_iff_eq.mpr c6
     have c6b1 := bne_eq_false_iff_eq.mpr c6
     clear c6
     replace H := zO H; obtain ⟨t257, A7, H⟩ := H
     obtain rfl := Option.some.inj H
     go_enter Try.func43, Try.ntmps43
     go_wp2_with (first | ((with_reducible refine gate_dst (N := 1) rfl ?_); refine zX (N := 1) (cs := #[.int .i64 a0_0, .int .i64 a0_1, .string a0_2, .slice A0_3 l0_3.length c0_3]) (t := 66) ?_; intro gb255 hg w8 hbox hb; have n_ := z4 (zs hb) (hbox) (zl hg) (zl hg); clear HB; obtain ⟨HB, BK255, GW255, GE255⟩ := n_; clear hb hbox hg; obtain ⟨hcz9_0, hcz9_1, hcz9_2, hcz9_3, hfz9_0, hfz9_1, hfz9_2, hfz9_3⟩ := zC4 BK255) | ((with_reducible refine gate_callee (f := 50) rfl ?_); refine zG (some 35) Try.func50 #[.int .i64 a0_1, .int .i64 0, .int .i64 9000000000000] ?_; (with_reducible refine (impl_in.calls a0_1 0 9000000000000 true _ A3.out).mono ?_); rintro e w' ⟨rfl, ⟨nd, rfl⟩⟩; refine ⟨_, rfl, ?_⟩) | (go_at_call 89; (with_reducible refine (ih89 k (by omega) _ _ l0_3 t257 _ (zR HR0_3) HC0_3.out A7.out).mono ?_); rintro e w10 ⟨rfl, hb⟩; have n_ := z2 (zb BK255 hb) (zs hb); clear BK255 HB; obtain ⟨BK255, HB⟩ := n_; (try clear hb)))
     go_ret
     exact ⟨zE, zB⟩
    ·have c6b0 := beq_eq_false_iff_ne.mpr c6
     have c6b1 := bne_iff_ne.mpr c6
     have c6b2 : ¬ (l0_3 = []) := fun h_ => c6 (by rw [h_]; rfl)
     obtain rfl := Option.some.inj H
     go_enter Try.func43, Try.ntmps43
     go_wp2_with (first | ((with_reducible refine gate_dst (N := 1) rfl ?_); refine zX (N := 1) (cs := #[.int .i64 a0_0, .int .i64 a0_1, .string a0_2, .slice A0_3 l0_3.length c0_3]) (t := 66) ?_; intro gb255 hg w11 hbox hb; have n_ := z4 (zs hb) (hbox) (zl hg) (zl hg); clear HB; obtain ⟨HB, BK255, GW255, GE255⟩ := n_; clear hb hbox hg; obtain ⟨hcz12_0, hcz12_1, hcz12_2, hcz12_3, hfz12_0, hfz12_1, hfz12_2, hfz12_3⟩ := zC4 BK255) | ((with_reducible refine gate_callee (f := 50) rfl ?_); refine zG (some 35) Try.func50 #[.int .i64 a0_1, .int .i64 0, .int .i64 9000000000000] ?_; (with_reducible refine (impl_in.calls a0_1 0 9000000000000 true _ A3.out).mono ?_); rintro e w' ⟨rfl, ⟨nd, rfl⟩⟩; refine ⟨_, rfl, ?_⟩))
     go_ret
     exact ⟨zE, zB⟩
   ·have c5b0 := beq_eq_false_iff_ne.mpr c5
    have c5b1 := bne_iff_ne.mpr c5
    obtain rfl := Option.some.inj H
    go_enter Try.func43, Try.ntmps43
    go_wp2_with (first | ((with_reducible refine gate_dst (N := 1) rfl ?_); refine zX (N := 1) (cs := #[.int .i64 a0_0, .int .i64 a0_1, .string a0_2, .slice A0_3 l0_3.length c0_3]) (t := 66) ?_; intro gb255 hg w13 hbox hb; have n_ := z4 (zs hb) (hbox) (zl hg) (zl hg); clear HB; obtain ⟨HB, BK255, GW255, GE255⟩ := n_; clear hb hbox hg; obtain ⟨hcz14_0, hcz14_1, hcz14_2, hcz14_3, hfz14_0, hfz14_1, hfz14_2, hfz14_3⟩ := zC4 BK255) | ((with_reducible refine gate_callee (f := 50) rfl ?_); refine zG (some 35) Try.func50 #[.int .i64 a0_1, .int .i64 0, .int .i64 9000000000000] ?_; (with_reducible refine (impl_in.calls a0_1 0 9000000000000 true _ A3.out).mono ?_); rintro e w' ⟨rfl, ⟨nd, rfl⟩⟩; refine ⟨_, rfl, ?_⟩))
    go_ret
    exact ⟨zE, zB⟩
  ·replace c4 := Bool.eq_false_iff.mpr c4; subst c4; replace H := zN H
   obtain rfl := Option.some.inj H
   go_enter Try.func43, Try.ntmps43
   go_wp2_with (first | ((with_reducible refine gate_dst (N := 1) rfl ?_); refine zX (N := 1) (cs := #[.int .i64 a0_0, .int .i64 a0_1, .string a0_2, .slice A0_3 l0_3.length c0_3]) (t := 66) ?_; intro gb255 hg w15 hbox hb; have n_ := z4 (zs hb) (hbox) (zl hg) (zl hg); clear HB; obtain ⟨HB, BK255, GW255, GE255⟩ := n_; clear hb hbox hg; obtain ⟨hcz16_0, hcz16_1, hcz16_2, hcz16_3, hfz16_0, hfz16_1, hfz16_2, hfz16_3⟩ := zC4 BK255) | ((with_reducible refine gate_callee (f := 50) rfl ?_); refine zG (some 35) Try.func50 #[.int .i64 a0_1, .int .i64 0, .int .i64 9000000000000] ?_; (with_reducible refine (impl_in.calls a0_1 0 9000000000000 false _ A3.out).mono ?_); rintro e w' ⟨rfl, ⟨nd, rfl⟩⟩; refine ⟨_, rfl, ?_⟩))
   go_ret
   exact ⟨zE, zB⟩
 ·have c2b0 := beq_eq_false_iff_ne.mpr c2
  have c2b1 := bne_iff_ne.mpr c2
  replace H := zI H; obtain ⟨c17, H⟩ | ⟨c17, H⟩ := H
  ·have c17b0 := beq_iff_eq.mpr c17
   have c17b1 := bne_eq_false_iff_eq.mpr c17
   clear c17
   replace H := zI H; obtain ⟨c18, H⟩ | ⟨c18, H⟩ := H
   ·have c18b0 := beq_iff_eq.mpr c18
    have c18b1 := bne_eq_false_iff_eq.mpr c18
    clear c18
    replace H := zO H; obtain ⟨t258, A19, H⟩ := H
    by_cases c20 : t258 = true
    ·subst c20; replace H := zT H
     replace H := zI H; obtain ⟨c21, H⟩ | ⟨c21, H⟩ := H
     ·have c21b0 := beq_iff_eq.mpr c21
      have c21b1 := bne_eq_false_iff_eq.mpr c21
      clear c21
      replace H := zO H; obtain ⟨t259, A22, H⟩ := H
      obtain rfl := Option.some.inj H
      go_enter Try.func43, Try.ntmps43
      go_wp2_with (first | ((with_reducible refine gate_dst (N := 1) rfl ?_); refine zX (N := 1) (cs := #[.int .i64 a0_0, .int .i64 a0_1, .string a0_2, .slice A0_3 l0_3.length c0_3]) (t := 66) ?_; intro gb255 hg w23 hbox hb; have n_ := z4 (zs hb) (hbox) (zl hg) (zl hg); clear HB; obtain ⟨HB, BK255, GW255, GE255⟩ := n_; clear hb hbox hg; obtain ⟨hcz24_0, hcz24_1, hcz24_2, hcz24_3, hfz24_0, hfz24_1, hfz24_2, hfz24_3⟩ := zC4 BK255) | (go_at_call 85; (with_reducible refine (impl_tokenText.calls a0_2 true _ A19.out).mono ?_); rintro e w' ⟨rfl, ⟨nd, rfl⟩⟩) | (go_at_call 89; (with_reducible refine (ih89 k (by omega) _ _ l0_3 t259 _ (zR HR0_3) HC0_3.out A22.out).mono ?_); rintro e w25 ⟨rfl, hb⟩; have n_ := z2 (zb BK255 hb) (zs hb); clear BK255 HB; obtain ⟨BK255, HB⟩ := n_; (try clear hb)))
      go_ret
      exact ⟨zE, zB⟩
     ·have c21b0 := beq_eq_false_iff_ne.mpr c21
      have c21b1 := bne_iff_ne.mpr c21
      have c21b2 : ¬ (l0_3 = []) := fun h_ => c21 (by rw [h_]; rfl)
      obtain rfl := Option.some.inj H
      go_enter Try.func43, Try.ntmps43
      go_wp2_with (first | ((with_reducible refine gate_dst (N := 1) rfl ?_); refine zX (N := 1) (cs := #[.int .i64 a0_0, .int .i64 a0_1, .string a0_2, .slice A0_3 l0_3.length c0_3]) (t := 66) ?_; intro gb255 hg w26 hbox hb; have n_ := z4 (zs hb) (hbox) (zl hg) (zl hg); clear HB; obtain ⟨HB, BK255, GW255, GE255⟩ := n_; clear hb hbox hg; obtain ⟨hcz27_0, hcz27_1, hcz27_2, hcz27_3, hfz27_0, hfz27_1, hfz27_2, hfz27_3⟩ := zC4 BK255) | (go_at_call 85; (with_reducible refine (impl_tokenText.calls a0_2 true _ A19.out).mono ?_); rintro e w' ⟨rfl, ⟨nd, rfl⟩⟩))
      go_ret
      exact ⟨zE, zB⟩
    ·replace c20 := Bool.eq_false_iff.mpr c20; subst c20; replace H := zN H
     obtain rfl := Option.some.inj H
     go_enter Try.func43, Try.ntmps43
     go_wp2_with (first | ((with_reducible refine gate_dst (N := 1) rfl ?_); refine zX (N := 1) (cs := #[.int .i64 a0_0, .int .i64 a0_1, .string a0_2, .slice A0_3 l0_3.length c0_3]) (t := 66) ?_; intro gb255 hg w28 hbox hb; have n_ := z4 (zs hb) (hbox) (zl hg) (zl hg); clear HB; obtain ⟨HB, BK255, GW255, GE255⟩ := n_; clear hb hbox hg; obtain ⟨hcz29_0, hcz29_1, hcz29_2, hcz29_3, hfz29_0, hfz29_1, hfz29_2, hfz29_3⟩ := zC4 BK255) | (go_at_call 85; (with_reducible refine (impl_tokenText.calls a0_2 false _ A19.out).mono ?_); rintro e w' ⟨rfl, ⟨nd, rfl⟩⟩))
     go_ret
     exact ⟨zE, zB⟩
   ·have c18b0 := beq_eq_false_iff_ne.mpr c18
    have c18b1 := bne_iff_ne.mpr c18
    obtain rfl := Option.some.inj H
    go_enter Try.func43, Try.ntmps43
    go_wp2_with (first | ((with_reducible refine gate_dst (N := 1) rfl ?_); refine zX (N := 1) (cs := #[.int .i64 a0_0, .int .i64 a0_1, .string a0_2, .slice A0_3 l0_3.length c0_3]) (t := 66) ?_; intro gb255 hg w30 hbox hb; have n_ := z4 (zs hb) (hbox) (zl hg) (zl hg); clear HB; obtain ⟨HB, BK255, GW255, GE255⟩ := n_; clear hb hbox hg; obtain ⟨hcz31_0, hcz31_1, hcz31_2, hcz31_3, hfz31_0, hfz31_1, hfz31_2, hfz31_3⟩ := zC4 BK255))
    go_ret
    exact ⟨zE, zB⟩
  ·have c17b0 := beq_eq_false_iff_ne.mpr c17
   have c17b1 := bne_iff_ne.mpr c17
   replace H := zI H; obtain ⟨c32, H⟩ | ⟨c32, H⟩ := H
   ·have c32b0 := beq_iff_eq.mpr c32
    have c32b1 := bne_eq_false_iff_eq.mpr c32
    clear c32
    replace H := zI H; obtain ⟨c33, H⟩ | ⟨c33, H⟩ := H
    ·have c33b0 := beq_iff_eq.mpr c33
     have c33b1 := bne_eq_false_iff_eq.mpr c33
     clear c33
     replace H := zO H; obtain ⟨t260, A34, H⟩ := H
     by_cases c35 : t260 = true
     ·subst c35; replace H := zT H
      replace H := zI H; obtain ⟨c36, H⟩ | ⟨c36, H⟩ := H
      ·have c36b0 := beq_iff_eq.mpr c36
       have c36b1 := bne_eq_false_iff_eq.mpr c36
       clear c36
       replace H := zO H; obtain ⟨t261, A37, H⟩ := H
       obtain rfl := Option.some.inj H
       go_enter Try.func43, Try.ntmps43
       go_wp2_with (first | ((with_reducible refine gate_dst (N := 1) rfl ?_); refine zX (N := 1) (cs := #[.int .i64 a0_0, .int .i64 a0_1, .string a0_2, .slice A0_3 l0_3.length c0_3]) (t := 66) ?_; intro gb255 hg w38 hbox hb; have n_ := z4 (zs hb) (hbox) (zl hg) (zl hg); clear HB; obtain ⟨HB, BK255, GW255, GE255⟩ := n_; clear hb hbox hg; obtain ⟨hcz39_0, hcz39_1, hcz39_2, hcz39_3, hfz39_0, hfz39_1, hfz39_2, hfz39_3⟩ := zC4 BK255) | (go_at_call 86; (with_reducible refine (impl_tokenRex.calls k a0_2 true _ A34.out).mono ?_); rintro e w' ⟨rfl, ⟨nd, rfl⟩⟩) | (go_at_call 89; (with_reducible refine (ih89 k (by omega) _ _ l0_3 t261 _ (zR HR0_3) HC0_3.out A37.out).mono ?_); rintro e w40 ⟨rfl, hb⟩; have n_ := z2 (zb BK255 hb) (zs hb); clear BK255 HB; obtain ⟨BK255, HB⟩ := n_; (try clear hb)))
       go_ret
       exact ⟨zE, zB⟩
      ·have c36b0 := beq_eq_false_iff_ne.mpr c36
       have c36b1 := bne_iff_ne.mpr c36
       have c36b2 : ¬ (l0_3 = []) := fun h_ => c36 (by rw [h_]; rfl)
       obtain rfl := Option.some.inj H
       go_enter Try.func43, Try.ntmps43
       go_wp2_with (first | ((with_reducible refine gate_dst (N := 1) rfl ?_); refine zX (N := 1) (cs := #[.int .i64 a0_0, .int .i64 a0_1, .string a0_2, .slice A0_3 l0_3.length c0_3]) (t := 66) ?_; intro gb255 hg w41 hbox hb; have n_ := z4 (zs hb) (hbox) (zl hg) (zl hg); clear HB; obtain ⟨HB, BK255, GW255, GE255⟩ := n_; clear hb hbox hg; obtain ⟨hcz42_0, hcz42_1, hcz42_2, hcz42_3, hfz42_0, hfz42_1, hfz42_2, hfz42_3⟩ := zC4 BK255) | (go_at_call 86; (with_reducible refine (impl_tokenRex.calls k a0_2 true _ A34.out).mono ?_); rintro e w' ⟨rfl, ⟨nd, rfl⟩⟩))
       go_ret
       exact ⟨zE, zB⟩
     ·replace c35 := Bool.eq_false_iff.mpr c35; subst c35; replace H := zN H
      obtain rfl := Option.some.inj H
      go_enter Try.func43, Try.ntmps43
      go_wp2_with (first | ((with_reducible refine gate_dst (N := 1) rfl ?_); refine zX (N := 1) (cs := #[.int .i64 a0_0, .int .i64 a0_1, .string a0_2, .slice A0_3 l0_3.length c0_3]) (t := 66) ?_; intro gb255 hg w43 hbox hb; have n_ := z4 (zs hb) (hbox) (zl hg) (zl hg); clear HB; obtain ⟨HB, BK255, GW255, GE255⟩ := n_; clear hb hbox hg; obtain ⟨hcz44_0, hcz44_1, hcz44_2, hcz44_3, hfz44_0, hfz44_1, hfz44_2, hfz44_3⟩ := zC4 BK255) | (go_at_call 86; (with_reducible refine (impl_tokenRex.calls k a0_2 false _ A34.out).mono ?_); rintro e w' ⟨rfl, ⟨nd, rfl⟩⟩))
      go_ret
      exact ⟨zE, zB⟩
    ·have c33b0 := beq_eq_false_iff_ne.mpr c33
     have c33b1 := bne_iff_ne.mpr c33
     obtain rfl := Option.some.inj H
     go_enter Try.func43, Try.ntmps43
     go_wp2_with (first | ((with_reducible refine gate_dst (N := 1) rfl ?_); refine zX (N := 1) (cs := #[.int .i64 a0_0, .int .i64 a0_1, .string a0_2, .slice A0_3 l0_3.length c0_3]) (t := 66) ?_; intro gb255 hg w45 hbox hb; have n_ := z4 (zs hb) (hbox) (zl hg) (zl hg); clear HB; obtain ⟨HB, BK255, GW255, GE255⟩ := n_; clear hb hbox hg; obtain ⟨hcz46_0, hcz46_1, hcz46_2, hcz46_3, hfz46_0, hfz46_1, hfz46_2, hfz46_3⟩ := zC4 BK255))
     go_ret
     exact ⟨zE, zB⟩
   ·have c32b0 := beq_eq_false_iff_ne.mpr c32
    have c32b1 := bne_iff_ne.mpr c32
    replace H := zI H; obtain ⟨c47, H⟩ | ⟨c47, H⟩ := H
    ·have c47b0 := beq_iff_eq.mpr c47
     have c47b1 := bne_eq_false_iff_eq.mpr c47
     clear c47
     replace H := zI H; obtain ⟨c48, H⟩ | ⟨c48, H⟩ := H
     ·have c48b0 := beq_iff_eq.mpr c48
      have c48b1 := bne_eq_false_iff_eq.mpr c48
      clear c48
      replace H := zO H; obtain ⟨t262, A49, H⟩ := H
      by_cases c50 : t262 = true
      ·subst c50; replace H := zT H
       replace H := zI H; obtain ⟨c51, H⟩ | ⟨c51, H⟩ := H
       ·have c51b0 := beq_iff_eq.mpr c51
        have c51b1 := bne_eq_false_iff_eq.mpr c51
        clear c51
        replace H := zO H; obtain ⟨t263, A52, H⟩ := H
        obtain rfl := Option.some.inj H
        go_enter Try.func43, Try.ntmps43
        go_wp2_with (first | ((with_reducible refine gate_dst (N := 1) rfl ?_); refine zX (N := 1) (cs := #[.int .i64 a0_0, .int .i64 a0_1, .string a0_2, .slice A0_3 l0_3.length c0_3]) (t := 66) ?_; intro gb255 hg w53 hbox hb; have n_ := z4 (zs hb) (hbox) (zl hg) (zl hg); clear HB; obtain ⟨HB, BK255, GW255, GE255⟩ := n_; clear hb hbox hg; obtain ⟨hcz54_0, hcz54_1, hcz54_2, hcz54_3, hfz54_0, hfz54_1, hfz54_2, hfz54_3⟩ := zC4 BK255) | (go_at_call 87; (with_reducible refine (impl_isName.calls k a0_2 true _ A49.out).mono ?_); rintro e w55 ⟨rfl, hb⟩; have n_ := z2 (zb BK255 hb) (zs hb); clear BK255 HB; obtain ⟨BK255, HB⟩ := n_; (try clear hb); obtain ⟨hcz56_0, hcz56_1, hcz56_2, hcz56_3, hfz56_0, hfz56_1, hfz56_2, hfz56_3⟩ := zC4 BK255) | (go_at_call 89; (with_reducible refine (ih89 k (by omega) _ _ l0_3 t263 _ (zR HR0_3) HC0_3.out A52.out).mono ?_); rintro e w57 ⟨rfl, hb⟩; have n_ := z2 (zb BK255 hb) (zs hb); clear BK255 HB; obtain ⟨BK255, HB⟩ := n_; (try clear hb)))
        go_ret
        exact ⟨zE, zB⟩
       ·have c51b0 := beq_eq_false_iff_ne.mpr c51
        have c51b1 := bne_iff_ne.mpr c51
        have c51b2 : ¬ (l0_3 = []) := fun h_ => c51 (by rw [h_]; rfl)
        obtain rfl := Option.some.inj H
        go_enter Try.func43, Try.ntmps43
        go_wp2_with (first | ((with_reducible refine gate_dst (N := 1) rfl ?_); refine zX (N := 1) (cs := #[.int .i64 a0_0, .int .i64 a0_1, .string a0_2, .slice A0_3 l0_3.length c0_3]) (t := 66) ?_; intro gb255 hg w58 hbox hb; have n_ := z4 (zs hb) (hbox) (zl hg) (zl hg); clear HB; obtain ⟨HB, BK255, GW255, GE255⟩ := n_; clear hb hbox hg; obtain ⟨hcz59_0, hcz59_1, hcz59_2, hcz59_3, hfz59_0, hfz59_1, hfz59_2, hfz59_3⟩ := zC4 BK255) | (go_at_call 87; (with_reducible refine (impl_isName.calls k a0_2 true _ A49.out).mono ?_); rintro e w60 ⟨rfl, hb⟩; have n_ := z2 (zb BK255 hb) (zs hb); clear BK255 HB; obtain ⟨BK255, HB⟩ := n_; (try clear hb)))
        go_ret
        exact ⟨zE, zB⟩
      ·replace c50 := Bool.eq_false_iff.mpr c50; subst c50; replace H := zN H
       obtain rfl := Option.some.inj H
       go_enter Try.func43, Try.ntmps43
       go_wp2_with (first | ((with_reducible refine gate_dst (N := 1) rfl ?_); refine zX (N := 1) (cs := #[.int .i64 a0_0, .int .i64 a0_1, .string a0_2, .slice A0_3 l0_3.length c0_3]) (t := 66) ?_; intro gb255 hg w61 hbox hb; have n_ := z4 (zs hb) (hbox) (zl hg) (zl hg); clear HB; obtain ⟨HB, BK255, GW255, GE255⟩ := n_; clear hb hbox hg; obtain ⟨hcz62_0, hcz62_1, hcz62_2, hcz62_3, hfz62_0, hfz62_1, hfz62_2, hfz62_3⟩ := zC4 BK255) | (go_at_call 87; (with_reducible refine (impl_isName.calls k a0_2 false _ A49.out).mono ?_); rintro e w63 ⟨rfl, hb⟩; have n_ := z2 (zb BK255 hb) (zs hb); clear BK255 HB; obtain ⟨BK255, HB⟩ := n_; (try clear hb)))
       go_ret
       exact ⟨zE, zB⟩
     ·have c48b0 := beq_eq_false_iff_ne.mpr c48
      have c48b1 := bne_iff_ne.mpr c48
      obtain rfl := Option.some.inj H
      go_enter Try.func43, Try.ntmps43
      go_wp2_with (first | ((with_reducible refine gate_dst (N := 1) rfl ?_); refine zX (N := 1) (cs := #[.int .i64 a0_0, .int .i64 a0_1, .string a0_2, .slice A0_3 l0_3.length c0_3]) (t := 66) ?_; intro gb255 hg w64 hbox hb; have n_ := z4 (zs hb) (hbox) (zl hg) (zl hg); clear HB; obtain ⟨HB, BK255, GW255, GE255⟩ := n_; clear hb hbox hg; obtain ⟨hcz65_0, hcz65_1, hcz65_2, hcz65_3, hfz65_0, hfz65_1, hfz65_2, hfz65_3⟩ := zC4 BK255))
      go_ret
      exact ⟨zE, zB⟩
    ·have c47b0 := beq_eq_false_iff_ne.mpr c47
     have c47b1 := bne_iff_ne.mpr c47
     replace H := zI H; obtain ⟨c66, H⟩ | ⟨c66, H⟩ := H
     ·have c66b0 := beq_iff_eq.mpr c66
      have c66b1 := bne_eq_false_iff_eq.mpr c66
      clear c66
      replace H := zI H; obtain ⟨c67, H⟩ | ⟨c67, H⟩ := H
      ·have c67b0 := beq_iff_eq.mpr c67
       have c67b1 := bne_eq_false_iff_eq.mpr c67
       clear c67
       replace H := zO H; obtain ⟨t264, A68, H⟩ := H
       by_cases c69 : t264 = true
       ·subst c69; replace H := zT H
        replace H := zI H; obtain ⟨c70, H⟩ | ⟨c70, H⟩ := H
        ·have c70b0 := beq_iff_eq.mpr c70
         have c70b1 := bne_eq_false_iff_eq.mpr c70
         clear c70
         replace H := zO H; obtain ⟨t265, A71, H⟩ := H
         obtain rfl := Option.some.inj H
         go_enter Try.func43, Try.ntmps43
         go_wp2_with (first | ((with_reducible refine gate_dst (N := 1) rfl ?_); refine zX (N := 1) (cs := #[.int .i64 a0_0, .int .i64 a0_1, .string a0_2, .slice A0_3 l0_3.length c0_3]) (t := 66) ?_; intro gb255 hg w72 hbox hb; have n_ := z4 (zs hb) (hbox) (zl hg) (zl hg); clear HB; obtain ⟨HB, BK255, GW255, GE255⟩ := n_; clear hb hbox hg; obtain ⟨hcz73_0, hcz73_1, hcz73_2, hcz73_3, hfz73_0, hfz73_1, hfz73_2, hfz73_3⟩ := zC4 BK255) | (go_at_call 87; (with_reducible refine (impl_isName.calls k a0_2 true _ A68.out).mono ?_); rintro e w74 ⟨rfl, hb⟩; have n_ := z2 (zb BK255 hb) (zs hb); clear BK255 HB; obtain ⟨BK255, HB⟩ := n_; (try clear hb); obtain ⟨hcz75_0, hcz75_1, hcz75_2, hcz75_3, hfz75_0, hfz75_1, hfz75_2, hfz75_3⟩ := zC4 BK255) | (go_at_call 89; (with_reducible refine (ih89 k (by omega) _ _ l0_3 t265 _ (zR HR0_3) HC0_3.out A71.out).mono ?_); rintro e w76 ⟨rfl, hb⟩; have n_ := z2 (zb BK255 hb) (zs hb); clear BK255 HB; obtain ⟨BK255, HB⟩ := n_; (try clear hb)))
         go_ret
         exact ⟨zE, zB⟩
        ·have c70b0 := beq_eq_false_iff_ne.mpr c70
         have c70b1 := bne_iff_ne.mpr c70
         obtain rfl := Option.some.inj H
         go_enter Try.func43, Try.ntmps43
         go_wp2_with (first | ((with_reducible refine gate_dst (N := 1) rfl ?_); refine zX (N := 1) (cs := #[.int .i64 a0_0, .int .i64 a0_1, .string a0_2, .slice A0_3 l0_3.length c0_3]) (t := 66) ?_; intro gb255 hg w77 hbox hb; have n_ := z4 (zs hb) (hbox) (zl hg) (zl hg); clear HB; obtain ⟨HB, BK255, GW255, GE255⟩ := n_; clear hb hbox hg; obtain ⟨hcz78_0, hcz78_1, hcz78_2, hcz78_3, hfz78_0, hfz78_1, hfz78_2, hfz78_3⟩ := zC4 BK255) | (go_at_call 87; (with_reducible refine (impl_isName.calls k a0_2 true _ A68.out).mono ?_); rintro e w79 ⟨rfl, hb⟩; have n_ := z2 (zb BK255 hb) (zs hb); clear BK255 HB; obtain ⟨BK255, HB⟩ := n_; (try clear hb)))
         go_ret
         exact ⟨zE, zB⟩
       ·replace c69 := Bool.eq_false_iff.mpr c69; subst c69; replace H := zN H
        obtain rfl := Option.some.inj H
        go_enter Try.func43, Try.ntmps43
        go_wp2_with (first | ((with_reducible refine gate_dst (N := 1) rfl ?_); refine zX (N := 1) (cs := #[.int .i64 a0_0, .int .i64 a0_1, .string a0_2, .slice A0_3 l0_3.length c0_3]) (t := 66) ?_; intro gb255 hg w80 hbox hb; have n_ := z4 (zs hb) (hbox) (zl hg) (zl hg); clear HB; obtain ⟨HB, BK255, GW255, GE255⟩ := n_; clear hb hbox hg; obtain ⟨hcz81_0, hcz81_1, hcz81_2, hcz81_3, hfz81_0, hfz81_1, hfz81_2, hfz81_3⟩ := zC4 BK255) | (go_at_call 87; (with_reducible refine (impl_isName.calls k a0_2 false _ A68.out).mono ?_); rintro e w82 ⟨rfl, hb⟩; have n_ := z2 (zb BK255 hb) (zs hb); clear BK255 HB; obtain ⟨BK255, HB⟩ := n_; (try clear hb)))
        go_ret
        exact ⟨zE, zB⟩
      ·have c67b0 := beq_eq_false_iff_ne.mpr c67
       have c67b1 := bne_iff_ne.mpr c67
       obtain rfl := Option.some.inj H
       go_enter Try.func43, Try.ntmps43
       go_wp2_with (first | ((with_reducible refine gate_dst (N := 1) rfl ?_); refine zX (N := 1) (cs := #[.int .i64 a0_0, .int .i64 a0_1, .string a0_2, .slice A0_3 l0_3.length c0_3]) (t := 66) ?_; intro gb255 hg w83 hbox hb; have n_ := z4 (zs hb) (hbox) (zl hg) (zl hg); clear HB; obtain ⟨HB, BK255, GW255, GE255⟩ := n_; clear hb hbox hg; obtain ⟨hcz84_0, hcz84_1, hcz84_2, hcz84_3, hfz84_0, hfz84_1, hfz84_2, hfz84_3⟩ := zC4 BK255))
       go_ret
       exact ⟨zE, zB⟩
     ·have c66b0 := beq_eq_false_iff_ne.mpr c66
      have c66b1 := bne_iff_ne.mpr c66
      have HC85 := Aside0.mk H
      clear H
      go_enter Try.func43, Try.ntmps43
      go_upto_if 101 with (first | ((with_reducible refine gate_dst (N := 1) rfl ?_); refine zX (N := 1) (cs := #[.int .i64 a0_0, .int .i64 a0_1, .string a0_2, .slice A0_3 l0_3.length c0_3]) (t := 66) ?_; intro gb255 hg w86 hbox hb; have n_ := z4 (zs hb) (hbox) (zl hg) (zl hg); clear HB; obtain ⟨HB, BK255, GW255, GE255⟩ := n_; clear hb hbox hg; obtain ⟨hcz87_0, hcz87_1, hcz87_2, hcz87_3, hfz87_0, hfz87_1, hfz87_2, hfz87_3⟩ := zC4 BK255))
      (try simp only [Act.put, List.setIfInBounds_toArray, List.set_cons_zero, List.set_cons_succ])
      go_cut [101] (fun v101 wc => ∃ (kq : Nat) (x101_84 : Bool), v101 = .bool x101_84 ∧ Aside0 (impl_isE.j0 kq (l0_3.length : Int) a0_0 x101_84 a0_0 a0_1 a0_2 l0_3 = some r) ∧ Aside0 (kq ≤ k) ∧ Aside0 (wc.heap[gb255]? = some (.cells #[.int .i64 a0_0, .int .i64 a0_1, .string a0_2, (.slice A0_3 l0_3.length c0_3)] 66 (0, 0))) ∧ Aside0 (Below w.heap.size w wc))
      case first =>
       have H := HC85.out
       clear HC85
       replace H := zI H; obtain ⟨c88, H⟩ | ⟨c88, H⟩ := H
       ·have c88b0 := beq_iff_eq.mpr c88
        have c88b1 := bne_eq_false_iff_eq.mpr c88
        clear c88
        (first | rw [c88b0] | (simp only [i64_w, i32_w]; rw [c88b0]) | skip)
        have H' := Aside0.mk H
        clear H
        go_wp2
        go_meet
        case rel => exact ⟨_, ((a0_0 == 7)), zS, H', ⟨by first | omega | exact Nat.le_refl _⟩, ⟨zP BK255⟩, ⟨zB⟩⟩
       ·have c88b0 := beq_eq_false_iff_ne.mpr c88
        have c88b1 := bne_iff_ne.mpr c88
        (first | rw [c88b0] | (simp only [i64_w, i32_w]; rw [c88b0]) | skip)
        have H' := Aside0.mk H
        clear H
        go_wp2
        go_meet
        case rel => exact ⟨_, ((a0_0 == 8)), zS, H', ⟨by first | omega | exact Nat.le_refl _⟩, ⟨zP BK255⟩, ⟨zB⟩⟩
      case rest =>
       clear HC85
       (try clear c2); (try clear c2b0); (try clear c2b1); (try clear c17); (try clear c17b0); (try clear c17b1); (try clear c32); (try clear c32b0); (try clear c32b1); (try clear c47); (try clear c47b0); (try clear c47b1); (try clear c66); (try clear c66b0); (try clear c66b1); (try clear hcz87_0); (try clear hcz87_1); (try clear hcz87_2); (try clear hcz87_3); (try clear hfz87_0); (try clear hfz87_1); (try clear hfz87_2); (try clear hfz87_3)
       obtain ⟨kq, x101_84, rfl, HA, HJ84, BK255, HB⟩ := hcut
       cases kq with
       | zero => exact absurd HA.out (by simp [impl_isE.j0])
       | succ kj84 =>
        have H := HA.out
        clear HA
        simp only [impl_isE.j0] at H
        by_cases c89 : x101_84 = true
        ·subst c89; replace H := zT H
         replace H := zO H; obtain ⟨t266, A90, H⟩ := H
         by_cases c91 : t266 = true
         ·subst c91; replace H := zT H
          replace H := zI H; obtain ⟨c92, H⟩ | ⟨c92, H⟩ := H
          ·have c92b0 := beq_iff_eq.mpr c92
           have c92b1 := bne_eq_false_iff_eq.mpr c92
           clear c92
           replace H := zO H; obtain ⟨t267, A93, H⟩ := H
           obtain rfl := Option.some.inj H
           obtain ⟨hcz94_0, hcz94_1, hcz94_2, hcz94_3, hfz94_0, hfz94_1, hfz94_2, hfz94_3⟩ := zC4 BK255
           go_wp2_with (first | ((with_reducible refine gate_callee (f := 81) rfl ?_); refine zG (some 105) Try.func81 #[.agg #[.int .i64 a0_0, .int .i64 a0_1, .string a0_2, .slice A0_3 l0_3.length c0_3]] ?_; (with_reducible refine (impl_plainNode.calls a0_0 a0_1 a0_2 _ _ l0_3 true _ (zR HR0_3) HC0_3.out A90.out).mono ?_); rintro e w95 ⟨rfl, hb⟩; refine ⟨_, rfl, ?_⟩; have n_ := z2 (zb BK255 hb) (zs hb); clear BK255 HB; obtain ⟨BK255, HB⟩ := n_; (try clear hb); obtain ⟨hcz96_0, hcz96_1, hcz96_2, hcz96_3, hfz96_0, hfz96_1, hfz96_2, hfz96_3⟩ := zC4 BK255) | (go_at_call 89; (with_reducible refine (ih89 kj84 (by have := HJ84.out; omega) _ _ l0_3 t267 _ (zR HR0_3) HC0_3.out A93.out).mono ?_); rintro e w97 ⟨rfl, hb⟩; have n_ := z2 (zb BK255 hb) (zs hb); clear BK255 HB; obtain ⟨BK255, HB⟩ := n_; (try clear hb)))
           go_ret
           exact ⟨zE, zB⟩
          ·have c92b0 := beq_eq_false_iff_ne.mpr c92
           have c92b1 := bne_iff_ne.mpr c92
           have c92b2 : ¬ (l0_3 = []) := fun h_ => c92 (by rw [h_]; rfl)
           obtain rfl := Option.some.inj H
           obtain ⟨hcz98_0, hcz98_1, hcz98_2, hcz98_3, hfz98_0, hfz98_1, hfz98_2, hfz98_3⟩ := zC4 BK255
           go_wp2_with (first | ((with_reducible refine gate_callee (f := 81) rfl ?_); refine zG (some 105) Try.func81 #[.agg #[.int .i64 a0_0, .int .i64 a0_1, .string a0_2, .slice A0_3 l0_3.length c0_3]] ?_; (with_reducible refine (impl_plainNode.calls a0_0 a0_1 a0_2 _ _ l0_3 true _ (zR HR0_3) HC0_3.out A90.out).mono ?_); rintro e w99 ⟨rfl, hb⟩; refine ⟨_, rfl, ?_⟩; have n_ := z2 (zb BK255 hb) (zs hb); clear BK255 HB; obtain ⟨BK255, HB⟩ := n_; (try clear hb)))
           go_ret
           exact ⟨zE, zB⟩
         ·replace c91 := Bool.eq_false_iff.mpr c91; subst c91; replace H := zN H
          obtain rfl := Option.some.inj H
          obtain ⟨hcz100_0, hcz100_1, hcz100_2, hcz100_3, hfz100_0, hfz100_1, hfz100_2, hfz100_3⟩ := zC4 BK255
          go_wp2_with (first | ((with_reducible refine gate_callee (f := 81) rfl ?_); refine zG (some 105) Try.func81 #[.agg #[.int .i64 a0_0, .int .i64 a0_1, .string a0_2, .slice A0_3 l0_3.length c0_3]] ?_; (with_reducible refine (impl_plainNode.calls a0_0 a0_1 a0_2 _ _ l0_3 false _ (zR HR0_3) HC0_3.out A90.out).mono ?_); rintro e w101 ⟨rfl, hb⟩; refine ⟨_, rfl, ?_⟩; have n_ := z2 (zb BK255 hb) (zs hb); clear BK255 HB; obtain ⟨BK255, HB⟩ := n_; (try clear hb)))
          go_ret
          exact ⟨zE, zB⟩
        ·replace c89 := Bool.eq_false_iff.mpr c89; subst c89; replace H := zN H
         have HC102 := Aside0.mk H
         clear H
         go_upto_if 110 with (fail)
         go_cut [110] (fun v110 wc => ∃ (kq : Nat) (x110_101 : Bool), v110 = .bool x110_101 ∧ Aside0 (impl_isE.j1 kq (l0_3.length : Int) a0_0 x110_101 a0_0 a0_1 a0_2 l0_3 = some r) ∧ Aside0 (kq ≤ kj84) ∧ Aside0 (wc.heap[gb255]? = some (.cells #[.int .i64 a0_0, .int .i64 a0_1, .string a0_2, (.slice A0_3 l0_3.length c0_3)] 66 (0, 0))) ∧ Aside0 (Below w.heap.size w wc))
         case first =>
          have H := HC102.out
          clear HC102
          replace H := zI H; obtain ⟨c103, H⟩ | ⟨c103, H⟩ := H
          ·have c103b0 := beq_iff_eq.mpr c103
           have c103b1 := bne_eq_false_iff_eq.mpr c103
           clear c103
           (first | rw [c103b0] | (simp only [i64_w, i32_w]; rw [c103b0]) | skip)
           have H' := Aside0.mk H
           clear H
           go_wp2
           go_meet
           case rel => exact ⟨_, ((a0_0 == 6)), zS, H', ⟨by have := HJ84.out; first | omega | exact Nat.le_refl _⟩, ⟨zP BK255⟩, ⟨zB⟩⟩
          ·have c103b0 := beq_eq_false_iff_ne.mpr c103
           have c103b1 := bne_iff_ne.mpr c103
           (first | rw [c103b0] | (simp only [i64_w, i32_w]; rw [c103b0]) | skip)
           replace H := zI H; obtain ⟨c104, H⟩ | ⟨c104, H⟩ := H
           ·have c104b0 := beq_iff_eq.mpr c104
            have c104b1 := bne_eq_false_iff_eq.mpr c104
            clear c104
            have H' := Aside0.mk H
            clear H
            go_wp2
            go_meet
            case rel => exact ⟨_, ((a0_0 == 22)), zS, H', ⟨by have := HJ84.out; first | omega | exact Nat.le_refl _⟩, ⟨zP BK255⟩, ⟨zB⟩⟩
           ·have c104b0 := beq_eq_false_iff_ne.mpr c104
            have c104b1 := bne_iff_ne.mpr c104
            have H' := Aside0.mk H
            clear H
            go_wp2
            go_meet
            case rel => exact ⟨_, ((a0_0 == 23)), zS, H', ⟨by have := HJ84.out; first | omega | exact Nat.le_refl _⟩, ⟨zP BK255⟩, ⟨zB⟩⟩
         case rest =>
          clear HC102
          (try clear c2); (try clear c2b0); (try clear c2b1); (try clear c17); (try clear c17b0); (try clear c17b1); (try clear c32); (try clear c32b0); (try clear c32b1); (try clear c47); (try clear c47b0); (try clear c47b1); (try clear c66); (try clear c66b0); (try clear c66b1); (try clear c89); (try clear hcz87_0); (try clear hcz87_1); (try clear hcz87_2); (try clear hcz87_3); (try clear hfz87_0); (try clear hfz87_1); (try clear hfz87_2); (try clear hfz87_3)
          obtain ⟨kq, x110_101, rfl, HA, HJ101, BK255, HB⟩ := hcut
          cases kq with
          | zero => exact absurd HA.out (by simp [impl_isE.j1])
          | succ kj101 =>
           have H := HA.out
           clear HA
           simp only [impl_isE.j1] at H
           by_cases c105 : x110_101 = true
           ·subst c105; replace H := zT H
            replace H := zO H; obtain ⟨t268, A106, H⟩ := H
            by_cases c107 : t268 = true
            ·subst c107; replace H := zT H
             replace H := zI H; obtain ⟨c108, H⟩ | ⟨c108, H⟩ := H
             ·have c108b0 := beq_iff_eq.mpr c108
              have c108b1 := bne_eq_false_iff_eq.mpr c108
              clear c108
              replace H := zO H; obtain ⟨t269, A109, H⟩ := H
              obtain rfl := Option.some.inj H
              obtain ⟨hcz110_0, hcz110_1, hcz110_2, hcz110_3, hfz110_0, hfz110_1, hfz110_2, hfz110_3⟩ := zC4 BK255
              go_wp2_with (first | ((with_reducible refine gate_callee (f := 81) rfl ?_); refine zG (some 115) Try.func81 #[.agg #[.int .i64 a0_0, .int .i64 a0_1, .string a0_2, .slice A0_3 l0_3.length c0_3]] ?_; (with_reducible refine (impl_plainNode.calls a0_0 a0_1 a0_2 _ _ l0_3 true _ (zR HR0_3) HC0_3.out A106.out).mono ?_); rintro e w111 ⟨rfl, hb⟩; refine ⟨_, rfl, ?_⟩; have n_ := z2 (zb BK255 hb) (zs hb); clear BK255 HB; obtain ⟨BK255, HB⟩ := n_; (try clear hb); obtain ⟨hcz112_0, hcz112_1, hcz112_2, hcz112_3, hfz112_0, hfz112_1, hfz112_2, hfz112_3⟩ := zC4 BK255) | (go_at_call 89; (with_reducible refine (ih89 kj101 (by have := HJ84.out; have := HJ101.out; omega) _ _ l0_3 t269 _ (zR HR0_3) HC0_3.out A109.out).mono ?_); rintro e w113 ⟨rfl, hb⟩; have n_ := z2 (zb BK255 hb) (zs hb); clear BK255 HB; obtain ⟨BK255, HB⟩ := n_; (try clear hb)))
              go_ret
              exact ⟨zE, zB⟩
             ·have c108b0 := beq_eq_false_iff_ne.mpr c108
              have c108b1 := bne_iff_ne.mpr c108
              obtain rfl := Option.some.inj H
              obtain ⟨hcz114_0, hcz114_1, hcz114_2, hcz114_3, hfz114_0, hfz114_1, hfz114_2, hfz114_3⟩ := zC4 BK255
              go_wp2_with (first | ((with_reducible refine gate_callee (f := 81) rfl ?_); refine zG (some 115) Try.func81 #[.agg #[.int .i64 a0_0, .int .i64 a0_1, .string a0_2, .slice A0_3 l0_3.length c0_3]] ?_; (with_reducible refine (impl_plainNode.calls a0_0 a0_1 a0_2 _ _ l0_3 true _ (zR HR0_3) HC0_3.out A106.out).mono ?_); rintro e w115 ⟨rfl, hb⟩; refine ⟨_, rfl, ?_⟩; have n_ := z2 (zb BK255 hb) (zs hb); clear BK255 HB; obtain ⟨BK255, HB⟩ := n_; (try clear hb)))
              go_ret
              exact ⟨zE, zB⟩
            ·replace c107 := Bool.eq_false_iff.mpr c107; subst c107; replace H := zN H
             obtain rfl := Option.some.inj H
             obtain ⟨hcz116_0, hcz116_1, hcz116_2, hcz116_3, hfz116_0, hfz116_1, hfz116_2, hfz116_3⟩ := zC4 BK255
             go_wp2_with (first | ((with_reducible refine gate_callee (f := 81) rfl ?_); refine zG (some 115) Try.func81 #[.agg #[.int .i64 a0_0, .int .i64 a0_1, .string a0_2, .slice A0_3 l0_3.length c0_3]] ?_; (with_reducible refine (impl_plainNode.calls a0_0 a0_1 a0_2 _ _ l0_3 false _ (zR HR0_3) HC0_3.out A106.out).mono ?_); rintro e w117 ⟨rfl, hb⟩; refine ⟨_, rfl, ?_⟩; have n_ := z2 (zb BK255 hb) (zs hb); clear BK255 HB; obtain ⟨BK255, HB⟩ := n_; (try clear hb)))
             go_ret
             exact ⟨zE, zB⟩
           ·replace c105 := Bool.eq_false_iff.mpr c105; subst c105; replace H := zN H
            have HC118 := Aside0.mk H
            clear H
            go_upto_if 120 with (fail)
            go_cut [120] (fun v120 wc => ∃ (kq : Nat) (x120_117 : Bool), v120 = .bool x120_117 ∧ Aside0 (impl_isE.j2 kq (l0_3.length : Int) a0_0 x120_117 a0_0 a0_1 a0_2 l0_3 = some r) ∧ Aside0 (kq ≤ kj101) ∧ Aside0 (wc.heap[gb255]? = some (.cells #[.int .i64 a0_0, .int .i64 a0_1, .string a0_2, (.slice A0_3 l0_3.length c0_3)] 66 (0, 0))) ∧ Aside0 (Below w.heap.size w wc))
            case first =>
             have H := HC118.out
             clear HC118
             replace H := zI H; obtain ⟨c119, H⟩ | ⟨c119, H⟩ := H
             ·have c119b0 := beq_iff_eq.mpr c119
              have c119b1 := bne_eq_false_iff_eq.mpr c119
              clear c119
              (first | rw [c119b0] | (simp only [i64_w, i32_w]; rw [c119b0]) | skip)
              have H' := Aside0.mk H
              clear H
              go_wp2
              go_meet
              case rel => exact ⟨_, ((a0_0 == 26)), zS, H', ⟨by have := HJ84.out; have := HJ101.out; first | omega | exact Nat.le_refl _⟩, ⟨zP BK255⟩, ⟨zB⟩⟩
             ·have c119b0 := beq_eq_false_iff_ne.mpr c119
              have c119b1 := bne_iff_ne.mpr c119
              (first | rw [c119b0] | (simp only [i64_w, i32_w]; rw [c119b0]) | skip)
              have H' := Aside0.mk H
              clear H
              go_wp2
              go_meet
              case rel => exact ⟨_, ((a0_0 == 27)), zS, H', ⟨by have := HJ84.out; have := HJ101.out; first | omega | exact Nat.le_refl _⟩, ⟨zP BK255⟩, ⟨zB⟩⟩
            case rest =>
             clear HC118
             (try clear c2); (try clear c2b0); (try clear c2b1); (try clear c17); (try clear c17b0); (try clear c17b1); (try clear c32); (try clear c32b0); (try clear c32b1); (try clear c47); (try clear c47b0); (try clear c47b1); (try clear c66); (try clear c66b0); (try clear c66b1); (try clear c89); (try clear c105); (try clear hcz87_0); (try clear hcz87_1); (try clear hcz87_2); (try clear hcz87_3); (try clear hfz87_0); (try clear hfz87_1); (try clear hfz87_2); (try clear hfz87_3)
             obtain ⟨kq, x120_117, rfl, HA, HJ117, BK255, HB⟩ := hcut
             cases kq with
             | zero => exact absurd HA.out (by simp [impl_isE.j2])
             | succ kj117 =>
              have H := HA.out
              clear HA
              simp only [impl_isE.j2] at H
              by_cases c120 : x120_117 = true
              ·subst c120; replace H := zT H
               replace H := zO H; obtain ⟨t270, A121, H⟩ := H
               by_cases c122 : t270 = true
               ·subst c122; replace H := zT H
                replace H := zI H; obtain ⟨c123, H⟩ | ⟨c123, H⟩ := H
                ·have c123b0 := beq_iff_eq.mpr c123
                 have c123b1 := bne_eq_false_iff_eq.mpr c123
                 clear c123
                 replace H := zI H; obtain ⟨c124, H⟩ | ⟨c124, H⟩ := H
                 ·have c124b0 := decide_eq_true c124
                  have c124b1 : decide (0 < l0_3.length) = true := decide_eq_true (by omega)
                  clear c124
                  replace H := zI H; obtain ⟨c125, H⟩ | ⟨c125, H⟩ := H
                  ·have c125b0 := beq_iff_eq.mpr c125
                   have c125b1 := bne_eq_false_iff_eq.mpr c125
                   clear c125
                   replace H := zO H; obtain ⟨t272, A126, H⟩ := H
                   obtain rfl := Option.some.inj H
                   obtain ⟨hcz127_0, hcz127_1, hcz127_2, hcz127_3, hfz127_0, hfz127_1, hfz127_2, hfz127_3⟩ := zC4 BK255
                   go_wp2_with (first | ((with_reducible refine gate_callee (f := 81) rfl ?_); refine zG (some 124) Try.func81 #[.agg #[.int .i64 a0_0, .int .i64 a0_1, .string a0_2, .slice A0_3 l0_3.length c0_3]] ?_; (with_reducible refine (impl_plainNode.calls a0_0 a0_1 a0_2 _ _ l0_3 true _ (zR HR0_3) HC0_3.out A121.out).mono ?_); rintro e w128 ⟨rfl, hb⟩; refine ⟨_, rfl, ?_⟩; have n_ := z2 (zb BK255 hb) (zs hb); clear BK255 HB; obtain ⟨BK255, HB⟩ := n_; (try clear hb); obtain ⟨hcz129_0, hcz129_1, hcz129_2, hcz129_3, hfz129_0, hfz129_1, hfz129_2, hfz129_3⟩ := zC4 BK255; have p271 : 0 ≤ (0 : Int) := (by omega); have q271 : 0 < (l0_3.length : Int) := zW; obtain ⟨ad271, A271_3, c271_3, e271, hx271_0, hx271_1, hx271_2, hx271_3, hl271_3, hi271_3⟩ := at_T66 HR0_3.out 0 p271 q271; cases e271; have qi271 : (0 < l0_3.length) = True := eq_true (by omega); (try rw [show ((0 : Int)).toNat = 0 from rfl] at hx271_0 hx271_1 hx271_2 hx271_3); (try rw [show 0 * 4 = 0 from rfl] at hx271_0 hx271_1 hx271_2 hx271_3); (try rw [Addr.add_zero'] at hx271_0 hx271_1 hx271_2 hx271_3); replace hx271_0 := zc HB hx271_0; replace hx271_1 := zc HB hx271_1; replace hx271_2 := zc HB hx271_2; replace hx271_3 := zc HB hx271_3; have HR271_3 := Aside0.mk hi271_3; have HC271_3 := Aside0.mk hl271_3; clear hi271_3 hl271_3; replace p271 := eq_true p271; replace q271 := eq_true q271) | (go_at_call 89; (with_reducible refine (ih89 kj117 (by have := HJ84.out; have := HJ101.out; have := HJ117.out; omega) _ _ l0_3 t272 _ (zR HR0_3) HC0_3.out A126.out).mono ?_); rintro e w130 ⟨rfl, hb⟩; have n_ := z2 (zb BK255 hb) (zs hb); clear BK255 HB; obtain ⟨BK255, HB⟩ := n_; (try clear hb)))
                   go_ret
                   exact ⟨zE, zB⟩
                  ·have c125b0 := beq_eq_false_iff_ne.mpr c125
                   have c125b1 := bne_iff_ne.mpr c125
                   replace H := zI H; obtain ⟨c131, H⟩ | ⟨c131, H⟩ := H
                   ·have c131b0 := beq_iff_eq.mpr c131
                    have c131b1 := bne_eq_false_iff_eq.mpr c131
                    clear c131
                    replace H := zO H; obtain ⟨t274, A132, H⟩ := H
                    obtain rfl := Option.some.inj H
                    obtain ⟨hcz133_0, hcz133_1, hcz133_2, hcz133_3, hfz133_0, hfz133_1, hfz133_2, hfz133_3⟩ := zC4 BK255
                    go_wp2_with (first | ((with_reducible refine gate_callee (f := 81) rfl ?_); refine zG (some 124) Try.func81 #[.agg #[.int .i64 a0_0, .int .i64 a0_1, .string a0_2, .slice A0_3 l0_3.length c0_3]] ?_; (with_reducible refine (impl_plainNode.calls a0_0 a0_1 a0_2 _ _ l0_3 true _ (zR HR0_3) HC0_3.out A121.out).mono ?_); rintro e w134 ⟨rfl, hb⟩; refine ⟨_, rfl, ?_⟩; have n_ := z2 (zb BK255 hb) (zs hb); clear BK255 HB; obtain ⟨BK255, HB⟩ := n_; (try clear hb); obtain ⟨hcz135_0, hcz135_1, hcz135_2, hcz135_3, hfz135_0, hfz135_1, hfz135_2, hfz135_3⟩ := zC4 BK255; have p271 : 0 ≤ (0 : Int) := (by omega); have q271 : 0 < (l0_3.length : Int) := zW; obtain ⟨ad271, A271_3, c271_3, e271, hx271_0, hx271_1, hx271_2, hx271_3, hl271_3, hi271_3⟩ := at_T66 HR0_3.out 0 p271 q271; cases e271; have qi271 : (0 < l0_3.length) = True := eq_true (by omega); (try rw [show ((0 : Int)).toNat = 0 from rfl] at hx271_0 hx271_1 hx271_2 hx271_3); (try rw [show 0 * 4 = 0 from rfl] at hx271_0 hx271_1 hx271_2 hx271_3); (try rw [Addr.add_zero'] at hx271_0 hx271_1 hx271_2 hx271_3); replace hx271_0 := zc HB hx271_0; replace hx271_1 := zc HB hx271_1; replace hx271_2 := zc HB hx271_2; replace hx271_3 := zc HB hx271_3; have HR271_3 := Aside0.mk hi271_3; have HC271_3 := Aside0.mk hl271_3; clear hi271_3 hl271_3; replace p271 := eq_true p271; replace q271 := eq_true q271; have p273 : 0 ≤ (0 : Int) := (by omega); have q273 : 0 < (l0_3.length : Int) := zW; obtain ⟨ad273, A273_3, c273_3, e273, hx273_0, hx273_1, hx273_2, hx273_3, hl273_3, hi273_3⟩ := at_T66 HR0_3.out 0 p273 q273; obtain rfl : ad271 = ad273 := (by injection e273); have qi273 : (0 < l0_3.length) = True := eq_true (by omega); (try rw [show ((0 : Int)).toNat = 0 from rfl] at hx273_0 hx273_1 hx273_2 hx273_3); (try rw [show 0 * 4 = 0 from rfl] at hx273_0 hx273_1 hx273_2 hx273_3); (try rw [Addr.add_zero'] at hx273_0 hx273_1 hx273_2 hx273_3); replace hx273_0 := zc HB hx273_0; replace hx273_1 := zc HB hx273_1; replace hx273_2 := zc HB hx273_2; replace hx273_3 := zc HB hx273_3; have HR273_3 := Aside0.mk hi273_3; have HC273_3 := Aside0.mk hl273_3; clear hi273_3 hl273_3; replace p273 := eq_true p273; replace q273 := eq_true q273; have ea_ := Option.some.inj (hx271_3.symm.trans hx273_3); injection ea_ with ea_ en_ ec_; subst ea_; subst ec_; clear en_) | (go_at_call 89; (with_reducible refine (ih89 kj117 (by have := HJ84.out; have := HJ101.out; have := HJ117.out; omega) _ _ l0_3 t274 _ (zR HR0_3) HC0_3.out A132.out).mono ?_); rintro e w136 ⟨rfl, hb⟩; have n_ := z2 (zb BK255 hb) (zs hb); clear BK255 HB; obtain ⟨BK255, HB⟩ := n_; (try clear hb)))
                    go_ret
                    exact ⟨zE, zB⟩
                   ·have c131b0 := beq_eq_false_iff_ne.mpr c131
                    have c131b1 := bne_iff_ne.mpr c131
                    obtain rfl := Option.some.inj H
                    obtain ⟨hcz137_0, hcz137_1, hcz137_2, hcz137_3, hfz137_0, hfz137_1, hfz137_2, hfz137_3⟩ := zC4 BK255
                    go_wp2_with (first | ((with_reducible refine gate_callee (f := 81) rfl ?_); refine zG (some 124) Try.func81 #[.agg #[.int .i64 a0_0, .int .i64 a0_1, .string a0_2, .slice A0_3 l0_3.length c0_3]] ?_; (with_reducible refine (impl_plainNode.calls a0_0 a0_1 a0_2 _ _ l0_3 true _ (zR HR0_3) HC0_3.out A121.out).mono ?_); rintro e w138 ⟨rfl, hb⟩; refine ⟨_, rfl, ?_⟩; have n_ := z2 (zb BK255 hb) (zs hb); clear BK255 HB; obtain ⟨BK255, HB⟩ := n_; (try clear hb); obtain ⟨hcz139_0, hcz139_1, hcz139_2, hcz139_3, hfz139_0, hfz139_1, hfz139_2, hfz139_3⟩ := zC4 BK255; have p271 : 0 ≤ (0 : Int) := (by omega); have q271 : 0 < (l0_3.length : Int) := zW; obtain ⟨ad271, A271_3, c271_3, e271, hx271_0, hx271_1, hx271_2, hx271_3, hl271_3, hi271_3⟩ := at_T66 HR0_3.out 0 p271 q271; cases e271; have qi271 : (0 < l0_3.length) = True := eq_true (by omega); (try rw [show ((0 : Int)).toNat = 0 from rfl] at hx271_0 hx271_1 hx271_2 hx271_3); (try rw [show 0 * 4 = 0 from rfl] at hx271_0 hx271_1 hx271_2 hx271_3); (try rw [Addr.add_zero'] at hx271_0 hx271_1 hx271_2 hx271_3); replace hx271_0 := zc HB hx271_0; replace hx271_1 := zc HB hx271_1; replace hx271_2 := zc HB hx271_2; replace hx271_3 := zc HB hx271_3; have HR271_3 := Aside0.mk hi271_3; have HC271_3 := Aside0.mk hl271_3; clear hi271_3 hl271_3; replace p271 := eq_true p271; replace q271 := eq_true q271; have p273 : 0 ≤ (0 : Int) := (by omega); have q273 : 0 < (l0_3.length : Int) := zW; obtain ⟨ad273, A273_3, c273_3, e273, hx273_0, hx273_1, hx273_2, hx273_3, hl273_3, hi273_3⟩ := at_T66 HR0_3.out 0 p273 q273; obtain rfl : ad271 = ad273 := (by injection e273); have qi273 : (0 < l0_3.length) = True := eq_true (by omega); (try rw [show ((0 : Int)).toNat = 0 from rfl] at hx273_0 hx273_1 hx273_2 hx273_3); (try rw [show 0 * 4 = 0 from rfl] at hx273_0 hx273_1 hx273_2 hx273_3); (try rw [Addr.add_zero'] at hx273_0 hx273_1 hx273_2 hx273_3); replace hx273_0 := zc HB hx273_0; replace hx273_1 := zc HB hx273_1; replace hx273_2 := zc HB hx273_2; replace hx273_3 := zc HB hx273_3; have HR273_3 := Aside0.mk hi273_3; have HC273_3 := Aside0.mk hl273_3; clear hi273_3 hl273_3; replace p273 := eq_true p273; replace q273 := eq_true q273; have ea_ := Option.some.inj (hx271_3.symm.trans hx273_3); injection ea_ with ea_ en_ ec_; subst ea_; subst ec_; clear en_))
                    go_ret
                    exact ⟨zE, zB⟩
                 ·exact absurd H (by simp)
                ·have c123b0 := beq_eq_false_iff_ne.mpr c123
                 have c123b1 := bne_iff_ne.mpr c123
                 obtain rfl := Option.some.inj H
                 obtain ⟨hcz140_0, hcz140_1, hcz140_2, hcz140_3, hfz140_0, hfz140_1, hfz140_2, hfz140_3⟩ := zC4 BK255
                 go_wp2_with (first | ((with_reducible refine gate_callee (f := 81) rfl ?_); refine zG (some 124) Try.func81 #[.agg #[.int .i64 a0_0, .int .i64 a0_1, .string a0_2, .slice A0_3 l0_3.length c0_3]] ?_; (with_reducible refine (impl_plainNode.calls a0_0 a0_1 a0_2 _ _ l0_3 true _ (zR HR0_3) HC0_3.out A121.out).mono ?_); rintro e w141 ⟨rfl, hb⟩; refine ⟨_, rfl, ?_⟩; have n_ := z2 (zb BK255 hb) (zs hb); clear BK255 HB; obtain ⟨BK255, HB⟩ := n_; (try clear hb)))
                 go_ret
                 exact ⟨zE, zB⟩
               ·replace c122 := Bool.eq_false_iff.mpr c122; subst c122; replace H := zN H
                obtain rfl := Option.some.inj H
                obtain ⟨hcz142_0, hcz142_1, hcz142_2, hcz142_3, hfz142_0, hfz142_1, hfz142_2, hfz142_3⟩ := zC4 BK255
                go_wp2_with (first | ((with_reducible refine gate_callee (f := 81) rfl ?_); refine zG (some 124) Try.func81 #[.agg #[.int .i64 a0_0, .int .i64 a0_1, .string a0_2, .slice A0_3 l0_3.length c0_3]] ?_; (with_reducible refine (impl_plainNode.calls a0_0 a0_1 a0_2 _ _ l0_3 false _ (zR HR0_3) HC0_3.out A121.out).mono ?_); rintro e w143 ⟨rfl, hb⟩; refine ⟨_, rfl, ?_⟩; have n_ := z2 (zb BK255 hb) (zs hb); clear BK255 HB; obtain ⟨BK255, HB⟩ := n_; (try clear hb)))
                go_ret
                exact ⟨zE, zB⟩
              ·replace c120 := Bool.eq_false_iff.mpr c120; subst c120; replace H := zN H
               replace H := zI H; obtain ⟨c144, H⟩ | ⟨c144, H⟩ := H
               ·have c144b0 := beq_iff_eq.mpr c144
                have c144b1 := bne_eq_false_iff_eq.mpr c144
                clear c144
                replace H := zI H; obtain ⟨c145, H⟩ | ⟨c145, H⟩ := H
                ·have c145b0 := beq_iff_eq.mpr c145
                 have c145b1 := bne_eq_false_iff_eq.mpr c145
                 clear c145
                 replace H := zO H; obtain ⟨t275, A146, H⟩ := H
                 replace H := zO H; obtain ⟨t278, A147, H⟩ := H
                 by_cases c148 : t278 = true
                 ·subst c148; replace H := zT H
                  replace H := zO H; obtain ⟨t279, A149, H⟩ := H
                  obtain rfl := Option.some.inj H
                  try go_wp2
                  have n0_ := Aside0.mk (blk_drew BK255.out)
                  have n1_ := Aside0.mk (below_drew1 HB.out)
                  clear BK255
                  clear HB
                  have BK255 := n0_
                  have HB := n1_
                  clear n0_ n1_
                  refine start_ (n := 10) (S := fun w' => w'.cell? ⟨gb255, 0, none⟩ = some (.int .i64 a0_0) ∧ w'.cell? ⟨gb255, 1, none⟩ = some (.int .i64 a0_1) ∧ w'.cell? ⟨gb255, 2, none⟩ = some (.string a0_2) ∧ w'.cell? ⟨gb255, 3, none⟩ = some (.slice A0_3 l0_3.length c0_3)) (ds := []) #[false, false, false, false, false, false, false, false, false, false] (by kernel_rfl) rfl rfl ⟨(blk_cell BK255.out 0).trans rfl, (blk_cell BK255.out 1).trans rfl, (blk_cell BK255.out 2).trans rfl, (blk_cell BK255.out 3).trans rfl⟩ (fun hHeld => ?_); refine with_tabW impl_isE.tab26 impl_isE.bits26 (fun HT_ HW_ => ?_)
                  generalize wc.drew = w150 at BK255 HB hHeld ⊢
                  refine pure_ (i := 0) (N := some 147) (v := ?_) (a' := ?_) #[true, false, false, false, false, false, false, false, false, false] rfl rfl (any_of HT_.out (by kernel_rfl)) (fun _ _ _ h => h) (Or.inl ⟨by rfl, ?_⟩) ?_ ?_
                  rotate_left
                  ·intro w'
                   go_simp
                   with_reducible rfl
                  rotate_left
                  ·simp only [Act.put, List.setIfInBounds_toArray, List.set_cons_zero, List.set_cons_succ, i64_w, i32_w]
                   rfl
                  refine take_ (i := 1) (N := some 148) (v := ?_) (a' := ?_) #[true, true, false, false, false, false, false, false, false, false] rfl rfl (take_ofW HT_.out HW_.out (by kernel_rfl)) (fun _ _ _ h => h) (Or.inl ⟨by rfl, ?_⟩) hHeld ?_ ?_
                  rotate_left
                  ·rintro w' ⟨s0, s1, s2, s3⟩
                   go_simp
                   with_reducible rfl
                  rotate_left
                  ·simp only [Act.put, List.setIfInBounds_toArray, List.set_cons_zero, List.set_cons_succ, i64_w, i32_w]
                   rfl
                  refine pure_ (i := 2) (N := some 149) (v := ?_) (a' := ?_) #[true, true, true, false, false, false, false, false, false, false] rfl rfl (any_of HT_.out (by kernel_rfl)) (fun _ _ _ h => h) (Or.inl ⟨by rfl, ?_⟩) ?_ ?_
                  rotate_left
                  ·intro w'
                   go_simp
                   with_reducible rfl
                  rotate_left
                  ·simp only [Act.put, List.setIfInBounds_toArray, List.set_cons_zero, List.set_cons_succ, i64_w, i32_w]
                   rfl
                  refine pure_ (i := 3) (N := some 150) (v := ?_) (a' := ?_) #[true, true, true, true, false, false, false, false, false, false] rfl rfl (any_of HT_.out (by kernel_rfl)) (fun _ _ _ h => h) (Or.inl ⟨by rfl, ?_⟩) ?_ ?_
                  rotate_left
                  ·intro w'
                   go_simp
                   with_reducible rfl
                  rotate_left
                  ·simp only [Act.put, List.setIfInBounds_toArray, List.set_cons_zero, List.set_cons_succ, i64_w, i32_w]
                   rfl
                  refine pure_ (i := 5) (N := some 152) (v := ?_) (a' := ?_) #[true, true, true, true, false, true, false, false, false, false] rfl rfl (any_of HT_.out (by kernel_rfl)) (fun _ _ _ h => h) (Or.inl ⟨by rfl, ?_⟩) ?_ ?_
                  rotate_left
                  ·intro w'
                   go_simp
                   with_reducible rfl
                  rotate_left
                  ·simp only [Act.put, List.setIfInBounds_toArray, List.set_cons_zero, List.set_cons_succ, i64_w, i32_w]
                   rfl
                  refine take_ (i := 6) (N := some 153) (v := ?_) (a' := ?_) #[true, true, true, true, false, true, true, false, false, false] rfl rfl (take_ofW HT_.out HW_.out (by kernel_rfl)) (fun _ _ _ h => h) (Or.inl ⟨by rfl, ?_⟩) hHeld ?_ ?_
                  rotate_left
                  ·rintro w' ⟨s0, s1, s2, s3⟩
                   go_simp
                   with_reducible rfl
                  rotate_left
                  ·simp only [Act.put, List.setIfInBounds_toArray, List.set_cons_zero, List.set_cons_succ, i64_w, i32_w]
                   rfl
                  refine one_ (i := 4) (N := some 151) #[true, true, true, true, true, true, true, false, false, false] rfl rfl (one_of HT_.out (by kernel_rfl)) (by decide) (fun K hK => ?_)
                  refine goes_ Try.func88 (by kernel_rfl) rfl #[] (by rfl) rfl rfl zA ?_
                  with_reducible refine (impl_calls.calls  t275 _ A146.out).mono ?_
                  rintro e w151 ⟨v276, rfl, ho0, hb⟩
                  refine ⟨_, rfl, ?_⟩
                  have n0_ := Aside0.mk (Kd.R_lower ho0 (below_size zB))
                  have n1_ := Aside0.mk (zb BK255 hb)
                  have n2_ := Aside0.mk (zs hb)
                  clear BK255
                  clear HB
                  have HO277 := n0_
                  have BK255 := n1_
                  have HB := n2_
                  clear n0_ n1_ n2_
                  (try clear hb)
                  (try clear hb2)
                  (try clear hk)
                  (try clear hi)
                  (try clear ho0)
                  obtain ⟨Ao152, co152, eo152⟩ := Kd.R_slice HO277.out
                  (first | subst eo152 | (injection eo152 with f1_ f2_ f3_; have f4_ := f1_.symm; have f5_ := f3_.symm; clear f1_ f2_ f3_; subst f4_; subst f5_))
                  refine hK.out _ _ ⟨(blk_cell BK255.out 0).trans rfl, (blk_cell BK255.out 1).trans rfl, (blk_cell BK255.out 2).trans rfl, (blk_cell BK255.out 3).trans rfl⟩ (fun hHeld => ?_)
                  clear hK K
                  refine norm_ (a' := ?_) ?_ ?_
                  rotate_left
                  ·show Act.put _ (some 151) _ = _
                   simp only [Act.put, List.setIfInBounds_toArray, List.set_cons_zero, List.set_cons_succ, i64_w, i32_w]
                   rfl
                  refine one_ (i := 7) (N := some 154) #[true, true, true, true, true, true, true, true, false, false] rfl rfl (one_of HT_.out (by kernel_rfl)) (by decide) (fun K hK => ?_)
                  refine goes_ Try.func64 (by kernel_rfl) rfl #[.slice Ao152 t275.length co152, .string a0_2] (by rfl) rfl rfl zA ?_
                  with_reducible refine (slices_Contains_string_string.calls kj117 _ _ t275 a0_2 true _ ?side1 ?side2 A147.out).mono ?_
                  (case side1 => repeat (first | exact (Kd.R_reads' HO277.out).2.2 | (with_reducible refine Kd.C_alloc ?_ _) | (with_reducible refine Kd.C_drewN ?_ _) | (with_reducible refine Kd.C_drew ?_)))
                  (case side2 => exact (Kd.R_reads' HO277.out).2.1)
                  rintro e w' ⟨rfl, ⟨nd, rfl⟩⟩
                  refine ⟨_, rfl, ?_⟩
                  refine hK.out _ _ ⟨(blk_cell BK255.out 0).trans rfl, (blk_cell BK255.out 1).trans rfl, (blk_cell BK255.out 2).trans rfl, (blk_cell BK255.out 3).trans rfl⟩ (fun hHeld => ?_)
                  clear hK K
                  refine norm_ (a' := ?_) ?_ ?_
                  rotate_left
                  ·show Act.put _ (some 154) _ = _
                   simp only [Act.put, List.setIfInBounds_toArray, List.set_cons_zero, List.set_cons_succ, i64_w, i32_w]
                   rfl
                  refine pure_ (i := 8) (N := some 155) (v := ?_) (a' := ?_) #[true, true, true, true, true, true, true, true, true, false] rfl rfl (any_of HT_.out (by kernel_rfl)) (fun _ _ _ h => h) (Or.inl ⟨by rfl, ?_⟩) ?_ ?_
                  rotate_left
                  ·intro w'
                   go_simp
                   with_reducible rfl
                  rotate_left
                  ·simp only [Act.put, List.setIfInBounds_toArray, List.set_cons_zero, List.set_cons_succ, i64_w, i32_w]
                   rfl
                  refine pure_ (i := 9) (N := some 4) (v := ?_) (a' := ?_) #[true, true, true, true, true, true, true, true, true, true] rfl rfl (any_of HT_.out (by kernel_rfl)) (fun _ _ _ h => h) (Or.inl ⟨by rfl, ?_⟩) ?_ ?_
                  rotate_left
                  ·intro w'
                   go_simp
                   with_reducible rfl
                  rotate_left
                  ·simp only [Act.put, List.setIfInBounds_toArray, List.set_cons_zero, List.set_cons_succ, i64_w, i32_w]
                   rfl
                  refine done_ (done_of HT_.out (by kernel_rfl)) ?_
                  obtain ⟨hcz153_0, hcz153_1, hcz153_2, hcz153_3, hfz153_0, hfz153_1, hfz153_2, hfz153_3⟩ := zC4 BK255
                  try go_wp2_with (first | (go_at_call 89; (with_reducible refine (ih89 kj117 (by have := HJ84.out; have := HJ101.out; have := HJ117.out; omega) _ _ l0_3 t279 _ (zR HR0_3) HC0_3.out A149.out).mono ?_); rintro e w154 ⟨rfl, hb⟩; have n_ := z3 (Kd.R_below (by (with_reducible repeat (first | apply Kd.R_alloc | apply Kd.R_drewN | apply Kd.R_drew)); exact HO277.out) hb) (zb BK255 hb) (zs hb); clear HO277 BK255 HB; obtain ⟨HO277, BK255, HB⟩ := n_; (try clear hb)))
                  go_ret
                  exact ⟨zE, zB⟩
                 ·replace c148 := Bool.eq_false_iff.mpr c148; subst c148; replace H := zN H
                  obtain rfl := Option.some.inj H
                  try go_wp2
                  have n0_ := Aside0.mk (blk_drew BK255.out)
                  have n1_ := Aside0.mk (below_drew1 HB.out)
                  clear BK255
                  clear HB
                  have BK255 := n0_
                  have HB := n1_
                  clear n0_ n1_
                  refine start_ (n := 10) (S := fun w' => w'.cell? ⟨gb255, 0, none⟩ = some (.int .i64 a0_0) ∧ w'.cell? ⟨gb255, 1, none⟩ = some (.int .i64 a0_1) ∧ w'.cell? ⟨gb255, 2, none⟩ = some (.string a0_2) ∧ w'.cell? ⟨gb255, 3, none⟩ = some (.slice A0_3 l0_3.length c0_3)) (ds := []) #[false, false, false, false, false, false, false, false, false, false] (by kernel_rfl) rfl rfl ⟨(blk_cell BK255.out 0).trans rfl, (blk_cell BK255.out 1).trans rfl, (blk_cell BK255.out 2).trans rfl, (blk_cell BK255.out 3).trans rfl⟩ (fun hHeld => ?_); refine with_tabW impl_isE.tab26 impl_isE.bits26 (fun HT_ HW_ => ?_)
                  generalize wc.drew = w155 at BK255 HB hHeld ⊢
                  refine pure_ (i := 0) (N := some 147) (v := ?_) (a' := ?_) #[true, false, false, false, false, false, false, false, false, false] rfl rfl (any_of HT_.out (by kernel_rfl)) (fun _ _ _ h => h) (Or.inl ⟨by rfl, ?_⟩) ?_ ?_
                  rotate_left
                  ·intro w'
                   go_simp
                   with_reducible rfl
                  rotate_left
                  ·simp only [Act.put, List.setIfInBounds_toArray, List.set_cons_zero, List.set_cons_succ, i64_w, i32_w]
                   rfl
                  refine take_ (i := 1) (N := some 148) (v := ?_) (a' := ?_) #[true, true, false, false, false, false, false, false, false, false] rfl rfl (take_ofW HT_.out HW_.out (by kernel_rfl)) (fun _ _ _ h => h) (Or.inl ⟨by rfl, ?_⟩) hHeld ?_ ?_
                  rotate_left
                  ·rintro w' ⟨s0, s1, s2, s3⟩
                   go_simp
                   with_reducible rfl
                  rotate_left
                  ·simp only [Act.put, List.setIfInBounds_toArray, List.set_cons_zero, List.set_cons_succ, i64_w, i32_w]
                   rfl
                  refine pure_ (i := 2) (N := some 149) (v := ?_) (a' := ?_) #[true, true, true, false, false, false, false, false, false, false] rfl rfl (any_of HT_.out (by kernel_rfl)) (fun _ _ _ h => h) (Or.inl ⟨by rfl, ?_⟩) ?_ ?_
                  rotate_left
                  ·intro w'
                   go_simp
                   with_reducible rfl
                  rotate_left
                  ·simp only [Act.put, List.setIfInBounds_toArray, List.set_cons_zero, List.set_cons_succ, i64_w, i32_w]
                   rfl
                  refine pure_ (i := 3) (N := some 150) (v := ?_) (a' := ?_) #[true, true, true, true, false, false, false, false, false, false] rfl rfl (any_of HT_.out (by kernel_rfl)) (fun _ _ _ h => h) (Or.inl ⟨by rfl, ?_⟩) ?_ ?_
                  rotate_left
                  ·intro w'
                   go_simp
                   with_reducible rfl
                  rotate_left
                  ·simp only [Act.put, List.setIfInBounds_toArray, List.set_cons_zero, List.set_cons_succ, i64_w, i32_w]
                   rfl
                  refine pure_ (i := 5) (N := some 152) (v := ?_) (a' := ?_) #[true, true, true, true, false, true, false, false, false, false] rfl rfl (any_of HT_.out (by kernel_rfl)) (fun _ _ _ h => h) (Or.inl ⟨by rfl, ?_⟩) ?_ ?_
                  rotate_left
                  ·intro w'
                   go_simp
                   with_reducible rfl
                  rotate_left
                  ·simp only [Act.put, List.setIfInBounds_toArray, List.set_cons_zero, List.set_cons_succ, i64_w, i32_w]
                   rfl
                  refine take_ (i := 6) (N := some 153) (v := ?_) (a' := ?_) #[true, true, true, true, false, true, true, false, false, false] rfl rfl (take_ofW HT_.out HW_.out (by kernel_rfl)) (fun _ _ _ h => h) (Or.inl ⟨by rfl, ?_⟩) hHeld ?_ ?_
                  rotate_left
                  ·rintro w' ⟨s0, s1, s2, s3⟩
                   go_simp
                   with_reducible rfl
                  rotate_left
                  ·simp only [Act.put, List.setIfInBounds_toArray, List.set_cons_zero, List.set_cons_succ, i64_w, i32_w]
                   rfl
                  refine one_ (i := 4) (N := some 151) #[true, true, true, true, true, true, true, false, false, false] rfl rfl (one_of HT_.out (by kernel_rfl)) (by decide) (fun K hK => ?_)
                  refine goes_ Try.func88 (by kernel_rfl) rfl #[] (by rfl) rfl rfl zA ?_
                  with_reducible refine (impl_calls.calls  t275 _ A146.out).mono ?_
                  rintro e w156 ⟨v276, rfl, ho0, hb⟩
                  refine ⟨_, rfl, ?_⟩
                  have n0_ := Aside0.mk (Kd.R_lower ho0 (below_size zB))
                  have n1_ := Aside0.mk (zb BK255 hb)
                  have n2_ := Aside0.mk (zs hb)
                  clear BK255
                  clear HB
                  have HO277 := n0_
                  have BK255 := n1_
                  have HB := n2_
                  clear n0_ n1_ n2_
                  (try clear hb)
                  (try clear hb2)
                  (try clear hk)
                  (try clear hi)
                  (try clear ho0)
                  obtain ⟨Ao157, co157, eo157⟩ := Kd.R_slice HO277.out
                  (first | subst eo157 | (injection eo157 with f1_ f2_ f3_; have f4_ := f1_.symm; have f5_ := f3_.symm; clear f1_ f2_ f3_; subst f4_; subst f5_))
                  refine hK.out _ _ ⟨(blk_cell BK255.out 0).trans rfl, (blk_cell BK255.out 1).trans rfl, (blk_cell BK255.out 2).trans rfl, (blk_cell BK255.out 3).trans rfl⟩ (fun hHeld => ?_)
                  clear hK K
                  refine norm_ (a' := ?_) ?_ ?_
                  rotate_left
                  ·show Act.put _ (some 151) _ = _
                   simp only [Act.put, List.setIfInBounds_toArray, List.set_cons_zero, List.set_cons_succ, i64_w, i32_w]
                   rfl
                  refine one_ (i := 7) (N := some 154) #[true, true, true, true, true, true, true, true, false, false] rfl rfl (one_of HT_.out (by kernel_rfl)) (by decide) (fun K hK => ?_)
                  refine goes_ Try.func64 (by kernel_rfl) rfl #[.slice Ao157 t275.length co157, .string a0_2] (by rfl) rfl rfl zA ?_
                  with_reducible refine (slices_Contains_string_string.calls kj117 _ _ t275 a0_2 false _ ?side1 ?side2 A147.out).mono ?_
                  (case side1 => repeat (first | exact (Kd.R_reads' HO277.out).2.2 | (with_reducible refine Kd.C_alloc ?_ _) | (with_reducible refine Kd.C_drewN ?_ _) | (with_reducible refine Kd.C_drew ?_)))
                  (case side2 => exact (Kd.R_reads' HO277.out).2.1)
                  rintro e w' ⟨rfl, ⟨nd, rfl⟩⟩
                  refine ⟨_, rfl, ?_⟩
                  refine hK.out _ _ ⟨(blk_cell BK255.out 0).trans rfl, (blk_cell BK255.out 1).trans rfl, (blk_cell BK255.out 2).trans rfl, (blk_cell BK255.out 3).trans rfl⟩ (fun hHeld => ?_)
                  clear hK K
                  refine norm_ (a' := ?_) ?_ ?_
                  rotate_left
                  ·show Act.put _ (some 154) _ = _
                   simp only [Act.put, List.setIfInBounds_toArray, List.set_cons_zero, List.set_cons_succ, i64_w, i32_w]
                   rfl
                  refine pure_ (i := 8) (N := some 155) (v := ?_) (a' := ?_) #[true, true, true, true, true, true, true, true, true, false] rfl rfl (any_of HT_.out (by kernel_rfl)) (fun _ _ _ h => h) (Or.inl ⟨by rfl, ?_⟩) ?_ ?_
                  rotate_left
                  ·intro w'
                   go_simp
                   with_reducible rfl
                  rotate_left
                  ·simp only [Act.put, List.setIfInBounds_toArray, List.set_cons_zero, List.set_cons_succ, i64_w, i32_w]
                   rfl
                  refine pure_ (i := 9) (N := some 4) (v := ?_) (a' := ?_) #[true, true, true, true, true, true, true, true, true, true] rfl rfl (any_of HT_.out (by kernel_rfl)) (fun _ _ _ h => h) (Or.inl ⟨by rfl, ?_⟩) ?_ ?_
                  rotate_left
                  ·intro w'
                   go_simp
                   with_reducible rfl
                  rotate_left
                  ·simp only [Act.put, List.setIfInBounds_toArray, List.set_cons_zero, List.set_cons_succ, i64_w, i32_w]
                   rfl
                  refine done_ (done_of HT_.out (by kernel_rfl)) ?_
                  try go_wp2
                  go_ret
                  exact ⟨zE, zB⟩
                ·have c145b0 := beq_eq_false_iff_ne.mpr c145
                 have c145b1 := bne_iff_ne.mpr c145
                 obtain rfl := Option.some.inj H
                 try go_wp2
                 have n0_ := Aside0.mk (blk_drew BK255.out)
                 have n1_ := Aside0.mk (below_drew1 HB.out)
                 clear BK255
                 clear HB
                 have BK255 := n0_
                 have HB := n1_
                 clear n0_ n1_
                 refine start_ (n := 10) (S := fun w' => w'.cell? ⟨gb255, 0, none⟩ = some (.int .i64 a0_0) ∧ w'.cell? ⟨gb255, 1, none⟩ = some (.int .i64 a0_1) ∧ w'.cell? ⟨gb255, 2, none⟩ = some (.string a0_2) ∧ w'.cell? ⟨gb255, 3, none⟩ = some (.slice A0_3 l0_3.length c0_3)) (ds := []) #[false, false, false, false, false, false, false, false, false, false] (by kernel_rfl) rfl rfl ⟨(blk_cell BK255.out 0).trans rfl, (blk_cell BK255.out 1).trans rfl, (blk_cell BK255.out 2).trans rfl, (blk_cell BK255.out 3).trans rfl⟩ (fun hHeld => ?_); refine with_tabW impl_isE.tab26 impl_isE.bits26 (fun HT_ HW_ => ?_)
                 generalize wc.drew = w158 at BK255 HB hHeld ⊢
                 refine pure_ (i := 0) (N := some 147) (v := ?_) (a' := ?_) #[true, false, false, false, false, false, false, false, false, false] rfl rfl (any_of HT_.out (by kernel_rfl)) (fun _ _ _ h => h) (Or.inl ⟨by rfl, ?_⟩) ?_ ?_
                 rotate_left
                 ·intro w'
                  go_simp
                  with_reducible rfl
                 rotate_left
                 ·simp only [Act.put, List.setIfInBounds_toArray, List.set_cons_zero, List.set_cons_succ, i64_w, i32_w]
                  rfl
                 refine take_ (i := 1) (N := some 148) (v := ?_) (a' := ?_) #[true, true, false, false, false, false, false, false, false, false] rfl rfl (take_ofW HT_.out HW_.out (by kernel_rfl)) (fun _ _ _ h => h) (Or.inl ⟨by rfl, ?_⟩) hHeld ?_ ?_
                 rotate_left
                 ·rintro w' ⟨s0, s1, s2, s3⟩
                  go_simp
                  with_reducible rfl
                 rotate_left
                 ·simp only [Act.put, List.setIfInBounds_toArray, List.set_cons_zero, List.set_cons_succ, i64_w, i32_w]
                  rfl
                 refine pure_ (i := 2) (N := some 149) (v := ?_) (a' := ?_) #[true, true, true, false, false, false, false, false, false, false] rfl rfl (any_of HT_.out (by kernel_rfl)) (fun _ _ _ h => h) (Or.inl ⟨by rfl, ?_⟩) ?_ ?_
                 rotate_left
                 ·intro w'
                  go_simp
                  with_reducible rfl
                 rotate_left
                 ·simp only [Act.put, List.setIfInBounds_toArray, List.set_cons_zero, List.set_cons_succ, i64_w, i32_w]
                  rfl
                 refine pure_ (i := 3) (N := some 150) (v := ?_) (a' := ?_) #[true, true, true, true, false, false, false, false, false, false] rfl rfl (any_of HT_.out (by kernel_rfl)) (fun _ _ _ h => h) (Or.inl ⟨by rfl, ?_⟩) ?_ ?_
                 rotate_left
                 ·intro w'
                  go_simp
                  with_reducible rfl
                 rotate_left
                 ·simp only [Act.put, List.setIfInBounds_toArray, List.set_cons_zero, List.set_cons_succ, i64_w, i32_w]
                  rfl
                 refine pure_ (i := 4) (N := some 151) (v := undef) (a' := ?_) #[true, true, true, true, true, false, false, false, false, false] rfl rfl (any_of HT_.out (by kernel_rfl)) (fun _ _ _ h => h) (Or.inr ⟨by rfl, rfl⟩) ?_ ?_
                 rotate_left
                 ·simp only [Act.put, List.setIfInBounds_toArray, List.set_cons_zero, List.set_cons_succ, i64_w, i32_w]
                  rfl
                 refine pure_ (i := 5) (N := some 152) (v := undef) (a' := ?_) #[true, true, true, true, true, true, false, false, false, false] rfl rfl (any_of HT_.out (by kernel_rfl)) (fun _ _ _ h => h) (Or.inr ⟨by rfl, rfl⟩) ?_ ?_
                 rotate_left
                 ·simp only [Act.put, List.setIfInBounds_toArray, List.set_cons_zero, List.set_cons_succ, i64_w, i32_w]
                  rfl
                 refine pure_ (i := 6) (N := some 153) (v := undef) (a' := ?_) #[true, true, true, true, true, true, true, false, false, false] rfl rfl (any_of HT_.out (by kernel_rfl)) (fun _ _ _ h => h) (Or.inr ⟨by rfl, rfl⟩) ?_ ?_
                 rotate_left
                 ·simp only [Act.put, List.setIfInBounds_toArray, List.set_cons_zero, List.set_cons_succ, i64_w, i32_w]
                  rfl
                 refine pure_ (i := 7) (N := some 154) (v := undef) (a' := ?_) #[true, true, true, true, true, true, true, true, false, false] rfl rfl (any_of HT_.out (by kernel_rfl)) (fun _ _ _ h => h) (Or.inr ⟨by rfl, rfl⟩) ?_ ?_
                 rotate_left
                 ·simp only [Act.put, List.setIfInBounds_toArray, List.set_cons_zero, List.set_cons_succ, i64_w, i32_w]
                  rfl
                 refine pure_ (i := 8) (N := some 155) (v := ?_) (a' := ?_) #[true, true, true, true, true, true, true, true, true, false] rfl rfl (any_of HT_.out (by kernel_rfl)) (fun _ _ _ h => h) (Or.inl ⟨by rfl, ?_⟩) ?_ ?_
                 rotate_left
                 ·intro w'
                  go_simp
                  with_reducible rfl
                 rotate_left
                 ·simp only [Act.put, List.setIfInBounds_toArray, List.set_cons_zero, List.set_cons_succ, i64_w, i32_w]
                  rfl
                 refine pure_ (i := 9) (N := some 4) (v := ?_) (a' := ?_) #[true, true, true, true, true, true, true, true, true, true] rfl rfl (any_of HT_.out (by kernel_rfl)) (fun _ _ _ h => h) (Or.inl ⟨by rfl, ?_⟩) ?_ ?_
                 rotate_left
                 ·intro w'
                  go_simp
                  with_reducible rfl
                 rotate_left
                 ·simp only [Act.put, List.setIfInBounds_toArray, List.set_cons_zero, List.set_cons_succ, i64_w, i32_w]
                  rfl
                 refine done_ (done_of HT_.out (by kernel_rfl)) ?_
                 try go_wp2
                 go_ret
                 exact ⟨zE, zB⟩
               ·have c144b0 := beq_eq_false_iff_ne.mpr c144
                have c144b1 := bne_iff_ne.mpr c144
                replace H := zO H; obtain ⟨t280, A159, H⟩ := H
                by_cases c160 : t280 = true
                ·subst c160; replace H := zT H
                 replace H := zO H; obtain ⟨t281, A161, H⟩ := H
                 by_cases c162 : t281 = true
                 ·subst c162; replace H := zT H
                  replace H := zI H; obtain ⟨c163, H⟩ | ⟨c163, H⟩ := H
                  ·have c163b0 := beq_iff_eq.mpr c163
                   have c163b1 := bne_eq_false_iff_eq.mpr c163
                   clear c163
                   replace H := zO H; obtain ⟨t282, A164, H⟩ := H
                   obtain rfl := Option.some.inj H
                   obtain ⟨hcz165_0, hcz165_1, hcz165_2, hcz165_3, hfz165_0, hfz165_1, hfz165_2, hfz165_3⟩ := zC4 BK255
                   go_wp2_with (first | ((with_reducible refine gate_callee (f := 50) rfl ?_); refine zG (some 12) Try.func50 #[.int .i64 a0_0, .int .i64 9, .int .i64 21] ?_; (with_reducible refine (impl_in.calls a0_0 9 21 true _ A159.out).mono ?_); rintro e w' ⟨rfl, ⟨nd, rfl⟩⟩; refine ⟨_, rfl, ?_⟩) | (go_at_call 81; (with_reducible refine (impl_plainNode.calls a0_0 a0_1 a0_2 _ _ l0_3 true _ (zR HR0_3) HC0_3.out A161.out).mono ?_); rintro e w166 ⟨rfl, hb⟩; have n_ := z2 (zb BK255 hb) (zs hb); clear BK255 HB; obtain ⟨BK255, HB⟩ := n_; (try clear hb); obtain ⟨hcz167_0, hcz167_1, hcz167_2, hcz167_3, hfz167_0, hfz167_1, hfz167_2, hfz167_3⟩ := zC4 BK255) | (go_at_call 89; (with_reducible refine (ih89 kj117 (by have := HJ84.out; have := HJ101.out; have := HJ117.out; omega) _ _ l0_3 t282 _ (zR HR0_3) HC0_3.out A164.out).mono ?_); rintro e w168 ⟨rfl, hb⟩; have n_ := z2 (zb BK255 hb) (zs hb); clear BK255 HB; obtain ⟨BK255, HB⟩ := n_; (try clear hb)))
                   go_ret
                   exact ⟨zE, zB⟩
                  ·have c163b0 := beq_eq_false_iff_ne.mpr c163
                   have c163b1 := bne_iff_ne.mpr c163
                   obtain rfl := Option.some.inj H
                   obtain ⟨hcz169_0, hcz169_1, hcz169_2, hcz169_3, hfz169_0, hfz169_1, hfz169_2, hfz169_3⟩ := zC4 BK255
                   go_wp2_with (first | ((with_reducible refine gate_callee (f := 50) rfl ?_); refine zG (some 12) Try.func50 #[.int .i64 a0_0, .int .i64 9, .int .i64 21] ?_; (with_reducible refine (impl_in.calls a0_0 9 21 true _ A159.out).mono ?_); rintro e w' ⟨rfl, ⟨nd, rfl⟩⟩; refine ⟨_, rfl, ?_⟩) | (go_at_call 81; (with_reducible refine (impl_plainNode.calls a0_0 a0_1 a0_2 _ _ l0_3 true _ (zR HR0_3) HC0_3.out A161.out).mono ?_); rintro e w170 ⟨rfl, hb⟩; have n_ := z2 (zb BK255 hb) (zs hb); clear BK255 HB; obtain ⟨BK255, HB⟩ := n_; (try clear hb)))
                   go_ret
                   exact ⟨zE, zB⟩
                 ·replace c162 := Bool.eq_false_iff.mpr c162; subst c162; replace H := zN H
                  obtain rfl := Option.some.inj H
                  obtain ⟨hcz171_0, hcz171_1, hcz171_2, hcz171_3, hfz171_0, hfz171_1, hfz171_2, hfz171_3⟩ := zC4 BK255
                  go_wp2_with (first | ((with_reducible refine gate_callee (f := 50) rfl ?_); refine zG (some 12) Try.func50 #[.int .i64 a0_0, .int .i64 9, .int .i64 21] ?_; (with_reducible refine (impl_in.calls a0_0 9 21 true _ A159.out).mono ?_); rintro e w' ⟨rfl, ⟨nd, rfl⟩⟩; refine ⟨_, rfl, ?_⟩) | (go_at_call 81; (with_reducible refine (impl_plainNode.calls a0_0 a0_1 a0_2 _ _ l0_3 false _ (zR HR0_3) HC0_3.out A161.out).mono ?_); rintro e w172 ⟨rfl, hb⟩; have n_ := z2 (zb BK255 hb) (zs hb); clear BK255 HB; obtain ⟨BK255, HB⟩ := n_; (try clear hb)))
                  go_ret
                  exact ⟨zE, zB⟩
                ·replace c160 := Bool.eq_false_iff.mpr c160; subst c160; replace H := zN H
                 replace H := zI H; obtain ⟨c173, H⟩ | ⟨c173, H⟩ := H
                 ·have c173b0 := beq_iff_eq.mpr c173
                  have c173b1 := bne_eq_false_iff_eq.mpr c173
                  clear c173
                  replace H := zO H; obtain ⟨t283, A174, H⟩ := H
                  by_cases c175 : t283 = true
                  ·subst c175; replace H := zT H
                   replace H := zI H; obtain ⟨c176, H⟩ | ⟨c176, H⟩ := H
                   ·have c176b0 := beq_iff_eq.mpr c176
                    have c176b1 := bne_eq_false_iff_eq.mpr c176
                    clear c176
                    replace H := zO H; obtain ⟨t284, A177, H⟩ := H
                    obtain rfl := Option.some.inj H
                    obtain ⟨hcz178_0, hcz178_1, hcz178_2, hcz178_3, hfz178_0, hfz178_1, hfz178_2, hfz178_3⟩ := zC4 BK255
                    go_wp2_with (first | ((with_reducible refine gate_callee (f := 50) rfl ?_); refine zG (some 12) Try.func50 #[.int .i64 a0_0, .int .i64 9, .int .i64 21] ?_; (with_reducible refine (impl_in.calls a0_0 9 21 false _ A159.out).mono ?_); rintro e w' ⟨rfl, ⟨nd, rfl⟩⟩; refine ⟨_, rfl, ?_⟩) | (go_at_call 81; (with_reducible refine (impl_plainNode.calls a0_0 a0_1 a0_2 _ _ l0_3 true _ (zR HR0_3) HC0_3.out A174.out).mono ?_); rintro e w179 ⟨rfl, hb⟩; have n_ := z2 (zb BK255 hb) (zs hb); clear BK255 HB; obtain ⟨BK255, HB⟩ := n_; (try clear hb); obtain ⟨hcz180_0, hcz180_1, hcz180_2, hcz180_3, hfz180_0, hfz180_1, hfz180_2, hfz180_3⟩ := zC4 BK255) | (go_at_call 89; (with_reducible refine (ih89 kj117 (by have := HJ84.out; have := HJ101.out; have := HJ117.out; omega) _ _ l0_3 t284 _ (zR HR0_3) HC0_3.out A177.out).mono ?_); rintro e w181 ⟨rfl, hb⟩; have n_ := z2 (zb BK255 hb) (zs hb); clear BK255 HB; obtain ⟨BK255, HB⟩ := n_; (try clear hb)))
                    go_ret
                    exact ⟨zE, zB⟩
                   ·have c176b0 := beq_eq_false_iff_ne.mpr c176
                    have c176b1 := bne_iff_ne.mpr c176
                    obtain rfl := Option.some.inj H
                    obtain ⟨hcz182_0, hcz182_1, hcz182_2, hcz182_3, hfz182_0, hfz182_1, hfz182_2, hfz182_3⟩ := zC4 BK255
                    go_wp2_with (first | ((with_reducible refine gate_callee (f := 50) rfl ?_); refine zG (some 12) Try.func50 #[.int .i64 a0_0, .int .i64 9, .int .i64 21] ?_; (with_reducible refine (impl_in.calls a0_0 9 21 false _ A159.out).mono ?_); rintro e w' ⟨rfl, ⟨nd, rfl⟩⟩; refine ⟨_, rfl, ?_⟩) | (go_at_call 81; (with_reducible refine (impl_plainNode.calls a0_0 a0_1 a0_2 _ _ l0_3 true _ (zR HR0_3) HC0_3.out A174.out).mono ?_); rintro e w183 ⟨rfl, hb⟩; have n_ := z2 (zb BK255 hb) (zs hb); clear BK255 HB; obtain ⟨BK255, HB⟩ := n_; (try clear hb)))
                    go_ret
                    exact ⟨zE, zB⟩
                  ·replace c175 := Bool.eq_false_iff.mpr c175; subst c175; replace H := zN H
                   obtain rfl := Option.some.inj H
                   obtain ⟨hcz184_0, hcz184_1, hcz184_2, hcz184_3, hfz184_0, hfz184_1, hfz184_2, hfz184_3⟩ := zC4 BK255
                   go_wp2_with (first | ((with_reducible refine gate_callee (f := 50) rfl ?_); refine zG (some 12) Try.func50 #[.int .i64 a0_0, .int .i64 9, .int .i64 21] ?_; (with_reducible refine (impl_in.calls a0_0 9 21 false _ A159.out).mono ?_); rintro e w' ⟨rfl, ⟨nd, rfl⟩⟩; refine ⟨_, rfl, ?_⟩) | (go_at_call 81; (with_reducible refine (impl_plainNode.calls a0_0 a0_1 a0_2 _ _ l0_3 false _ (zR HR0_3) HC0_3.out A174.out).mono ?_); rintro e w185 ⟨rfl, hb⟩; have n_ := z2 (zb BK255 hb) (zs hb); clear BK255 HB; obtain ⟨BK255, HB⟩ := n_; (try clear hb)))
                   go_ret
                   exact ⟨zE, zB⟩
                 ·have c173b0 := beq_eq_false_iff_ne.mpr c173
                  have c173b1 := bne_iff_ne.mpr c173
                  replace H := zI H; obtain ⟨c186, H⟩ | ⟨c186, H⟩ := H
                  ·have c186b0 := beq_iff_eq.mpr c186
                   have c186b1 := bne_eq_false_iff_eq.mpr c186
                   clear c186
                   replace H := zO H; obtain ⟨t285, A187, H⟩ := H
                   by_cases c188 : t285 = true
                   ·subst c188; replace H := zT H
                    replace H := zI H; obtain ⟨c189, H⟩ | ⟨c189, H⟩ := H
                    ·have c189b0 := beq_iff_eq.mpr c189
                     have c189b1 := bne_eq_false_iff_eq.mpr c189
                     clear c189
                     replace H := zO H; obtain ⟨t286, A190, H⟩ := H
                     obtain rfl := Option.some.inj H
                     obtain ⟨hcz191_0, hcz191_1, hcz191_2, hcz191_3, hfz191_0, hfz191_1, hfz191_2, hfz191_3⟩ := zC4 BK255
                     go_wp2_with (first | ((with_reducible refine gate_callee (f := 50) rfl ?_); refine zG (some 12) Try.func50 #[.int .i64 a0_0, .int .i64 9, .int .i64 21] ?_; (with_reducible refine (impl_in.calls a0_0 9 21 false _ A159.out).mono ?_); rintro e w' ⟨rfl, ⟨nd, rfl⟩⟩; refine ⟨_, rfl, ?_⟩) | (go_at_call 81; (with_reducible refine (impl_plainNode.calls a0_0 a0_1 a0_2 _ _ l0_3 true _ (zR HR0_3) HC0_3.out A187.out).mono ?_); rintro e w192 ⟨rfl, hb⟩; have n_ := z2 (zb BK255 hb) (zs hb); clear BK255 HB; obtain ⟨BK255, HB⟩ := n_; (try clear hb); obtain ⟨hcz193_0, hcz193_1, hcz193_2, hcz193_3, hfz193_0, hfz193_1, hfz193_2, hfz193_3⟩ := zC4 BK255) | (go_at_call 89; (with_reducible refine (ih89 kj117 (by have := HJ84.out; have := HJ101.out; have := HJ117.out; omega) _ _ l0_3 t286 _ (zR HR0_3) HC0_3.out A190.out).mono ?_); rintro e w194 ⟨rfl, hb⟩; have n_ := z2 (zb BK255 hb) (zs hb); clear BK255 HB; obtain ⟨BK255, HB⟩ := n_; (try clear hb)))
                     go_ret
                     exact ⟨zE, zB⟩
                    ·have c189b0 := beq_eq_false_iff_ne.mpr c189
                     have c189b1 := bne_iff_ne.mpr c189
                     obtain rfl := Option.some.inj H
                     obtain ⟨hcz195_0, hcz195_1, hcz195_2, hcz195_3, hfz195_0, hfz195_1, hfz195_2, hfz195_3⟩ := zC4 BK255
                     go_wp2_with (first | ((with_reducible refine gate_callee (f := 50) rfl ?_); refine zG (some 12) Try.func50 #[.int .i64 a0_0, .int .i64 9, .int .i64 21] ?_; (with_reducible refine (impl_in.calls a0_0 9 21 false _ A159.out).mono ?_); rintro e w' ⟨rfl, ⟨nd, rfl⟩⟩; refine ⟨_, rfl, ?_⟩) | (go_at_call 81; (with_reducible refine (impl_plainNode.calls a0_0 a0_1 a0_2 _ _ l0_3 true _ (zR HR0_3) HC0_3.out A187.out).mono ?_); rintro e w196 ⟨rfl, hb⟩; have n_ := z2 (zb BK255 hb) (zs hb); clear BK255 HB; obtain ⟨BK255, HB⟩ := n_; (try clear hb)))
                     go_ret
                     exact ⟨zE, zB⟩
                   ·replace c188 := Bool.eq_false_iff.mpr c188; subst c188; replace H := zN H
                    obtain rfl := Option.some.inj H
                    obtain ⟨hcz197_0, hcz197_1, hcz197_2, hcz197_3, hfz197_0, hfz197_1, hfz197_2, hfz197_3⟩ := zC4 BK255
                    go_wp2_with (first | ((with_reducible refine gate_callee (f := 50) rfl ?_); refine zG (some 12) Try.func50 #[.int .i64 a0_0, .int .i64 9, .int .i64 21] ?_; (with_reducible refine (impl_in.calls a0_0 9 21 false _ A159.out).mono ?_); rintro e w' ⟨rfl, ⟨nd, rfl⟩⟩; refine ⟨_, rfl, ?_⟩) | (go_at_call 81; (with_reducible refine (impl_plainNode.calls a0_0 a0_1 a0_2 _ _ l0_3 false _ (zR HR0_3) HC0_3.out A187.out).mono ?_); rintro e w198 ⟨rfl, hb⟩; have n_ := z2 (zb BK255 hb) (zs hb); clear BK255 HB; obtain ⟨BK255, HB⟩ := n_; (try clear hb)))
                    go_ret
                    exact ⟨zE, zB⟩
                  ·have c186b0 := beq_eq_false_iff_ne.mpr c186
                   have c186b1 := bne_iff_ne.mpr c186
                   obtain rfl := Option.some.inj H
                   obtain ⟨hcz199_0, hcz199_1, hcz199_2, hcz199_3, hfz199_0, hfz199_1, hfz199_2, hfz199_3⟩ := zC4 BK255
                   go_wp2_with (first | ((with_reducible refine gate_callee (f := 50) rfl ?_); refine zG (some 12) Try.func50 #[.int .i64 a0_0, .int .i64 9, .int .i64 21] ?_; (with_reducible refine (impl_in.calls a0_0 9 21 false _ A159.out).mono ?_); rintro e w' ⟨rfl, ⟨nd, rfl⟩⟩; refine ⟨_, rfl, ?_⟩))
                   go_ret
                   exact ⟨zE, zB⟩

end Go.Proofs.Ythigelphmjepaaa.QFnExactTidy
