/- Written by wip/pr2, a program of this session. -/
import Derived.Test.YthigelphmjepaaaQFnExactTidyx0
import Derived.Test.YthigelphmjepaaaQFnExactTidyx3
import Derived.Test.YthigelphmjepaaaQFnExactTidyx4
import Derived.Test.YthigelphmjepaaaQFnExactTidyx5
import Derived.Test.YthigelphmjepaaaQFnExactTidyx13
import Derived.Test.YthigelphmjepaaaQFnExactTidyx14
import Derived.Test.YthigelphmjepaaaQFnExactTidyx15
import Derived.Test.YthigelphmjepaaaWFnExactTidy
namespace Go.Proofs.Ythigelphmjepaaa.QFnExactTidy
open Go.RowKit Go.Proofs.YthigelphmjepaaaW.PrintWords Go.Proofs.YthigelphmjepaaaW.PrintLast Go.Proofs.YthigelphmjepaaaW.PrintMore Go.Proofs.YthigelphmjepaaaW.Mac
attribute [local go_sem] max2_int min2_int max_two min_two max_three min_three max_four min_four   -- for this text's walks alone
set_option linter.unusedVariables false
set_option linter.unusedSimpArgs false
set_option maxHeartbeats 8000000
set_option maxRecDepth 100000

theorem impl_allEs_1.all_ (k : Nat) : (∀ (a0_0 : Int) (a0_1 : Int) (a0_2 : ByteArray) (A0_3 : Option Addr) (c0_3 : Nat) (l0_3 : List (S66)) (r : Bool) (w : World) (hr0_3 : Kd.C k66 w A0_3 l0_3.length l0_3) (hc0_3 : l0_3.length ≤ c0_3) (h : impl_allEs_1.f k a0_0 a0_1 a0_2 l0_3 = some r),
  Calls Try.prog 117 #[.agg #[.int .i64 a0_0, .int .i64 a0_1, .string a0_2, .slice A0_3 l0_3.length c0_3]] w fun e w' => e = .returned (.bool r) ∧ Below w.heap.size w w') ∧ (∀ (A0 : Option Addr) (c0 : Nat) (l0 : List (S66))  (r : Int) (w : World) (hr0 : Kd.C k66 w A0 l0.length l0) (hc0 : l0.length ≤ c0) (h : impl_Node_117_190.f k l0 = some r),
  Calls Try.prog 113 #[.slice A0 l0.length c0, .func (.func 117) #[] #[]] w fun e w' => e = .returned (.int .i64 r) ∧ Below w.heap.size w w') ∧ (∀ (A0 : Option Addr) (c0 : Nat) (l0 : List (S66))  (r : Bool) (w : World) (hr0 : Kd.C k66 w A0 l0.length l0) (hc0 : l0.length ≤ c0) (h : impl_Node_117_189.f k l0 = some r),
  Calls Try.prog 82 #[.slice A0 l0.length c0, .func (.func 117) #[] #[]] w fun e w' => e = .returned (.bool r) ∧ Below w.heap.size w w') ∧ (∀ (A0 : Option Addr) (c0 : Nat) (l0 : List (S66)) (r : Bool) (w : World) (hr0 : Kd.C k66 w A0 l0.length l0) (hc0 : l0.length ≤ c0) (h : impl_allEs.f k l0 = some r),
  Calls Try.prog 89 #[.slice A0 l0.length c0] w fun e w' => e = .returned (.bool r) ∧ Below w.heap.size w w') ∧ (∀ (a0_0 : Int) (a0_1 : Int) (a0_2 : ByteArray) (A0_3 : Option Addr) (c0_3 : Nat) (l0_3 : List (S66)) (r : Bool) (w : World) (hr0_3 : Kd.C k66 w A0_3 l0_3.length l0_3) (hc0_3 : l0_3.length ≤ c0_3) (h : impl_isE.f k a0_0 a0_1 a0_2 l0_3 = some r),
  Calls Try.prog 43 #[.agg #[.int .i64 a0_0, .int .i64 a0_1, .string a0_2, .slice A0_3 l0_3.length c0_3]] w fun e w' => e = .returned (.bool r) ∧ Below w.heap.size w w') := by
 induction k using Nat.strongRecOn with
 | _ k ih => exact ⟨impl_allEs_1.step k (fun m_ h_ => (ih m_ h_).1) (fun m_ h_ => (ih m_ h_).2.1) (fun m_ h_ => (ih m_ h_).2.2.1) (fun m_ h_ => (ih m_ h_).2.2.2.1) (fun m_ h_ => (ih m_ h_).2.2.2.2), impl_Node_117_190.step k (fun m_ h_ => (ih m_ h_).1) (fun m_ h_ => (ih m_ h_).2.1) (fun m_ h_ => (ih m_ h_).2.2.1) (fun m_ h_ => (ih m_ h_).2.2.2.1) (fun m_ h_ => (ih m_ h_).2.2.2.2), impl_Node_117_189.step k (fun m_ h_ => (ih m_ h_).1) (fun m_ h_ => (ih m_ h_).2.1) (fun m_ h_ => (ih m_ h_).2.2.1) (fun m_ h_ => (ih m_ h_).2.2.2.1) (fun m_ h_ => (ih m_ h_).2.2.2.2), impl_allEs.step k (fun m_ h_ => (ih m_ h_).1) (fun m_ h_ => (ih m_ h_).2.1) (fun m_ h_ => (ih m_ h_).2.2.1) (fun m_ h_ => (ih m_ h_).2.2.2.1) (fun m_ h_ => (ih m_ h_).2.2.2.2), impl_isE.step k (fun m_ h_ => (ih m_ h_).1) (fun m_ h_ => (ih m_ h_).2.1) (fun m_ h_ => (ih m_ h_).2.2.1) (fun m_ h_ => (ih m_ h_).2.2.2.1) (fun m_ h_ => (ih m_ h_).2.2.2.2)⟩
theorem impl_allEs_1.calls (k : Nat) : ∀ (a0_0 : Int) (a0_1 : Int) (a0_2 : ByteArray) (A0_3 : Option Addr) (c0_3 : Nat) (l0_3 : List (S66)) (r : Bool) (w : World) (hr0_3 : Kd.C k66 w A0_3 l0_3.length l0_3) (hc0_3 : l0_3.length ≤ c0_3) (h : impl_allEs_1.f k a0_0 a0_1 a0_2 l0_3 = some r),
  Calls Try.prog 117 #[.agg #[.int .i64 a0_0, .int .i64 a0_1, .string a0_2, .slice A0_3 l0_3.length c0_3]] w fun e w' => e = .returned (.bool r) ∧ Below w.heap.size w w' := (impl_allEs_1.all_ k).1
theorem impl_Node_117_190.calls (k : Nat) : ∀ (A0 : Option Addr) (c0 : Nat) (l0 : List (S66))  (r : Int) (w : World) (hr0 : Kd.C k66 w A0 l0.length l0) (hc0 : l0.length ≤ c0) (h : impl_Node_117_190.f k l0 = some r),
  Calls Try.prog 113 #[.slice A0 l0.length c0, .func (.func 117) #[] #[]] w fun e w' => e = .returned (.int .i64 r) ∧ Below w.heap.size w w' := (impl_allEs_1.all_ k).2.1
theorem impl_Node_117_189.calls (k : Nat) : ∀ (A0 : Option Addr) (c0 : Nat) (l0 : List (S66))  (r : Bool) (w : World) (hr0 : Kd.C k66 w A0 l0.length l0) (hc0 : l0.length ≤ c0) (h : impl_Node_117_189.f k l0 = some r),
  Calls Try.prog 82 #[.slice A0 l0.length c0, .func (.func 117) #[] #[]] w fun e w' => e = .returned (.bool r) ∧ Below w.heap.size w w' := (impl_allEs_1.all_ k).2.2.1
theorem impl_allEs.calls (k : Nat) : ∀ (A0 : Option Addr) (c0 : Nat) (l0 : List (S66)) (r : Bool) (w : World) (hr0 : Kd.C k66 w A0 l0.length l0) (hc0 : l0.length ≤ c0) (h : impl_allEs.f k l0 = some r),
  Calls Try.prog 89 #[.slice A0 l0.length c0] w fun e w' => e = .returned (.bool r) ∧ Below w.heap.size w w' := (impl_allEs_1.all_ k).2.2.2.1
theorem impl_isE.calls (k : Nat) : ∀ (a0_0 : Int) (a0_1 : Int) (a0_2 : ByteArray) (A0_3 : Option Addr) (c0_3 : Nat) (l0_3 : List (S66)) (r : Bool) (w : World) (hr0_3 : Kd.C k66 w A0_3 l0_3.length l0_3) (hc0_3 : l0_3.length ≤ c0_3) (h : impl_isE.f k a0_0 a0_1 a0_2 l0_3 = some r),
  Calls Try.prog 43 #[.agg #[.int .i64 a0_0, .int .i64 a0_1, .string a0_2, .slice A0_3 l0_3.length c0_3]] w fun e w' => e = .returned (.bool r) ∧ Below w.heap.size w w' := (impl_allEs_1.all_ k).2.2.2.2
/-! ### impl_isStatement: function 84 -/
/-! ### impl_isBlock_1: function 83 -/
/-! ### impl_Node_83_188: function 188 -/
/-! ### impl_Node_83_187: function 187 -/
/-! ### impl_isBlock: function 41 -/
theorem impl_isStatement.step (k : Nat) (ih84 : ∀ m_, m_ < k → ∀ (a0_0 : Int) (a0_1 : Int) (a0_2 : ByteArray) (A0_3 : Option Addr) (c0_3 : Nat) (l0_3 : List (S66)) (r : Bool) (w : World) (hr0_3 : Kd.C k66 w A0_3 l0_3.length l0_3) (hc0_3 : l0_3.length ≤ c0_3) (h : impl_isStatement.f m_ a0_0 a0_1 a0_2 l0_3 = some r),
  Calls Try.prog 84 #[.agg #[.int .i64 a0_0, .int .i64 a0_1, .string a0_2, .slice A0_3 l0_3.length c0_3]] w fun e w' => e = .returned (.bool r) ∧ Below w.heap.size w w') (ih83 : ∀ m_, m_ < k → ∀ (a0_0 : Int) (a0_1 : Int) (a0_2 : ByteArray) (A0_3 : Option Addr) (c0_3 : Nat) (l0_3 : List (S66)) (r : Bool) (w : World) (hr0_3 : Kd.C k66 w A0_3 l0_3.length l0_3) (hc0_3 : l0_3.length ≤ c0_3) (h : impl_isBlock_1.f m_ a0_0 a0_1 a0_2 l0_3 = some r),
  Calls Try.prog 83 #[.agg #[.int .i64 a0_0, .int .i64 a0_1, .string a0_2, .slice A0_3 l0_3.length c0_3]] w fun e w' => e = .returned (.bool r) ∧ Below w.heap.size w w') (ih188 : ∀ m_, m_ < k → ∀ (A0 : Option Addr) (c0 : Nat) (l0 : List (S66))  (r : Int) (w : World) (hr0 : Kd.C k66 w A0 l0.length l0) (hc0 : l0.length ≤ c0) (h : impl_Node_83_188.f m_ l0 = some r),
  Calls Try.prog 113 #[.slice A0 l0.length c0, .func (.func 83) #[] #[]] w fun e w' => e = .returned (.int .i64 r) ∧ Below w.heap.size w w') (ih187 : ∀ m_, m_ < k → ∀ (A0 : Option Addr) (c0 : Nat) (l0 : List (S66))  (r : Bool) (w : World) (hr0 : Kd.C k66 w A0 l0.length l0) (hc0 : l0.length ≤ c0) (h : impl_Node_83_187.f m_ l0 = some r),
  Calls Try.prog 82 #[.slice A0 l0.length c0, .func (.func 83) #[] #[]] w fun e w' => e = .returned (.bool r) ∧ Below w.heap.size w w') (ih41 : ∀ m_, m_ < k → ∀ (a0_0 : Int) (a0_1 : Int) (a0_2 : ByteArray) (A0_3 : Option Addr) (c0_3 : Nat) (l0_3 : List (S66)) (r : Bool) (w : World) (hr0_3 : Kd.C k66 w A0_3 l0_3.length l0_3) (hc0_3 : l0_3.length ≤ c0_3) (h : impl_isBlock.f m_ a0_0 a0_1 a0_2 l0_3 = some r),
  Calls Try.prog 41 #[.agg #[.int .i64 a0_0, .int .i64 a0_1, .string a0_2, .slice A0_3 l0_3.length c0_3]] w fun e w' => e = .returned (.bool r) ∧ Below w.heap.size w w') : ∀ (a0_0 : Int) (a0_1 : Int) (a0_2 : ByteArray) (A0_3 : Option Addr) (c0_3 : Nat) (l0_3 : List (S66)) (r : Bool) (w : World) (hr0_3 : Kd.C k66 w A0_3 l0_3.length l0_3) (hc0_3 : l0_3.length ≤ c0_3) (h : impl_isStatement.f k a0_0 a0_1 a0_2 l0_3 = some r),
  Calls Try.prog 84 #[.agg #[.int .i64 a0_0, .int .i64 a0_1, .string a0_2, .slice A0_3 l0_3.length c0_3]] w fun e w' => e = .returned (.bool r) ∧ Below w.heap.size w w' := by
 intro a0_0 a0_1 a0_2 A0_3 c0_3 l0_3 r w hr0_3 hc0_3 h
 cases k with
 | zero => exact absurd h (by simp [impl_isStatement.f])
 | succ k =>
 rw [impl_isStatement.f] at h
 have hu66 := Try.underlying66
 have HR0_3 := Aside0.mk hr0_3
 have HC0_3 := Aside0.mk hc0_3
 clear hr0_3 hc0_3
 have HB := Aside0.mk (Below.refl w.heap.size w)
 have H := h
 clear h
 replace H := zI H; obtain ⟨c2, H⟩ | ⟨c2, H⟩ := H
 ·have c2b0 := beq_iff_eq.mpr c2
  have c2b1 := bne_eq_false_iff_eq.mpr c2
  clear c2
  replace H := zO H; obtain ⟨t288, A3, H⟩ := H
  obtain rfl := Option.some.inj H
  go_enter Try.func84, Try.ntmps84
  go_wp2_with (first | ((with_reducible refine gate_dst (N := 1) rfl ?_); refine zX (N := 1) (cs := #[.int .i64 a0_0, .int .i64 a0_1, .string a0_2, .slice A0_3 l0_3.length c0_3]) (t := 66) ?_; intro gb287 hg w4 hbox hb; have n_ := z4 (zs hb) (hbox) (zl hg) (zl hg); clear HB; obtain ⟨HB, BK287, GW287, GE287⟩ := n_; clear hb hbox hg; obtain ⟨hcz5_0, hcz5_1, hcz5_2, hcz5_3, hfz5_0, hfz5_1, hfz5_2, hfz5_3⟩ := zC4 BK287) | ((with_reducible refine gate_callee (f := 41) rfl ?_); refine zG (some 12) Try.func41 #[.agg #[.int .i64 a0_0, .int .i64 a0_1, .string a0_2, .slice A0_3 l0_3.length c0_3]] ?_; (with_reducible refine (ih41 k (by omega) a0_0 a0_1 a0_2 _ _ l0_3 t288 _ (zR HR0_3) HC0_3.out A3.out).mono ?_); rintro e w6 ⟨rfl, hb⟩; refine ⟨_, rfl, ?_⟩; have n_ := z2 (zb BK287 hb) (zs hb); clear BK287 HB; obtain ⟨BK287, HB⟩ := n_; (try clear hb)))
  go_ret
  exact ⟨zE, zB⟩
 ·have c2b0 := beq_eq_false_iff_ne.mpr c2
  have c2b1 := bne_iff_ne.mpr c2
  replace H := zI H; obtain ⟨c7, H⟩ | ⟨c7, H⟩ := H
  ·have c7b0 := beq_iff_eq.mpr c7
   have c7b1 := bne_eq_false_iff_eq.mpr c7
   clear c7
   replace H := zO H; obtain ⟨t289, A8, H⟩ := H
   by_cases c9 : t289 = true
   ·subst c9; replace H := zT H
    replace H := zO H; obtain ⟨t290, A10, H⟩ := H
    obtain rfl := Option.some.inj H
    go_enter Try.func84, Try.ntmps84
    go_wp2_with (first | ((with_reducible refine gate_dst (N := 1) rfl ?_); refine zX (N := 1) (cs := #[.int .i64 a0_0, .int .i64 a0_1, .string a0_2, .slice A0_3 l0_3.length c0_3]) (t := 66) ?_; intro gb287 hg w11 hbox hb; have n_ := z4 (zs hb) (hbox) (zl hg) (zl hg); clear HB; obtain ⟨HB, BK287, GW287, GE287⟩ := n_; clear hb hbox hg; obtain ⟨hcz12_0, hcz12_1, hcz12_2, hcz12_3, hfz12_0, hfz12_1, hfz12_2, hfz12_3⟩ := zC4 BK287) | ((with_reducible refine gate_callee (f := 81) rfl ?_); refine zG (some 16) Try.func81 #[.agg #[.int .i64 a0_0, .int .i64 a0_1, .string a0_2, .slice A0_3 l0_3.length c0_3]] ?_; (with_reducible refine (impl_plainNode.calls a0_0 a0_1 a0_2 _ _ l0_3 true _ (zR HR0_3) HC0_3.out A8.out).mono ?_); rintro e w13 ⟨rfl, hb⟩; refine ⟨_, rfl, ?_⟩; have n_ := z2 (zb BK287 hb) (zs hb); clear BK287 HB; obtain ⟨BK287, HB⟩ := n_; (try clear hb); obtain ⟨hcz14_0, hcz14_1, hcz14_2, hcz14_3, hfz14_0, hfz14_1, hfz14_2, hfz14_3⟩ := zC4 BK287) | (go_at_call 89; (with_reducible refine (impl_allEs.calls k _ _ l0_3 t290 _ (zR HR0_3) HC0_3.out A10.out).mono ?_); rintro e w15 ⟨rfl, hb⟩; have n_ := z2 (zb BK287 hb) (zs hb); clear BK287 HB; obtain ⟨BK287, HB⟩ := n_; (try clear hb)))
    go_ret
    exact ⟨zE, zB⟩
   ·replace c9 := Bool.eq_false_iff.mpr c9; subst c9; replace H := zN H
    obtain rfl := Option.some.inj H
    go_enter Try.func84, Try.ntmps84
    go_wp2_with (first | ((with_reducible refine gate_dst (N := 1) rfl ?_); refine zX (N := 1) (cs := #[.int .i64 a0_0, .int .i64 a0_1, .string a0_2, .slice A0_3 l0_3.length c0_3]) (t := 66) ?_; intro gb287 hg w16 hbox hb; have n_ := z4 (zs hb) (hbox) (zl hg) (zl hg); clear HB; obtain ⟨HB, BK287, GW287, GE287⟩ := n_; clear hb hbox hg; obtain ⟨hcz17_0, hcz17_1, hcz17_2, hcz17_3, hfz17_0, hfz17_1, hfz17_2, hfz17_3⟩ := zC4 BK287) | ((with_reducible refine gate_callee (f := 81) rfl ?_); refine zG (some 16) Try.func81 #[.agg #[.int .i64 a0_0, .int .i64 a0_1, .string a0_2, .slice A0_3 l0_3.length c0_3]] ?_; (with_reducible refine (impl_plainNode.calls a0_0 a0_1 a0_2 _ _ l0_3 false _ (zR HR0_3) HC0_3.out A8.out).mono ?_); rintro e w18 ⟨rfl, hb⟩; refine ⟨_, rfl, ?_⟩; have n_ := z2 (zb BK287 hb) (zs hb); clear BK287 HB; obtain ⟨BK287, HB⟩ := n_; (try clear hb)))
    go_ret
    exact ⟨zE, zB⟩
  ·have c7b0 := beq_eq_false_iff_ne.mpr c7
   have c7b1 := bne_iff_ne.mpr c7
   replace H := zI H; obtain ⟨c19, H⟩ | ⟨c19, H⟩ := H
   ·have c19b0 := beq_iff_eq.mpr c19
    have c19b1 := bne_eq_false_iff_eq.mpr c19
    clear c19
    replace H := zO H; obtain ⟨t291, A20, H⟩ := H
    by_cases c21 : t291 = true
    ·subst c21; replace H := zT H
     replace H := zO H; obtain ⟨t292, A22, H⟩ := H
     by_cases c23 : t292 = true
     ·subst c23; replace H := zT H
      replace H := zI H; obtain ⟨c24, H⟩ | ⟨c24, H⟩ := H
      ·have c24b0 := decide_eq_true c24
       have c24b1 : decide (0 < l0_3.length) = true := decide_eq_true (by omega)
       clear c24
       replace H := zO H; obtain ⟨t294, A25, H⟩ := H
       by_cases c26 : t294 = true
       ·subst c26; replace H := zT H
        replace H := zI H; obtain ⟨c27, H⟩ | ⟨c27, H⟩ := H
        ·have c27b0 := decide_eq_true c27
         have c27b1 : decide (1 < l0_3.length) = true := decide_eq_true (by omega)
         clear c27
         replace H := zO H; obtain ⟨t296, A28, H⟩ := H
         by_cases c29 : t296 = true
         ·subst c29; replace H := zT H
          obtain ⟨ji30, hji30⟩ : ∃ j_ : Int, (wrap64 ((l0_3.length : Int) - 1)) = j_ := ⟨_, rfl⟩
          replace H : (if 0 ≤ (ji30) then (if (ji30) < (l0_3.length : Int) then ((impl_isBlock.f k ((rd_T66 l0_3 (ji30)).f0) ((rd_T66 l0_3 (ji30)).f1) ((rd_T66 l0_3 (ji30)).f2) ((rd_T66 l0_3 (ji30)).f3)).bind fun t298 => (some t298)) else (none)) else (none)) = some r := by first | (rw [hji30] at H; exact H) | (simp only [hji30] at H ⊢; exact H)
          (try rw [hji30] at A20)
          (try rw [hji30] at A22)
          (try rw [hji30] at A25)
          (try rw [hji30] at A28)
          have hji30w : (IntKind.i64.wrap ((l0_3.length : Int) - 1)) = ji30 := (i64_w _).trans hji30
          replace H := zI H; obtain ⟨c31, H⟩ | ⟨c31, H⟩ := H
          ·have c31b0 := decide_eq_true c31
           clear c31
           replace H := zI H; obtain ⟨c32, H⟩ | ⟨c32, H⟩ := H
           ·have c32b0 := decide_eq_true c32
            clear c32
            replace H := zO H; obtain ⟨t298, A33, H⟩ := H
            obtain rfl := Option.some.inj H
            go_enter Try.func84, Try.ntmps84
            go_wp2_with (first | ((with_reducible refine gate_dst (N := 1) rfl ?_); refine zX (N := 1) (cs := #[.int .i64 a0_0, .int .i64 a0_1, .string a0_2, .slice A0_3 l0_3.length c0_3]) (t := 66) ?_; intro gb287 hg w34 hbox hb; have n_ := z4 (zs hb) (hbox) (zl hg) (zl hg); clear HB; obtain ⟨HB, BK287, GW287, GE287⟩ := n_; clear hb hbox hg; obtain ⟨hcz35_0, hcz35_1, hcz35_2, hcz35_3, hfz35_0, hfz35_1, hfz35_2, hfz35_3⟩ := zC4 BK287) | ((with_reducible refine gate_callee (f := 81) rfl ?_); refine zG (some 25) Try.func81 #[.agg #[.int .i64 a0_0, .int .i64 a0_1, .string a0_2, .slice A0_3 l0_3.length c0_3]] ?_; (with_reducible refine (impl_plainNode.calls a0_0 a0_1 a0_2 _ _ l0_3 true _ (zR HR0_3) HC0_3.out A20.out).mono ?_); rintro e w36 ⟨rfl, hb⟩; refine ⟨_, rfl, ?_⟩; have n_ := z2 (zb BK287 hb) (zs hb); clear BK287 HB; obtain ⟨BK287, HB⟩ := n_; (try clear hb)) | (go_at_call 50; (with_reducible refine (impl_in.calls (l0_3.length : Int) 2 3 true _ A22.out).mono ?_); rintro e w' ⟨rfl, ⟨nd, rfl⟩⟩; obtain ⟨hcz37_0, hcz37_1, hcz37_2, hcz37_3, hfz37_0, hfz37_1, hfz37_2, hfz37_3⟩ := zC4 BK287; have p293 : 0 ≤ (0 : Int) := (by omega); have q293 : 0 < (l0_3.length : Int) := zW; obtain ⟨ad293, A293_3, c293_3, e293, hx293_0, hx293_1, hx293_2, hx293_3, hl293_3, hi293_3⟩ := at_T66 HR0_3.out 0 p293 q293; cases e293; have qi293 : (0 < l0_3.length) = True := eq_true (by omega); (try rw [show ((0 : Int)).toNat = 0 from rfl] at hx293_0 hx293_1 hx293_2 hx293_3); (try rw [show 0 * 4 = 0 from rfl] at hx293_0 hx293_1 hx293_2 hx293_3); (try rw [Addr.add_zero'] at hx293_0 hx293_1 hx293_2 hx293_3); replace hx293_0 := zc HB hx293_0; replace hx293_1 := zc HB hx293_1; replace hx293_2 := zc HB hx293_2; replace hx293_3 := zc HB hx293_3; have HR293_3 := Aside0.mk hi293_3; have HC293_3 := Aside0.mk hl293_3; clear hi293_3 hl293_3; replace p293 := eq_true p293; replace q293 := eq_true q293) | (go_at_call 43; (with_reducible refine (impl_isE.calls k ((rd_T66 l0_3 0).f0) ((rd_T66 l0_3 0).f1) ((rd_T66 l0_3 0).f2) _ _ ((rd_T66 l0_3 0).f3) true _ (zR HR293_3) HC293_3.out A25.out).mono ?_); rintro e w38 ⟨rfl, hb⟩; have n_ := z2 (zb BK287 hb) (zs hb); clear BK287 HB; obtain ⟨BK287, HB⟩ := n_; (try clear hb); obtain ⟨hcz39_0, hcz39_1, hcz39_2, hcz39_3, hfz39_0, hfz39_1, hfz39_2, hfz39_3⟩ := zC4 BK287; have p295 : 0 ≤ (1 : Int) := (by omega); have q295 : 1 < (l0_3.length : Int) := zW; obtain ⟨ad295, A295_3, c295_3, e295, hx295_0, hx295_1, hx295_2, hx295_3, hl295_3, hi295_3⟩ := at_T66 HR0_3.out 1 p295 q295; obtain rfl : ad293 = ad295 := (by injection e295); (try simp only [show (1 : Int).toNat = 1 from rfl, Nat.reduceMul, Nat.reduceEqDiff, Go.Addr.add, ↓reduceIte] at hx295_0 hx295_1 hx295_2 hx295_3); have qi295 : (1 < l0_3.length) = True := eq_true (by omega); (try rw [show ((1 : Int)).toNat = 1 from rfl] at hx295_0 hx295_1 hx295_2 hx295_3); (try rw [show 1 * 4 = 4 from rfl] at hx295_0 hx295_1 hx295_2 hx295_3); replace hx295_0 := zc HB hx295_0; replace hx295_1 := zc HB hx295_1; replace hx295_2 := zc HB hx295_2; replace hx295_3 := zc HB hx295_3; have HR295_3 := Aside0.mk hi295_3; have HC295_3 := Aside0.mk hl295_3; clear hi295_3 hl295_3; replace p295 := eq_true p295; replace q295 := eq_true q295) | (go_at_call 41; (with_reducible refine (ih41 k (by omega) ((rd_T66 l0_3 1).f0) ((rd_T66 l0_3 1).f1) ((rd_T66 l0_3 1).f2) _ _ ((rd_T66 l0_3 1).f3) true _ (zR HR295_3) HC295_3.out A28.out).mono ?_); rintro e w40 ⟨rfl, hb⟩; have n_ := z2 (zb BK287 hb) (zs hb); clear BK287 HB; obtain ⟨BK287, HB⟩ := n_; (try clear hb); obtain ⟨hcz41_0, hcz41_1, hcz41_2, hcz41_3, hfz41_0, hfz41_1, hfz41_2, hfz41_3⟩ := zC4 BK287; have p297 : 0 ≤ ((ji30) : Int) := zW; have q297 : (ji30) < (l0_3.length : Int) := zW; obtain ⟨ad297, A297_3, c297_3, e297, hx297_0, hx297_1, hx297_2, hx297_3, hl297_3, hi297_3⟩ := at_T66 HR0_3.out (ji30) p297 q297; obtain rfl : ad293 = ad297 := (by injection e297); replace hx297_0 := zc HB hx297_0; replace hx297_1 := zc HB hx297_1; replace hx297_2 := zc HB hx297_2; replace hx297_3 := zc HB hx297_3; have HR297_3 := Aside0.mk hi297_3; have HC297_3 := Aside0.mk hl297_3; clear hi297_3 hl297_3; replace p297 := eq_true p297; replace q297 := eq_true q297) | (go_at_call 41; (with_reducible refine (ih41 k (by omega) ((rd_T66 l0_3 (ji30)).f0) ((rd_T66 l0_3 (ji30)).f1) ((rd_T66 l0_3 (ji30)).f2) _ _ ((rd_T66 l0_3 (ji30)).f3) t298 _ (zR HR297_3) HC297_3.out A33.out).mono ?_); rintro e w42 ⟨rfl, hb⟩; have n_ := z2 (zb BK287 hb) (zs hb); clear BK287 HB; obtain ⟨BK287, HB⟩ := n_; (try clear hb)))
            go_ret
            exact ⟨by first | rfl | (simp [errW_none, errW_some] <;> rfl) | (simp only [← hji30]; first | rfl | (simp [errW_none, errW_some] <;> rfl)) | (simp [*, errW_none, errW_some] <;> rfl) | (simp [bne, errW_none, errW_some]; done) | (simp [*, bne, errW_none, errW_some]; done), zB⟩
           ·exact absurd H (by simp)
          ·exact absurd H (by simp)
         ·replace c29 := Bool.eq_false_iff.mpr c29; subst c29; replace H := zN H
          obtain rfl := Option.some.inj H
          go_enter Try.func84, Try.ntmps84
          go_wp2_with (first | ((with_reducible refine gate_dst (N := 1) rfl ?_); refine zX (N := 1) (cs := #[.int .i64 a0_0, .int .i64 a0_1, .string a0_2, .slice A0_3 l0_3.length c0_3]) (t := 66) ?_; intro gb287 hg w43 hbox hb; have n_ := z4 (zs hb) (hbox) (zl hg) (zl hg); clear HB; obtain ⟨HB, BK287, GW287, GE287⟩ := n_; clear hb hbox hg; obtain ⟨hcz44_0, hcz44_1, hcz44_2, hcz44_3, hfz44_0, hfz44_1, hfz44_2, hfz44_3⟩ := zC4 BK287) | ((with_reducible refine gate_callee (f := 81) rfl ?_); refine zG (some 25) Try.func81 #[.agg #[.int .i64 a0_0, .int .i64 a0_1, .string a0_2, .slice A0_3 l0_3.length c0_3]] ?_; (with_reducible refine (impl_plainNode.calls a0_0 a0_1 a0_2 _ _ l0_3 true _ (zR HR0_3) HC0_3.out A20.out).mono ?_); rintro e w45 ⟨rfl, hb⟩; refine ⟨_, rfl, ?_⟩; have n_ := z2 (zb BK287 hb) (zs hb); clear BK287 HB; obtain ⟨BK287, HB⟩ := n_; (try clear hb)) | (go_at_call 50; (with_reducible refine (impl_in.calls (l0_3.length : Int) 2 3 true _ A22.out).mono ?_); rintro e w' ⟨rfl, ⟨nd, rfl⟩⟩; obtain ⟨hcz46_0, hcz46_1, hcz46_2, hcz46_3, hfz46_0, hfz46_1, hfz46_2, hfz46_3⟩ := zC4 BK287; have p293 : 0 ≤ (0 : Int) := (by omega); have q293 : 0 < (l0_3.length : Int) := zW; obtain ⟨ad293, A293_3, c293_3, e293, hx293_0, hx293_1, hx293_2, hx293_3, hl293_3, hi293_3⟩ := at_T66 HR0_3.out 0 p293 q293; cases e293; have qi293 : (0 < l0_3.length) = True := eq_true (by omega); (try rw [show ((0 : Int)).toNat = 0 from rfl] at hx293_0 hx293_1 hx293_2 hx293_3); (try rw [show 0 * 4 = 0 from rfl] at hx293_0 hx293_1 hx293_2 hx293_3); (try rw [Addr.add_zero'] at hx293_0 hx293_1 hx293_2 hx293_3); replace hx293_0 := zc HB hx293_0; replace hx293_1 := zc HB hx293_1; replace hx293_2 := zc HB hx293_2; replace hx293_3 := zc HB hx293_3; have HR293_3 := Aside0.mk hi293_3; have HC293_3 := Aside0.mk hl293_3; clear hi293_3 hl293_3; replace p293 := eq_true p293; replace q293 := eq_true q293) | (go_at_call 43; (with_reducible refine (impl_isE.calls k ((rd_T66 l0_3 0).f0) ((rd_T66 l0_3 0).f1) ((rd_T66 l0_3 0).f2) _ _ ((rd_T66 l0_3 0).f3) true _ (zR HR293_3) HC293_3.out A25.out).mono ?_); rintro e w47 ⟨rfl, hb⟩; have n_ := z2 (zb BK287 hb) (zs hb); clear BK287 HB; obtain ⟨BK287, HB⟩ := n_; (try clear hb); obtain ⟨hcz48_0, hcz48_1, hcz48_2, hcz48_3, hfz48_0, hfz48_1, hfz48_2, hfz48_3⟩ := zC4 BK287; have p295 : 0 ≤ (1 : Int) := (by omega); have q295 : 1 < (l0_3.length : Int) := zW; obtain ⟨ad295, A295_3, c295_3, e295, hx295_0, hx295_1, hx295_2, hx295_3, hl295_3, hi295_3⟩ := at_T66 HR0_3.out 1 p295 q295; obtain rfl : ad293 = ad295 := (by injection e295); (try simp only [show (1 : Int).toNat = 1 from rfl, Nat.reduceMul, Nat.reduceEqDiff, Go.Addr.add, ↓reduceIte] at hx295_0 hx295_1 hx295_2 hx295_3); have qi295 : (1 < l0_3.length) = True := eq_true (by omega); (try rw [show ((1 : Int)).toNat = 1 from rfl] at hx295_0 hx295_1 hx295_2 hx295_3); (try rw [show 1 * 4 = 4 from rfl] at hx295_0 hx295_1 hx295_2 hx295_3); replace hx295_0 := zc HB hx295_0; replace hx295_1 := zc HB hx295_1; replace hx295_2 := zc HB hx295_2; replace hx295_3 := zc HB hx295_3; have HR295_3 := Aside0.mk hi295_3; have HC295_3 := Aside0.mk hl295_3; clear hi295_3 hl295_3; replace p295 := eq_true p295; replace q295 := eq_true q295) | (go_at_call 41; (with_reducible refine (ih41 k (by omega) ((rd_T66 l0_3 1).f0) ((rd_T66 l0_3 1).f1) ((rd_T66 l0_3 1).f2) _ _ ((rd_T66 l0_3 1).f3) false _ (zR HR295_3) HC295_3.out A28.out).mono ?_); rintro e w49 ⟨rfl, hb⟩; have n_ := z2 (zb BK287 hb) (zs hb); clear BK287 HB; obtain ⟨BK287, HB⟩ := n_; (try clear hb)))
          go_ret
          exact ⟨zE, zB⟩
        ·exact absurd H (by simp)
       ·replace c26 := Bool.eq_false_iff.mpr c26; subst c26; replace H := zN H
        obtain rfl := Option.some.inj H
        go_enter Try.func84, Try.ntmps84
        go_wp2_with (first | ((with_reducible refine gate_dst (N := 1) rfl ?_); refine zX (N := 1) (cs := #[.int .i64 a0_0, .int .i64 a0_1, .string a0_2, .slice A0_3 l0_3.length c0_3]) (t := 66) ?_; intro gb287 hg w50 hbox hb; have n_ := z4 (zs hb) (hbox) (zl hg) (zl hg); clear HB; obtain ⟨HB, BK287, GW287, GE287⟩ := n_; clear hb hbox hg; obtain ⟨hcz51_0, hcz51_1, hcz51_2, hcz51_3, hfz51_0, hfz51_1, hfz51_2, hfz51_3⟩ := zC4 BK287) | ((with_reducible refine gate_callee (f := 81) rfl ?_); refine zG (some 25) Try.func81 #[.agg #[.int .i64 a0_0, .int .i64 a0_1, .string a0_2, .slice A0_3 l0_3.length c0_3]] ?_; (with_reducible refine (impl_plainNode.calls a0_0 a0_1 a0_2 _ _ l0_3 true _ (zR HR0_3) HC0_3.out A20.out).mono ?_); rintro e w52 ⟨rfl, hb⟩; refine ⟨_, rfl, ?_⟩; have n_ := z2 (zb BK287 hb) (zs hb); clear BK287 HB; obtain ⟨BK287, HB⟩ := n_; (try clear hb)) | (go_at_call 50; (with_reducible refine (impl_in.calls (l0_3.length : Int) 2 3 true _ A22.out).mono ?_); rintro e w' ⟨rfl, ⟨nd, rfl⟩⟩; obtain ⟨hcz53_0, hcz53_1, hcz53_2, hcz53_3, hfz53_0, hfz53_1, hfz53_2, hfz53_3⟩ := zC4 BK287; have p293 : 0 ≤ (0 : Int) := (by omega); have q293 : 0 < (l0_3.length : Int) := zW; obtain ⟨ad293, A293_3, c293_3, e293, hx293_0, hx293_1, hx293_2, hx293_3, hl293_3, hi293_3⟩ := at_T66 HR0_3.out 0 p293 q293; cases e293; have qi293 : (0 < l0_3.length) = True := eq_true (by omega); (try rw [show ((0 : Int)).toNat = 0 from rfl] at hx293_0 hx293_1 hx293_2 hx293_3); (try rw [show 0 * 4 = 0 from rfl] at hx293_0 hx293_1 hx293_2 hx293_3); (try rw [Addr.add_zero'] at hx293_0 hx293_1 hx293_2 hx293_3); replace hx293_0 := zc HB hx293_0; replace hx293_1 := zc HB hx293_1; replace hx293_2 := zc HB hx293_2; replace hx293_3 := zc HB hx293_3; have HR293_3 := Aside0.mk hi293_3; have HC293_3 := Aside0.mk hl293_3; clear hi293_3 hl293_3; replace p293 := eq_true p293; replace q293 := eq_true q293) | (go_at_call 43; (with_reducible refine (impl_isE.calls k ((rd_T66 l0_3 0).f0) ((rd_T66 l0_3 0).f1) ((rd_T66 l0_3 0).f2) _ _ ((rd_T66 l0_3 0).f3) false _ (zR HR293_3) HC293_3.out A25.out).mono ?_); rintro e w54 ⟨rfl, hb⟩; have n_ := z2 (zb BK287 hb) (zs hb); clear BK287 HB; obtain ⟨BK287, HB⟩ := n_; (try clear hb)))
        go_ret
        exact ⟨zE, zB⟩
      ·exact absurd H (by simp)
     ·replace c23 := Bool.eq_false_iff.mpr c23; subst c23; replace H := zN H
      obtain rfl := Option.some.inj H
      go_enter Try.func84, Try.ntmps84
      go_wp2_with (first | ((with_reducible refine gate_dst (N := 1) rfl ?_); refine zX (N := 1) (cs := #[.int .i64 a0_0, .int .i64 a0_1, .string a0_2, .slice A0_3 l0_3.length c0_3]) (t := 66) ?_; intro gb287 hg w55 hbox hb; have n_ := z4 (zs hb) (hbox) (zl hg) (zl hg); clear HB; obtain ⟨HB, BK287, GW287, GE287⟩ := n_; clear hb hbox hg; obtain ⟨hcz56_0, hcz56_1, hcz56_2, hcz56_3, hfz56_0, hfz56_1, hfz56_2, hfz56_3⟩ := zC4 BK287) | ((with_reducible refine gate_callee (f := 81) rfl ?_); refine zG (some 25) Try.func81 #[.agg #[.int .i64 a0_0, .int .i64 a0_1, .string a0_2, .slice A0_3 l0_3.length c0_3]] ?_; (with_reducible refine (impl_plainNode.calls a0_0 a0_1 a0_2 _ _ l0_3 true _ (zR HR0_3) HC0_3.out A20.out).mono ?_); rintro e w57 ⟨rfl, hb⟩; refine ⟨_, rfl, ?_⟩; have n_ := z2 (zb BK287 hb) (zs hb); clear BK287 HB; obtain ⟨BK287, HB⟩ := n_; (try clear hb)) | (go_at_call 50; (with_reducible refine (impl_in.calls (l0_3.length : Int) 2 3 false _ A22.out).mono ?_); rintro e w' ⟨rfl, ⟨nd, rfl⟩⟩))
      go_ret
      exact ⟨zE, zB⟩
    ·replace c21 := Bool.eq_false_iff.mpr c21; subst c21; replace H := zN H
     obtain rfl := Option.some.inj H
     go_enter Try.func84, Try.ntmps84
     go_wp2_with (first | ((with_reducible refine gate_dst (N := 1) rfl ?_); refine zX (N := 1) (cs := #[.int .i64 a0_0, .int .i64 a0_1, .string a0_2, .slice A0_3 l0_3.length c0_3]) (t := 66) ?_; intro gb287 hg w58 hbox hb; have n_ := z4 (zs hb) (hbox) (zl hg) (zl hg); clear HB; obtain ⟨HB, BK287, GW287, GE287⟩ := n_; clear hb hbox hg; obtain ⟨hcz59_0, hcz59_1, hcz59_2, hcz59_3, hfz59_0, hfz59_1, hfz59_2, hfz59_3⟩ := zC4 BK287) | ((with_reducible refine gate_callee (f := 81) rfl ?_); refine zG (some 25) Try.func81 #[.agg #[.int .i64 a0_0, .int .i64 a0_1, .string a0_2, .slice A0_3 l0_3.length c0_3]] ?_; (with_reducible refine (impl_plainNode.calls a0_0 a0_1 a0_2 _ _ l0_3 false _ (zR HR0_3) HC0_3.out A20.out).mono ?_); rintro e w60 ⟨rfl, hb⟩; refine ⟨_, rfl, ?_⟩; have n_ := z2 (zb BK287 hb) (zs hb); clear BK287 HB; obtain ⟨BK287, HB⟩ := n_; (try clear hb)))
     go_ret
     exact ⟨zE, zB⟩
   ·have c19b0 := beq_eq_false_iff_ne.mpr c19
    have c19b1 := bne_iff_ne.mpr c19
    replace H := zI H; obtain ⟨c61, H⟩ | ⟨c61, H⟩ := H
    ·have c61b0 := beq_iff_eq.mpr c61
     have c61b1 := bne_eq_false_iff_eq.mpr c61
     clear c61
     replace H := zO H; obtain ⟨t299, A62, H⟩ := H
     by_cases c63 : t299 = true
     ·subst c63; replace H := zT H
      replace H := zI H; obtain ⟨c64, H⟩ | ⟨c64, H⟩ := H
      ·have c64b0 := beq_iff_eq.mpr c64
       have c64b1 := bne_eq_false_iff_eq.mpr c64
       clear c64
       replace H := zI H; obtain ⟨c65, H⟩ | ⟨c65, H⟩ := H
       ·have c65b0 := decide_eq_true c65
        have c65b1 : decide (0 < l0_3.length) = true := decide_eq_true (by omega)
        clear c65
        replace H := zO H; obtain ⟨t301, A66, H⟩ := H
        by_cases c67 : t301 = true
        ·subst c67; replace H := zT H
         replace H := zI H; obtain ⟨c68, H⟩ | ⟨c68, H⟩ := H
         ·have c68b0 := decide_eq_true c68
          have c68b1 : decide (1 < l0_3.length) = true := decide_eq_true (by omega)
          clear c68
          replace H := zO H; obtain ⟨t303, A69, H⟩ := H
          obtain rfl := Option.some.inj H
          go_enter Try.func84, Try.ntmps84
          go_wp2_with (first | ((with_reducible refine gate_dst (N := 1) rfl ?_); refine zX (N := 1) (cs := #[.int .i64 a0_0, .int .i64 a0_1, .string a0_2, .slice A0_3 l0_3.length c0_3]) (t := 66) ?_; intro gb287 hg w70 hbox hb; have n_ := z4 (zs hb) (hbox) (zl hg) (zl hg); clear HB; obtain ⟨HB, BK287, GW287, GE287⟩ := n_; clear hb hbox hg; obtain ⟨hcz71_0, hcz71_1, hcz71_2, hcz71_3, hfz71_0, hfz71_1, hfz71_2, hfz71_3⟩ := zC4 BK287) | ((with_reducible refine gate_callee (f := 81) rfl ?_); refine zG (some 56) Try.func81 #[.agg #[.int .i64 a0_0, .int .i64 a0_1, .string a0_2, .slice A0_3 l0_3.length c0_3]] ?_; (with_reducible refine (impl_plainNode.calls a0_0 a0_1 a0_2 _ _ l0_3 true _ (zR HR0_3) HC0_3.out A62.out).mono ?_); rintro e w72 ⟨rfl, hb⟩; refine ⟨_, rfl, ?_⟩; have n_ := z2 (zb BK287 hb) (zs hb); clear BK287 HB; obtain ⟨BK287, HB⟩ := n_; (try clear hb); obtain ⟨hcz73_0, hcz73_1, hcz73_2, hcz73_3, hfz73_0, hfz73_1, hfz73_2, hfz73_3⟩ := zC4 BK287; have p300 : 0 ≤ (0 : Int) := (by omega); have q300 : 0 < (l0_3.length : Int) := zW; obtain ⟨ad300, A300_3, c300_3, e300, hx300_0, hx300_1, hx300_2, hx300_3, hl300_3, hi300_3⟩ := at_T66 HR0_3.out 0 p300 q300; cases e300; have qi300 : (0 < l0_3.length) = True := eq_true (by omega); (try rw [show ((0 : Int)).toNat = 0 from rfl] at hx300_0 hx300_1 hx300_2 hx300_3); (try rw [show 0 * 4 = 0 from rfl] at hx300_0 hx300_1 hx300_2 hx300_3); (try rw [Addr.add_zero'] at hx300_0 hx300_1 hx300_2 hx300_3); replace hx300_0 := zc HB hx300_0; replace hx300_1 := zc HB hx300_1; replace hx300_2 := zc HB hx300_2; replace hx300_3 := zc HB hx300_3; have HR300_3 := Aside0.mk hi300_3; have HC300_3 := Aside0.mk hl300_3; clear hi300_3 hl300_3; replace p300 := eq_true p300; replace q300 := eq_true q300) | (go_at_call 43; (with_reducible refine (impl_isE.calls k ((rd_T66 l0_3 0).f0) ((rd_T66 l0_3 0).f1) ((rd_T66 l0_3 0).f2) _ _ ((rd_T66 l0_3 0).f3) true _ (zR HR300_3) HC300_3.out A66.out).mono ?_); rintro e w74 ⟨rfl, hb⟩; have n_ := z2 (zb BK287 hb) (zs hb); clear BK287 HB; obtain ⟨BK287, HB⟩ := n_; (try clear hb); obtain ⟨hcz75_0, hcz75_1, hcz75_2, hcz75_3, hfz75_0, hfz75_1, hfz75_2, hfz75_3⟩ := zC4 BK287; have p302 : 0 ≤ (1 : Int) := (by omega); have q302 : 1 < (l0_3.length : Int) := zW; obtain ⟨ad302, A302_3, c302_3, e302, hx302_0, hx302_1, hx302_2, hx302_3, hl302_3, hi302_3⟩ := at_T66 HR0_3.out 1 p302 q302; obtain rfl : ad300 = ad302 := (by injection e302); (try simp only [show (1 : Int).toNat = 1 from rfl, Nat.reduceMul, Nat.reduceEqDiff, Go.Addr.add, ↓reduceIte] at hx302_0 hx302_1 hx302_2 hx302_3); have qi302 : (1 < l0_3.length) = True := eq_true (by omega); (try rw [show ((1 : Int)).toNat = 1 from rfl] at hx302_0 hx302_1 hx302_2 hx302_3); (try rw [show 1 * 4 = 4 from rfl] at hx302_0 hx302_1 hx302_2 hx302_3); replace hx302_0 := zc HB hx302_0; replace hx302_1 := zc HB hx302_1; replace hx302_2 := zc HB hx302_2; replace hx302_3 := zc HB hx302_3; have HR302_3 := Aside0.mk hi302_3; have HC302_3 := Aside0.mk hl302_3; clear hi302_3 hl302_3; replace p302 := eq_true p302; replace q302 := eq_true q302) | (go_at_call 41; (with_reducible refine (ih41 k (by omega) ((rd_T66 l0_3 1).f0) ((rd_T66 l0_3 1).f1) ((rd_T66 l0_3 1).f2) _ _ ((rd_T66 l0_3 1).f3) t303 _ (zR HR302_3) HC302_3.out A69.out).mono ?_); rintro e w76 ⟨rfl, hb⟩; have n_ := z2 (zb BK287 hb) (zs hb); clear BK287 HB; obtain ⟨BK287, HB⟩ := n_; (try clear hb)))
          go_ret
          exact ⟨zE, zB⟩
         ·exact absurd H (by simp)
        ·replace c67 := Bool.eq_false_iff.mpr c67; subst c67; replace H := zN H
         obtain rfl := Option.some.inj H
         go_enter Try.func84, Try.ntmps84
         go_wp2_with (first | ((with_reducible refine gate_dst (N := 1) rfl ?_); refine zX (N := 1) (cs := #[.int .i64 a0_0, .int .i64 a0_1, .string a0_2, .slice A0_3 l0_3.length c0_3]) (t := 66) ?_; intro gb287 hg w77 hbox hb; have n_ := z4 (zs hb) (hbox) (zl hg) (zl hg); clear HB; obtain ⟨HB, BK287, GW287, GE287⟩ := n_; clear hb hbox hg; obtain ⟨hcz78_0, hcz78_1, hcz78_2, hcz78_3, hfz78_0, hfz78_1, hfz78_2, hfz78_3⟩ := zC4 BK287) | ((with_reducible refine gate_callee (f := 81) rfl ?_); refine zG (some 56) Try.func81 #[.agg #[.int .i64 a0_0, .int .i64 a0_1, .string a0_2, .slice A0_3 l0_3.length c0_3]] ?_; (with_reducible refine (impl_plainNode.calls a0_0 a0_1 a0_2 _ _ l0_3 true _ (zR HR0_3) HC0_3.out A62.out).mono ?_); rintro e w79 ⟨rfl, hb⟩; refine ⟨_, rfl, ?_⟩; have n_ := z2 (zb BK287 hb) (zs hb); clear BK287 HB; obtain ⟨BK287, HB⟩ := n_; (try clear hb); obtain ⟨hcz80_0, hcz80_1, hcz80_2, hcz80_3, hfz80_0, hfz80_1, hfz80_2, hfz80_3⟩ := zC4 BK287; have p300 : 0 ≤ (0 : Int) := (by omega); have q300 : 0 < (l0_3.length : Int) := zW; obtain ⟨ad300, A300_3, c300_3, e300, hx300_0, hx300_1, hx300_2, hx300_3, hl300_3, hi300_3⟩ := at_T66 HR0_3.out 0 p300 q300; cases e300; have qi300 : (0 < l0_3.length) = True := eq_true (by omega); (try rw [show ((0 : Int)).toNat = 0 from rfl] at hx300_0 hx300_1 hx300_2 hx300_3); (try rw [show 0 * 4 = 0 from rfl] at hx300_0 hx300_1 hx300_2 hx300_3); (try rw [Addr.add_zero'] at hx300_0 hx300_1 hx300_2 hx300_3); replace hx300_0 := zc HB hx300_0; replace hx300_1 := zc HB hx300_1; replace hx300_2 := zc HB hx300_2; replace hx300_3 := zc HB hx300_3; have HR300_3 := Aside0.mk hi300_3; have HC300_3 := Aside0.mk hl300_3; clear hi300_3 hl300_3; replace p300 := eq_true p300; replace q300 := eq_true q300) | (go_at_call 43; (with_reducible refine (impl_isE.calls k ((rd_T66 l0_3 0).f0) ((rd_T66 l0_3 0).f1) ((rd_T66 l0_3 0).f2) _ _ ((rd_T66 l0_3 0).f3) false _ (zR HR300_3) HC300_3.out A66.out).mono ?_); rintro e w81 ⟨rfl, hb⟩; have n_ := z2 (zb BK287 hb) (zs hb); clear BK287 HB; obtain ⟨BK287, HB⟩ := n_; (try clear hb)))
         go_ret
         exact ⟨zE, zB⟩
       ·exact absurd H (by simp)
      ·have c64b0 := beq_eq_false_iff_ne.mpr c64
       have c64b1 := bne_iff_ne.mpr c64
       obtain rfl := Option.some.inj H
       go_enter Try.func84, Try.ntmps84
       go_wp2_with (first | ((with_reducible refine gate_dst (N := 1) rfl ?_); refine zX (N := 1) (cs := #[.int .i64 a0_0, .int .i64 a0_1, .string a0_2, .slice A0_3 l0_3.length c0_3]) (t := 66) ?_; intro gb287 hg w82 hbox hb; have n_ := z4 (zs hb) (hbox) (zl hg) (zl hg); clear HB; obtain ⟨HB, BK287, GW287, GE287⟩ := n_; clear hb hbox hg; obtain ⟨hcz83_0, hcz83_1, hcz83_2, hcz83_3, hfz83_0, hfz83_1, hfz83_2, hfz83_3⟩ := zC4 BK287) | ((with_reducible refine gate_callee (f := 81) rfl ?_); refine zG (some 56) Try.func81 #[.agg #[.int .i64 a0_0, .int .i64 a0_1, .string a0_2, .slice A0_3 l0_3.length c0_3]] ?_; (with_reducible refine (impl_plainNode.calls a0_0 a0_1 a0_2 _ _ l0_3 true _ (zR HR0_3) HC0_3.out A62.out).mono ?_); rintro e w84 ⟨rfl, hb⟩; refine ⟨_, rfl, ?_⟩; have n_ := z2 (zb BK287 hb) (zs hb); clear BK287 HB; obtain ⟨BK287, HB⟩ := n_; (try clear hb)))
       go_ret
       exact ⟨zE, zB⟩
     ·replace c63 := Bool.eq_false_iff.mpr c63; subst c63; replace H := zN H
      obtain rfl := Option.some.inj H
      go_enter Try.func84, Try.ntmps84
      go_wp2_with (first | ((with_reducible refine gate_dst (N := 1) rfl ?_); refine zX (N := 1) (cs := #[.int .i64 a0_0, .int .i64 a0_1, .string a0_2, .slice A0_3 l0_3.length c0_3]) (t := 66) ?_; intro gb287 hg w85 hbox hb; have n_ := z4 (zs hb) (hbox) (zl hg) (zl hg); clear HB; obtain ⟨HB, BK287, GW287, GE287⟩ := n_; clear hb hbox hg; obtain ⟨hcz86_0, hcz86_1, hcz86_2, hcz86_3, hfz86_0, hfz86_1, hfz86_2, hfz86_3⟩ := zC4 BK287) | ((with_reducible refine gate_callee (f := 81) rfl ?_); refine zG (some 56) Try.func81 #[.agg #[.int .i64 a0_0, .int .i64 a0_1, .string a0_2, .slice A0_3 l0_3.length c0_3]] ?_; (with_reducible refine (impl_plainNode.calls a0_0 a0_1 a0_2 _ _ l0_3 false _ (zR HR0_3) HC0_3.out A62.out).mono ?_); rintro e w87 ⟨rfl, hb⟩; refine ⟨_, rfl, ?_⟩; have n_ := z2 (zb BK287 hb) (zs hb); clear BK287 HB; obtain ⟨BK287, HB⟩ := n_; (try clear hb)))
      go_ret
      exact ⟨zE, zB⟩
    ·have c61b0 := beq_eq_false_iff_ne.mpr c61
     have c61b1 := bne_iff_ne.mpr c61
     replace H := zI H; obtain ⟨c88, H⟩ | ⟨c88, H⟩ := H
     ·have c88b0 := beq_iff_eq.mpr c88
      have c88b1 := bne_eq_false_iff_eq.mpr c88
      clear c88
      replace H := zO H; obtain ⟨t304, A89, H⟩ := H
      by_cases c90 : t304 = true
      ·subst c90; replace H := zT H
       obtain rfl := Option.some.inj H
       go_enter Try.func84, Try.ntmps84
       go_wp2_with (first | ((with_reducible refine gate_dst (N := 1) rfl ?_); refine zX (N := 1) (cs := #[.int .i64 a0_0, .int .i64 a0_1, .string a0_2, .slice A0_3 l0_3.length c0_3]) (t := 66) ?_; intro gb287 hg w91 hbox hb; have n_ := z4 (zs hb) (hbox) (zl hg) (zl hg); clear HB; obtain ⟨HB, BK287, GW287, GE287⟩ := n_; clear hb hbox hg; obtain ⟨hcz92_0, hcz92_1, hcz92_2, hcz92_3, hfz92_0, hfz92_1, hfz92_2, hfz92_3⟩ := zC4 BK287) | ((with_reducible refine gate_callee (f := 81) rfl ?_); refine zG (some 78) Try.func81 #[.agg #[.int .i64 a0_0, .int .i64 a0_1, .string a0_2, .slice A0_3 l0_3.length c0_3]] ?_; (with_reducible refine (impl_plainNode.calls a0_0 a0_1 a0_2 _ _ l0_3 true _ (zR HR0_3) HC0_3.out A89.out).mono ?_); rintro e w93 ⟨rfl, hb⟩; refine ⟨_, rfl, ?_⟩; have n_ := z2 (zb BK287 hb) (zs hb); clear BK287 HB; obtain ⟨BK287, HB⟩ := n_; (try clear hb)))
       go_ret
       exact ⟨zE, zB⟩
      ·replace c90 := Bool.eq_false_iff.mpr c90; subst c90; replace H := zN H
       obtain rfl := Option.some.inj H
       go_enter Try.func84, Try.ntmps84
       go_wp2_with (first | ((with_reducible refine gate_dst (N := 1) rfl ?_); refine zX (N := 1) (cs := #[.int .i64 a0_0, .int .i64 a0_1, .string a0_2, .slice A0_3 l0_3.length c0_3]) (t := 66) ?_; intro gb287 hg w94 hbox hb; have n_ := z4 (zs hb) (hbox) (zl hg) (zl hg); clear HB; obtain ⟨HB, BK287, GW287, GE287⟩ := n_; clear hb hbox hg; obtain ⟨hcz95_0, hcz95_1, hcz95_2, hcz95_3, hfz95_0, hfz95_1, hfz95_2, hfz95_3⟩ := zC4 BK287) | ((with_reducible refine gate_callee (f := 81) rfl ?_); refine zG (some 78) Try.func81 #[.agg #[.int .i64 a0_0, .int .i64 a0_1, .string a0_2, .slice A0_3 l0_3.length c0_3]] ?_; (with_reducible refine (impl_plainNode.calls a0_0 a0_1 a0_2 _ _ l0_3 false _ (zR HR0_3) HC0_3.out A89.out).mono ?_); rintro e w96 ⟨rfl, hb⟩; refine ⟨_, rfl, ?_⟩; have n_ := z2 (zb BK287 hb) (zs hb); clear BK287 HB; obtain ⟨BK287, HB⟩ := n_; (try clear hb)))
       go_ret
       exact ⟨zE, zB⟩
     ·have c88b0 := beq_eq_false_iff_ne.mpr c88
      have c88b1 := bne_iff_ne.mpr c88
      replace H := zI H; obtain ⟨c97, H⟩ | ⟨c97, H⟩ := H
      ·have c97b0 := beq_iff_eq.mpr c97
       have c97b1 := bne_eq_false_iff_eq.mpr c97
       clear c97
       replace H := zI H; obtain ⟨c98, H⟩ | ⟨c98, H⟩ := H
       ·have c98b0 := beq_iff_eq.mpr c98
        have c98b1 := bne_eq_false_iff_eq.mpr c98
        clear c98
        replace H := zO H; obtain ⟨t305, A99, H⟩ := H
        by_cases c100 : t305 = true
        ·subst c100; replace H := zT H
         replace H := zI H; obtain ⟨c101, H⟩ | ⟨c101, H⟩ := H
         ·have c101b0 := beq_iff_eq.mpr c101
          have c101b1 := bne_eq_false_iff_eq.mpr c101
          clear c101
          replace H := zI H; obtain ⟨c102, H⟩ | ⟨c102, H⟩ := H
          ·have c102b0 := decide_eq_true c102
           have c102b1 : decide (0 < l0_3.length) = true := decide_eq_true (by omega)
           clear c102
           replace H := zO H; obtain ⟨t307, A103, H⟩ := H
           obtain rfl := Option.some.inj H
           go_enter Try.func84, Try.ntmps84
           go_wp2_with (first | ((with_reducible refine gate_dst (N := 1) rfl ?_); refine zX (N := 1) (cs := #[.int .i64 a0_0, .int .i64 a0_1, .string a0_2, .slice A0_3 l0_3.length c0_3]) (t := 66) ?_; intro gb287 hg w104 hbox hb; have n_ := z4 (zs hb) (hbox) (zl hg) (zl hg); clear HB; obtain ⟨HB, BK287, GW287, GE287⟩ := n_; clear hb hbox hg; obtain ⟨hcz105_0, hcz105_1, hcz105_2, hcz105_3, hfz105_0, hfz105_1, hfz105_2, hfz105_3⟩ := zC4 BK287) | (go_at_call 87; (with_reducible refine (impl_isName.calls k a0_2 true _ A99.out).mono ?_); rintro e w106 ⟨rfl, hb⟩; have n_ := z2 (zb BK287 hb) (zs hb); clear BK287 HB; obtain ⟨BK287, HB⟩ := n_; (try clear hb); obtain ⟨hcz107_0, hcz107_1, hcz107_2, hcz107_3, hfz107_0, hfz107_1, hfz107_2, hfz107_3⟩ := zC4 BK287; have p306 : 0 ≤ (0 : Int) := (by omega); have q306 : 0 < (l0_3.length : Int) := zW; obtain ⟨ad306, A306_3, c306_3, e306, hx306_0, hx306_1, hx306_2, hx306_3, hl306_3, hi306_3⟩ := at_T66 HR0_3.out 0 p306 q306; cases e306; have qi306 : (0 < l0_3.length) = True := eq_true (by omega); (try rw [show ((0 : Int)).toNat = 0 from rfl] at hx306_0 hx306_1 hx306_2 hx306_3); (try rw [show 0 * 4 = 0 from rfl] at hx306_0 hx306_1 hx306_2 hx306_3); (try rw [Addr.add_zero'] at hx306_0 hx306_1 hx306_2 hx306_3); replace hx306_0 := zc HB hx306_0; replace hx306_1 := zc HB hx306_1; replace hx306_2 := zc HB hx306_2; replace hx306_3 := zc HB hx306_3; have HR306_3 := Aside0.mk hi306_3; have HC306_3 := Aside0.mk hl306_3; clear hi306_3 hl306_3; replace p306 := eq_true p306; replace q306 := eq_true q306) | (go_at_call 43; (with_reducible refine (impl_isE.calls k ((rd_T66 l0_3 0).f0) ((rd_T66 l0_3 0).f1) ((rd_T66 l0_3 0).f2) _ _ ((rd_T66 l0_3 0).f3) t307 _ (zR HR306_3) HC306_3.out A103.out).mono ?_); rintro e w108 ⟨rfl, hb⟩; have n_ := z2 (zb BK287 hb) (zs hb); clear BK287 HB; obtain ⟨BK287, HB⟩ := n_; (try clear hb)))
           go_ret
           exact ⟨zE, zB⟩
          ·exact absurd H (by simp)
         ·have c101b0 := beq_eq_false_iff_ne.mpr c101
          have c101b1 := bne_iff_ne.mpr c101
          obtain rfl := Option.some.inj H
          go_enter Try.func84, Try.ntmps84
          go_wp2_with (first | ((with_reducible refine gate_dst (N := 1) rfl ?_); refine zX (N := 1) (cs := #[.int .i64 a0_0, .int .i64 a0_1, .string a0_2, .slice A0_3 l0_3.length c0_3]) (t := 66) ?_; intro gb287 hg w109 hbox hb; have n_ := z4 (zs hb) (hbox) (zl hg) (zl hg); clear HB; obtain ⟨HB, BK287, GW287, GE287⟩ := n_; clear hb hbox hg; obtain ⟨hcz110_0, hcz110_1, hcz110_2, hcz110_3, hfz110_0, hfz110_1, hfz110_2, hfz110_3⟩ := zC4 BK287) | (go_at_call 87; (with_reducible refine (impl_isName.calls k a0_2 true _ A99.out).mono ?_); rintro e w111 ⟨rfl, hb⟩; have n_ := z2 (zb BK287 hb) (zs hb); clear BK287 HB; obtain ⟨BK287, HB⟩ := n_; (try clear hb)))
          go_ret
          exact ⟨zE, zB⟩
        ·replace c100 := Bool.eq_false_iff.mpr c100; subst c100; replace H := zN H
         obtain rfl := Option.some.inj H
         go_enter Try.func84, Try.ntmps84
         go_wp2_with (first | ((with_reducible refine gate_dst (N := 1) rfl ?_); refine zX (N := 1) (cs := #[.int .i64 a0_0, .int .i64 a0_1, .string a0_2, .slice A0_3 l0_3.length c0_3]) (t := 66) ?_; intro gb287 hg w112 hbox hb; have n_ := z4 (zs hb) (hbox) (zl hg) (zl hg); clear HB; obtain ⟨HB, BK287, GW287, GE287⟩ := n_; clear hb hbox hg; obtain ⟨hcz113_0, hcz113_1, hcz113_2, hcz113_3, hfz113_0, hfz113_1, hfz113_2, hfz113_3⟩ := zC4 BK287) | (go_at_call 87; (with_reducible refine (impl_isName.calls k a0_2 false _ A99.out).mono ?_); rintro e w114 ⟨rfl, hb⟩; have n_ := z2 (zb BK287 hb) (zs hb); clear BK287 HB; obtain ⟨BK287, HB⟩ := n_; (try clear hb)))
         go_ret
         exact ⟨zE, zB⟩
       ·have c98b0 := beq_eq_false_iff_ne.mpr c98
        have c98b1 := bne_iff_ne.mpr c98
        obtain rfl := Option.some.inj H
        go_enter Try.func84, Try.ntmps84
        go_wp2_with (first | ((with_reducible refine gate_dst (N := 1) rfl ?_); refine zX (N := 1) (cs := #[.int .i64 a0_0, .int .i64 a0_1, .string a0_2, .slice A0_3 l0_3.length c0_3]) (t := 66) ?_; intro gb287 hg w115 hbox hb; have n_ := z4 (zs hb) (hbox) (zl hg) (zl hg); clear HB; obtain ⟨HB, BK287, GW287, GE287⟩ := n_; clear hb hbox hg; obtain ⟨hcz116_0, hcz116_1, hcz116_2, hcz116_3, hfz116_0, hfz116_1, hfz116_2, hfz116_3⟩ := zC4 BK287))
        go_ret
        exact ⟨zE, zB⟩
      ·have c97b0 := beq_eq_false_iff_ne.mpr c97
       have c97b1 := bne_iff_ne.mpr c97
       replace H := zI H; obtain ⟨c117, H⟩ | ⟨c117, H⟩ := H
       ·have c117b0 := beq_iff_eq.mpr c117
        have c117b1 := bne_eq_false_iff_eq.mpr c117
        clear c117
        replace H := zO H; obtain ⟨t308, A118, H⟩ := H
        by_cases c119 : t308 = true
        ·subst c119; replace H := zT H
         replace H := zI H; obtain ⟨c120, H⟩ | ⟨c120, H⟩ := H
         ·have c120b0 := beq_iff_eq.mpr c120
          have c120b1 := bne_eq_false_iff_eq.mpr c120
          clear c120
          replace H := zI H; obtain ⟨c121, H⟩ | ⟨c121, H⟩ := H
          ·have c121b0 := decide_eq_true c121
           have c121b1 : decide (0 < l0_3.length) = true := decide_eq_true (by omega)
           clear c121
           replace H := zO H; obtain ⟨t310, A122, H⟩ := H
           obtain rfl := Option.some.inj H
           go_enter Try.func84, Try.ntmps84
           go_wp2_with (first | ((with_reducible refine gate_dst (N := 1) rfl ?_); refine zX (N := 1) (cs := #[.int .i64 a0_0, .int .i64 a0_1, .string a0_2, .slice A0_3 l0_3.length c0_3]) (t := 66) ?_; intro gb287 hg w123 hbox hb; have n_ := z4 (zs hb) (hbox) (zl hg) (zl hg); clear HB; obtain ⟨HB, BK287, GW287, GE287⟩ := n_; clear hb hbox hg; obtain ⟨hcz124_0, hcz124_1, hcz124_2, hcz124_3, hfz124_0, hfz124_1, hfz124_2, hfz124_3⟩ := zC4 BK287) | ((with_reducible refine gate_callee (f := 81) rfl ?_); refine zG (some 107) Try.func81 #[.agg #[.int .i64 a0_0, .int .i64 a0_1, .string a0_2, .slice A0_3 l0_3.length c0_3]] ?_; (with_reducible refine (impl_plainNode.calls a0_0 a0_1 a0_2 _ _ l0_3 true _ (zR HR0_3) HC0_3.out A118.out).mono ?_); rintro e w125 ⟨rfl, hb⟩; refine ⟨_, rfl, ?_⟩; have n_ := z2 (zb BK287 hb) (zs hb); clear BK287 HB; obtain ⟨BK287, HB⟩ := n_; (try clear hb); obtain ⟨hcz126_0, hcz126_1, hcz126_2, hcz126_3, hfz126_0, hfz126_1, hfz126_2, hfz126_3⟩ := zC4 BK287; have p309 : 0 ≤ (0 : Int) := (by omega); have q309 : 0 < (l0_3.length : Int) := zW; obtain ⟨ad309, A309_3, c309_3, e309, hx309_0, hx309_1, hx309_2, hx309_3, hl309_3, hi309_3⟩ := at_T66 HR0_3.out 0 p309 q309; cases e309; have qi309 : (0 < l0_3.length) = True := eq_true (by omega); (try rw [show ((0 : Int)).toNat = 0 from rfl] at hx309_0 hx309_1 hx309_2 hx309_3); (try rw [show 0 * 4 = 0 from rfl] at hx309_0 hx309_1 hx309_2 hx309_3); (try rw [Addr.add_zero'] at hx309_0 hx309_1 hx309_2 hx309_3); replace hx309_0 := zc HB hx309_0; replace hx309_1 := zc HB hx309_1; replace hx309_2 := zc HB hx309_2; replace hx309_3 := zc HB hx309_3; have HR309_3 := Aside0.mk hi309_3; have HC309_3 := Aside0.mk hl309_3; clear hi309_3 hl309_3; replace p309 := eq_true p309; replace q309 := eq_true q309) | (go_at_call 43; (with_reducible refine (impl_isE.calls k ((rd_T66 l0_3 0).f0) ((rd_T66 l0_3 0).f1) ((rd_T66 l0_3 0).f2) _ _ ((rd_T66 l0_3 0).f3) t310 _ (zR HR309_3) HC309_3.out A122.out).mono ?_); rintro e w127 ⟨rfl, hb⟩; have n_ := z2 (zb BK287 hb) (zs hb); clear BK287 HB; obtain ⟨BK287, HB⟩ := n_; (try clear hb)))
           go_ret
           exact ⟨zE, zB⟩
          ·exact absurd H (by simp)
         ·have c120b0 := beq_eq_false_iff_ne.mpr c120
          have c120b1 := bne_iff_ne.mpr c120
          obtain rfl := Option.some.inj H
          go_enter Try.func84, Try.ntmps84
          go_wp2_with (first | ((with_reducible refine gate_dst (N := 1) rfl ?_); refine zX (N := 1) (cs := #[.int .i64 a0_0, .int .i64 a0_1, .string a0_2, .slice A0_3 l0_3.length c0_3]) (t := 66) ?_; intro gb287 hg w128 hbox hb; have n_ := z4 (zs hb) (hbox) (zl hg) (zl hg); clear HB; obtain ⟨HB, BK287, GW287, GE287⟩ := n_; clear hb hbox hg; obtain ⟨hcz129_0, hcz129_1, hcz129_2, hcz129_3, hfz129_0, hfz129_1, hfz129_2, hfz129_3⟩ := zC4 BK287) | ((with_reducible refine gate_callee (f := 81) rfl ?_); refine zG (some 107) Try.func81 #[.agg #[.int .i64 a0_0, .int .i64 a0_1, .string a0_2, .slice A0_3 l0_3.length c0_3]] ?_; (with_reducible refine (impl_plainNode.calls a0_0 a0_1 a0_2 _ _ l0_3 true _ (zR HR0_3) HC0_3.out A118.out).mono ?_); rintro e w130 ⟨rfl, hb⟩; refine ⟨_, rfl, ?_⟩; have n_ := z2 (zb BK287 hb) (zs hb); clear BK287 HB; obtain ⟨BK287, HB⟩ := n_; (try clear hb)))
          go_ret
          exact ⟨zE, zB⟩
        ·replace c119 := Bool.eq_false_iff.mpr c119; subst c119; replace H := zN H
         obtain rfl := Option.some.inj H
         go_enter Try.func84, Try.ntmps84
         go_wp2_with (first | ((with_reducible refine gate_dst (N := 1) rfl ?_); refine zX (N := 1) (cs := #[.int .i64 a0_0, .int .i64 a0_1, .string a0_2, .slice A0_3 l0_3.length c0_3]) (t := 66) ?_; intro gb287 hg w131 hbox hb; have n_ := z4 (zs hb) (hbox) (zl hg) (zl hg); clear HB; obtain ⟨HB, BK287, GW287, GE287⟩ := n_; clear hb hbox hg; obtain ⟨hcz132_0, hcz132_1, hcz132_2, hcz132_3, hfz132_0, hfz132_1, hfz132_2, hfz132_3⟩ := zC4 BK287) | ((with_reducible refine gate_callee (f := 81) rfl ?_); refine zG (some 107) Try.func81 #[.agg #[.int .i64 a0_0, .int .i64 a0_1, .string a0_2, .slice A0_3 l0_3.length c0_3]] ?_; (with_reducible refine (impl_plainNode.calls a0_0 a0_1 a0_2 _ _ l0_3 false _ (zR HR0_3) HC0_3.out A118.out).mono ?_); rintro e w133 ⟨rfl, hb⟩; refine ⟨_, rfl, ?_⟩; have n_ := z2 (zb BK287 hb) (zs hb); clear BK287 HB; obtain ⟨BK287, HB⟩ := n_; (try clear hb)))
         go_ret
         exact ⟨zE, zB⟩
       ·have c117b0 := beq_eq_false_iff_ne.mpr c117
        have c117b1 := bne_iff_ne.mpr c117
        obtain rfl := Option.some.inj H
        go_enter Try.func84, Try.ntmps84
        go_wp2_with (first | ((with_reducible refine gate_dst (N := 1) rfl ?_); refine zX (N := 1) (cs := #[.int .i64 a0_0, .int .i64 a0_1, .string a0_2, .slice A0_3 l0_3.length c0_3]) (t := 66) ?_; intro gb287 hg w134 hbox hb; have n_ := z4 (zs hb) (hbox) (zl hg) (zl hg); clear HB; obtain ⟨HB, BK287, GW287, GE287⟩ := n_; clear hb hbox hg; obtain ⟨hcz135_0, hcz135_1, hcz135_2, hcz135_3, hfz135_0, hfz135_1, hfz135_2, hfz135_3⟩ := zC4 BK287))
        go_ret
        exact ⟨zE, zB⟩

theorem impl_isBlock_1.step (k : Nat) (ih84 : ∀ m_, m_ < k → ∀ (a0_0 : Int) (a0_1 : Int) (a0_2 : ByteArray) (A0_3 : Option Addr) (c0_3 : Nat) (l0_3 : List (S66)) (r : Bool) (w : World) (hr0_3 : Kd.C k66 w A0_3 l0_3.length l0_3) (hc0_3 : l0_3.length ≤ c0_3) (h : impl_isStatement.f m_ a0_0 a0_1 a0_2 l0_3 = some r),
  Calls Try.prog 84 #[.agg #[.int .i64 a0_0, .int .i64 a0_1, .string a0_2, .slice A0_3 l0_3.length c0_3]] w fun e w' => e = .returned (.bool r) ∧ Below w.heap.size w w') (ih83 : ∀ m_, m_ < k → ∀ (a0_0 : Int) (a0_1 : Int) (a0_2 : ByteArray) (A0_3 : Option Addr) (c0_3 : Nat) (l0_3 : List (S66)) (r : Bool) (w : World) (hr0_3 : Kd.C k66 w A0_3 l0_3.length l0_3) (hc0_3 : l0_3.length ≤ c0_3) (h : impl_isBlock_1.f m_ a0_0 a0_1 a0_2 l0_3 = some r),
  Calls Try.prog 83 #[.agg #[.int .i64 a0_0, .int .i64 a0_1, .string a0_2, .slice A0_3 l0_3.length c0_3]] w fun e w' => e = .returned (.bool r) ∧ Below w.heap.size w w') (ih188 : ∀ m_, m_ < k → ∀ (A0 : Option Addr) (c0 : Nat) (l0 : List (S66))  (r : Int) (w : World) (hr0 : Kd.C k66 w A0 l0.length l0) (hc0 : l0.length ≤ c0) (h : impl_Node_83_188.f m_ l0 = some r),
  Calls Try.prog 113 #[.slice A0 l0.length c0, .func (.func 83) #[] #[]] w fun e w' => e = .returned (.int .i64 r) ∧ Below w.heap.size w w') (ih187 : ∀ m_, m_ < k → ∀ (A0 : Option Addr) (c0 : Nat) (l0 : List (S66))  (r : Bool) (w : World) (hr0 : Kd.C k66 w A0 l0.length l0) (hc0 : l0.length ≤ c0) (h : impl_Node_83_187.f m_ l0 = some r),
  Calls Try.prog 82 #[.slice A0 l0.length c0, .func (.func 83) #[] #[]] w fun e w' => e = .returned (.bool r) ∧ Below w.heap.size w w') (ih41 : ∀ m_, m_ < k → ∀ (a0_0 : Int) (a0_1 : Int) (a0_2 : ByteArray) (A0_3 : Option Addr) (c0_3 : Nat) (l0_3 : List (S66)) (r : Bool) (w : World) (hr0_3 : Kd.C k66 w A0_3 l0_3.length l0_3) (hc0_3 : l0_3.length ≤ c0_3) (h : impl_isBlock.f m_ a0_0 a0_1 a0_2 l0_3 = some r),
  Calls Try.prog 41 #[.agg #[.int .i64 a0_0, .int .i64 a0_1, .string a0_2, .slice A0_3 l0_3.length c0_3]] w fun e w' => e = .returned (.bool r) ∧ Below w.heap.size w w') : ∀ (a0_0 : Int) (a0_1 : Int) (a0_2 : ByteArray) (A0_3 : Option Addr) (c0_3 : Nat) (l0_3 : List (S66)) (r : Bool) (w : World) (hr0_3 : Kd.C k66 w A0_3 l0_3.length l0_3) (hc0_3 : l0_3.length ≤ c0_3) (h : impl_isBlock_1.f k a0_0 a0_1 a0_2 l0_3 = some r),
  Calls Try.prog 83 #[.agg #[.int .i64 a0_0, .int .i64 a0_1, .string a0_2, .slice A0_3 l0_3.length c0_3]] w fun e w' => e = .returned (.bool r) ∧ Below w.heap.size w w' := by
 intro a0_0 a0_1 a0_2 A0_3 c0_3 l0_3 r w hr0_3 hc0_3 h
 cases k with
 | zero => exact absurd h (by simp [impl_isBlock_1.f])
 | succ k =>
 rw [impl_isBlock_1.f] at h
 have hu66 := Try.underlying66
 have HR0_3 := Aside0.mk hr0_3
 have HC0_3 := Aside0.mk hc0_3
 clear hr0_3 hc0_3
 have HB := Aside0.mk (Below.refl w.heap.size w)
 have H := h
 clear h
 replace H := zO H; obtain ⟨t312, A2, H⟩ := H
 obtain rfl := Option.some.inj H
 go_enter Try.func83, Try.ntmps83
 go_wp2_with (first | ((with_reducible refine gate_dst (N := 1) rfl ?_); refine zX (N := 1) (cs := #[.int .i64 a0_0, .int .i64 a0_1, .string a0_2, .slice A0_3 l0_3.length c0_3]) (t := 66) ?_; intro gb311 hg w3 hbox hb; have n_ := z4 (zs hb) (hbox) (zl hg) (zl hg); clear HB; obtain ⟨HB, BK311, GW311, GE311⟩ := n_; clear hb hbox hg; obtain ⟨hcz4_0, hcz4_1, hcz4_2, hcz4_3, hfz4_0, hfz4_1, hfz4_2, hfz4_3⟩ := zC4 BK311) | ((with_reducible refine gate_callee (f := 84) rfl ?_); refine zG (some 4) Try.func84 #[.agg #[.int .i64 a0_0, .int .i64 a0_1, .string a0_2, .slice A0_3 l0_3.length c0_3]] ?_; (with_reducible refine (ih84 k (by omega) a0_0 a0_1 a0_2 _ _ l0_3 t312 _ (zR HR0_3) HC0_3.out A2.out).mono ?_); rintro e w5 ⟨rfl, hb⟩; refine ⟨_, rfl, ?_⟩; have n_ := z2 (zb BK311 hb) (zs hb); clear BK311 HB; obtain ⟨BK311, HB⟩ := n_; (try clear hb)))
 go_ret
 exact ⟨zE, zB⟩

theorem impl_Node_83_188.step (k : Nat) (ih84 : ∀ m_, m_ < k → ∀ (a0_0 : Int) (a0_1 : Int) (a0_2 : ByteArray) (A0_3 : Option Addr) (c0_3 : Nat) (l0_3 : List (S66)) (r : Bool) (w : World) (hr0_3 : Kd.C k66 w A0_3 l0_3.length l0_3) (hc0_3 : l0_3.length ≤ c0_3) (h : impl_isStatement.f m_ a0_0 a0_1 a0_2 l0_3 = some r),
  Calls Try.prog 84 #[.agg #[.int .i64 a0_0, .int .i64 a0_1, .string a0_2, .slice A0_3 l0_3.length c0_3]] w fun e w' => e = .returned (.bool r) ∧ Below w.heap.size w w') (ih83 : ∀ m_, m_ < k → ∀ (a0_0 : Int) (a0_1 : Int) (a0_2 : ByteArray) (A0_3 : Option Addr) (c0_3 : Nat) (l0_3 : List (S66)) (r : Bool) (w : World) (hr0_3 : Kd.C k66 w A0_3 l0_3.length l0_3) (hc0_3 : l0_3.length ≤ c0_3) (h : impl_isBlock_1.f m_ a0_0 a0_1 a0_2 l0_3 = some r),
  Calls Try.prog 83 #[.agg #[.int .i64 a0_0, .int .i64 a0_1, .string a0_2, .slice A0_3 l0_3.length c0_3]] w fun e w' => e = .returned (.bool r) ∧ Below w.heap.size w w') (ih188 : ∀ m_, m_ < k → ∀ (A0 : Option Addr) (c0 : Nat) (l0 : List (S66))  (r : Int) (w : World) (hr0 : Kd.C k66 w A0 l0.length l0) (hc0 : l0.length ≤ c0) (h : impl_Node_83_188.f m_ l0 = some r),
  Calls Try.prog 113 #[.slice A0 l0.length c0, .func (.func 83) #[] #[]] w fun e w' => e = .returned (.int .i64 r) ∧ Below w.heap.size w w') (ih187 : ∀ m_, m_ < k → ∀ (A0 : Option Addr) (c0 : Nat) (l0 : List (S66))  (r : Bool) (w : World) (hr0 : Kd.C k66 w A0 l0.length l0) (hc0 : l0.length ≤ c0) (h : impl_Node_83_187.f m_ l0 = some r),
  Calls Try.prog 82 #[.slice A0 l0.length c0, .func (.func 83) #[] #[]] w fun e w' => e = .returned (.bool r) ∧ Below w.heap.size w w') (ih41 : ∀ m_, m_ < k → ∀ (a0_0 : Int) (a0_1 : Int) (a0_2 : ByteArray) (A0_3 : Option Addr) (c0_3 : Nat) (l0_3 : List (S66)) (r : Bool) (w : World) (hr0_3 : Kd.C k66 w A0_3 l0_3.length l0_3) (hc0_3 : l0_3.length ≤ c0_3) (h : impl_isBlock.f m_ a0_0 a0_1 a0_2 l0_3 = some r),
  Calls Try.prog 41 #[.agg #[.int .i64 a0_0, .int .i64 a0_1, .string a0_2, .slice A0_3 l0_3.length c0_3]] w fun e w' => e = .returned (.bool r) ∧ Below w.heap.size w w') : ∀ (A0 : Option Addr) (c0 : Nat) (l0 : List (S66))  (r : Int) (w : World) (hr0 : Kd.C k66 w A0 l0.length l0) (hc0 : l0.length ≤ c0) (h : impl_Node_83_188.f k l0 = some r),
  Calls Try.prog 113 #[.slice A0 l0.length c0, .func (.func 83) #[] #[]] w fun e w' => e = .returned (.int .i64 r) ∧ Below w.heap.size w w' := by
 intro A0 c0 l0 r w hr0 hc0 h
 cases k with
 | zero => exact absurd h (by simp [impl_Node_83_188.f])
 | succ k =>
 rw [impl_Node_83_188.f] at h
 have hu66 := Try.underlying66
 have HR0 := Aside0.mk hr0
 have HC0 := Aside0.mk hc0
 clear hr0 hc0
 have HB := Aside0.mk (Below.refl w.heap.size w)
 have H := h
 clear h
 have H' := Aside0.mk H
 clear H
 go_enter Try.func113, Try.ntmps113
 go_wp2
 go_loopg [8] k (fun kq v8 w' => ∃ (x8_1 : Int), v8 = .int .i64 x8_1 ∧ Aside0 (impl_Node_83_188.l0 kq l0 (l0.length : Int) x8_1 = some r) ∧ Aside0 (kq ≤ k) ∧ Aside0 (Below w.heap.size w w'))
 case atStart => exact ⟨(0), zS, H', ⟨Nat.le_refl _⟩, ⟨zB⟩⟩
 case round =>
  clear H'
  obtain ⟨x8_1, rfl, HA, HK1, HB⟩ := hrel
  cases gk with
  | zero => exact absurd HA.out (by simp [impl_Node_83_188.l0])
  | succ k1 =>
   have H := HA.out
   clear HA
   simp only [impl_Node_83_188.l0] at H
   replace H := zI H; obtain ⟨c3, H⟩ | ⟨c3, H⟩ := H
   ·have c3b0 := decide_eq_true c3
    clear c3
    replace H := zI H; obtain ⟨c4, H⟩ | ⟨c4, H⟩ := H
    ·have c4b0 := decide_eq_true c4
     clear c4
     replace H := zI H; obtain ⟨c5, H⟩ | ⟨c5, H⟩ := H
     ·have c5b0 := decide_eq_true c5
      clear c5
      replace H := zO H; obtain ⟨t314, A6, H⟩ := H
      by_cases c7 : t314 = true
      ·subst c7; replace H := zT H
       obtain rfl := Option.some.inj H
       have p313 : 0 ≤ (x8_1 : Int) := zW
       have q313 : x8_1 < (l0.length : Int) := zW
       obtain ⟨ad313, A313_3, c313_3, e313, hx313_0, hx313_1, hx313_2, hx313_3, hl313_3, hi313_3⟩ := at_T66 HR0.out x8_1 p313 q313
       cases e313
       replace hx313_0 := zc HB hx313_0
       replace hx313_1 := zc HB hx313_1
       replace hx313_2 := zc HB hx313_2
       replace hx313_3 := zc HB hx313_3
       have HR313_3 := Aside0.mk hi313_3
       have HC313_3 := Aside0.mk hl313_3
       clear hi313_3 hl313_3
       replace p313 := eq_true p313
       replace q313 := eq_true q313
       go_wp2_with (first | ((with_reducible refine gate_value (t := 11) rfl ?_); refine goesV_ (some 16) rfl rfl Try.func83 (by kernel_rfl) rfl #[.agg #[.int .i64 ((rd_T66 l0 x8_1).f0), .int .i64 ((rd_T66 l0 x8_1).f1), .string ((rd_T66 l0 x8_1).f2), .slice A313_3 ((rd_T66 l0 x8_1).f3).length c313_3]] rfl _ rfl zA ?_; (with_reducible refine (ih83 k1 (by have := HK1.out; omega) ((rd_T66 l0 x8_1).f0) ((rd_T66 l0 x8_1).f1) ((rd_T66 l0 x8_1).f2) _ _ ((rd_T66 l0 x8_1).f3) true _ (zR HR313_3) HC313_3.out A6.out).mono ?_); rintro e w8 ⟨rfl, hb⟩; refine ⟨_, rfl, ?_⟩; have n_ := Aside0.mk (zs hb); clear HB; have HB := n_; clear n_; (try clear hb)))
       go_ret
       exact ⟨zE, zB⟩
      ·replace c7 := Bool.eq_false_iff.mpr c7; subst c7; replace H := zN H
       have H' := Aside0.mk H
       clear H
       have p313 : 0 ≤ (x8_1 : Int) := zW
       have q313 : x8_1 < (l0.length : Int) := zW
       obtain ⟨ad313, A313_3, c313_3, e313, hx313_0, hx313_1, hx313_2, hx313_3, hl313_3, hi313_3⟩ := at_T66 HR0.out x8_1 p313 q313
       cases e313
       replace hx313_0 := zc HB hx313_0
       replace hx313_1 := zc HB hx313_1
       replace hx313_2 := zc HB hx313_2
       replace hx313_3 := zc HB hx313_3
       have HR313_3 := Aside0.mk hi313_3
       have HC313_3 := Aside0.mk hl313_3
       clear hi313_3 hl313_3
       replace p313 := eq_true p313
       replace q313 := eq_true q313
       go_wp2_with (first | ((with_reducible refine gate_value (t := 11) rfl ?_); refine goesV_ (some 16) rfl rfl Try.func83 (by kernel_rfl) rfl #[.agg #[.int .i64 ((rd_T66 l0 x8_1).f0), .int .i64 ((rd_T66 l0 x8_1).f1), .string ((rd_T66 l0 x8_1).f2), .slice A313_3 ((rd_T66 l0 x8_1).f3).length c313_3]] rfl _ rfl zA ?_; (with_reducible refine (ih83 k1 (by have := HK1.out; omega) ((rd_T66 l0 x8_1).f0) ((rd_T66 l0 x8_1).f1) ((rd_T66 l0 x8_1).f2) _ _ ((rd_T66 l0 x8_1).f3) false _ (zR HR313_3) HC313_3.out A6.out).mono ?_); rintro e w9 ⟨rfl, hb⟩; refine ⟨_, rfl, ?_⟩; have n_ := Aside0.mk (zs hb); clear HB; have HB := n_; clear n_; (try clear hb)))
       go_roundg k1
       case measure => have := HK1.out; omega
       case rel => exact ⟨(wrap64 (x8_1 + 1)), zS, H', ⟨by have := HK1.out; omega⟩, ⟨zB⟩⟩
     ·exact absurd H (by simp)
    ·exact absurd H (by simp)
   ·have c3b0 := decide_eq_false c3
    clear c3
    obtain rfl := Option.some.inj H
    go_wp2
    go_ret
    exact ⟨zE, zB⟩

theorem impl_Node_83_187.step (k : Nat) (ih84 : ∀ m_, m_ < k → ∀ (a0_0 : Int) (a0_1 : Int) (a0_2 : ByteArray) (A0_3 : Option Addr) (c0_3 : Nat) (l0_3 : List (S66)) (r : Bool) (w : World) (hr0_3 : Kd.C k66 w A0_3 l0_3.length l0_3) (hc0_3 : l0_3.length ≤ c0_3) (h : impl_isStatement.f m_ a0_0 a0_1 a0_2 l0_3 = some r),
  Calls Try.prog 84 #[.agg #[.int .i64 a0_0, .int .i64 a0_1, .string a0_2, .slice A0_3 l0_3.length c0_3]] w fun e w' => e = .returned (.bool r) ∧ Below w.heap.size w w') (ih83 : ∀ m_, m_ < k → ∀ (a0_0 : Int) (a0_1 : Int) (a0_2 : ByteArray) (A0_3 : Option Addr) (c0_3 : Nat) (l0_3 : List (S66)) (r : Bool) (w : World) (hr0_3 : Kd.C k66 w A0_3 l0_3.length l0_3) (hc0_3 : l0_3.length ≤ c0_3) (h : impl_isBlock_1.f m_ a0_0 a0_1 a0_2 l0_3 = some r),
  Calls Try.prog 83 #[.agg #[.int .i64 a0_0, .int .i64 a0_1, .string a0_2, .slice A0_3 l0_3.length c0_3]] w fun e w' => e = .returned (.bool r) ∧ Below w.heap.size w w') (ih188 : ∀ m_, m_ < k → ∀ (A0 : Option Addr) (c0 : Nat) (l0 : List (S66))  (r : Int) (w : World) (hr0 : Kd.C k66 w A0 l0.length l0) (hc0 : l0.length ≤ c0) (h : impl_Node_83_188.f m_ l0 = some r),
  Calls Try.prog 113 #[.slice A0 l0.length c0, .func (.func 83) #[] #[]] w fun e w' => e = .returned (.int .i64 r) ∧ Below w.heap.size w w') (ih187 : ∀ m_, m_ < k → ∀ (A0 : Option Addr) (c0 : Nat) (l0 : List (S66))  (r : Bool) (w : World) (hr0 : Kd.C k66 w A0 l0.length l0) (hc0 : l0.length ≤ c0) (h : impl_Node_83_187.f m_ l0 = some r),
  Calls Try.prog 82 #[.slice A0 l0.length c0, .func (.func 83) #[] #[]] w fun e w' => e = .returned (.bool r) ∧ Below w.heap.size w w') (ih41 : ∀ m_, m_ < k → ∀ (a0_0 : Int) (a0_1 : Int) (a0_2 : ByteArray) (A0_3 : Option Addr) (c0_3 : Nat) (l0_3 : List (S66)) (r : Bool) (w : World) (hr0_3 : Kd.C k66 w A0_3 l0_3.length l0_3) (hc0_3 : l0_3.length ≤ c0_3) (h : impl_isBlock.f m_ a0_0 a0_1 a0_2 l0_3 = some r),
  Calls Try.prog 41 #[.agg #[.int .i64 a0_0, .int .i64 a0_1, .string a0_2, .slice A0_3 l0_3.length c0_3]] w fun e w' => e = .returned (.bool r) ∧ Below w.heap.size w w') : ∀ (A0 : Option Addr) (c0 : Nat) (l0 : List (S66))  (r : Bool) (w : World) (hr0 : Kd.C k66 w A0 l0.length l0) (hc0 : l0.length ≤ c0) (h : impl_Node_83_187.f k l0 = some r),
  Calls Try.prog 82 #[.slice A0 l0.length c0, .func (.func 83) #[] #[]] w fun e w' => e = .returned (.bool r) ∧ Below w.heap.size w w' := by
 intro A0 c0 l0 r w hr0 hc0 h
 cases k with
 | zero => exact absurd h (by simp [impl_Node_83_187.f])
 | succ k =>
 rw [impl_Node_83_187.f] at h
 have HR0 := Aside0.mk hr0
 have HC0 := Aside0.mk hc0
 clear hr0 hc0
 have HB := Aside0.mk (Below.refl w.heap.size w)
 have H := h
 clear h
 replace H := zO H; obtain ⟨t315, A3, H⟩ := H
 obtain rfl := Option.some.inj H
 go_enter Try.func82, Try.ntmps82
 go_wp2_with (first | ((with_reducible refine gate_callee (f := 113) rfl ?_); refine zG (some 7) Try.func113 #[.slice A0 l0.length c0, .func (.func 83) #[] #[]] ?_; (with_reducible refine (ih188 k (by omega) _ _ l0  t315 _ ?side1 ?side2 A3.out).mono ?_); (case side1 => repeat (first | exact HR0.out | (with_reducible refine Kd.C_alloc ?_ _) | (with_reducible refine Kd.C_drewN ?_ _) | (with_reducible refine Kd.C_drew ?_))); (case side2 => exact HC0.out); rintro e w4 ⟨rfl, hb⟩; refine ⟨_, rfl, ?_⟩; have n_ := Aside0.mk (zs hb); clear HB; have HB := n_; clear n_; (try clear hb)))
 go_ret
 exact ⟨zE, zB⟩

theorem impl_isBlock.step (k : Nat) (ih84 : ∀ m_, m_ < k → ∀ (a0_0 : Int) (a0_1 : Int) (a0_2 : ByteArray) (A0_3 : Option Addr) (c0_3 : Nat) (l0_3 : List (S66)) (r : Bool) (w : World) (hr0_3 : Kd.C k66 w A0_3 l0_3.length l0_3) (hc0_3 : l0_3.length ≤ c0_3) (h : impl_isStatement.f m_ a0_0 a0_1 a0_2 l0_3 = some r),
  Calls Try.prog 84 #[.agg #[.int .i64 a0_0, .int .i64 a0_1, .string a0_2, .slice A0_3 l0_3.length c0_3]] w fun e w' => e = .returned (.bool r) ∧ Below w.heap.size w w') (ih83 : ∀ m_, m_ < k → ∀ (a0_0 : Int) (a0_1 : Int) (a0_2 : ByteArray) (A0_3 : Option Addr) (c0_3 : Nat) (l0_3 : List (S66)) (r : Bool) (w : World) (hr0_3 : Kd.C k66 w A0_3 l0_3.length l0_3) (hc0_3 : l0_3.length ≤ c0_3) (h : impl_isBlock_1.f m_ a0_0 a0_1 a0_2 l0_3 = some r),
  Calls Try.prog 83 #[.agg #[.int .i64 a0_0, .int .i64 a0_1, .string a0_2, .slice A0_3 l0_3.length c0_3]] w fun e w' => e = .returned (.bool r) ∧ Below w.heap.size w w') (ih188 : ∀ m_, m_ < k → ∀ (A0 : Option Addr) (c0 : Nat) (l0 : List (S66))  (r : Int) (w : World) (hr0 : Kd.C k66 w A0 l0.length l0) (hc0 : l0.length ≤ c0) (h : impl_Node_83_188.f m_ l0 = some r),
  Calls Try.prog 113 #[.slice A0 l0.length c0, .func (.func 83) #[] #[]] w fun e w' => e = .returned (.int .i64 r) ∧ Below w.heap.size w w') (ih187 : ∀ m_, m_ < k → ∀ (A0 : Option Addr) (c0 : Nat) (l0 : List (S66))  (r : Bool) (w : World) (hr0 : Kd.C k66 w A0 l0.length l0) (hc0 : l0.length ≤ c0) (h : impl_Node_83_187.f m_ l0 = some r),
  Calls Try.prog 82 #[.slice A0 l0.length c0, .func (.func 83) #[] #[]] w fun e w' => e = .returned (.bool r) ∧ Below w.heap.size w w') (ih41 : ∀ m_, m_ < k → ∀ (a0_0 : Int) (a0_1 : Int) (a0_2 : ByteArray) (A0_3 : Option Addr) (c0_3 : Nat) (l0_3 : List (S66)) (r : Bool) (w : World) (hr0_3 : Kd.C k66 w A0_3 l0_3.length l0_3) (hc0_3 : l0_3.length ≤ c0_3) (h : impl_isBlock.f m_ a0_0 a0_1 a0_2 l0_3 = some r),
  Calls Try.prog 41 #[.agg #[.int .i64 a0_0, .int .i64 a0_1, .string a0_2, .slice A0_3 l0_3.length c0_3]] w fun e w' => e = .returned (.bool r) ∧ Below w.heap.size w w') : ∀ (a0_0 : Int) (a0_1 : Int) (a0_2 : ByteArray) (A0_3 : Option Addr) (c0_3 : Nat) (l0_3 : List (S66)) (r : Bool) (w : World) (hr0_3 : Kd.C k66 w A0_3 l0_3.length l0_3) (hc0_3 : l0_3.length ≤ c0_3) (h : impl_isBlock.f k a0_0 a0_1 a0_2 l0_3 = some r),
  Calls Try.prog 41 #[.agg #[.int .i64 a0_0, .int .i64 a0_1, .string a0_2, .slice A0_3 l0_3.length c0_3]] w fun e w' => e = .returned (.bool r) ∧ Below w.heap.size w w' := by
 intro a0_0 a0_1 a0_2 A0_3 c0_3 l0_3 r w hr0_3 hc0_3 h
 cases k with
 | zero => exact absurd h (by simp [impl_isBlock.f])
 | succ k =>
 rw [impl_isBlock.f] at h
 have hu66 := Try.underlying66
 have HR0_3 := Aside0.mk hr0_3
 have HC0_3 := Aside0.mk hc0_3
 clear hr0_3 hc0_3
 have HB := Aside0.mk (Below.refl w.heap.size w)
 have H := h
 clear h
 replace H := zI H; obtain ⟨c2, H⟩ | ⟨c2, H⟩ := H
 ·have c2b0 := beq_iff_eq.mpr c2
  have c2b1 := bne_eq_false_iff_eq.mpr c2
  clear c2
  replace H := zO H; obtain ⟨t317, A3, H⟩ := H
  by_cases c4 : t317 = true
  ·subst c4; replace H := zT H
   replace H := zO H; obtain ⟨t318, A5, H⟩ := H
   obtain rfl := Option.some.inj H
   go_enter Try.func41, Try.ntmps41
   go_wp2_with (first | ((with_reducible refine gate_dst (N := 1) rfl ?_); refine zX (N := 1) (cs := #[.int .i64 a0_0, .int .i64 a0_1, .string a0_2, .slice A0_3 l0_3.length c0_3]) (t := 66) ?_; intro gb316 hg w6 hbox hb; have n_ := z4 (zs hb) (hbox) (zl hg) (zl hg); clear HB; obtain ⟨HB, BK316, GW316, GE316⟩ := n_; clear hb hbox hg; obtain ⟨hcz7_0, hcz7_1, hcz7_2, hcz7_3, hfz7_0, hfz7_1, hfz7_2, hfz7_3⟩ := zC4 BK316) | (go_at_call 81; (with_reducible refine (impl_plainNode.calls a0_0 a0_1 a0_2 _ _ l0_3 true _ (zR HR0_3) HC0_3.out A3.out).mono ?_); rintro e w8 ⟨rfl, hb⟩; have n_ := z2 (zb BK316 hb) (zs hb); clear BK316 HB; obtain ⟨BK316, HB⟩ := n_; (try clear hb); obtain ⟨hcz9_0, hcz9_1, hcz9_2, hcz9_3, hfz9_0, hfz9_1, hfz9_2, hfz9_3⟩ := zC4 BK316) | (go_at_call 82; (with_reducible refine (ih187 k (by omega) _ _ l0_3  t318 _ (zR HR0_3) HC0_3.out A5.out).mono ?_); rintro e w10 ⟨rfl, hb⟩; have n_ := z2 (zb BK316 hb) (zs hb); clear BK316 HB; obtain ⟨BK316, HB⟩ := n_; (try clear hb)))
   go_ret
   exact ⟨zE, zB⟩
  ·replace c4 := Bool.eq_false_iff.mpr c4; subst c4; replace H := zN H
   obtain rfl := Option.some.inj H
   go_enter Try.func41, Try.ntmps41
   go_wp2_with (first | ((with_reducible refine gate_dst (N := 1) rfl ?_); refine zX (N := 1) (cs := #[.int .i64 a0_0, .int .i64 a0_1, .string a0_2, .slice A0_3 l0_3.length c0_3]) (t := 66) ?_; intro gb316 hg w11 hbox hb; have n_ := z4 (zs hb) (hbox) (zl hg) (zl hg); clear HB; obtain ⟨HB, BK316, GW316, GE316⟩ := n_; clear hb hbox hg; obtain ⟨hcz12_0, hcz12_1, hcz12_2, hcz12_3, hfz12_0, hfz12_1, hfz12_2, hfz12_3⟩ := zC4 BK316) | (go_at_call 81; (with_reducible refine (impl_plainNode.calls a0_0 a0_1 a0_2 _ _ l0_3 false _ (zR HR0_3) HC0_3.out A3.out).mono ?_); rintro e w13 ⟨rfl, hb⟩; have n_ := z2 (zb BK316 hb) (zs hb); clear BK316 HB; obtain ⟨BK316, HB⟩ := n_; (try clear hb)))
   go_ret
   exact ⟨zE, zB⟩
 ·have c2b0 := beq_eq_false_iff_ne.mpr c2
  have c2b1 := bne_iff_ne.mpr c2
  obtain rfl := Option.some.inj H
  go_enter Try.func41, Try.ntmps41
  go_wp2_with (first | ((with_reducible refine gate_dst (N := 1) rfl ?_); refine zX (N := 1) (cs := #[.int .i64 a0_0, .int .i64 a0_1, .string a0_2, .slice A0_3 l0_3.length c0_3]) (t := 66) ?_; intro gb316 hg w14 hbox hb; have n_ := z4 (zs hb) (hbox) (zl hg) (zl hg); clear HB; obtain ⟨HB, BK316, GW316, GE316⟩ := n_; clear hb hbox hg; obtain ⟨hcz15_0, hcz15_1, hcz15_2, hcz15_3, hfz15_0, hfz15_1, hfz15_2, hfz15_3⟩ := zC4 BK316))
  go_ret
  exact ⟨zE, zB⟩

theorem impl_isStatement.all_ (k : Nat) : (∀ (a0_0 : Int) (a0_1 : Int) (a0_2 : ByteArray) (A0_3 : Option Addr) (c0_3 : Nat) (l0_3 : List (S66)) (r : Bool) (w : World) (hr0_3 : Kd.C k66 w A0_3 l0_3.length l0_3) (hc0_3 : l0_3.length ≤ c0_3) (h : impl_isStatement.f k a0_0 a0_1 a0_2 l0_3 = some r),
  Calls Try.prog 84 #[.agg #[.int .i64 a0_0, .int .i64 a0_1, .string a0_2, .slice A0_3 l0_3.length c0_3]] w fun e w' => e = .returned (.bool r) ∧ Below w.heap.size w w') ∧ (∀ (a0_0 : Int) (a0_1 : Int) (a0_2 : ByteArray) (A0_3 : Option Addr) (c0_3 : Nat) (l0_3 : List (S66)) (r : Bool) (w : World) (hr0_3 : Kd.C k66 w A0_3 l0_3.length l0_3) (hc0_3 : l0_3.length ≤ c0_3) (h : impl_isBlock_1.f k a0_0 a0_1 a0_2 l0_3 = some r),
  Calls Try.prog 83 #[.agg #[.int .i64 a0_0, .int .i64 a0_1, .string a0_2, .slice A0_3 l0_3.length c0_3]] w fun e w' => e = .returned (.bool r) ∧ Below w.heap.size w w') ∧ (∀ (A0 : Option Addr) (c0 : Nat) (l0 : List (S66))  (r : Int) (w : World) (hr0 : Kd.C k66 w A0 l0.length l0) (hc0 : l0.length ≤ c0) (h : impl_Node_83_188.f k l0 = some r),
  Calls Try.prog 113 #[.slice A0 l0.length c0, .func (.func 83) #[] #[]] w fun e w' => e = .returned (.int .i64 r) ∧ Below w.heap.size w w') ∧ (∀ (A0 : Option Addr) (c0 : Nat) (l0 : List (S66))  (r : Bool) (w : World) (hr0 : Kd.C k66 w A0 l0.length l0) (hc0 : l0.length ≤ c0) (h : impl_Node_83_187.f k l0 = some r),
  Calls Try.prog 82 #[.slice A0 l0.length c0, .func (.func 83) #[] #[]] w fun e w' => e = .returned (.bool r) ∧ Below w.heap.size w w') ∧ (∀ (a0_0 : Int) (a0_1 : Int) (a0_2 : ByteArray) (A0_3 : Option Addr) (c0_3 : Nat) (l0_3 : List (S66)) (r : Bool) (w : World) (hr0_3 : Kd.C k66 w A0_3 l0_3.length l0_3) (hc0_3 : l0_3.length ≤ c0_3) (h : impl_isBlock.f k a0_0 a0_1 a0_2 l0_3 = some r),
  Calls Try.prog 41 #[.agg #[.int .i64 a0_0, .int .i64 a0_1, .string a0_2, .slice A0_3 l0_3.length c0_3]] w fun e w' => e = .returned (.bool r) ∧ Below w.heap.size w w') := by
 induction k using Nat.strongRecOn with
 | _ k ih => exact ⟨impl_isStatement.step k (fun m_ h_ => (ih m_ h_).1) (fun m_ h_ => (ih m_ h_).2.1) (fun m_ h_ => (ih m_ h_).2.2.1) (fun m_ h_ => (ih m_ h_).2.2.2.1) (fun m_ h_ => (ih m_ h_).2.2.2.2), impl_isBlock_1.step k (fun m_ h_ => (ih m_ h_).1) (fun m_ h_ => (ih m_ h_).2.1) (fun m_ h_ => (ih m_ h_).2.2.1) (fun m_ h_ => (ih m_ h_).2.2.2.1) (fun m_ h_ => (ih m_ h_).2.2.2.2), impl_Node_83_188.step k (fun m_ h_ => (ih m_ h_).1) (fun m_ h_ => (ih m_ h_).2.1) (fun m_ h_ => (ih m_ h_).2.2.1) (fun m_ h_ => (ih m_ h_).2.2.2.1) (fun m_ h_ => (ih m_ h_).2.2.2.2), impl_Node_83_187.step k (fun m_ h_ => (ih m_ h_).1) (fun m_ h_ => (ih m_ h_).2.1) (fun m_ h_ => (ih m_ h_).2.2.1) (fun m_ h_ => (ih m_ h_).2.2.2.1) (fun m_ h_ => (ih m_ h_).2.2.2.2), impl_isBlock.step k (fun m_ h_ => (ih m_ h_).1) (fun m_ h_ => (ih m_ h_).2.1) (fun m_ h_ => (ih m_ h_).2.2.1) (fun m_ h_ => (ih m_ h_).2.2.2.1) (fun m_ h_ => (ih m_ h_).2.2.2.2)⟩
theorem impl_isStatement.calls (k : Nat) : ∀ (a0_0 : Int) (a0_1 : Int) (a0_2 : ByteArray) (A0_3 : Option Addr) (c0_3 : Nat) (l0_3 : List (S66)) (r : Bool) (w : World) (hr0_3 : Kd.C k66 w A0_3 l0_3.length l0_3) (hc0_3 : l0_3.length ≤ c0_3) (h : impl_isStatement.f k a0_0 a0_1 a0_2 l0_3 = some r),
  Calls Try.prog 84 #[.agg #[.int .i64 a0_0, .int .i64 a0_1, .string a0_2, .slice A0_3 l0_3.length c0_3]] w fun e w' => e = .returned (.bool r) ∧ Below w.heap.size w w' := (impl_isStatement.all_ k).1
theorem impl_isBlock_1.calls (k : Nat) : ∀ (a0_0 : Int) (a0_1 : Int) (a0_2 : ByteArray) (A0_3 : Option Addr) (c0_3 : Nat) (l0_3 : List (S66)) (r : Bool) (w : World) (hr0_3 : Kd.C k66 w A0_3 l0_3.length l0_3) (hc0_3 : l0_3.length ≤ c0_3) (h : impl_isBlock_1.f k a0_0 a0_1 a0_2 l0_3 = some r),
  Calls Try.prog 83 #[.agg #[.int .i64 a0_0, .int .i64 a0_1, .string a0_2, .slice A0_3 l0_3.length c0_3]] w fun e w' => e = .returned (.bool r) ∧ Below w.heap.size w w' := (impl_isStatement.all_ k).2.1
theorem impl_Node_83_188.calls (k : Nat) : ∀ (A0 : Option Addr) (c0 : Nat) (l0 : List (S66))  (r : Int) (w : World) (hr0 : Kd.C k66 w A0 l0.length l0) (hc0 : l0.length ≤ c0) (h : impl_Node_83_188.f k l0 = some r),
  Calls Try.prog 113 #[.slice A0 l0.length c0, .func (.func 83) #[] #[]] w fun e w' => e = .returned (.int .i64 r) ∧ Below w.heap.size w w' := (impl_isStatement.all_ k).2.2.1
theorem impl_Node_83_187.calls (k : Nat) : ∀ (A0 : Option Addr) (c0 : Nat) (l0 : List (S66))  (r : Bool) (w : World) (hr0 : Kd.C k66 w A0 l0.length l0) (hc0 : l0.length ≤ c0) (h : impl_Node_83_187.f k l0 = some r),
  Calls Try.prog 82 #[.slice A0 l0.length c0, .func (.func 83) #[] #[]] w fun e w' => e = .returned (.bool r) ∧ Below w.heap.size w w' := (impl_isStatement.all_ k).2.2.2.1
theorem impl_isBlock.calls (k : Nat) : ∀ (a0_0 : Int) (a0_1 : Int) (a0_2 : ByteArray) (A0_3 : Option Addr) (c0_3 : Nat) (l0_3 : List (S66)) (r : Bool) (w : World) (hr0_3 : Kd.C k66 w A0_3 l0_3.length l0_3) (hc0_3 : l0_3.length ≤ c0_3) (h : impl_isBlock.f k a0_0 a0_1 a0_2 l0_3 = some r),
  Calls Try.prog 41 #[.agg #[.int .i64 a0_0, .int .i64 a0_1, .string a0_2, .slice A0_3 l0_3.length c0_3]] w fun e w' => e = .returned (.bool r) ∧ Below w.heap.size w w' := (impl_isStatement.all_ k).2.2.2.2
/-! ### impl_noNode: function 42 -/
theorem impl_noNode.calls (a0_0 : Int) (a0_1 : Int) (a0_2 : ByteArray) (A0_3 : Option Addr) (c0_3 : Nat) (l0_3 : List (S66)) (r : Bool) (w : World) (hr0_3 : Kd.C k66 w A0_3 l0_3.length l0_3) (hc0_3 : l0_3.length ≤ c0_3) (h : impl_noNode.f a0_0 a0_1 a0_2 l0_3 = some r) :
  Calls Try.prog 42 #[.agg #[.int .i64 a0_0, .int .i64 a0_1, .string a0_2, .slice A0_3 l0_3.length c0_3]] w fun e w' => e = .returned (.bool r) ∧ Below w.heap.size w w' := by
 have hu66 := Try.underlying66
 have HR0_3 := Aside0.mk hr0_3
 have HC0_3 := Aside0.mk hc0_3
 clear hr0_3 hc0_3
 have HB := Aside0.mk (Below.refl w.heap.size w)
 rw [impl_noNode.f] at h
 have H := h
 clear h
 replace H := zI H; obtain ⟨c2, H⟩ | ⟨c2, H⟩ := H
 ·have c2b0 := beq_iff_eq.mpr c2
  have c2b1 := bne_eq_false_iff_eq.mpr c2
  clear c2
  replace H := zO H; obtain ⟨t320, A3, H⟩ := H
  by_cases c4 : t320 = true
  ·subst c4; replace H := zT H
   obtain rfl := Option.some.inj H
   go_enter Try.func42, Try.ntmps42
   go_wp2_with (first | ((with_reducible refine gate_dst (N := 1) rfl ?_); (try (refine gate_guard (by rfl) ?_; dsimp only)); refine zX (N := 1) (cs := #[.int .i64 a0_0, .int .i64 a0_1, .string a0_2, .slice A0_3 l0_3.length c0_3]) (t := 66) ?_; intro gb319 hg w5 hbox hb; have n_ := z4 (zs hb) (hbox) (zl hg) (zl hg); clear HB; obtain ⟨HB, BK319, GW319, GE319⟩ := n_; clear hb hbox hg; obtain ⟨hcz6_0, hcz6_1, hcz6_2, hcz6_3, hfz6_0, hfz6_1, hfz6_2, hfz6_3⟩ := zC4 BK319) | (go_at_call 81; (with_reducible refine (impl_plainNode.calls a0_0 a0_1 a0_2 _ _ l0_3 true _ (zR HR0_3) HC0_3.out A3.out).mono ?_); rintro e w7 ⟨rfl, hb⟩; have n_ := z2 (zb BK319 hb) (zs hb); clear BK319 HB; obtain ⟨BK319, HB⟩ := n_; (try clear hb); obtain ⟨hcz8_0, hcz8_1, hcz8_2, hcz8_3, hfz8_0, hfz8_1, hfz8_2, hfz8_3⟩ := zC4 BK319))
   go_ret
   exact ⟨zE, zB⟩
  ·replace c4 := Bool.eq_false_iff.mpr c4; subst c4; replace H := zN H
   obtain rfl := Option.some.inj H
   go_enter Try.func42, Try.ntmps42
   go_wp2_with (first | ((with_reducible refine gate_dst (N := 1) rfl ?_); (try (refine gate_guard (by rfl) ?_; dsimp only)); refine zX (N := 1) (cs := #[.int .i64 a0_0, .int .i64 a0_1, .string a0_2, .slice A0_3 l0_3.length c0_3]) (t := 66) ?_; intro gb319 hg w9 hbox hb; have n_ := z4 (zs hb) (hbox) (zl hg) (zl hg); clear HB; obtain ⟨HB, BK319, GW319, GE319⟩ := n_; clear hb hbox hg; obtain ⟨hcz10_0, hcz10_1, hcz10_2, hcz10_3, hfz10_0, hfz10_1, hfz10_2, hfz10_3⟩ := zC4 BK319) | (go_at_call 81; (with_reducible refine (impl_plainNode.calls a0_0 a0_1 a0_2 _ _ l0_3 false _ (zR HR0_3) HC0_3.out A3.out).mono ?_); rintro e w11 ⟨rfl, hb⟩; have n_ := z2 (zb BK319 hb) (zs hb); clear BK319 HB; obtain ⟨BK319, HB⟩ := n_; (try clear hb)))
   go_ret
   exact ⟨zE, zB⟩
 ·have c2b0 := beq_eq_false_iff_ne.mpr c2
  have c2b1 := bne_iff_ne.mpr c2
  obtain rfl := Option.some.inj H
  go_enter Try.func42, Try.ntmps42
  go_wp2_with (first | ((with_reducible refine gate_dst (N := 1) rfl ?_); (try (refine gate_guard (by rfl) ?_; dsimp only)); refine zX (N := 1) (cs := #[.int .i64 a0_0, .int .i64 a0_1, .string a0_2, .slice A0_3 l0_3.length c0_3]) (t := 66) ?_; intro gb319 hg w12 hbox hb; have n_ := z4 (zs hb) (hbox) (zl hg) (zl hg); clear HB; obtain ⟨HB, BK319, GW319, GE319⟩ := n_; clear hb hbox hg; obtain ⟨hcz13_0, hcz13_1, hcz13_2, hcz13_3, hfz13_0, hfz13_1, hfz13_2, hfz13_3⟩ := zC4 BK319))
  go_ret
  exact ⟨zE, zB⟩

end Go.Proofs.Ythigelphmjepaaa.QFnExactTidy
