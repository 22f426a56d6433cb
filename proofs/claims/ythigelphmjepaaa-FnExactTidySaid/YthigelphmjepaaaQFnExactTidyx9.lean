/- Written by wip/pr2, a program of this session. -/
import Derived.Test.YthigelphmjepaaaQFnExactTidyx0
import Derived.Test.YthigelphmjepaaaQFnExactTidyx2
import Derived.Test.YthigelphmjepaaaQFnExactTidyx8
import Derived.Test.YthigelphmjepaaaWFnExactTidy
namespace Go.Proofs.Ythigelphmjepaaa.QFnExactTidy
open Go.RowKit Go.Proofs.YthigelphmjepaaaW.PrintWords Go.Proofs.YthigelphmjepaaaW.PrintLast Go.Proofs.YthigelphmjepaaaW.PrintMore Go.Proofs.YthigelphmjepaaaW.Mac
attribute [local go_sem] max2_int min2_int max_two min_two max_three min_three max_four min_four   -- for this text's walks alone
set_option linter.unusedVariables false
set_option linter.unusedSimpArgs false
set_option maxHeartbeats 8000000
set_option maxRecDepth 100000

theorem spec_l9Es.step (k : Nat) (ih110 : ∀ m_, m_ < k → ∀ (a0_0 : Int) (a0_1 : Int) (a0_2 : ByteArray) (A0_3 : Option Addr) (c0_3 : Nat) (l0_3 : List (S66)) (a1 : Int) (a2 : Int) (r : Bool) (w : World) (hr0_3 : Kd.C k66 w A0_3 l0_3.length l0_3) (hc0_3 : l0_3.length ≤ c0_3) (h : spec_l9Es.f m_ a0_0 a0_1 a0_2 l0_3 a1 a2 = some r),
  Calls Try.prog 110 #[.agg #[.int .i64 a0_0, .int .i64 a0_1, .string a0_2, .slice A0_3 l0_3.length c0_3], .int .i64 a1, .int .i64 a2] w fun e w' => e = .returned (.bool r) ∧ Below w.heap.size w w') (ih111 : ∀ m_, m_ < k → ∀ (a0_0 : Int) (a0_1 : Int) (a0_2 : ByteArray) (A0_3 : Option Addr) (c0_3 : Nat) (l0_3 : List (S66)) (a1 : Int) (r : Bool) (w : World) (hr0_3 : Kd.C k66 w A0_3 l0_3.length l0_3) (hc0_3 : l0_3.length ≤ c0_3) (h : spec_l9Blocks.f m_ a0_0 a0_1 a0_2 l0_3 a1 = some r),
  Calls Try.prog 111 #[.agg #[.int .i64 a0_0, .int .i64 a0_1, .string a0_2, .slice A0_3 l0_3.length c0_3], .int .i64 a1] w fun e w' => e = .returned (.bool r) ∧ Below w.heap.size w w') (ih74 : ∀ m_, m_ < k → ∀ (a0_0 : Int) (a0_1 : Int) (a0_2 : ByteArray) (A0_3 : Option Addr) (c0_3 : Nat) (l0_3 : List (S66)) (r : Bool) (w : World) (hr0_3 : Kd.C k66 w A0_3 l0_3.length l0_3) (hc0_3 : l0_3.length ≤ c0_3) (h : spec_l9Kids.f m_ a0_0 a0_1 a0_2 l0_3 = some r),
  Calls Try.prog 74 #[.agg #[.int .i64 a0_0, .int .i64 a0_1, .string a0_2, .slice A0_3 l0_3.length c0_3]] w fun e w' => e = .returned (.bool r) ∧ Below w.heap.size w w') (ih35 : ∀ m_, m_ < k → ∀ (a0_0 : Int) (a0_1 : Int) (a0_2 : ByteArray) (A0_3 : Option Addr) (c0_3 : Nat) (l0_3 : List (S66)) (r : Bool) (w : World) (hr0_3 : Kd.C k66 w A0_3 l0_3.length l0_3) (hc0_3 : l0_3.length ≤ c0_3) (h : spec_l9Node.f m_ a0_0 a0_1 a0_2 l0_3 = some r),
  Calls Try.prog 35 #[.agg #[.int .i64 a0_0, .int .i64 a0_1, .string a0_2, .slice A0_3 l0_3.length c0_3]] w fun e w' => e = .returned (.bool r) ∧ Below w.heap.size w w') : ∀ (a0_0 : Int) (a0_1 : Int) (a0_2 : ByteArray) (A0_3 : Option Addr) (c0_3 : Nat) (l0_3 : List (S66)) (a1 : Int) (a2 : Int) (r : Bool) (w : World) (hr0_3 : Kd.C k66 w A0_3 l0_3.length l0_3) (hc0_3 : l0_3.length ≤ c0_3) (h : spec_l9Es.f k a0_0 a0_1 a0_2 l0_3 a1 a2 = some r),
  Calls Try.prog 110 #[.agg #[.int .i64 a0_0, .int .i64 a0_1, .string a0_2, .slice A0_3 l0_3.length c0_3], .int .i64 a1, .int .i64 a2] w fun e w' => e = .returned (.bool r) ∧ Below w.heap.size w w' := by
 intro a0_0 a0_1 a0_2 A0_3 c0_3 l0_3 a1 a2 r w hr0_3 hc0_3 h
 cases k with
 | zero => exact absurd h (by simp [spec_l9Es.f])
 | succ k =>
 rw [spec_l9Es.f] at h
 have hu66 := Try.underlying66
 have HR0_3 := Aside0.mk hr0_3
 have HC0_3 := Aside0.mk hc0_3
 clear hr0_3 hc0_3
 have HB := Aside0.mk (Below.refl w.heap.size w)
 have H := h
 clear h
 have H' := Aside0.mk H
 clear H
 go_enter Try.func110, Try.ntmps110
 go_wp2_with (first | ((with_reducible refine gate_dst (N := 3) rfl ?_); refine zX (N := 3) (cs := #[.int .i64 a0_0, .int .i64 a0_1, .string a0_2, .slice A0_3 l0_3.length c0_3]) (t := 66) ?_; intro gb127 hg w4 hbox hb; have n_ := z4 (zs hb) (hbox) (zl hg) (zl hg); clear HB; obtain ⟨HB, BK127, GW127, GE127⟩ := n_; clear hb hbox hg))
 go_loopg [7] k (fun kq v7 w' => ∃ (x7_1 : Int), v7 = .int .i64 x7_1 ∧ Aside0 (spec_l9Es.l0 kq a2 x7_1 a0_0 a0_1 a0_2 l0_3 = some r) ∧ Aside0 (kq ≤ k) ∧ Aside0 (w'.heap[gb127]? = some (.cells #[.int .i64 a0_0, .int .i64 a0_1, .string a0_2, (.slice A0_3 l0_3.length c0_3)] 66 (0, 0))) ∧ Aside0 (Below w.heap.size w w'))
 case atStart => exact ⟨(a1), zS, H', ⟨Nat.le_refl _⟩, ⟨zP BK127⟩, ⟨zB⟩⟩
 case round =>
  clear H'
  obtain ⟨x7_1, rfl, HA, HK1, BK127, HB⟩ := hrel
  cases gk with
  | zero => exact absurd HA.out (by simp [spec_l9Es.l0])
  | succ k1 =>
   have H := HA.out
   clear HA
   simp only [spec_l9Es.l0] at H
   replace H := zI H; obtain ⟨c5, H⟩ | ⟨c5, H⟩ := H
   ·have c5b0 := decide_eq_true c5
    clear c5
    replace H := zI H; obtain ⟨c6, H⟩ | ⟨c6, H⟩ := H
    ·have c6b0 := decide_eq_true c6
     clear c6
     replace H := zI H; obtain ⟨c7, H⟩ | ⟨c7, H⟩ := H
     ·have c7b0 := decide_eq_true c7
      clear c7
      replace H := zO H; obtain ⟨t129, A8, H⟩ := H
      by_cases c9 : t129 = true
      ·subst c9; replace H := zT H
       replace H := zO H; obtain ⟨t131, A10, H⟩ := H
       by_cases c11 : t131 = true
       ·subst c11; replace H := zT H
        have H' := Aside0.mk H
        clear H
        obtain ⟨hcz12_0, hcz12_1, hcz12_2, hcz12_3, hfz12_0, hfz12_1, hfz12_2, hfz12_3⟩ := zC4 BK127
        have p128 : 0 ≤ (x7_1 : Int) := zW
        have q128 : x7_1 < (l0_3.length : Int) := zW
        obtain ⟨ad128, A128_3, c128_3, e128, hx128_0, hx128_1, hx128_2, hx128_3, hl128_3, hi128_3⟩ := at_T66 HR0_3.out x7_1 p128 q128
        cases e128
        replace hx128_0 := zc HB hx128_0
        replace hx128_1 := zc HB hx128_1
        replace hx128_2 := zc HB hx128_2
        replace hx128_3 := zc HB hx128_3
        have HR128_3 := Aside0.mk hi128_3
        have HC128_3 := Aside0.mk hl128_3
        clear hi128_3 hl128_3
        replace p128 := eq_true p128
        replace q128 := eq_true q128
        go_wp2_with (first | ((with_reducible refine gate_callee (f := 34) rfl ?_); refine zG (some 20) Try.func34 #[.int .i64 ((rd_T66 l0_3 x7_1).f0)] ?_; (with_reducible refine (spec_l9IsE.calls ((rd_T66 l0_3 x7_1).f0) true _ A8.out).mono ?_); rintro e w' ⟨rfl, ⟨nd, rfl⟩⟩; refine ⟨_, rfl, ?_⟩; have p130 : 0 ≤ (x7_1 : Int) := zW; have q130 : x7_1 < (l0_3.length : Int) := zW; obtain ⟨ad130, A130_3, c130_3, e130, hx130_0, hx130_1, hx130_2, hx130_3, hl130_3, hi130_3⟩ := at_T66 HR0_3.out x7_1 p130 q130; obtain rfl : ad128 = ad130 := (by injection e130); replace hx130_0 := zc HB hx130_0; replace hx130_1 := zc HB hx130_1; replace hx130_2 := zc HB hx130_2; replace hx130_3 := zc HB hx130_3; have HR130_3 := Aside0.mk hi130_3; have HC130_3 := Aside0.mk hl130_3; clear hi130_3 hl130_3; replace p130 := eq_true p130; replace q130 := eq_true q130; have ea_ := Option.some.inj (hx128_3.symm.trans hx130_3); injection ea_ with ea_ en_ ec_; subst ea_; subst ec_; clear en_) | (go_at_call 35; (with_reducible refine (ih35 k1 (by have := HK1.out; omega) ((rd_T66 l0_3 x7_1).f0) ((rd_T66 l0_3 x7_1).f1) ((rd_T66 l0_3 x7_1).f2) _ _ ((rd_T66 l0_3 x7_1).f3) true _ (zR HR130_3) HC130_3.out A10.out).mono ?_); rintro e w13 ⟨rfl, hb⟩; have n_ := z2 (zb BK127 hb) (zs hb); clear BK127 HB; obtain ⟨BK127, HB⟩ := n_; (try clear hb)))
        go_roundg k1
        case measure => have := HK1.out; omega
        case rel => exact ⟨(wrap64 (x7_1 + 1)), zS, H', ⟨by have := HK1.out; omega⟩, ⟨zP BK127⟩, ⟨zB⟩⟩
       ·replace c11 := Bool.eq_false_iff.mpr c11; subst c11; replace H := zN H
        obtain rfl := Option.some.inj H
        obtain ⟨hcz14_0, hcz14_1, hcz14_2, hcz14_3, hfz14_0, hfz14_1, hfz14_2, hfz14_3⟩ := zC4 BK127
        have p128 : 0 ≤ (x7_1 : Int) := zW
        have q128 : x7_1 < (l0_3.length : Int) := zW
        obtain ⟨ad128, A128_3, c128_3, e128, hx128_0, hx128_1, hx128_2, hx128_3, hl128_3, hi128_3⟩ := at_T66 HR0_3.out x7_1 p128 q128
        cases e128
        replace hx128_0 := zc HB hx128_0
        replace hx128_1 := zc HB hx128_1
        replace hx128_2 := zc HB hx128_2
        replace hx128_3 := zc HB hx128_3
        have HR128_3 := Aside0.mk hi128_3
        have HC128_3 := Aside0.mk hl128_3
        clear hi128_3 hl128_3
        replace p128 := eq_true p128
        replace q128 := eq_true q128
        go_wp2_with (first | ((with_reducible refine gate_callee (f := 34) rfl ?_); refine zG (some 20) Try.func34 #[.int .i64 ((rd_T66 l0_3 x7_1).f0)] ?_; (with_reducible refine (spec_l9IsE.calls ((rd_T66 l0_3 x7_1).f0) true _ A8.out).mono ?_); rintro e w' ⟨rfl, ⟨nd, rfl⟩⟩; refine ⟨_, rfl, ?_⟩; have p130 : 0 ≤ (x7_1 : Int) := zW; have q130 : x7_1 < (l0_3.length : Int) := zW; obtain ⟨ad130, A130_3, c130_3, e130, hx130_0, hx130_1, hx130_2, hx130_3, hl130_3, hi130_3⟩ := at_T66 HR0_3.out x7_1 p130 q130; obtain rfl : ad128 = ad130 := (by injection e130); replace hx130_0 := zc HB hx130_0; replace hx130_1 := zc HB hx130_1; replace hx130_2 := zc HB hx130_2; replace hx130_3 := zc HB hx130_3; have HR130_3 := Aside0.mk hi130_3; have HC130_3 := Aside0.mk hl130_3; clear hi130_3 hl130_3; replace p130 := eq_true p130; replace q130 := eq_true q130; have ea_ := Option.some.inj (hx128_3.symm.trans hx130_3); injection ea_ with ea_ en_ ec_; subst ea_; subst ec_; clear en_) | (go_at_call 35; (with_reducible refine (ih35 k1 (by have := HK1.out; omega) ((rd_T66 l0_3 x7_1).f0) ((rd_T66 l0_3 x7_1).f1) ((rd_T66 l0_3 x7_1).f2) _ _ ((rd_T66 l0_3 x7_1).f3) false _ (zR HR130_3) HC130_3.out A10.out).mono ?_); rintro e w15 ⟨rfl, hb⟩; have n_ := z2 (zb BK127 hb) (zs hb); clear BK127 HB; obtain ⟨BK127, HB⟩ := n_; (try clear hb)))
        go_ret
        exact ⟨zE, zB⟩
      ·replace c9 := Bool.eq_false_iff.mpr c9; subst c9; replace H := zN H
       obtain rfl := Option.some.inj H
       obtain ⟨hcz16_0, hcz16_1, hcz16_2, hcz16_3, hfz16_0, hfz16_1, hfz16_2, hfz16_3⟩ := zC4 BK127
       have p128 : 0 ≤ (x7_1 : Int) := zW
       have q128 : x7_1 < (l0_3.length : Int) := zW
       obtain ⟨ad128, A128_3, c128_3, e128, hx128_0, hx128_1, hx128_2, hx128_3, hl128_3, hi128_3⟩ := at_T66 HR0_3.out x7_1 p128 q128
       cases e128
       replace hx128_0 := zc HB hx128_0
       replace hx128_1 := zc HB hx128_1
       replace hx128_2 := zc HB hx128_2
       replace hx128_3 := zc HB hx128_3
       have HR128_3 := Aside0.mk hi128_3
       have HC128_3 := Aside0.mk hl128_3
       clear hi128_3 hl128_3
       replace p128 := eq_true p128
       replace q128 := eq_true q128
       go_wp2_with (first | ((with_reducible refine gate_callee (f := 34) rfl ?_); refine zG (some 20) Try.func34 #[.int .i64 ((rd_T66 l0_3 x7_1).f0)] ?_; (with_reducible refine (spec_l9IsE.calls ((rd_T66 l0_3 x7_1).f0) false _ A8.out).mono ?_); rintro e w' ⟨rfl, ⟨nd, rfl⟩⟩; refine ⟨_, rfl, ?_⟩))
       go_ret
       exact ⟨zE, zB⟩
     ·exact absurd H (by simp)
    ·exact absurd H (by simp)
   ·have c5b0 := decide_eq_false c5
    clear c5
    obtain rfl := Option.some.inj H
    go_wp2
    go_ret
    exact ⟨zE, zB⟩

theorem spec_l9Blocks.step (k : Nat) (ih110 : ∀ m_, m_ < k → ∀ (a0_0 : Int) (a0_1 : Int) (a0_2 : ByteArray) (A0_3 : Option Addr) (c0_3 : Nat) (l0_3 : List (S66)) (a1 : Int) (a2 : Int) (r : Bool) (w : World) (hr0_3 : Kd.C k66 w A0_3 l0_3.length l0_3) (hc0_3 : l0_3.length ≤ c0_3) (h : spec_l9Es.f m_ a0_0 a0_1 a0_2 l0_3 a1 a2 = some r),
  Calls Try.prog 110 #[.agg #[.int .i64 a0_0, .int .i64 a0_1, .string a0_2, .slice A0_3 l0_3.length c0_3], .int .i64 a1, .int .i64 a2] w fun e w' => e = .returned (.bool r) ∧ Below w.heap.size w w') (ih111 : ∀ m_, m_ < k → ∀ (a0_0 : Int) (a0_1 : Int) (a0_2 : ByteArray) (A0_3 : Option Addr) (c0_3 : Nat) (l0_3 : List (S66)) (a1 : Int) (r : Bool) (w : World) (hr0_3 : Kd.C k66 w A0_3 l0_3.length l0_3) (hc0_3 : l0_3.length ≤ c0_3) (h : spec_l9Blocks.f m_ a0_0 a0_1 a0_2 l0_3 a1 = some r),
  Calls Try.prog 111 #[.agg #[.int .i64 a0_0, .int .i64 a0_1, .string a0_2, .slice A0_3 l0_3.length c0_3], .int .i64 a1] w fun e w' => e = .returned (.bool r) ∧ Below w.heap.size w w') (ih74 : ∀ m_, m_ < k → ∀ (a0_0 : Int) (a0_1 : Int) (a0_2 : ByteArray) (A0_3 : Option Addr) (c0_3 : Nat) (l0_3 : List (S66)) (r : Bool) (w : World) (hr0_3 : Kd.C k66 w A0_3 l0_3.length l0_3) (hc0_3 : l0_3.length ≤ c0_3) (h : spec_l9Kids.f m_ a0_0 a0_1 a0_2 l0_3 = some r),
  Calls Try.prog 74 #[.agg #[.int .i64 a0_0, .int .i64 a0_1, .string a0_2, .slice A0_3 l0_3.length c0_3]] w fun e w' => e = .returned (.bool r) ∧ Below w.heap.size w w') (ih35 : ∀ m_, m_ < k → ∀ (a0_0 : Int) (a0_1 : Int) (a0_2 : ByteArray) (A0_3 : Option Addr) (c0_3 : Nat) (l0_3 : List (S66)) (r : Bool) (w : World) (hr0_3 : Kd.C k66 w A0_3 l0_3.length l0_3) (hc0_3 : l0_3.length ≤ c0_3) (h : spec_l9Node.f m_ a0_0 a0_1 a0_2 l0_3 = some r),
  Calls Try.prog 35 #[.agg #[.int .i64 a0_0, .int .i64 a0_1, .string a0_2, .slice A0_3 l0_3.length c0_3]] w fun e w' => e = .returned (.bool r) ∧ Below w.heap.size w w') : ∀ (a0_0 : Int) (a0_1 : Int) (a0_2 : ByteArray) (A0_3 : Option Addr) (c0_3 : Nat) (l0_3 : List (S66)) (a1 : Int) (r : Bool) (w : World) (hr0_3 : Kd.C k66 w A0_3 l0_3.length l0_3) (hc0_3 : l0_3.length ≤ c0_3) (h : spec_l9Blocks.f k a0_0 a0_1 a0_2 l0_3 a1 = some r),
  Calls Try.prog 111 #[.agg #[.int .i64 a0_0, .int .i64 a0_1, .string a0_2, .slice A0_3 l0_3.length c0_3], .int .i64 a1] w fun e w' => e = .returned (.bool r) ∧ Below w.heap.size w w' := by
 intro a0_0 a0_1 a0_2 A0_3 c0_3 l0_3 a1 r w hr0_3 hc0_3 h
 cases k with
 | zero => exact absurd h (by simp [spec_l9Blocks.f])
 | succ k =>
 rw [spec_l9Blocks.f] at h
 have hu66 := Try.underlying66
 have HR0_3 := Aside0.mk hr0_3
 have HC0_3 := Aside0.mk hc0_3
 clear hr0_3 hc0_3
 have HB := Aside0.mk (Below.refl w.heap.size w)
 have H := h
 clear h
 have H' := Aside0.mk H
 clear H
 go_enter Try.func111, Try.ntmps111
 go_wp2_with (first | ((with_reducible refine gate_dst (N := 2) rfl ?_); refine zX (N := 2) (cs := #[.int .i64 a0_0, .int .i64 a0_1, .string a0_2, .slice A0_3 l0_3.length c0_3]) (t := 66) ?_; intro gb132 hg w3 hbox hb; have n_ := z4 (zs hb) (hbox) (zl hg) (zl hg); clear HB; obtain ⟨HB, BK132, GW132, GE132⟩ := n_; clear hb hbox hg))
 go_loopg [5] k (fun kq v5 w' => ∃ (x5_1 : Int), v5 = .int .i64 x5_1 ∧ Aside0 (spec_l9Blocks.l0 kq x5_1 a0_0 a0_1 a0_2 l0_3 = some r) ∧ Aside0 (kq ≤ k) ∧ Aside0 (w'.heap[gb132]? = some (.cells #[.int .i64 a0_0, .int .i64 a0_1, .string a0_2, (.slice A0_3 l0_3.length c0_3)] 66 (0, 0))) ∧ Aside0 (Below w.heap.size w w'))
 case atStart => exact ⟨(a1), zS, H', ⟨Nat.le_refl _⟩, ⟨zP BK132⟩, ⟨zB⟩⟩
 case round =>
  clear H'
  obtain ⟨x5_1, rfl, HA, HK1, BK132, HB⟩ := hrel
  cases gk with
  | zero => exact absurd HA.out (by simp [spec_l9Blocks.l0])
  | succ k1 =>
   have H := HA.out
   clear HA
   simp only [spec_l9Blocks.l0] at H
   replace H := zI H; obtain ⟨c4, H⟩ | ⟨c4, H⟩ := H
   ·have c4b0 := decide_eq_true c4
    clear c4
    replace H := zI H; obtain ⟨c5, H⟩ | ⟨c5, H⟩ := H
    ·have c5b0 := decide_eq_true c5
     clear c5
     replace H := zI H; obtain ⟨c6, H⟩ | ⟨c6, H⟩ := H
     ·have c6b0 := beq_iff_eq.mpr c6
      have c6b1 := bne_eq_false_iff_eq.mpr c6
      clear c6
      replace H := zO H; obtain ⟨t135, A7, H⟩ := H
      by_cases c8 : t135 = true
      ·subst c8; replace H := zT H
       have H' := Aside0.mk H
       clear H
       obtain ⟨hcz9_0, hcz9_1, hcz9_2, hcz9_3, hfz9_0, hfz9_1, hfz9_2, hfz9_3⟩ := zC4 BK132
       have p133 : 0 ≤ (x5_1 : Int) := zW
       have q133 : x5_1 < (l0_3.length : Int) := zW
       obtain ⟨ad133, A133_3, c133_3, e133, hx133_0, hx133_1, hx133_2, hx133_3, hl133_3, hi133_3⟩ := at_T66 HR0_3.out x5_1 p133 q133
       cases e133
       replace hx133_0 := zc HB hx133_0
       replace hx133_1 := zc HB hx133_1
       replace hx133_2 := zc HB hx133_2
       replace hx133_3 := zc HB hx133_3
       have HR133_3 := Aside0.mk hi133_3
       have HC133_3 := Aside0.mk hl133_3
       clear hi133_3 hl133_3
       replace p133 := eq_true p133
       replace q133 := eq_true q133
       have p134 : 0 ≤ (x5_1 : Int) := zW
       have q134 : x5_1 < (l0_3.length : Int) := zW
       obtain ⟨ad134, A134_3, c134_3, e134, hx134_0, hx134_1, hx134_2, hx134_3, hl134_3, hi134_3⟩ := at_T66 HR0_3.out x5_1 p134 q134
       obtain rfl : ad133 = ad134 := (by injection e134)
       replace hx134_0 := zc HB hx134_0
       replace hx134_1 := zc HB hx134_1
       replace hx134_2 := zc HB hx134_2
       replace hx134_3 := zc HB hx134_3
       have HR134_3 := Aside0.mk hi134_3
       have HC134_3 := Aside0.mk hl134_3
       clear hi134_3 hl134_3
       replace p134 := eq_true p134
       replace q134 := eq_true q134
       have ea_ := Option.some.inj (hx133_3.symm.trans hx134_3)
       injection ea_ with ea_ en_ ec_
       subst ea_
       subst ec_
       clear en_
       go_wp2_with (first | (go_at_call 35; (with_reducible refine (ih35 k1 (by have := HK1.out; omega) ((rd_T66 l0_3 x5_1).f0) ((rd_T66 l0_3 x5_1).f1) ((rd_T66 l0_3 x5_1).f2) _ _ ((rd_T66 l0_3 x5_1).f3) true _ (zR HR134_3) HC134_3.out A7.out).mono ?_); rintro e w10 ⟨rfl, hb⟩; have n_ := z2 (zb BK132 hb) (zs hb); clear BK132 HB; obtain ⟨BK132, HB⟩ := n_; (try clear hb)))
       go_roundg k1
       case measure => have := HK1.out; omega
       case rel => exact ⟨(wrap64 (x5_1 + 1)), zS, H', ⟨by have := HK1.out; omega⟩, ⟨zP BK132⟩, ⟨zB⟩⟩
      ·replace c8 := Bool.eq_false_iff.mpr c8; subst c8; replace H := zN H
       obtain rfl := Option.some.inj H
       obtain ⟨hcz11_0, hcz11_1, hcz11_2, hcz11_3, hfz11_0, hfz11_1, hfz11_2, hfz11_3⟩ := zC4 BK132
       have p133 : 0 ≤ (x5_1 : Int) := zW
       have q133 : x5_1 < (l0_3.length : Int) := zW
       obtain ⟨ad133, A133_3, c133_3, e133, hx133_0, hx133_1, hx133_2, hx133_3, hl133_3, hi133_3⟩ := at_T66 HR0_3.out x5_1 p133 q133
       cases e133
       replace hx133_0 := zc HB hx133_0
       replace hx133_1 := zc HB hx133_1
       replace hx133_2 := zc HB hx133_2
       replace hx133_3 := zc HB hx133_3
       have HR133_3 := Aside0.mk hi133_3
       have HC133_3 := Aside0.mk hl133_3
       clear hi133_3 hl133_3
       replace p133 := eq_true p133
       replace q133 := eq_true q133
       have p134 : 0 ≤ (x5_1 : Int) := zW
       have q134 : x5_1 < (l0_3.length : Int) := zW
       obtain ⟨ad134, A134_3, c134_3, e134, hx134_0, hx134_1, hx134_2, hx134_3, hl134_3, hi134_3⟩ := at_T66 HR0_3.out x5_1 p134 q134
       obtain rfl : ad133 = ad134 := (by injection e134)
       replace hx134_0 := zc HB hx134_0
       replace hx134_1 := zc HB hx134_1
       replace hx134_2 := zc HB hx134_2
       replace hx134_3 := zc HB hx134_3
       have HR134_3 := Aside0.mk hi134_3
       have HC134_3 := Aside0.mk hl134_3
       clear hi134_3 hl134_3
       replace p134 := eq_true p134
       replace q134 := eq_true q134
       have ea_ := Option.some.inj (hx133_3.symm.trans hx134_3)
       injection ea_ with ea_ en_ ec_
       subst ea_
       subst ec_
       clear en_
       go_wp2_with (first | (go_at_call 35; (with_reducible refine (ih35 k1 (by have := HK1.out; omega) ((rd_T66 l0_3 x5_1).f0) ((rd_T66 l0_3 x5_1).f1) ((rd_T66 l0_3 x5_1).f2) _ _ ((rd_T66 l0_3 x5_1).f3) false _ (zR HR134_3) HC134_3.out A7.out).mono ?_); rintro e w12 ⟨rfl, hb⟩; have n_ := z2 (zb BK132 hb) (zs hb); clear BK132 HB; obtain ⟨BK132, HB⟩ := n_; (try clear hb)))
       go_ret
       exact ⟨zE, zB⟩
     ·have c6b0 := beq_eq_false_iff_ne.mpr c6
      have c6b1 := bne_iff_ne.mpr c6
      obtain rfl := Option.some.inj H
      obtain ⟨hcz13_0, hcz13_1, hcz13_2, hcz13_3, hfz13_0, hfz13_1, hfz13_2, hfz13_3⟩ := zC4 BK132
      have p133 : 0 ≤ (x5_1 : Int) := zW
      have q133 : x5_1 < (l0_3.length : Int) := zW
      obtain ⟨ad133, A133_3, c133_3, e133, hx133_0, hx133_1, hx133_2, hx133_3, hl133_3, hi133_3⟩ := at_T66 HR0_3.out x5_1 p133 q133
      cases e133
      replace hx133_0 := zc HB hx133_0
      replace hx133_1 := zc HB hx133_1
      replace hx133_2 := zc HB hx133_2
      replace hx133_3 := zc HB hx133_3
      have HR133_3 := Aside0.mk hi133_3
      have HC133_3 := Aside0.mk hl133_3
      clear hi133_3 hl133_3
      replace p133 := eq_true p133
      replace q133 := eq_true q133
      go_wp2
      go_ret
      exact ⟨zE, zB⟩
    ·exact absurd H (by simp)
   ·have c4b0 := decide_eq_false c4
    clear c4
    obtain rfl := Option.some.inj H
    obtain ⟨hcz14_0, hcz14_1, hcz14_2, hcz14_3, hfz14_0, hfz14_1, hfz14_2, hfz14_3⟩ := zC4 BK132
    go_wp2
    go_ret
    exact ⟨zE, zB⟩

end Go.Proofs.Ythigelphmjepaaa.QFnExactTidy
