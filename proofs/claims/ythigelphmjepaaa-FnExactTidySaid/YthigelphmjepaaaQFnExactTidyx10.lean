/- Written by wip/pr2, a program of this session. -/
import Derived.Test.YthigelphmjepaaaQFnExactTidyx0
import Derived.Test.YthigelphmjepaaaQFnExactTidyx1
import Derived.Test.YthigelphmjepaaaQFnExactTidyx2
import Derived.Test.YthigelphmjepaaaQFnExactTidyx8
import Derived.Test.YthigelphmjepaaaWFnExactTidy
namespace Go.Proofs.Ythigelphmjepaaa.QFnExactTidy
open Go.RowKit Go.Proofs.YthigelphmjepaaaW.PrintWords Go.Proofs.YthigelphmjepaaaW.PrintLast Go.Proofs.YthigelphmjepaaaW.PrintMore Go.Proofs.YthigelphmjepaaaW.Mac
attribute [local go_sem] max2_int min2_int max_two min_two max_three min_three max_four min_four   -- for this text's walks alone
set_option linter.unusedVariables false
set_option linter.unusedSimpArgs false
set_option maxHeartbeats 8000000
set_option maxRecDepth 100000

theorem spec_l9Kids.step (k : Nat) (ih110 : ∀ m_, m_ < k → ∀ (a0_0 : Int) (a0_1 : Int) (a0_2 : ByteArray) (A0_3 : Option Addr) (c0_3 : Nat) (l0_3 : List (S66)) (a1 : Int) (a2 : Int) (r : Bool) (w : World) (hr0_3 : Kd.C k66 w A0_3 l0_3.length l0_3) (hc0_3 : l0_3.length ≤ c0_3) (h : spec_l9Es.f m_ a0_0 a0_1 a0_2 l0_3 a1 a2 = some r),
  Calls Try.prog 110 #[.agg #[.int .i64 a0_0, .int .i64 a0_1, .string a0_2, .slice A0_3 l0_3.length c0_3], .int .i64 a1, .int .i64 a2] w fun e w' => e = .returned (.bool r) ∧ Below w.heap.size w w') (ih111 : ∀ m_, m_ < k → ∀ (a0_0 : Int) (a0_1 : Int) (a0_2 : ByteArray) (A0_3 : Option Addr) (c0_3 : Nat) (l0_3 : List (S66)) (a1 : Int) (r : Bool) (w : World) (hr0_3 : Kd.C k66 w A0_3 l0_3.length l0_3) (hc0_3 : l0_3.length ≤ c0_3) (h : spec_l9Blocks.f m_ a0_0 a0_1 a0_2 l0_3 a1 = some r),
  Calls Try.prog 111 #[.agg #[.int .i64 a0_0, .int .i64 a0_1, .string a0_2, .slice A0_3 l0_3.length c0_3], .int .i64 a1] w fun e w' => e = .returned (.bool r) ∧ Below w.heap.size w w') (ih74 : ∀ m_, m_ < k → ∀ (a0_0 : Int) (a0_1 : Int) (a0_2 : ByteArray) (A0_3 : Option Addr) (c0_3 : Nat) (l0_3 : List (S66)) (r : Bool) (w : World) (hr0_3 : Kd.C k66 w A0_3 l0_3.length l0_3) (hc0_3 : l0_3.length ≤ c0_3) (h : spec_l9Kids.f m_ a0_0 a0_1 a0_2 l0_3 = some r),
  Calls Try.prog 74 #[.agg #[.int .i64 a0_0, .int .i64 a0_1, .string a0_2, .slice A0_3 l0_3.length c0_3]] w fun e w' => e = .returned (.bool r) ∧ Below w.heap.size w w') (ih35 : ∀ m_, m_ < k → ∀ (a0_0 : Int) (a0_1 : Int) (a0_2 : ByteArray) (A0_3 : Option Addr) (c0_3 : Nat) (l0_3 : List (S66)) (r : Bool) (w : World) (hr0_3 : Kd.C k66 w A0_3 l0_3.length l0_3) (hc0_3 : l0_3.length ≤ c0_3) (h : spec_l9Node.f m_ a0_0 a0_1 a0_2 l0_3 = some r),
  Calls Try.prog 35 #[.agg #[.int .i64 a0_0, .int .i64 a0_1, .string a0_2, .slice A0_3 l0_3.length c0_3]] w fun e w' => e = .returned (.bool r) ∧ Below w.heap.size w w') : ∀ (a0_0 : Int) (a0_1 : Int) (a0_2 : ByteArray) (A0_3 : Option Addr) (c0_3 : Nat) (l0_3 : List (S66)) (r : Bool) (w : World) (hr0_3 : Kd.C k66 w A0_3 l0_3.length l0_3) (hc0_3 : l0_3.length ≤ c0_3) (h : spec_l9Kids.f k a0_0 a0_1 a0_2 l0_3 = some r),
  Calls Try.prog 74 #[.agg #[.int .i64 a0_0, .int .i64 a0_1, .string a0_2, .slice A0_3 l0_3.length c0_3]] w fun e w' => e = .returned (.bool r) ∧ Below w.heap.size w w' := by
 intro a0_0 a0_1 a0_2 A0_3 c0_3 l0_3 r w hr0_3 hc0_3 h
 cases k with
 | zero => exact absurd h (by simp [spec_l9Kids.f])
 | succ k =>
 rw [spec_l9Kids.f] at h
 have hu66 := Try.underlying66
 have HR0_3 := Aside0.mk hr0_3
 have HC0_3 := Aside0.mk hc0_3
 clear hr0_3 hc0_3
 have HB := Aside0.mk (Below.refl w.heap.size w)
 have H := h
 clear h
 have HC2 := Aside0.mk H
 clear H
 go_enter Try.func74, Try.ntmps74
 go_upto_if 10 with (first | ((with_reducible refine gate_dst (N := 1) rfl ?_); refine zX (N := 1) (cs := #[.int .i64 a0_0, .int .i64 a0_1, .string a0_2, .slice A0_3 l0_3.length c0_3]) (t := 66) ?_; intro gb136 hg w3 hbox hb; have n_ := z4 (zs hb) (hbox) (zl hg) (zl hg); clear HB; obtain ⟨HB, BK136, GW136, GE136⟩ := n_; clear hb hbox hg; obtain ⟨hcz4_0, hcz4_1, hcz4_2, hcz4_3, hfz4_0, hfz4_1, hfz4_2, hfz4_3⟩ := zC4 BK136))
 (try simp only [Act.put, List.setIfInBounds_toArray, List.set_cons_zero, List.set_cons_succ])
 go_cut [10] (fun v10 wc => ∃ (kq : Nat) (x10_1 : Bool), v10 = .bool x10_1 ∧ Aside0 (spec_l9Kids.j0 kq (l0_3.length : Int) a0_0 x10_1 a0_0 a0_1 a0_2 l0_3 = some r) ∧ Aside0 (kq ≤ k) ∧ Aside0 (wc.heap[gb136]? = some (.cells #[.int .i64 a0_0, .int .i64 a0_1, .string a0_2, (.slice A0_3 l0_3.length c0_3)] 66 (0, 0))) ∧ Aside0 (Below w.heap.size w wc))
 case first =>
  have H := HC2.out
  clear HC2
  replace H := zI H; obtain ⟨c5, H⟩ | ⟨c5, H⟩ := H
  ·have c5b0 := beq_iff_eq.mpr c5
   have c5b1 := bne_eq_false_iff_eq.mpr c5
   clear c5
   (first | rw [c5b0] | (simp only [i64_w, i32_w]; rw [c5b0]) | skip)
   have H' := Aside0.mk H
   clear H
   go_wp2
   go_meet
   case rel => exact ⟨_, ((a0_0 == 5)), zS, H', ⟨by first | omega | exact Nat.le_refl _⟩, ⟨zP BK136⟩, ⟨zB⟩⟩
  ·have c5b0 := beq_eq_false_iff_ne.mpr c5
   have c5b1 := bne_iff_ne.mpr c5
   (first | rw [c5b0] | (simp only [i64_w, i32_w]; rw [c5b0]) | skip)
   replace H := zI H; obtain ⟨c6, H⟩ | ⟨c6, H⟩ := H
   ·have c6b0 := beq_iff_eq.mpr c6
    have c6b1 := bne_eq_false_iff_eq.mpr c6
    clear c6
    have H' := Aside0.mk H
    clear H
    go_wp2
    go_meet
    case rel => exact ⟨_, ((a0_0 == 6)), zS, H', ⟨by first | omega | exact Nat.le_refl _⟩, ⟨zP BK136⟩, ⟨zB⟩⟩
   ·have c6b0 := beq_eq_false_iff_ne.mpr c6
    have c6b1 := bne_iff_ne.mpr c6
    replace H := zI H; obtain ⟨c7, H⟩ | ⟨c7, H⟩ := H
    ·have c7b0 := beq_iff_eq.mpr c7
     have c7b1 := bne_eq_false_iff_eq.mpr c7
     clear c7
     have H' := Aside0.mk H
     clear H
     go_wp2
     go_meet
     case rel => exact ⟨_, ((a0_0 == 22)), zS, H', ⟨by first | omega | exact Nat.le_refl _⟩, ⟨zP BK136⟩, ⟨zB⟩⟩
    ·have c7b0 := beq_eq_false_iff_ne.mpr c7
     have c7b1 := bne_iff_ne.mpr c7
     replace H := zI H; obtain ⟨c8, H⟩ | ⟨c8, H⟩ := H
     ·have c8b0 := beq_iff_eq.mpr c8
      have c8b1 := bne_eq_false_iff_eq.mpr c8
      clear c8
      have H' := Aside0.mk H
      clear H
      go_wp2
      go_meet
      case rel => exact ⟨_, ((a0_0 == 23)), zS, H', ⟨by first | omega | exact Nat.le_refl _⟩, ⟨zP BK136⟩, ⟨zB⟩⟩
     ·have c8b0 := beq_eq_false_iff_ne.mpr c8
      have c8b1 := bne_iff_ne.mpr c8
      replace H := zI H; obtain ⟨c9, H⟩ | ⟨c9, H⟩ := H
      ·have c9b0 := beq_iff_eq.mpr c9
       have c9b1 := bne_eq_false_iff_eq.mpr c9
       clear c9
       have H' := Aside0.mk H
       clear H
       go_wp2
       go_meet
       case rel => exact ⟨_, ((a0_0 == 34)), zS, H', ⟨by first | omega | exact Nat.le_refl _⟩, ⟨zP BK136⟩, ⟨zB⟩⟩
      ·have c9b0 := beq_eq_false_iff_ne.mpr c9
       have c9b1 := bne_iff_ne.mpr c9
       have H' := Aside0.mk H
       clear H
       go_wp2
       go_meet
       case rel => exact ⟨_, ((a0_0 == 35)), zS, H', ⟨by first | omega | exact Nat.le_refl _⟩, ⟨zP BK136⟩, ⟨zB⟩⟩
 case rest =>
  clear HC2
  (try clear hcz4_0); (try clear hcz4_1); (try clear hcz4_2); (try clear hcz4_3); (try clear hfz4_0); (try clear hfz4_1); (try clear hfz4_2); (try clear hfz4_3)
  obtain ⟨kq, x10_1, rfl, HA, HJ1, BK136, HB⟩ := hcut
  cases kq with
  | zero => exact absurd HA.out (by simp [spec_l9Kids.j0])
  | succ kj1 =>
   have H := HA.out
   clear HA
   simp only [spec_l9Kids.j0] at H
   by_cases c10 : x10_1 = true
   ·subst c10; replace H := zT H
    replace H := zI H; obtain ⟨c11, H⟩ | ⟨c11, H⟩ := H
    ·have c11b0 := beq_iff_eq.mpr c11
     have c11b1 := bne_eq_false_iff_eq.mpr c11
     clear c11
     replace H := zO H; obtain ⟨t137, A12, H⟩ := H
     obtain rfl := Option.some.inj H
     obtain ⟨hcz13_0, hcz13_1, hcz13_2, hcz13_3, hfz13_0, hfz13_1, hfz13_2, hfz13_3⟩ := zC4 BK136
     go_wp2_with (first | (go_at_call 110; (with_reducible refine (ih110 kj1 (by have := HJ1.out; omega) a0_0 a0_1 a0_2 _ _ l0_3 0 1 t137 _ (zR HR0_3) HC0_3.out A12.out).mono ?_); rintro e w14 ⟨rfl, hb⟩; have n_ := z2 (zb BK136 hb) (zs hb); clear BK136 HB; obtain ⟨BK136, HB⟩ := n_; (try clear hb)))
     go_ret
     exact ⟨zE, zB⟩
    ·have c11b0 := beq_eq_false_iff_ne.mpr c11
     have c11b1 := bne_iff_ne.mpr c11
     obtain rfl := Option.some.inj H
     go_wp2
     go_ret
     exact ⟨zE, zB⟩
   ·replace c10 := Bool.eq_false_iff.mpr c10; subst c10; replace H := zN H
    have HC15 := Aside0.mk H
    clear H
    go_upto_if 23 with (fail)
    go_cut [23] (fun v23 wc => ∃ (kq : Nat) (x23_14 : Bool), v23 = .bool x23_14 ∧ Aside0 (spec_l9Kids.j1 kq (l0_3.length : Int) a0_0 x23_14 a0_0 a0_1 a0_2 l0_3 = some r) ∧ Aside0 (kq ≤ kj1) ∧ Aside0 (wc.heap[gb136]? = some (.cells #[.int .i64 a0_0, .int .i64 a0_1, .string a0_2, (.slice A0_3 l0_3.length c0_3)] 66 (0, 0))) ∧ Aside0 (Below w.heap.size w wc))
    case first =>
     have H := HC15.out
     clear HC15
     replace H := zI H; obtain ⟨c16, H⟩ | ⟨c16, H⟩ := H
     ·have c16b0 := beq_iff_eq.mpr c16
      have c16b1 := bne_eq_false_iff_eq.mpr c16
      clear c16
      (first | rw [c16b0] | (simp only [i64_w, i32_w]; rw [c16b0]) | skip)
      have H' := Aside0.mk H
      clear H
      go_wp2
      go_meet
      case rel => exact ⟨_, ((a0_0 == 9)), zS, H', ⟨by have := HJ1.out; first | omega | exact Nat.le_refl _⟩, ⟨zP BK136⟩, ⟨zB⟩⟩
     ·have c16b0 := beq_eq_false_iff_ne.mpr c16
      have c16b1 := bne_iff_ne.mpr c16
      (first | rw [c16b0] | (simp only [i64_w, i32_w]; rw [c16b0]) | skip)
      replace H := zI H; obtain ⟨c17, H⟩ | ⟨c17, H⟩ := H
      ·have c17b0 := beq_iff_eq.mpr c17
       have c17b1 := bne_eq_false_iff_eq.mpr c17
       clear c17
       have H' := Aside0.mk H
       clear H
       go_wp2
       go_meet
       case rel => exact ⟨_, ((a0_0 == 10)), zS, H', ⟨by have := HJ1.out; first | omega | exact Nat.le_refl _⟩, ⟨zP BK136⟩, ⟨zB⟩⟩
      ·have c17b0 := beq_eq_false_iff_ne.mpr c17
       have c17b1 := bne_iff_ne.mpr c17
       replace H := zI H; obtain ⟨c18, H⟩ | ⟨c18, H⟩ := H
       ·have c18b0 := beq_iff_eq.mpr c18
        have c18b1 := bne_eq_false_iff_eq.mpr c18
        clear c18
        have H' := Aside0.mk H
        clear H
        go_wp2
        go_meet
        case rel => exact ⟨_, ((a0_0 == 11)), zS, H', ⟨by have := HJ1.out; first | omega | exact Nat.le_refl _⟩, ⟨zP BK136⟩, ⟨zB⟩⟩
       ·have c18b0 := beq_eq_false_iff_ne.mpr c18
        have c18b1 := bne_iff_ne.mpr c18
        replace H := zI H; obtain ⟨c19, H⟩ | ⟨c19, H⟩ := H
        ·have c19b0 := beq_iff_eq.mpr c19
         have c19b1 := bne_eq_false_iff_eq.mpr c19
         clear c19
         have H' := Aside0.mk H
         clear H
         go_wp2
         go_meet
         case rel => exact ⟨_, ((a0_0 == 12)), zS, H', ⟨by have := HJ1.out; first | omega | exact Nat.le_refl _⟩, ⟨zP BK136⟩, ⟨zB⟩⟩
        ·have c19b0 := beq_eq_false_iff_ne.mpr c19
         have c19b1 := bne_iff_ne.mpr c19
         replace H := zI H; obtain ⟨c20, H⟩ | ⟨c20, H⟩ := H
         ·have c20b0 := beq_iff_eq.mpr c20
          have c20b1 := bne_eq_false_iff_eq.mpr c20
          clear c20
          have H' := Aside0.mk H
          clear H
          go_wp2
          go_meet
          case rel => exact ⟨_, ((a0_0 == 13)), zS, H', ⟨by have := HJ1.out; first | omega | exact Nat.le_refl _⟩, ⟨zP BK136⟩, ⟨zB⟩⟩
         ·have c20b0 := beq_eq_false_iff_ne.mpr c20
          have c20b1 := bne_iff_ne.mpr c20
          replace H := zI H; obtain ⟨c21, H⟩ | ⟨c21, H⟩ := H
          ·have c21b0 := beq_iff_eq.mpr c21
           have c21b1 := bne_eq_false_iff_eq.mpr c21
           clear c21
           have H' := Aside0.mk H
           clear H
           go_wp2
           go_meet
           case rel => exact ⟨_, ((a0_0 == 14)), zS, H', ⟨by have := HJ1.out; first | omega | exact Nat.le_refl _⟩, ⟨zP BK136⟩, ⟨zB⟩⟩
          ·have c21b0 := beq_eq_false_iff_ne.mpr c21
           have c21b1 := bne_iff_ne.mpr c21
           replace H := zI H; obtain ⟨c22, H⟩ | ⟨c22, H⟩ := H
           ·have c22b0 := beq_iff_eq.mpr c22
            have c22b1 := bne_eq_false_iff_eq.mpr c22
            clear c22
            have H' := Aside0.mk H
            clear H
            go_wp2
            go_meet
            case rel => exact ⟨_, ((a0_0 == 15)), zS, H', ⟨by have := HJ1.out; first | omega | exact Nat.le_refl _⟩, ⟨zP BK136⟩, ⟨zB⟩⟩
           ·have c22b0 := beq_eq_false_iff_ne.mpr c22
            have c22b1 := bne_iff_ne.mpr c22
            replace H := zI H; obtain ⟨c23, H⟩ | ⟨c23, H⟩ := H
            ·have c23b0 := beq_iff_eq.mpr c23
             have c23b1 := bne_eq_false_iff_eq.mpr c23
             clear c23
             have H' := Aside0.mk H
             clear H
             go_wp2
             go_meet
             case rel => exact ⟨_, ((a0_0 == 16)), zS, H', ⟨by have := HJ1.out; first | omega | exact Nat.le_refl _⟩, ⟨zP BK136⟩, ⟨zB⟩⟩
            ·have c23b0 := beq_eq_false_iff_ne.mpr c23
             have c23b1 := bne_iff_ne.mpr c23
             replace H := zI H; obtain ⟨c24, H⟩ | ⟨c24, H⟩ := H
             ·have c24b0 := beq_iff_eq.mpr c24
              have c24b1 := bne_eq_false_iff_eq.mpr c24
              clear c24
              have H' := Aside0.mk H
              clear H
              go_wp2
              go_meet
              case rel => exact ⟨_, ((a0_0 == 17)), zS, H', ⟨by have := HJ1.out; first | omega | exact Nat.le_refl _⟩, ⟨zP BK136⟩, ⟨zB⟩⟩
             ·have c24b0 := beq_eq_false_iff_ne.mpr c24
              have c24b1 := bne_iff_ne.mpr c24
              replace H := zI H; obtain ⟨c25, H⟩ | ⟨c25, H⟩ := H
              ·have c25b0 := beq_iff_eq.mpr c25
               have c25b1 := bne_eq_false_iff_eq.mpr c25
               clear c25
               have H' := Aside0.mk H
               clear H
               go_wp2
               go_meet
               case rel => exact ⟨_, ((a0_0 == 18)), zS, H', ⟨by have := HJ1.out; first | omega | exact Nat.le_refl _⟩, ⟨zP BK136⟩, ⟨zB⟩⟩
              ·have c25b0 := beq_eq_false_iff_ne.mpr c25
               have c25b1 := bne_iff_ne.mpr c25
               replace H := zI H; obtain ⟨c26, H⟩ | ⟨c26, H⟩ := H
               ·have c26b0 := beq_iff_eq.mpr c26
                have c26b1 := bne_eq_false_iff_eq.mpr c26
                clear c26
                have H' := Aside0.mk H
                clear H
                go_wp2
                go_meet
                case rel => exact ⟨_, ((a0_0 == 19)), zS, H', ⟨by have := HJ1.out; first | omega | exact Nat.le_refl _⟩, ⟨zP BK136⟩, ⟨zB⟩⟩
               ·have c26b0 := beq_eq_false_iff_ne.mpr c26
                have c26b1 := bne_iff_ne.mpr c26
                replace H := zI H; obtain ⟨c27, H⟩ | ⟨c27, H⟩ := H
                ·have c27b0 := beq_iff_eq.mpr c27
                 have c27b1 := bne_eq_false_iff_eq.mpr c27
                 clear c27
                 have H' := Aside0.mk H
                 clear H
                 go_wp2
                 go_meet
                 case rel => exact ⟨_, ((a0_0 == 20)), zS, H', ⟨by have := HJ1.out; first | omega | exact Nat.le_refl _⟩, ⟨zP BK136⟩, ⟨zB⟩⟩
                ·have c27b0 := beq_eq_false_iff_ne.mpr c27
                 have c27b1 := bne_iff_ne.mpr c27
                 replace H := zI H; obtain ⟨c28, H⟩ | ⟨c28, H⟩ := H
                 ·have c28b0 := beq_iff_eq.mpr c28
                  have c28b1 := bne_eq_false_iff_eq.mpr c28
                  clear c28
                  have H' := Aside0.mk H
                  clear H
                  go_wp2
                  go_meet
                  case rel => exact ⟨_, ((a0_0 == 21)), zS, H', ⟨by have := HJ1.out; first | omega | exact Nat.le_refl _⟩, ⟨zP BK136⟩, ⟨zB⟩⟩
                 ·have c28b0 := beq_eq_false_iff_ne.mpr c28
                  have c28b1 := bne_iff_ne.mpr c28
                  replace H := zI H; obtain ⟨c29, H⟩ | ⟨c29, H⟩ := H
                  ·have c29b0 := beq_iff_eq.mpr c29
                   have c29b1 := bne_eq_false_iff_eq.mpr c29
                   clear c29
                   have H' := Aside0.mk H
                   clear H
                   go_wp2
                   go_meet
                   case rel => exact ⟨_, ((a0_0 == 24)), zS, H', ⟨by have := HJ1.out; first | omega | exact Nat.le_refl _⟩, ⟨zP BK136⟩, ⟨zB⟩⟩
                  ·have c29b0 := beq_eq_false_iff_ne.mpr c29
                   have c29b1 := bne_iff_ne.mpr c29
                   have H' := Aside0.mk H
                   clear H
                   go_wp2
                   go_meet
                   case rel => exact ⟨_, ((a0_0 == 25)), zS, H', ⟨by have := HJ1.out; first | omega | exact Nat.le_refl _⟩, ⟨zP BK136⟩, ⟨zB⟩⟩
    case rest =>
     clear HC15
     (try clear c10); (try clear hcz4_0); (try clear hcz4_1); (try clear hcz4_2); (try clear hcz4_3); (try clear hfz4_0); (try clear hfz4_1); (try clear hfz4_2); (try clear hfz4_3)
     obtain ⟨kq, x23_14, rfl, HA, HJ14, BK136, HB⟩ := hcut
     cases kq with
     | zero => exact absurd HA.out (by simp [spec_l9Kids.j1])
     | succ kj14 =>
      have H := HA.out
      clear HA
      simp only [spec_l9Kids.j1] at H
      by_cases c30 : x23_14 = true
      ·subst c30; replace H := zT H
       replace H := zI H; obtain ⟨c31, H⟩ | ⟨c31, H⟩ := H
       ·have c31b0 := beq_iff_eq.mpr c31
        have c31b1 := bne_eq_false_iff_eq.mpr c31
        clear c31
        replace H := zO H; obtain ⟨t138, A32, H⟩ := H
        obtain rfl := Option.some.inj H
        obtain ⟨hcz33_0, hcz33_1, hcz33_2, hcz33_3, hfz33_0, hfz33_1, hfz33_2, hfz33_3⟩ := zC4 BK136
        go_wp2_with (first | (go_at_call 110; (with_reducible refine (ih110 kj14 (by have := HJ1.out; have := HJ14.out; omega) a0_0 a0_1 a0_2 _ _ l0_3 0 2 t138 _ (zR HR0_3) HC0_3.out A32.out).mono ?_); rintro e w34 ⟨rfl, hb⟩; have n_ := z2 (zb BK136 hb) (zs hb); clear BK136 HB; obtain ⟨BK136, HB⟩ := n_; (try clear hb)))
        go_ret
        exact ⟨zE, zB⟩
       ·have c31b0 := beq_eq_false_iff_ne.mpr c31
        have c31b1 := bne_iff_ne.mpr c31
        obtain rfl := Option.some.inj H
        go_wp2
        go_ret
        exact ⟨zE, zB⟩
      ·replace c30 := Bool.eq_false_iff.mpr c30; subst c30; replace H := zN H
       have HC35 := Aside0.mk H
       clear H
       go_upto_if 45 with (fail)
       go_cut [45] (fun v45 wc => ∃ (kq : Nat) (x45_34 : Bool), v45 = .bool x45_34 ∧ Aside0 (spec_l9Kids.j2 kq (l0_3.length : Int) a0_0 x45_34 a0_0 a0_1 a0_2 l0_3 = some r) ∧ Aside0 (kq ≤ kj14) ∧ Aside0 (wc.heap[gb136]? = some (.cells #[.int .i64 a0_0, .int .i64 a0_1, .string a0_2, (.slice A0_3 l0_3.length c0_3)] 66 (0, 0))) ∧ Aside0 (Below w.heap.size w wc))
       case first =>
        have H := HC35.out
        clear HC35
        replace H := zI H; obtain ⟨c36, H⟩ | ⟨c36, H⟩ := H
        ·have c36b0 := beq_iff_eq.mpr c36
         have c36b1 := bne_eq_false_iff_eq.mpr c36
         clear c36
         (first | rw [c36b0] | (simp only [i64_w, i32_w]; rw [c36b0]) | skip)
         have H' := Aside0.mk H
         clear H
         go_wp2
         go_meet
         case rel => exact ⟨_, ((a0_0 == 26)), zS, H', ⟨by have := HJ1.out; have := HJ14.out; first | omega | exact Nat.le_refl _⟩, ⟨zP BK136⟩, ⟨zB⟩⟩
        ·have c36b0 := beq_eq_false_iff_ne.mpr c36
         have c36b1 := bne_iff_ne.mpr c36
         (first | rw [c36b0] | (simp only [i64_w, i32_w]; rw [c36b0]) | skip)
         have H' := Aside0.mk H
         clear H
         go_wp2
         go_meet
         case rel => exact ⟨_, ((a0_0 == 27)), zS, H', ⟨by have := HJ1.out; have := HJ14.out; first | omega | exact Nat.le_refl _⟩, ⟨zP BK136⟩, ⟨zB⟩⟩
       case rest =>
        clear HC35
        (try clear c10); (try clear c30); (try clear hcz4_0); (try clear hcz4_1); (try clear hcz4_2); (try clear hcz4_3); (try clear hfz4_0); (try clear hfz4_1); (try clear hfz4_2); (try clear hfz4_3)
        obtain ⟨kq, x45_34, rfl, HA, HJ34, BK136, HB⟩ := hcut
        cases kq with
        | zero => exact absurd HA.out (by simp [spec_l9Kids.j2])
        | succ kj34 =>
         have H := HA.out
         clear HA
         simp only [spec_l9Kids.j2] at H
         by_cases c37 : x45_34 = true
         ·subst c37; replace H := zT H
          replace H := zI H; obtain ⟨c38, H⟩ | ⟨c38, H⟩ := H
          ·have c38b0 := beq_iff_eq.mpr c38
           have c38b1 := bne_eq_false_iff_eq.mpr c38
           clear c38
           replace H := zI H; obtain ⟨c39, H⟩ | ⟨c39, H⟩ := H
           ·have c39b0 := decide_eq_true c39
            have c39b1 : decide (0 < l0_3.length) = true := decide_eq_true (by omega)
            clear c39
            replace H := zI H; obtain ⟨c40, H⟩ | ⟨c40, H⟩ := H
            ·have c40b0 := beq_iff_eq.mpr c40
             have c40b1 := bne_eq_false_iff_eq.mpr c40
             clear c40
             replace H := zO H; obtain ⟨t140, A41, H⟩ := H
             obtain rfl := Option.some.inj H
             obtain ⟨hcz42_0, hcz42_1, hcz42_2, hcz42_3, hfz42_0, hfz42_1, hfz42_2, hfz42_3⟩ := zC4 BK136
             have p139 : 0 ≤ (0 : Int) := (by omega)
             have q139 : 0 < (l0_3.length : Int) := zW
             obtain ⟨ad139, A139_3, c139_3, e139, hx139_0, hx139_1, hx139_2, hx139_3, hl139_3, hi139_3⟩ := at_T66 HR0_3.out 0 p139 q139
             cases e139
             have qi139 : (0 < l0_3.length) = True := eq_true (by omega)
             (try rw [show ((0 : Int)).toNat = 0 from rfl] at hx139_0 hx139_1 hx139_2 hx139_3)
             (try rw [show 0 * 4 = 0 from rfl] at hx139_0 hx139_1 hx139_2 hx139_3)
             (try rw [Addr.add_zero'] at hx139_0 hx139_1 hx139_2 hx139_3)
             replace hx139_0 := zc HB hx139_0
             replace hx139_1 := zc HB hx139_1
             replace hx139_2 := zc HB hx139_2
             replace hx139_3 := zc HB hx139_3
             have HR139_3 := Aside0.mk hi139_3
             have HC139_3 := Aside0.mk hl139_3
             clear hi139_3 hl139_3
             replace p139 := eq_true p139
             replace q139 := eq_true q139
             go_wp2_with (first | (go_at_call 110; (with_reducible refine (ih110 kj34 (by have := HJ1.out; have := HJ14.out; have := HJ34.out; omega) a0_0 a0_1 a0_2 _ _ l0_3 0 2 t140 _ (zR HR0_3) HC0_3.out A41.out).mono ?_); rintro e w43 ⟨rfl, hb⟩; have n_ := z2 (zb BK136 hb) (zs hb); clear BK136 HB; obtain ⟨BK136, HB⟩ := n_; (try clear hb)))
             go_ret
             exact ⟨zE, zB⟩
            ·have c40b0 := beq_eq_false_iff_ne.mpr c40
             have c40b1 := bne_iff_ne.mpr c40
             replace H := zI H; obtain ⟨c44, H⟩ | ⟨c44, H⟩ := H
             ·have c44b0 := beq_iff_eq.mpr c44
              have c44b1 := bne_eq_false_iff_eq.mpr c44
              clear c44
              replace H := zO H; obtain ⟨t142, A45, H⟩ := H
              obtain rfl := Option.some.inj H
              obtain ⟨hcz46_0, hcz46_1, hcz46_2, hcz46_3, hfz46_0, hfz46_1, hfz46_2, hfz46_3⟩ := zC4 BK136
              have p139 : 0 ≤ (0 : Int) := (by omega)
              have q139 : 0 < (l0_3.length : Int) := zW
              obtain ⟨ad139, A139_3, c139_3, e139, hx139_0, hx139_1, hx139_2, hx139_3, hl139_3, hi139_3⟩ := at_T66 HR0_3.out 0 p139 q139
              cases e139
              have qi139 : (0 < l0_3.length) = True := eq_true (by omega)
              (try rw [show ((0 : Int)).toNat = 0 from rfl] at hx139_0 hx139_1 hx139_2 hx139_3)
              (try rw [show 0 * 4 = 0 from rfl] at hx139_0 hx139_1 hx139_2 hx139_3)
              (try rw [Addr.add_zero'] at hx139_0 hx139_1 hx139_2 hx139_3)
              replace hx139_0 := zc HB hx139_0
              replace hx139_1 := zc HB hx139_1
              replace hx139_2 := zc HB hx139_2
              replace hx139_3 := zc HB hx139_3
              have HR139_3 := Aside0.mk hi139_3
              have HC139_3 := Aside0.mk hl139_3
              clear hi139_3 hl139_3
              replace p139 := eq_true p139
              replace q139 := eq_true q139
              have p141 : 0 ≤ (0 : Int) := (by omega)
              have q141 : 0 < (l0_3.length : Int) := zW
              obtain ⟨ad141, A141_3, c141_3, e141, hx141_0, hx141_1, hx141_2, hx141_3, hl141_3, hi141_3⟩ := at_T66 HR0_3.out 0 p141 q141
              obtain rfl : ad139 = ad141 := (by injection e141)
              have qi141 : (0 < l0_3.length) = True := eq_true (by omega)
              (try rw [show ((0 : Int)).toNat = 0 from rfl] at hx141_0 hx141_1 hx141_2 hx141_3)
              (try rw [show 0 * 4 = 0 from rfl] at hx141_0 hx141_1 hx141_2 hx141_3)
              (try rw [Addr.add_zero'] at hx141_0 hx141_1 hx141_2 hx141_3)
              replace hx141_0 := zc HB hx141_0
              replace hx141_1 := zc HB hx141_1
              replace hx141_2 := zc HB hx141_2
              replace hx141_3 := zc HB hx141_3
              have HR141_3 := Aside0.mk hi141_3
              have HC141_3 := Aside0.mk hl141_3
              clear hi141_3 hl141_3
              replace p141 := eq_true p141
              replace q141 := eq_true q141
              have ea_ := Option.some.inj (hx139_3.symm.trans hx141_3)
              injection ea_ with ea_ en_ ec_
              subst ea_
              subst ec_
              clear en_
              go_wp2_with (first | (go_at_call 110; (with_reducible refine (ih110 kj34 (by have := HJ1.out; have := HJ14.out; have := HJ34.out; omega) a0_0 a0_1 a0_2 _ _ l0_3 0 2 t142 _ (zR HR0_3) HC0_3.out A45.out).mono ?_); rintro e w47 ⟨rfl, hb⟩; have n_ := z2 (zb BK136 hb) (zs hb); clear BK136 HB; obtain ⟨BK136, HB⟩ := n_; (try clear hb)))
              go_ret
              exact ⟨zE, zB⟩
             ·have c44b0 := beq_eq_false_iff_ne.mpr c44
              have c44b1 := bne_iff_ne.mpr c44
              obtain rfl := Option.some.inj H
              obtain ⟨hcz48_0, hcz48_1, hcz48_2, hcz48_3, hfz48_0, hfz48_1, hfz48_2, hfz48_3⟩ := zC4 BK136
              have p139 : 0 ≤ (0 : Int) := (by omega)
              have q139 : 0 < (l0_3.length : Int) := zW
              obtain ⟨ad139, A139_3, c139_3, e139, hx139_0, hx139_1, hx139_2, hx139_3, hl139_3, hi139_3⟩ := at_T66 HR0_3.out 0 p139 q139
              cases e139
              have qi139 : (0 < l0_3.length) = True := eq_true (by omega)
              (try rw [show ((0 : Int)).toNat = 0 from rfl] at hx139_0 hx139_1 hx139_2 hx139_3)
              (try rw [show 0 * 4 = 0 from rfl] at hx139_0 hx139_1 hx139_2 hx139_3)
              (try rw [Addr.add_zero'] at hx139_0 hx139_1 hx139_2 hx139_3)
              replace hx139_0 := zc HB hx139_0
              replace hx139_1 := zc HB hx139_1
              replace hx139_2 := zc HB hx139_2
              replace hx139_3 := zc HB hx139_3
              have HR139_3 := Aside0.mk hi139_3
              have HC139_3 := Aside0.mk hl139_3
              clear hi139_3 hl139_3
              replace p139 := eq_true p139
              replace q139 := eq_true q139
              have p141 : 0 ≤ (0 : Int) := (by omega)
              have q141 : 0 < (l0_3.length : Int) := zW
              obtain ⟨ad141, A141_3, c141_3, e141, hx141_0, hx141_1, hx141_2, hx141_3, hl141_3, hi141_3⟩ := at_T66 HR0_3.out 0 p141 q141
              obtain rfl : ad139 = ad141 := (by injection e141)
              have qi141 : (0 < l0_3.length) = True := eq_true (by omega)
              (try rw [show ((0 : Int)).toNat = 0 from rfl] at hx141_0 hx141_1 hx141_2 hx141_3)
              (try rw [show 0 * 4 = 0 from rfl] at hx141_0 hx141_1 hx141_2 hx141_3)
              (try rw [Addr.add_zero'] at hx141_0 hx141_1 hx141_2 hx141_3)
              replace hx141_0 := zc HB hx141_0
              replace hx141_1 := zc HB hx141_1
              replace hx141_2 := zc HB hx141_2
              replace hx141_3 := zc HB hx141_3
              have HR141_3 := Aside0.mk hi141_3
              have HC141_3 := Aside0.mk hl141_3
              clear hi141_3 hl141_3
              replace p141 := eq_true p141
              replace q141 := eq_true q141
              have ea_ := Option.some.inj (hx139_3.symm.trans hx141_3)
              injection ea_ with ea_ en_ ec_
              subst ea_
              subst ec_
              clear en_
              go_wp2
              go_ret
              exact ⟨zE, zB⟩
           ·exact absurd H (by simp)
          ·have c38b0 := beq_eq_false_iff_ne.mpr c38
           have c38b1 := bne_iff_ne.mpr c38
           obtain rfl := Option.some.inj H
           go_wp2
           go_ret
           exact ⟨zE, zB⟩
         ·replace c37 := Bool.eq_false_iff.mpr c37; subst c37; replace H := zN H
          have HC49 := Aside0.mk H
          clear H
          go_upto_if 70 with (fail)
          go_cut [70] (fun v70 wc => ∃ (kq : Nat) (x70_48 : Bool), v70 = .bool x70_48 ∧ Aside0 (spec_l9Kids.j3 kq (l0_3.length : Int) a0_0 x70_48 a0_0 a0_1 a0_2 l0_3 = some r) ∧ Aside0 (kq ≤ kj34) ∧ Aside0 (wc.heap[gb136]? = some (.cells #[.int .i64 a0_0, .int .i64 a0_1, .string a0_2, (.slice A0_3 l0_3.length c0_3)] 66 (0, 0))) ∧ Aside0 (Below w.heap.size w wc))
          case first =>
           have H := HC49.out
           clear HC49
           replace H := zI H; obtain ⟨c50, H⟩ | ⟨c50, H⟩ := H
           ·have c50b0 := beq_iff_eq.mpr c50
            have c50b1 := bne_eq_false_iff_eq.mpr c50
            clear c50
            (first | rw [c50b0] | (simp only [i64_w, i32_w]; rw [c50b0]) | skip)
            have H' := Aside0.mk H
            clear H
            go_wp2
            go_meet
            case rel => exact ⟨_, ((a0_0 == 28)), zS, H', ⟨by have := HJ1.out; have := HJ14.out; have := HJ34.out; first | omega | exact Nat.le_refl _⟩, ⟨zP BK136⟩, ⟨zB⟩⟩
           ·have c50b0 := beq_eq_false_iff_ne.mpr c50
            have c50b1 := bne_iff_ne.mpr c50
            (first | rw [c50b0] | (simp only [i64_w, i32_w]; rw [c50b0]) | skip)
            have H' := Aside0.mk H
            clear H
            go_wp2
            go_meet
            case rel => exact ⟨_, ((a0_0 == 30)), zS, H', ⟨by have := HJ1.out; have := HJ14.out; have := HJ34.out; first | omega | exact Nat.le_refl _⟩, ⟨zP BK136⟩, ⟨zB⟩⟩
          case rest =>
           clear HC49
           (try clear qi1); (try clear c10); (try clear qi13); (try clear qi14); (try clear c30); (try clear c37); (try clear hcz4_0); (try clear hcz4_1); (try clear hcz4_2); (try clear hcz4_3); (try clear hfz4_0); (try clear hfz4_1); (try clear hfz4_2); (try clear hfz4_3)
           obtain ⟨kq, x70_48, rfl, HA, HJ48, BK136, HB⟩ := hcut
           cases kq with
           | zero => exact absurd HA.out (by simp [spec_l9Kids.j3])
           | succ kj48 =>
            have H := HA.out
            clear HA
            simp only [spec_l9Kids.j3] at H
            by_cases c51 : x70_48 = true
            ·subst c51; replace H := zT H
             replace H := zO H; obtain ⟨t143, A52, H⟩ := H
             obtain rfl := Option.some.inj H
             obtain ⟨hcz53_0, hcz53_1, hcz53_2, hcz53_3, hfz53_0, hfz53_1, hfz53_2, hfz53_3⟩ := zC4 BK136
             go_wp2_with (first | ((with_reducible refine gate_callee (f := 110) rfl ?_); refine zG (some 75) Try.func110 #[.agg #[.int .i64 a0_0, .int .i64 a0_1, .string a0_2, .slice A0_3 l0_3.length c0_3], .int .i64 0, .int .i64 (l0_3.length : Int)] ?_; (with_reducible refine (ih110 kj48 (by have := HJ1.out; have := HJ14.out; have := HJ34.out; have := HJ48.out; omega) a0_0 a0_1 a0_2 _ _ l0_3 0 (l0_3.length : Int) t143 _ (zR HR0_3) HC0_3.out A52.out).mono ?_); rintro e w54 ⟨rfl, hb⟩; refine ⟨_, rfl, ?_⟩; have n_ := z2 (zb BK136 hb) (zs hb); clear BK136 HB; obtain ⟨BK136, HB⟩ := n_; (try clear hb)))
             go_ret
             exact ⟨zE, zB⟩
            ·replace c51 := Bool.eq_false_iff.mpr c51; subst c51; replace H := zN H
             replace H := zI H; obtain ⟨c55, H⟩ | ⟨c55, H⟩ := H
             ·have c55b0 := beq_iff_eq.mpr c55
              have c55b1 := bne_eq_false_iff_eq.mpr c55
              clear c55
              replace H := zO H; obtain ⟨t144, A56, H⟩ := H
              by_cases c57 : t144 = true
              ·subst c57; replace H := zT H
               replace H := zO H; obtain ⟨t145, A58, H⟩ := H
               by_cases c59 : t145 = true
               ·subst c59; replace H := zT H
                replace H := zO H; obtain ⟨t146, A60, H⟩ := H
                obtain rfl := Option.some.inj H
                go_wp2_with (first | ((with_reducible refine gate_callee (f := 33) rfl ?_); refine zG (some 79) Try.func33 #[.int .i64 (l0_3.length : Int), .int .i64 2, .int .i64 3] ?_; (with_reducible refine (spec_l1In.calls (l0_3.length : Int) 2 3 true _ A56.out).mono ?_); rintro e w' ⟨rfl, ⟨nd, rfl⟩⟩; refine ⟨_, rfl, ?_⟩; obtain ⟨hcz61_0, hcz61_1, hcz61_2, hcz61_3, hfz61_0, hfz61_1, hfz61_2, hfz61_3⟩ := zC4 BK136) | (go_at_call 110; (with_reducible refine (ih110 kj48 (by have := HJ1.out; have := HJ14.out; have := HJ34.out; have := HJ48.out; omega) a0_0 a0_1 a0_2 _ _ l0_3 0 1 true _ (zR HR0_3) HC0_3.out A58.out).mono ?_); rintro e w62 ⟨rfl, hb⟩; have n_ := z2 (zb BK136 hb) (zs hb); clear BK136 HB; obtain ⟨BK136, HB⟩ := n_; (try clear hb); obtain ⟨hcz63_0, hcz63_1, hcz63_2, hcz63_3, hfz63_0, hfz63_1, hfz63_2, hfz63_3⟩ := zC4 BK136) | (go_at_call 111; (with_reducible refine (ih111 kj48 (by have := HJ1.out; have := HJ14.out; have := HJ34.out; have := HJ48.out; omega) a0_0 a0_1 a0_2 _ _ l0_3 1 t146 _ (zR HR0_3) HC0_3.out A60.out).mono ?_); rintro e w64 ⟨rfl, hb⟩; have n_ := z2 (zb BK136 hb) (zs hb); clear BK136 HB; obtain ⟨BK136, HB⟩ := n_; (try clear hb)))
                go_ret
                exact ⟨zE, zB⟩
               ·replace c59 := Bool.eq_false_iff.mpr c59; subst c59; replace H := zN H
                obtain rfl := Option.some.inj H
                go_wp2_with (first | ((with_reducible refine gate_callee (f := 33) rfl ?_); refine zG (some 79) Try.func33 #[.int .i64 (l0_3.length : Int), .int .i64 2, .int .i64 3] ?_; (with_reducible refine (spec_l1In.calls (l0_3.length : Int) 2 3 true _ A56.out).mono ?_); rintro e w' ⟨rfl, ⟨nd, rfl⟩⟩; refine ⟨_, rfl, ?_⟩; obtain ⟨hcz65_0, hcz65_1, hcz65_2, hcz65_3, hfz65_0, hfz65_1, hfz65_2, hfz65_3⟩ := zC4 BK136) | (go_at_call 110; (with_reducible refine (ih110 kj48 (by have := HJ1.out; have := HJ14.out; have := HJ34.out; have := HJ48.out; omega) a0_0 a0_1 a0_2 _ _ l0_3 0 1 false _ (zR HR0_3) HC0_3.out A58.out).mono ?_); rintro e w66 ⟨rfl, hb⟩; have n_ := z2 (zb BK136 hb) (zs hb); clear BK136 HB; obtain ⟨BK136, HB⟩ := n_; (try clear hb)))
                go_ret
                exact ⟨zE, zB⟩
              ·replace c57 := Bool.eq_false_iff.mpr c57; subst c57; replace H := zN H
               obtain rfl := Option.some.inj H
               go_wp2_with (first | ((with_reducible refine gate_callee (f := 33) rfl ?_); refine zG (some 79) Try.func33 #[.int .i64 (l0_3.length : Int), .int .i64 2, .int .i64 3] ?_; (with_reducible refine (spec_l1In.calls (l0_3.length : Int) 2 3 false _ A56.out).mono ?_); rintro e w' ⟨rfl, ⟨nd, rfl⟩⟩; refine ⟨_, rfl, ?_⟩))
               go_ret
               exact ⟨zE, zB⟩
             ·have c55b0 := beq_eq_false_iff_ne.mpr c55
              have c55b1 := bne_iff_ne.mpr c55
              replace H := zI H; obtain ⟨c67, H⟩ | ⟨c67, H⟩ := H
              ·have c67b0 := beq_iff_eq.mpr c67
               have c67b1 := bne_eq_false_iff_eq.mpr c67
               clear c67
               replace H := zI H; obtain ⟨c68, H⟩ | ⟨c68, H⟩ := H
               ·have c68b0 := beq_iff_eq.mpr c68
                have c68b1 := bne_eq_false_iff_eq.mpr c68
                clear c68
                replace H := zO H; obtain ⟨t147, A69, H⟩ := H
                by_cases c70 : t147 = true
                ·subst c70; replace H := zT H
                 replace H := zO H; obtain ⟨t148, A71, H⟩ := H
                 obtain rfl := Option.some.inj H
                 obtain ⟨hcz72_0, hcz72_1, hcz72_2, hcz72_3, hfz72_0, hfz72_1, hfz72_2, hfz72_3⟩ := zC4 BK136
                 go_wp2_with (first | (go_at_call 110; (with_reducible refine (ih110 kj48 (by have := HJ1.out; have := HJ14.out; have := HJ34.out; have := HJ48.out; omega) a0_0 a0_1 a0_2 _ _ l0_3 0 1 true _ (zR HR0_3) HC0_3.out A69.out).mono ?_); rintro e w73 ⟨rfl, hb⟩; have n_ := z2 (zb BK136 hb) (zs hb); clear BK136 HB; obtain ⟨BK136, HB⟩ := n_; (try clear hb); obtain ⟨hcz74_0, hcz74_1, hcz74_2, hcz74_3, hfz74_0, hfz74_1, hfz74_2, hfz74_3⟩ := zC4 BK136) | (go_at_call 111; (with_reducible refine (ih111 kj48 (by have := HJ1.out; have := HJ14.out; have := HJ34.out; have := HJ48.out; omega) a0_0 a0_1 a0_2 _ _ l0_3 1 t148 _ (zR HR0_3) HC0_3.out A71.out).mono ?_); rintro e w75 ⟨rfl, hb⟩; have n_ := z2 (zb BK136 hb) (zs hb); clear BK136 HB; obtain ⟨BK136, HB⟩ := n_; (try clear hb)))
                 go_ret
                 exact ⟨zE, zB⟩
                ·replace c70 := Bool.eq_false_iff.mpr c70; subst c70; replace H := zN H
                 obtain rfl := Option.some.inj H
                 obtain ⟨hcz76_0, hcz76_1, hcz76_2, hcz76_3, hfz76_0, hfz76_1, hfz76_2, hfz76_3⟩ := zC4 BK136
                 go_wp2_with (first | (go_at_call 110; (with_reducible refine (ih110 kj48 (by have := HJ1.out; have := HJ14.out; have := HJ34.out; have := HJ48.out; omega) a0_0 a0_1 a0_2 _ _ l0_3 0 1 false _ (zR HR0_3) HC0_3.out A69.out).mono ?_); rintro e w77 ⟨rfl, hb⟩; have n_ := z2 (zb BK136 hb) (zs hb); clear BK136 HB; obtain ⟨BK136, HB⟩ := n_; (try clear hb)))
                 go_ret
                 exact ⟨zE, zB⟩
               ·have c68b0 := beq_eq_false_iff_ne.mpr c68
                have c68b1 := bne_iff_ne.mpr c68
                obtain rfl := Option.some.inj H
                go_wp2
                go_ret
                exact ⟨zE, zB⟩
              ·have c67b0 := beq_eq_false_iff_ne.mpr c67
               have c67b1 := bne_iff_ne.mpr c67
               replace H := zI H; obtain ⟨c78, H⟩ | ⟨c78, H⟩ := H
               ·have c78b0 := beq_iff_eq.mpr c78
                have c78b1 := bne_eq_false_iff_eq.mpr c78
                clear c78
                have H' := Aside0.mk H
                clear H
                go_wp2
                go_loopg [4] kj48 (fun kq v4 w' => ∃ (x4_5 : Int), v4 = .int .i64 x4_5 ∧ Aside0 (spec_l9Kids.l0 kq (l0_3.length : Int) x4_5 a0_0 a0_1 a0_2 l0_3 = some r) ∧ Aside0 (kq ≤ kj48) ∧ Aside0 (w'.heap[gb136]? = some (.cells #[.int .i64 a0_0, .int .i64 a0_1, .string a0_2, (.slice A0_3 l0_3.length c0_3)] 66 (0, 0))) ∧ Aside0 (Below w.heap.size w w'))
                case atStart => exact ⟨(0), zS, H', ⟨Nat.le_refl _⟩, ⟨zP BK136⟩, ⟨zB⟩⟩
                case round =>
                 clear H'
                 (try clear qi1); (try clear c10); (try clear qi13); (try clear qi14); (try clear c30); (try clear c37); (try clear c51); (try clear c55); (try clear c55b0); (try clear c55b1); (try clear c67); (try clear c67b0); (try clear c67b1); (try clear c78); (try clear c78b0); (try clear c78b1); (try clear hcz4_0); (try clear hcz4_1); (try clear hcz4_2); (try clear hcz4_3); (try clear hfz4_0); (try clear hfz4_1); (try clear hfz4_2); (try clear hfz4_3)
                 obtain ⟨x4_5, rfl, HA, HK5, BK136, HB⟩ := hrel
                 cases gk with
                 | zero => exact absurd HA.out (by simp [spec_l9Kids.l0])
                 | succ k5 =>
                  have H := HA.out
                  clear HA
                  simp only [spec_l9Kids.l0] at H
                  replace H := zI H; obtain ⟨c79, H⟩ | ⟨c79, H⟩ := H
                  ·have c79b0 := decide_eq_true c79
                   clear c79
                   replace H := zI H; obtain ⟨c80, H⟩ | ⟨c80, H⟩ := H
                   ·have c80b0 := decide_eq_true c80
                    clear c80
                    replace H := zI H; obtain ⟨c81, H⟩ | ⟨c81, H⟩ := H
                    ·have c81b0 := decide_eq_true c81
                     clear c81
                     replace H := zO H; obtain ⟨t150, A82, H⟩ := H
                     by_cases c83 : t150 = true
                     ·subst c83; replace H := zT H
                      replace H := zO H; obtain ⟨t152, A84, H⟩ := H
                      by_cases c85 : t152 = true
                      ·subst c85; replace H := zT H
                       have H' := Aside0.mk H
                       clear H
                       obtain ⟨hcz86_0, hcz86_1, hcz86_2, hcz86_3, hfz86_0, hfz86_1, hfz86_2, hfz86_3⟩ := zC4 BK136
                       have p149 : 0 ≤ (x4_5 : Int) := zW
                       have q149 : x4_5 < (l0_3.length : Int) := zW
                       obtain ⟨ad149, A149_3, c149_3, e149, hx149_0, hx149_1, hx149_2, hx149_3, hl149_3, hi149_3⟩ := at_T66 HR0_3.out x4_5 p149 q149
                       cases e149
                       replace hx149_0 := zc HB hx149_0
                       replace hx149_1 := zc HB hx149_1
                       replace hx149_2 := zc HB hx149_2
                       replace hx149_3 := zc HB hx149_3
                       have HR149_3 := Aside0.mk hi149_3
                       have HC149_3 := Aside0.mk hl149_3
                       clear hi149_3 hl149_3
                       replace p149 := eq_true p149
                       replace q149 := eq_true q149
                       go_wp2_with (first | ((with_reducible refine gate_callee (f := 33) rfl ?_); refine zG (some 113) Try.func33 #[.int .i64 ((rd_T66 l0_3 x4_5).f0), .int .i64 29, .int .i64 35] ?_; (with_reducible refine (spec_l1In.calls ((rd_T66 l0_3 x4_5).f0) 29 35 true _ A82.out).mono ?_); rintro e w' ⟨rfl, ⟨nd, rfl⟩⟩; refine ⟨_, rfl, ?_⟩; have p151 : 0 ≤ (x4_5 : Int) := zW; have q151 : x4_5 < (l0_3.length : Int) := zW; obtain ⟨ad151, A151_3, c151_3, e151, hx151_0, hx151_1, hx151_2, hx151_3, hl151_3, hi151_3⟩ := at_T66 HR0_3.out x4_5 p151 q151; obtain rfl : ad149 = ad151 := (by injection e151); replace hx151_0 := zc HB hx151_0; replace hx151_1 := zc HB hx151_1; replace hx151_2 := zc HB hx151_2; replace hx151_3 := zc HB hx151_3; have HR151_3 := Aside0.mk hi151_3; have HC151_3 := Aside0.mk hl151_3; clear hi151_3 hl151_3; replace p151 := eq_true p151; replace q151 := eq_true q151; have ea_ := Option.some.inj (hx149_3.symm.trans hx151_3); injection ea_ with ea_ en_ ec_; subst ea_; subst ec_; clear en_) | (go_at_call 35; (with_reducible refine (ih35 k5 (by have := HJ1.out; have := HJ14.out; have := HJ34.out; have := HJ48.out; have := HK5.out; omega) ((rd_T66 l0_3 x4_5).f0) ((rd_T66 l0_3 x4_5).f1) ((rd_T66 l0_3 x4_5).f2) _ _ ((rd_T66 l0_3 x4_5).f3) true _ (zR HR151_3) HC151_3.out A84.out).mono ?_); rintro e w87 ⟨rfl, hb⟩; have n_ := z2 (zb BK136 hb) (zs hb); clear BK136 HB; obtain ⟨BK136, HB⟩ := n_; (try clear hb)))
                       go_roundg k5
                       case measure => have := HJ1.out; have := HJ14.out; have := HJ34.out; have := HJ48.out; have := HK5.out; omega
                       case rel => exact ⟨(wrap64 (x4_5 + 1)), zS, H', ⟨by have := HJ1.out; have := HJ14.out; have := HJ34.out; have := HJ48.out; have := HK5.out; omega⟩, ⟨zP BK136⟩, ⟨zB⟩⟩
                      ·replace c85 := Bool.eq_false_iff.mpr c85; subst c85; replace H := zN H
                       obtain rfl := Option.some.inj H
                       obtain ⟨hcz88_0, hcz88_1, hcz88_2, hcz88_3, hfz88_0, hfz88_1, hfz88_2, hfz88_3⟩ := zC4 BK136
                       have p149 : 0 ≤ (x4_5 : Int) := zW
                       have q149 : x4_5 < (l0_3.length : Int) := zW
                       obtain ⟨ad149, A149_3, c149_3, e149, hx149_0, hx149_1, hx149_2, hx149_3, hl149_3, hi149_3⟩ := at_T66 HR0_3.out x4_5 p149 q149
                       cases e149
                       replace hx149_0 := zc HB hx149_0
                       replace hx149_1 := zc HB hx149_1
                       replace hx149_2 := zc HB hx149_2
                       replace hx149_3 := zc HB hx149_3
                       have HR149_3 := Aside0.mk hi149_3
                       have HC149_3 := Aside0.mk hl149_3
                       clear hi149_3 hl149_3
                       replace p149 := eq_true p149
                       replace q149 := eq_true q149
                       go_wp2_with (first | ((with_reducible refine gate_callee (f := 33) rfl ?_); refine zG (some 113) Try.func33 #[.int .i64 ((rd_T66 l0_3 x4_5).f0), .int .i64 29, .int .i64 35] ?_; (with_reducible refine (spec_l1In.calls ((rd_T66 l0_3 x4_5).f0) 29 35 true _ A82.out).mono ?_); rintro e w' ⟨rfl, ⟨nd, rfl⟩⟩; refine ⟨_, rfl, ?_⟩; have p151 : 0 ≤ (x4_5 : Int) := zW; have q151 : x4_5 < (l0_3.length : Int) := zW; obtain ⟨ad151, A151_3, c151_3, e151, hx151_0, hx151_1, hx151_2, hx151_3, hl151_3, hi151_3⟩ := at_T66 HR0_3.out x4_5 p151 q151; obtain rfl : ad149 = ad151 := (by injection e151); replace hx151_0 := zc HB hx151_0; replace hx151_1 := zc HB hx151_1; replace hx151_2 := zc HB hx151_2; replace hx151_3 := zc HB hx151_3; have HR151_3 := Aside0.mk hi151_3; have HC151_3 := Aside0.mk hl151_3; clear hi151_3 hl151_3; replace p151 := eq_true p151; replace q151 := eq_true q151; have ea_ := Option.some.inj (hx149_3.symm.trans hx151_3); injection ea_ with ea_ en_ ec_; subst ea_; subst ec_; clear en_) | (go_at_call 35; (with_reducible refine (ih35 k5 (by have := HJ1.out; have := HJ14.out; have := HJ34.out; have := HJ48.out; have := HK5.out; omega) ((rd_T66 l0_3 x4_5).f0) ((rd_T66 l0_3 x4_5).f1) ((rd_T66 l0_3 x4_5).f2) _ _ ((rd_T66 l0_3 x4_5).f3) false _ (zR HR151_3) HC151_3.out A84.out).mono ?_); rintro e w89 ⟨rfl, hb⟩; have n_ := z2 (zb BK136 hb) (zs hb); clear BK136 HB; obtain ⟨BK136, HB⟩ := n_; (try clear hb)))
                       go_ret
                       exact ⟨zE, zB⟩
                     ·replace c83 := Bool.eq_false_iff.mpr c83; subst c83; replace H := zN H
                      obtain rfl := Option.some.inj H
                      obtain ⟨hcz90_0, hcz90_1, hcz90_2, hcz90_3, hfz90_0, hfz90_1, hfz90_2, hfz90_3⟩ := zC4 BK136
                      have p149 : 0 ≤ (x4_5 : Int) := zW
                      have q149 : x4_5 < (l0_3.length : Int) := zW
                      obtain ⟨ad149, A149_3, c149_3, e149, hx149_0, hx149_1, hx149_2, hx149_3, hl149_3, hi149_3⟩ := at_T66 HR0_3.out x4_5 p149 q149
                      cases e149
                      replace hx149_0 := zc HB hx149_0
                      replace hx149_1 := zc HB hx149_1
                      replace hx149_2 := zc HB hx149_2
                      replace hx149_3 := zc HB hx149_3
                      have HR149_3 := Aside0.mk hi149_3
                      have HC149_3 := Aside0.mk hl149_3
                      clear hi149_3 hl149_3
                      replace p149 := eq_true p149
                      replace q149 := eq_true q149
                      go_wp2_with (first | ((with_reducible refine gate_callee (f := 33) rfl ?_); refine zG (some 113) Try.func33 #[.int .i64 ((rd_T66 l0_3 x4_5).f0), .int .i64 29, .int .i64 35] ?_; (with_reducible refine (spec_l1In.calls ((rd_T66 l0_3 x4_5).f0) 29 35 false _ A82.out).mono ?_); rintro e w' ⟨rfl, ⟨nd, rfl⟩⟩; refine ⟨_, rfl, ?_⟩))
                      go_ret
                      exact ⟨zE, zB⟩
                    ·exact absurd H (by simp)
                   ·exact absurd H (by simp)
                  ·have c79b0 := decide_eq_false c79
                   clear c79
                   obtain rfl := Option.some.inj H
                   go_wp2
                   go_ret
                   exact ⟨zE, zB⟩
               ·have c78b0 := beq_eq_false_iff_ne.mpr c78
                have c78b1 := bne_iff_ne.mpr c78
                obtain rfl := Option.some.inj H
                go_wp2
                go_ret
                exact ⟨zE, zB⟩

end Go.Proofs.Ythigelphmjepaaa.QFnExactTidy
