/- Written by wip/pr2, a program of this session. -/
import Derived.Test.YthigelphmjepaaaQFnExactTidyx0
import Derived.Test.YthigelphmjepaaaQFnExactTidyx1
import Derived.Test.YthigelphmjepaaaQFnExactTidyx2
import Derived.Test.YthigelphmjepaaaQFnExactTidyx3
import Derived.Test.YthigelphmjepaaaQFnExactTidyx8
import Derived.Test.YthigelphmjepaaaQFnExactTidyx11
import Derived.Test.YthigelphmjepaaaWFnExactTidy
namespace Go.Proofs.Ythigelphmjepaaa.QFnExactTidy
open Go.RowKit Go.Proofs.YthigelphmjepaaaW.PrintWords Go.Proofs.YthigelphmjepaaaW.PrintLast Go.Proofs.YthigelphmjepaaaW.PrintMore Go.Proofs.YthigelphmjepaaaW.Mac
attribute [local go_sem] max2_int min2_int max_two min_two max_three min_three max_four min_four   -- for this text's walks alone
set_option linter.unusedVariables false
set_option linter.unusedSimpArgs false
set_option maxHeartbeats 8000000
set_option maxRecDepth 100000

/-! ### spec_Tidy: function 9 -/
theorem spec_Tidy.calls (k : Nat) (A0 : Option Addr) (c0 : Nat) (l0 : List (S68)) (r : Bool) (w : World) (hr0 : Kd.C k68 w A0 l0.length l0) (hc0 : l0.length ≤ c0) (h : spec_Tidy.f k l0 = some r) :
  Calls Try.prog 9 #[.slice A0 l0.length c0] w fun e w' => e = .returned (.bool r) ∧ Below w.heap.size w w' := by
 have hu68 := Try.underlying68
 have hu66 := Try.underlying66
 have HR0 := Aside0.mk hr0
 have HC0 := Aside0.mk hc0
 clear hr0 hc0
 have HB := Aside0.mk (Below.refl w.heap.size w)
 rw [spec_Tidy.f] at h
 have H := h
 clear h
 have H' := Aside0.mk H
 clear H
 go_enter Try.func9, Try.ntmps9
 go_wp2
 go_loopg [3] k (fun kq v3 w' => ∃ (x3_1 : Int), v3 = .int .i64 x3_1 ∧ Aside0 (spec_Tidy.l0 kq l0 x3_1 = some r) ∧ Aside0 (kq ≤ k) ∧ Aside0 (Below w.heap.size w w'))
 case atStart => exact ⟨(0), zS, H', ⟨Nat.le_refl _⟩, ⟨zB⟩⟩
 case round =>
  clear H'
  obtain ⟨x3_1, rfl, HA, HK1, HB⟩ := hrel
  cases gk with
  | zero => exact absurd HA.out (by simp [spec_Tidy.l0])
  | succ k1 =>
   have H := HA.out
   clear HA
   simp only [spec_Tidy.l0] at H
   replace H := zI H; obtain ⟨c2, H⟩ | ⟨c2, H⟩ := H
   ·have c2b0 := decide_eq_true c2
    clear c2
    replace H := zI H; obtain ⟨c3, H⟩ | ⟨c3, H⟩ := H
    ·have c3b0 := decide_eq_true c3
     clear c3
     have HC4 := Aside0.mk H
     clear H
     have p168 : 0 ≤ (x3_1 : Int) := zW
     have q168 : x3_1 < (l0.length : Int) := zW
     obtain ⟨ad168, A168_4, c168_4, A168_8, c168_8, e168, hx168_0, hx168_1, hx168_2, hx168_3, hx168_4, hx168_5, hx168_6, hx168_7, hx168_8, hl168_4, hi168_4, hl168_8, hi168_8⟩ := at_T68 HR0.out x3_1 p168 q168
     cases e168
     replace hx168_0 := zc HB hx168_0
     replace hx168_1 := zc HB hx168_1
     replace hx168_2 := zc HB hx168_2
     replace hx168_3 := zc HB hx168_3
     replace hx168_4 := zc HB hx168_4
     replace hx168_5 := zc HB hx168_5
     replace hx168_6 := zc HB hx168_6
     replace hx168_7 := zc HB hx168_7
     replace hx168_8 := zc HB hx168_8
     have HR168_4 := Aside0.mk hi168_4
     have HC168_4 := Aside0.mk hl168_4
     clear hi168_4 hl168_4
     have HR168_8 := Aside0.mk hi168_8
     have HC168_8 := Aside0.mk hl168_8
     clear hi168_8 hl168_8
     replace p168 := eq_true p168
     replace q168 := eq_true q168
     go_upto_region 5 with (first | ((with_reducible refine gate_dst (N := 4) rfl ?_); (try (refine gate_guard (by rfl) ?_; dsimp only)); refine zX (N := 4) (cs := #[.int .i64 0, .int .i64 0, .int .i64 0, .string (⟨#[]⟩ : ByteArray), .slice none 0 0, .int .i64 0, .int .i64 0, .string (⟨#[]⟩ : ByteArray), .slice none 0 0]) (t := 68) ?_; intro gb169 hg w5 hbox hb; have n_ := z4 (zs hb) (hbox) (zl hg) (zl hg); clear HB; obtain ⟨HB, BK169, GW169, GE169⟩ := n_; clear hb hbox hg; obtain ⟨hcz6_0, hcz6_1, hcz6_2, hcz6_3, hcz6_4, hcz6_5, hcz6_6, hcz6_7, hcz6_8, hfz6_0, hfz6_1, hfz6_2, hfz6_3, hfz6_4, hfz6_5, hfz6_6, hfz6_7, hfz6_8⟩ := zC9 BK169))
     (try simp only [Act.put, List.setIfInBounds_toArray, List.set_cons_zero, List.set_cons_succ])
     go_cut [5] (fun v5 wc => ∃ (kq : Nat) (x5_3 : Bool), v5 = .bool x5_3 ∧ Aside0 (spec_Tidy.j1 kq l0 x3_1 x5_3 ((rd_T68 l0 x3_1).f0) ((rd_T68 l0 x3_1).f1.f0) ((rd_T68 l0 x3_1).f1.f1) ((rd_T68 l0 x3_1).f1.f2) ((rd_T68 l0 x3_1).f1.f3) ((rd_T68 l0 x3_1).f2.f0) ((rd_T68 l0 x3_1).f2.f1) ((rd_T68 l0 x3_1).f2.f2) ((rd_T68 l0 x3_1).f2.f3) = some r) ∧ Aside0 (kq ≤ k1) ∧ Aside0 (wc.heap[gb169]? = some (.cells #[.int .i64 ((rd_T68 l0 x3_1).f0), .int .i64 ((rd_T68 l0 x3_1).f1.f0), .int .i64 ((rd_T68 l0 x3_1).f1.f1), .string ((rd_T68 l0 x3_1).f1.f2), (.slice A168_4 ((rd_T68 l0 x3_1).f1.f3).length c168_4), .int .i64 ((rd_T68 l0 x3_1).f2.f0), .int .i64 ((rd_T68 l0 x3_1).f2.f1), .string ((rd_T68 l0 x3_1).f2.f2), (.slice A168_8 ((rd_T68 l0 x3_1).f2.f3).length c168_8)] 68 (0, 0))) ∧ Aside0 (Below w.heap.size w wc))
     case first =>
      have H := HC4.out
      clear HC4
      replace H := zI H; obtain ⟨c7, H⟩ | ⟨c7, H⟩ := H
      ·have c7b0 := beq_iff_eq.mpr c7
       have c7b1 := bne_eq_false_iff_eq.mpr c7
       clear c7
       (first | rw [c7b0] | (simp only [i64_w, i32_w]; rw [c7b0]) | skip)
       replace H := zI H; obtain ⟨c8, H⟩ | ⟨c8, H⟩ := H
       ·have c8b0 := beq_iff_eq.mpr c8
        have c8b1 := bne_eq_false_iff_eq.mpr c8
        clear c8
        replace H := zI H; obtain ⟨c9, H⟩ | ⟨c9, H⟩ := H
        ·have c9b0 := beq_iff_eq.mpr c9
         have c9b1 := bne_eq_false_iff_eq.mpr c9
         clear c9
         have H' := Aside0.mk H
         clear H
         obtain ⟨hcz10_0, hcz10_1, hcz10_2, hcz10_3, hcz10_4, hcz10_5, hcz10_6, hcz10_7, hcz10_8, hfz10_0, hfz10_1, hfz10_2, hfz10_3, hfz10_4, hfz10_5, hfz10_6, hfz10_7, hfz10_8⟩ := zC9 BK169
         go_wp2
         go_meet
         case rel => exact ⟨_, (((((rd_T68 l0 x3_1).f1.f3).length : Int) == 0)), zS, H', ⟨by have := HK1.out; first | omega | exact Nat.le_refl _⟩, ⟨zP BK169⟩, ⟨zB⟩⟩
        ·have c9b0 := beq_eq_false_iff_ne.mpr c9
         have c9b1 := bne_iff_ne.mpr c9
         have H' := Aside0.mk H
         clear H
         obtain ⟨hcz11_0, hcz11_1, hcz11_2, hcz11_3, hcz11_4, hcz11_5, hcz11_6, hcz11_7, hcz11_8, hfz11_0, hfz11_1, hfz11_2, hfz11_3, hfz11_4, hfz11_5, hfz11_6, hfz11_7, hfz11_8⟩ := zC9 BK169
         go_wp2
         go_meet
         case rel => exact ⟨_, (false), zS, H', ⟨by have := HK1.out; first | omega | exact Nat.le_refl _⟩, ⟨zP BK169⟩, ⟨zB⟩⟩
       ·have c8b0 := beq_eq_false_iff_ne.mpr c8
        have c8b1 := bne_iff_ne.mpr c8
        have H' := Aside0.mk H
        clear H
        obtain ⟨hcz12_0, hcz12_1, hcz12_2, hcz12_3, hcz12_4, hcz12_5, hcz12_6, hcz12_7, hcz12_8, hfz12_0, hfz12_1, hfz12_2, hfz12_3, hfz12_4, hfz12_5, hfz12_6, hfz12_7, hfz12_8⟩ := zC9 BK169
        go_wp2
        go_meet
        case rel => exact ⟨_, (false), zS, H', ⟨by have := HK1.out; first | omega | exact Nat.le_refl _⟩, ⟨zP BK169⟩, ⟨zB⟩⟩
      ·have c7b0 := beq_eq_false_iff_ne.mpr c7
       have c7b1 := bne_iff_ne.mpr c7
       (first | rw [c7b0] | (simp only [i64_w, i32_w]; rw [c7b0]) | skip)
       have H' := Aside0.mk H
       clear H
       obtain ⟨hcz13_0, hcz13_1, hcz13_2, hcz13_3, hcz13_4, hcz13_5, hcz13_6, hcz13_7, hcz13_8, hfz13_0, hfz13_1, hfz13_2, hfz13_3, hfz13_4, hfz13_5, hfz13_6, hfz13_7, hfz13_8⟩ := zC9 BK169
       go_wp2
       go_meet
       case rel => exact ⟨_, (false), zS, H', ⟨by have := HK1.out; first | omega | exact Nat.le_refl _⟩, ⟨zP BK169⟩, ⟨zB⟩⟩
     case rest =>
      clear HC4
      (try clear c2); (try clear c2b0); (try clear c3); (try clear c3b0); (try clear hcz6_0); (try clear hcz6_1); (try clear hcz6_2); (try clear hcz6_3); (try clear hcz6_4); (try clear hcz6_5); (try clear hcz6_6); (try clear hcz6_7); (try clear hcz6_8); (try clear hfz6_0); (try clear hfz6_1); (try clear hfz6_2); (try clear hfz6_3); (try clear hfz6_4); (try clear hfz6_5); (try clear hfz6_6); (try clear hfz6_7); (try clear hfz6_8); (try clear hx168_0); (try clear hx168_1); (try clear hx168_2); (try clear hx168_3); (try clear hx168_4); (try clear hx168_5); (try clear hx168_6); (try clear hx168_7); (try clear hx168_8); (try clear p168); (try clear q168)
      obtain ⟨kq, x5_3, rfl, HA, HJ3, BK169, HB⟩ := hcut
      cases kq with
      | zero => exact absurd HA.out (by simp [spec_Tidy.j1])
      | succ kj3 =>
       have H := HA.out
       clear HA
       simp only [spec_Tidy.j1] at H
       have HC14 := Aside0.mk H
       clear H
       go_upto_region 6 with (fail)
       go_cut [6] (fun v6 wc => ∃ (kq : Nat) (x6_13 : Bool), v6 = .bool x6_13 ∧ Aside0 (spec_Tidy.j2 kq l0 x3_1 x6_13 ((rd_T68 l0 x3_1).f0) ((rd_T68 l0 x3_1).f1.f0) ((rd_T68 l0 x3_1).f1.f1) ((rd_T68 l0 x3_1).f1.f2) ((rd_T68 l0 x3_1).f1.f3) ((rd_T68 l0 x3_1).f2.f0) ((rd_T68 l0 x3_1).f2.f1) ((rd_T68 l0 x3_1).f2.f2) ((rd_T68 l0 x3_1).f2.f3) = some r) ∧ Aside0 (kq ≤ kj3) ∧ Aside0 (wc.heap[gb169]? = some (.cells #[.int .i64 ((rd_T68 l0 x3_1).f0), .int .i64 ((rd_T68 l0 x3_1).f1.f0), .int .i64 ((rd_T68 l0 x3_1).f1.f1), .string ((rd_T68 l0 x3_1).f1.f2), (.slice A168_4 ((rd_T68 l0 x3_1).f1.f3).length c168_4), .int .i64 ((rd_T68 l0 x3_1).f2.f0), .int .i64 ((rd_T68 l0 x3_1).f2.f1), .string ((rd_T68 l0 x3_1).f2.f2), (.slice A168_8 ((rd_T68 l0 x3_1).f2.f3).length c168_8)] 68 (0, 0))) ∧ Aside0 (Below w.heap.size w wc))
       case first =>
        have H := HC14.out
        clear HC14
        replace H := zO H; obtain ⟨t170, A15, H⟩ := H
        by_cases c16 : t170 = true
        ·subst c16; replace H := zT H
         by_cases c17 : x5_3 = true
         ·subst c17; replace H := zT H
          have H' := Aside0.mk H
          clear H
          obtain ⟨hcz18_0, hcz18_1, hcz18_2, hcz18_3, hcz18_4, hcz18_5, hcz18_6, hcz18_7, hcz18_8, hfz18_0, hfz18_1, hfz18_2, hfz18_3, hfz18_4, hfz18_5, hfz18_6, hfz18_7, hfz18_8⟩ := zC9 BK169
          go_wp2_with (first | ((with_reducible refine gate_callee (f := 33) rfl ?_); refine zG (some 42) Try.func33 #[.int .i64 ((rd_T68 l0 x3_1).f0), .int .i64 1, .int .i64 2] ?_; (with_reducible refine (spec_l1In.calls ((rd_T68 l0 x3_1).f0) 1 2 true _ A15.out).mono ?_); rintro e w' ⟨rfl, ⟨nd, rfl⟩⟩; refine ⟨_, rfl, ?_⟩))
          go_meet
          case rel => exact ⟨_, (true), zS, H', ⟨by have := HK1.out; have := HJ3.out; first | omega | exact Nat.le_refl _⟩, ⟨zP BK169⟩, ⟨zB⟩⟩
         ·replace c17 := Bool.eq_false_iff.mpr c17; subst c17; replace H := zN H
          replace H := zI H; obtain ⟨c19, H⟩ | ⟨c19, H⟩ := H
          ·have c19b0 := beq_iff_eq.mpr c19
           have c19b1 := bne_eq_false_iff_eq.mpr c19
           clear c19
           (first | rw [c19b0] | (simp only [i64_w, i32_w]; rw [c19b0]) | skip)
           replace H := zO H; obtain ⟨t171, A20, H⟩ := H
           by_cases c21 : t171 = true
           ·subst c21; replace H := zT H
            replace H := zO H; obtain ⟨t172, A22, H⟩ := H
            by_cases c23 : t172 = true
            ·subst c23; replace H := zT H
             replace H := zO H; obtain ⟨t173, A24, H⟩ := H
             have H' := Aside0.mk H
             clear H
             obtain ⟨hcz25_0, hcz25_1, hcz25_2, hcz25_3, hcz25_4, hcz25_5, hcz25_6, hcz25_7, hcz25_8, hfz25_0, hfz25_1, hfz25_2, hfz25_3, hfz25_4, hfz25_5, hfz25_6, hfz25_7, hfz25_8⟩ := zC9 BK169
             go_wp2_with (first | ((with_reducible refine gate_callee (f := 33) rfl ?_); refine zG (some 42) Try.func33 #[.int .i64 ((rd_T68 l0 x3_1).f0), .int .i64 1, .int .i64 2] ?_; (with_reducible refine (spec_l1In.calls ((rd_T68 l0 x3_1).f0) 1 2 true _ A15.out).mono ?_); rintro e w' ⟨rfl, ⟨nd, rfl⟩⟩; refine ⟨_, rfl, ?_⟩) | (go_at_call 34; (with_reducible refine (spec_l9IsE.calls ((rd_T68 l0 x3_1).f1.f0) true _ A20.out).mono ?_); rintro e w' ⟨rfl, ⟨nd, rfl⟩⟩) | (go_at_call 35; (with_reducible refine (spec_l9Node.calls kj3 ((rd_T68 l0 x3_1).f1.f0) ((rd_T68 l0 x3_1).f1.f1) ((rd_T68 l0 x3_1).f1.f2) _ _ ((rd_T68 l0 x3_1).f1.f3) true _ (zR HR168_4) HC168_4.out A22.out).mono ?_); rintro e w26 ⟨rfl, hb⟩; have n_ := z2 (zb BK169 hb) (zs hb); clear BK169 HB; obtain ⟨BK169, HB⟩ := n_; (try clear hb); obtain ⟨hcz27_0, hcz27_1, hcz27_2, hcz27_3, hcz27_4, hcz27_5, hcz27_6, hcz27_7, hcz27_8, hfz27_0, hfz27_1, hfz27_2, hfz27_3, hfz27_4, hfz27_5, hfz27_6, hfz27_7, hfz27_8⟩ := zC9 BK169) | (go_at_call 36; (with_reducible refine (spec_Deep.calls kj3 ((rd_T68 l0 x3_1).f1.f0) ((rd_T68 l0 x3_1).f1.f1) ((rd_T68 l0 x3_1).f1.f2) _ _ ((rd_T68 l0 x3_1).f1.f3) t173 _ (zR HR168_4) HC168_4.out A24.out).mono ?_); rintro e w28 ⟨rfl, hb⟩; have n_ := z2 (zb BK169 hb) (zs hb); clear BK169 HB; obtain ⟨BK169, HB⟩ := n_; (try clear hb)))
             go_meet
             case rel => exact ⟨_, (decide (t173 ≤ 16)), zS, H', ⟨by have := HK1.out; have := HJ3.out; first | omega | exact Nat.le_refl _⟩, ⟨zP BK169⟩, ⟨zB⟩⟩
            ·replace c23 := Bool.eq_false_iff.mpr c23; subst c23; replace H := zN H
             have H' := Aside0.mk H
             clear H
             obtain ⟨hcz29_0, hcz29_1, hcz29_2, hcz29_3, hcz29_4, hcz29_5, hcz29_6, hcz29_7, hcz29_8, hfz29_0, hfz29_1, hfz29_2, hfz29_3, hfz29_4, hfz29_5, hfz29_6, hfz29_7, hfz29_8⟩ := zC9 BK169
             go_wp2_with (first | ((with_reducible refine gate_callee (f := 33) rfl ?_); refine zG (some 42) Try.func33 #[.int .i64 ((rd_T68 l0 x3_1).f0), .int .i64 1, .int .i64 2] ?_; (with_reducible refine (spec_l1In.calls ((rd_T68 l0 x3_1).f0) 1 2 true _ A15.out).mono ?_); rintro e w' ⟨rfl, ⟨nd, rfl⟩⟩; refine ⟨_, rfl, ?_⟩) | (go_at_call 34; (with_reducible refine (spec_l9IsE.calls ((rd_T68 l0 x3_1).f1.f0) true _ A20.out).mono ?_); rintro e w' ⟨rfl, ⟨nd, rfl⟩⟩) | (go_at_call 35; (with_reducible refine (spec_l9Node.calls kj3 ((rd_T68 l0 x3_1).f1.f0) ((rd_T68 l0 x3_1).f1.f1) ((rd_T68 l0 x3_1).f1.f2) _ _ ((rd_T68 l0 x3_1).f1.f3) false _ (zR HR168_4) HC168_4.out A22.out).mono ?_); rintro e w30 ⟨rfl, hb⟩; have n_ := z2 (zb BK169 hb) (zs hb); clear BK169 HB; obtain ⟨BK169, HB⟩ := n_; (try clear hb)))
             go_meet
             case rel => exact ⟨_, (false), zS, H', ⟨by have := HK1.out; have := HJ3.out; first | omega | exact Nat.le_refl _⟩, ⟨zP BK169⟩, ⟨zB⟩⟩
           ·replace c21 := Bool.eq_false_iff.mpr c21; subst c21; replace H := zN H
            have H' := Aside0.mk H
            clear H
            obtain ⟨hcz31_0, hcz31_1, hcz31_2, hcz31_3, hcz31_4, hcz31_5, hcz31_6, hcz31_7, hcz31_8, hfz31_0, hfz31_1, hfz31_2, hfz31_3, hfz31_4, hfz31_5, hfz31_6, hfz31_7, hfz31_8⟩ := zC9 BK169
            go_wp2_with (first | ((with_reducible refine gate_callee (f := 33) rfl ?_); refine zG (some 42) Try.func33 #[.int .i64 ((rd_T68 l0 x3_1).f0), .int .i64 1, .int .i64 2] ?_; (with_reducible refine (spec_l1In.calls ((rd_T68 l0 x3_1).f0) 1 2 true _ A15.out).mono ?_); rintro e w' ⟨rfl, ⟨nd, rfl⟩⟩; refine ⟨_, rfl, ?_⟩) | (go_at_call 34; (with_reducible refine (spec_l9IsE.calls ((rd_T68 l0 x3_1).f1.f0) false _ A20.out).mono ?_); rintro e w' ⟨rfl, ⟨nd, rfl⟩⟩))
            go_meet
            case rel => exact ⟨_, (false), zS, H', ⟨by have := HK1.out; have := HJ3.out; first | omega | exact Nat.le_refl _⟩, ⟨zP BK169⟩, ⟨zB⟩⟩
          ·have c19b0 := beq_eq_false_iff_ne.mpr c19
           have c19b1 := bne_iff_ne.mpr c19
           (first | rw [c19b0] | (simp only [i64_w, i32_w]; rw [c19b0]) | skip)
           have H' := Aside0.mk H
           clear H
           obtain ⟨hcz32_0, hcz32_1, hcz32_2, hcz32_3, hcz32_4, hcz32_5, hcz32_6, hcz32_7, hcz32_8, hfz32_0, hfz32_1, hfz32_2, hfz32_3, hfz32_4, hfz32_5, hfz32_6, hfz32_7, hfz32_8⟩ := zC9 BK169
           go_wp2_with (first | ((with_reducible refine gate_callee (f := 33) rfl ?_); refine zG (some 42) Try.func33 #[.int .i64 ((rd_T68 l0 x3_1).f0), .int .i64 1, .int .i64 2] ?_; (with_reducible refine (spec_l1In.calls ((rd_T68 l0 x3_1).f0) 1 2 true _ A15.out).mono ?_); rintro e w' ⟨rfl, ⟨nd, rfl⟩⟩; refine ⟨_, rfl, ?_⟩))
           go_meet
           case rel => exact ⟨_, (false), zS, H', ⟨by have := HK1.out; have := HJ3.out; first | omega | exact Nat.le_refl _⟩, ⟨zP BK169⟩, ⟨zB⟩⟩
        ·replace c16 := Bool.eq_false_iff.mpr c16; subst c16; replace H := zN H
         replace H := zI H; obtain ⟨c33, H⟩ | ⟨c33, H⟩ := H
         ·have c33b0 := beq_iff_eq.mpr c33
          have c33b1 := bne_eq_false_iff_eq.mpr c33
          clear c33
          replace H := zO H; obtain ⟨t174, A34, H⟩ := H
          by_cases c35 : t174 = true
          ·subst c35; replace H := zT H
           replace H := zO H; obtain ⟨t175, A36, H⟩ := H
           by_cases c37 : t175 = true
           ·subst c37; replace H := zT H
            replace H := zO H; obtain ⟨t176, A38, H⟩ := H
            have H' := Aside0.mk H
            clear H
            obtain ⟨hcz39_0, hcz39_1, hcz39_2, hcz39_3, hcz39_4, hcz39_5, hcz39_6, hcz39_7, hcz39_8, hfz39_0, hfz39_1, hfz39_2, hfz39_3, hfz39_4, hfz39_5, hfz39_6, hfz39_7, hfz39_8⟩ := zC9 BK169
            go_wp2_with (first | ((with_reducible refine gate_callee (f := 33) rfl ?_); refine zG (some 42) Try.func33 #[.int .i64 ((rd_T68 l0 x3_1).f0), .int .i64 1, .int .i64 2] ?_; (with_reducible refine (spec_l1In.calls ((rd_T68 l0 x3_1).f0) 1 2 false _ A15.out).mono ?_); rintro e w' ⟨rfl, ⟨nd, rfl⟩⟩; refine ⟨_, rfl, ?_⟩) | (go_at_call 34; (with_reducible refine (spec_l9IsE.calls ((rd_T68 l0 x3_1).f1.f0) true _ A34.out).mono ?_); rintro e w' ⟨rfl, ⟨nd, rfl⟩⟩) | (go_at_call 35; (with_reducible refine (spec_l9Node.calls kj3 ((rd_T68 l0 x3_1).f1.f0) ((rd_T68 l0 x3_1).f1.f1) ((rd_T68 l0 x3_1).f1.f2) _ _ ((rd_T68 l0 x3_1).f1.f3) true _ (zR HR168_4) HC168_4.out A36.out).mono ?_); rintro e w40 ⟨rfl, hb⟩; have n_ := z2 (zb BK169 hb) (zs hb); clear BK169 HB; obtain ⟨BK169, HB⟩ := n_; (try clear hb); obtain ⟨hcz41_0, hcz41_1, hcz41_2, hcz41_3, hcz41_4, hcz41_5, hcz41_6, hcz41_7, hcz41_8, hfz41_0, hfz41_1, hfz41_2, hfz41_3, hfz41_4, hfz41_5, hfz41_6, hfz41_7, hfz41_8⟩ := zC9 BK169) | (go_at_call 36; (with_reducible refine (spec_Deep.calls kj3 ((rd_T68 l0 x3_1).f1.f0) ((rd_T68 l0 x3_1).f1.f1) ((rd_T68 l0 x3_1).f1.f2) _ _ ((rd_T68 l0 x3_1).f1.f3) t176 _ (zR HR168_4) HC168_4.out A38.out).mono ?_); rintro e w42 ⟨rfl, hb⟩; have n_ := z2 (zb BK169 hb) (zs hb); clear BK169 HB; obtain ⟨BK169, HB⟩ := n_; (try clear hb)))
            go_meet
            case rel => exact ⟨_, (decide (t176 ≤ 16)), zS, H', ⟨by have := HK1.out; have := HJ3.out; first | omega | exact Nat.le_refl _⟩, ⟨zP BK169⟩, ⟨zB⟩⟩
           ·replace c37 := Bool.eq_false_iff.mpr c37; subst c37; replace H := zN H
            have H' := Aside0.mk H
            clear H
            obtain ⟨hcz43_0, hcz43_1, hcz43_2, hcz43_3, hcz43_4, hcz43_5, hcz43_6, hcz43_7, hcz43_8, hfz43_0, hfz43_1, hfz43_2, hfz43_3, hfz43_4, hfz43_5, hfz43_6, hfz43_7, hfz43_8⟩ := zC9 BK169
            go_wp2_with (first | ((with_reducible refine gate_callee (f := 33) rfl ?_); refine zG (some 42) Try.func33 #[.int .i64 ((rd_T68 l0 x3_1).f0), .int .i64 1, .int .i64 2] ?_; (with_reducible refine (spec_l1In.calls ((rd_T68 l0 x3_1).f0) 1 2 false _ A15.out).mono ?_); rintro e w' ⟨rfl, ⟨nd, rfl⟩⟩; refine ⟨_, rfl, ?_⟩) | (go_at_call 34; (with_reducible refine (spec_l9IsE.calls ((rd_T68 l0 x3_1).f1.f0) true _ A34.out).mono ?_); rintro e w' ⟨rfl, ⟨nd, rfl⟩⟩) | (go_at_call 35; (with_reducible refine (spec_l9Node.calls kj3 ((rd_T68 l0 x3_1).f1.f0) ((rd_T68 l0 x3_1).f1.f1) ((rd_T68 l0 x3_1).f1.f2) _ _ ((rd_T68 l0 x3_1).f1.f3) false _ (zR HR168_4) HC168_4.out A36.out).mono ?_); rintro e w44 ⟨rfl, hb⟩; have n_ := z2 (zb BK169 hb) (zs hb); clear BK169 HB; obtain ⟨BK169, HB⟩ := n_; (try clear hb)))
            go_meet
            case rel => exact ⟨_, (false), zS, H', ⟨by have := HK1.out; have := HJ3.out; first | omega | exact Nat.le_refl _⟩, ⟨zP BK169⟩, ⟨zB⟩⟩
          ·replace c35 := Bool.eq_false_iff.mpr c35; subst c35; replace H := zN H
           have H' := Aside0.mk H
           clear H
           obtain ⟨hcz45_0, hcz45_1, hcz45_2, hcz45_3, hcz45_4, hcz45_5, hcz45_6, hcz45_7, hcz45_8, hfz45_0, hfz45_1, hfz45_2, hfz45_3, hfz45_4, hfz45_5, hfz45_6, hfz45_7, hfz45_8⟩ := zC9 BK169
           go_wp2_with (first | ((with_reducible refine gate_callee (f := 33) rfl ?_); refine zG (some 42) Try.func33 #[.int .i64 ((rd_T68 l0 x3_1).f0), .int .i64 1, .int .i64 2] ?_; (with_reducible refine (spec_l1In.calls ((rd_T68 l0 x3_1).f0) 1 2 false _ A15.out).mono ?_); rintro e w' ⟨rfl, ⟨nd, rfl⟩⟩; refine ⟨_, rfl, ?_⟩) | (go_at_call 34; (with_reducible refine (spec_l9IsE.calls ((rd_T68 l0 x3_1).f1.f0) false _ A34.out).mono ?_); rintro e w' ⟨rfl, ⟨nd, rfl⟩⟩))
           go_meet
           case rel => exact ⟨_, (false), zS, H', ⟨by have := HK1.out; have := HJ3.out; first | omega | exact Nat.le_refl _⟩, ⟨zP BK169⟩, ⟨zB⟩⟩
         ·have c33b0 := beq_eq_false_iff_ne.mpr c33
          have c33b1 := bne_iff_ne.mpr c33
          have H' := Aside0.mk H
          clear H
          obtain ⟨hcz46_0, hcz46_1, hcz46_2, hcz46_3, hcz46_4, hcz46_5, hcz46_6, hcz46_7, hcz46_8, hfz46_0, hfz46_1, hfz46_2, hfz46_3, hfz46_4, hfz46_5, hfz46_6, hfz46_7, hfz46_8⟩ := zC9 BK169
          go_wp2_with (first | ((with_reducible refine gate_callee (f := 33) rfl ?_); refine zG (some 42) Try.func33 #[.int .i64 ((rd_T68 l0 x3_1).f0), .int .i64 1, .int .i64 2] ?_; (with_reducible refine (spec_l1In.calls ((rd_T68 l0 x3_1).f0) 1 2 false _ A15.out).mono ?_); rintro e w' ⟨rfl, ⟨nd, rfl⟩⟩; refine ⟨_, rfl, ?_⟩))
          go_meet
          case rel => exact ⟨_, (false), zS, H', ⟨by have := HK1.out; have := HJ3.out; first | omega | exact Nat.le_refl _⟩, ⟨zP BK169⟩, ⟨zB⟩⟩
       case rest =>
        clear HC14
        (try clear c2); (try clear c2b0); (try clear c3); (try clear c3b0); (try clear hcz6_0); (try clear hcz6_1); (try clear hcz6_2); (try clear hcz6_3); (try clear hcz6_4); (try clear hcz6_5); (try clear hcz6_6); (try clear hcz6_7); (try clear hcz6_8); (try clear hfz6_0); (try clear hfz6_1); (try clear hfz6_2); (try clear hfz6_3); (try clear hfz6_4); (try clear hfz6_5); (try clear hfz6_6); (try clear hfz6_7); (try clear hfz6_8); (try clear hx168_0); (try clear hx168_1); (try clear hx168_2); (try clear hx168_3); (try clear hx168_4); (try clear hx168_5); (try clear hx168_6); (try clear hx168_7); (try clear hx168_8); (try clear p168); (try clear q168)
        obtain ⟨kq, x6_13, rfl, HA, HJ13, BK169, HB⟩ := hcut
        cases kq with
        | zero => exact absurd HA.out (by simp [spec_Tidy.j2])
        | succ kj13 =>
         have H := HA.out
         clear HA
         simp only [spec_Tidy.j2] at H
         by_cases c47 : x6_13 = true
         ·subst c47; replace H := zT H
          replace H := zI H; obtain ⟨c48, H⟩ | ⟨c48, H⟩ := H
          ·have c48b0 := beq_iff_eq.mpr c48
           have c48b1 := bne_eq_false_iff_eq.mpr c48
           clear c48
           replace H := zO H; obtain ⟨t177, A49, H⟩ := H
           replace H := zI H; obtain ⟨c50, H⟩ | ⟨c50, H⟩ := H
           ·have c50b0 := decide_eq_true c50
            clear c50
            obtain rfl := Option.some.inj H
            obtain ⟨hcz51_0, hcz51_1, hcz51_2, hcz51_3, hcz51_4, hcz51_5, hcz51_6, hcz51_7, hcz51_8, hfz51_0, hfz51_1, hfz51_2, hfz51_3, hfz51_4, hfz51_5, hfz51_6, hfz51_7, hfz51_8⟩ := zC9 BK169
            go_wp2_with (first | (go_at_call 36; (with_reducible refine (spec_Deep.calls kj13 ((rd_T68 l0 x3_1).f2.f0) ((rd_T68 l0 x3_1).f2.f1) ((rd_T68 l0 x3_1).f2.f2) _ _ ((rd_T68 l0 x3_1).f2.f3) t177 _ (zR HR168_8) HC168_8.out A49.out).mono ?_); rintro e w52 ⟨rfl, hb⟩; have n_ := z2 (zb BK169 hb) (zs hb); clear BK169 HB; obtain ⟨BK169, HB⟩ := n_; (try clear hb)))
            go_ret
            exact ⟨zE, zB⟩
           ·have c50b0 := decide_eq_false c50
            clear c50
            replace H := zO H; obtain ⟨t178, A53, H⟩ := H
            by_cases c54 : t178 = true
            ·subst c54; replace H := zT H
             have H' := Aside0.mk H
             clear H
             obtain ⟨hcz55_0, hcz55_1, hcz55_2, hcz55_3, hcz55_4, hcz55_5, hcz55_6, hcz55_7, hcz55_8, hfz55_0, hfz55_1, hfz55_2, hfz55_3, hfz55_4, hfz55_5, hfz55_6, hfz55_7, hfz55_8⟩ := zC9 BK169
             go_wp2_with (first | (go_at_call 36; (with_reducible refine (spec_Deep.calls kj13 ((rd_T68 l0 x3_1).f2.f0) ((rd_T68 l0 x3_1).f2.f1) ((rd_T68 l0 x3_1).f2.f2) _ _ ((rd_T68 l0 x3_1).f2.f3) t177 _ (zR HR168_8) HC168_8.out A49.out).mono ?_); rintro e w56 ⟨rfl, hb⟩; have n_ := z2 (zb BK169 hb) (zs hb); clear BK169 HB; obtain ⟨BK169, HB⟩ := n_; (try clear hb); obtain ⟨hcz57_0, hcz57_1, hcz57_2, hcz57_3, hcz57_4, hcz57_5, hcz57_6, hcz57_7, hcz57_8, hfz57_0, hfz57_1, hfz57_2, hfz57_3, hfz57_4, hfz57_5, hfz57_6, hfz57_7, hfz57_8⟩ := zC9 BK169) | (go_at_call 35; (with_reducible refine (spec_l9Node.calls kj13 ((rd_T68 l0 x3_1).f2.f0) ((rd_T68 l0 x3_1).f2.f1) ((rd_T68 l0 x3_1).f2.f2) _ _ ((rd_T68 l0 x3_1).f2.f3) true _ (zR HR168_8) HC168_8.out A53.out).mono ?_); rintro e w58 ⟨rfl, hb⟩; have n_ := z2 (zb BK169 hb) (zs hb); clear BK169 HB; obtain ⟨BK169, HB⟩ := n_; (try clear hb)))
             go_roundg kj13
             case measure => have := HK1.out; have := HJ3.out; have := HJ13.out; omega
             case rel => exact ⟨(wrap64 (x3_1 + 1)), zS, H', ⟨by have := HK1.out; have := HJ3.out; have := HJ13.out; omega⟩, ⟨zB⟩⟩
            ·replace c54 := Bool.eq_false_iff.mpr c54; subst c54; replace H := zN H
             obtain rfl := Option.some.inj H
             obtain ⟨hcz59_0, hcz59_1, hcz59_2, hcz59_3, hcz59_4, hcz59_5, hcz59_6, hcz59_7, hcz59_8, hfz59_0, hfz59_1, hfz59_2, hfz59_3, hfz59_4, hfz59_5, hfz59_6, hfz59_7, hfz59_8⟩ := zC9 BK169
             go_wp2_with (first | (go_at_call 36; (with_reducible refine (spec_Deep.calls kj13 ((rd_T68 l0 x3_1).f2.f0) ((rd_T68 l0 x3_1).f2.f1) ((rd_T68 l0 x3_1).f2.f2) _ _ ((rd_T68 l0 x3_1).f2.f3) t177 _ (zR HR168_8) HC168_8.out A49.out).mono ?_); rintro e w60 ⟨rfl, hb⟩; have n_ := z2 (zb BK169 hb) (zs hb); clear BK169 HB; obtain ⟨BK169, HB⟩ := n_; (try clear hb); obtain ⟨hcz61_0, hcz61_1, hcz61_2, hcz61_3, hcz61_4, hcz61_5, hcz61_6, hcz61_7, hcz61_8, hfz61_0, hfz61_1, hfz61_2, hfz61_3, hfz61_4, hfz61_5, hfz61_6, hfz61_7, hfz61_8⟩ := zC9 BK169) | (go_at_call 35; (with_reducible refine (spec_l9Node.calls kj13 ((rd_T68 l0 x3_1).f2.f0) ((rd_T68 l0 x3_1).f2.f1) ((rd_T68 l0 x3_1).f2.f2) _ _ ((rd_T68 l0 x3_1).f2.f3) false _ (zR HR168_8) HC168_8.out A53.out).mono ?_); rintro e w62 ⟨rfl, hb⟩; have n_ := z2 (zb BK169 hb) (zs hb); clear BK169 HB; obtain ⟨BK169, HB⟩ := n_; (try clear hb)))
             go_ret
             exact ⟨zE, zB⟩
          ·have c48b0 := beq_eq_false_iff_ne.mpr c48
           have c48b1 := bne_iff_ne.mpr c48
           obtain rfl := Option.some.inj H
           obtain ⟨hcz63_0, hcz63_1, hcz63_2, hcz63_3, hcz63_4, hcz63_5, hcz63_6, hcz63_7, hcz63_8, hfz63_0, hfz63_1, hfz63_2, hfz63_3, hfz63_4, hfz63_5, hfz63_6, hfz63_7, hfz63_8⟩ := zC9 BK169
           go_wp2
           go_ret
           exact ⟨zE, zB⟩
         ·replace c47 := Bool.eq_false_iff.mpr c47; subst c47; replace H := zN H
          obtain rfl := Option.some.inj H
          go_wp2
          go_ret
          exact ⟨zE, zB⟩
    ·exact absurd H (by simp)
   ·have c2b0 := decide_eq_false c2
    clear c2
    obtain rfl := Option.some.inj H
    go_wp2
    go_ret
    exact ⟨zE, zB⟩

end Go.Proofs.Ythigelphmjepaaa.QFnExactTidy
