/- Written by wip/pr2, a program of this session. -/
import Derived.Test.YthigelphmjepaaaQFnExactTidyx0
import Derived.Test.YthigelphmjepaaaQFnExactTidyx3
import Derived.Test.YthigelphmjepaaaQFnExactTidyx4
import Derived.Test.YthigelphmjepaaaQFnExactTidyx5
import Derived.Test.YthigelphmjepaaaQFnExactTidyx13
import Derived.Test.YthigelphmjepaaaQFnExactTidyx16
import Derived.Test.YthigelphmjepaaaWFnExactTidy
namespace Go.Proofs.Ythigelphmjepaaa.QFnExactTidy
open Go.RowKit Go.Proofs.YthigelphmjepaaaW.PrintWords Go.Proofs.YthigelphmjepaaaW.PrintLast Go.Proofs.YthigelphmjepaaaW.PrintMore Go.Proofs.YthigelphmjepaaaW.Mac
attribute [local go_sem] max2_int min2_int max_two min_two max_three min_three max_four min_four   -- for this text's walks alone
set_option linter.unusedVariables false
set_option linter.unusedSimpArgs false
set_option maxHeartbeats 8000000
set_option maxRecDepth 100000

/-! ### impl_Tidy_1: function 39 -/
theorem impl_Tidy_1.calls (k : Nat) (a0_0 : Int) (a0_1 : Int) (a0_2 : Int) (a0_3 : ByteArray) (A0_4 : Option Addr) (c0_4 : Nat) (l0_4 : List (S66)) (a0_5 : Int) (a0_6 : Int) (a0_7 : ByteArray) (A0_8 : Option Addr) (c0_8 : Nat) (l0_8 : List (S66)) (r : Bool) (w : World) (hr0_4 : Kd.C k66 w A0_4 l0_4.length l0_4) (hc0_4 : l0_4.length ≤ c0_4) (hr0_8 : Kd.C k66 w A0_8 l0_8.length l0_8) (hc0_8 : l0_8.length ≤ c0_8) (h : impl_Tidy_1.f k a0_0 a0_1 a0_2 a0_3 l0_4 a0_5 a0_6 a0_7 l0_8 = some r) :
  Calls Try.prog 39 #[.agg #[.int .i64 a0_0, .int .i64 a0_1, .int .i64 a0_2, .string a0_3, .slice A0_4 l0_4.length c0_4, .int .i64 a0_5, .int .i64 a0_6, .string a0_7, .slice A0_8 l0_8.length c0_8]] w fun e w' => e = .returned (.bool r) ∧ Below w.heap.size w w' := by
 have hu68 := Try.underlying68
 have hu66 := Try.underlying66
 have HR0_4 := Aside0.mk hr0_4
 have HC0_4 := Aside0.mk hc0_4
 clear hr0_4 hc0_4
 have HR0_8 := Aside0.mk hr0_8
 have HC0_8 := Aside0.mk hc0_8
 clear hr0_8 hc0_8
 have HB := Aside0.mk (Below.refl w.heap.size w)
 rw [impl_Tidy_1.f] at h
 have H := h
 clear h
 have HC2 := Aside0.mk H
 clear H
 go_enter Try.func39, Try.ntmps39
 go_upto_region 1 with (first | ((with_reducible refine gate_dst (N := 1) rfl ?_); refine zX (N := 1) (cs := #[.int .i64 a0_0, .int .i64 a0_1, .int .i64 a0_2, .string a0_3, .slice A0_4 l0_4.length c0_4, .int .i64 a0_5, .int .i64 a0_6, .string a0_7, .slice A0_8 l0_8.length c0_8]) (t := 68) ?_; intro gb321 hg w3 hbox hb; have n_ := z4 (zs hb) (hbox) (zl hg) (zl hg); clear HB; obtain ⟨HB, BK321, GW321, GE321⟩ := n_; clear hb hbox hg))
 (try simp only [Act.put, List.setIfInBounds_toArray, List.set_cons_zero, List.set_cons_succ])
 go_cut [18] (fun v18 wc => ∃ (kq : Nat) (x18_1 : Bool), v18 = .bool x18_1 ∧ Aside0 (impl_Tidy_1.j0 kq x18_1 a0_0 a0_1 a0_2 a0_3 l0_4 a0_5 a0_6 a0_7 l0_8 = some r) ∧ Aside0 (kq ≤ k) ∧ Aside0 (wc.heap[gb321]? = some (.cells #[.int .i64 a0_0, .int .i64 a0_1, .int .i64 a0_2, .string a0_3, (.slice A0_4 l0_4.length c0_4), .int .i64 a0_5, .int .i64 a0_6, .string a0_7, (.slice A0_8 l0_8.length c0_8)] 68 (0, 0))) ∧ Aside0 (Below w.heap.size w wc))
 case first =>
  have H := HC2.out
  clear HC2
  replace H := zO H; obtain ⟨t322, A4, H⟩ := H
  replace H := zI H; obtain ⟨c5, H⟩ | ⟨c5, H⟩ := H
  ·have c5b0 := decide_eq_true c5
   clear c5
   (first | rw [c5b0] | (simp only [i64_w, i32_w]; rw [c5b0]) | skip)
   have H' := Aside0.mk H
   clear H
   obtain ⟨hcz6_0, hcz6_1, hcz6_2, hcz6_3, hcz6_4, hcz6_5, hcz6_6, hcz6_7, hcz6_8, hfz6_0, hfz6_1, hfz6_2, hfz6_3, hfz6_4, hfz6_5, hfz6_6, hfz6_7, hfz6_8⟩ := zC9 BK321
   go_wp2_with (first | ((with_reducible refine gate_callee (f := 40) rfl ?_); refine zG (some 5) Try.func40 #[.agg #[.int .i64 a0_1, .int .i64 a0_2, .string a0_3, .slice A0_4 l0_4.length c0_4]] ?_; (with_reducible refine (impl_Deep.calls k a0_1 a0_2 a0_3 _ _ l0_4 t322 _ (zR HR0_4) HC0_4.out A4.out).mono ?_); rintro e w7 ⟨rfl, hb⟩; refine ⟨_, rfl, ?_⟩; have n_ := z2 (zb BK321 hb) (zs hb); clear BK321 HB; obtain ⟨BK321, HB⟩ := n_; (try clear hb)))
   go_meet
   case rel => exact ⟨_, (true), zS, H', ⟨by first | omega | exact Nat.le_refl _⟩, ⟨zP BK321⟩, ⟨zB⟩⟩
  ·have c5b0 := decide_eq_false c5
   clear c5
   (first | rw [c5b0] | (simp only [i64_w, i32_w]; rw [c5b0]) | skip)
   replace H := zO H; obtain ⟨t323, A8, H⟩ := H
   replace H := zI H; obtain ⟨c9, H⟩ | ⟨c9, H⟩ := H
   ·have c9b0 := decide_eq_true c9
    clear c9
    have H' := Aside0.mk H
    clear H
    obtain ⟨hcz10_0, hcz10_1, hcz10_2, hcz10_3, hcz10_4, hcz10_5, hcz10_6, hcz10_7, hcz10_8, hfz10_0, hfz10_1, hfz10_2, hfz10_3, hfz10_4, hfz10_5, hfz10_6, hfz10_7, hfz10_8⟩ := zC9 BK321
    go_wp2_with (first | ((with_reducible refine gate_callee (f := 40) rfl ?_); refine zG (some 5) Try.func40 #[.agg #[.int .i64 a0_1, .int .i64 a0_2, .string a0_3, .slice A0_4 l0_4.length c0_4]] ?_; (with_reducible refine (impl_Deep.calls k a0_1 a0_2 a0_3 _ _ l0_4 t322 _ (zR HR0_4) HC0_4.out A4.out).mono ?_); rintro e w11 ⟨rfl, hb⟩; refine ⟨_, rfl, ?_⟩; have n_ := z2 (zb BK321 hb) (zs hb); clear BK321 HB; obtain ⟨BK321, HB⟩ := n_; (try clear hb); obtain ⟨hcz12_0, hcz12_1, hcz12_2, hcz12_3, hcz12_4, hcz12_5, hcz12_6, hcz12_7, hcz12_8, hfz12_0, hfz12_1, hfz12_2, hfz12_3, hfz12_4, hfz12_5, hfz12_6, hfz12_7, hfz12_8⟩ := zC9 BK321) | (go_at_call 40; (with_reducible refine (impl_Deep.calls k a0_5 a0_6 a0_7 _ _ l0_8 t323 _ (zR HR0_8) HC0_8.out A8.out).mono ?_); rintro e w13 ⟨rfl, hb⟩; have n_ := z2 (zb BK321 hb) (zs hb); clear BK321 HB; obtain ⟨BK321, HB⟩ := n_; (try clear hb)))
    go_meet
    case rel => exact ⟨_, (true), zS, H', ⟨by first | omega | exact Nat.le_refl _⟩, ⟨zP BK321⟩, ⟨zB⟩⟩
   ·have c9b0 := decide_eq_false c9
    clear c9
    replace H := zO H; obtain ⟨t324, A14, H⟩ := H
    have H' := Aside0.mk H
    clear H
    obtain ⟨hcz15_0, hcz15_1, hcz15_2, hcz15_3, hcz15_4, hcz15_5, hcz15_6, hcz15_7, hcz15_8, hfz15_0, hfz15_1, hfz15_2, hfz15_3, hfz15_4, hfz15_5, hfz15_6, hfz15_7, hfz15_8⟩ := zC9 BK321
    go_wp2_with (first | ((with_reducible refine gate_callee (f := 40) rfl ?_); refine zG (some 5) Try.func40 #[.agg #[.int .i64 a0_1, .int .i64 a0_2, .string a0_3, .slice A0_4 l0_4.length c0_4]] ?_; (with_reducible refine (impl_Deep.calls k a0_1 a0_2 a0_3 _ _ l0_4 t322 _ (zR HR0_4) HC0_4.out A4.out).mono ?_); rintro e w16 ⟨rfl, hb⟩; refine ⟨_, rfl, ?_⟩; have n_ := z2 (zb BK321 hb) (zs hb); clear BK321 HB; obtain ⟨BK321, HB⟩ := n_; (try clear hb); obtain ⟨hcz17_0, hcz17_1, hcz17_2, hcz17_3, hcz17_4, hcz17_5, hcz17_6, hcz17_7, hcz17_8, hfz17_0, hfz17_1, hfz17_2, hfz17_3, hfz17_4, hfz17_5, hfz17_6, hfz17_7, hfz17_8⟩ := zC9 BK321) | (go_at_call 40; (with_reducible refine (impl_Deep.calls k a0_5 a0_6 a0_7 _ _ l0_8 t323 _ (zR HR0_8) HC0_8.out A8.out).mono ?_); rintro e w18 ⟨rfl, hb⟩; have n_ := z2 (zb BK321 hb) (zs hb); clear BK321 HB; obtain ⟨BK321, HB⟩ := n_; (try clear hb); obtain ⟨hcz19_0, hcz19_1, hcz19_2, hcz19_3, hcz19_4, hcz19_5, hcz19_6, hcz19_7, hcz19_8, hfz19_0, hfz19_1, hfz19_2, hfz19_3, hfz19_4, hfz19_5, hfz19_6, hfz19_7, hfz19_8⟩ := zC9 BK321) | (go_at_call 41; (with_reducible refine (impl_isBlock.calls k a0_5 a0_6 a0_7 _ _ l0_8 t324 _ (zR HR0_8) HC0_8.out A14.out).mono ?_); rintro e w20 ⟨rfl, hb⟩; have n_ := z2 (zb BK321 hb) (zs hb); clear BK321 HB; obtain ⟨BK321, HB⟩ := n_; (try clear hb)))
    go_meet
    case rel => exact ⟨_, (!t324), zS, H', ⟨by first | omega | exact Nat.le_refl _⟩, ⟨zP BK321⟩, ⟨zB⟩⟩
 case rest =>
  clear HC2
  obtain ⟨kq, x18_1, rfl, HA, HJ1, BK321, HB⟩ := hcut
  cases kq with
  | zero => exact absurd HA.out (by simp [impl_Tidy_1.j0])
  | succ kj1 =>
   have H := HA.out
   clear HA
   simp only [impl_Tidy_1.j0] at H
   by_cases c21 : x18_1 = true
   ·subst c21; replace H := zT H
    obtain rfl := Option.some.inj H
    go_wp2
    go_ret
    exact ⟨zE, zB⟩
   ·replace c21 := Bool.eq_false_iff.mpr c21; subst c21; replace H := zN H
    have HC22 := Aside0.mk H
    clear H
    obtain ⟨hcz23_0, hcz23_1, hcz23_2, hcz23_3, hcz23_4, hcz23_5, hcz23_6, hcz23_7, hcz23_8, hfz23_0, hfz23_1, hfz23_2, hfz23_3, hfz23_4, hfz23_5, hfz23_6, hfz23_7, hfz23_8⟩ := zC9 BK321
    go_upto_if 21 with (fail)
    go_cut [21] (fun v21 wc => ∃ (kq : Nat) (x21_21 : Bool), v21 = .bool x21_21 ∧ Aside0 (impl_Tidy_1.j1 kq a0_0 x21_21 a0_0 a0_1 a0_2 a0_3 l0_4 a0_5 a0_6 a0_7 l0_8 = some r) ∧ Aside0 (kq ≤ kj1) ∧ Aside0 (wc.heap[gb321]? = some (.cells #[.int .i64 a0_0, .int .i64 a0_1, .int .i64 a0_2, .string a0_3, (.slice A0_4 l0_4.length c0_4), .int .i64 a0_5, .int .i64 a0_6, .string a0_7, (.slice A0_8 l0_8.length c0_8)] 68 (0, 0))) ∧ Aside0 (Below w.heap.size w wc))
    case first =>
     have H := HC22.out
     clear HC22
     replace H := zI H; obtain ⟨c24, H⟩ | ⟨c24, H⟩ := H
     ·have c24b0 := beq_iff_eq.mpr c24
      have c24b1 := bne_eq_false_iff_eq.mpr c24
      clear c24
      (first | rw [c24b0] | (simp only [i64_w, i32_w]; rw [c24b0]) | skip)
      have H' := Aside0.mk H
      clear H
      go_wp2
      go_meet
      case rel => exact ⟨_, ((a0_0 == 1)), zS, H', ⟨by have := HJ1.out; first | omega | exact Nat.le_refl _⟩, ⟨zP BK321⟩, ⟨zB⟩⟩
     ·have c24b0 := beq_eq_false_iff_ne.mpr c24
      have c24b1 := bne_iff_ne.mpr c24
      (first | rw [c24b0] | (simp only [i64_w, i32_w]; rw [c24b0]) | skip)
      have H' := Aside0.mk H
      clear H
      go_wp2
      go_meet
      case rel => exact ⟨_, ((a0_0 == 2)), zS, H', ⟨by have := HJ1.out; first | omega | exact Nat.le_refl _⟩, ⟨zP BK321⟩, ⟨zB⟩⟩
    case rest =>
     clear HC22
     (try clear c21); (try clear hcz23_0); (try clear hcz23_1); (try clear hcz23_2); (try clear hcz23_3); (try clear hcz23_4); (try clear hcz23_5); (try clear hcz23_6); (try clear hcz23_7); (try clear hcz23_8); (try clear hfz23_0); (try clear hfz23_1); (try clear hfz23_2); (try clear hfz23_3); (try clear hfz23_4); (try clear hfz23_5); (try clear hfz23_6); (try clear hfz23_7); (try clear hfz23_8)
     obtain ⟨kq, x21_21, rfl, HA, HJ21, BK321, HB⟩ := hcut
     cases kq with
     | zero => exact absurd HA.out (by simp [impl_Tidy_1.j1])
     | succ kj21 =>
      have H := HA.out
      clear HA
      simp only [impl_Tidy_1.j1] at H
      by_cases c25 : x21_21 = true
      ·subst c25; replace H := zT H
       replace H := zO H; obtain ⟨t325, A26, H⟩ := H
       obtain rfl := Option.some.inj H
       obtain ⟨hcz27_0, hcz27_1, hcz27_2, hcz27_3, hcz27_4, hcz27_5, hcz27_6, hcz27_7, hcz27_8, hfz27_0, hfz27_1, hfz27_2, hfz27_3, hfz27_4, hfz27_5, hfz27_6, hfz27_7, hfz27_8⟩ := zC9 BK321
       go_wp2_with (first | ((with_reducible refine gate_callee (f := 42) rfl ?_); refine zG (some 26) Try.func42 #[.agg #[.int .i64 a0_1, .int .i64 a0_2, .string a0_3, .slice A0_4 l0_4.length c0_4]] ?_; (with_reducible refine (impl_noNode.calls a0_1 a0_2 a0_3 _ _ l0_4 t325 _ (zR HR0_4) HC0_4.out A26.out).mono ?_); rintro e w28 ⟨rfl, hb⟩; refine ⟨_, rfl, ?_⟩; have n_ := z2 (zb BK321 hb) (zs hb); clear BK321 HB; obtain ⟨BK321, HB⟩ := n_; (try clear hb)))
       go_ret
       exact ⟨zE, zB⟩
      ·replace c25 := Bool.eq_false_iff.mpr c25; subst c25; replace H := zN H
       replace H := zI H; obtain ⟨c29, H⟩ | ⟨c29, H⟩ := H
       ·have c29b0 := beq_iff_eq.mpr c29
        have c29b1 := bne_eq_false_iff_eq.mpr c29
        clear c29
        replace H := zO H; obtain ⟨t326, A30, H⟩ := H
        obtain rfl := Option.some.inj H
        obtain ⟨hcz31_0, hcz31_1, hcz31_2, hcz31_3, hcz31_4, hcz31_5, hcz31_6, hcz31_7, hcz31_8, hfz31_0, hfz31_1, hfz31_2, hfz31_3, hfz31_4, hfz31_5, hfz31_6, hfz31_7, hfz31_8⟩ := zC9 BK321
        go_wp2_with (first | ((with_reducible refine gate_callee (f := 43) rfl ?_); refine zG (some 32) Try.func43 #[.agg #[.int .i64 a0_1, .int .i64 a0_2, .string a0_3, .slice A0_4 l0_4.length c0_4]] ?_; (with_reducible refine (impl_isE.calls kj21 a0_1 a0_2 a0_3 _ _ l0_4 t326 _ (zR HR0_4) HC0_4.out A30.out).mono ?_); rintro e w32 ⟨rfl, hb⟩; refine ⟨_, rfl, ?_⟩; have n_ := z2 (zb BK321 hb) (zs hb); clear BK321 HB; obtain ⟨BK321, HB⟩ := n_; (try clear hb)))
        go_ret
        exact ⟨zE, zB⟩
       ·have c29b0 := beq_eq_false_iff_ne.mpr c29
        have c29b1 := bne_iff_ne.mpr c29
        obtain rfl := Option.some.inj H
        go_wp2
        go_ret
        exact ⟨zE, zB⟩

/-! ### impl_Rule_39_186: function 186 -/
theorem impl_Rule_39_186.calls (k : Nat) (A0 : Option Addr) (c0 : Nat) (l0 : List (S68))  (r : Int) (w : World) (hr0 : Kd.C k68 w A0 l0.length l0) (hc0 : l0.length ≤ c0) (h : impl_Rule_39_186.f k l0 = some r) :
  Calls Try.prog 80 #[.slice A0 l0.length c0, .func (.func 39) #[] #[]] w fun e w' => e = .returned (.int .i64 r) ∧ Below w.heap.size w w' := by
 have hu68 := Try.underlying68
 have HR0 := Aside0.mk hr0
 have HC0 := Aside0.mk hc0
 clear hr0 hc0
 have HB := Aside0.mk (Below.refl w.heap.size w)
 rw [impl_Rule_39_186.f] at h
 have H := h
 clear h
 have H' := Aside0.mk H
 clear H
 go_enter Try.func80, Try.ntmps80
 go_wp2
 go_loopg [8] k (fun kq v8 w' => ∃ (x8_1 : Int), v8 = .int .i64 x8_1 ∧ Aside0 (impl_Rule_39_186.l0 kq l0 (l0.length : Int) x8_1 = some r) ∧ Aside0 (kq ≤ k) ∧ Aside0 (Below w.heap.size w w'))
 case atStart => exact ⟨(0), zS, H', ⟨Nat.le_refl _⟩, ⟨zB⟩⟩
 case round =>
  clear H'
  obtain ⟨x8_1, rfl, HA, HK1, HB⟩ := hrel
  cases gk with
  | zero => exact absurd HA.out (by simp [impl_Rule_39_186.l0])
  | succ k1 =>
   have H := HA.out
   clear HA
   simp only [impl_Rule_39_186.l0] at H
   replace H := zI H; obtain ⟨c3, H⟩ | ⟨c3, H⟩ := H
   ·have c3b0 := decide_eq_true c3
    clear c3
    replace H := zI H; obtain ⟨c4, H⟩ | ⟨c4, H⟩ := H
    ·have c4b0 := decide_eq_true c4
     clear c4
     replace H := zI H; obtain ⟨c5, H⟩ | ⟨c5, H⟩ := H
     ·have c5b0 := decide_eq_true c5
      clear c5
      replace H := zO H; obtain ⟨t328, A6, H⟩ := H
      by_cases c7 : t328 = true
      ·subst c7; replace H := zT H
       obtain rfl := Option.some.inj H
       have p327 : 0 ≤ (x8_1 : Int) := zW
       have q327 : x8_1 < (l0.length : Int) := zW
       obtain ⟨ad327, A327_4, c327_4, A327_8, c327_8, e327, hx327_0, hx327_1, hx327_2, hx327_3, hx327_4, hx327_5, hx327_6, hx327_7, hx327_8, hl327_4, hi327_4, hl327_8, hi327_8⟩ := at_T68 HR0.out x8_1 p327 q327
       cases e327
       replace hx327_0 := zc HB hx327_0
       replace hx327_1 := zc HB hx327_1
       replace hx327_2 := zc HB hx327_2
       replace hx327_3 := zc HB hx327_3
       replace hx327_4 := zc HB hx327_4
       replace hx327_5 := zc HB hx327_5
       replace hx327_6 := zc HB hx327_6
       replace hx327_7 := zc HB hx327_7
       replace hx327_8 := zc HB hx327_8
       have HR327_4 := Aside0.mk hi327_4
       have HC327_4 := Aside0.mk hl327_4
       clear hi327_4 hl327_4
       have HR327_8 := Aside0.mk hi327_8
       have HC327_8 := Aside0.mk hl327_8
       clear hi327_8 hl327_8
       replace p327 := eq_true p327
       replace q327 := eq_true q327
       go_wp2_with (first | ((with_reducible refine gate_value (t := 11) rfl ?_); refine goesV_ (some 16) rfl rfl Try.func39 (by kernel_rfl) rfl #[.agg #[.int .i64 ((rd_T68 l0 x8_1).f0), .int .i64 ((rd_T68 l0 x8_1).f1.f0), .int .i64 ((rd_T68 l0 x8_1).f1.f1), .string ((rd_T68 l0 x8_1).f1.f2), .slice A327_4 ((rd_T68 l0 x8_1).f1.f3).length c327_4, .int .i64 ((rd_T68 l0 x8_1).f2.f0), .int .i64 ((rd_T68 l0 x8_1).f2.f1), .string ((rd_T68 l0 x8_1).f2.f2), .slice A327_8 ((rd_T68 l0 x8_1).f2.f3).length c327_8]] rfl _ rfl zA ?_; (with_reducible refine (impl_Tidy_1.calls k1 ((rd_T68 l0 x8_1).f0) ((rd_T68 l0 x8_1).f1.f0) ((rd_T68 l0 x8_1).f1.f1) ((rd_T68 l0 x8_1).f1.f2) _ _ ((rd_T68 l0 x8_1).f1.f3) ((rd_T68 l0 x8_1).f2.f0) ((rd_T68 l0 x8_1).f2.f1) ((rd_T68 l0 x8_1).f2.f2) _ _ ((rd_T68 l0 x8_1).f2.f3) true _ (zR HR327_4) HC327_4.out (zR HR327_8) HC327_8.out A6.out).mono ?_); rintro e w8 ⟨rfl, hb⟩; refine ⟨_, rfl, ?_⟩; have n_ := Aside0.mk (zs hb); clear HB; have HB := n_; clear n_; (try clear hb)))
       go_ret
       exact ⟨zE, zB⟩
      ·replace c7 := Bool.eq_false_iff.mpr c7; subst c7; replace H := zN H
       have H' := Aside0.mk H
       clear H
       have p327 : 0 ≤ (x8_1 : Int) := zW
       have q327 : x8_1 < (l0.length : Int) := zW
       obtain ⟨ad327, A327_4, c327_4, A327_8, c327_8, e327, hx327_0, hx327_1, hx327_2, hx327_3, hx327_4, hx327_5, hx327_6, hx327_7, hx327_8, hl327_4, hi327_4, hl327_8, hi327_8⟩ := at_T68 HR0.out x8_1 p327 q327
       cases e327
       replace hx327_0 := zc HB hx327_0
       replace hx327_1 := zc HB hx327_1
       replace hx327_2 := zc HB hx327_2
       replace hx327_3 := zc HB hx327_3
       replace hx327_4 := zc HB hx327_4
       replace hx327_5 := zc HB hx327_5
       replace hx327_6 := zc HB hx327_6
       replace hx327_7 := zc HB hx327_7
       replace hx327_8 := zc HB hx327_8
       have HR327_4 := Aside0.mk hi327_4
       have HC327_4 := Aside0.mk hl327_4
       clear hi327_4 hl327_4
       have HR327_8 := Aside0.mk hi327_8
       have HC327_8 := Aside0.mk hl327_8
       clear hi327_8 hl327_8
       replace p327 := eq_true p327
       replace q327 := eq_true q327
       go_wp2_with (first | ((with_reducible refine gate_value (t := 11) rfl ?_); refine goesV_ (some 16) rfl rfl Try.func39 (by kernel_rfl) rfl #[.agg #[.int .i64 ((rd_T68 l0 x8_1).f0), .int .i64 ((rd_T68 l0 x8_1).f1.f0), .int .i64 ((rd_T68 l0 x8_1).f1.f1), .string ((rd_T68 l0 x8_1).f1.f2), .slice A327_4 ((rd_T68 l0 x8_1).f1.f3).length c327_4, .int .i64 ((rd_T68 l0 x8_1).f2.f0), .int .i64 ((rd_T68 l0 x8_1).f2.f1), .string ((rd_T68 l0 x8_1).f2.f2), .slice A327_8 ((rd_T68 l0 x8_1).f2.f3).length c327_8]] rfl _ rfl zA ?_; (with_reducible refine (impl_Tidy_1.calls k1 ((rd_T68 l0 x8_1).f0) ((rd_T68 l0 x8_1).f1.f0) ((rd_T68 l0 x8_1).f1.f1) ((rd_T68 l0 x8_1).f1.f2) _ _ ((rd_T68 l0 x8_1).f1.f3) ((rd_T68 l0 x8_1).f2.f0) ((rd_T68 l0 x8_1).f2.f1) ((rd_T68 l0 x8_1).f2.f2) _ _ ((rd_T68 l0 x8_1).f2.f3) false _ (zR HR327_4) HC327_4.out (zR HR327_8) HC327_8.out A6.out).mono ?_); rintro e w9 ⟨rfl, hb⟩; refine ⟨_, rfl, ?_⟩; have n_ := Aside0.mk (zs hb); clear HB; have HB := n_; clear n_; (try clear hb)))
       go_roundg k1
       case measure => have := HK1.out; omega
       case rel => exact ⟨(wrap64 (x8_1 + 1)), zS, H', ⟨by have := HK1.out; omega⟩, ⟨zB⟩⟩
     ·exact absurd H (by simp)
    ·exact absurd H (by simp)
   ·have c3b0 := decide_eq_false c3
    clear c3
    obtain rfl := Option.some.inj H
    go_wp2
    go_ret
    exact ⟨zE, zB⟩

/-! ### impl_Rule_39_185: function 185 -/
theorem impl_Rule_39_185.calls (k : Nat) (A0 : Option Addr) (c0 : Nat) (l0 : List (S68))  (r : Bool) (w : World) (hr0 : Kd.C k68 w A0 l0.length l0) (hc0 : l0.length ≤ c0) (h : impl_Rule_39_185.f k l0 = some r) :
  Calls Try.prog 38 #[.slice A0 l0.length c0, .func (.func 39) #[] #[]] w fun e w' => e = .returned (.bool r) ∧ Below w.heap.size w w' := by
 have HR0 := Aside0.mk hr0
 have HC0 := Aside0.mk hc0
 clear hr0 hc0
 have HB := Aside0.mk (Below.refl w.heap.size w)
 rw [impl_Rule_39_185.f] at h
 have H := h
 clear h
 replace H := zO H; obtain ⟨t329, A3, H⟩ := H
 obtain rfl := Option.some.inj H
 go_enter Try.func38, Try.ntmps38
 go_wp2_with (first | ((with_reducible refine gate_callee (f := 80) rfl ?_); refine zG (some 7) Try.func80 #[.slice A0 l0.length c0, .func (.func 39) #[] #[]] ?_; (with_reducible refine (impl_Rule_39_186.calls k _ _ l0  t329 _ ?side1 ?side2 A3.out).mono ?_); (case side1 => repeat (first | exact HR0.out | (with_reducible refine Kd.C_alloc ?_ _) | (with_reducible refine Kd.C_drewN ?_ _) | (with_reducible refine Kd.C_drew ?_))); (case side2 => exact HC0.out); rintro e w4 ⟨rfl, hb⟩; refine ⟨_, rfl, ?_⟩; have n_ := Aside0.mk (zs hb); clear HB; have HB := n_; clear n_; (try clear hb)))
 go_ret
 exact ⟨zE, zB⟩

/-! ### impl_Tidy: function 11 -/
theorem impl_Tidy.calls (k : Nat) (A0 : Option Addr) (c0 : Nat) (l0 : List (S68)) (r : Bool) (w : World) (hr0 : Kd.C k68 w A0 l0.length l0) (hc0 : l0.length ≤ c0) (h : impl_Tidy.f k l0 = some r) :
  Calls Try.prog 11 #[.slice A0 l0.length c0] w fun e w' => e = .returned (.bool r) ∧ Below w.heap.size w w' := by
 have HR0 := Aside0.mk hr0
 have HC0 := Aside0.mk hc0
 clear hr0 hc0
 have HB := Aside0.mk (Below.refl w.heap.size w)
 rw [impl_Tidy.f] at h
 have H := h
 clear h
 replace H := zO H; obtain ⟨t330, A2, H⟩ := H
 obtain rfl := Option.some.inj H
 go_enter Try.func11, Try.ntmps11
 go_wp2_with (first | ((with_reducible refine gate_callee (f := 38) rfl ?_); refine zG (some 4) Try.func38 #[.slice A0 l0.length c0, .func (.func 39) #[] #[]] ?_; (with_reducible refine (impl_Rule_39_185.calls k _ _ l0  t330 _ ?side1 ?side2 A2.out).mono ?_); (case side1 => repeat (first | exact HR0.out | (with_reducible refine Kd.C_alloc ?_ _) | (with_reducible refine Kd.C_drewN ?_ _) | (with_reducible refine Kd.C_drew ?_))); (case side2 => exact HC0.out); rintro e w3 ⟨rfl, hb⟩; refine ⟨_, rfl, ?_⟩; have n_ := Aside0.mk (zs hb); clear HB; have HB := n_; clear n_; (try clear hb)))
 go_ret
 exact ⟨zE, zB⟩

/-! ### laws_eqNodeS: function 118 -/
/-! ### laws_eqNode: function 90 -/
end Go.Proofs.Ythigelphmjepaaa.QFnExactTidy
