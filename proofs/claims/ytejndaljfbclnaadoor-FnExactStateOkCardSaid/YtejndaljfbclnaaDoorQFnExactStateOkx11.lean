/- Written by wip/pr2, a program of this session. -/
import Derived.Test.YtejndaljfbclnaaDoorQFnExactStateOkx0
import Derived.Test.YtejndaljfbclnaaDoorQFnExactStateOkx2
import Derived.Test.YtejndaljfbclnaaDoorQFnExactStateOkx9
import Derived.Test.YtejndaljfbclnaaDoorQFnExactStateOkx10
import Derived.Test.YtejndaljfbclnaaDoorWFnExactStateOk
namespace Go.Proofs.YtejndaljfbclnaaDoor.QFnExactStateOk
open Go.RowKit Go.Proofs.YtejndaljfbclnaaDoorW.PrintWords Go.Proofs.YtejndaljfbclnaaDoorW.PrintLast Go.Proofs.YtejndaljfbclnaaDoorW.PrintMore Go.Proofs.YtejndaljfbclnaaDoorW.Mac
attribute [local go_sem] max2_int min2_int max_two min_two max_three min_three max_four min_four   -- for this text's walks alone
set_option linter.unusedVariables false
set_option linter.unusedSimpArgs false
set_option maxHeartbeats 8000000
set_option maxRecDepth 100000

/-! ### impl_ValOk: function 72 -/
theorem impl_ValOk.calls (k : Nat) (a0_0 : Int) (a0_1 : Int) (a0_2 : ByteArray) (r : Bool) (w : World) (h : impl_ValOk.f k a0_0 a0_1 a0_2 = some r) :
  Calls Tryd.prog 72 #[.agg #[.int .i64 a0_0, .int .i64 a0_1, .string a0_2]] w fun e w' => e = .returned (.bool r) ∧ Below w.heap.size w w' := by
 have hu26 := Tryd.underlying26
 have HB := Aside0.mk (Below.refl w.heap.size w)
 rw [impl_ValOk.f] at h
 have H := h
 clear h
 have HC2 := Aside0.mk H
 clear H
 go_enter Tryd.func72, Tryd.ntmps72
 go_upto_region 1 with (first | ((with_reducible refine gate_dst (N := 1) rfl ?_); (try (refine gate_guard (by rfl) ?_; dsimp only)); refine zX (N := 1) (cs := #[.int .i64 a0_0, .int .i64 a0_1, .string a0_2]) (t := 26) ?_; intro gb184 hg w3 hbox hb; have n_ := z4 (zs hb) (hbox) (zl hg) (zl hg); clear HB; obtain ⟨HB, BK184, GW184, GE184⟩ := n_; clear hb hbox hg))
 (try simp only [Act.put, List.setIfInBounds_toArray, List.set_cons_zero, List.set_cons_succ])
 go_cut [14] (fun v14 wc => ∃ (kq : Nat) (x14_1 : Bool), v14 = .bool x14_1 ∧ Aside0 (impl_ValOk.j0 kq x14_1 a0_0 a0_1 a0_2 = some r) ∧ Aside0 (kq ≤ k) ∧ Aside0 (wc.heap[gb184]? = some (.cells #[.int .i64 a0_0, .int .i64 a0_1, .string a0_2] 26 (0, 0))) ∧ Aside0 (Below w.heap.size w wc))
 case first =>
  have H := HC2.out
  clear HC2
  replace H := zO H; obtain ⟨t185, A4, H⟩ := H
  by_cases c5 : t185 = true
  ·subst c5; replace H := zT H
   as_aux_lemma =>
    have H' := Aside0.mk H
    clear H
    obtain ⟨hcz6_0, hcz6_1, hcz6_2, hfz6_0, hfz6_1, hfz6_2⟩ := zC3 BK184
    go_wp2_with (first | ((with_reducible refine gate_callee (f := 17) rfl ?_); refine goesL_ (some 7) rfl rfl Tryd.func17 (by as_aux_lemma => kernel_rfl) rfl #[.int .i64 a0_1] rfl zA ?_; (with_reducible refine (impl_DecOk.calls a0_1 true _ A4.out).mono ?_); rintro e w' ⟨rfl, ⟨nd, rfl⟩⟩; refine ⟨_, rfl, ?_⟩))
    go_meet
    case rel => exact ⟨_, (decide ((a0_2.size : Int) > 300)), zS, H', ⟨by first | omega | exact Nat.le_refl _⟩, ⟨zP BK184⟩, ⟨zB⟩⟩
  ·replace c5 := Bool.eq_false_iff.mpr c5; subst c5; replace H := zN H
   as_aux_lemma =>
    have H' := Aside0.mk H
    clear H
    obtain ⟨hcz7_0, hcz7_1, hcz7_2, hfz7_0, hfz7_1, hfz7_2⟩ := zC3 BK184
    go_wp2_with (first | ((with_reducible refine gate_callee (f := 17) rfl ?_); refine goesL_ (some 7) rfl rfl Tryd.func17 (by as_aux_lemma => kernel_rfl) rfl #[.int .i64 a0_1] rfl zA ?_; (with_reducible refine (impl_DecOk.calls a0_1 false _ A4.out).mono ?_); rintro e w' ⟨rfl, ⟨nd, rfl⟩⟩; refine ⟨_, rfl, ?_⟩))
    go_meet
    case rel => exact ⟨_, (true), zS, H', ⟨by first | omega | exact Nat.le_refl _⟩, ⟨zP BK184⟩, ⟨zB⟩⟩
 case rest =>
  clear HC2
  obtain ⟨kq, x14_1, rfl, HA, HJ1, BK184, HB⟩ := hcut
  cases kq with
  | zero => exact absurd HA.out (by simp [impl_ValOk.j0])
  | succ kj1 =>
   have H := HA.out
   clear HA
   simp only [impl_ValOk.j0] at H
   by_cases c8 : x14_1 = true
   ·subst c8; replace H := zT H
    as_aux_lemma =>
     obtain rfl := Option.some.inj H
     go_wp2
     go_ret
     exact ⟨zE, zB⟩
   ·replace c8 := Bool.eq_false_iff.mpr c8; subst c8; replace H := zN H
    replace H := zI H; obtain ⟨c9, H⟩ | ⟨c9, H⟩ := H
    ·have c9b0 := beq_iff_eq.mpr c9
     have c9b1 := bne_eq_false_iff_eq.mpr c9
     clear c9
     replace H := zI H; obtain ⟨c10, H⟩ | ⟨c10, H⟩ := H
     ·have c10b0 := beq_iff_eq.mpr c10
      have c10b1 := bne_eq_false_iff_eq.mpr c10
      clear c10
      as_aux_lemma =>
       obtain rfl := Option.some.inj H
       obtain ⟨hcz11_0, hcz11_1, hcz11_2, hfz11_0, hfz11_1, hfz11_2⟩ := zC3 BK184
       go_wp2
       go_ret
       exact ⟨zE, zB⟩
     ·have c10b0 := beq_eq_false_iff_ne.mpr c10
      have c10b1 := bne_iff_ne.mpr c10
      as_aux_lemma =>
       obtain rfl := Option.some.inj H
       obtain ⟨hcz12_0, hcz12_1, hcz12_2, hfz12_0, hfz12_1, hfz12_2⟩ := zC3 BK184
       go_wp2
       go_ret
       exact ⟨zE, zB⟩
    ·have c9b0 := beq_eq_false_iff_ne.mpr c9
     have c9b1 := bne_iff_ne.mpr c9
     replace H := zI H; obtain ⟨c13, H⟩ | ⟨c13, H⟩ := H
     ·have c13b0 := beq_iff_eq.mpr c13
      have c13b1 := bne_eq_false_iff_eq.mpr c13
      clear c13
      as_aux_lemma =>
       obtain rfl := Option.some.inj H
       obtain ⟨hcz14_0, hcz14_1, hcz14_2, hfz14_0, hfz14_1, hfz14_2⟩ := zC3 BK184
       go_wp2
       go_ret
       exact ⟨zE, zB⟩
     ·have c13b0 := beq_eq_false_iff_ne.mpr c13
      have c13b1 := bne_iff_ne.mpr c13
      replace H := zI H; obtain ⟨c15, H⟩ | ⟨c15, H⟩ := H
      ·have c15b0 := beq_iff_eq.mpr c15
       have c15b1 := bne_eq_false_iff_eq.mpr c15
       clear c15
       as_aux_lemma =>
        obtain rfl := Option.some.inj H
        obtain ⟨hcz16_0, hcz16_1, hcz16_2, hfz16_0, hfz16_1, hfz16_2⟩ := zC3 BK184
        go_wp2
        go_ret
        exact ⟨zE, zB⟩
      ·have c15b0 := beq_eq_false_iff_ne.mpr c15
       have c15b1 := bne_iff_ne.mpr c15
       replace H := zI H; obtain ⟨c17, H⟩ | ⟨c17, H⟩ := H
       ·have c17b0 := beq_iff_eq.mpr c17
        have c17b1 := bne_eq_false_iff_eq.mpr c17
        clear c17
        replace H := zO H; obtain ⟨⟨t186, t187⟩, A18, H⟩ := H
        replace H : (if t187 = true then (some (t186 == a0_1)) else (some false)) = some r := H
        by_cases c19 : t187 = true
        ·subst c19; replace H := zT H
         as_aux_lemma =>
          obtain rfl := Option.some.inj H
          obtain ⟨hcz20_0, hcz20_1, hcz20_2, hfz20_0, hfz20_1, hfz20_2⟩ := zC3 BK184
          go_wp2_with (first | ((with_reducible refine gate_callee (f := 15) rfl ?_); refine goesL_ (some 42) rfl rfl Tryd.func15 (by as_aux_lemma => kernel_rfl) rfl #[.string a0_2] rfl zA ?_; (with_reducible refine (impl_DecLooks.calls kj1 a0_2 t186 true _ A18.out).mono ?_); rintro e w21 ⟨rfl, hb⟩; refine ⟨_, rfl, ?_⟩; have n_ := z2 (zb BK184 hb) (zs hb); clear BK184 HB; obtain ⟨BK184, HB⟩ := n_; (try clear hb); obtain ⟨hcz22_0, hcz22_1, hcz22_2, hfz22_0, hfz22_1, hfz22_2⟩ := zC3 BK184))
          go_ret
          exact ⟨zE, zB⟩
        ·replace c19 := Bool.eq_false_iff.mpr c19; subst c19; replace H := zN H
         as_aux_lemma =>
          obtain rfl := Option.some.inj H
          obtain ⟨hcz23_0, hcz23_1, hcz23_2, hfz23_0, hfz23_1, hfz23_2⟩ := zC3 BK184
          go_wp2_with (first | ((with_reducible refine gate_callee (f := 15) rfl ?_); refine goesL_ (some 42) rfl rfl Tryd.func15 (by as_aux_lemma => kernel_rfl) rfl #[.string a0_2] rfl zA ?_; (with_reducible refine (impl_DecLooks.calls kj1 a0_2 t186 false _ A18.out).mono ?_); rintro e w24 ⟨rfl, hb⟩; refine ⟨_, rfl, ?_⟩; have n_ := z2 (zb BK184 hb) (zs hb); clear BK184 HB; obtain ⟨BK184, HB⟩ := n_; (try clear hb)))
          go_ret
          exact ⟨zE, zB⟩
       ·have c17b0 := beq_eq_false_iff_ne.mpr c17
        have c17b1 := bne_iff_ne.mpr c17
        as_aux_lemma =>
         obtain rfl := Option.some.inj H
         obtain ⟨hcz25_0, hcz25_1, hcz25_2, hfz25_0, hfz25_1, hfz25_2⟩ := zC3 BK184
         go_wp2
         go_ret
         exact ⟨zE, zB⟩

/-! ### impl_StateOk_1: function 71 -/
theorem impl_StateOk_1.calls (k : Nat) (a0_0 : Int) (a0_1 : Int) (a0_2 : ByteArray) (r : Bool) (w : World) (h : impl_StateOk_1.f k a0_0 a0_1 a0_2 = some r) :
  Calls Tryd.prog 71 #[.agg #[.int .i64 a0_0, .int .i64 a0_1, .string a0_2]] w fun e w' => e = .returned (.bool r) ∧ Below w.heap.size w w' := by
 have hu26 := Tryd.underlying26
 have HB := Aside0.mk (Below.refl w.heap.size w)
 rw [impl_StateOk_1.f] at h
 have H := h
 clear h
 replace H := zO H; obtain ⟨t189, A2, H⟩ := H
 as_aux_lemma =>
  obtain rfl := Option.some.inj H
  go_enter Tryd.func71, Tryd.ntmps71
  go_wp2_with (first | ((with_reducible refine gate_dst (N := 1) rfl ?_); refine zX (N := 1) (cs := #[.int .i64 a0_0, .int .i64 a0_1, .string a0_2]) (t := 26) ?_; intro gb188 hg w3 hbox hb; have n_ := z4 (zs hb) (hbox) (zl hg) (zl hg); clear HB; obtain ⟨HB, BK188, GW188, GE188⟩ := n_; clear hb hbox hg; obtain ⟨hcz4_0, hcz4_1, hcz4_2, hfz4_0, hfz4_1, hfz4_2⟩ := zC3 BK188) | ((with_reducible refine gate_callee (f := 72) rfl ?_); refine goesL_ (some 4) rfl rfl Tryd.func72 (by as_aux_lemma => kernel_rfl) rfl #[.agg #[.int .i64 a0_0, .int .i64 a0_1, .string a0_2]] rfl zA ?_; (with_reducible refine (impl_ValOk.calls k a0_0 a0_1 a0_2 t189 _ A2.out).mono ?_); rintro e w5 ⟨rfl, hb⟩; refine ⟨_, rfl, ?_⟩; have n_ := z2 (zb BK188 hb) (zs hb); clear BK188 HB; obtain ⟨BK188, HB⟩ := n_; (try clear hb)))
  go_ret
  exact ⟨zE, zB⟩

/-! ### strings_Compare: function 40 -/
theorem strings_Compare.calls (a0 : ByteArray) (a1 : ByteArray) (r : Int) (w : World) (h : strings_Compare.f a0 a1 = some r) :
  Calls Tryd.prog 40 #[.string a0, .string a1] w fun e w' => e = .returned (.int .i64 r) ∧ Drawn0 w w' := by
 obtain rfl := Option.some.inj h
 refine (Ext.strings_Compare a0 a1 w).mono ?_
 rintro e w' ⟨rfl, rfl⟩
 exact ⟨rfl, Drawn0.refl _⟩

/-! ### impl_cellBefore: function 73 -/
theorem impl_cellBefore.calls (a0_0 : Int) (a0_1 : ByteArray) (a0_2 : Int) (a0_3 : Int) (a0_4 : ByteArray) (a1_0 : Int) (a1_1 : ByteArray) (a1_2 : Int) (a1_3 : Int) (a1_4 : ByteArray) (r : Int) (w : World) (h : impl_cellBefore.f a0_0 a0_1 a0_2 a0_3 a0_4 a1_0 a1_1 a1_2 a1_3 a1_4 = some r) :
  Calls Tryd.prog 73 #[.agg #[.int .i64 a0_0, .string a0_1, .int .i64 a0_2, .int .i64 a0_3, .string a0_4], .agg #[.int .i64 a1_0, .string a1_1, .int .i64 a1_2, .int .i64 a1_3, .string a1_4]] w fun e w' => e = .returned (.int .i64 r) ∧ Below w.heap.size w w' := by
 have hu84 := Tryd.underlying84
 have HB := Aside0.mk (Below.refl w.heap.size w)
 rw [impl_cellBefore.f] at h
 have H := h
 clear h
 replace H := zI H; obtain ⟨c3, H⟩ | ⟨c3, H⟩ := H
 ·have c3b0 := decide_eq_true c3
  clear c3
  as_aux_lemma =>
   obtain rfl := Option.some.inj H
   go_enter Tryd.func73, Tryd.ntmps73
   go_wp2_with (first | ((with_reducible refine gate_dst (N := 2) rfl ?_); refine zX (N := 2) (cs := #[.int .i64 a0_0, .string a0_1, .int .i64 a0_2, .int .i64 a0_3, .string a0_4]) (t := 84) ?_; intro gb190 hg w4 hbox hb; have n_ := z4 (zs hb) (hbox) (zl hg) (zl hg); clear HB; obtain ⟨HB, BK190, GW190, GE190⟩ := n_; clear hb hbox hg) | ((with_reducible refine gate_dst (N := 3) rfl ?_); refine zX (N := 3) (cs := #[.int .i64 a1_0, .string a1_1, .int .i64 a1_2, .int .i64 a1_3, .string a1_4]) (t := 84) ?_; intro gb191 hg w5 hbox hb; have n_ := z7 (zb BK190 hb) (zs hb) (hbox) (zl hg) (zl hg) (zn BK190 hg) (zm BK190 hg); clear BK190 HB; obtain ⟨BK190, HB, BK191, GW191, GE191, NB190_191, NB191_190⟩ := n_; clear hb hbox hg; have hnb6 := NB190_191.out; have hnc6 := NB191_190.out; obtain ⟨hcz7_0, hcz7_1, hcz7_2, hcz7_3, hcz7_4, hfz7_0, hfz7_1, hfz7_2, hfz7_3, hfz7_4⟩ := zC5 BK190; obtain ⟨hcz8_0, hcz8_1, hcz8_2, hcz8_3, hcz8_4, hfz8_0, hfz8_1, hfz8_2, hfz8_3, hfz8_4⟩ := zC5 BK191))
   go_ret
   exact ⟨zE, zB⟩
 ·have c3b0 := decide_eq_false c3
  clear c3
  replace H := zI H; obtain ⟨c9, H⟩ | ⟨c9, H⟩ := H
  ·have c9b0 := decide_eq_true c9
   clear c9
   as_aux_lemma =>
    obtain rfl := Option.some.inj H
    go_enter Tryd.func73, Tryd.ntmps73
    go_wp2_with (first | ((with_reducible refine gate_dst (N := 2) rfl ?_); refine zX (N := 2) (cs := #[.int .i64 a0_0, .string a0_1, .int .i64 a0_2, .int .i64 a0_3, .string a0_4]) (t := 84) ?_; intro gb190 hg w10 hbox hb; have n_ := z4 (zs hb) (hbox) (zl hg) (zl hg); clear HB; obtain ⟨HB, BK190, GW190, GE190⟩ := n_; clear hb hbox hg) | ((with_reducible refine gate_dst (N := 3) rfl ?_); refine zX (N := 3) (cs := #[.int .i64 a1_0, .string a1_1, .int .i64 a1_2, .int .i64 a1_3, .string a1_4]) (t := 84) ?_; intro gb191 hg w11 hbox hb; have n_ := z7 (zb BK190 hb) (zs hb) (hbox) (zl hg) (zl hg) (zn BK190 hg) (zm BK190 hg); clear BK190 HB; obtain ⟨BK190, HB, BK191, GW191, GE191, NB190_191, NB191_190⟩ := n_; clear hb hbox hg; have hnb12 := NB190_191.out; have hnc12 := NB191_190.out; obtain ⟨hcz13_0, hcz13_1, hcz13_2, hcz13_3, hcz13_4, hfz13_0, hfz13_1, hfz13_2, hfz13_3, hfz13_4⟩ := zC5 BK190; obtain ⟨hcz14_0, hcz14_1, hcz14_2, hcz14_3, hcz14_4, hfz14_0, hfz14_1, hfz14_2, hfz14_3, hfz14_4⟩ := zC5 BK191))
    go_ret
    exact ⟨zE, zB⟩
  ·have c9b0 := decide_eq_false c9
   clear c9
   replace H := zO H; obtain ⟨t192, A15, H⟩ := H
   as_aux_lemma =>
    obtain rfl := Option.some.inj H
    go_enter Tryd.func73, Tryd.ntmps73
    go_wp2_with (first | ((with_reducible refine gate_dst (N := 2) rfl ?_); refine zX (N := 2) (cs := #[.int .i64 a0_0, .string a0_1, .int .i64 a0_2, .int .i64 a0_3, .string a0_4]) (t := 84) ?_; intro gb190 hg w16 hbox hb; have n_ := z4 (zs hb) (hbox) (zl hg) (zl hg); clear HB; obtain ⟨HB, BK190, GW190, GE190⟩ := n_; clear hb hbox hg) | ((with_reducible refine gate_dst (N := 3) rfl ?_); refine zX (N := 3) (cs := #[.int .i64 a1_0, .string a1_1, .int .i64 a1_2, .int .i64 a1_3, .string a1_4]) (t := 84) ?_; intro gb191 hg w17 hbox hb; have n_ := z7 (zb BK190 hb) (zs hb) (hbox) (zl hg) (zl hg) (zn BK190 hg) (zm BK190 hg); clear BK190 HB; obtain ⟨BK190, HB, BK191, GW191, GE191, NB190_191, NB191_190⟩ := n_; clear hb hbox hg; have hnb18 := NB190_191.out; have hnc18 := NB191_190.out; obtain ⟨hcz19_0, hcz19_1, hcz19_2, hcz19_3, hcz19_4, hfz19_0, hfz19_1, hfz19_2, hfz19_3, hfz19_4⟩ := zC5 BK190; obtain ⟨hcz20_0, hcz20_1, hcz20_2, hcz20_3, hcz20_4, hfz20_0, hfz20_1, hfz20_2, hfz20_3, hfz20_4⟩ := zC5 BK191) | ((with_reducible refine gate_callee (f := 40) rfl ?_); refine goesL_ (some 21) rfl rfl Tryd.func40 (by as_aux_lemma => kernel_rfl) rfl #[.string a0_1, .string a1_1] rfl zA ?_; (with_reducible refine (strings_Compare.calls a0_1 a1_1 t192 _ A15.out).mono ?_); rintro e w' ⟨rfl, ⟨nd, rfl⟩⟩; refine ⟨_, rfl, ?_⟩))
    go_ret
    exact ⟨zE, zB⟩

/-! ### impl_Val_71_188: function 188 -/
theorem impl_Val_71_188.calls (k : Nat) (A0 : Option Addr) (c0 : Nat) (l0 : List (S26))  (r : Int) (w : World) (hr0 : Kd.C k26 w A0 l0.length l0) (hc0 : l0.length ≤ c0) (h : impl_Val_71_188.f k l0 = some r) :
  Calls Tryd.prog 114 #[.slice A0 l0.length c0, .func (.func 71) #[] #[]] w fun e w' => e = .returned (.int .i64 r) ∧ Below w.heap.size w w' := by
 have hu26 := Tryd.underlying26
 have HR0 := Aside0.mk hr0
 have HC0 := Aside0.mk hc0
 clear hr0 hc0
 have HB := Aside0.mk (Below.refl w.heap.size w)
 rw [impl_Val_71_188.f] at h
 have H := h
 clear h
 have H' := Aside0.mk H
 clear H
 go_enter Tryd.func114, Tryd.ntmps114
 go_wp2
 go_loopg [8] k (fun kq v8 w' => ∃ (x8_1 : Int), v8 = .int .i64 x8_1 ∧ Aside0 (impl_Val_71_188.l0 kq l0 (l0.length : Int) x8_1 = some r) ∧ Aside0 (kq ≤ k) ∧ Aside0 (Below w.heap.size w w'))
 case atStart => exact ⟨(0), zS, H', ⟨Nat.le_refl _⟩, ⟨zB⟩⟩
 case round =>
  clear H'
  obtain ⟨x8_1, rfl, HA, HK1, HB⟩ := hrel
  cases gk with
  | zero => exact absurd HA.out (by simp [impl_Val_71_188.l0])
  | succ k1 =>
   have H := HA.out
   clear HA
   simp only [impl_Val_71_188.l0] at H
   replace H := zI H; obtain ⟨c3, H⟩ | ⟨c3, H⟩ := H
   ·have c3b0 := decide_eq_true c3
    clear c3
    replace H := zI H; obtain ⟨c4, H⟩ | ⟨c4, H⟩ := H
    ·have c4b0 := decide_eq_true c4
     clear c4
     replace H := zI H; obtain ⟨c5, H⟩ | ⟨c5, H⟩ := H
     ·have c5b0 := decide_eq_true c5
      clear c5
      replace H := zO H; obtain ⟨t194, A6, H⟩ := H
      by_cases c7 : t194 = true
      ·subst c7; replace H := zT H
       as_aux_lemma =>
        obtain rfl := Option.some.inj H
        have p193 : 0 ≤ (x8_1 : Int) := zW
        have q193 : x8_1 < (l0.length : Int) := zW
        obtain ⟨ad193, e193, hx193_0, hx193_1, hx193_2⟩ := at_T26 HR0.out x8_1 p193 q193
        cases e193
        replace hx193_0 := zc HB hx193_0
        replace hx193_1 := zc HB hx193_1
        replace hx193_2 := zc HB hx193_2
        replace p193 := eq_true p193
        replace q193 := eq_true q193
        go_wp2_with (first | ((with_reducible refine gate_value (t := 11) rfl ?_); refine goesV_ (some 16) rfl rfl Tryd.func71 (by as_aux_lemma => kernel_rfl) rfl #[.agg #[.int .i64 ((rd_T26 l0 x8_1).f0), .int .i64 ((rd_T26 l0 x8_1).f1), .string ((rd_T26 l0 x8_1).f2)]] rfl _ rfl zA ?_; (with_reducible refine (impl_StateOk_1.calls k1 ((rd_T26 l0 x8_1).f0) ((rd_T26 l0 x8_1).f1) ((rd_T26 l0 x8_1).f2) true _ A6.out).mono ?_); rintro e w8 ⟨rfl, hb⟩; refine ⟨_, rfl, ?_⟩; have n_ := Aside0.mk (zs hb); clear HB; have HB := n_; clear n_; (try clear hb)))
        go_ret
        exact ⟨zE, zB⟩
      ·replace c7 := Bool.eq_false_iff.mpr c7; subst c7; replace H := zN H
       as_aux_lemma =>
        have H' := Aside0.mk H
        clear H
        have p193 : 0 ≤ (x8_1 : Int) := zW
        have q193 : x8_1 < (l0.length : Int) := zW
        obtain ⟨ad193, e193, hx193_0, hx193_1, hx193_2⟩ := at_T26 HR0.out x8_1 p193 q193
        cases e193
        replace hx193_0 := zc HB hx193_0
        replace hx193_1 := zc HB hx193_1
        replace hx193_2 := zc HB hx193_2
        replace p193 := eq_true p193
        replace q193 := eq_true q193
        go_wp2_with (first | ((with_reducible refine gate_value (t := 11) rfl ?_); refine goesV_ (some 16) rfl rfl Tryd.func71 (by as_aux_lemma => kernel_rfl) rfl #[.agg #[.int .i64 ((rd_T26 l0 x8_1).f0), .int .i64 ((rd_T26 l0 x8_1).f1), .string ((rd_T26 l0 x8_1).f2)]] rfl _ rfl zA ?_; (with_reducible refine (impl_StateOk_1.calls k1 ((rd_T26 l0 x8_1).f0) ((rd_T26 l0 x8_1).f1) ((rd_T26 l0 x8_1).f2) false _ A6.out).mono ?_); rintro e w9 ⟨rfl, hb⟩; refine ⟨_, rfl, ?_⟩; have n_ := Aside0.mk (zs hb); clear HB; have HB := n_; clear n_; (try clear hb)))
        go_roundg k1
        case measure => have := HK1.out; omega
        case rel => exact ⟨(wrap64 (x8_1 + 1)), zS, H', ⟨by have := HK1.out; omega⟩, ⟨zB⟩⟩
     ·exact absurd H (by simp)
    ·exact absurd H (by simp)
   ·have c3b0 := decide_eq_false c3
    clear c3
    as_aux_lemma =>
     obtain rfl := Option.some.inj H
     go_wp2
     go_ret
     exact ⟨zE, zB⟩

/-! ### impl_Val_71_187: function 187 -/
theorem impl_Val_71_187.calls (k : Nat) (A0 : Option Addr) (c0 : Nat) (l0 : List (S26))  (r : Bool) (w : World) (hr0 : Kd.C k26 w A0 l0.length l0) (hc0 : l0.length ≤ c0) (h : impl_Val_71_187.f k l0 = some r) :
  Calls Tryd.prog 70 #[.slice A0 l0.length c0, .func (.func 71) #[] #[]] w fun e w' => e = .returned (.bool r) ∧ Below w.heap.size w w' := by
 have HR0 := Aside0.mk hr0
 have HC0 := Aside0.mk hc0
 clear hr0 hc0
 have HB := Aside0.mk (Below.refl w.heap.size w)
 rw [impl_Val_71_187.f] at h
 have H := h
 clear h
 replace H := zO H; obtain ⟨t195, A3, H⟩ := H
 as_aux_lemma =>
  obtain rfl := Option.some.inj H
  go_enter Tryd.func70, Tryd.ntmps70
  go_wp2_with (first | ((with_reducible refine gate_callee (f := 114) rfl ?_); refine goesL_ (some 7) rfl rfl Tryd.func114 (by as_aux_lemma => kernel_rfl) rfl #[.slice A0 l0.length c0, .func (.func 71) #[] #[]] rfl zA ?_; (with_reducible refine (impl_Val_71_188.calls k _ _ l0  t195 _ ?side1 ?side2 A3.out).mono ?_); (case side1 => repeat (first | exact HR0.out | (with_reducible refine Kd.C_alloc ?_ _) | (with_reducible refine Kd.C_drewN ?_ _) | (with_reducible refine Kd.C_drew ?_))); (case side2 => exact HC0.out); rintro e w4 ⟨rfl, hb⟩; refine ⟨_, rfl, ?_⟩; have n_ := Aside0.mk (zs hb); clear HB; have HB := n_; clear n_; (try clear hb)))
  go_ret
  exact ⟨zE, zB⟩

end Go.Proofs.YtejndaljfbclnaaDoor.QFnExactStateOk
