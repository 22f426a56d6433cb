/- Written by wip/pr2, a program of this session. -/
import Derived.Test.YtejndaljfbclnaaDoorQFnExactStateOkx0
import Derived.Test.YtejndaljfbclnaaDoorQFnExactStateOkx2
import Derived.Test.YtejndaljfbclnaaDoorQFnExactStateOkx9
import Derived.Test.YtejndaljfbclnaaDoorWFnExactStateOk
namespace Go.Proofs.YtejndaljfbclnaaDoor.QFnExactStateOk
open Go.RowKit Go.Proofs.YtejndaljfbclnaaDoorW.PrintWords Go.Proofs.YtejndaljfbclnaaDoorW.PrintLast Go.Proofs.YtejndaljfbclnaaDoorW.PrintMore Go.Proofs.YtejndaljfbclnaaDoorW.Mac
attribute [local go_sem] max2_int min2_int max_two min_two max_three min_three max_four min_four   -- for this text's walks alone
set_option linter.unusedVariables false
set_option linter.unusedSimpArgs false
set_option maxHeartbeats 8000000
set_option maxRecDepth 100000

/-! ### impl_DecFront: function 21 -/
theorem impl_DecFront.calls (k : Nat) (a0 : ByteArray) (r1 : Int) (r2 : Int) (w : World) (h : impl_DecFront.f k a0 = some (r1, r2)) :
  Calls Tryd.prog 21 #[.string a0] w fun e w' => e = .returned (.tuple #[.int .i64 r1, .int .i64 r2]) ∧ Below w.heap.size w w' := by
 have HB := Aside0.mk (Below.refl w.heap.size w)
 rw [impl_DecFront.f] at h
 have H := h
 clear h
 replace H := zO H; obtain ⟨t176, A2, H⟩ := H
 have HC3 := Aside0.mk H
 clear H
 go_enter Tryd.func21, Tryd.ntmps21
 go_upto_region 3 with (first | ((with_reducible refine gate_callee (f := 53) rfl ?_); refine goesL_ (some 15) rfl rfl Tryd.func53 (by as_aux_lemma => kernel_rfl) rfl #[.string a0, .string (⟨#[32]⟩ : ByteArray)] rfl zA ?_; (with_reducible refine (strings_TrimLeft.calls a0 (⟨#[32]⟩ : ByteArray) t176 _ A2.out).mono ?_); rintro e w' ⟨rfl, ⟨nd, rfl⟩⟩; refine ⟨_, rfl, ?_⟩))
 (try simp only [Act.put, List.setIfInBounds_toArray, List.set_cons_zero, List.set_cons_succ])
 go_cut [33] (fun v33 wc => ∃ (kq : Nat) (x33_2 : Bool), v33 = .bool x33_2 ∧ Aside0 (impl_DecFront.j0 kq a0 (wrap64 ((a0.size : Int) - (t176.size : Int))) false x33_2 = some (r1, r2)) ∧ Aside0 (kq ≤ k) ∧ Aside0 (Below w.heap.size w wc))
 case first =>
  have H := HC3.out
  clear HC3
  replace H := zI H; obtain ⟨c4, H⟩ | ⟨c4, H⟩ := H
  ·have c4b0 := decide_eq_true c4
   clear c4
   (first | rw [c4b0] | (simp only [i64_w, i32_w]; rw [c4b0]) | skip)
   obtain ⟨ji5, hji5⟩ : ∃ j_ : Int, (wrap64 ((a0.size : Int) - (t176.size : Int))) = j_ := ⟨_, rfl⟩
   replace H : (if 0 ≤ (ji5) then (if (bt a0 (ji5)) = 43 then (impl_DecFront.j0 k a0 ji5 false true) else (impl_DecFront.j0 k a0 ji5 false ((bt a0 (ji5)) == 45))) else (none)) = some (r1, r2) := by first | (rw [hji5] at H; exact H) | (simp only [hji5] at H ⊢; exact H)
   (try rw [hji5] at c4b0)
   have hji5w : (IntKind.i64.wrap ((a0.size : Int) - (t176.size : Int))) = ji5 := (i64_w _).trans hji5
   replace H := zI H; obtain ⟨c6, H⟩ | ⟨c6, H⟩ := H
   ·have c6b0 := decide_eq_true c6
    clear c6
    replace H := zI H; obtain ⟨c8, H⟩ | ⟨c8, H⟩ := H
    ·have c8b0 := beq_iff_eq.mpr c8
     have c8b1 := bne_eq_false_iff_eq.mpr c8
     clear c8
     as_aux_lemma =>
      have H' := Aside0.mk H
      clear H
      have p7 : 0 ≤ ((ji5) : Int) := zW
      have q7 : (ji5) < (a0.size : Int) := zW
      have hx7 := bt_at a0 (ji5)
      replace p7 := eq_true p7
      replace q7 := eq_true q7
      go_wp2
      go_meet
      case rel => exact ⟨_, (true), zS, (by first | exact H' | ((repeat (first | rw [hji5] | rw [hji12] | rw [hji22] | rw [hji29])); exact H')), ⟨by first | omega | exact Nat.le_refl _⟩, ⟨zB⟩⟩
    ·have c8b0 := beq_eq_false_iff_ne.mpr c8
     have c8b1 := bne_iff_ne.mpr c8
     as_aux_lemma =>
      have H' := Aside0.mk H
      clear H
      have p7 : 0 ≤ ((ji5) : Int) := zW
      have q7 : (ji5) < (a0.size : Int) := zW
      have hx7 := bt_at a0 (ji5)
      replace p7 := eq_true p7
      replace q7 := eq_true q7
      have p9 : 0 ≤ ((ji5) : Int) := zW
      have q9 : (ji5) < (a0.size : Int) := zW
      have hx9 := bt_at a0 (ji5)
      replace p9 := eq_true p9
      replace q9 := eq_true q9
      go_wp2
      go_meet
      case rel => exact ⟨_, (((bt a0 (ji5)) == 45)), (by first | rfl | (simp; done) | (simp only [← hji5] <;> (first | rfl | simp)) | (simp [*]; done)), (by first | exact H' | ((repeat (first | rw [hji5] | rw [hji12] | rw [hji22] | rw [hji29])); exact H')), ⟨by first | omega | exact Nat.le_refl _⟩, ⟨zB⟩⟩
   ·exact absurd H (by simp)
  ·have c4b0 := decide_eq_false c4
   clear c4
   (first | rw [c4b0] | (simp only [i64_w, i32_w]; rw [c4b0]) | skip)
   as_aux_lemma =>
    have H' := Aside0.mk H
    clear H
    go_wp2
    go_meet
    case rel => exact ⟨_, (false), zS, (by first | exact H' | ((repeat (first | rw [hji5] | rw [hji12] | rw [hji22] | rw [hji29])); exact H')), ⟨by first | omega | exact Nat.le_refl _⟩, ⟨zB⟩⟩
 case rest =>
  clear HC3
  obtain ⟨kq, x33_2, rfl, HA, HJ2, HB⟩ := hcut
  cases kq with
  | zero => exact absurd HA.out (by simp [impl_DecFront.j0])
  | succ kj2 =>
   have H := HA.out
   clear HA
   simp only [impl_DecFront.j0] at H
   have HC10 := Aside0.mk H
   clear H
   go_upto_if 33 with (fail)
   go_cut [4, 5] (fun v4 v5 wc => ∃ (kq : Nat) (x4_9 : Int) (x5_9 : Bool), v4 = .int .i64 x4_9 ∧ v5 = .bool x5_9 ∧ Aside0 (impl_DecFront.j1 kq a0 x4_9 x5_9 = some (r1, r2)) ∧ Aside0 (kq ≤ kj2) ∧ Aside0 (Below w.heap.size w wc))
   case first =>
    have H := HC10.out
    clear HC10
    by_cases c11 : x33_2 = true
    ·subst c11; replace H := zT H
     obtain ⟨ji12, hji12⟩ : ∃ j_ : Int, (wrap64 ((a0.size : Int) - (t176.size : Int))) = j_ := ⟨_, rfl⟩
     replace H : (if 0 ≤ (ji12) then (if (ji12) < (a0.size : Int) then (impl_DecFront.j1 kj2 a0 (wrap64 ((ji12) + 1)) ((bt a0 (ji12)) == 45)) else (none)) else (none)) = some (r1, r2) := by first | (rw [hji12] at H; exact H) | (simp only [hji12] at H ⊢; exact H)
     have hji12w : (IntKind.i64.wrap ((a0.size : Int) - (t176.size : Int))) = ji12 := (i64_w _).trans hji12
     replace H := zI H; obtain ⟨c13, H⟩ | ⟨c13, H⟩ := H
     ·have c13b0 := decide_eq_true c13
      clear c13
      (first | rw [c13b0] | (simp only [i64_w, i32_w]; rw [c13b0]) | skip)
      replace H := zI H; obtain ⟨c14, H⟩ | ⟨c14, H⟩ := H
      ·have c14b0 := decide_eq_true c14
       clear c14
       as_aux_lemma =>
        have H' := Aside0.mk H
        clear H
        have p15 : 0 ≤ ((ji12) : Int) := zW
        have q15 : (ji12) < (a0.size : Int) := zW
        have hx15 := bt_at a0 (ji12)
        replace p15 := eq_true p15
        replace q15 := eq_true q15
        go_wp2
        go_meet
        case rel => exact ⟨_, (wrap64 ((ji12) + 1)), (((bt a0 (ji12)) == 45)), (by first | rfl | (simp; done) | (simp only [← hji12] <;> (first | rfl | simp)) | (simp [*]; done)), (by first | rfl | (simp; done) | (simp only [← hji12] <;> (first | rfl | simp)) | (simp [*]; done)), (by first | exact H' | ((repeat (first | rw [hji5] | rw [hji12] | rw [hji22] | rw [hji29])); exact H')), ⟨by have := HJ2.out; first | omega | exact Nat.le_refl _⟩, ⟨zB⟩⟩
      ·exact absurd H (by simp)
     ·exact absurd H (by simp)
    ·replace c11 := Bool.eq_false_iff.mpr c11; subst c11; replace H := zN H
     as_aux_lemma =>
      have H' := Aside0.mk H
      clear H
      go_wp2
      go_meet
      case rel => exact ⟨_, ((wrap64 ((a0.size : Int) - (t176.size : Int)))), (false), zS, zS, (by first | exact H' | ((repeat (first | rw [hji5] | rw [hji12] | rw [hji22] | rw [hji29])); exact H')), ⟨by have := HJ2.out; first | omega | exact Nat.le_refl _⟩, ⟨zB⟩⟩
   case rest =>
    clear HC10
    obtain ⟨kq, x4_9, x5_9, rfl, rfl, HA, HJ9, HB⟩ := hcut
    cases kq with
    | zero => exact absurd HA.out (by simp [impl_DecFront.j1])
    | succ kj9 =>
     have H := HA.out
     clear HA
     simp only [impl_DecFront.j1] at H
     replace H := zO H; obtain ⟨t177, A16, H⟩ := H
     replace H := zI H; obtain ⟨c17, H⟩ | ⟨c17, H⟩ := H
     ·have c17b0 := eq_true c17
      have c17b1 := decide_eq_true c17
      clear c17
      replace H := zI H; obtain ⟨c18, H⟩ | ⟨c18, H⟩ := H
      ·have c18b0 := eq_true c18
       have c18b1 := decide_eq_true c18
       replace H := zI H; obtain ⟨c19, H⟩ | ⟨c19, H⟩ := H
       ·have c19b0 := eq_true c19
        have c19b1 := decide_eq_true c19
        have HC20 := Aside0.mk H
        clear H
        go_upto_region 10 with (first | ((with_reducible refine gate_callee (f := 54) rfl ?_); refine goesL_ (some 42) rfl rfl Tryd.func54 (by as_aux_lemma => kernel_rfl) rfl #[.string a0, .int .i64 x4_9] rfl zA ?_; (with_reducible refine (impl_digitsAt.calls kj9 a0 x4_9 t177 _ A16.out).mono ?_); rintro e w' ⟨rfl, ⟨nd, rfl⟩⟩; refine ⟨_, rfl, ?_⟩))
        (try simp only [Act.put, List.setIfInBounds_toArray, List.set_cons_zero, List.set_cons_succ])
        go_cut [61] (fun v61 wc => ∃ (kq : Nat) (x61_19 : Bool), v61 = .bool x61_19 ∧ Aside0 (impl_DecFront.j2 kq a0 (wrap64 (x4_9 + t177)) x5_9 (a0.extract (x4_9 : Int).toNat ((wrap64 (x4_9 + t177)) : Int).toNat) (⟨#[]⟩ : ByteArray) x61_19 = some (r1, r2)) ∧ Aside0 (kq ≤ kj9) ∧ Aside0 (Below w.heap.size w wc))
        case first =>
         have H := HC20.out
         clear HC20
         replace H := zI H; obtain ⟨c21, H⟩ | ⟨c21, H⟩ := H
         ·have c21b0 := decide_eq_true c21
          clear c21
          (first | rw [c21b0] | (simp only [i64_w, i32_w]; rw [c21b0]) | skip)
          obtain ⟨ji22, hji22⟩ : ∃ j_ : Int, (wrap64 (x4_9 + t177)) = j_ := ⟨_, rfl⟩
          replace H : (if 0 ≤ (ji22) then (impl_DecFront.j2 kj9 a0 ji22 x5_9 (a0.extract (x4_9 : Int).toNat ((ji22) : Int).toNat) (⟨#[]⟩ : ByteArray) ((bt a0 (ji22)) == 46)) else (none)) = some (r1, r2) := by first | (rw [hji22] at H; exact H) | (simp only [hji22] at H ⊢; exact H)
          (try rw [hji22] at c18b0)
          (try rw [hji22] at c18b1)
          (try rw [hji22] at c18)
          (try rw [hji22] at c19b0)
          (try rw [hji22] at c19b1)
          (try rw [hji22] at c19)
          (try rw [hji22] at c21b0)
          have hji22w : (IntKind.i64.wrap (x4_9 + t177)) = ji22 := (i64_w _).trans hji22
          replace H := zI H; obtain ⟨c23, H⟩ | ⟨c23, H⟩ := H
          ·have c23b0 := decide_eq_true c23
           clear c23
           as_aux_lemma =>
            have H' := Aside0.mk H
            clear H
            have p24 : 0 ≤ ((ji22) : Int) := zW
            have q24 : (ji22) < (a0.size : Int) := zW
            have hx24 := bt_at a0 (ji22)
            replace p24 := eq_true p24
            replace q24 := eq_true q24
            go_wp2
            go_meet
            case rel => exact ⟨_, (((bt a0 (ji22)) == 46)), (by first | rfl | (simp; done) | (simp only [← hji22] <;> (first | rfl | simp)) | (simp [*]; done)), (by first | exact H' | ((repeat (first | rw [hji5] | rw [hji12] | rw [hji22] | rw [hji29])); exact H')), ⟨by have := HJ2.out; have := HJ9.out; first | omega | exact Nat.le_refl _⟩, ⟨zB⟩⟩
          ·exact absurd H (by simp)
         ·have c21b0 := decide_eq_false c21
          clear c21
          (first | rw [c21b0] | (simp only [i64_w, i32_w]; rw [c21b0]) | skip)
          as_aux_lemma =>
           have H' := Aside0.mk H
           clear H
           go_wp2
           go_meet
           case rel => exact ⟨_, (false), zS, (by first | exact H' | ((repeat (first | rw [hji5] | rw [hji12] | rw [hji22] | rw [hji29])); exact H')), ⟨by have := HJ2.out; have := HJ9.out; first | omega | exact Nat.le_refl _⟩, ⟨zB⟩⟩
        case rest =>
         clear HC20
         (try clear c17); (try clear c17b0); (try clear c17b1); (try clear c18); (try clear c18b0); (try clear c18b1); (try clear c19); (try clear c19b0); (try clear c19b1)
         obtain ⟨kq, x61_19, rfl, HA, HJ19, HB⟩ := hcut
         cases kq with
         | zero => exact absurd HA.out (by simp [impl_DecFront.j2])
         | succ kj19 =>
          have H := HA.out
          clear HA
          simp only [impl_DecFront.j2] at H
          have HC25 := Aside0.mk H
          clear H
          go_upto_if 61 with (fail)
          go_cut [4, 8] (fun v4 v8 wc => ∃ (kq : Nat) (x4_24 : Int) (x8_24 : ByteArray), v4 = .int .i64 x4_24 ∧ v8 = .string x8_24 ∧ Aside0 (impl_DecFront.j3 kq x4_24 x5_9 (a0.extract (x4_9 : Int).toNat ((wrap64 (x4_9 + t177)) : Int).toNat) x8_24 = some (r1, r2)) ∧ Aside0 (kq ≤ kj19) ∧ Aside0 (Below w.heap.size w wc))
          case first =>
           have H := HC25.out
           clear HC25
           by_cases c26 : x61_19 = true
           ·subst c26; replace H := zT H
            replace H := zO H; obtain ⟨t178, A27, H⟩ := H
            replace H := zI H; obtain ⟨c28, H⟩ | ⟨c28, H⟩ := H
            ·have c28b0 := decide_eq_true c28
             clear c28
             (first | rw [c28b0] | (simp only [i64_w, i32_w]; rw [c28b0]) | skip)
             obtain ⟨ji29, hji29⟩ : ∃ j_ : Int, (wrap64 ((wrap64 (x4_9 + t177)) + 1)) = j_ := ⟨_, rfl⟩
             replace H : (if 0 ≤ (ji29) then (if (ji29) ≤ (wrap64 ((ji29) + t178)) then (if (wrap64 ((ji29) + t178)) ≤ (a0.size : Int) then (impl_DecFront.j3 kj19 (wrap64 ((wrap64 (x4_9 + t177)) + (wrap64 (1 + t178)))) x5_9 (a0.extract (x4_9 : Int).toNat ((wrap64 (x4_9 + t177)) : Int).toNat) (a0.extract ((ji29) : Int).toNat ((wrap64 ((ji29) + t178)) : Int).toNat)) else (none)) else (none)) else (none)) = some (r1, r2) := by first | (rw [hji29] at H; exact H) | (simp only [hji29] at H ⊢; exact H)
             (try rw [hji29] at A27)
             have hji29w : (IntKind.i64.wrap ((wrap64 (x4_9 + t177)) + 1)) = ji29 := (i64_w _).trans hji29
             replace H := zI H; obtain ⟨c30, H⟩ | ⟨c30, H⟩ := H
             ·have c30b0 := eq_true c30
              have c30b1 := decide_eq_true c30
              clear c30
              replace H := zI H; obtain ⟨c31, H⟩ | ⟨c31, H⟩ := H
              ·have c31b0 := eq_true c31
               have c31b1 := decide_eq_true c31
               replace H := zI H; obtain ⟨c32, H⟩ | ⟨c32, H⟩ := H
               ·have c32b0 := eq_true c32
                have c32b1 := decide_eq_true c32
                as_aux_lemma =>
                 have H' := Aside0.mk H
                 clear H
                 go_wp2_with (first | ((with_reducible refine gate_callee (f := 54) rfl ?_); refine goesL_ (some 65) rfl rfl Tryd.func54 (by as_aux_lemma => kernel_rfl) rfl #[.string a0, .int .i64 ji29] rfl (by (try simp only [List.map_toArray, List.map_cons, List.map_nil]); first | done | (simp only [hji29]; rfl) | rfl | (simp only [List.length_drop, List.length_take]; rfl)) ?_; (with_reducible refine (impl_digitsAt.calls kj19 a0 ji29 t178 _ A27.out).mono ?_); rintro e w' ⟨rfl, ⟨nd, rfl⟩⟩; refine ⟨_, rfl, ?_⟩))
                 go_meet
                 case rel => exact ⟨_, (wrap64 ((wrap64 (x4_9 + t177)) + (wrap64 (1 + t178)))), (a0.extract ((ji29) : Int).toNat ((wrap64 ((ji29) + t178)) : Int).toNat), zS, (by first | rfl | (simp; done) | (simp only [← hji29] <;> (first | rfl | simp)) | (simp [*]; done)), (by first | exact H' | ((repeat (first | rw [hji5] | rw [hji12] | rw [hji22] | rw [hji29])); exact H')), ⟨by have := HJ2.out; have := HJ9.out; have := HJ19.out; first | omega | exact Nat.le_refl _⟩, ⟨zB⟩⟩
               ·exact absurd H (by simp)
              ·exact absurd H (by simp)
             ·exact absurd H (by simp)
            ·have c28b0 := decide_eq_false c28
             clear c28
             (first | rw [c28b0] | (simp only [i64_w, i32_w]; rw [c28b0]) | skip)
             as_aux_lemma =>
              have H' := Aside0.mk H
              clear H
              go_wp2_with (first | ((with_reducible refine gate_callee (f := 54) rfl ?_); refine goesL_ (some 65) rfl rfl Tryd.func54 (by as_aux_lemma => kernel_rfl) rfl #[.string a0, .int .i64 (wrap64 ((wrap64 (x4_9 + t177)) + 1))] rfl zA ?_; (with_reducible refine (impl_digitsAt.calls kj19 a0 (wrap64 ((wrap64 (x4_9 + t177)) + 1)) t178 _ A27.out).mono ?_); rintro e w' ⟨rfl, ⟨nd, rfl⟩⟩; refine ⟨_, rfl, ?_⟩))
              go_meet
              case rel => exact ⟨_, ((wrap64 (x4_9 + t177))), ((⟨#[]⟩ : ByteArray)), zS, zS, (by first | exact H' | ((repeat (first | rw [hji5] | rw [hji12] | rw [hji22] | rw [hji29])); exact H')), ⟨by have := HJ2.out; have := HJ9.out; have := HJ19.out; first | omega | exact Nat.le_refl _⟩, ⟨zB⟩⟩
           ·replace c26 := Bool.eq_false_iff.mpr c26; subst c26; replace H := zN H
            as_aux_lemma =>
             have H' := Aside0.mk H
             clear H
             go_wp2
             go_meet
             case rel => exact ⟨_, ((wrap64 (x4_9 + t177))), ((⟨#[]⟩ : ByteArray)), zS, zS, (by first | exact H' | ((repeat (first | rw [hji5] | rw [hji12] | rw [hji22] | rw [hji29])); exact H')), ⟨by have := HJ2.out; have := HJ9.out; have := HJ19.out; first | omega | exact Nat.le_refl _⟩, ⟨zB⟩⟩
          case rest =>
           clear HC25
           (try clear c17); (try clear c17b0); (try clear c17b1); (try clear c18); (try clear c18b0); (try clear c18b1); (try clear c19); (try clear c19b0); (try clear c19b1)
           obtain ⟨kq, x4_24, x8_24, rfl, rfl, HA, HJ24, HB⟩ := hcut
           cases kq with
           | zero => exact absurd HA.out (by simp [impl_DecFront.j3])
           | succ kj24 =>
            have H := HA.out
            clear HA
            simp only [impl_DecFront.j3] at H
            have HC33 := Aside0.mk H
            clear H
            go_upto_region 15 with (fail)
            go_cut [85] (fun v85 wc => ∃ (kq : Nat) (x85_32 : Bool), v85 = .bool x85_32 ∧ Aside0 (impl_DecFront.j4 kq x4_24 x5_9 (a0.extract (x4_9 : Int).toNat ((wrap64 (x4_9 + t177)) : Int).toNat) x8_24 x85_32 = some (r1, r2)) ∧ Aside0 (kq ≤ kj24) ∧ Aside0 (Below w.heap.size w wc))
            case first =>
             have H := HC33.out
             clear HC33
             replace H := zI H; obtain ⟨c34, H⟩ | ⟨c34, H⟩ := H
             ·have c34b0 := beq_iff_eq.mpr c34
              have c34b1 := bne_eq_false_iff_eq.mpr c34
              clear c34
              (first | rw [c34b0] | (simp only [i64_w, i32_w]; rw [c34b0]) | skip)
              as_aux_lemma =>
               have H' := Aside0.mk H
               clear H
               go_wp2
               go_meet
               case rel => exact ⟨_, ((x8_24.toList == ([] : List UInt8))), zS, (by first | exact H' | ((repeat (first | rw [hji5] | rw [hji12] | rw [hji22] | rw [hji29])); exact H')), ⟨by have := HJ2.out; have := HJ9.out; have := HJ19.out; have := HJ24.out; first | omega | exact Nat.le_refl _⟩, ⟨zB⟩⟩
             ·have c34b0 := beq_eq_false_iff_ne.mpr c34
              have c34b1 := bne_iff_ne.mpr c34
              (first | rw [c34b0] | (simp only [i64_w, i32_w]; rw [c34b0]) | skip)
              as_aux_lemma =>
               have H' := Aside0.mk H
               clear H
               go_wp2
               go_meet
               case rel => exact ⟨_, (false), zS, (by first | exact H' | ((repeat (first | rw [hji5] | rw [hji12] | rw [hji22] | rw [hji29])); exact H')), ⟨by have := HJ2.out; have := HJ9.out; have := HJ19.out; have := HJ24.out; first | omega | exact Nat.le_refl _⟩, ⟨zB⟩⟩
            case rest =>
             clear HC33
             (try clear c17); (try clear c17b0); (try clear c17b1); (try clear c18); (try clear c18b0); (try clear c18b1); (try clear c19); (try clear c19b0); (try clear c19b1)
             obtain ⟨kq, x85_32, rfl, HA, HJ32, HB⟩ := hcut
             cases kq with
             | zero => exact absurd HA.out (by simp [impl_DecFront.j4])
             | succ kj32 =>
              have H := HA.out
              clear HA
              simp only [impl_DecFront.j4] at H
              by_cases c35 : x85_32 = true
              ·subst c35; replace H := zT H
               as_aux_lemma =>
                simp only [Option.some.injEq, Prod.mk.injEq] at H
                obtain ⟨rfl, rfl⟩ := H
                go_wp2
                go_ret2
                exact ⟨zE, zB⟩
              ·replace c35 := Bool.eq_false_iff.mpr c35; subst c35; replace H := zN H
               replace H := zO H; obtain ⟨⟨t179, t180⟩, A36, H⟩ := H
               replace H : (if t180 = true then (if x5_9 = true then (some (wrap64 (-t179), x4_24)) else (some (t179, x4_24))) else (some (0, 0))) = some (r1, r2) := H
               by_cases c37 : t180 = true
               ·subst c37; replace H := zT H
                by_cases c38 : x5_9 = true
                ·subst c38; replace H := zT H
                 as_aux_lemma =>
                  simp only [Option.some.injEq, Prod.mk.injEq] at H
                  obtain ⟨rfl, rfl⟩ := H
                  go_wp2_with (first | ((with_reducible refine gate_callee (f := 55) rfl ?_); refine goesL_ (some 89) rfl rfl Tryd.func55 (by as_aux_lemma => kernel_rfl) rfl #[.string (a0.extract (x4_9 : Int).toNat ((wrap64 (x4_9 + t177)) : Int).toNat), .string x8_24] rfl zA ?_; (with_reducible refine (impl_millionths.calls (a0.extract (x4_9 : Int).toNat ((wrap64 (x4_9 + t177)) : Int).toNat) x8_24 t179 true _ A36.out).mono ?_); rintro e w39 ⟨rfl, hb⟩; refine ⟨_, rfl, ?_⟩; have n_ := Aside0.mk (zs hb); clear HB; have HB := n_; clear n_; (try clear hb)))
                  go_ret2
                  exact ⟨zE, zB⟩
                ·replace c38 := Bool.eq_false_iff.mpr c38; subst c38; replace H := zN H
                 as_aux_lemma =>
                  simp only [Option.some.injEq, Prod.mk.injEq] at H
                  obtain ⟨rfl, rfl⟩ := H
                  go_wp2_with (first | ((with_reducible refine gate_callee (f := 55) rfl ?_); refine goesL_ (some 89) rfl rfl Tryd.func55 (by as_aux_lemma => kernel_rfl) rfl #[.string (a0.extract (x4_9 : Int).toNat ((wrap64 (x4_9 + t177)) : Int).toNat), .string x8_24] rfl zA ?_; (with_reducible refine (impl_millionths.calls (a0.extract (x4_9 : Int).toNat ((wrap64 (x4_9 + t177)) : Int).toNat) x8_24 t179 true _ A36.out).mono ?_); rintro e w40 ⟨rfl, hb⟩; refine ⟨_, rfl, ?_⟩; have n_ := Aside0.mk (zs hb); clear HB; have HB := n_; clear n_; (try clear hb)))
                  go_ret2
                  exact ⟨zE, zB⟩
               ·replace c37 := Bool.eq_false_iff.mpr c37; subst c37; replace H := zN H
                as_aux_lemma =>
                 simp only [Option.some.injEq, Prod.mk.injEq] at H
                 obtain ⟨rfl, rfl⟩ := H
                 go_wp2_with (first | ((with_reducible refine gate_callee (f := 55) rfl ?_); refine goesL_ (some 89) rfl rfl Tryd.func55 (by as_aux_lemma => kernel_rfl) rfl #[.string (a0.extract (x4_9 : Int).toNat ((wrap64 (x4_9 + t177)) : Int).toNat), .string x8_24] rfl zA ?_; (with_reducible refine (impl_millionths.calls (a0.extract (x4_9 : Int).toNat ((wrap64 (x4_9 + t177)) : Int).toNat) x8_24 t179 false _ A36.out).mono ?_); rintro e w41 ⟨rfl, hb⟩; refine ⟨_, rfl, ?_⟩; have n_ := Aside0.mk (zs hb); clear HB; have HB := n_; clear n_; (try clear hb)))
                 go_ret2
                 exact ⟨zE, zB⟩
       ·exact absurd H (by simp)
      ·exact absurd H (by simp)
     ·exact absurd H (by simp)

/-! ### strings_Trim: function 47 -/
theorem strings_Trim.calls (a0 : ByteArray) (a1 : ByteArray) (r : ByteArray) (w : World) (h : strings_Trim.f a0 a1 = some r) :
  Calls Tryd.prog 47 #[.string a0, .string a1] w fun e w' => e = .returned (.string r) ∧ Drawn0 w w' := by
 unfold strings_Trim.f at h
 split at h
 ·rename_i c_ hc_
  split at h
  ·rename_i hd_
   have : a1 = ⟨#[c_]⟩ := by
    obtain ⟨⟨l_⟩⟩ := a1
    simp only at hc_
    subst hc_
    rfl
   subst this
   obtain rfl := Option.some.inj h
   refine (Tryd.strings_Trim_one a0 c_ hd_.1 w hd_.2).mono ?_
   rintro e w' ⟨rfl, rfl | rfl⟩
   ·exact ⟨rfl, Drawn0.refl _⟩
   ·exact ⟨rfl, ⟨⟨1, rfl⟩⟩⟩
  ·simp at h
 ·simp at h

/-! ### impl_DecLooks: function 15 -/
theorem impl_DecLooks.calls (k : Nat) (a0 : ByteArray) (r1 : Int) (r2 : Bool) (w : World) (h : impl_DecLooks.f k a0 = some (r1, r2)) :
  Calls Tryd.prog 15 #[.string a0] w fun e w' => e = .returned (.tuple #[.int .i64 r1, .bool r2]) ∧ Below w.heap.size w w' := by
 have HB := Aside0.mk (Below.refl w.heap.size w)
 rw [impl_DecLooks.f] at h
 have H := h
 clear h
 replace H := zO H; obtain ⟨⟨t181, t182⟩, A2, H⟩ := H
 replace H : (if t182 = 0 then (some (0, false)) else (if 0 ≤ t182 then (if t182 ≤ (a0.size : Int) then ((strings_Trim.f (a0.extract (t182 : Int).toNat a0.size) (⟨#[32]⟩ : ByteArray)).bind fun t183 => (if t183.toList = ([] : List UInt8) then (some (t181, true)) else (some (0, false)))) else (none)) else (none))) = some (r1, r2) := H
 replace H := zI H; obtain ⟨c3, H⟩ | ⟨c3, H⟩ := H
 ·have c3b0 := beq_iff_eq.mpr c3
  have c3b1 := bne_eq_false_iff_eq.mpr c3
  clear c3
  as_aux_lemma =>
   simp only [Option.some.injEq, Prod.mk.injEq] at H
   obtain ⟨rfl, rfl⟩ := H
   go_enter Tryd.func15, Tryd.ntmps15
   go_wp2_with (first | ((with_reducible refine gate_callee (f := 21) rfl ?_); refine goesL_ (some 8) rfl rfl Tryd.func21 (by as_aux_lemma => kernel_rfl) rfl #[.string a0] rfl zA ?_; (with_reducible refine (impl_DecFront.calls k a0 t181 t182 _ A2.out).mono ?_); rintro e w4 ⟨rfl, hb⟩; refine ⟨_, rfl, ?_⟩; have n_ := Aside0.mk (zs hb); clear HB; have HB := n_; clear n_; (try clear hb)))
   go_ret2
   exact ⟨zE, zB⟩
 ·have c3b0 := beq_eq_false_iff_ne.mpr c3
  have c3b1 := bne_iff_ne.mpr c3
  replace H := zI H; obtain ⟨c5, H⟩ | ⟨c5, H⟩ := H
  ·have c5b0 := eq_true c5
   have c5b1 := decide_eq_true c5
   clear c5
   replace H := zI H; obtain ⟨c6, H⟩ | ⟨c6, H⟩ := H
   ·have c6b0 := eq_true c6
    have c6b1 := decide_eq_true c6
    clear c6
    replace H := zO H; obtain ⟨t183, A7, H⟩ := H
    replace H := zI H; obtain ⟨c8, H⟩ | ⟨c8, H⟩ := H
    ·have c8b0 := beq_iff_eq.mpr c8
     have c8b1 := bne_eq_false_iff_eq.mpr c8
     clear c8
     as_aux_lemma =>
      simp only [Option.some.injEq, Prod.mk.injEq] at H
      obtain ⟨rfl, rfl⟩ := H
      go_enter Tryd.func15, Tryd.ntmps15
      go_wp2_with (first | ((with_reducible refine gate_callee (f := 21) rfl ?_); refine goesL_ (some 8) rfl rfl Tryd.func21 (by as_aux_lemma => kernel_rfl) rfl #[.string a0] rfl zA ?_; (with_reducible refine (impl_DecFront.calls k a0 t181 t182 _ A2.out).mono ?_); rintro e w9 ⟨rfl, hb⟩; refine ⟨_, rfl, ?_⟩; have n_ := Aside0.mk (zs hb); clear HB; have HB := n_; clear n_; (try clear hb)) | (go_at_call 47; (with_reducible refine (strings_Trim.calls (a0.extract (t182 : Int).toNat a0.size) (⟨#[32]⟩ : ByteArray) t183 _ A7.out).mono ?_); rintro e w' ⟨rfl, ⟨nd, rfl⟩⟩))
      go_ret2
      exact ⟨zE, zB⟩
    ·have c8b0 := beq_eq_false_iff_ne.mpr c8
     have c8b1 := bne_iff_ne.mpr c8
     as_aux_lemma =>
      simp only [Option.some.injEq, Prod.mk.injEq] at H
      obtain ⟨rfl, rfl⟩ := H
      go_enter Tryd.func15, Tryd.ntmps15
      go_wp2_with (first | ((with_reducible refine gate_callee (f := 21) rfl ?_); refine goesL_ (some 8) rfl rfl Tryd.func21 (by as_aux_lemma => kernel_rfl) rfl #[.string a0] rfl zA ?_; (with_reducible refine (impl_DecFront.calls k a0 t181 t182 _ A2.out).mono ?_); rintro e w10 ⟨rfl, hb⟩; refine ⟨_, rfl, ?_⟩; have n_ := Aside0.mk (zs hb); clear HB; have HB := n_; clear n_; (try clear hb)) | (go_at_call 47; (with_reducible refine (strings_Trim.calls (a0.extract (t182 : Int).toNat a0.size) (⟨#[32]⟩ : ByteArray) t183 _ A7.out).mono ?_); rintro e w' ⟨rfl, ⟨nd, rfl⟩⟩))
      go_ret2
      exact ⟨zE, zB⟩
   ·exact absurd H (by simp)
  ·exact absurd H (by simp)

end Go.Proofs.YtejndaljfbclnaaDoor.QFnExactStateOk
