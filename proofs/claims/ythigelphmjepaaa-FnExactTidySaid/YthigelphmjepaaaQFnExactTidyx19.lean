/- Written by wip/pr2, a program of this session. -/
import Derived.Test.YthigelphmjepaaaQFnExactTidyx0
import Derived.Test.YthigelphmjepaaaQFnExactTidyx1
import Derived.Test.YthigelphmjepaaaQFnExactTidyx3
import Derived.Test.YthigelphmjepaaaQFnExactTidyx5
import Derived.Test.YthigelphmjepaaaQFnExactTidyx6
import Derived.Test.YthigelphmjepaaaQFnExactTidyx8
import Derived.Test.YthigelphmjepaaaQFnExactTidyx12
import Derived.Test.YthigelphmjepaaaQFnExactTidyx13
import Derived.Test.YthigelphmjepaaaQFnExactTidyx17
import Derived.Test.YthigelphmjepaaaQFnExactTidyx18
import Derived.Test.YthigelphmjepaaaWFnExactTidy
namespace Go.Proofs.Ythigelphmjepaaa.QFnExactTidy
open Go.RowKit Go.Proofs.YthigelphmjepaaaW.PrintWords Go.Proofs.YthigelphmjepaaaW.PrintLast Go.Proofs.YthigelphmjepaaaW.PrintMore Go.Proofs.YthigelphmjepaaaW.Mac
attribute [local go_sem] max2_int min2_int max_two min_two max_three min_three max_four min_four   -- for this text's walks alone
set_option linter.unusedVariables false
set_option linter.unusedSimpArgs false
set_option maxHeartbeats 8000000
set_option maxRecDepth 100000

/-! ### laws_eqRuleS: function 12 -/
def laws_eqRuleS.T6 : Bool × List (List Nat × List Nat) := (true, [([], []), ([], []), ([0, 1], [0, 1]), ([2], [2]), ([], []), ([], []), ([4, 5], [4, 5]), ([6], [6]), ([3, 7], [3, 7]), ([8], [8])])
def laws_eqRuleS.B6 : List Nat := [0, 0, 3, 7, 0, 0, 48, 112, 255, 511]
theorem laws_eqRuleS.tab6 : rtab .any (opsOf Try.f12 6) = laws_eqRuleS.T6 := by kernel_rfl
theorem laws_eqRuleS.bits6 : waitsOk laws_eqRuleS.T6.2 laws_eqRuleS.B6 = true := by kernel_rfl
theorem laws_eqRuleS.calls (k : Nat) (A0 : Option Addr) (c0 : Nat) (l0 : List (S68)) (A1 : Option Addr) (c1 : Nat) (l1 : List (S68)) (r : Bool) (w : World) (hr0 : Kd.C k68 w A0 l0.length l0) (hc0 : l0.length ≤ c0) (hr1 : Kd.C k68 w A1 l1.length l1) (hc1 : l1.length ≤ c1) (h : laws_eqRuleS.f k l0 l1 = some r) :
  Calls Try.prog 12 #[.slice A0 l0.length c0, .slice A1 l1.length c1] w fun e w' => e = .returned (.bool r) ∧ Below w.heap.size w w' := by
 have hu68 := Try.underlying68
 have HR0 := Aside0.mk hr0
 have HC0 := Aside0.mk hc0
 clear hr0 hc0
 have HR1 := Aside0.mk hr1
 have HC1 := Aside0.mk hc1
 clear hr1 hc1
 have HB := Aside0.mk (Below.refl w.heap.size w)
 rw [laws_eqRuleS.f] at h
 have H := h
 clear h
 replace H := zI H; obtain ⟨c3, H⟩ | ⟨c3, H⟩ := H
 ·have c3b0 := beq_iff_eq.mpr c3
  have c3b1 := bne_eq_false_iff_eq.mpr c3
  have c3b2 : (l0.length == l1.length) = true := by first | simpa using c3 | (simp at c3 ⊢; omega)
  clear c3
  have H' := Aside0.mk H
  clear H
  go_enter Try.func12, Try.ntmps12
  go_wp2
  go_loopg [5] k (fun kq v5 w' => ∃ (x5_1 : Int), v5 = .int .i64 x5_1 ∧ Aside0 (laws_eqRuleS.l0 kq l0 l1 x5_1 = some r) ∧ Aside0 (kq ≤ k) ∧ Aside0 (Below w.heap.size w w'))
  case atStart => exact ⟨(0), zS, H', ⟨Nat.le_refl _⟩, ⟨zB⟩⟩
  case round =>
   clear H'
   (try clear c1); (try clear c3); (try clear c3b0); (try clear c3b1); (try clear c3b2)
   obtain ⟨x5_1, rfl, HA, HK1, HB⟩ := hrel
   cases gk with
   | zero => exact absurd HA.out (by simp [laws_eqRuleS.l0])
   | succ k1 =>
    have H := HA.out
    clear HA
    simp only [laws_eqRuleS.l0] at H
    replace H := zI H; obtain ⟨c4, H⟩ | ⟨c4, H⟩ := H
    ·have c4b0 := decide_eq_true c4
     clear c4
     replace H := zI H; obtain ⟨c5, H⟩ | ⟨c5, H⟩ := H
     ·have c5b0 := decide_eq_true c5
      clear c5
      replace H := zI H; obtain ⟨c6, H⟩ | ⟨c6, H⟩ := H
      ·have c6b0 := decide_eq_true c6
       clear c6
       replace H := zO H; obtain ⟨t343, A7, H⟩ := H
       by_cases c8 : t343 = true
       ·subst c8; replace H := zT H
        have H' := Aside0.mk H
        clear H
        try go_wp2
        have n0_ := Aside0.mk (below_drew1 HB.out)
        clear HB
        have HB := n0_
        clear n0_
        have p341 : 0 ≤ (x5_1 : Int) := zW
        have q341 : x5_1 < (l0.length : Int) := zW
        obtain ⟨ad341, A341_4, c341_4, A341_8, c341_8, e341, hx341_0, hx341_1, hx341_2, hx341_3, hx341_4, hx341_5, hx341_6, hx341_7, hx341_8, hl341_4, hi341_4, hl341_8, hi341_8⟩ := at_T68 HR0.out x5_1 p341 q341
        have hw341_8 := hx341_8
        have hw341_7 := hx341_7
        have hw341_6 := hx341_6
        have hw341_5 := hx341_5
        have hw341_4 := hx341_4
        have hw341_3 := hx341_3
        have hw341_2 := hx341_2
        have hw341_1 := hx341_1
        have hw341_0 := hx341_0
        cases e341
        replace hx341_0 := zc HB hx341_0
        replace hx341_1 := zc HB hx341_1
        replace hx341_2 := zc HB hx341_2
        replace hx341_3 := zc HB hx341_3
        replace hx341_4 := zc HB hx341_4
        replace hx341_5 := zc HB hx341_5
        replace hx341_6 := zc HB hx341_6
        replace hx341_7 := zc HB hx341_7
        replace hx341_8 := zc HB hx341_8
        have HR341_4 := Aside0.mk hi341_4
        have HC341_4 := Aside0.mk hl341_4
        clear hi341_4 hl341_4
        have HR341_8 := Aside0.mk hi341_8
        have HC341_8 := Aside0.mk hl341_8
        clear hi341_8 hl341_8
        replace p341 := eq_true p341
        replace q341 := eq_true q341
        have p342 : 0 ≤ (x5_1 : Int) := zW
        have q342 : x5_1 < (l1.length : Int) := zW
        obtain ⟨ad342, A342_4, c342_4, A342_8, c342_8, e342, hx342_0, hx342_1, hx342_2, hx342_3, hx342_4, hx342_5, hx342_6, hx342_7, hx342_8, hl342_4, hi342_4, hl342_8, hi342_8⟩ := at_T68 HR1.out x5_1 p342 q342
        have hw342_8 := hx342_8
        have hw342_7 := hx342_7
        have hw342_6 := hx342_6
        have hw342_5 := hx342_5
        have hw342_4 := hx342_4
        have hw342_3 := hx342_3
        have hw342_2 := hx342_2
        have hw342_1 := hx342_1
        have hw342_0 := hx342_0
        cases e342
        replace hx342_0 := zc HB hx342_0
        replace hx342_1 := zc HB hx342_1
        replace hx342_2 := zc HB hx342_2
        replace hx342_3 := zc HB hx342_3
        replace hx342_4 := zc HB hx342_4
        replace hx342_5 := zc HB hx342_5
        replace hx342_6 := zc HB hx342_6
        replace hx342_7 := zc HB hx342_7
        replace hx342_8 := zc HB hx342_8
        have HR342_4 := Aside0.mk hi342_4
        have HC342_4 := Aside0.mk hl342_4
        clear hi342_4 hl342_4
        have HR342_8 := Aside0.mk hi342_8
        have HC342_8 := Aside0.mk hl342_8
        clear hi342_8 hl342_8
        replace p342 := eq_true p342
        replace q342 := eq_true q342
        refine start_ (n := 10) (S := fun w' => w'.cell? (ad341.add ((x5_1).toNat * 9)) = some (.int .i64 ((rd_T68 l0 x5_1).f0)) ∧ w'.cell? ⟨(ad341.add ((x5_1).toNat * 9)).block, (ad341.add ((x5_1).toNat * 9)).off + 1, none⟩ = some (.int .i64 ((rd_T68 l0 x5_1).f1.f0)) ∧ w'.cell? ⟨(ad341.add ((x5_1).toNat * 9)).block, (ad341.add ((x5_1).toNat * 9)).off + 2, none⟩ = some (.int .i64 ((rd_T68 l0 x5_1).f1.f1)) ∧ w'.cell? ⟨(ad341.add ((x5_1).toNat * 9)).block, (ad341.add ((x5_1).toNat * 9)).off + 3, none⟩ = some (.string ((rd_T68 l0 x5_1).f1.f2)) ∧ w'.cell? ⟨(ad341.add ((x5_1).toNat * 9)).block, (ad341.add ((x5_1).toNat * 9)).off + 4, none⟩ = some (.slice A341_4 ((rd_T68 l0 x5_1).f1.f3).length c341_4) ∧ w'.cell? ⟨(ad341.add ((x5_1).toNat * 9)).block, (ad341.add ((x5_1).toNat * 9)).off + 5, none⟩ = some (.int .i64 ((rd_T68 l0 x5_1).f2.f0)) ∧ w'.cell? ⟨(ad341.add ((x5_1).toNat * 9)).block, (ad341.add ((x5_1).toNat * 9)).off + 6, none⟩ = some (.int .i64 ((rd_T68 l0 x5_1).f2.f1)) ∧ w'.cell? ⟨(ad341.add ((x5_1).toNat * 9)).block, (ad341.add ((x5_1).toNat * 9)).off + 7, none⟩ = some (.string ((rd_T68 l0 x5_1).f2.f2)) ∧ w'.cell? ⟨(ad341.add ((x5_1).toNat * 9)).block, (ad341.add ((x5_1).toNat * 9)).off + 8, none⟩ = some (.slice A341_8 ((rd_T68 l0 x5_1).f2.f3).length c341_8) ∧ w'.cell? (ad342.add ((x5_1).toNat * 9)) = some (.int .i64 ((rd_T68 l1 x5_1).f0)) ∧ w'.cell? ⟨(ad342.add ((x5_1).toNat * 9)).block, (ad342.add ((x5_1).toNat * 9)).off + 1, none⟩ = some (.int .i64 ((rd_T68 l1 x5_1).f1.f0)) ∧ w'.cell? ⟨(ad342.add ((x5_1).toNat * 9)).block, (ad342.add ((x5_1).toNat * 9)).off + 2, none⟩ = some (.int .i64 ((rd_T68 l1 x5_1).f1.f1)) ∧ w'.cell? ⟨(ad342.add ((x5_1).toNat * 9)).block, (ad342.add ((x5_1).toNat * 9)).off + 3, none⟩ = some (.string ((rd_T68 l1 x5_1).f1.f2)) ∧ w'.cell? ⟨(ad342.add ((x5_1).toNat * 9)).block, (ad342.add ((x5_1).toNat * 9)).off + 4, none⟩ = some (.slice A342_4 ((rd_T68 l1 x5_1).f1.f3).length c342_4) ∧ w'.cell? ⟨(ad342.add ((x5_1).toNat * 9)).block, (ad342.add ((x5_1).toNat * 9)).off + 5, none⟩ = some (.int .i64 ((rd_T68 l1 x5_1).f2.f0)) ∧ w'.cell? ⟨(ad342.add ((x5_1).toNat * 9)).block, (ad342.add ((x5_1).toNat * 9)).off + 6, none⟩ = some (.int .i64 ((rd_T68 l1 x5_1).f2.f1)) ∧ w'.cell? ⟨(ad342.add ((x5_1).toNat * 9)).block, (ad342.add ((x5_1).toNat * 9)).off + 7, none⟩ = some (.string ((rd_T68 l1 x5_1).f2.f2)) ∧ w'.cell? ⟨(ad342.add ((x5_1).toNat * 9)).block, (ad342.add ((x5_1).toNat * 9)).off + 8, none⟩ = some (.slice A342_8 ((rd_T68 l1 x5_1).f2.f3).length c342_8)) (ds := []) #[false, false, false, false, false, false, false, false, false, false] (by kernel_rfl) rfl rfl ⟨((HB.out.cell (World.block_lt_of_cell? w _ hw341_0)).trans hw341_0), ((HB.out.cell (World.block_lt_of_cell? w _ hw341_1)).trans hw341_1), ((HB.out.cell (World.block_lt_of_cell? w _ hw341_2)).trans hw341_2), ((HB.out.cell (World.block_lt_of_cell? w _ hw341_3)).trans hw341_3), ((HB.out.cell (World.block_lt_of_cell? w _ hw341_4)).trans hw341_4), ((HB.out.cell (World.block_lt_of_cell? w _ hw341_5)).trans hw341_5), ((HB.out.cell (World.block_lt_of_cell? w _ hw341_6)).trans hw341_6), ((HB.out.cell (World.block_lt_of_cell? w _ hw341_7)).trans hw341_7), ((HB.out.cell (World.block_lt_of_cell? w _ hw341_8)).trans hw341_8), ((HB.out.cell (World.block_lt_of_cell? w _ hw342_0)).trans hw342_0), ((HB.out.cell (World.block_lt_of_cell? w _ hw342_1)).trans hw342_1), ((HB.out.cell (World.block_lt_of_cell? w _ hw342_2)).trans hw342_2), ((HB.out.cell (World.block_lt_of_cell? w _ hw342_3)).trans hw342_3), ((HB.out.cell (World.block_lt_of_cell? w _ hw342_4)).trans hw342_4), ((HB.out.cell (World.block_lt_of_cell? w _ hw342_5)).trans hw342_5), ((HB.out.cell (World.block_lt_of_cell? w _ hw342_6)).trans hw342_6), ((HB.out.cell (World.block_lt_of_cell? w _ hw342_7)).trans hw342_7), ((HB.out.cell (World.block_lt_of_cell? w _ hw342_8)).trans hw342_8)⟩ (fun hHeld => ?_); refine with_tabW laws_eqRuleS.tab6 laws_eqRuleS.bits6 (fun HT_ HW_ => ?_)
        generalize wr.drew = w9 at HB HR341_4 HR341_8 HR342_4 HR342_8 hx341_0 hx341_1 hx341_2 hx341_3 hx341_4 hx341_5 hx341_6 hx341_7 hx341_8 hx342_0 hx342_1 hx342_2 hx342_3 hx342_4 hx342_5 hx342_6 hx342_7 hx342_8 hHeld ⊢
        refine pure_ (i := 0) (N := some 17) (v := ?_) (a' := ?_) #[true, false, false, false, false, false, false, false, false, false] rfl rfl (any_of HT_.out (by kernel_rfl)) (fun _ _ _ h => h) (Or.inl ⟨by rfl, ?_⟩) ?_ ?_
        rotate_left
        ·intro w'
         go_simp
         with_reducible rfl
        rotate_left
        ·simp only [Act.put, List.setIfInBounds_toArray, List.set_cons_zero, List.set_cons_succ, i64_w, i32_w]
         rfl
        refine pure_ (i := 1) (N := some 18) (v := ?_) (a' := ?_) #[true, true, false, false, false, false, false, false, false, false] rfl rfl (any_of HT_.out (by kernel_rfl)) (fun _ _ _ h => h) (Or.inl ⟨by rfl, ?_⟩) ?_ ?_
        rotate_left
        ·intro w'
         go_simp
         with_reducible rfl
        rotate_left
        ·simp only [Act.put, List.setIfInBounds_toArray, List.set_cons_zero, List.set_cons_succ, i64_w, i32_w]
         rfl
        refine pure_ (i := 2) (N := some 19) (v := ?_) (a' := ?_) #[true, true, true, false, false, false, false, false, false, false] rfl rfl (any_of HT_.out (by kernel_rfl)) (fun _ _ _ h => h) (Or.inl ⟨by rfl, ?_⟩) ?_ ?_
        rotate_left
        ·intro w'
         go_simp
         with_reducible rfl
        rotate_left
        ·simp only [Act.put, List.setIfInBounds_toArray, List.set_cons_zero, List.set_cons_succ, i64_w, i32_w]
         rfl
        refine pure_ (i := 4) (N := some 21) (v := ?_) (a' := ?_) #[true, true, true, false, true, false, false, false, false, false] rfl rfl (any_of HT_.out (by kernel_rfl)) (fun _ _ _ h => h) (Or.inl ⟨by rfl, ?_⟩) ?_ ?_
        rotate_left
        ·intro w'
         go_simp
         with_reducible rfl
        rotate_left
        ·simp only [Act.put, List.setIfInBounds_toArray, List.set_cons_zero, List.set_cons_succ, i64_w, i32_w]
         rfl
        refine pure_ (i := 5) (N := some 22) (v := ?_) (a' := ?_) #[true, true, true, false, true, true, false, false, false, false] rfl rfl (any_of HT_.out (by kernel_rfl)) (fun _ _ _ h => h) (Or.inl ⟨by rfl, ?_⟩) ?_ ?_
        rotate_left
        ·intro w'
         go_simp
         with_reducible rfl
        rotate_left
        ·simp only [Act.put, List.setIfInBounds_toArray, List.set_cons_zero, List.set_cons_succ, i64_w, i32_w]
         rfl
        refine pure_ (i := 6) (N := some 23) (v := ?_) (a' := ?_) #[true, true, true, false, true, true, true, false, false, false] rfl rfl (any_of HT_.out (by kernel_rfl)) (fun _ _ _ h => h) (Or.inl ⟨by rfl, ?_⟩) ?_ ?_
        rotate_left
        ·intro w'
         go_simp
         with_reducible rfl
        rotate_left
        ·simp only [Act.put, List.setIfInBounds_toArray, List.set_cons_zero, List.set_cons_succ, i64_w, i32_w]
         rfl
        refine take_ (i := 3) (N := some 20) (v := ?_) (a' := ?_) #[true, true, true, true, true, true, true, false, false, false] rfl rfl (take_ofW HT_.out HW_.out (by kernel_rfl)) (fun _ _ _ h => h) (Or.inl ⟨by rfl, ?_⟩) hHeld ?_ ?_
        rotate_left
        ·rintro w' ⟨s0, s1, s2, s3, s4, s5, s6, s7, s8, s9, s10, s11, s12, s13, s14, s15, s16, s17⟩
         go_simp
         with_reducible rfl
        rotate_left
        ·simp only [Act.put, List.setIfInBounds_toArray, List.set_cons_zero, List.set_cons_succ, i64_w, i32_w]
         rfl
        refine take_ (i := 7) (N := some 24) (v := ?_) (a' := ?_) #[true, true, true, true, true, true, true, true, false, false] rfl rfl (take_ofW HT_.out HW_.out (by kernel_rfl)) (fun _ _ _ h => h) (Or.inl ⟨by rfl, ?_⟩) hHeld ?_ ?_
        rotate_left
        ·rintro w' ⟨s0, s1, s2, s3, s4, s5, s6, s7, s8, s9, s10, s11, s12, s13, s14, s15, s16, s17⟩
         go_simp
         with_reducible rfl
        rotate_left
        ·simp only [Act.put, List.setIfInBounds_toArray, List.set_cons_zero, List.set_cons_succ, i64_w, i32_w]
         rfl
        refine one_ (i := 8) (N := some 25) #[true, true, true, true, true, true, true, true, true, false] rfl rfl (one_of HT_.out (by kernel_rfl)) (by decide) (fun K hK => ?_)
        refine goes_ Try.func44 (by kernel_rfl) rfl #[.agg #[.int .i64 ((rd_T68 l0 x5_1).f0), .int .i64 ((rd_T68 l0 x5_1).f1.f0), .int .i64 ((rd_T68 l0 x5_1).f1.f1), .string ((rd_T68 l0 x5_1).f1.f2), .slice A341_4 ((rd_T68 l0 x5_1).f1.f3).length c341_4, .int .i64 ((rd_T68 l0 x5_1).f2.f0), .int .i64 ((rd_T68 l0 x5_1).f2.f1), .string ((rd_T68 l0 x5_1).f2.f2), .slice A341_8 ((rd_T68 l0 x5_1).f2.f3).length c341_8], .agg #[.int .i64 ((rd_T68 l1 x5_1).f0), .int .i64 ((rd_T68 l1 x5_1).f1.f0), .int .i64 ((rd_T68 l1 x5_1).f1.f1), .string ((rd_T68 l1 x5_1).f1.f2), .slice A342_4 ((rd_T68 l1 x5_1).f1.f3).length c342_4, .int .i64 ((rd_T68 l1 x5_1).f2.f0), .int .i64 ((rd_T68 l1 x5_1).f2.f1), .string ((rd_T68 l1 x5_1).f2.f2), .slice A342_8 ((rd_T68 l1 x5_1).f2.f3).length c342_8]] (by rfl) rfl rfl zA ?_
        with_reducible refine (laws_eqRule.calls k1 ((rd_T68 l0 x5_1).f0) ((rd_T68 l0 x5_1).f1.f0) ((rd_T68 l0 x5_1).f1.f1) ((rd_T68 l0 x5_1).f1.f2) _ _ ((rd_T68 l0 x5_1).f1.f3) ((rd_T68 l0 x5_1).f2.f0) ((rd_T68 l0 x5_1).f2.f1) ((rd_T68 l0 x5_1).f2.f2) _ _ ((rd_T68 l0 x5_1).f2.f3) ((rd_T68 l1 x5_1).f0) ((rd_T68 l1 x5_1).f1.f0) ((rd_T68 l1 x5_1).f1.f1) ((rd_T68 l1 x5_1).f1.f2) _ _ ((rd_T68 l1 x5_1).f1.f3) ((rd_T68 l1 x5_1).f2.f0) ((rd_T68 l1 x5_1).f2.f1) ((rd_T68 l1 x5_1).f2.f2) _ _ ((rd_T68 l1 x5_1).f2.f3) true _ ?side1 ?side2 ?side3 ?side4 ?side5 ?side6 ?side7 ?side8 A7.out).mono ?_
        (case side1 => repeat (first | exact (Kd.C_below HR341_4.out HB.out) | (with_reducible refine Kd.C_alloc ?_ _) | (with_reducible refine Kd.C_drewN ?_ _) | (with_reducible refine Kd.C_drew ?_)))
        (case side2 => exact HC341_4.out)
        (case side3 => repeat (first | exact (Kd.C_below HR341_8.out HB.out) | (with_reducible refine Kd.C_alloc ?_ _) | (with_reducible refine Kd.C_drewN ?_ _) | (with_reducible refine Kd.C_drew ?_)))
        (case side4 => exact HC341_8.out)
        (case side5 => repeat (first | exact (Kd.C_below HR342_4.out HB.out) | (with_reducible refine Kd.C_alloc ?_ _) | (with_reducible refine Kd.C_drewN ?_ _) | (with_reducible refine Kd.C_drew ?_)))
        (case side6 => exact HC342_4.out)
        (case side7 => repeat (first | exact (Kd.C_below HR342_8.out HB.out) | (with_reducible refine Kd.C_alloc ?_ _) | (with_reducible refine Kd.C_drewN ?_ _) | (with_reducible refine Kd.C_drew ?_)))
        (case side8 => exact HC342_8.out)
        rintro e w10 ⟨rfl, hb⟩
        refine ⟨_, rfl, ?_⟩
        have n0_ := Aside0.mk (zs hb)
        clear HB
        have HB := n0_
        clear n0_
        (try clear hb)
        (try clear hb2)
        (try clear hk)
        (try clear hi)
        refine hK.out _ _ ⟨((HB.out.cell (World.block_lt_of_cell? w _ hw341_0)).trans hw341_0), ((HB.out.cell (World.block_lt_of_cell? w _ hw341_1)).trans hw341_1), ((HB.out.cell (World.block_lt_of_cell? w _ hw341_2)).trans hw341_2), ((HB.out.cell (World.block_lt_of_cell? w _ hw341_3)).trans hw341_3), ((HB.out.cell (World.block_lt_of_cell? w _ hw341_4)).trans hw341_4), ((HB.out.cell (World.block_lt_of_cell? w _ hw341_5)).trans hw341_5), ((HB.out.cell (World.block_lt_of_cell? w _ hw341_6)).trans hw341_6), ((HB.out.cell (World.block_lt_of_cell? w _ hw341_7)).trans hw341_7), ((HB.out.cell (World.block_lt_of_cell? w _ hw341_8)).trans hw341_8), ((HB.out.cell (World.block_lt_of_cell? w _ hw342_0)).trans hw342_0), ((HB.out.cell (World.block_lt_of_cell? w _ hw342_1)).trans hw342_1), ((HB.out.cell (World.block_lt_of_cell? w _ hw342_2)).trans hw342_2), ((HB.out.cell (World.block_lt_of_cell? w _ hw342_3)).trans hw342_3), ((HB.out.cell (World.block_lt_of_cell? w _ hw342_4)).trans hw342_4), ((HB.out.cell (World.block_lt_of_cell? w _ hw342_5)).trans hw342_5), ((HB.out.cell (World.block_lt_of_cell? w _ hw342_6)).trans hw342_6), ((HB.out.cell (World.block_lt_of_cell? w _ hw342_7)).trans hw342_7), ((HB.out.cell (World.block_lt_of_cell? w _ hw342_8)).trans hw342_8)⟩ (fun hHeld => ?_)
        clear hK K
        refine norm_ (a' := ?_) ?_ ?_
        rotate_left
        ·show Act.put _ (some 25) _ = _
         simp only [Act.put, List.setIfInBounds_toArray, List.set_cons_zero, List.set_cons_succ, i64_w, i32_w]
         rfl
        refine pure_ (i := 9) (N := some 26) (v := ?_) (a' := ?_) #[true, true, true, true, true, true, true, true, true, true] rfl rfl (any_of HT_.out (by kernel_rfl)) (fun _ _ _ h => h) (Or.inl ⟨by rfl, ?_⟩) ?_ ?_
        rotate_left
        ·intro w'
         go_simp
         with_reducible rfl
        rotate_left
        ·simp only [Act.put, List.setIfInBounds_toArray, List.set_cons_zero, List.set_cons_succ, i64_w, i32_w]
         rfl
        refine done_ (done_of HT_.out (by kernel_rfl)) ?_
        try go_wp2
        go_roundg k1
        case measure => have := HK1.out; omega
        case rel => exact ⟨(wrap64 (x5_1 + 1)), zS, H', ⟨by have := HK1.out; omega⟩, ⟨zB⟩⟩
       ·replace c8 := Bool.eq_false_iff.mpr c8; subst c8; replace H := zN H
        obtain rfl := Option.some.inj H
        try go_wp2
        have n0_ := Aside0.mk (below_drew1 HB.out)
        clear HB
        have HB := n0_
        clear n0_
        have p341 : 0 ≤ (x5_1 : Int) := zW
        have q341 : x5_1 < (l0.length : Int) := zW
        obtain ⟨ad341, A341_4, c341_4, A341_8, c341_8, e341, hx341_0, hx341_1, hx341_2, hx341_3, hx341_4, hx341_5, hx341_6, hx341_7, hx341_8, hl341_4, hi341_4, hl341_8, hi341_8⟩ := at_T68 HR0.out x5_1 p341 q341
        have hw341_8 := hx341_8
        have hw341_7 := hx341_7
        have hw341_6 := hx341_6
        have hw341_5 := hx341_5
        have hw341_4 := hx341_4
        have hw341_3 := hx341_3
        have hw341_2 := hx341_2
        have hw341_1 := hx341_1
        have hw341_0 := hx341_0
        cases e341
        replace hx341_0 := zc HB hx341_0
        replace hx341_1 := zc HB hx341_1
        replace hx341_2 := zc HB hx341_2
        replace hx341_3 := zc HB hx341_3
        replace hx341_4 := zc HB hx341_4
        replace hx341_5 := zc HB hx341_5
        replace hx341_6 := zc HB hx341_6
        replace hx341_7 := zc HB hx341_7
        replace hx341_8 := zc HB hx341_8
        have HR341_4 := Aside0.mk hi341_4
        have HC341_4 := Aside0.mk hl341_4
        clear hi341_4 hl341_4
        have HR341_8 := Aside0.mk hi341_8
        have HC341_8 := Aside0.mk hl341_8
        clear hi341_8 hl341_8
        replace p341 := eq_true p341
        replace q341 := eq_true q341
        have p342 : 0 ≤ (x5_1 : Int) := zW
        have q342 : x5_1 < (l1.length : Int) := zW
        obtain ⟨ad342, A342_4, c342_4, A342_8, c342_8, e342, hx342_0, hx342_1, hx342_2, hx342_3, hx342_4, hx342_5, hx342_6, hx342_7, hx342_8, hl342_4, hi342_4, hl342_8, hi342_8⟩ := at_T68 HR1.out x5_1 p342 q342
        have hw342_8 := hx342_8
        have hw342_7 := hx342_7
        have hw342_6 := hx342_6
        have hw342_5 := hx342_5
        have hw342_4 := hx342_4
        have hw342_3 := hx342_3
        have hw342_2 := hx342_2
        have hw342_1 := hx342_1
        have hw342_0 := hx342_0
        cases e342
        replace hx342_0 := zc HB hx342_0
        replace hx342_1 := zc HB hx342_1
        replace hx342_2 := zc HB hx342_2
        replace hx342_3 := zc HB hx342_3
        replace hx342_4 := zc HB hx342_4
        replace hx342_5 := zc HB hx342_5
        replace hx342_6 := zc HB hx342_6
        replace hx342_7 := zc HB hx342_7
        replace hx342_8 := zc HB hx342_8
        have HR342_4 := Aside0.mk hi342_4
        have HC342_4 := Aside0.mk hl342_4
        clear hi342_4 hl342_4
        have HR342_8 := Aside0.mk hi342_8
        have HC342_8 := Aside0.mk hl342_8
        clear hi342_8 hl342_8
        replace p342 := eq_true p342
        replace q342 := eq_true q342
        refine start_ (n := 10) (S := fun w' => w'.cell? (ad341.add ((x5_1).toNat * 9)) = some (.int .i64 ((rd_T68 l0 x5_1).f0)) ∧ w'.cell? ⟨(ad341.add ((x5_1).toNat * 9)).block, (ad341.add ((x5_1).toNat * 9)).off + 1, none⟩ = some (.int .i64 ((rd_T68 l0 x5_1).f1.f0)) ∧ w'.cell? ⟨(ad341.add ((x5_1).toNat * 9)).block, (ad341.add ((x5_1).toNat * 9)).off + 2, none⟩ = some (.int .i64 ((rd_T68 l0 x5_1).f1.f1)) ∧ w'.cell? ⟨(ad341.add ((x5_1).toNat * 9)).block, (ad341.add ((x5_1).toNat * 9)).off + 3, none⟩ = some (.string ((rd_T68 l0 x5_1).f1.f2)) ∧ w'.cell? ⟨(ad341.add ((x5_1).toNat * 9)).block, (ad341.add ((x5_1).toNat * 9)).off + 4, none⟩ = some (.slice A341_4 ((rd_T68 l0 x5_1).f1.f3).length c341_4) ∧ w'.cell? ⟨(ad341.add ((x5_1).toNat * 9)).block, (ad341.add ((x5_1).toNat * 9)).off + 5, none⟩ = some (.int .i64 ((rd_T68 l0 x5_1).f2.f0)) ∧ w'.cell? ⟨(ad341.add ((x5_1).toNat * 9)).block, (ad341.add ((x5_1).toNat * 9)).off + 6, none⟩ = some (.int .i64 ((rd_T68 l0 x5_1).f2.f1)) ∧ w'.cell? ⟨(ad341.add ((x5_1).toNat * 9)).block, (ad341.add ((x5_1).toNat * 9)).off + 7, none⟩ = some (.string ((rd_T68 l0 x5_1).f2.f2)) ∧ w'.cell? ⟨(ad341.add ((x5_1).toNat * 9)).block, (ad341.add ((x5_1).toNat * 9)).off + 8, none⟩ = some (.slice A341_8 ((rd_T68 l0 x5_1).f2.f3).length c341_8) ∧ w'.cell? (ad342.add ((x5_1).toNat * 9)) = some (.int .i64 ((rd_T68 l1 x5_1).f0)) ∧ w'.cell? ⟨(ad342.add ((x5_1).toNat * 9)).block, (ad342.add ((x5_1).toNat * 9)).off + 1, none⟩ = some (.int .i64 ((rd_T68 l1 x5_1).f1.f0)) ∧ w'.cell? ⟨(ad342.add ((x5_1).toNat * 9)).block, (ad342.add ((x5_1).toNat * 9)).off + 2, none⟩ = some (.int .i64 ((rd_T68 l1 x5_1).f1.f1)) ∧ w'.cell? ⟨(ad342.add ((x5_1).toNat * 9)).block, (ad342.add ((x5_1).toNat * 9)).off + 3, none⟩ = some (.string ((rd_T68 l1 x5_1).f1.f2)) ∧ w'.cell? ⟨(ad342.add ((x5_1).toNat * 9)).block, (ad342.add ((x5_1).toNat * 9)).off + 4, none⟩ = some (.slice A342_4 ((rd_T68 l1 x5_1).f1.f3).length c342_4) ∧ w'.cell? ⟨(ad342.add ((x5_1).toNat * 9)).block, (ad342.add ((x5_1).toNat * 9)).off + 5, none⟩ = some (.int .i64 ((rd_T68 l1 x5_1).f2.f0)) ∧ w'.cell? ⟨(ad342.add ((x5_1).toNat * 9)).block, (ad342.add ((x5_1).toNat * 9)).off + 6, none⟩ = some (.int .i64 ((rd_T68 l1 x5_1).f2.f1)) ∧ w'.cell? ⟨(ad342.add ((x5_1).toNat * 9)).block, (ad342.add ((x5_1).toNat * 9)).off + 7, none⟩ = some (.string ((rd_T68 l1 x5_1).f2.f2)) ∧ w'.cell? ⟨(ad342.add ((x5_1).toNat * 9)).block, (ad342.add ((x5_1).toNat * 9)).off + 8, none⟩ = some (.slice A342_8 ((rd_T68 l1 x5_1).f2.f3).length c342_8)) (ds := []) #[false, false, false, false, false, false, false, false, false, false] (by kernel_rfl) rfl rfl ⟨((HB.out.cell (World.block_lt_of_cell? w _ hw341_0)).trans hw341_0), ((HB.out.cell (World.block_lt_of_cell? w _ hw341_1)).trans hw341_1), ((HB.out.cell (World.block_lt_of_cell? w _ hw341_2)).trans hw341_2), ((HB.out.cell (World.block_lt_of_cell? w _ hw341_3)).trans hw341_3), ((HB.out.cell (World.block_lt_of_cell? w _ hw341_4)).trans hw341_4), ((HB.out.cell (World.block_lt_of_cell? w _ hw341_5)).trans hw341_5), ((HB.out.cell (World.block_lt_of_cell? w _ hw341_6)).trans hw341_6), ((HB.out.cell (World.block_lt_of_cell? w _ hw341_7)).trans hw341_7), ((HB.out.cell (World.block_lt_of_cell? w _ hw341_8)).trans hw341_8), ((HB.out.cell (World.block_lt_of_cell? w _ hw342_0)).trans hw342_0), ((HB.out.cell (World.block_lt_of_cell? w _ hw342_1)).trans hw342_1), ((HB.out.cell (World.block_lt_of_cell? w _ hw342_2)).trans hw342_2), ((HB.out.cell (World.block_lt_of_cell? w _ hw342_3)).trans hw342_3), ((HB.out.cell (World.block_lt_of_cell? w _ hw342_4)).trans hw342_4), ((HB.out.cell (World.block_lt_of_cell? w _ hw342_5)).trans hw342_5), ((HB.out.cell (World.block_lt_of_cell? w _ hw342_6)).trans hw342_6), ((HB.out.cell (World.block_lt_of_cell? w _ hw342_7)).trans hw342_7), ((HB.out.cell (World.block_lt_of_cell? w _ hw342_8)).trans hw342_8)⟩ (fun hHeld => ?_); refine with_tabW laws_eqRuleS.tab6 laws_eqRuleS.bits6 (fun HT_ HW_ => ?_)
        generalize wr.drew = w11 at HB HR341_4 HR341_8 HR342_4 HR342_8 hx341_0 hx341_1 hx341_2 hx341_3 hx341_4 hx341_5 hx341_6 hx341_7 hx341_8 hx342_0 hx342_1 hx342_2 hx342_3 hx342_4 hx342_5 hx342_6 hx342_7 hx342_8 hHeld ⊢
        refine pure_ (i := 0) (N := some 17) (v := ?_) (a' := ?_) #[true, false, false, false, false, false, false, false, false, false] rfl rfl (any_of HT_.out (by kernel_rfl)) (fun _ _ _ h => h) (Or.inl ⟨by rfl, ?_⟩) ?_ ?_
        rotate_left
        ·intro w'
         go_simp
         with_reducible rfl
        rotate_left
        ·simp only [Act.put, List.setIfInBounds_toArray, List.set_cons_zero, List.set_cons_succ, i64_w, i32_w]
         rfl
        refine pure_ (i := 1) (N := some 18) (v := ?_) (a' := ?_) #[true, true, false, false, false, false, false, false, false, false] rfl rfl (any_of HT_.out (by kernel_rfl)) (fun _ _ _ h => h) (Or.inl ⟨by rfl, ?_⟩) ?_ ?_
        rotate_left
        ·intro w'
         go_simp
         with_reducible rfl
        rotate_left
        ·simp only [Act.put, List.setIfInBounds_toArray, List.set_cons_zero, List.set_cons_succ, i64_w, i32_w]
         rfl
        refine pure_ (i := 2) (N := some 19) (v := ?_) (a' := ?_) #[true, true, true, false, false, false, false, false, false, false] rfl rfl (any_of HT_.out (by kernel_rfl)) (fun _ _ _ h => h) (Or.inl ⟨by rfl, ?_⟩) ?_ ?_
        rotate_left
        ·intro w'
         go_simp
         with_reducible rfl
        rotate_left
        ·simp only [Act.put, List.setIfInBounds_toArray, List.set_cons_zero, List.set_cons_succ, i64_w, i32_w]
         rfl
        refine pure_ (i := 4) (N := some 21) (v := ?_) (a' := ?_) #[true, true, true, false, true, false, false, false, false, false] rfl rfl (any_of HT_.out (by kernel_rfl)) (fun _ _ _ h => h) (Or.inl ⟨by rfl, ?_⟩) ?_ ?_
        rotate_left
        ·intro w'
         go_simp
         with_reducible rfl
        rotate_left
        ·simp only [Act.put, List.setIfInBounds_toArray, List.set_cons_zero, List.set_cons_succ, i64_w, i32_w]
         rfl
        refine pure_ (i := 5) (N := some 22) (v := ?_) (a' := ?_) #[true, true, true, false, true, true, false, false, false, false] rfl rfl (any_of HT_.out (by kernel_rfl)) (fun _ _ _ h => h) (Or.inl ⟨by rfl, ?_⟩) ?_ ?_
        rotate_left
        ·intro w'
         go_simp
         with_reducible rfl
        rotate_left
        ·simp only [Act.put, List.setIfInBounds_toArray, List.set_cons_zero, List.set_cons_succ, i64_w, i32_w]
         rfl
        refine pure_ (i := 6) (N := some 23) (v := ?_) (a' := ?_) #[true, true, true, false, true, true, true, false, false, false] rfl rfl (any_of HT_.out (by kernel_rfl)) (fun _ _ _ h => h) (Or.inl ⟨by rfl, ?_⟩) ?_ ?_
        rotate_left
        ·intro w'
         go_simp
         with_reducible rfl
        rotate_left
        ·simp only [Act.put, List.setIfInBounds_toArray, List.set_cons_zero, List.set_cons_succ, i64_w, i32_w]
         rfl
        refine take_ (i := 3) (N := some 20) (v := ?_) (a' := ?_) #[true, true, true, true, true, true, true, false, false, false] rfl rfl (take_ofW HT_.out HW_.out (by kernel_rfl)) (fun _ _ _ h => h) (Or.inl ⟨by rfl, ?_⟩) hHeld ?_ ?_
        rotate_left
        ·rintro w' ⟨s0, s1, s2, s3, s4, s5, s6, s7, s8, s9, s10, s11, s12, s13, s14, s15, s16, s17⟩
         go_simp
         with_reducible rfl
        rotate_left
        ·simp only [Act.put, List.setIfInBounds_toArray, List.set_cons_zero, List.set_cons_succ, i64_w, i32_w]
         rfl
        refine take_ (i := 7) (N := some 24) (v := ?_) (a' := ?_) #[true, true, true, true, true, true, true, true, false, false] rfl rfl (take_ofW HT_.out HW_.out (by kernel_rfl)) (fun _ _ _ h => h) (Or.inl ⟨by rfl, ?_⟩) hHeld ?_ ?_
        rotate_left
        ·rintro w' ⟨s0, s1, s2, s3, s4, s5, s6, s7, s8, s9, s10, s11, s12, s13, s14, s15, s16, s17⟩
         go_simp
         with_reducible rfl
        rotate_left
        ·simp only [Act.put, List.setIfInBounds_toArray, List.set_cons_zero, List.set_cons_succ, i64_w, i32_w]
         rfl
        refine one_ (i := 8) (N := some 25) #[true, true, true, true, true, true, true, true, true, false] rfl rfl (one_of HT_.out (by kernel_rfl)) (by decide) (fun K hK => ?_)
        refine goes_ Try.func44 (by kernel_rfl) rfl #[.agg #[.int .i64 ((rd_T68 l0 x5_1).f0), .int .i64 ((rd_T68 l0 x5_1).f1.f0), .int .i64 ((rd_T68 l0 x5_1).f1.f1), .string ((rd_T68 l0 x5_1).f1.f2), .slice A341_4 ((rd_T68 l0 x5_1).f1.f3).length c341_4, .int .i64 ((rd_T68 l0 x5_1).f2.f0), .int .i64 ((rd_T68 l0 x5_1).f2.f1), .string ((rd_T68 l0 x5_1).f2.f2), .slice A341_8 ((rd_T68 l0 x5_1).f2.f3).length c341_8], .agg #[.int .i64 ((rd_T68 l1 x5_1).f0), .int .i64 ((rd_T68 l1 x5_1).f1.f0), .int .i64 ((rd_T68 l1 x5_1).f1.f1), .string ((rd_T68 l1 x5_1).f1.f2), .slice A342_4 ((rd_T68 l1 x5_1).f1.f3).length c342_4, .int .i64 ((rd_T68 l1 x5_1).f2.f0), .int .i64 ((rd_T68 l1 x5_1).f2.f1), .string ((rd_T68 l1 x5_1).f2.f2), .slice A342_8 ((rd_T68 l1 x5_1).f2.f3).length c342_8]] (by rfl) rfl rfl zA ?_
        with_reducible refine (laws_eqRule.calls k1 ((rd_T68 l0 x5_1).f0) ((rd_T68 l0 x5_1).f1.f0) ((rd_T68 l0 x5_1).f1.f1) ((rd_T68 l0 x5_1).f1.f2) _ _ ((rd_T68 l0 x5_1).f1.f3) ((rd_T68 l0 x5_1).f2.f0) ((rd_T68 l0 x5_1).f2.f1) ((rd_T68 l0 x5_1).f2.f2) _ _ ((rd_T68 l0 x5_1).f2.f3) ((rd_T68 l1 x5_1).f0) ((rd_T68 l1 x5_1).f1.f0) ((rd_T68 l1 x5_1).f1.f1) ((rd_T68 l1 x5_1).f1.f2) _ _ ((rd_T68 l1 x5_1).f1.f3) ((rd_T68 l1 x5_1).f2.f0) ((rd_T68 l1 x5_1).f2.f1) ((rd_T68 l1 x5_1).f2.f2) _ _ ((rd_T68 l1 x5_1).f2.f3) false _ ?side1 ?side2 ?side3 ?side4 ?side5 ?side6 ?side7 ?side8 A7.out).mono ?_
        (case side1 => repeat (first | exact (Kd.C_below HR341_4.out HB.out) | (with_reducible refine Kd.C_alloc ?_ _) | (with_reducible refine Kd.C_drewN ?_ _) | (with_reducible refine Kd.C_drew ?_)))
        (case side2 => exact HC341_4.out)
        (case side3 => repeat (first | exact (Kd.C_below HR341_8.out HB.out) | (with_reducible refine Kd.C_alloc ?_ _) | (with_reducible refine Kd.C_drewN ?_ _) | (with_reducible refine Kd.C_drew ?_)))
        (case side4 => exact HC341_8.out)
        (case side5 => repeat (first | exact (Kd.C_below HR342_4.out HB.out) | (with_reducible refine Kd.C_alloc ?_ _) | (with_reducible refine Kd.C_drewN ?_ _) | (with_reducible refine Kd.C_drew ?_)))
        (case side6 => exact HC342_4.out)
        (case side7 => repeat (first | exact (Kd.C_below HR342_8.out HB.out) | (with_reducible refine Kd.C_alloc ?_ _) | (with_reducible refine Kd.C_drewN ?_ _) | (with_reducible refine Kd.C_drew ?_)))
        (case side8 => exact HC342_8.out)
        rintro e w12 ⟨rfl, hb⟩
        refine ⟨_, rfl, ?_⟩
        have n0_ := Aside0.mk (zs hb)
        clear HB
        have HB := n0_
        clear n0_
        (try clear hb)
        (try clear hb2)
        (try clear hk)
        (try clear hi)
        refine hK.out _ _ ⟨((HB.out.cell (World.block_lt_of_cell? w _ hw341_0)).trans hw341_0), ((HB.out.cell (World.block_lt_of_cell? w _ hw341_1)).trans hw341_1), ((HB.out.cell (World.block_lt_of_cell? w _ hw341_2)).trans hw341_2), ((HB.out.cell (World.block_lt_of_cell? w _ hw341_3)).trans hw341_3), ((HB.out.cell (World.block_lt_of_cell? w _ hw341_4)).trans hw341_4), ((HB.out.cell (World.block_lt_of_cell? w _ hw341_5)).trans hw341_5), ((HB.out.cell (World.block_lt_of_cell? w _ hw341_6)).trans hw341_6), ((HB.out.cell (World.block_lt_of_cell? w _ hw341_7)).trans hw341_7), ((HB.out.cell (World.block_lt_of_cell? w _ hw341_8)).trans hw341_8), ((HB.out.cell (World.block_lt_of_cell? w _ hw342_0)).trans hw342_0), ((HB.out.cell (World.block_lt_of_cell? w _ hw342_1)).trans hw342_1), ((HB.out.cell (World.block_lt_of_cell? w _ hw342_2)).trans hw342_2), ((HB.out.cell (World.block_lt_of_cell? w _ hw342_3)).trans hw342_3), ((HB.out.cell (World.block_lt_of_cell? w _ hw342_4)).trans hw342_4), ((HB.out.cell (World.block_lt_of_cell? w _ hw342_5)).trans hw342_5), ((HB.out.cell (World.block_lt_of_cell? w _ hw342_6)).trans hw342_6), ((HB.out.cell (World.block_lt_of_cell? w _ hw342_7)).trans hw342_7), ((HB.out.cell (World.block_lt_of_cell? w _ hw342_8)).trans hw342_8)⟩ (fun hHeld => ?_)
        clear hK K
        refine norm_ (a' := ?_) ?_ ?_
        rotate_left
        ·show Act.put _ (some 25) _ = _
         simp only [Act.put, List.setIfInBounds_toArray, List.set_cons_zero, List.set_cons_succ, i64_w, i32_w]
         rfl
        refine pure_ (i := 9) (N := some 26) (v := ?_) (a' := ?_) #[true, true, true, true, true, true, true, true, true, true] rfl rfl (any_of HT_.out (by kernel_rfl)) (fun _ _ _ h => h) (Or.inl ⟨by rfl, ?_⟩) ?_ ?_
        rotate_left
        ·intro w'
         go_simp
         with_reducible rfl
        rotate_left
        ·simp only [Act.put, List.setIfInBounds_toArray, List.set_cons_zero, List.set_cons_succ, i64_w, i32_w]
         rfl
        refine done_ (done_of HT_.out (by kernel_rfl)) ?_
        try go_wp2
        go_ret
        exact ⟨zE, zB⟩
      ·exact absurd H (by simp)
     ·exact absurd H (by simp)
    ·have c4b0 := decide_eq_false c4
     clear c4
     obtain rfl := Option.some.inj H
     go_wp2
     go_ret
     exact ⟨zE, zB⟩
 ·have c3b0 := beq_eq_false_iff_ne.mpr c3
  have c3b1 := bne_iff_ne.mpr c3
  have c3b2 : (l0.length == l1.length) = false := by first | simpa using c3 | (simp at c3 ⊢; omega)
  obtain rfl := Option.some.inj H
  go_enter Try.func12, Try.ntmps12
  go_wp2
  go_ret
  exact ⟨zE, zB⟩

/-! ### laws_FnExactTidy: function 3 -/
theorem laws_FnExactTidy.calls (k : Nat) (A0 : Option Addr) (c0 : Nat) (l0 : List (S63)) (r : Bool) (w : World) (hr0 : Kd.C k63 w A0 l0.length l0) (hc0 : l0.length ≤ c0) (h : laws_FnExactTidy.f k l0 = some r) :
  Calls Try.prog 3 #[.slice A0 l0.length c0] w fun e w' => e = .returned (.bool r) ∧ Below w.heap.size w w' := by
 have HR0 := Aside0.mk hr0
 have HC0 := Aside0.mk hc0
 clear hr0 hc0
 have HB := Aside0.mk (Below.refl w.heap.size w)
 rw [laws_FnExactTidy.f] at h
 have H := h
 clear h
 replace H := zO H; obtain ⟨t344, A2, H⟩ := H
 replace H := zI H; obtain ⟨c3, H⟩ | ⟨c3, H⟩ := H
 ·have c3b0 := decide_eq_true c3
  clear c3
  obtain rfl := Option.some.inj H
  go_enter Try.func3, Try.ntmps3
  go_wp2_with (first | ((with_reducible refine gate_callee (f := 8) rfl ?_); refine zG (some 9) Try.func8 #[.slice A0 l0.length c0, .int .i64 1048576] ?_; (with_reducible refine (laws_szRuleS.calls k _ _ l0 1048576 t344 _ ?side1 ?side2 A2.out).mono ?_); (case side1 => repeat (first | exact HR0.out | (with_reducible refine Kd.C_alloc ?_ _) | (with_reducible refine Kd.C_drewN ?_ _) | (with_reducible refine Kd.C_drew ?_))); (case side2 => exact HC0.out); rintro e w4 ⟨rfl, hb⟩; refine ⟨_, rfl, ?_⟩; have n_ := Aside0.mk (zs hb); clear HB; have HB := n_; clear n_; (try clear hb)))
  go_ret
  exact ⟨zE, zB⟩
 ·have c3b0 := decide_eq_false c3
  clear c3
  replace H := zO H; obtain ⟨t345, A5, H⟩ := H
  replace H := zO H; obtain ⟨t348, A6, H⟩ := H
  replace H := zO H; obtain ⟨t349, A7, H⟩ := H
  replace H := zO H; obtain ⟨t352, A8, H⟩ := H
  replace H := zI H; obtain ⟨c9, H⟩ | ⟨c9, H⟩ := H
  ·have c9b0 : (t352 != t348) = true := c9
   (try (have c9b1 : decide (t352 = t348) = false := by simpa using c9))
   (try (have c9b2 : (t352 == t348) = false := by simpa using c9))
   (try (have c9b3 : ¬ (t352 = t348) := by simpa using c9))
   clear c9
   obtain rfl := Option.some.inj H
   go_enter Try.func3, Try.ntmps3
   go_wp2_with (first | ((with_reducible refine gate_callee (f := 8) rfl ?_); refine zG (some 9) Try.func8 #[.slice A0 l0.length c0, .int .i64 1048576] ?_; (with_reducible refine (laws_szRuleS.calls k _ _ l0 1048576 t344 _ ?side1 ?side2 A2.out).mono ?_); (case side1 => repeat (first | exact HR0.out | (with_reducible refine Kd.C_alloc ?_ _) | (with_reducible refine Kd.C_drewN ?_ _) | (with_reducible refine Kd.C_drew ?_))); (case side2 => exact HC0.out); rintro e w10 ⟨rfl, hb⟩; refine ⟨_, rfl, ?_⟩; have n_ := Aside0.mk (zs hb); clear HB; have HB := n_; clear n_; (try clear hb)) | ((with_reducible refine gate_callee (f := 10) rfl ?_); refine zG (some 13) Try.func10 #[.slice A0 l0.length c0] ?_; (with_reducible refine (laws_toRuleS.calls k _ _ l0 t345 _ (zR HR0) HC0.out A5.out).mono ?_); rintro e w11 ⟨v346, rfl, ho0, hb⟩; refine ⟨_, rfl, ?_⟩; have n_ := z2 (Kd.R_lower ho0 (below_size zB)) (zs hb); clear HB; obtain ⟨HO347, HB⟩ := n_; (try clear hb); (try clear ho0); obtain ⟨Ao12, co12, eo12⟩ := Kd.R_slice HO347.out; subst eo12) | ((with_reducible refine gate_callee (f := 9) rfl ?_); refine zG (some 14) Try.func9 #[.slice Ao12 t345.length co12] ?_; (with_reducible refine (spec_Tidy.calls k _ _ t345 t348 _ ?side1 ?side2 A6.out).mono ?_); (case side1 => repeat (first | exact (Kd.R_reads' HO347.out).2.2 | (with_reducible refine Kd.C_alloc ?_ _) | (with_reducible refine Kd.C_drewN ?_ _) | (with_reducible refine Kd.C_drew ?_))); (case side2 => exact (Kd.R_reads' HO347.out).2.1); rintro e w13 ⟨rfl, hb⟩; refine ⟨_, rfl, ?_⟩; have n_ := z2 (Kd.R_below (by (with_reducible repeat (first | apply Kd.R_alloc | apply Kd.R_drewN | apply Kd.R_drew)); exact HO347.out) hb) (zs hb); clear HO347 HB; obtain ⟨HO347, HB⟩ := n_; (try clear hb)) | ((with_reducible refine gate_callee (f := 10) rfl ?_); refine zG (some 16) Try.func10 #[.slice A0 l0.length c0] ?_; (with_reducible refine (laws_toRuleS.calls k _ _ l0 t349 _ (zR HR0) HC0.out A7.out).mono ?_); rintro e w14 ⟨v350, rfl, ho0, hb⟩; refine ⟨_, rfl, ?_⟩; have n_ := z3 (Kd.R_elder' (by (with_reducible repeat (first | apply Kd.R_alloc | apply Kd.R_drewN | apply Kd.R_drew)); exact HO347.out) (Kd.R_base ho0) hb) (Kd.R_lower (Kd.R_new' ho0 (Kd.R_lt (by (with_reducible repeat (first | apply Kd.R_alloc | apply Kd.R_drewN | apply Kd.R_drew)); exact HO347.out))) (below_size zB)) (zs hb); clear HO347 HB; obtain ⟨HO347, HO351, HB⟩ := n_; (try clear hb); (try clear ho0); obtain ⟨Ao15, co15, eo15⟩ := Kd.R_slice HO351.out; subst eo15) | ((with_reducible refine gate_callee (f := 11) rfl ?_); refine zG (some 18) Try.func11 #[.slice Ao15 t349.length co15] ?_; (with_reducible refine (impl_Tidy.calls k _ _ t349 t352 _ ?side1 ?side2 A8.out).mono ?_); (case side1 => repeat (first | exact (Kd.R_reads' HO351.out).2.2 | (with_reducible refine Kd.C_alloc ?_ _) | (with_reducible refine Kd.C_drewN ?_ _) | (with_reducible refine Kd.C_drew ?_))); (case side2 => exact (Kd.R_reads' HO351.out).2.1); rintro e w16 ⟨rfl, hb⟩; refine ⟨_, rfl, ?_⟩; have n_ := z3 (Kd.R_below (by (with_reducible repeat (first | apply Kd.R_alloc | apply Kd.R_drewN | apply Kd.R_drew)); exact HO347.out) hb) (Kd.R_below (by (with_reducible repeat (first | apply Kd.R_alloc | apply Kd.R_drewN | apply Kd.R_drew)); exact HO351.out) hb) (zs hb); clear HO347 HO351 HB; obtain ⟨HO347, HO351, HB⟩ := n_; (try clear hb)))
   go_ret
   exact ⟨zE, zB⟩
  ·have c9b0 : (t352 != t348) = false := by simpa using c9
   (try (have c9b1 : decide (t352 = t348) = true := by simpa using c9))
   (try (have c9b2 : (t352 == t348) = true := by simpa using c9))
   clear c9
   replace H := zO H; obtain ⟨t353, A17, H⟩ := H
   replace H := zO H; obtain ⟨t356, A18, H⟩ := H
   by_cases c19 : t356 = true
   ·subst c19; replace H := zT H
    obtain rfl := Option.some.inj H
    go_enter Try.func3, Try.ntmps3
    go_wp2_with (first | ((with_reducible refine gate_callee (f := 8) rfl ?_); refine zG (some 9) Try.func8 #[.slice A0 l0.length c0, .int .i64 1048576] ?_; (with_reducible refine (laws_szRuleS.calls k _ _ l0 1048576 t344 _ ?side1 ?side2 A2.out).mono ?_); (case side1 => repeat (first | exact HR0.out | (with_reducible refine Kd.C_alloc ?_ _) | (with_reducible refine Kd.C_drewN ?_ _) | (with_reducible refine Kd.C_drew ?_))); (case side2 => exact HC0.out); rintro e w20 ⟨rfl, hb⟩; refine ⟨_, rfl, ?_⟩; have n_ := Aside0.mk (zs hb); clear HB; have HB := n_; clear n_; (try clear hb)) | ((with_reducible refine gate_callee (f := 10) rfl ?_); refine zG (some 13) Try.func10 #[.slice A0 l0.length c0] ?_; (with_reducible refine (laws_toRuleS.calls k _ _ l0 t345 _ (zR HR0) HC0.out A5.out).mono ?_); rintro e w21 ⟨v346, rfl, ho0, hb⟩; refine ⟨_, rfl, ?_⟩; have n_ := z2 (Kd.R_lower ho0 (below_size zB)) (zs hb); clear HB; obtain ⟨HO347, HB⟩ := n_; (try clear hb); (try clear ho0); obtain ⟨Ao22, co22, eo22⟩ := Kd.R_slice HO347.out; subst eo22) | ((with_reducible refine gate_callee (f := 9) rfl ?_); refine zG (some 14) Try.func9 #[.slice Ao22 t345.length co22] ?_; (with_reducible refine (spec_Tidy.calls k _ _ t345 t348 _ ?side1 ?side2 A6.out).mono ?_); (case side1 => repeat (first | exact (Kd.R_reads' HO347.out).2.2 | (with_reducible refine Kd.C_alloc ?_ _) | (with_reducible refine Kd.C_drewN ?_ _) | (with_reducible refine Kd.C_drew ?_))); (case side2 => exact (Kd.R_reads' HO347.out).2.1); rintro e w23 ⟨rfl, hb⟩; refine ⟨_, rfl, ?_⟩; have n_ := z2 (Kd.R_below (by (with_reducible repeat (first | apply Kd.R_alloc | apply Kd.R_drewN | apply Kd.R_drew)); exact HO347.out) hb) (zs hb); clear HO347 HB; obtain ⟨HO347, HB⟩ := n_; (try clear hb)) | ((with_reducible refine gate_callee (f := 10) rfl ?_); refine zG (some 16) Try.func10 #[.slice A0 l0.length c0] ?_; (with_reducible refine (laws_toRuleS.calls k _ _ l0 t349 _ (zR HR0) HC0.out A7.out).mono ?_); rintro e w24 ⟨v350, rfl, ho0, hb⟩; refine ⟨_, rfl, ?_⟩; have n_ := z3 (Kd.R_elder' (by (with_reducible repeat (first | apply Kd.R_alloc | apply Kd.R_drewN | apply Kd.R_drew)); exact HO347.out) (Kd.R_base ho0) hb) (Kd.R_lower (Kd.R_new' ho0 (Kd.R_lt (by (with_reducible repeat (first | apply Kd.R_alloc | apply Kd.R_drewN | apply Kd.R_drew)); exact HO347.out))) (below_size zB)) (zs hb); clear HO347 HB; obtain ⟨HO347, HO351, HB⟩ := n_; (try clear hb); (try clear ho0); obtain ⟨Ao25, co25, eo25⟩ := Kd.R_slice HO351.out; subst eo25) | ((with_reducible refine gate_callee (f := 11) rfl ?_); refine zG (some 18) Try.func11 #[.slice Ao25 t349.length co25] ?_; (with_reducible refine (impl_Tidy.calls k _ _ t349 t352 _ ?side1 ?side2 A8.out).mono ?_); (case side1 => repeat (first | exact (Kd.R_reads' HO351.out).2.2 | (with_reducible refine Kd.C_alloc ?_ _) | (with_reducible refine Kd.C_drewN ?_ _) | (with_reducible refine Kd.C_drew ?_))); (case side2 => exact (Kd.R_reads' HO351.out).2.1); rintro e w26 ⟨rfl, hb⟩; refine ⟨_, rfl, ?_⟩; have n_ := z3 (Kd.R_below (by (with_reducible repeat (first | apply Kd.R_alloc | apply Kd.R_drewN | apply Kd.R_drew)); exact HO347.out) hb) (Kd.R_below (by (with_reducible repeat (first | apply Kd.R_alloc | apply Kd.R_drewN | apply Kd.R_drew)); exact HO351.out) hb) (zs hb); clear HO347 HO351 HB; obtain ⟨HO347, HO351, HB⟩ := n_; (try clear hb)) | ((with_reducible refine gate_callee (f := 10) rfl ?_); refine zG (some 24) Try.func10 #[.slice A0 l0.length c0] ?_; (with_reducible refine (laws_toRuleS.calls k _ _ l0 t353 _ (zR HR0) HC0.out A17.out).mono ?_); rintro e w27 ⟨v354, rfl, ho0, hb⟩; refine ⟨_, rfl, ?_⟩; have n_ := z4 (Kd.R_elder' (by (with_reducible repeat (first | apply Kd.R_alloc | apply Kd.R_drewN | apply Kd.R_drew)); exact HO347.out) (Kd.R_base ho0) hb) (Kd.R_elder' (by (with_reducible repeat (first | apply Kd.R_alloc | apply Kd.R_drewN | apply Kd.R_drew)); exact HO351.out) (Kd.R_base ho0) hb) (Kd.R_lower (Kd.R_new' (Kd.R_new' ho0 (Kd.R_lt (by (with_reducible repeat (first | apply Kd.R_alloc | apply Kd.R_drewN | apply Kd.R_drew)); exact HO347.out))) (Kd.R_lt (by (with_reducible repeat (first | apply Kd.R_alloc | apply Kd.R_drewN | apply Kd.R_drew)); exact HO351.out))) (below_size zB)) (zs hb); clear HO347 HO351 HB; obtain ⟨HO347, HO351, HO355, HB⟩ := n_; (try clear hb); (try clear ho0); obtain ⟨Ao28, co28, eo28⟩ := Kd.R_slice HO355.out; subst eo28) | ((with_reducible refine gate_callee (f := 12) rfl ?_); refine zG (some 25) Try.func12 #[.slice Ao25 t349.length co25, .slice Ao28 t353.length co28] ?_; (with_reducible refine (laws_eqRuleS.calls k _ _ t349 _ _ t353 true _ ?side1 ?side2 ?side3 ?side4 A18.out).mono ?_); (case side1 => repeat (first | exact (Kd.R_reads' HO351.out).2.2 | (with_reducible refine Kd.C_alloc ?_ _) | (with_reducible refine Kd.C_drewN ?_ _) | (with_reducible refine Kd.C_drew ?_))); (case side2 => exact (Kd.R_reads' HO351.out).2.1); (case side3 => repeat (first | exact (Kd.R_reads' HO355.out).2.2 | (with_reducible refine Kd.C_alloc ?_ _) | (with_reducible refine Kd.C_drewN ?_ _) | (with_reducible refine Kd.C_drew ?_))); (case side4 => exact (Kd.R_reads' HO355.out).2.1); rintro e w29 ⟨rfl, hb⟩; refine ⟨_, rfl, ?_⟩; have n_ := z4 (Kd.R_below (by (with_reducible repeat (first | apply Kd.R_alloc | apply Kd.R_drewN | apply Kd.R_drew)); exact HO347.out) hb) (Kd.R_below (by (with_reducible repeat (first | apply Kd.R_alloc | apply Kd.R_drewN | apply Kd.R_drew)); exact HO351.out) hb) (Kd.R_below (by (with_reducible repeat (first | apply Kd.R_alloc | apply Kd.R_drewN | apply Kd.R_drew)); exact HO355.out) hb) (zs hb); clear HO347 HO351 HO355 HB; obtain ⟨HO347, HO351, HO355, HB⟩ := n_; (try clear hb)))
    go_ret
    exact ⟨zE, zB⟩
   ·replace c19 := Bool.eq_false_iff.mpr c19; subst c19; replace H := zN H
    obtain rfl := Option.some.inj H
    go_enter Try.func3, Try.ntmps3
    go_wp2_with (first | ((with_reducible refine gate_callee (f := 8) rfl ?_); refine zG (some 9) Try.func8 #[.slice A0 l0.length c0, .int .i64 1048576] ?_; (with_reducible refine (laws_szRuleS.calls k _ _ l0 1048576 t344 _ ?side1 ?side2 A2.out).mono ?_); (case side1 => repeat (first | exact HR0.out | (with_reducible refine Kd.C_alloc ?_ _) | (with_reducible refine Kd.C_drewN ?_ _) | (with_reducible refine Kd.C_drew ?_))); (case side2 => exact HC0.out); rintro e w30 ⟨rfl, hb⟩; refine ⟨_, rfl, ?_⟩; have n_ := Aside0.mk (zs hb); clear HB; have HB := n_; clear n_; (try clear hb)) | ((with_reducible refine gate_callee (f := 10) rfl ?_); refine zG (some 13) Try.func10 #[.slice A0 l0.length c0] ?_; (with_reducible refine (laws_toRuleS.calls k _ _ l0 t345 _ (zR HR0) HC0.out A5.out).mono ?_); rintro e w31 ⟨v346, rfl, ho0, hb⟩; refine ⟨_, rfl, ?_⟩; have n_ := z2 (Kd.R_lower ho0 (below_size zB)) (zs hb); clear HB; obtain ⟨HO347, HB⟩ := n_; (try clear hb); (try clear ho0); obtain ⟨Ao32, co32, eo32⟩ := Kd.R_slice HO347.out; subst eo32) | ((with_reducible refine gate_callee (f := 9) rfl ?_); refine zG (some 14) Try.func9 #[.slice Ao32 t345.length co32] ?_; (with_reducible refine (spec_Tidy.calls k _ _ t345 t348 _ ?side1 ?side2 A6.out).mono ?_); (case side1 => repeat (first | exact (Kd.R_reads' HO347.out).2.2 | (with_reducible refine Kd.C_alloc ?_ _) | (with_reducible refine Kd.C_drewN ?_ _) | (with_reducible refine Kd.C_drew ?_))); (case side2 => exact (Kd.R_reads' HO347.out).2.1); rintro e w33 ⟨rfl, hb⟩; refine ⟨_, rfl, ?_⟩; have n_ := z2 (Kd.R_below (by (with_reducible repeat (first | apply Kd.R_alloc | apply Kd.R_drewN | apply Kd.R_drew)); exact HO347.out) hb) (zs hb); clear HO347 HB; obtain ⟨HO347, HB⟩ := n_; (try clear hb)) | ((with_reducible refine gate_callee (f := 10) rfl ?_); refine zG (some 16) Try.func10 #[.slice A0 l0.length c0] ?_; (with_reducible refine (laws_toRuleS.calls k _ _ l0 t349 _ (zR HR0) HC0.out A7.out).mono ?_); rintro e w34 ⟨v350, rfl, ho0, hb⟩; refine ⟨_, rfl, ?_⟩; have n_ := z3 (Kd.R_elder' (by (with_reducible repeat (first | apply Kd.R_alloc | apply Kd.R_drewN | apply Kd.R_drew)); exact HO347.out) (Kd.R_base ho0) hb) (Kd.R_lower (Kd.R_new' ho0 (Kd.R_lt (by (with_reducible repeat (first | apply Kd.R_alloc | apply Kd.R_drewN | apply Kd.R_drew)); exact HO347.out))) (below_size zB)) (zs hb); clear HO347 HB; obtain ⟨HO347, HO351, HB⟩ := n_; (try clear hb); (try clear ho0); obtain ⟨Ao35, co35, eo35⟩ := Kd.R_slice HO351.out; subst eo35) | ((with_reducible refine gate_callee (f := 11) rfl ?_); refine zG (some 18) Try.func11 #[.slice Ao35 t349.length co35] ?_; (with_reducible refine (impl_Tidy.calls k _ _ t349 t352 _ ?side1 ?side2 A8.out).mono ?_); (case side1 => repeat (first | exact (Kd.R_reads' HO351.out).2.2 | (with_reducible refine Kd.C_alloc ?_ _) | (with_reducible refine Kd.C_drewN ?_ _) | (with_reducible refine Kd.C_drew ?_))); (case side2 => exact (Kd.R_reads' HO351.out).2.1); rintro e w36 ⟨rfl, hb⟩; refine ⟨_, rfl, ?_⟩; have n_ := z3 (Kd.R_below (by (with_reducible repeat (first | apply Kd.R_alloc | apply Kd.R_drewN | apply Kd.R_drew)); exact HO347.out) hb) (Kd.R_below (by (with_reducible repeat (first | apply Kd.R_alloc | apply Kd.R_drewN | apply Kd.R_drew)); exact HO351.out) hb) (zs hb); clear HO347 HO351 HB; obtain ⟨HO347, HO351, HB⟩ := n_; (try clear hb)) | ((with_reducible refine gate_callee (f := 10) rfl ?_); refine zG (some 24) Try.func10 #[.slice A0 l0.length c0] ?_; (with_reducible refine (laws_toRuleS.calls k _ _ l0 t353 _ (zR HR0) HC0.out A17.out).mono ?_); rintro e w37 ⟨v354, rfl, ho0, hb⟩; refine ⟨_, rfl, ?_⟩; have n_ := z4 (Kd.R_elder' (by (with_reducible repeat (first | apply Kd.R_alloc | apply Kd.R_drewN | apply Kd.R_drew)); exact HO347.out) (Kd.R_base ho0) hb) (Kd.R_elder' (by (with_reducible repeat (first | apply Kd.R_alloc | apply Kd.R_drewN | apply Kd.R_drew)); exact HO351.out) (Kd.R_base ho0) hb) (Kd.R_lower (Kd.R_new' (Kd.R_new' ho0 (Kd.R_lt (by (with_reducible repeat (first | apply Kd.R_alloc | apply Kd.R_drewN | apply Kd.R_drew)); exact HO347.out))) (Kd.R_lt (by (with_reducible repeat (first | apply Kd.R_alloc | apply Kd.R_drewN | apply Kd.R_drew)); exact HO351.out))) (below_size zB)) (zs hb); clear HO347 HO351 HB; obtain ⟨HO347, HO351, HO355, HB⟩ := n_; (try clear hb); (try clear ho0); obtain ⟨Ao38, co38, eo38⟩ := Kd.R_slice HO355.out; subst eo38) | ((with_reducible refine gate_callee (f := 12) rfl ?_); refine zG (some 25) Try.func12 #[.slice Ao35 t349.length co35, .slice Ao38 t353.length co38] ?_; (with_reducible refine (laws_eqRuleS.calls k _ _ t349 _ _ t353 false _ ?side1 ?side2 ?side3 ?side4 A18.out).mono ?_); (case side1 => repeat (first | exact (Kd.R_reads' HO351.out).2.2 | (with_reducible refine Kd.C_alloc ?_ _) | (with_reducible refine Kd.C_drewN ?_ _) | (with_reducible refine Kd.C_drew ?_))); (case side2 => exact (Kd.R_reads' HO351.out).2.1); (case side3 => repeat (first | exact (Kd.R_reads' HO355.out).2.2 | (with_reducible refine Kd.C_alloc ?_ _) | (with_reducible refine Kd.C_drewN ?_ _) | (with_reducible refine Kd.C_drew ?_))); (case side4 => exact (Kd.R_reads' HO355.out).2.1); rintro e w39 ⟨rfl, hb⟩; refine ⟨_, rfl, ?_⟩; have n_ := z4 (Kd.R_below (by (with_reducible repeat (first | apply Kd.R_alloc | apply Kd.R_drewN | apply Kd.R_drew)); exact HO347.out) hb) (Kd.R_below (by (with_reducible repeat (first | apply Kd.R_alloc | apply Kd.R_drewN | apply Kd.R_drew)); exact HO351.out) hb) (Kd.R_below (by (with_reducible repeat (first | apply Kd.R_alloc | apply Kd.R_drewN | apply Kd.R_drew)); exact HO355.out) hb) (zs hb); clear HO347 HO351 HO355 HB; obtain ⟨HO347, HO351, HO355, HB⟩ := n_; (try clear hb)))
    go_ret
    exact ⟨zE, zB⟩

end Go.Proofs.Ythigelphmjepaaa.QFnExactTidy
