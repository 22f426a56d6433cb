/- Written by wip/pr2, a program of this session. -/
import Derived.Test.YtgdhiccjllpogaaQFnSumsx0
import Derived.Test.YtgdhiccjllpogaaQFnSumsx1
import Derived.Test.YtgdhiccjllpogaaQFnSumsx2
import Derived.Test.YtgdhiccjllpogaaQFnSumsx4
import Derived.Test.YtgdhiccjllpogaaQFnSumsx5
import Derived.Test.YtgdhiccjllpogaaQFnSumsx6
namespace Go.Proofs.Ytgdhiccjllpogaa.QFnSums
open Go.RowKit Go.Proofs.YtgdhiccjllpogaaW.PrintWords Go.Proofs.YtgdhiccjllpogaaW.PrintLast Go.Proofs.YtgdhiccjllpogaaW.PrintMore
attribute [local go_sem] max2_int min2_int max_two min_two max_three min_three max_four min_four   -- for this text's walks alone
set_option linter.unusedVariables false
set_option linter.unusedSimpArgs false
set_option maxHeartbeats 8000000

/-! ### laws_FnSums: function 8 -/
set_option maxHeartbeats 8000000 in
set_option maxRecDepth 100000 in
theorem laws_FnSums.calls (k : Nat) (A0 : Option Addr) (c0 : Nat) (l0 : List Int) (r : Bool) (w : World) (hr0 : Kd.C (Kd.int .u8) w A0 l0.length l0) (hc0 : l0.length ≤ c0) (h : laws_FnSums.f k l0 = some r) :
    Calls Try.prog 8 #[.slice A0 l0.length c0] w fun e w' => e = .returned (.bool r) ∧ Below w.heap.size w w' := by
  have HR0 := Aside0.mk hr0
  have HC0 := Aside0.mk hc0
  clear hr0 hc0
  have HB := Aside0.mk (Below.refl w.heap.size w)
  have H : ((laws_big.f l0).bind fun t245 => (if t245 = true then (some true) else ((spec_DrawDecAdd.f k l0).bind fun bt246 => ((impl_DecAdd.f bt246.1 bt246.2).bind fun bt248 => ((spec_DecAdd.f bt246.1 bt246.2).bind fun bt250 => (if (bt248.2 != bt250.2) = true then (laws_FnSums.j0 k l0 bt246.1 bt246.2 bt248.1 bt248.2 true) else (laws_FnSums.j0 k l0 bt246.1 bt246.2 bt248.1 bt248.2 (bt248.1 != bt250.1)))))))) = some r := h
  clear h
  replace H := Option.bind_eq_some_iff.mp H
  obtain ⟨t245, A20, H⟩ := H
  replace H : (if t245 = true then (some true) else ((spec_DrawDecAdd.f k l0).bind fun bt246 => ((impl_DecAdd.f bt246.1 bt246.2).bind fun bt248 => ((spec_DecAdd.f bt246.1 bt246.2).bind fun bt250 => (if (bt248.2 != bt250.2) = true then (laws_FnSums.j0 k l0 bt246.1 bt246.2 bt248.1 bt248.2 true) else (laws_FnSums.j0 k l0 bt246.1 bt246.2 bt248.1 bt248.2 (bt248.1 != bt250.1))))))) = some r := H
  have A2 := Aside0.mk A20
  clear A20
  by_cases c3 : t245 = true
  · subst c3
    have H1 : (some true) = some r := by rw [if_pos rfl] at H; exact H
    clear H
    have H := H1
    clear H1
    as_aux_lemma =>
      obtain rfl := Option.some.inj H
      go_enter Try.func8, Try.ntmps8
      go_wp2_with (first | ((with_reducible refine gate_callee (f := 34) rfl ?_); refine goesL_ (some 36) rfl rfl Try.func34 (by as_aux_lemma => kernel_rfl) rfl #[.slice A0 l0.length c0] rfl (by (try simp only [List.map_toArray, List.map_cons, List.map_nil]); first | done | rfl | (simp only [List.length_drop, List.length_take]; rfl)) ?_; (with_reducible refine (laws_big.calls _ _ l0 true _ ?side1 ?side2 A2.out).mono ?_); (case side1 => repeat (first | exact HR0.out | (with_reducible refine Kd.C_alloc ?_ _) | (with_reducible refine Kd.C_drewN ?_ _) | (with_reducible refine Kd.C_drew ?_))); (case side2 => exact HC0.out); rintro e w' ⟨rfl, ⟨nd, rfl⟩⟩; refine ⟨_, rfl, ?_⟩))
      go_ret
      exact ⟨by first | rfl | (simp [errW_none, errW_some] <;> rfl) | (simp [*, errW_none, errW_some] <;> rfl) | (simp [bne, errW_none, errW_some]; done) | (simp [*, bne, errW_none, errW_some]; done) | (rw [EA56.out] <;> rfl) | (rw [EA59.out] <;> rfl), by repeat (first | (with_reducible first | exact HB.out | apply below_alloc | apply pw_below_drewN | apply below_drew1) | exact HB.out)⟩
  · replace c3 := Bool.eq_false_iff.mpr c3
    subst c3
    have H1 : ((spec_DrawDecAdd.f k l0).bind fun bt246 => ((impl_DecAdd.f bt246.1 bt246.2).bind fun bt248 => ((spec_DecAdd.f bt246.1 bt246.2).bind fun bt250 => (if (bt248.2 != bt250.2) = true then (laws_FnSums.j0 k l0 bt246.1 bt246.2 bt248.1 bt248.2 true) else (laws_FnSums.j0 k l0 bt246.1 bt246.2 bt248.1 bt248.2 (bt248.1 != bt250.1)))))) = some r := by rw [if_neg (show ¬ (false = true) by decide)] at H; exact H
    clear H
    have H := H1
    clear H1
    replace H := Option.bind_eq_some_iff.mp H
    obtain ⟨⟨t246, t247⟩, A40, H⟩ := H
    replace H : ((impl_DecAdd.f t246 t247).bind fun bt248 => ((spec_DecAdd.f t246 t247).bind fun bt250 => (if (bt248.2 != bt250.2) = true then (laws_FnSums.j0 k l0 t246 t247 bt248.1 bt248.2 true) else (laws_FnSums.j0 k l0 t246 t247 bt248.1 bt248.2 (bt248.1 != bt250.1))))) = some r := H
    have A4 := Aside0.mk A40
    clear A40
    replace H := Option.bind_eq_some_iff.mp H
    obtain ⟨⟨t248, t249⟩, A50, H⟩ := H
    replace H : ((spec_DecAdd.f t246 t247).bind fun bt250 => (if (t249 != bt250.2) = true then (laws_FnSums.j0 k l0 t246 t247 t248 t249 true) else (laws_FnSums.j0 k l0 t246 t247 t248 t249 (t248 != bt250.1)))) = some r := H
    have A5 := Aside0.mk A50
    clear A50
    replace H := Option.bind_eq_some_iff.mp H
    obtain ⟨⟨t250, t251⟩, A60, H⟩ := H
    replace H : (if (t249 != t251) = true then (laws_FnSums.j0 k l0 t246 t247 t248 t249 true) else (laws_FnSums.j0 k l0 t246 t247 t248 t249 (t248 != t250))) = some r := H
    have A6 := Aside0.mk A60
    clear A60
    have HC7 := Aside0.mk H
    clear H
    go_enter Try.func8, Try.ntmps8
    go_upto_region 6 with (first | ((with_reducible refine gate_callee (f := 34) rfl ?_); refine goesL_ (some 36) rfl rfl Try.func34 (by as_aux_lemma => kernel_rfl) rfl #[.slice A0 l0.length c0] rfl (by (try simp only [List.map_toArray, List.map_cons, List.map_nil]); first | done | rfl | (simp only [List.length_drop, List.length_take]; rfl)) ?_; (with_reducible refine (laws_big.calls _ _ l0 false _ ?side1 ?side2 A2.out).mono ?_); (case side1 => repeat (first | exact HR0.out | (with_reducible refine Kd.C_alloc ?_ _) | (with_reducible refine Kd.C_drewN ?_ _) | (with_reducible refine Kd.C_drew ?_))); (case side2 => exact HC0.out); rintro e w' ⟨rfl, ⟨nd, rfl⟩⟩; refine ⟨_, rfl, ?_⟩) | ((with_reducible refine gate_callee (f := 35) rfl ?_); refine goesL_ (some 39) rfl rfl Try.func35 (by as_aux_lemma => kernel_rfl) rfl #[.slice A0 l0.length c0] rfl (by (try simp only [List.map_toArray, List.map_cons, List.map_nil]); first | done | rfl | (simp only [List.length_drop, List.length_take]; rfl)) ?_; (with_reducible refine (spec_DrawDecAdd.calls k _ _ l0 t246 t247 _ ?side1 ?side2 A4.out).mono ?_); (case side1 => repeat (first | exact HR0.out | (with_reducible refine Kd.C_alloc ?_ _) | (with_reducible refine Kd.C_drewN ?_ _) | (with_reducible refine Kd.C_drew ?_))); (case side2 => exact HC0.out); rintro e w8 ⟨rfl, hb⟩; refine ⟨_, rfl, ?_⟩; have n0_ := Aside0.mk (below_step (by repeat (first | (with_reducible first | exact HB.out | apply below_alloc | apply pw_below_drewN | apply below_drew1) | exact HB.out)) hb); clear HB; have HB := n0_; clear n0_; (try clear hb); (try clear hb2); (try clear hk); (try clear hi)) | ((with_reducible refine gate_callee (f := 36) rfl ?_); refine goesL_ (some 45) rfl rfl Try.func36 (by as_aux_lemma => kernel_rfl) rfl #[.int .i64 t246, .int .i64 t247] rfl (by (try simp only [List.map_toArray, List.map_cons, List.map_nil]); first | done | rfl | (simp only [List.length_drop, List.length_take]; rfl)) ?_; (with_reducible refine (impl_DecAdd.calls t246 t247 t248 t249 _ A5.out).mono ?_); rintro e w' ⟨rfl, ⟨nd, rfl⟩⟩; refine ⟨_, rfl, ?_⟩) | ((with_reducible refine gate_callee (f := 37) rfl ?_); refine goesL_ (some 51) rfl rfl Try.func37 (by as_aux_lemma => kernel_rfl) rfl #[.int .i64 t246, .int .i64 t247] rfl (by (try simp only [List.map_toArray, List.map_cons, List.map_nil]); first | done | rfl | (simp only [List.length_drop, List.length_take]; rfl)) ?_; (with_reducible refine (spec_DecAdd.calls t246 t247 t250 t251 _ A6.out).mono ?_); rintro e w' ⟨rfl, ⟨nd, rfl⟩⟩; refine ⟨_, rfl, ?_⟩))
    (try simp only [Act.put, List.setIfInBounds_toArray, List.set_cons_zero, List.set_cons_succ])
    go_cut [61] (fun v61 wc => ∃ (kq : Nat) (x61_6 : Bool), v61 = .bool x61_6 ∧ Aside0 (laws_FnSums.j0 kq l0 t246 t247 t248 t249 x61_6 = some r) ∧ Aside0 (kq ≤ k) ∧ Aside0 (Below w.heap.size w wc))
    case first =>
      have H := HC7.out
      clear HC7
      by_cases c9 : (t249 != t251) = true
      · rw [if_pos c9] at H
        have c9b0 : (t249 != t251) = true := c9
        (try (have c9b1 : decide (t249 = t251) = false := by simpa using c9))
        (try (have c9b2 : (t249 == t251) = false := by simpa using c9))
        (try (have c9b3 : ¬ (t249 = t251) := by simpa using c9))
        clear c9
        (first | rw [c9b0] | (simp only [i64_w, i32_w]; rw [c9b0]) | skip)
        as_aux_lemma =>
          have H' := Aside0.mk H
          clear H
          go_wp2
          go_meet
          case rel => exact ⟨_, (true), (by first | rfl | (simp; done) | (simp [*]; done) | (simp [Int.tdiv_eq_ediv_of_nonneg]; done)), H', ⟨by first | omega | exact Nat.le_refl _⟩, ⟨by repeat (first | (with_reducible first | exact HB.out | apply below_alloc | apply pw_below_drewN | apply below_drew1) | exact HB.out)⟩⟩
      · rw [if_neg c9] at H
        have c9b0 : (t249 != t251) = false := by simpa using c9
        (try (have c9b1 : decide (t249 = t251) = true := by simpa using c9))
        (try (have c9b2 : (t249 == t251) = true := by simpa using c9))
        clear c9
        (first | rw [c9b0] | (simp only [i64_w, i32_w]; rw [c9b0]) | skip)
        as_aux_lemma =>
          have H' := Aside0.mk H
          clear H
          go_wp2
          go_meet
          case rel => exact ⟨_, ((t248 != t250)), (by first | rfl | (simp; done) | (simp [*]; done) | (simp [Int.tdiv_eq_ediv_of_nonneg]; done)), H', ⟨by first | omega | exact Nat.le_refl _⟩, ⟨by repeat (first | (with_reducible first | exact HB.out | apply below_alloc | apply pw_below_drewN | apply below_drew1) | exact HB.out)⟩⟩
    case rest =>
      clear HC7
      try clear p2
      try clear c3
      try clear c8
      try clear c9
      try clear c9b0
      try clear c9b1
      try clear c9b2
      obtain ⟨kq, x61_6, rfl, HA, HJ6, HB⟩ := hcut
      cases kq with
      | zero => exact absurd HA.out (by simp [laws_FnSums.j0])
      | succ kj6 =>
        have H := HA.out
        clear HA
        simp only [laws_FnSums.j0] at H
        by_cases c10 : x61_6 = true
        · subst c10
          have H1 : (some false) = some r := by rw [if_pos rfl] at H; exact H
          clear H
          have H := H1
          clear H1
          as_aux_lemma =>
            obtain rfl := Option.some.inj H
            go_wp2
            go_ret
            exact ⟨by first | rfl | (simp [errW_none, errW_some] <;> rfl) | (simp [*, errW_none, errW_some] <;> rfl) | (simp [bne, errW_none, errW_some]; done) | (simp [*, bne, errW_none, errW_some]; done) | (rw [EA56.out] <;> rfl) | (rw [EA59.out] <;> rfl), by repeat (first | (with_reducible first | exact HB.out | apply below_alloc | apply pw_below_drewN | apply below_drew1) | exact HB.out)⟩
        · replace c10 := Bool.eq_false_iff.mpr c10
          subst c10
          have H1 : (if t249 = true then ((impl_DecSub.f t248 t247).bind fun bt252 => (if bt252.2 = true then (if bt252.1 = t246 then (laws_FnSums.j1 kj6 l0 t246) else (some false)) else (some false))) else (laws_FnSums.j1 kj6 l0 t246)) = some r := by rw [if_neg (show ¬ (false = true) by decide)] at H; exact H
          clear H
          have H := H1
          clear H1
          have HC11 := Aside0.mk H
          clear H
          go_upto_if 62 with (fail)
          go_cut [] (fun wc => ∃ (kq : Nat), Aside0 (laws_FnSums.j1 kq l0 t246 = some r) ∧ Aside0 (kq ≤ kj6) ∧ Aside0 (Below w.heap.size w wc))
          case first =>
            have H := HC11.out
            clear HC11
            by_cases c12 : t249 = true
            · subst c12
              have H1 : ((impl_DecSub.f t248 t247).bind fun bt252 => (if bt252.2 = true then (if bt252.1 = t246 then (laws_FnSums.j1 kj6 l0 t246) else (some false)) else (some false))) = some r := by rw [if_pos rfl] at H; exact H
              clear H
              have H := H1
              clear H1
              replace H := Option.bind_eq_some_iff.mp H
              obtain ⟨⟨t252, t253⟩, A130, H⟩ := H
              replace H : (if t253 = true then (if t252 = t246 then (laws_FnSums.j1 kj6 l0 t246) else (some false)) else (some false)) = some r := H
              have A13 := Aside0.mk A130
              clear A130
              by_cases c14 : t253 = true
              · subst c14
                have H1 : (if t252 = t246 then (laws_FnSums.j1 kj6 l0 t246) else (some false)) = some r := by rw [if_pos rfl] at H; exact H
                clear H
                have H := H1
                clear H1
                by_cases c15 : t252 = t246
                · rw [if_pos c15] at H
                  have c15b0 : (t252 == t246) = true := beq_iff_eq.mpr c15
                  have c15b1 : (t252 != t246) = false := bne_eq_false_iff_eq.mpr c15
                  clear c15
                  (first | rw [c15b0] | (simp only [i64_w, i32_w]; rw [c15b0]) | skip)
                  as_aux_lemma =>
                    have H' := Aside0.mk H
                    clear H
                    go_wp2_with (first | ((with_reducible refine gate_callee (f := 38) rfl ?_); refine goesL_ (some 66) rfl rfl Try.func38 (by as_aux_lemma => kernel_rfl) rfl #[.int .i64 t248, .int .i64 t247] rfl (by (try simp only [List.map_toArray, List.map_cons, List.map_nil]); first | done | rfl | (simp only [List.length_drop, List.length_take]; rfl)) ?_; (with_reducible refine (impl_DecSub.calls t248 t247 t252 true _ A13.out).mono ?_); rintro e w' ⟨rfl, ⟨nd, rfl⟩⟩; refine ⟨_, rfl, ?_⟩))
                    go_meet
                    case rel => exact ⟨_, H', ⟨by have := HJ6.out; first | omega | exact Nat.le_refl _⟩, ⟨by repeat (first | (with_reducible first | exact HB.out | apply below_alloc | apply pw_below_drewN | apply below_drew1) | exact HB.out)⟩⟩
                · rw [if_neg c15] at H
                  have c15b0 : (t252 == t246) = false := beq_eq_false_iff_ne.mpr c15
                  have c15b1 : (t252 != t246) = true := bne_iff_ne.mpr c15
                  (first | rw [c15b0] | (simp only [i64_w, i32_w]; rw [c15b0]) | skip)
                  as_aux_lemma =>
                    obtain rfl := Option.some.inj H
                    go_wp2_with (first | ((with_reducible refine gate_callee (f := 38) rfl ?_); refine goesL_ (some 66) rfl rfl Try.func38 (by as_aux_lemma => kernel_rfl) rfl #[.int .i64 t248, .int .i64 t247] rfl (by (try simp only [List.map_toArray, List.map_cons, List.map_nil]); first | done | rfl | (simp only [List.length_drop, List.length_take]; rfl)) ?_; (with_reducible refine (impl_DecSub.calls t248 t247 t252 true _ A13.out).mono ?_); rintro e w' ⟨rfl, ⟨nd, rfl⟩⟩; refine ⟨_, rfl, ?_⟩))
                    go_ret
                    exact ⟨by first | rfl | (simp [errW_none, errW_some] <;> rfl) | (simp [*, errW_none, errW_some] <;> rfl) | (simp [bne, errW_none, errW_some]; done) | (simp [*, bne, errW_none, errW_some]; done) | (rw [EA56.out] <;> rfl) | (rw [EA59.out] <;> rfl), by repeat (first | (with_reducible first | exact HB.out | apply below_alloc | apply pw_below_drewN | apply below_drew1) | exact HB.out)⟩
              · replace c14 := Bool.eq_false_iff.mpr c14
                subst c14
                have H1 : (some false) = some r := by rw [if_neg (show ¬ (false = true) by decide)] at H; exact H
                clear H
                have H := H1
                clear H1
                as_aux_lemma =>
                  obtain rfl := Option.some.inj H
                  go_wp2_with (first | ((with_reducible refine gate_callee (f := 38) rfl ?_); refine goesL_ (some 66) rfl rfl Try.func38 (by as_aux_lemma => kernel_rfl) rfl #[.int .i64 t248, .int .i64 t247] rfl (by (try simp only [List.map_toArray, List.map_cons, List.map_nil]); first | done | rfl | (simp only [List.length_drop, List.length_take]; rfl)) ?_; (with_reducible refine (impl_DecSub.calls t248 t247 t252 false _ A13.out).mono ?_); rintro e w' ⟨rfl, ⟨nd, rfl⟩⟩; refine ⟨_, rfl, ?_⟩))
                  go_ret
                  exact ⟨by first | rfl | (simp [errW_none, errW_some] <;> rfl) | (simp [*, errW_none, errW_some] <;> rfl) | (simp [bne, errW_none, errW_some]; done) | (simp [*, bne, errW_none, errW_some]; done) | (rw [EA56.out] <;> rfl) | (rw [EA59.out] <;> rfl), by repeat (first | (with_reducible first | exact HB.out | apply below_alloc | apply pw_below_drewN | apply below_drew1) | exact HB.out)⟩
            · replace c12 := Bool.eq_false_iff.mpr c12
              subst c12
              have H1 : (laws_FnSums.j1 kj6 l0 t246) = some r := by rw [if_neg (show ¬ (false = true) by decide)] at H; exact H
              clear H
              have H := H1
              clear H1
              as_aux_lemma =>
                have H' := Aside0.mk H
                clear H
                go_wp2
                go_meet
                case rel => exact ⟨_, H', ⟨by have := HJ6.out; first | omega | exact Nat.le_refl _⟩, ⟨by repeat (first | (with_reducible first | exact HB.out | apply below_alloc | apply pw_below_drewN | apply below_drew1) | exact HB.out)⟩⟩
          case rest =>
            clear HC11
            try clear c1
            try clear p2
            try clear c3
            try clear c8
            try clear c9
            try clear c9b0
            try clear c9b1
            try clear c9b2
            try clear c10
            try clear c12
            try clear c14
            try clear c15
            try clear c15b0
            try clear c15b1
            try clear p2
            obtain ⟨kq, HA, HJ10, HB⟩ := hcut
            cases kq with
            | zero => exact absurd HA.out (by simp [laws_FnSums.j1])
            | succ kj10 =>
              have H := HA.out
              clear HA
              simp only [laws_FnSums.j1] at H
              replace H := Option.bind_eq_some_iff.mp H
              obtain ⟨⟨t254, t255⟩, A160, H⟩ := H
              replace H : ((impl_DecMul.f kj10 t254 t255).bind fun bt256 => ((impl_DecMul.f kj10 t255 t254).bind fun bt258 => ((spec_DecMul.f kj10 t254 t255).bind fun bt260 => (if (bt256.2 != bt258.2) = true then (laws_FnSums.j2 kj10 l0 t246 true) else (if (bt256.2 != bt260.2) = true then (laws_FnSums.j2 kj10 l0 t246 true) else (if bt256.1 = bt258.1 then (laws_FnSums.j2 kj10 l0 t246 (bt256.1 != bt260.1)) else (laws_FnSums.j2 kj10 l0 t246 true))))))) = some r := H
              have A16 := Aside0.mk A160
              clear A160
              replace H := Option.bind_eq_some_iff.mp H
              obtain ⟨⟨t256, t257⟩, A170, H⟩ := H
              replace H : ((impl_DecMul.f kj10 t255 t254).bind fun bt258 => ((spec_DecMul.f kj10 t254 t255).bind fun bt260 => (if (t257 != bt258.2) = true then (laws_FnSums.j2 kj10 l0 t246 true) else (if (t257 != bt260.2) = true then (laws_FnSums.j2 kj10 l0 t246 true) else (if t256 = bt258.1 then (laws_FnSums.j2 kj10 l0 t246 (t256 != bt260.1)) else (laws_FnSums.j2 kj10 l0 t246 true)))))) = some r := H
              have A17 := Aside0.mk A170
              clear A170
              replace H := Option.bind_eq_some_iff.mp H
              obtain ⟨⟨t258, t259⟩, A180, H⟩ := H
              replace H : ((spec_DecMul.f kj10 t254 t255).bind fun bt260 => (if (t257 != t259) = true then (laws_FnSums.j2 kj10 l0 t246 true) else (if (t257 != bt260.2) = true then (laws_FnSums.j2 kj10 l0 t246 true) else (if t256 = t258 then (laws_FnSums.j2 kj10 l0 t246 (t256 != bt260.1)) else (laws_FnSums.j2 kj10 l0 t246 true))))) = some r := H
              have A18 := Aside0.mk A180
              clear A180
              replace H := Option.bind_eq_some_iff.mp H
              obtain ⟨⟨t260, t261⟩, A190, H⟩ := H
              replace H : (if (t257 != t259) = true then (laws_FnSums.j2 kj10 l0 t246 true) else (if (t257 != t261) = true then (laws_FnSums.j2 kj10 l0 t246 true) else (if t256 = t258 then (laws_FnSums.j2 kj10 l0 t246 (t256 != t260)) else (laws_FnSums.j2 kj10 l0 t246 true)))) = some r := H
              have A19 := Aside0.mk A190
              clear A190
              have HC20 := Aside0.mk H
              clear H
              go_upto_region 16 with (first | ((with_reducible refine gate_callee (f := 39) rfl ?_); refine goesL_ (some 78) rfl rfl Try.func39 (by as_aux_lemma => kernel_rfl) rfl #[.slice A0 l0.length c0] rfl (by (try simp only [List.map_toArray, List.map_cons, List.map_nil]); first | done | rfl | (simp only [List.length_drop, List.length_take]; rfl)) ?_; (with_reducible refine (spec_DrawDecMul.calls kj10 _ _ l0 t254 t255 _ ?side1 ?side2 A16.out).mono ?_); (case side1 => repeat (first | exact (Kd.C_below HR0.out HB.out) | (with_reducible refine Kd.C_alloc ?_ _) | (with_reducible refine Kd.C_drewN ?_ _) | (with_reducible refine Kd.C_drew ?_))); (case side2 => exact HC0.out); rintro e w21 ⟨rfl, hb⟩; refine ⟨_, rfl, ?_⟩; have n0_ := Aside0.mk (below_step (by repeat (first | (with_reducible first | exact HB.out | apply below_alloc | apply pw_below_drewN | apply below_drew1) | exact HB.out)) hb); clear HB; have HB := n0_; clear n0_; (try clear hb); (try clear hb2); (try clear hk); (try clear hi)) | ((with_reducible refine gate_callee (f := 19) rfl ?_); refine goesL_ (some 84) rfl rfl Try.func19 (by as_aux_lemma => kernel_rfl) rfl #[.int .i64 t254, .int .i64 t255] rfl (by (try simp only [List.map_toArray, List.map_cons, List.map_nil]); first | done | rfl | (simp only [List.length_drop, List.length_take]; rfl)) ?_; (with_reducible refine (impl_DecMul.calls kj10 t254 t255 t256 t257 _ A17.out).mono ?_); rintro e w' ⟨rfl, ⟨nd, rfl⟩⟩; refine ⟨_, rfl, ?_⟩) | ((with_reducible refine gate_callee (f := 19) rfl ?_); refine goesL_ (some 90) rfl rfl Try.func19 (by as_aux_lemma => kernel_rfl) rfl #[.int .i64 t255, .int .i64 t254] rfl (by (try simp only [List.map_toArray, List.map_cons, List.map_nil]); first | done | rfl | (simp only [List.length_drop, List.length_take]; rfl)) ?_; (with_reducible refine (impl_DecMul.calls kj10 t255 t254 t258 t259 _ A18.out).mono ?_); rintro e w' ⟨rfl, ⟨nd, rfl⟩⟩; refine ⟨_, rfl, ?_⟩) | ((with_reducible refine gate_callee (f := 18) rfl ?_); refine goesL_ (some 96) rfl rfl Try.func18 (by as_aux_lemma => kernel_rfl) rfl #[.int .i64 t254, .int .i64 t255] rfl (by (try simp only [List.map_toArray, List.map_cons, List.map_nil]); first | done | rfl | (simp only [List.length_drop, List.length_take]; rfl)) ?_; (with_reducible refine (spec_DecMul.calls kj10 t254 t255 t260 t261 _ A19.out).mono ?_); rintro e w' ⟨rfl, ⟨nd, rfl⟩⟩; refine ⟨_, rfl, ?_⟩))
              (try simp only [Act.put, List.setIfInBounds_toArray, List.set_cons_zero, List.set_cons_succ])
              go_cut [116] (fun v116 wc => ∃ (kq : Nat) (x116_19 : Bool), v116 = .bool x116_19 ∧ Aside0 (laws_FnSums.j2 kq l0 t246 x116_19 = some r) ∧ Aside0 (kq ≤ kj10) ∧ Aside0 (Below w.heap.size w wc))
              case first =>
                have H := HC20.out
                clear HC20
                by_cases c22 : (t257 != t259) = true
                · rw [if_pos c22] at H
                  have c22b0 : (t257 != t259) = true := c22
                  (try (have c22b1 : decide (t257 = t259) = false := by simpa using c22))
                  (try (have c22b2 : (t257 == t259) = false := by simpa using c22))
                  (try (have c22b3 : ¬ (t257 = t259) := by simpa using c22))
                  clear c22
                  (first | rw [c22b0] | (simp only [i64_w, i32_w]; rw [c22b0]) | skip)
                  as_aux_lemma =>
                    have H' := Aside0.mk H
                    clear H
                    go_wp2
                    go_meet
                    case rel => exact ⟨_, (true), (by first | rfl | (simp; done) | (simp [*]; done) | (simp [Int.tdiv_eq_ediv_of_nonneg]; done)), H', ⟨by have := HJ6.out; have := HJ10.out; first | omega | exact Nat.le_refl _⟩, ⟨by repeat (first | (with_reducible first | exact HB.out | apply below_alloc | apply pw_below_drewN | apply below_drew1) | exact HB.out)⟩⟩
                · rw [if_neg c22] at H
                  have c22b0 : (t257 != t259) = false := by simpa using c22
                  (try (have c22b1 : decide (t257 = t259) = true := by simpa using c22))
                  (try (have c22b2 : (t257 == t259) = true := by simpa using c22))
                  clear c22
                  (first | rw [c22b0] | (simp only [i64_w, i32_w]; rw [c22b0]) | skip)
                  by_cases c23 : (t257 != t261) = true
                  · rw [if_pos c23] at H
                    have c23b0 : (t257 != t261) = true := c23
                    (try (have c23b1 : decide (t257 = t261) = false := by simpa using c23))
                    (try (have c23b2 : (t257 == t261) = false := by simpa using c23))
                    (try (have c23b3 : ¬ (t257 = t261) := by simpa using c23))
                    clear c23
                    as_aux_lemma =>
                      have H' := Aside0.mk H
                      clear H
                      go_wp2
                      go_meet
                      case rel => exact ⟨_, (true), (by first | rfl | (simp; done) | (simp [*]; done) | (simp [Int.tdiv_eq_ediv_of_nonneg]; done)), H', ⟨by have := HJ6.out; have := HJ10.out; first | omega | exact Nat.le_refl _⟩, ⟨by repeat (first | (with_reducible first | exact HB.out | apply below_alloc | apply pw_below_drewN | apply below_drew1) | exact HB.out)⟩⟩
                  · rw [if_neg c23] at H
                    have c23b0 : (t257 != t261) = false := by simpa using c23
                    (try (have c23b1 : decide (t257 = t261) = true := by simpa using c23))
                    (try (have c23b2 : (t257 == t261) = true := by simpa using c23))
                    clear c23
                    by_cases c24 : t256 = t258
                    · rw [if_pos c24] at H
                      have c24b0 : (t256 == t258) = true := beq_iff_eq.mpr c24
                      have c24b1 : (t256 != t258) = false := bne_eq_false_iff_eq.mpr c24
                      clear c24
                      as_aux_lemma =>
                        have H' := Aside0.mk H
                        clear H
                        go_wp2
                        go_meet
                        case rel => exact ⟨_, ((t256 != t260)), (by first | rfl | (simp; done) | (simp [*]; done) | (simp [Int.tdiv_eq_ediv_of_nonneg]; done)), H', ⟨by have := HJ6.out; have := HJ10.out; first | omega | exact Nat.le_refl _⟩, ⟨by repeat (first | (with_reducible first | exact HB.out | apply below_alloc | apply pw_below_drewN | apply below_drew1) | exact HB.out)⟩⟩
                    · rw [if_neg c24] at H
                      have c24b0 : (t256 == t258) = false := beq_eq_false_iff_ne.mpr c24
                      have c24b1 : (t256 != t258) = true := bne_iff_ne.mpr c24
                      as_aux_lemma =>
                        have H' := Aside0.mk H
                        clear H
                        go_wp2
                        go_meet
                        case rel => exact ⟨_, (true), (by first | rfl | (simp; done) | (simp [*]; done) | (simp [Int.tdiv_eq_ediv_of_nonneg]; done)), H', ⟨by have := HJ6.out; have := HJ10.out; first | omega | exact Nat.le_refl _⟩, ⟨by repeat (first | (with_reducible first | exact HB.out | apply below_alloc | apply pw_below_drewN | apply below_drew1) | exact HB.out)⟩⟩
              case rest =>
                clear HC20
                try clear c1
                try clear c2
                try clear p2
                try clear c3
                try clear c8
                try clear c9
                try clear c9b0
                try clear c9b1
                try clear c9b2
                try clear c10
                try clear c12
                try clear c14
                try clear c15
                try clear c15b0
                try clear c15b1
                try clear c18
                try clear c19
                try clear c22
                try clear c22b0
                try clear c22b1
                try clear c22b2
                try clear c23
                try clear c23b0
                try clear c23b1
                try clear c23b2
                try clear c24
                try clear c24b0
                try clear c24b1
                try clear p2
                obtain ⟨kq, x116_19, rfl, HA, HJ19, HB⟩ := hcut
                cases kq with
                | zero => exact absurd HA.out (by simp [laws_FnSums.j2])
                | succ kj19 =>
                  have H := HA.out
                  clear HA
                  simp only [laws_FnSums.j2] at H
                  by_cases c25 : x116_19 = true
                  · subst c25
                    have H1 : (some false) = some r := by rw [if_pos rfl] at H; exact H
                    clear H
                    have H := H1
                    clear H1
                    as_aux_lemma =>
                      obtain rfl := Option.some.inj H
                      go_wp2
                      go_ret
                      exact ⟨by first | rfl | (simp [errW_none, errW_some] <;> rfl) | (simp [*, errW_none, errW_some] <;> rfl) | (simp [bne, errW_none, errW_some]; done) | (simp [*, bne, errW_none, errW_some]; done) | (rw [EA56.out] <;> rfl) | (rw [EA59.out] <;> rfl), by repeat (first | (with_reducible first | exact HB.out | apply below_alloc | apply pw_below_drewN | apply below_drew1) | exact HB.out)⟩
                  · replace c25 := Bool.eq_false_iff.mpr c25
                    subst c25
                    have H1 : ((spec_DrawDecDiv.f kj19 l0).bind fun bt262 => ((impl_DecDiv.f bt262.1 bt262.2).bind fun bt264 => ((spec_DecDiv.f bt262.1 bt262.2).bind fun bt266 => ((spec_DrawDecSub.f kj19 l0).bind fun bt268 => ((impl_DecSub.f bt268.1 bt268.2).bind fun bt270 => ((spec_DecSub.f bt268.1 bt268.2).bind fun bt272 => ((spec_DrawDecInt.f kj19 l0).bind fun t274 => ((spec_DrawDecOk.f kj19 l0).bind fun t275 => (if (bt264.2 != bt266.2) = true then (laws_FnSums.j3 kj19 t246 t274 true) else (if bt264.1 = bt266.1 then (if (bt270.2 != bt272.2) = true then (laws_FnSums.j3 kj19 t246 t274 true) else (if bt270.1 = bt272.1 then ((impl_DecInt.f t274).bind fun t276 => ((spec_DecInt.f t274).bind fun t277 => (if t276 = t277 then ((impl_DecOk.f t275).bind fun t278 => ((spec_DecOk.f t275).bind fun t279 => (laws_FnSums.j3 kj19 t246 t274 (t278 != t279)))) else (laws_FnSums.j3 kj19 t246 t274 true)))) else (laws_FnSums.j3 kj19 t246 t274 true))) else (laws_FnSums.j3 kj19 t246 t274 true))))))))))) = some r := by rw [if_neg (show ¬ (false = true) by decide)] at H; exact H
                    clear H
                    have H := H1
                    clear H1
                    replace H := Option.bind_eq_some_iff.mp H
                    obtain ⟨⟨t262, t263⟩, A260, H⟩ := H
                    replace H : ((impl_DecDiv.f t262 t263).bind fun bt264 => ((spec_DecDiv.f t262 t263).bind fun bt266 => ((spec_DrawDecSub.f kj19 l0).bind fun bt268 => ((impl_DecSub.f bt268.1 bt268.2).bind fun bt270 => ((spec_DecSub.f bt268.1 bt268.2).bind fun bt272 => ((spec_DrawDecInt.f kj19 l0).bind fun t274 => ((spec_DrawDecOk.f kj19 l0).bind fun t275 => (if (bt264.2 != bt266.2) = true then (laws_FnSums.j3 kj19 t246 t274 true) else (if bt264.1 = bt266.1 then (if (bt270.2 != bt272.2) = true then (laws_FnSums.j3 kj19 t246 t274 true) else (if bt270.1 = bt272.1 then ((impl_DecInt.f t274).bind fun t276 => ((spec_DecInt.f t274).bind fun t277 => (if t276 = t277 then ((impl_DecOk.f t275).bind fun t278 => ((spec_DecOk.f t275).bind fun t279 => (laws_FnSums.j3 kj19 t246 t274 (t278 != t279)))) else (laws_FnSums.j3 kj19 t246 t274 true)))) else (laws_FnSums.j3 kj19 t246 t274 true))) else (laws_FnSums.j3 kj19 t246 t274 true)))))))))) = some r := H
                    have A26 := Aside0.mk A260
                    clear A260
                    replace H := Option.bind_eq_some_iff.mp H
                    obtain ⟨⟨t264, t265⟩, A270, H⟩ := H
                    replace H : ((spec_DecDiv.f t262 t263).bind fun bt266 => ((spec_DrawDecSub.f kj19 l0).bind fun bt268 => ((impl_DecSub.f bt268.1 bt268.2).bind fun bt270 => ((spec_DecSub.f bt268.1 bt268.2).bind fun bt272 => ((spec_DrawDecInt.f kj19 l0).bind fun t274 => ((spec_DrawDecOk.f kj19 l0).bind fun t275 => (if (t265 != bt266.2) = true then (laws_FnSums.j3 kj19 t246 t274 true) else (if t264 = bt266.1 then (if (bt270.2 != bt272.2) = true then (laws_FnSums.j3 kj19 t246 t274 true) else (if bt270.1 = bt272.1 then ((impl_DecInt.f t274).bind fun t276 => ((spec_DecInt.f t274).bind fun t277 => (if t276 = t277 then ((impl_DecOk.f t275).bind fun t278 => ((spec_DecOk.f t275).bind fun t279 => (laws_FnSums.j3 kj19 t246 t274 (t278 != t279)))) else (laws_FnSums.j3 kj19 t246 t274 true)))) else (laws_FnSums.j3 kj19 t246 t274 true))) else (laws_FnSums.j3 kj19 t246 t274 true))))))))) = some r := H
                    have A27 := Aside0.mk A270
                    clear A270
                    replace H := Option.bind_eq_some_iff.mp H
                    obtain ⟨⟨t266, t267⟩, A280, H⟩ := H
                    replace H : ((spec_DrawDecSub.f kj19 l0).bind fun bt268 => ((impl_DecSub.f bt268.1 bt268.2).bind fun bt270 => ((spec_DecSub.f bt268.1 bt268.2).bind fun bt272 => ((spec_DrawDecInt.f kj19 l0).bind fun t274 => ((spec_DrawDecOk.f kj19 l0).bind fun t275 => (if (t265 != t267) = true then (laws_FnSums.j3 kj19 t246 t274 true) else (if t264 = t266 then (if (bt270.2 != bt272.2) = true then (laws_FnSums.j3 kj19 t246 t274 true) else (if bt270.1 = bt272.1 then ((impl_DecInt.f t274).bind fun t276 => ((spec_DecInt.f t274).bind fun t277 => (if t276 = t277 then ((impl_DecOk.f t275).bind fun t278 => ((spec_DecOk.f t275).bind fun t279 => (laws_FnSums.j3 kj19 t246 t274 (t278 != t279)))) else (laws_FnSums.j3 kj19 t246 t274 true)))) else (laws_FnSums.j3 kj19 t246 t274 true))) else (laws_FnSums.j3 kj19 t246 t274 true)))))))) = some r := H
                    have A28 := Aside0.mk A280
                    clear A280
                    replace H := Option.bind_eq_some_iff.mp H
                    obtain ⟨⟨t268, t269⟩, A290, H⟩ := H
                    replace H : ((impl_DecSub.f t268 t269).bind fun bt270 => ((spec_DecSub.f t268 t269).bind fun bt272 => ((spec_DrawDecInt.f kj19 l0).bind fun t274 => ((spec_DrawDecOk.f kj19 l0).bind fun t275 => (if (t265 != t267) = true then (laws_FnSums.j3 kj19 t246 t274 true) else (if t264 = t266 then (if (bt270.2 != bt272.2) = true then (laws_FnSums.j3 kj19 t246 t274 true) else (if bt270.1 = bt272.1 then ((impl_DecInt.f t274).bind fun t276 => ((spec_DecInt.f t274).bind fun t277 => (if t276 = t277 then ((impl_DecOk.f t275).bind fun t278 => ((spec_DecOk.f t275).bind fun t279 => (laws_FnSums.j3 kj19 t246 t274 (t278 != t279)))) else (laws_FnSums.j3 kj19 t246 t274 true)))) else (laws_FnSums.j3 kj19 t246 t274 true))) else (laws_FnSums.j3 kj19 t246 t274 true))))))) = some r := H
                    have A29 := Aside0.mk A290
                    clear A290
                    replace H := Option.bind_eq_some_iff.mp H
                    obtain ⟨⟨t270, t271⟩, A300, H⟩ := H
                    replace H : ((spec_DecSub.f t268 t269).bind fun bt272 => ((spec_DrawDecInt.f kj19 l0).bind fun t274 => ((spec_DrawDecOk.f kj19 l0).bind fun t275 => (if (t265 != t267) = true then (laws_FnSums.j3 kj19 t246 t274 true) else (if t264 = t266 then (if (t271 != bt272.2) = true then (laws_FnSums.j3 kj19 t246 t274 true) else (if t270 = bt272.1 then ((impl_DecInt.f t274).bind fun t276 => ((spec_DecInt.f t274).bind fun t277 => (if t276 = t277 then ((impl_DecOk.f t275).bind fun t278 => ((spec_DecOk.f t275).bind fun t279 => (laws_FnSums.j3 kj19 t246 t274 (t278 != t279)))) else (laws_FnSums.j3 kj19 t246 t274 true)))) else (laws_FnSums.j3 kj19 t246 t274 true))) else (laws_FnSums.j3 kj19 t246 t274 true)))))) = some r := H
                    have A30 := Aside0.mk A300
                    clear A300
                    replace H := Option.bind_eq_some_iff.mp H
                    obtain ⟨⟨t272, t273⟩, A310, H⟩ := H
                    replace H : ((spec_DrawDecInt.f kj19 l0).bind fun t274 => ((spec_DrawDecOk.f kj19 l0).bind fun t275 => (if (t265 != t267) = true then (laws_FnSums.j3 kj19 t246 t274 true) else (if t264 = t266 then (if (t271 != t273) = true then (laws_FnSums.j3 kj19 t246 t274 true) else (if t270 = t272 then ((impl_DecInt.f t274).bind fun t276 => ((spec_DecInt.f t274).bind fun t277 => (if t276 = t277 then ((impl_DecOk.f t275).bind fun t278 => ((spec_DecOk.f t275).bind fun t279 => (laws_FnSums.j3 kj19 t246 t274 (t278 != t279)))) else (laws_FnSums.j3 kj19 t246 t274 true)))) else (laws_FnSums.j3 kj19 t246 t274 true))) else (laws_FnSums.j3 kj19 t246 t274 true))))) = some r := H
                    have A31 := Aside0.mk A310
                    clear A310
                    replace H := Option.bind_eq_some_iff.mp H
                    obtain ⟨t274, A320, H⟩ := H
                    replace H : ((spec_DrawDecOk.f kj19 l0).bind fun t275 => (if (t265 != t267) = true then (laws_FnSums.j3 kj19 t246 t274 true) else (if t264 = t266 then (if (t271 != t273) = true then (laws_FnSums.j3 kj19 t246 t274 true) else (if t270 = t272 then ((impl_DecInt.f t274).bind fun t276 => ((spec_DecInt.f t274).bind fun t277 => (if t276 = t277 then ((impl_DecOk.f t275).bind fun t278 => ((spec_DecOk.f t275).bind fun t279 => (laws_FnSums.j3 kj19 t246 t274 (t278 != t279)))) else (laws_FnSums.j3 kj19 t246 t274 true)))) else (laws_FnSums.j3 kj19 t246 t274 true))) else (laws_FnSums.j3 kj19 t246 t274 true)))) = some r := H
                    have A32 := Aside0.mk A320
                    clear A320
                    replace H := Option.bind_eq_some_iff.mp H
                    obtain ⟨t275, A330, H⟩ := H
                    replace H : (if (t265 != t267) = true then (laws_FnSums.j3 kj19 t246 t274 true) else (if t264 = t266 then (if (t271 != t273) = true then (laws_FnSums.j3 kj19 t246 t274 true) else (if t270 = t272 then ((impl_DecInt.f t274).bind fun t276 => ((spec_DecInt.f t274).bind fun t277 => (if t276 = t277 then ((impl_DecOk.f t275).bind fun t278 => ((spec_DecOk.f t275).bind fun t279 => (laws_FnSums.j3 kj19 t246 t274 (t278 != t279)))) else (laws_FnSums.j3 kj19 t246 t274 true)))) else (laws_FnSums.j3 kj19 t246 t274 true))) else (laws_FnSums.j3 kj19 t246 t274 true))) = some r := H
                    have A33 := Aside0.mk A330
                    clear A330
                    have HC34 := Aside0.mk H
                    clear H
                    go_upto_region 25 with (first | ((with_reducible refine gate_callee (f := 40) rfl ?_); refine goesL_ (some 119) rfl rfl Try.func40 (by as_aux_lemma => kernel_rfl) rfl #[.slice A0 l0.length c0] rfl (by (try simp only [List.map_toArray, List.map_cons, List.map_nil]); first | done | rfl | (simp only [List.length_drop, List.length_take]; rfl)) ?_; (with_reducible refine (spec_DrawDecDiv.calls kj19 _ _ l0 t262 t263 _ ?side1 ?side2 A26.out).mono ?_); (case side1 => repeat (first | exact (Kd.C_below HR0.out HB.out) | (with_reducible refine Kd.C_alloc ?_ _) | (with_reducible refine Kd.C_drewN ?_ _) | (with_reducible refine Kd.C_drew ?_))); (case side2 => exact HC0.out); rintro e w35 ⟨rfl, hb⟩; refine ⟨_, rfl, ?_⟩; have n0_ := Aside0.mk (below_step (by repeat (first | (with_reducible first | exact HB.out | apply below_alloc | apply pw_below_drewN | apply below_drew1) | exact HB.out)) hb); clear HB; have HB := n0_; clear n0_; (try clear hb); (try clear hb2); (try clear hk); (try clear hi)) | ((with_reducible refine gate_callee (f := 41) rfl ?_); refine goesL_ (some 125) rfl rfl Try.func41 (by as_aux_lemma => kernel_rfl) rfl #[.int .i64 t262, .int .i64 t263] rfl (by (try simp only [List.map_toArray, List.map_cons, List.map_nil]); first | done | rfl | (simp only [List.length_drop, List.length_take]; rfl)) ?_; (with_reducible refine (impl_DecDiv.calls t262 t263 t264 t265 _ A27.out).mono ?_); rintro e w' ⟨rfl, ⟨nd, rfl⟩⟩; refine ⟨_, rfl, ?_⟩) | ((with_reducible refine gate_callee (f := 42) rfl ?_); refine goesL_ (some 131) rfl rfl Try.func42 (by as_aux_lemma => kernel_rfl) rfl #[.int .i64 t262, .int .i64 t263] rfl (by (try simp only [List.map_toArray, List.map_cons, List.map_nil]); first | done | rfl | (simp only [List.length_drop, List.length_take]; rfl)) ?_; (with_reducible refine (spec_DecDiv.calls t262 t263 t266 t267 _ A28.out).mono ?_); rintro e w' ⟨rfl, ⟨nd, rfl⟩⟩; refine ⟨_, rfl, ?_⟩) | ((with_reducible refine gate_callee (f := 43) rfl ?_); refine goesL_ (some 136) rfl rfl Try.func43 (by as_aux_lemma => kernel_rfl) rfl #[.slice A0 l0.length c0] rfl (by (try simp only [List.map_toArray, List.map_cons, List.map_nil]); first | done | rfl | (simp only [List.length_drop, List.length_take]; rfl)) ?_; (with_reducible refine (spec_DrawDecSub.calls kj19 _ _ l0 t268 t269 _ ?side1 ?side2 A29.out).mono ?_); (case side1 => repeat (first | exact (Kd.C_below HR0.out (by repeat (first | (with_reducible first | exact HB.out | apply below_alloc | apply pw_below_drewN | apply below_drew1) | exact HB.out))) | (with_reducible refine Kd.C_alloc ?_ _) | (with_reducible refine Kd.C_drewN ?_ _) | (with_reducible refine Kd.C_drew ?_))); (case side2 => exact HC0.out); rintro e w36 ⟨rfl, hb⟩; refine ⟨_, rfl, ?_⟩; have n0_ := Aside0.mk (below_step (by repeat (first | (with_reducible first | exact HB.out | apply below_alloc | apply pw_below_drewN | apply below_drew1) | exact HB.out)) hb); clear HB; have HB := n0_; clear n0_; (try clear hb); (try clear hb2); (try clear hk); (try clear hi)) | ((with_reducible refine gate_callee (f := 38) rfl ?_); refine goesL_ (some 142) rfl rfl Try.func38 (by as_aux_lemma => kernel_rfl) rfl #[.int .i64 t268, .int .i64 t269] rfl (by (try simp only [List.map_toArray, List.map_cons, List.map_nil]); first | done | rfl | (simp only [List.length_drop, List.length_take]; rfl)) ?_; (with_reducible refine (impl_DecSub.calls t268 t269 t270 t271 _ A30.out).mono ?_); rintro e w' ⟨rfl, ⟨nd, rfl⟩⟩; refine ⟨_, rfl, ?_⟩) | ((with_reducible refine gate_callee (f := 44) rfl ?_); refine goesL_ (some 148) rfl rfl Try.func44 (by as_aux_lemma => kernel_rfl) rfl #[.int .i64 t268, .int .i64 t269] rfl (by (try simp only [List.map_toArray, List.map_cons, List.map_nil]); first | done | rfl | (simp only [List.length_drop, List.length_take]; rfl)) ?_; (with_reducible refine (spec_DecSub.calls t268 t269 t272 t273 _ A31.out).mono ?_); rintro e w' ⟨rfl, ⟨nd, rfl⟩⟩; refine ⟨_, rfl, ?_⟩) | ((with_reducible refine gate_callee (f := 45) rfl ?_); refine goesL_ (some 152) rfl rfl Try.func45 (by as_aux_lemma => kernel_rfl) rfl #[.slice A0 l0.length c0] rfl (by (try simp only [List.map_toArray, List.map_cons, List.map_nil]); first | done | rfl | (simp only [List.length_drop, List.length_take]; rfl)) ?_; (with_reducible refine (spec_DrawDecInt.calls kj19 _ _ l0 t274 _ ?side1 ?side2 A32.out).mono ?_); (case side1 => repeat (first | exact (Kd.C_below HR0.out (by repeat (first | (with_reducible first | exact HB.out | apply below_alloc | apply pw_below_drewN | apply below_drew1) | exact HB.out))) | (with_reducible refine Kd.C_alloc ?_ _) | (with_reducible refine Kd.C_drewN ?_ _) | (with_reducible refine Kd.C_drew ?_))); (case side2 => exact HC0.out); rintro e w37 ⟨rfl, hb⟩; refine ⟨_, rfl, ?_⟩; have n0_ := Aside0.mk (below_step (by repeat (first | (with_reducible first | exact HB.out | apply below_alloc | apply pw_below_drewN | apply below_drew1) | exact HB.out)) hb); clear HB; have HB := n0_; clear n0_; (try clear hb); (try clear hb2); (try clear hk); (try clear hi)) | ((with_reducible refine gate_callee (f := 46) rfl ?_); refine goesL_ (some 154) rfl rfl Try.func46 (by as_aux_lemma => kernel_rfl) rfl #[.slice A0 l0.length c0] rfl (by (try simp only [List.map_toArray, List.map_cons, List.map_nil]); first | done | rfl | (simp only [List.length_drop, List.length_take]; rfl)) ?_; (with_reducible refine (spec_DrawDecOk.calls kj19 _ _ l0 t275 _ ?side1 ?side2 A33.out).mono ?_); (case side1 => repeat (first | exact (Kd.C_below HR0.out HB.out) | (with_reducible refine Kd.C_alloc ?_ _) | (with_reducible refine Kd.C_drewN ?_ _) | (with_reducible refine Kd.C_drew ?_))); (case side2 => exact HC0.out); rintro e w38 ⟨rfl, hb⟩; refine ⟨_, rfl, ?_⟩; have n0_ := Aside0.mk (below_step (by repeat (first | (with_reducible first | exact HB.out | apply below_alloc | apply pw_below_drewN | apply below_drew1) | exact HB.out)) hb); clear HB; have HB := n0_; clear n0_; (try clear hb); (try clear hb2); (try clear hk); (try clear hi)))
                    (try simp only [Act.put, List.setIfInBounds_toArray, List.set_cons_zero, List.set_cons_succ])
                    go_cut [186] (fun v186 wc => ∃ (kq : Nat) (x186_33 : Bool), v186 = .bool x186_33 ∧ Aside0 (laws_FnSums.j3 kq t246 t274 x186_33 = some r) ∧ Aside0 (kq ≤ kj19) ∧ Aside0 (Below w.heap.size w wc))
                    case first =>
                      have H := HC34.out
                      clear HC34
                      by_cases c39 : (t265 != t267) = true
                      · rw [if_pos c39] at H
                        have c39b0 : (t265 != t267) = true := c39
                        (try (have c39b1 : decide (t265 = t267) = false := by simpa using c39))
                        (try (have c39b2 : (t265 == t267) = false := by simpa using c39))
                        (try (have c39b3 : ¬ (t265 = t267) := by simpa using c39))
                        clear c39
                        (first | rw [c39b0] | (simp only [i64_w, i32_w]; rw [c39b0]) | skip)
                        as_aux_lemma =>
                          have H' := Aside0.mk H
                          clear H
                          go_wp2
                          go_meet
                          case rel => exact ⟨_, (true), (by first | rfl | (simp; done) | (simp [*]; done) | (simp [Int.tdiv_eq_ediv_of_nonneg]; done)), H', ⟨by have := HJ6.out; have := HJ10.out; have := HJ19.out; first | omega | exact Nat.le_refl _⟩, ⟨by repeat (first | (with_reducible first | exact HB.out | apply below_alloc | apply pw_below_drewN | apply below_drew1) | exact HB.out)⟩⟩
                      · rw [if_neg c39] at H
                        have c39b0 : (t265 != t267) = false := by simpa using c39
                        (try (have c39b1 : decide (t265 = t267) = true := by simpa using c39))
                        (try (have c39b2 : (t265 == t267) = true := by simpa using c39))
                        clear c39
                        (first | rw [c39b0] | (simp only [i64_w, i32_w]; rw [c39b0]) | skip)
                        by_cases c40 : t264 = t266
                        · rw [if_pos c40] at H
                          have c40b0 : (t264 == t266) = true := beq_iff_eq.mpr c40
                          have c40b1 : (t264 != t266) = false := bne_eq_false_iff_eq.mpr c40
                          clear c40
                          by_cases c41 : (t271 != t273) = true
                          · rw [if_pos c41] at H
                            have c41b0 : (t271 != t273) = true := c41
                            (try (have c41b1 : decide (t271 = t273) = false := by simpa using c41))
                            (try (have c41b2 : (t271 == t273) = false := by simpa using c41))
                            (try (have c41b3 : ¬ (t271 = t273) := by simpa using c41))
                            clear c41
                            as_aux_lemma =>
                              have H' := Aside0.mk H
                              clear H
                              go_wp2
                              go_meet
                              case rel => exact ⟨_, (true), (by first | rfl | (simp; done) | (simp [*]; done) | (simp [Int.tdiv_eq_ediv_of_nonneg]; done)), H', ⟨by have := HJ6.out; have := HJ10.out; have := HJ19.out; first | omega | exact Nat.le_refl _⟩, ⟨by repeat (first | (with_reducible first | exact HB.out | apply below_alloc | apply pw_below_drewN | apply below_drew1) | exact HB.out)⟩⟩
                          · rw [if_neg c41] at H
                            have c41b0 : (t271 != t273) = false := by simpa using c41
                            (try (have c41b1 : decide (t271 = t273) = true := by simpa using c41))
                            (try (have c41b2 : (t271 == t273) = true := by simpa using c41))
                            clear c41
                            by_cases c42 : t270 = t272
                            · rw [if_pos c42] at H
                              have c42b0 : (t270 == t272) = true := beq_iff_eq.mpr c42
                              have c42b1 : (t270 != t272) = false := bne_eq_false_iff_eq.mpr c42
                              clear c42
                              replace H := Option.bind_eq_some_iff.mp H
                              obtain ⟨t276, A430, H⟩ := H
                              replace H : ((spec_DecInt.f t274).bind fun t277 => (if t276 = t277 then ((impl_DecOk.f t275).bind fun t278 => ((spec_DecOk.f t275).bind fun t279 => (laws_FnSums.j3 kj19 t246 t274 (t278 != t279)))) else (laws_FnSums.j3 kj19 t246 t274 true))) = some r := H
                              have A43 := Aside0.mk A430
                              clear A430
                              replace H := Option.bind_eq_some_iff.mp H
                              obtain ⟨t277, A440, H⟩ := H
                              replace H : (if t276 = t277 then ((impl_DecOk.f t275).bind fun t278 => ((spec_DecOk.f t275).bind fun t279 => (laws_FnSums.j3 kj19 t246 t274 (t278 != t279)))) else (laws_FnSums.j3 kj19 t246 t274 true)) = some r := H
                              have A44 := Aside0.mk A440
                              clear A440
                              by_cases c45 : t276 = t277
                              · rw [if_pos c45] at H
                                have c45b0 : (t276 == t277) = true := beq_iff_eq.mpr c45
                                have c45b1 : (t276 != t277) = false := bne_eq_false_iff_eq.mpr c45
                                clear c45
                                replace H := Option.bind_eq_some_iff.mp H
                                obtain ⟨t278, A460, H⟩ := H
                                replace H : ((spec_DecOk.f t275).bind fun t279 => (laws_FnSums.j3 kj19 t246 t274 (t278 != t279))) = some r := H
                                have A46 := Aside0.mk A460
                                clear A460
                                replace H := Option.bind_eq_some_iff.mp H
                                obtain ⟨t279, A470, H⟩ := H
                                replace H : (laws_FnSums.j3 kj19 t246 t274 (t278 != t279)) = some r := H
                                have A47 := Aside0.mk A470
                                clear A470
                                as_aux_lemma =>
                                  have H' := Aside0.mk H
                                  clear H
                                  go_wp2_with (first | (go_at_call 47; (with_reducible refine (impl_DecInt.calls t274 t276 _ A43.out).mono ?_); rintro e w' ⟨rfl, ⟨nd, rfl⟩⟩) | (go_at_call 48; (with_reducible refine (spec_DecInt.calls t274 t277 _ A44.out).mono ?_); rintro e w' ⟨rfl, ⟨nd, rfl⟩⟩) | (go_at_call 49; (with_reducible refine (impl_DecOk.calls t275 t278 _ A46.out).mono ?_); rintro e w' ⟨rfl, ⟨nd, rfl⟩⟩) | (go_at_call 50; (with_reducible refine (spec_DecOk.calls t275 t279 _ A47.out).mono ?_); rintro e w' ⟨rfl, ⟨nd, rfl⟩⟩))
                                  go_meet
                                  case rel => exact ⟨_, ((t278 != t279)), (by first | rfl | (simp; done) | (simp [*]; done) | (simp [Int.tdiv_eq_ediv_of_nonneg]; done)), H', ⟨by have := HJ6.out; have := HJ10.out; have := HJ19.out; first | omega | exact Nat.le_refl _⟩, ⟨by repeat (first | (with_reducible first | exact HB.out | apply below_alloc | apply pw_below_drewN | apply below_drew1) | exact HB.out)⟩⟩
                              · rw [if_neg c45] at H
                                have c45b0 : (t276 == t277) = false := beq_eq_false_iff_ne.mpr c45
                                have c45b1 : (t276 != t277) = true := bne_iff_ne.mpr c45
                                as_aux_lemma =>
                                  have H' := Aside0.mk H
                                  clear H
                                  go_wp2_with (first | (go_at_call 47; (with_reducible refine (impl_DecInt.calls t274 t276 _ A43.out).mono ?_); rintro e w' ⟨rfl, ⟨nd, rfl⟩⟩) | (go_at_call 48; (with_reducible refine (spec_DecInt.calls t274 t277 _ A44.out).mono ?_); rintro e w' ⟨rfl, ⟨nd, rfl⟩⟩))
                                  go_meet
                                  case rel => exact ⟨_, (true), (by first | rfl | (simp; done) | (simp [*]; done) | (simp [Int.tdiv_eq_ediv_of_nonneg]; done)), H', ⟨by have := HJ6.out; have := HJ10.out; have := HJ19.out; first | omega | exact Nat.le_refl _⟩, ⟨by repeat (first | (with_reducible first | exact HB.out | apply below_alloc | apply pw_below_drewN | apply below_drew1) | exact HB.out)⟩⟩
                            · rw [if_neg c42] at H
                              have c42b0 : (t270 == t272) = false := beq_eq_false_iff_ne.mpr c42
                              have c42b1 : (t270 != t272) = true := bne_iff_ne.mpr c42
                              as_aux_lemma =>
                                have H' := Aside0.mk H
                                clear H
                                go_wp2
                                go_meet
                                case rel => exact ⟨_, (true), (by first | rfl | (simp; done) | (simp [*]; done) | (simp [Int.tdiv_eq_ediv_of_nonneg]; done)), H', ⟨by have := HJ6.out; have := HJ10.out; have := HJ19.out; first | omega | exact Nat.le_refl _⟩, ⟨by repeat (first | (with_reducible first | exact HB.out | apply below_alloc | apply pw_below_drewN | apply below_drew1) | exact HB.out)⟩⟩
                        · rw [if_neg c40] at H
                          have c40b0 : (t264 == t266) = false := beq_eq_false_iff_ne.mpr c40
                          have c40b1 : (t264 != t266) = true := bne_iff_ne.mpr c40
                          as_aux_lemma =>
                            have H' := Aside0.mk H
                            clear H
                            go_wp2
                            go_meet
                            case rel => exact ⟨_, (true), (by first | rfl | (simp; done) | (simp [*]; done) | (simp [Int.tdiv_eq_ediv_of_nonneg]; done)), H', ⟨by have := HJ6.out; have := HJ10.out; have := HJ19.out; first | omega | exact Nat.le_refl _⟩, ⟨by repeat (first | (with_reducible first | exact HB.out | apply below_alloc | apply pw_below_drewN | apply below_drew1) | exact HB.out)⟩⟩
                    case rest =>
                      clear HC34
                      try clear c1
                      try clear c2
                      try clear p2
                      try clear c3
                      try clear c4
                      try clear c8
                      try clear c9
                      try clear c9b0
                      try clear c9b1
                      try clear c9b2
                      try clear c10
                      try clear c12
                      try clear c14
                      try clear c15
                      try clear c15b0
                      try clear c15b1
                      try clear c18
                      try clear c19
                      try clear c22
                      try clear c22b0
                      try clear c22b1
                      try clear c22b2
                      try clear c23
                      try clear c23b0
                      try clear c23b1
                      try clear c23b2
                      try clear c24
                      try clear c24b0
                      try clear c24b1
                      try clear c25
                      try clear c34
                      try clear c35
                      try clear c36
                      try clear c37
                      try clear c38
                      try clear c39
                      try clear c39b0
                      try clear c39b1
                      try clear c39b2
                      try clear c40
                      try clear c40b0
                      try clear c40b1
                      try clear c41
                      try clear c41b0
                      try clear c41b1
                      try clear c41b2
                      try clear c42
                      try clear c42b0
                      try clear c42b1
                      try clear c43
                      try clear c44
                      try clear c45
                      try clear c45b0
                      try clear c45b1
                      try clear c46
                      try clear p2
                      obtain ⟨kq, x186_33, rfl, HA, HJ33, HB⟩ := hcut
                      cases kq with
                      | zero => exact absurd HA.out (by simp [laws_FnSums.j3])
                      | succ kj33 =>
                        have H := HA.out
                        clear HA
                        simp only [laws_FnSums.j3] at H
                        by_cases c48 : x186_33 = true
                        · subst c48
                          have H1 : (some false) = some r := by rw [if_pos rfl] at H; exact H
                          clear H
                          have H := H1
                          clear H1
                          as_aux_lemma =>
                            obtain rfl := Option.some.inj H
                            go_wp2
                            go_ret
                            exact ⟨by first | rfl | (simp [errW_none, errW_some] <;> rfl) | (simp [*, errW_none, errW_some] <;> rfl) | (simp [bne, errW_none, errW_some]; done) | (simp [*, bne, errW_none, errW_some]; done) | (rw [EA56.out] <;> rfl) | (rw [EA59.out] <;> rfl), by repeat (first | (with_reducible first | exact HB.out | apply below_alloc | apply pw_below_drewN | apply below_drew1) | exact HB.out)⟩
                        · replace c48 := Bool.eq_false_iff.mpr c48
                          subst c48
                          have H1 : ((impl_DecDiv.f t246 1000000).bind fun bt280 => ((impl_DecOk.f t246).bind fun t282 => (if (bt280.2 == t282) = true then (if bt280.2 = true then (if bt280.1 = t246 then ((impl_DecInt.f t274).bind fun t283 => ((impl_DecInt.f t283).bind fun t284 => ((impl_DecInt.f t274).bind fun t285 => (some (t284 == t285))))) else (some false)) else ((impl_DecInt.f t274).bind fun t286 => ((impl_DecInt.f t286).bind fun t287 => ((impl_DecInt.f t274).bind fun t288 => (some (t287 == t288)))))) else (some false)))) = some r := by rw [if_neg (show ¬ (false = true) by decide)] at H; exact H
                          clear H
                          have H := H1
                          clear H1
                          replace H := Option.bind_eq_some_iff.mp H
                          obtain ⟨⟨t280, t281⟩, A490, H⟩ := H
                          replace H : ((impl_DecOk.f t246).bind fun t282 => (if (t281 == t282) = true then (if t281 = true then (if t280 = t246 then ((impl_DecInt.f t274).bind fun t283 => ((impl_DecInt.f t283).bind fun t284 => ((impl_DecInt.f t274).bind fun t285 => (some (t284 == t285))))) else (some false)) else ((impl_DecInt.f t274).bind fun t286 => ((impl_DecInt.f t286).bind fun t287 => ((impl_DecInt.f t274).bind fun t288 => (some (t287 == t288)))))) else (some false))) = some r := H
                          have A49 := Aside0.mk A490
                          clear A490
                          replace H := Option.bind_eq_some_iff.mp H
                          obtain ⟨t282, A500, H⟩ := H
                          replace H : (if (t281 == t282) = true then (if t281 = true then (if t280 = t246 then ((impl_DecInt.f t274).bind fun t283 => ((impl_DecInt.f t283).bind fun t284 => ((impl_DecInt.f t274).bind fun t285 => (some (t284 == t285))))) else (some false)) else ((impl_DecInt.f t274).bind fun t286 => ((impl_DecInt.f t286).bind fun t287 => ((impl_DecInt.f t274).bind fun t288 => (some (t287 == t288)))))) else (some false)) = some r := H
                          have A50 := Aside0.mk A500
                          clear A500
                          by_cases c51 : (t281 == t282) = true
                          · rw [if_pos c51] at H
                            have c51b0 : (t281 == t282) = true := c51
                            (try (have c51b1 : decide (t281 = t282) = true := by simpa using c51))
                            (try (have c51b2 : (t281 == t282) = true := by simpa using c51))
                            clear c51
                            by_cases c52 : t281 = true
                            · subst c52
                              have H1 : (if t280 = t246 then ((impl_DecInt.f t274).bind fun t283 => ((impl_DecInt.f t283).bind fun t284 => ((impl_DecInt.f t274).bind fun t285 => (some (t284 == t285))))) else (some false)) = some r := by rw [if_pos rfl] at H; exact H
                              clear H
                              have H := H1
                              clear H1
                              by_cases c53 : t280 = t246
                              · rw [if_pos c53] at H
                                have c53b0 : (t280 == t246) = true := beq_iff_eq.mpr c53
                                have c53b1 : (t280 != t246) = false := bne_eq_false_iff_eq.mpr c53
                                clear c53
                                replace H := Option.bind_eq_some_iff.mp H
                                obtain ⟨t283, A540, H⟩ := H
                                replace H : ((impl_DecInt.f t283).bind fun t284 => ((impl_DecInt.f t274).bind fun t285 => (some (t284 == t285)))) = some r := H
                                have A54 := Aside0.mk A540
                                clear A540
                                replace H := Option.bind_eq_some_iff.mp H
                                obtain ⟨t284, A550, H⟩ := H
                                replace H : ((impl_DecInt.f t274).bind fun t285 => (some (t284 == t285))) = some r := H
                                have A55 := Aside0.mk A550
                                clear A550
                                replace H := Option.bind_eq_some_iff.mp H
                                obtain ⟨t285, A560, H⟩ := H
                                replace H : (some (t284 == t285)) = some r := H
                                have A56 := Aside0.mk A560
                                clear A560
                                have EA56 := Aside0.mk (Option.some.inj (A54.out.symm.trans A56.out) : t283 = t285)
                                as_aux_lemma =>
                                  obtain rfl := Option.some.inj H
                                  go_wp2_with (first | ((with_reducible refine gate_callee (f := 41) rfl ?_); refine goesL_ (some 189) rfl rfl Try.func41 (by as_aux_lemma => kernel_rfl) rfl #[.int .i64 t246, .int .i64 1000000] rfl (by (try simp only [List.map_toArray, List.map_cons, List.map_nil]); first | done | rfl | (simp only [List.length_drop, List.length_take]; rfl)) ?_; (with_reducible refine (impl_DecDiv.calls t246 1000000 t280 true _ A49.out).mono ?_); rintro e w' ⟨rfl, ⟨nd, rfl⟩⟩; refine ⟨_, rfl, ?_⟩) | ((with_reducible refine gate_callee (f := 49) rfl ?_); refine goesL_ (some 194) rfl rfl Try.func49 (by as_aux_lemma => kernel_rfl) rfl #[.int .i64 t246] rfl (by (try simp only [List.map_toArray, List.map_cons, List.map_nil]); first | done | rfl | (simp only [List.length_drop, List.length_take]; rfl)) ?_; (with_reducible refine (impl_DecOk.calls t246 t282 _ A50.out).mono ?_); rintro e w' ⟨rfl, ⟨nd, rfl⟩⟩; refine ⟨_, rfl, ?_⟩) | (go_at_call 47; (with_reducible refine (impl_DecInt.calls t274 t283 _ A54.out).mono ?_); rintro e w' ⟨rfl, ⟨nd, rfl⟩⟩) | (go_at_call 47; (with_reducible refine (impl_DecInt.calls t283 t284 _ A55.out).mono ?_); rintro e w' ⟨rfl, ⟨nd, rfl⟩⟩) | (go_at_call 47; (with_reducible refine (impl_DecInt.calls t274 t285 _ A56.out).mono ?_); rintro e w' ⟨rfl, ⟨nd, rfl⟩⟩))
                                  go_ret
                                  exact ⟨by first | rfl | (simp [errW_none, errW_some] <;> rfl) | (simp [*, errW_none, errW_some] <;> rfl) | (simp [bne, errW_none, errW_some]; done) | (simp [*, bne, errW_none, errW_some]; done) | (rw [EA56.out] <;> rfl) | (rw [EA59.out] <;> rfl), by repeat (first | (with_reducible first | exact HB.out | apply below_alloc | apply pw_below_drewN | apply below_drew1) | exact HB.out)⟩
                              · rw [if_neg c53] at H
                                have c53b0 : (t280 == t246) = false := beq_eq_false_iff_ne.mpr c53
                                have c53b1 : (t280 != t246) = true := bne_iff_ne.mpr c53
                                as_aux_lemma =>
                                  obtain rfl := Option.some.inj H
                                  go_wp2_with (first | ((with_reducible refine gate_callee (f := 41) rfl ?_); refine goesL_ (some 189) rfl rfl Try.func41 (by as_aux_lemma => kernel_rfl) rfl #[.int .i64 t246, .int .i64 1000000] rfl (by (try simp only [List.map_toArray, List.map_cons, List.map_nil]); first | done | rfl | (simp only [List.length_drop, List.length_take]; rfl)) ?_; (with_reducible refine (impl_DecDiv.calls t246 1000000 t280 true _ A49.out).mono ?_); rintro e w' ⟨rfl, ⟨nd, rfl⟩⟩; refine ⟨_, rfl, ?_⟩) | ((with_reducible refine gate_callee (f := 49) rfl ?_); refine goesL_ (some 194) rfl rfl Try.func49 (by as_aux_lemma => kernel_rfl) rfl #[.int .i64 t246] rfl (by (try simp only [List.map_toArray, List.map_cons, List.map_nil]); first | done | rfl | (simp only [List.length_drop, List.length_take]; rfl)) ?_; (with_reducible refine (impl_DecOk.calls t246 t282 _ A50.out).mono ?_); rintro e w' ⟨rfl, ⟨nd, rfl⟩⟩; refine ⟨_, rfl, ?_⟩))
                                  go_ret
                                  exact ⟨by first | rfl | (simp [errW_none, errW_some] <;> rfl) | (simp [*, errW_none, errW_some] <;> rfl) | (simp [bne, errW_none, errW_some]; done) | (simp [*, bne, errW_none, errW_some]; done) | (rw [EA56.out] <;> rfl) | (rw [EA59.out] <;> rfl), by repeat (first | (with_reducible first | exact HB.out | apply below_alloc | apply pw_below_drewN | apply below_drew1) | exact HB.out)⟩
                            · replace c52 := Bool.eq_false_iff.mpr c52
                              subst c52
                              have H1 : ((impl_DecInt.f t274).bind fun t286 => ((impl_DecInt.f t286).bind fun t287 => ((impl_DecInt.f t274).bind fun t288 => (some (t287 == t288))))) = some r := by rw [if_neg (show ¬ (false = true) by decide)] at H; exact H
                              clear H
                              have H := H1
                              clear H1
                              replace H := Option.bind_eq_some_iff.mp H
                              obtain ⟨t286, A570, H⟩ := H
                              replace H : ((impl_DecInt.f t286).bind fun t287 => ((impl_DecInt.f t274).bind fun t288 => (some (t287 == t288)))) = some r := H
                              have A57 := Aside0.mk A570
                              clear A570
                              replace H := Option.bind_eq_some_iff.mp H
                              obtain ⟨t287, A580, H⟩ := H
                              replace H : ((impl_DecInt.f t274).bind fun t288 => (some (t287 == t288))) = some r := H
                              have A58 := Aside0.mk A580
                              clear A580
                              replace H := Option.bind_eq_some_iff.mp H
                              obtain ⟨t288, A590, H⟩ := H
                              replace H : (some (t287 == t288)) = some r := H
                              have A59 := Aside0.mk A590
                              clear A590
                              have EA59 := Aside0.mk (Option.some.inj (A57.out.symm.trans A59.out) : t286 = t288)
                              as_aux_lemma =>
                                obtain rfl := Option.some.inj H
                                go_wp2_with (first | ((with_reducible refine gate_callee (f := 41) rfl ?_); refine goesL_ (some 189) rfl rfl Try.func41 (by as_aux_lemma => kernel_rfl) rfl #[.int .i64 t246, .int .i64 1000000] rfl (by (try simp only [List.map_toArray, List.map_cons, List.map_nil]); first | done | rfl | (simp only [List.length_drop, List.length_take]; rfl)) ?_; (with_reducible refine (impl_DecDiv.calls t246 1000000 t280 false _ A49.out).mono ?_); rintro e w' ⟨rfl, ⟨nd, rfl⟩⟩; refine ⟨_, rfl, ?_⟩) | ((with_reducible refine gate_callee (f := 49) rfl ?_); refine goesL_ (some 194) rfl rfl Try.func49 (by as_aux_lemma => kernel_rfl) rfl #[.int .i64 t246] rfl (by (try simp only [List.map_toArray, List.map_cons, List.map_nil]); first | done | rfl | (simp only [List.length_drop, List.length_take]; rfl)) ?_; (with_reducible refine (impl_DecOk.calls t246 t282 _ A50.out).mono ?_); rintro e w' ⟨rfl, ⟨nd, rfl⟩⟩; refine ⟨_, rfl, ?_⟩) | (go_at_call 47; (with_reducible refine (impl_DecInt.calls t274 t286 _ A57.out).mono ?_); rintro e w' ⟨rfl, ⟨nd, rfl⟩⟩) | (go_at_call 47; (with_reducible refine (impl_DecInt.calls t286 t287 _ A58.out).mono ?_); rintro e w' ⟨rfl, ⟨nd, rfl⟩⟩) | (go_at_call 47; (with_reducible refine (impl_DecInt.calls t274 t288 _ A59.out).mono ?_); rintro e w' ⟨rfl, ⟨nd, rfl⟩⟩))
                                go_ret
                                exact ⟨by first | rfl | (simp [errW_none, errW_some] <;> rfl) | (simp [*, errW_none, errW_some] <;> rfl) | (simp [bne, errW_none, errW_some]; done) | (simp [*, bne, errW_none, errW_some]; done) | (rw [EA56.out] <;> rfl) | (rw [EA59.out] <;> rfl), by repeat (first | (with_reducible first | exact HB.out | apply below_alloc | apply pw_below_drewN | apply below_drew1) | exact HB.out)⟩
                          · rw [if_neg c51] at H
                            have c51b0 : (t281 == t282) = false := by simpa using c51
                            (try (have c51b1 : decide (t281 = t282) = false := by simpa using c51))
                            (try (have c51b2 : (t281 == t282) = false := by simpa using c51))
                            (try (have c51b3 : ¬ (t281 = t282) := by simpa using c51))
                            clear c51
                            as_aux_lemma =>
                              obtain rfl := Option.some.inj H
                              go_wp2_with (first | ((with_reducible refine gate_callee (f := 41) rfl ?_); refine goesL_ (some 189) rfl rfl Try.func41 (by as_aux_lemma => kernel_rfl) rfl #[.int .i64 t246, .int .i64 1000000] rfl (by (try simp only [List.map_toArray, List.map_cons, List.map_nil]); first | done | rfl | (simp only [List.length_drop, List.length_take]; rfl)) ?_; (with_reducible refine (impl_DecDiv.calls t246 1000000 t280 t281 _ A49.out).mono ?_); rintro e w' ⟨rfl, ⟨nd, rfl⟩⟩; refine ⟨_, rfl, ?_⟩) | ((with_reducible refine gate_callee (f := 49) rfl ?_); refine goesL_ (some 194) rfl rfl Try.func49 (by as_aux_lemma => kernel_rfl) rfl #[.int .i64 t246] rfl (by (try simp only [List.map_toArray, List.map_cons, List.map_nil]); first | done | rfl | (simp only [List.length_drop, List.length_take]; rfl)) ?_; (with_reducible refine (impl_DecOk.calls t246 t282 _ A50.out).mono ?_); rintro e w' ⟨rfl, ⟨nd, rfl⟩⟩; refine ⟨_, rfl, ?_⟩))
                              go_ret
                              exact ⟨by first | rfl | (simp [errW_none, errW_some] <;> rfl) | (simp [*, errW_none, errW_some] <;> rfl) | (simp [bne, errW_none, errW_some]; done) | (simp [*, bne, errW_none, errW_some]; done) | (rw [EA56.out] <;> rfl) | (rw [EA59.out] <;> rfl), by repeat (first | (with_reducible first | exact HB.out | apply below_alloc | apply pw_below_drewN | apply below_drew1) | exact HB.out)⟩

end Go.Proofs.Ytgdhiccjllpogaa.QFnSums
