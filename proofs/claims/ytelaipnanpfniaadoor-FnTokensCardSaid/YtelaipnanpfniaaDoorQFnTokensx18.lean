/- Written by wip/pr2, a program of this session. -/
import Derived.Test.YtelaipnanpfniaaDoorQFnTokensx0
import Derived.Test.YtelaipnanpfniaaDoorQFnTokensx1
import Derived.Test.YtelaipnanpfniaaDoorQFnTokensx3
import Derived.Test.YtelaipnanpfniaaDoorQFnTokensx4
import Derived.Test.YtelaipnanpfniaaDoorQFnTokensx5
import Derived.Test.YtelaipnanpfniaaDoorQFnTokensx11
import Derived.Test.YtelaipnanpfniaaDoorQFnTokensx15
import Derived.Test.YtelaipnanpfniaaDoorQFnTokensx16
import Derived.Test.YtelaipnanpfniaaDoorQFnTokensx17
namespace Go.Proofs.YtelaipnanpfniaaDoor.QFnTokens
open Go.RowKit Go.Proofs.YtelaipnanpfniaaDoorW.PrintWords Go.Proofs.YtelaipnanpfniaaDoorW.PrintLast Go.Proofs.YtelaipnanpfniaaDoorW.PrintMore
attribute [local go_sem] max2_int min2_int max_two min_two max_three min_three max_four min_four   -- for this text's walks alone
set_option linter.unusedVariables false
set_option linter.unusedSimpArgs false
set_option maxHeartbeats 8000000

attribute [local go_sem high] eqA32
/-! ### laws_FnTokens: function 4 -/
set_option maxHeartbeats 8000000 in
set_option maxRecDepth 100000 in
theorem laws_FnTokens.calls (k : Nat) (A0 : Option Addr) (c0 : Nat) (l0 : List Int) (r : Bool) (w : World) (hr0 : Kd.C (Kd.int .u8) w A0 l0.length l0) (hc0 : l0.length ≤ c0) (h : laws_FnTokens.f k l0 = some r) :
    Calls Tryd.prog 4 #[.slice A0 l0.length c0] w fun e w' => e = .returned (.bool r) ∧ Below w.heap.size w w' := by
  have hu32 := Tryd.underlying32
  have HR0 := Aside0.mk hr0
  have HC0 := Aside0.mk hc0
  clear hr0 hc0
  have HB := Aside0.mk (Below.refl w.heap.size w)
  have H : ((laws_big.f l0).bind fun t373 => (if t373 = true then (some true) else ((spec_DrawTokens.f k l0).bind fun t374 => ((impl_Tokens.f k t374).bind fun bt375 => ((spec_Tokens.f k t374).bind fun bt379 => ((spec_DrawKeyword.f k l0).bind fun t383 => (if bt375.2 = bt379.2 then (if (bt375.1.length : Int) = (bt379.1.length : Int) then ((impl_Keyword.f k t383).bind fun t384 => ((spec_Keyword.f k t383).bind fun t385 => (laws_FnTokens.j0 k t374 bt375.1 bt375.2 bt379.1 (t384 != t385)))) else (laws_FnTokens.j0 k t374 bt375.1 bt375.2 bt379.1 true)) else (laws_FnTokens.j0 k t374 bt375.1 bt375.2 bt379.1 true)))))))) = some r := h
  clear h
  replace H := Option.bind_eq_some_iff.mp H
  obtain ⟨t373, A20, H⟩ := H
  replace H : (if t373 = true then (some true) else ((spec_DrawTokens.f k l0).bind fun t374 => ((impl_Tokens.f k t374).bind fun bt375 => ((spec_Tokens.f k t374).bind fun bt379 => ((spec_DrawKeyword.f k l0).bind fun t383 => (if bt375.2 = bt379.2 then (if (bt375.1.length : Int) = (bt379.1.length : Int) then ((impl_Keyword.f k t383).bind fun t384 => ((spec_Keyword.f k t383).bind fun t385 => (laws_FnTokens.j0 k t374 bt375.1 bt375.2 bt379.1 (t384 != t385)))) else (laws_FnTokens.j0 k t374 bt375.1 bt375.2 bt379.1 true)) else (laws_FnTokens.j0 k t374 bt375.1 bt375.2 bt379.1 true))))))) = some r := H
  have A2 := Aside0.mk A20
  clear A20
  by_cases c3 : t373 = true
  · subst c3
    have H1 : (some true) = some r := by rw [if_pos rfl] at H; exact H
    clear H
    have H := H1
    clear H1
    obtain rfl := Option.some.inj H
    go_enter Tryd.func4, Tryd.ntmps4
    go_wp2_with (first | (go_at_call 10; (with_reducible refine (laws_big.calls _ _ l0 true _ ?side1 ?side2 A2.out).mono ?_); (case side1 => repeat (first | exact HR0.out | (with_reducible refine Kd.C_alloc ?_ _) | (with_reducible refine Kd.C_drewN ?_ _) | (with_reducible refine Kd.C_drew ?_))); (case side2 => exact HC0.out); rintro e w' ⟨rfl, ⟨nd, rfl⟩⟩; (try first | exact ⟨rfl, _, World.drewN_drewN _ _ _⟩ | exact ⟨rfl, _, Eq.trans (World.drewN_drewN _ _ _) (congrArg (World.drewN _) (Nat.add_assoc _ _ _))⟩)))
    repeat (go_quiet (first | (go_at_call 10; (with_reducible refine (laws_big.calls _ _ l0 true _ ?side1 ?side2 A2.out).mono ?_); (case side1 => repeat (first | exact HR0.out | (with_reducible refine Kd.C_alloc ?_ _) | (with_reducible refine Kd.C_drewN ?_ _) | (with_reducible refine Kd.C_drew ?_))); (case side2 => exact HC0.out); rintro e w' ⟨rfl, ⟨nd, rfl⟩⟩; (try first | exact ⟨rfl, _, World.drewN_drewN _ _ _⟩ | exact ⟨rfl, _, Eq.trans (World.drewN_drewN _ _ _) (congrArg (World.drewN _) (Nat.add_assoc _ _ _))⟩))); try go_wp2_with (first | (go_at_call 10; (with_reducible refine (laws_big.calls _ _ l0 true _ ?side1 ?side2 A2.out).mono ?_); (case side1 => repeat (first | exact HR0.out | (with_reducible refine Kd.C_alloc ?_ _) | (with_reducible refine Kd.C_drewN ?_ _) | (with_reducible refine Kd.C_drew ?_))); (case side2 => exact HC0.out); rintro e w' ⟨rfl, ⟨nd, rfl⟩⟩; (try first | exact ⟨rfl, _, World.drewN_drewN _ _ _⟩ | exact ⟨rfl, _, Eq.trans (World.drewN_drewN _ _ _) (congrArg (World.drewN _) (Nat.add_assoc _ _ _))⟩))))
    go_ret
    exact ⟨by first | rfl | (simp [errW_none, errW_some] <;> rfl) | (simp [*, errW_none, errW_some] <;> rfl) | (simp [bne, errW_none, errW_some]; done) | (simp [*, bne, errW_none, errW_some]; done), by repeat (first | (with_reducible first | exact HB.out | apply below_alloc | apply pw_below_drewN | apply below_drew1) | exact HB.out)⟩
  · replace c3 := Bool.eq_false_iff.mpr c3
    subst c3
    have H1 : ((spec_DrawTokens.f k l0).bind fun t374 => ((impl_Tokens.f k t374).bind fun bt375 => ((spec_Tokens.f k t374).bind fun bt379 => ((spec_DrawKeyword.f k l0).bind fun t383 => (if bt375.2 = bt379.2 then (if (bt375.1.length : Int) = (bt379.1.length : Int) then ((impl_Keyword.f k t383).bind fun t384 => ((spec_Keyword.f k t383).bind fun t385 => (laws_FnTokens.j0 k t374 bt375.1 bt375.2 bt379.1 (t384 != t385)))) else (laws_FnTokens.j0 k t374 bt375.1 bt375.2 bt379.1 true)) else (laws_FnTokens.j0 k t374 bt375.1 bt375.2 bt379.1 true)))))) = some r := by rw [if_neg (show ¬ (false = true) by decide)] at H; exact H
    clear H
    have H := H1
    clear H1
    replace H := Option.bind_eq_some_iff.mp H
    obtain ⟨t374, A40, H⟩ := H
    replace H : ((impl_Tokens.f k t374).bind fun bt375 => ((spec_Tokens.f k t374).bind fun bt379 => ((spec_DrawKeyword.f k l0).bind fun t383 => (if bt375.2 = bt379.2 then (if (bt375.1.length : Int) = (bt379.1.length : Int) then ((impl_Keyword.f k t383).bind fun t384 => ((spec_Keyword.f k t383).bind fun t385 => (laws_FnTokens.j0 k t374 bt375.1 bt375.2 bt379.1 (t384 != t385)))) else (laws_FnTokens.j0 k t374 bt375.1 bt375.2 bt379.1 true)) else (laws_FnTokens.j0 k t374 bt375.1 bt375.2 bt379.1 true))))) = some r := H
    have A4 := Aside0.mk A40
    clear A40
    replace H := Option.bind_eq_some_iff.mp H
    obtain ⟨⟨t375, t376⟩, A50, H⟩ := H
    replace H : ((spec_Tokens.f k t374).bind fun bt379 => ((spec_DrawKeyword.f k l0).bind fun t383 => (if t376 = bt379.2 then (if (t375.length : Int) = (bt379.1.length : Int) then ((impl_Keyword.f k t383).bind fun t384 => ((spec_Keyword.f k t383).bind fun t385 => (laws_FnTokens.j0 k t374 t375 t376 bt379.1 (t384 != t385)))) else (laws_FnTokens.j0 k t374 t375 t376 bt379.1 true)) else (laws_FnTokens.j0 k t374 t375 t376 bt379.1 true)))) = some r := H
    have A5 := Aside0.mk A50
    clear A50
    replace H := Option.bind_eq_some_iff.mp H
    obtain ⟨⟨t379, t380⟩, A60, H⟩ := H
    replace H : ((spec_DrawKeyword.f k l0).bind fun t383 => (if t376 = t380 then (if (t375.length : Int) = (t379.length : Int) then ((impl_Keyword.f k t383).bind fun t384 => ((spec_Keyword.f k t383).bind fun t385 => (laws_FnTokens.j0 k t374 t375 t376 t379 (t384 != t385)))) else (laws_FnTokens.j0 k t374 t375 t376 t379 true)) else (laws_FnTokens.j0 k t374 t375 t376 t379 true))) = some r := H
    have A6 := Aside0.mk A60
    clear A60
    replace H := Option.bind_eq_some_iff.mp H
    obtain ⟨t383, A70, H⟩ := H
    replace H : (if t376 = t380 then (if (t375.length : Int) = (t379.length : Int) then ((impl_Keyword.f k t383).bind fun t384 => ((spec_Keyword.f k t383).bind fun t385 => (laws_FnTokens.j0 k t374 t375 t376 t379 (t384 != t385)))) else (laws_FnTokens.j0 k t374 t375 t376 t379 true)) else (laws_FnTokens.j0 k t374 t375 t376 t379 true)) = some r := H
    have A7 := Aside0.mk A70
    clear A70
    have HC8 := Aside0.mk H
    clear H
    go_enter Tryd.func4, Tryd.ntmps4
    go_upto_region 7 with (first | (go_at_call 10; (with_reducible refine (laws_big.calls _ _ l0 false _ ?side1 ?side2 A2.out).mono ?_); (case side1 => repeat (first | exact HR0.out | (with_reducible refine Kd.C_alloc ?_ _) | (with_reducible refine Kd.C_drewN ?_ _) | (with_reducible refine Kd.C_drew ?_))); (case side2 => exact HC0.out); rintro e w' ⟨rfl, ⟨nd, rfl⟩⟩; (try first | exact ⟨rfl, _, World.drewN_drewN _ _ _⟩ | exact ⟨rfl, _, Eq.trans (World.drewN_drewN _ _ _) (congrArg (World.drewN _) (Nat.add_assoc _ _ _))⟩)) | (go_at_call 11; (with_reducible refine (spec_DrawTokens.calls k _ _ l0 t374 _ ?side1 ?side2 A4.out).mono ?_); (case side1 => repeat (first | exact HR0.out | (with_reducible refine Kd.C_alloc ?_ _) | (with_reducible refine Kd.C_drewN ?_ _) | (with_reducible refine Kd.C_drew ?_))); (case side2 => exact HC0.out); rintro e w9 ⟨rfl, hb⟩; have n0_ := Aside0.mk (below_step (by repeat (first | (with_reducible first | exact HB.out | apply below_alloc | apply pw_below_drewN | apply below_drew1) | exact HB.out)) hb); clear HB; have HB := n0_; clear n0_; (try clear hb); (try clear hb2); (try clear hk); (try clear hi)) | (go_at_call 6; (with_reducible refine (impl_Tokens.calls k t374 t375 t376 _ A5.out).mono ?_); rintro e w10 ⟨v377, rfl, ho0, hb⟩; have n0_ := Aside0.mk (Kd.R_lower ho0 (below_size (by repeat (first | (with_reducible first | exact HB.out | apply below_alloc | apply pw_below_drewN | apply below_drew1) | exact HB.out)))); have n1_ := Aside0.mk (below_step (by repeat (first | (with_reducible first | exact HB.out | apply below_alloc | apply pw_below_drewN | apply below_drew1) | exact HB.out)) hb); clear HB; have HO378 := n0_; have HB := n1_; clear n0_ n1_; (try clear hb); (try clear hb2); (try clear hk); (try clear hi); (try clear ho0)) | (go_at_call 5; (with_reducible refine (spec_Tokens.calls k t374 t379 t380 _ A6.out).mono ?_); rintro e w11 ⟨v381, rfl, ho0, hb⟩; have n0_ := Aside0.mk (Kd.R_elder' (by (with_reducible repeat (first | apply Kd.R_alloc | apply Kd.R_drewN | apply Kd.R_drew)); exact HO378.out) (Kd.R_base ho0) hb); have n1_ := Aside0.mk (Kd.R_lower (Kd.R_new' ho0 (Kd.R_lt (by (with_reducible repeat (first | apply Kd.R_alloc | apply Kd.R_drewN | apply Kd.R_drew)); exact HO378.out))) (below_size (by repeat (first | (with_reducible first | exact HB.out | apply below_alloc | apply pw_below_drewN | apply below_drew1) | exact HB.out)))); have n2_ := Aside0.mk (below_step (by repeat (first | (with_reducible first | exact HB.out | apply below_alloc | apply pw_below_drewN | apply below_drew1) | exact HB.out)) hb); clear HO378; clear HB; have HO378 := n0_; have HO382 := n1_; have HB := n2_; clear n0_ n1_ n2_; (try clear hb); (try clear hb2); (try clear hk); (try clear hi); (try clear ho0)) | (go_at_call 12; (with_reducible refine (spec_DrawKeyword.calls k _ _ l0 t383 _ ?side1 ?side2 A7.out).mono ?_); (case side1 => repeat (first | exact (Kd.C_below HR0.out HB.out) | (with_reducible refine Kd.C_alloc ?_ _) | (with_reducible refine Kd.C_drewN ?_ _) | (with_reducible refine Kd.C_drew ?_))); (case side2 => exact HC0.out); rintro e w12 ⟨rfl, hb⟩; have n0_ := Aside0.mk (Kd.R_below (by (with_reducible repeat (first | apply Kd.R_alloc | apply Kd.R_drewN | apply Kd.R_drew)); exact HO378.out) hb); have n1_ := Aside0.mk (Kd.R_below (by (with_reducible repeat (first | apply Kd.R_alloc | apply Kd.R_drewN | apply Kd.R_drew)); exact HO382.out) hb); have n2_ := Aside0.mk (below_step (by repeat (first | (with_reducible first | exact HB.out | apply below_alloc | apply pw_below_drewN | apply below_drew1) | exact HB.out)) hb); clear HO378; clear HO382; clear HB; have HO378 := n0_; have HO382 := n1_; have HB := n2_; clear n0_ n1_ n2_; (try clear hb); (try clear hb2); (try clear hk); (try clear hi)))
    repeat (go_quiet (first | (go_at_call 10; (with_reducible refine (laws_big.calls _ _ l0 false _ ?side1 ?side2 A2.out).mono ?_); (case side1 => repeat (first | exact HR0.out | (with_reducible refine Kd.C_alloc ?_ _) | (with_reducible refine Kd.C_drewN ?_ _) | (with_reducible refine Kd.C_drew ?_))); (case side2 => exact HC0.out); rintro e w' ⟨rfl, ⟨nd, rfl⟩⟩; (try first | exact ⟨rfl, _, World.drewN_drewN _ _ _⟩ | exact ⟨rfl, _, Eq.trans (World.drewN_drewN _ _ _) (congrArg (World.drewN _) (Nat.add_assoc _ _ _))⟩)) | (go_at_call 11; (with_reducible refine (spec_DrawTokens.calls k _ _ l0 t374 _ ?side1 ?side2 A4.out).mono ?_); (case side1 => repeat (first | exact HR0.out | (with_reducible refine Kd.C_alloc ?_ _) | (with_reducible refine Kd.C_drewN ?_ _) | (with_reducible refine Kd.C_drew ?_))); (case side2 => exact HC0.out); rintro e w9 ⟨rfl, hb⟩; have n0_ := Aside0.mk (below_step (by repeat (first | (with_reducible first | exact HB.out | apply below_alloc | apply pw_below_drewN | apply below_drew1) | exact HB.out)) hb); clear HB; have HB := n0_; clear n0_; (try clear hb); (try clear hb2); (try clear hk); (try clear hi)) | (go_at_call 6; (with_reducible refine (impl_Tokens.calls k t374 t375 t376 _ A5.out).mono ?_); rintro e w10 ⟨v377, rfl, ho0, hb⟩; have n0_ := Aside0.mk (Kd.R_lower ho0 (below_size (by repeat (first | (with_reducible first | exact HB.out | apply below_alloc | apply pw_below_drewN | apply below_drew1) | exact HB.out)))); have n1_ := Aside0.mk (below_step (by repeat (first | (with_reducible first | exact HB.out | apply below_alloc | apply pw_below_drewN | apply below_drew1) | exact HB.out)) hb); clear HB; have HO378 := n0_; have HB := n1_; clear n0_ n1_; (try clear hb); (try clear hb2); (try clear hk); (try clear hi); (try clear ho0)) | (go_at_call 5; (with_reducible refine (spec_Tokens.calls k t374 t379 t380 _ A6.out).mono ?_); rintro e w11 ⟨v381, rfl, ho0, hb⟩; have n0_ := Aside0.mk (Kd.R_elder' (by (with_reducible repeat (first | apply Kd.R_alloc | apply Kd.R_drewN | apply Kd.R_drew)); exact HO378.out) (Kd.R_base ho0) hb); have n1_ := Aside0.mk (Kd.R_lower (Kd.R_new' ho0 (Kd.R_lt (by (with_reducible repeat (first | apply Kd.R_alloc | apply Kd.R_drewN | apply Kd.R_drew)); exact HO378.out))) (below_size (by repeat (first | (with_reducible first | exact HB.out | apply below_alloc | apply pw_below_drewN | apply below_drew1) | exact HB.out)))); have n2_ := Aside0.mk (below_step (by repeat (first | (with_reducible first | exact HB.out | apply below_alloc | apply pw_below_drewN | apply below_drew1) | exact HB.out)) hb); clear HO378; clear HB; have HO378 := n0_; have HO382 := n1_; have HB := n2_; clear n0_ n1_ n2_; (try clear hb); (try clear hb2); (try clear hk); (try clear hi); (try clear ho0)) | (go_at_call 12; (with_reducible refine (spec_DrawKeyword.calls k _ _ l0 t383 _ ?side1 ?side2 A7.out).mono ?_); (case side1 => repeat (first | exact (Kd.C_below HR0.out HB.out) | (with_reducible refine Kd.C_alloc ?_ _) | (with_reducible refine Kd.C_drewN ?_ _) | (with_reducible refine Kd.C_drew ?_))); (case side2 => exact HC0.out); rintro e w12 ⟨rfl, hb⟩; have n0_ := Aside0.mk (Kd.R_below (by (with_reducible repeat (first | apply Kd.R_alloc | apply Kd.R_drewN | apply Kd.R_drew)); exact HO378.out) hb); have n1_ := Aside0.mk (Kd.R_below (by (with_reducible repeat (first | apply Kd.R_alloc | apply Kd.R_drewN | apply Kd.R_drew)); exact HO382.out) hb); have n2_ := Aside0.mk (below_step (by repeat (first | (with_reducible first | exact HB.out | apply below_alloc | apply pw_below_drewN | apply below_drew1) | exact HB.out)) hb); clear HO378; clear HO382; clear HB; have HO378 := n0_; have HO382 := n1_; have HB := n2_; clear n0_ n1_ n2_; (try clear hb); (try clear hb2); (try clear hk); (try clear hi))); go_upto_region 7 with (first | (go_at_call 10; (with_reducible refine (laws_big.calls _ _ l0 false _ ?side1 ?side2 A2.out).mono ?_); (case side1 => repeat (first | exact HR0.out | (with_reducible refine Kd.C_alloc ?_ _) | (with_reducible refine Kd.C_drewN ?_ _) | (with_reducible refine Kd.C_drew ?_))); (case side2 => exact HC0.out); rintro e w' ⟨rfl, ⟨nd, rfl⟩⟩; (try first | exact ⟨rfl, _, World.drewN_drewN _ _ _⟩ | exact ⟨rfl, _, Eq.trans (World.drewN_drewN _ _ _) (congrArg (World.drewN _) (Nat.add_assoc _ _ _))⟩)) | (go_at_call 11; (with_reducible refine (spec_DrawTokens.calls k _ _ l0 t374 _ ?side1 ?side2 A4.out).mono ?_); (case side1 => repeat (first | exact HR0.out | (with_reducible refine Kd.C_alloc ?_ _) | (with_reducible refine Kd.C_drewN ?_ _) | (with_reducible refine Kd.C_drew ?_))); (case side2 => exact HC0.out); rintro e w9 ⟨rfl, hb⟩; have n0_ := Aside0.mk (below_step (by repeat (first | (with_reducible first | exact HB.out | apply below_alloc | apply pw_below_drewN | apply below_drew1) | exact HB.out)) hb); clear HB; have HB := n0_; clear n0_; (try clear hb); (try clear hb2); (try clear hk); (try clear hi)) | (go_at_call 6; (with_reducible refine (impl_Tokens.calls k t374 t375 t376 _ A5.out).mono ?_); rintro e w10 ⟨v377, rfl, ho0, hb⟩; have n0_ := Aside0.mk (Kd.R_lower ho0 (below_size (by repeat (first | (with_reducible first | exact HB.out | apply below_alloc | apply pw_below_drewN | apply below_drew1) | exact HB.out)))); have n1_ := Aside0.mk (below_step (by repeat (first | (with_reducible first | exact HB.out | apply below_alloc | apply pw_below_drewN | apply below_drew1) | exact HB.out)) hb); clear HB; have HO378 := n0_; have HB := n1_; clear n0_ n1_; (try clear hb); (try clear hb2); (try clear hk); (try clear hi); (try clear ho0)) | (go_at_call 5; (with_reducible refine (spec_Tokens.calls k t374 t379 t380 _ A6.out).mono ?_); rintro e w11 ⟨v381, rfl, ho0, hb⟩; have n0_ := Aside0.mk (Kd.R_elder' (by (with_reducible repeat (first | apply Kd.R_alloc | apply Kd.R_drewN | apply Kd.R_drew)); exact HO378.out) (Kd.R_base ho0) hb); have n1_ := Aside0.mk (Kd.R_lower (Kd.R_new' ho0 (Kd.R_lt (by (with_reducible repeat (first | apply Kd.R_alloc | apply Kd.R_drewN | apply Kd.R_drew)); exact HO378.out))) (below_size (by repeat (first | (with_reducible first | exact HB.out | apply below_alloc | apply pw_below_drewN | apply below_drew1) | exact HB.out)))); have n2_ := Aside0.mk (below_step (by repeat (first | (with_reducible first | exact HB.out | apply below_alloc | apply pw_below_drewN | apply below_drew1) | exact HB.out)) hb); clear HO378; clear HB; have HO378 := n0_; have HO382 := n1_; have HB := n2_; clear n0_ n1_ n2_; (try clear hb); (try clear hb2); (try clear hk); (try clear hi); (try clear ho0)) | (go_at_call 12; (with_reducible refine (spec_DrawKeyword.calls k _ _ l0 t383 _ ?side1 ?side2 A7.out).mono ?_); (case side1 => repeat (first | exact (Kd.C_below HR0.out HB.out) | (with_reducible refine Kd.C_alloc ?_ _) | (with_reducible refine Kd.C_drewN ?_ _) | (with_reducible refine Kd.C_drew ?_))); (case side2 => exact HC0.out); rintro e w12 ⟨rfl, hb⟩; have n0_ := Aside0.mk (Kd.R_below (by (with_reducible repeat (first | apply Kd.R_alloc | apply Kd.R_drewN | apply Kd.R_drew)); exact HO378.out) hb); have n1_ := Aside0.mk (Kd.R_below (by (with_reducible repeat (first | apply Kd.R_alloc | apply Kd.R_drewN | apply Kd.R_drew)); exact HO382.out) hb); have n2_ := Aside0.mk (below_step (by repeat (first | (with_reducible first | exact HB.out | apply below_alloc | apply pw_below_drewN | apply below_drew1) | exact HB.out)) hb); clear HO378; clear HO382; clear HB; have HO378 := n0_; have HO382 := n1_; have HB := n2_; clear n0_ n1_ n2_; (try clear hb); (try clear hb2); (try clear hk); (try clear hi))))
    (try simp only [Act.put, List.setIfInBounds_toArray, List.set_cons_zero, List.set_cons_succ])
    go_cut [43] (fun v43 wc => ∃ (kq : Nat) (x43_7 : Bool), v43 = .bool x43_7 ∧ Aside0 (laws_FnTokens.j0 kq t374 t375 t376 t379 x43_7 = some r) ∧ Aside0 (kq ≤ k) ∧ Aside0 (Kd.R k32 32 wc w.heap.size (fun k_ => some k_ ≠ (v381 : Value).ownBlock) v377 t375) ∧ Aside0 (Kd.R k32 32 wc w.heap.size (fun k_ => some k_ ≠ (v377 : Value).ownBlock) v381 t379) ∧ Aside0 (Below w.heap.size w wc))
    case first =>
      have H := HC8.out
      clear HC8
      by_cases c13 : t376 = t380
      · rw [if_pos c13] at H
        have c13b0 : (t376 == t380) = true := beq_iff_eq.mpr c13
        have c13b1 : (t376 != t380) = false := bne_eq_false_iff_eq.mpr c13
        clear c13
        (first | rw [c13b0] | (simp only [i64_w, i32_w]; rw [c13b0]) | skip)
        by_cases c14 : (t375.length : Int) = (t379.length : Int)
        · rw [if_pos c14] at H
          have c14b0 : ((t375.length : Int) == (t379.length : Int)) = true := beq_iff_eq.mpr c14
          have c14b1 : ((t375.length : Int) != (t379.length : Int)) = false := bne_eq_false_iff_eq.mpr c14
          have c14b2 : (t375.length == t379.length) = true := by first | simpa using c14 | (simp at c14 ⊢; omega)
          clear c14
          replace H := Option.bind_eq_some_iff.mp H
          obtain ⟨t384, A150, H⟩ := H
          replace H : ((spec_Keyword.f k t383).bind fun t385 => (laws_FnTokens.j0 k t374 t375 t376 t379 (t384 != t385))) = some r := H
          have A15 := Aside0.mk A150
          clear A150
          replace H := Option.bind_eq_some_iff.mp H
          obtain ⟨t385, A160, H⟩ := H
          replace H : (laws_FnTokens.j0 k t374 t375 t376 t379 (t384 != t385)) = some r := H
          have A16 := Aside0.mk A160
          clear A160
          have H' := Aside0.mk H
          clear H
          obtain ⟨Ao17, co17, eo17⟩ := Kd.R_slice HO378.out
          subst eo17
          obtain ⟨Ao18, co18, eo18⟩ := Kd.R_slice HO382.out
          subst eo18
          go_wp2_with (first | (go_at_call 13; (with_reducible refine (impl_Keyword.calls k t383 t384 _ A15.out).mono ?_); rintro e w19 ⟨rfl, hb⟩; have n0_ := Aside0.mk (Kd.R_below (by (with_reducible repeat (first | apply Kd.R_alloc | apply Kd.R_drewN | apply Kd.R_drew)); exact HO378.out) hb); have n1_ := Aside0.mk (Kd.R_below (by (with_reducible repeat (first | apply Kd.R_alloc | apply Kd.R_drewN | apply Kd.R_drew)); exact HO382.out) hb); have n2_ := Aside0.mk (below_step (by repeat (first | (with_reducible first | exact HB.out | apply below_alloc | apply pw_below_drewN | apply below_drew1) | exact HB.out)) hb); clear HO378; clear HO382; clear HB; have HO378 := n0_; have HO382 := n1_; have HB := n2_; clear n0_ n1_ n2_; (try clear hb); (try clear hb2); (try clear hk); (try clear hi)) | (go_at_call 14; (with_reducible refine (spec_Keyword.calls k t383 t385 _ A16.out).mono ?_); rintro e w20 ⟨rfl, hb⟩; have n0_ := Aside0.mk (Kd.R_below (by (with_reducible repeat (first | apply Kd.R_alloc | apply Kd.R_drewN | apply Kd.R_drew)); exact HO378.out) hb); have n1_ := Aside0.mk (Kd.R_below (by (with_reducible repeat (first | apply Kd.R_alloc | apply Kd.R_drewN | apply Kd.R_drew)); exact HO382.out) hb); have n2_ := Aside0.mk (below_step (by repeat (first | (with_reducible first | exact HB.out | apply below_alloc | apply pw_below_drewN | apply below_drew1) | exact HB.out)) hb); clear HO378; clear HO382; clear HB; have HO378 := n0_; have HO382 := n1_; have HB := n2_; clear n0_ n1_ n2_; (try clear hb); (try clear hb2); (try clear hk); (try clear hi)))
          repeat (go_quiet (first | (go_at_call 13; (with_reducible refine (impl_Keyword.calls k t383 t384 _ A15.out).mono ?_); rintro e w19 ⟨rfl, hb⟩; have n0_ := Aside0.mk (Kd.R_below (by (with_reducible repeat (first | apply Kd.R_alloc | apply Kd.R_drewN | apply Kd.R_drew)); exact HO378.out) hb); have n1_ := Aside0.mk (Kd.R_below (by (with_reducible repeat (first | apply Kd.R_alloc | apply Kd.R_drewN | apply Kd.R_drew)); exact HO382.out) hb); have n2_ := Aside0.mk (below_step (by repeat (first | (with_reducible first | exact HB.out | apply below_alloc | apply pw_below_drewN | apply below_drew1) | exact HB.out)) hb); clear HO378; clear HO382; clear HB; have HO378 := n0_; have HO382 := n1_; have HB := n2_; clear n0_ n1_ n2_; (try clear hb); (try clear hb2); (try clear hk); (try clear hi)) | (go_at_call 14; (with_reducible refine (spec_Keyword.calls k t383 t385 _ A16.out).mono ?_); rintro e w20 ⟨rfl, hb⟩; have n0_ := Aside0.mk (Kd.R_below (by (with_reducible repeat (first | apply Kd.R_alloc | apply Kd.R_drewN | apply Kd.R_drew)); exact HO378.out) hb); have n1_ := Aside0.mk (Kd.R_below (by (with_reducible repeat (first | apply Kd.R_alloc | apply Kd.R_drewN | apply Kd.R_drew)); exact HO382.out) hb); have n2_ := Aside0.mk (below_step (by repeat (first | (with_reducible first | exact HB.out | apply below_alloc | apply pw_below_drewN | apply below_drew1) | exact HB.out)) hb); clear HO378; clear HO382; clear HB; have HO378 := n0_; have HO382 := n1_; have HB := n2_; clear n0_ n1_ n2_; (try clear hb); (try clear hb2); (try clear hk); (try clear hi))); try go_wp2_with (first | (go_at_call 13; (with_reducible refine (impl_Keyword.calls k t383 t384 _ A15.out).mono ?_); rintro e w19 ⟨rfl, hb⟩; have n0_ := Aside0.mk (Kd.R_below (by (with_reducible repeat (first | apply Kd.R_alloc | apply Kd.R_drewN | apply Kd.R_drew)); exact HO378.out) hb); have n1_ := Aside0.mk (Kd.R_below (by (with_reducible repeat (first | apply Kd.R_alloc | apply Kd.R_drewN | apply Kd.R_drew)); exact HO382.out) hb); have n2_ := Aside0.mk (below_step (by repeat (first | (with_reducible first | exact HB.out | apply below_alloc | apply pw_below_drewN | apply below_drew1) | exact HB.out)) hb); clear HO378; clear HO382; clear HB; have HO378 := n0_; have HO382 := n1_; have HB := n2_; clear n0_ n1_ n2_; (try clear hb); (try clear hb2); (try clear hk); (try clear hi)) | (go_at_call 14; (with_reducible refine (spec_Keyword.calls k t383 t385 _ A16.out).mono ?_); rintro e w20 ⟨rfl, hb⟩; have n0_ := Aside0.mk (Kd.R_below (by (with_reducible repeat (first | apply Kd.R_alloc | apply Kd.R_drewN | apply Kd.R_drew)); exact HO378.out) hb); have n1_ := Aside0.mk (Kd.R_below (by (with_reducible repeat (first | apply Kd.R_alloc | apply Kd.R_drewN | apply Kd.R_drew)); exact HO382.out) hb); have n2_ := Aside0.mk (below_step (by repeat (first | (with_reducible first | exact HB.out | apply below_alloc | apply pw_below_drewN | apply below_drew1) | exact HB.out)) hb); clear HO378; clear HO382; clear HB; have HO378 := n0_; have HO382 := n1_; have HB := n2_; clear n0_ n1_ n2_; (try clear hb); (try clear hb2); (try clear hk); (try clear hi))))
          go_meet
          case rel => exact ⟨_, ((t384 != t385)), (by first | rfl | (simp; done) | (simp [*]; done) | (simp [Int.tdiv_eq_ediv_of_nonneg]; done)), (by first | exact H' | ((repeat (first | rw [hji32] | rw [hji56] | rw [hji62])); exact H')), ⟨by first | omega | exact Nat.le_refl _⟩, ⟨by (with_reducible repeat (first | apply Kd.R_alloc | apply Kd.R_drewN | apply Kd.R_drew)); exact Kd.R_mono HO378.out (fun _ hk => hk.2)⟩, ⟨by (with_reducible repeat (first | apply Kd.R_alloc | apply Kd.R_drewN | apply Kd.R_drew)); exact Kd.R_mono HO382.out (fun _ hk => hk.2)⟩, ⟨by repeat (first | (with_reducible first | exact HB.out | apply below_alloc | apply pw_below_drewN | apply below_drew1) | exact HB.out)⟩⟩
        · rw [if_neg c14] at H
          have c14b0 : ((t375.length : Int) == (t379.length : Int)) = false := beq_eq_false_iff_ne.mpr c14
          have c14b1 : ((t375.length : Int) != (t379.length : Int)) = true := bne_iff_ne.mpr c14
          have c14b2 : (t375.length == t379.length) = false := by first | simpa using c14 | (simp at c14 ⊢; omega)
          have H' := Aside0.mk H
          clear H
          obtain ⟨Ao21, co21, eo21⟩ := Kd.R_slice HO378.out
          subst eo21
          obtain ⟨Ao22, co22, eo22⟩ := Kd.R_slice HO382.out
          subst eo22
          go_wp2
          repeat (go_quiet (fail); try go_wp2)
          go_meet
          case rel => exact ⟨_, (true), (by first | rfl | (simp; done) | (simp [*]; done) | (simp [Int.tdiv_eq_ediv_of_nonneg]; done)), (by first | exact H' | ((repeat (first | rw [hji32] | rw [hji56] | rw [hji62])); exact H')), ⟨by first | omega | exact Nat.le_refl _⟩, ⟨by (with_reducible repeat (first | apply Kd.R_alloc | apply Kd.R_drewN | apply Kd.R_drew)); exact Kd.R_mono HO378.out (fun _ hk => hk.2)⟩, ⟨by (with_reducible repeat (first | apply Kd.R_alloc | apply Kd.R_drewN | apply Kd.R_drew)); exact Kd.R_mono HO382.out (fun _ hk => hk.2)⟩, ⟨by repeat (first | (with_reducible first | exact HB.out | apply below_alloc | apply pw_below_drewN | apply below_drew1) | exact HB.out)⟩⟩
      · rw [if_neg c13] at H
        have c13b0 : (t376 == t380) = false := beq_eq_false_iff_ne.mpr c13
        have c13b1 : (t376 != t380) = true := bne_iff_ne.mpr c13
        (first | rw [c13b0] | (simp only [i64_w, i32_w]; rw [c13b0]) | skip)
        have H' := Aside0.mk H
        clear H
        go_wp2
        repeat (go_quiet (fail); try go_wp2)
        go_meet
        case rel => exact ⟨_, (true), (by first | rfl | (simp; done) | (simp [*]; done) | (simp [Int.tdiv_eq_ediv_of_nonneg]; done)), (by first | exact H' | ((repeat (first | rw [hji32] | rw [hji56] | rw [hji62])); exact H')), ⟨by first | omega | exact Nat.le_refl _⟩, ⟨by (with_reducible repeat (first | apply Kd.R_alloc | apply Kd.R_drewN | apply Kd.R_drew)); exact Kd.R_mono HO378.out (fun _ hk => hk.2)⟩, ⟨by (with_reducible repeat (first | apply Kd.R_alloc | apply Kd.R_drewN | apply Kd.R_drew)); exact Kd.R_mono HO382.out (fun _ hk => hk.2)⟩, ⟨by repeat (first | (with_reducible first | exact HB.out | apply below_alloc | apply pw_below_drewN | apply below_drew1) | exact HB.out)⟩⟩
    case rest =>
      clear HC8
      try clear c1
      try clear p2
      try clear c3
      try clear c4
      try clear c13
      try clear c13b0
      try clear c13b1
      try clear c14
      try clear c14b0
      try clear c14b1
      try clear c14b2
      obtain ⟨kq, x43_7, rfl, HA, HJ7, HO_4, HO_6, HB⟩ := hcut
      cases kq with
      | zero => exact absurd HA.out (by simp [laws_FnTokens.j0])
      | succ kj7 =>
        have H := HA.out
        clear HA
        simp only [laws_FnTokens.j0] at H
        by_cases c23 : x43_7 = true
        · subst c23
          have H1 : (some false) = some r := by rw [if_pos rfl] at H; exact H
          clear H
          have H := H1
          clear H1
          obtain rfl := Option.some.inj H
          go_wp2
          repeat (go_quiet (fail); try go_wp2)
          go_ret
          exact ⟨by first | rfl | (simp [errW_none, errW_some] <;> rfl) | (simp [*, errW_none, errW_some] <;> rfl) | (simp [bne, errW_none, errW_some]; done) | (simp [*, bne, errW_none, errW_some]; done), by repeat (first | (with_reducible first | exact HB.out | apply below_alloc | apply pw_below_drewN | apply below_drew1) | exact HB.out)⟩
        · replace c23 := Bool.eq_false_iff.mpr c23
          subst c23
          have H1 : (laws_FnTokens.l0 kj7 t374 t375 t376 t379 0) = some r := by rw [if_neg (show ¬ (false = true) by decide)] at H; exact H
          clear H
          have H := H1
          clear H1
          have H' := Aside0.mk H
          clear H
          go_wp2
          repeat (go_quiet (fail); try go_wp2)
          go_loopg [9] kj7 (fun kq v9 w' => ∃ (x9_2 : Int), v9 = .int .i64 x9_2 ∧ Aside0 (laws_FnTokens.l0 kq t374 t375 t376 t379 x9_2 = some r) ∧ Aside0 (kq ≤ kj7) ∧ Aside0 (Kd.R k32 32 w' w.heap.size (fun k_ => some k_ ≠ (v381 : Value).ownBlock) v377 t375) ∧ Aside0 (Kd.R k32 32 w' w.heap.size (fun k_ => some k_ ≠ (v377 : Value).ownBlock) v381 t379) ∧ Aside0 (Below w.heap.size w w'))
          case atStart => exact ⟨(0), (by first | rfl | (simp; done) | (simp [*]; done) | (simp [Int.tdiv_eq_ediv_of_nonneg]; done)), H', ⟨Nat.le_refl _⟩, ⟨by (with_reducible repeat (first | apply Kd.R_alloc | apply Kd.R_drewN | apply Kd.R_drew)); exact HO_4.out⟩, ⟨by (with_reducible repeat (first | apply Kd.R_alloc | apply Kd.R_drewN | apply Kd.R_drew)); exact HO_6.out⟩, ⟨by repeat (first | (with_reducible first | exact HB.out | apply below_alloc | apply pw_below_drewN | apply below_drew1) | exact HB.out)⟩⟩
          case round =>
            clear H'
            try clear c1
            try clear c2
            try clear p2
            try clear c3
            try clear c4
            try clear c13
            try clear c13b0
            try clear c13b1
            try clear c14
            try clear c14b0
            try clear c14b1
            try clear c14b2
            try clear c23
            try clear p2
            obtain ⟨x9_2, rfl, HA, HK2, HO_4, HO_6, HB⟩ := hrel
            cases gk with
            | zero => exact absurd HA.out (by simp [laws_FnTokens.l0])
            | succ k2 =>
              have H := HA.out
              clear HA
              simp only [laws_FnTokens.l0] at H
              by_cases c24 : x9_2 < (t375.length : Int)
              · rw [if_pos c24] at H
                have c24b0 : decide (x9_2 < (t375.length : Int)) = true := decide_eq_true c24
                clear c24
                have HC25 := Aside0.mk H
                clear H
                obtain ⟨Ao26, co26, eo26⟩ := Kd.R_slice HO_4.out
                subst eo26
                go_upto_region 12 with (fail)
                repeat (go_quiet (fail); go_upto_region 12 with (fail))
                go_cut [84] (fun v84 wc => ∃ (kq : Nat) (x84_24 : Bool), v84 = .bool x84_24 ∧ Aside0 (laws_FnTokens.j2 kq t374 t375 t376 t379 x9_2 x84_24 = some r) ∧ Aside0 (kq ≤ k2) ∧ Aside0 (Kd.R k32 32 wc w.heap.size (fun k_ => some k_ ≠ (v381 : Value).ownBlock) (.slice Ao26 t375.length co26) t375) ∧ Aside0 (Kd.R k32 32 wc w.heap.size (fun k_ => some k_ ≠ ((.slice Ao26 t375.length co26) : Value).ownBlock) v381 t379) ∧ Aside0 (Below w.heap.size w wc))
                case first =>
                  have H := HC25.out
                  clear HC25
                  by_cases c27 : 0 ≤ x9_2
                  · rw [if_pos c27] at H
                    have c27b0 : decide (0 ≤ x9_2) = true := decide_eq_true c27
                    clear c27
                    (first | rw [c27b0] | (simp only [i64_w, i32_w]; rw [c27b0]) | skip)
                    by_cases c28 : x9_2 < (t379.length : Int)
                    · rw [if_pos c28] at H
                      have c28b0 : decide (x9_2 < (t379.length : Int)) = true := decide_eq_true c28
                      clear c28
                      by_cases c29 : (!(((rd_T32 t375 x9_2).f0) == ((rd_T32 t379 x9_2).f0)) || (!((((rd_T32 t375 x9_2).f1).toList) == (((rd_T32 t379 x9_2).f1).toList)) || (!(((rd_T32 t375 x9_2).f2) == ((rd_T32 t379 x9_2).f2)) || (!(((rd_T32 t375 x9_2).f3) == ((rd_T32 t379 x9_2).f3)))))) = true
                      · rw [if_pos c29] at H
                        have c29b0 : (!(((rd_T32 t375 x9_2).f0) == ((rd_T32 t379 x9_2).f0)) || (!((((rd_T32 t375 x9_2).f1).toList) == (((rd_T32 t379 x9_2).f1).toList)) || (!(((rd_T32 t375 x9_2).f2) == ((rd_T32 t379 x9_2).f2)) || (!(((rd_T32 t375 x9_2).f3) == ((rd_T32 t379 x9_2).f3)))))) = true := c29
                        clear c29
                        have H' := Aside0.mk H
                        clear H
                        have p388 : 0 ≤ (x9_2 : Int) := of_decide_eq_true (by first | (with_reducible assumption) | assumption)
                        have q388 : x9_2 < (t375.length : Int) := of_decide_eq_true (by first | (with_reducible assumption) | assumption)
                        obtain ⟨ad388, e388, hx388_0, hx388_1, hx388_2, hx388_3⟩ := at_T32 (Kd.R_reads' HO_4.out).2.2 x9_2 p388 q388
                        cases e388
                        replace p388 := eq_true p388
                        replace q388 := eq_true q388
                        obtain ⟨Ao30, co30, eo30⟩ := Kd.R_slice HO_6.out
                        subst eo30
                        have p389 : 0 ≤ (x9_2 : Int) := of_decide_eq_true (by first | (with_reducible assumption) | assumption)
                        have q389 : x9_2 < (t379.length : Int) := of_decide_eq_true (by first | (with_reducible assumption) | assumption)
                        obtain ⟨ad389, e389, hx389_0, hx389_1, hx389_2, hx389_3⟩ := at_T32 (Kd.R_reads' HO_6.out).2.2 x9_2 p389 q389
                        cases e389
                        replace p389 := eq_true p389
                        replace q389 := eq_true q389
                        go_wp2
                        repeat (go_quiet (fail); try go_wp2)
                        go_meet
                        case rel => exact ⟨_, (true), (by first | rfl | (simp; done) | (simp [*]; done) | (simp [Int.tdiv_eq_ediv_of_nonneg]; done)), (by first | exact H' | ((repeat (first | rw [hji32] | rw [hji56] | rw [hji62])); exact H')), ⟨by have := HJ7.out; have := HK2.out; first | omega | exact Nat.le_refl _⟩, ⟨by (with_reducible repeat (first | apply Kd.R_alloc | apply Kd.R_drewN | apply Kd.R_drew)); exact HO_4.out⟩, ⟨by (with_reducible repeat (first | apply Kd.R_alloc | apply Kd.R_drewN | apply Kd.R_drew)); exact HO_6.out⟩, ⟨by repeat (first | (with_reducible first | exact HB.out | apply below_alloc | apply pw_below_drewN | apply below_drew1) | exact HB.out)⟩⟩
                      · rw [if_neg c29] at H
                        have c29b0 : (!(((rd_T32 t375 x9_2).f0) == ((rd_T32 t379 x9_2).f0)) || (!((((rd_T32 t375 x9_2).f1).toList) == (((rd_T32 t379 x9_2).f1).toList)) || (!(((rd_T32 t375 x9_2).f2) == ((rd_T32 t379 x9_2).f2)) || (!(((rd_T32 t375 x9_2).f3) == ((rd_T32 t379 x9_2).f3)))))) = false := by simpa using c29
                        clear c29
                        by_cases c31 : x9_2 > 0
                        · rw [if_pos c31] at H
                          have c31b0 : decide (0 < x9_2) = true := decide_eq_true c31
                          clear c31
                          obtain ⟨ji32, hji32⟩ : ∃ j_ : Int, (wrap64 (x9_2 - 1)) = j_ := ⟨_, rfl⟩
                          replace H : (if 0 ≤ (ji32) then (if (ji32) < (t375.length : Int) then (if ((rd_T32 t375 x9_2).f3) ≤ ((rd_T32 t375 (ji32)).f3) then (laws_FnTokens.j2 k2 t374 t375 t376 t379 x9_2 (((rd_T32 t375 x9_2).f0) != 0)) else (laws_FnTokens.j2 k2 t374 t375 t376 t379 x9_2 false)) else (none)) else (none)) = some r := by first | (rw [hji32] at H; exact H) | (simp only [hji32] at H ⊢; exact H)
                          have hji32w : (IntKind.i64.wrap (x9_2 - 1)) = ji32 := (i64_w _).trans hji32
                          by_cases c33 : 0 ≤ (ji32)
                          · rw [if_pos c33] at H
                            have c33b0 : decide (0 ≤ (ji32)) = true := decide_eq_true c33
                            clear c33
                            by_cases c34 : (ji32) < (t375.length : Int)
                            · rw [if_pos c34] at H
                              have c34b0 : decide ((ji32) < (t375.length : Int)) = true := decide_eq_true c34
                              clear c34
                              by_cases c35 : ((rd_T32 t375 x9_2).f3) ≤ ((rd_T32 t375 (ji32)).f3)
                              · rw [if_pos c35] at H
                                have c35b0 : decide (((rd_T32 t375 x9_2).f3) ≤ ((rd_T32 t375 (ji32)).f3)) = true := decide_eq_true c35
                                clear c35
                                have H' := Aside0.mk H
                                clear H
                                have p388 : 0 ≤ (x9_2 : Int) := of_decide_eq_true (by first | (with_reducible assumption) | assumption)
                                have q388 : x9_2 < (t375.length : Int) := of_decide_eq_true (by first | (with_reducible assumption) | assumption)
                                obtain ⟨ad388, e388, hx388_0, hx388_1, hx388_2, hx388_3⟩ := at_T32 (Kd.R_reads' HO_4.out).2.2 x9_2 p388 q388
                                cases e388
                                replace p388 := eq_true p388
                                replace q388 := eq_true q388
                                obtain ⟨Ao36, co36, eo36⟩ := Kd.R_slice HO_6.out
                                subst eo36
                                have p389 : 0 ≤ (x9_2 : Int) := of_decide_eq_true (by first | (with_reducible assumption) | assumption)
                                have q389 : x9_2 < (t379.length : Int) := of_decide_eq_true (by first | (with_reducible assumption) | assumption)
                                obtain ⟨ad389, e389, hx389_0, hx389_1, hx389_2, hx389_3⟩ := at_T32 (Kd.R_reads' HO_6.out).2.2 x9_2 p389 q389
                                cases e389
                                replace p389 := eq_true p389
                                replace q389 := eq_true q389
                                have p390 : 0 ≤ (x9_2 : Int) := of_decide_eq_true (by first | (with_reducible assumption) | assumption)
                                have q390 : x9_2 < (t375.length : Int) := of_decide_eq_true (by first | (with_reducible assumption) | assumption)
                                obtain ⟨ad390, e390, hx390_0, hx390_1, hx390_2, hx390_3⟩ := at_T32 (Kd.R_reads' HO_4.out).2.2 x9_2 p390 q390
                                obtain rfl : ad388 = ad390 := (by injection e390)
                                replace p390 := eq_true p390
                                replace q390 := eq_true q390
                                have p391 : 0 ≤ ((ji32) : Int) := of_decide_eq_true (by first | (with_reducible assumption) | assumption)
                                have q391 : (ji32) < (t375.length : Int) := of_decide_eq_true (by first | (with_reducible assumption) | assumption)
                                obtain ⟨ad391, e391, hx391_0, hx391_1, hx391_2, hx391_3⟩ := at_T32 (Kd.R_reads' HO_4.out).2.2 (ji32) p391 q391
                                obtain rfl : ad388 = ad391 := (by injection e391)
                                replace p391 := eq_true p391
                                replace q391 := eq_true q391
                                have p392 : 0 ≤ (x9_2 : Int) := of_decide_eq_true (by first | (with_reducible assumption) | assumption)
                                have q392 : x9_2 < (t375.length : Int) := of_decide_eq_true (by first | (with_reducible assumption) | assumption)
                                obtain ⟨ad392, e392, hx392_0, hx392_1, hx392_2, hx392_3⟩ := at_T32 (Kd.R_reads' HO_4.out).2.2 x9_2 p392 q392
                                obtain rfl : ad388 = ad392 := (by injection e392)
                                replace p392 := eq_true p392
                                replace q392 := eq_true q392
                                go_wp2
                                repeat (go_quiet (fail); try go_wp2)
                                go_meet
                                case rel => exact ⟨_, ((((rd_T32 t375 x9_2).f0) != 0)), (by first | rfl | (simp; done) | (simp [*]; done) | (simp [Int.tdiv_eq_ediv_of_nonneg]; done)), (by first | exact H' | ((repeat (first | rw [hji32] | rw [hji56] | rw [hji62])); exact H')), ⟨by have := HJ7.out; have := HK2.out; first | omega | exact Nat.le_refl _⟩, ⟨by (with_reducible repeat (first | apply Kd.R_alloc | apply Kd.R_drewN | apply Kd.R_drew)); exact HO_4.out⟩, ⟨by (with_reducible repeat (first | apply Kd.R_alloc | apply Kd.R_drewN | apply Kd.R_drew)); exact HO_6.out⟩, ⟨by repeat (first | (with_reducible first | exact HB.out | apply below_alloc | apply pw_below_drewN | apply below_drew1) | exact HB.out)⟩⟩
                              · rw [if_neg c35] at H
                                have c35b0 : decide (((rd_T32 t375 x9_2).f3) ≤ ((rd_T32 t375 (ji32)).f3)) = false := decide_eq_false c35
                                clear c35
                                have H' := Aside0.mk H
                                clear H
                                have p388 : 0 ≤ (x9_2 : Int) := of_decide_eq_true (by first | (with_reducible assumption) | assumption)
                                have q388 : x9_2 < (t375.length : Int) := of_decide_eq_true (by first | (with_reducible assumption) | assumption)
                                obtain ⟨ad388, e388, hx388_0, hx388_1, hx388_2, hx388_3⟩ := at_T32 (Kd.R_reads' HO_4.out).2.2 x9_2 p388 q388
                                cases e388
                                replace p388 := eq_true p388
                                replace q388 := eq_true q388
                                obtain ⟨Ao37, co37, eo37⟩ := Kd.R_slice HO_6.out
                                subst eo37
                                have p389 : 0 ≤ (x9_2 : Int) := of_decide_eq_true (by first | (with_reducible assumption) | assumption)
                                have q389 : x9_2 < (t379.length : Int) := of_decide_eq_true (by first | (with_reducible assumption) | assumption)
                                obtain ⟨ad389, e389, hx389_0, hx389_1, hx389_2, hx389_3⟩ := at_T32 (Kd.R_reads' HO_6.out).2.2 x9_2 p389 q389
                                cases e389
                                replace p389 := eq_true p389
                                replace q389 := eq_true q389
                                have p390 : 0 ≤ (x9_2 : Int) := of_decide_eq_true (by first | (with_reducible assumption) | assumption)
                                have q390 : x9_2 < (t375.length : Int) := of_decide_eq_true (by first | (with_reducible assumption) | assumption)
                                obtain ⟨ad390, e390, hx390_0, hx390_1, hx390_2, hx390_3⟩ := at_T32 (Kd.R_reads' HO_4.out).2.2 x9_2 p390 q390
                                obtain rfl : ad388 = ad390 := (by injection e390)
                                replace p390 := eq_true p390
                                replace q390 := eq_true q390
                                have p391 : 0 ≤ ((ji32) : Int) := of_decide_eq_true (by first | (with_reducible assumption) | assumption)
                                have q391 : (ji32) < (t375.length : Int) := of_decide_eq_true (by first | (with_reducible assumption) | assumption)
                                obtain ⟨ad391, e391, hx391_0, hx391_1, hx391_2, hx391_3⟩ := at_T32 (Kd.R_reads' HO_4.out).2.2 (ji32) p391 q391
                                obtain rfl : ad388 = ad391 := (by injection e391)
                                replace p391 := eq_true p391
                                replace q391 := eq_true q391
                                go_wp2
                                repeat (go_quiet (fail); try go_wp2)
                                go_meet
                                case rel => exact ⟨_, (false), (by first | rfl | (simp; done) | (simp [*]; done) | (simp [Int.tdiv_eq_ediv_of_nonneg]; done)), (by first | exact H' | ((repeat (first | rw [hji32] | rw [hji56] | rw [hji62])); exact H')), ⟨by have := HJ7.out; have := HK2.out; first | omega | exact Nat.le_refl _⟩, ⟨by (with_reducible repeat (first | apply Kd.R_alloc | apply Kd.R_drewN | apply Kd.R_drew)); exact HO_4.out⟩, ⟨by (with_reducible repeat (first | apply Kd.R_alloc | apply Kd.R_drewN | apply Kd.R_drew)); exact HO_6.out⟩, ⟨by repeat (first | (with_reducible first | exact HB.out | apply below_alloc | apply pw_below_drewN | apply below_drew1) | exact HB.out)⟩⟩
                            · rw [if_neg c34] at H
                              exact absurd H (by simp)
                          · rw [if_neg c33] at H
                            exact absurd H (by simp)
                        · rw [if_neg c31] at H
                          have c31b0 : decide (0 < x9_2) = false := decide_eq_false c31
                          clear c31
                          have H' := Aside0.mk H
                          clear H
                          have p388 : 0 ≤ (x9_2 : Int) := of_decide_eq_true (by first | (with_reducible assumption) | assumption)
                          have q388 : x9_2 < (t375.length : Int) := of_decide_eq_true (by first | (with_reducible assumption) | assumption)
                          obtain ⟨ad388, e388, hx388_0, hx388_1, hx388_2, hx388_3⟩ := at_T32 (Kd.R_reads' HO_4.out).2.2 x9_2 p388 q388
                          cases e388
                          replace p388 := eq_true p388
                          replace q388 := eq_true q388
                          obtain ⟨Ao38, co38, eo38⟩ := Kd.R_slice HO_6.out
                          subst eo38
                          have p389 : 0 ≤ (x9_2 : Int) := of_decide_eq_true (by first | (with_reducible assumption) | assumption)
                          have q389 : x9_2 < (t379.length : Int) := of_decide_eq_true (by first | (with_reducible assumption) | assumption)
                          obtain ⟨ad389, e389, hx389_0, hx389_1, hx389_2, hx389_3⟩ := at_T32 (Kd.R_reads' HO_6.out).2.2 x9_2 p389 q389
                          cases e389
                          replace p389 := eq_true p389
                          replace q389 := eq_true q389
                          go_wp2
                          repeat (go_quiet (fail); try go_wp2)
                          go_meet
                          case rel => exact ⟨_, (false), (by first | rfl | (simp; done) | (simp [*]; done) | (simp [Int.tdiv_eq_ediv_of_nonneg]; done)), (by first | exact H' | ((repeat (first | rw [hji32] | rw [hji56] | rw [hji62])); exact H')), ⟨by have := HJ7.out; have := HK2.out; first | omega | exact Nat.le_refl _⟩, ⟨by (with_reducible repeat (first | apply Kd.R_alloc | apply Kd.R_drewN | apply Kd.R_drew)); exact HO_4.out⟩, ⟨by (with_reducible repeat (first | apply Kd.R_alloc | apply Kd.R_drewN | apply Kd.R_drew)); exact HO_6.out⟩, ⟨by repeat (first | (with_reducible first | exact HB.out | apply below_alloc | apply pw_below_drewN | apply below_drew1) | exact HB.out)⟩⟩
                    · rw [if_neg c28] at H
                      exact absurd H (by simp)
                  · rw [if_neg c27] at H
                    exact absurd H (by simp)
                case rest =>
                  clear HC25
                  try clear c1
                  try clear c2
                  try clear p2
                  try clear c3
                  try clear p3
                  try clear q3
                  try clear hx3
                  try clear c4
                  try clear p6
                  try clear c13
                  try clear c13b0
                  try clear c13b1
                  try clear c14
                  try clear c14b0
                  try clear c14b1
                  try clear c14b2
                  try clear c23
                  try clear c24
                  try clear c24b0
                  try clear c27
                  try clear c27b0
                  try clear c28
                  try clear c28b0
                  try clear c29
                  try clear c29b0
                  try clear c31
                  try clear c31b0
                  try clear c33
                  try clear c33b0
                  try clear c34
                  try clear c34b0
                  try clear c35
                  try clear c35b0
                  try clear p38
                  try clear q38
                  try clear hx38
                  try clear hx388_0
                  try clear hx388_1
                  try clear hx388_2
                  try clear hx388_3
                  try clear hx389_0
                  try clear hx389_1
                  try clear hx389_2
                  try clear hx389_3
                  try clear hx390_0
                  try clear hx390_1
                  try clear hx390_2
                  try clear hx390_3
                  try clear hx391_0
                  try clear hx391_1
                  try clear hx391_2
                  try clear hx391_3
                  try clear hx392_0
                  try clear hx392_1
                  try clear hx392_2
                  try clear hx392_3
                  try clear p2
                  try clear p388
                  try clear p389
                  try clear p390
                  try clear p391
                  try clear p392
                  try clear q388
                  try clear q389
                  try clear q390
                  try clear q391
                  try clear q392
                  obtain ⟨kq, x84_24, rfl, HA, HJ24, HO_4, HO_6, HB⟩ := hcut
                  cases kq with
                  | zero => exact absurd HA.out (by simp [laws_FnTokens.j2])
                  | succ kj24 =>
                    have H := HA.out
                    clear HA
                    simp only [laws_FnTokens.j2] at H
                    by_cases c39 : x84_24 = true
                    · subst c39
                      have H1 : (some false) = some r := by rw [if_pos rfl] at H; exact H
                      clear H
                      have H := H1
                      clear H1
                      obtain rfl := Option.some.inj H
                      go_wp2
                      repeat (go_quiet (fail); try go_wp2)
                      go_ret
                      exact ⟨by first | rfl | (simp [errW_none, errW_some] <;> rfl) | (simp [*, errW_none, errW_some] <;> rfl) | (simp [bne, errW_none, errW_some]; done) | (simp [*, bne, errW_none, errW_some]; done), by repeat (first | (with_reducible first | exact HB.out | apply below_alloc | apply pw_below_drewN | apply below_drew1) | exact HB.out)⟩
                    · replace c39 := Bool.eq_false_iff.mpr c39
                      subst c39
                      have H1 : (if 0 ≤ x9_2 then (if x9_2 < (t375.length : Int) then (if ((rd_T32 t375 x9_2).f0) = 1 then (if 0 ≤ ((rd_T32 t375 x9_2).f3) then (if ((rd_T32 t375 x9_2).f3) ≤ (wrap64 (((rd_T32 t375 x9_2).f3) + (((rd_T32 t375 x9_2).f1).size : Int))) then (if (wrap64 (((rd_T32 t375 x9_2).f3) + (((rd_T32 t375 x9_2).f1).size : Int))) ≤ (t374.size : Int) then (if (t374.extract (((rd_T32 t375 x9_2).f3) : Int).toNat ((wrap64 (((rd_T32 t375 x9_2).f3) + (((rd_T32 t375 x9_2).f1).size : Int))) : Int).toNat).toList = ((rd_T32 t375 x9_2).f1).toList then (laws_FnTokens.l0 kj24 t374 t375 t376 t379 (wrap64 (x9_2 + 1))) else (some false)) else (none)) else (none)) else (none)) else (if ((rd_T32 t375 x9_2).f0) = 5 then (if 0 ≤ ((rd_T32 t375 x9_2).f3) then (if ((rd_T32 t375 x9_2).f3) ≤ (wrap64 (((rd_T32 t375 x9_2).f3) + (((rd_T32 t375 x9_2).f1).size : Int))) then (if (wrap64 (((rd_T32 t375 x9_2).f3) + (((rd_T32 t375 x9_2).f1).size : Int))) ≤ (t374.size : Int) then (if (t374.extract (((rd_T32 t375 x9_2).f3) : Int).toNat ((wrap64 (((rd_T32 t375 x9_2).f3) + (((rd_T32 t375 x9_2).f1).size : Int))) : Int).toNat).toList = ((rd_T32 t375 x9_2).f1).toList then (laws_FnTokens.l0 kj24 t374 t375 t376 t379 (wrap64 (x9_2 + 1))) else (some false)) else (none)) else (none)) else (none)) else (laws_FnTokens.l0 kj24 t374 t375 t376 t379 (wrap64 (x9_2 + 1))))) else (none)) else (none)) = some r := by rw [if_neg (show ¬ (false = true) by decide)] at H; exact H
                      clear H
                      have H := H1
                      clear H1
                      by_cases c40 : 0 ≤ x9_2
                      · rw [if_pos c40] at H
                        have c40b0 : decide (0 ≤ x9_2) = true := decide_eq_true c40
                        clear c40
                        by_cases c41 : x9_2 < (t375.length : Int)
                        · rw [if_pos c41] at H
                          have c41b0 : decide (x9_2 < (t375.length : Int)) = true := decide_eq_true c41
                          clear c41
                          by_cases c42 : ((rd_T32 t375 x9_2).f0) = 1
                          · rw [if_pos c42] at H
                            have c42b0 : (((rd_T32 t375 x9_2).f0) == 1) = true := beq_iff_eq.mpr c42
                            have c42b1 : (((rd_T32 t375 x9_2).f0) != 1) = false := bne_eq_false_iff_eq.mpr c42
                            clear c42
                            by_cases c43 : 0 ≤ ((rd_T32 t375 x9_2).f3)
                            · rw [if_pos c43] at H
                              have c43b0 := eq_true c43
                              have c43b1 : decide (0 ≤ ((rd_T32 t375 x9_2).f3)) = true := decide_eq_true c43
                              clear c43
                              by_cases c44 : ((rd_T32 t375 x9_2).f3) ≤ (wrap64 (((rd_T32 t375 x9_2).f3) + (((rd_T32 t375 x9_2).f1).size : Int)))
                              · rw [if_pos c44] at H
                                have c44b0 := eq_true c44
                                have c44b1 : decide (((rd_T32 t375 x9_2).f3) ≤ (wrap64 (((rd_T32 t375 x9_2).f3) + (((rd_T32 t375 x9_2).f1).size : Int)))) = true := decide_eq_true c44
                                by_cases c45 : (wrap64 (((rd_T32 t375 x9_2).f3) + (((rd_T32 t375 x9_2).f1).size : Int))) ≤ (t374.size : Int)
                                · rw [if_pos c45] at H
                                  have c45b0 := eq_true c45
                                  have c45b1 : decide ((wrap64 (((rd_T32 t375 x9_2).f3) + (((rd_T32 t375 x9_2).f1).size : Int))) ≤ (t374.size : Int)) = true := decide_eq_true c45
                                  by_cases c46 : (t374.extract (((rd_T32 t375 x9_2).f3) : Int).toNat ((wrap64 (((rd_T32 t375 x9_2).f3) + (((rd_T32 t375 x9_2).f1).size : Int))) : Int).toNat).toList = ((rd_T32 t375 x9_2).f1).toList
                                  · rw [if_pos c46] at H
                                    have c46b0 : ((t374.extract (((rd_T32 t375 x9_2).f3) : Int).toNat ((wrap64 (((rd_T32 t375 x9_2).f3) + (((rd_T32 t375 x9_2).f1).size : Int))) : Int).toNat).toList == ((rd_T32 t375 x9_2).f1).toList) = true := beq_iff_eq.mpr c46
                                    have c46b1 : ((t374.extract (((rd_T32 t375 x9_2).f3) : Int).toNat ((wrap64 (((rd_T32 t375 x9_2).f3) + (((rd_T32 t375 x9_2).f1).size : Int))) : Int).toNat).toList != ((rd_T32 t375 x9_2).f1).toList) = false := bne_eq_false_iff_eq.mpr c46
                                    clear c46
                                    have H' := Aside0.mk H
                                    clear H
                                    have p393 : 0 ≤ (x9_2 : Int) := of_decide_eq_true (by first | (with_reducible assumption) | assumption)
                                    have q393 : x9_2 < (t375.length : Int) := of_decide_eq_true (by first | (with_reducible assumption) | assumption)
                                    obtain ⟨ad393, e393, hx393_0, hx393_1, hx393_2, hx393_3⟩ := at_T32 (Kd.R_reads' HO_4.out).2.2 x9_2 p393 q393
                                    cases e393
                                    replace p393 := eq_true p393
                                    replace q393 := eq_true q393
                                    have p394 : 0 ≤ (x9_2 : Int) := of_decide_eq_true (by first | (with_reducible assumption) | assumption)
                                    have q394 : x9_2 < (t375.length : Int) := of_decide_eq_true (by first | (with_reducible assumption) | assumption)
                                    obtain ⟨ad394, e394, hx394_0, hx394_1, hx394_2, hx394_3⟩ := at_T32 (Kd.R_reads' HO_4.out).2.2 x9_2 p394 q394
                                    obtain rfl : ad393 = ad394 := (by injection e394)
                                    replace p394 := eq_true p394
                                    replace q394 := eq_true q394
                                    have p395 : 0 ≤ (x9_2 : Int) := of_decide_eq_true (by first | (with_reducible assumption) | assumption)
                                    have q395 : x9_2 < (t375.length : Int) := of_decide_eq_true (by first | (with_reducible assumption) | assumption)
                                    obtain ⟨ad395, e395, hx395_0, hx395_1, hx395_2, hx395_3⟩ := at_T32 (Kd.R_reads' HO_4.out).2.2 x9_2 p395 q395
                                    obtain rfl : ad393 = ad395 := (by injection e395)
                                    replace p395 := eq_true p395
                                    replace q395 := eq_true q395
                                    have p396 : 0 ≤ (x9_2 : Int) := of_decide_eq_true (by first | (with_reducible assumption) | assumption)
                                    have q396 : x9_2 < (t375.length : Int) := of_decide_eq_true (by first | (with_reducible assumption) | assumption)
                                    obtain ⟨ad396, e396, hx396_0, hx396_1, hx396_2, hx396_3⟩ := at_T32 (Kd.R_reads' HO_4.out).2.2 x9_2 p396 q396
                                    obtain rfl : ad393 = ad396 := (by injection e396)
                                    replace p396 := eq_true p396
                                    replace q396 := eq_true q396
                                    go_wp2
                                    repeat (go_quiet (fail); try go_wp2)
                                    go_roundg kj24
                                    case measure => have := HJ7.out; have := HK2.out; have := HJ24.out; omega
                                    case rel => exact ⟨(wrap64 (x9_2 + 1)), (by first | rfl | (simp; done) | (simp [*]; done) | (simp [Int.tdiv_eq_ediv_of_nonneg]; done)), (by first | exact H' | ((repeat (first | rw [hji32] | rw [hji56] | rw [hji62])); exact H')), ⟨by have := HJ7.out; have := HK2.out; have := HJ24.out; omega⟩, ⟨by (with_reducible repeat (first | apply Kd.R_alloc | apply Kd.R_drewN | apply Kd.R_drew)); exact HO_4.out⟩, ⟨by (with_reducible repeat (first | apply Kd.R_alloc | apply Kd.R_drewN | apply Kd.R_drew)); exact HO_6.out⟩, ⟨by repeat (first | (with_reducible first | exact HB.out | apply below_alloc | apply pw_below_drewN | apply below_drew1) | exact HB.out)⟩⟩
                                  · rw [if_neg c46] at H
                                    have c46b0 : ((t374.extract (((rd_T32 t375 x9_2).f3) : Int).toNat ((wrap64 (((rd_T32 t375 x9_2).f3) + (((rd_T32 t375 x9_2).f1).size : Int))) : Int).toNat).toList == ((rd_T32 t375 x9_2).f1).toList) = false := beq_eq_false_iff_ne.mpr c46
                                    have c46b1 : ((t374.extract (((rd_T32 t375 x9_2).f3) : Int).toNat ((wrap64 (((rd_T32 t375 x9_2).f3) + (((rd_T32 t375 x9_2).f1).size : Int))) : Int).toNat).toList != ((rd_T32 t375 x9_2).f1).toList) = true := bne_iff_ne.mpr c46
                                    obtain rfl := Option.some.inj H
                                    have p393 : 0 ≤ (x9_2 : Int) := of_decide_eq_true (by first | (with_reducible assumption) | assumption)
                                    have q393 : x9_2 < (t375.length : Int) := of_decide_eq_true (by first | (with_reducible assumption) | assumption)
                                    obtain ⟨ad393, e393, hx393_0, hx393_1, hx393_2, hx393_3⟩ := at_T32 (Kd.R_reads' HO_4.out).2.2 x9_2 p393 q393
                                    cases e393
                                    replace p393 := eq_true p393
                                    replace q393 := eq_true q393
                                    have p394 : 0 ≤ (x9_2 : Int) := of_decide_eq_true (by first | (with_reducible assumption) | assumption)
                                    have q394 : x9_2 < (t375.length : Int) := of_decide_eq_true (by first | (with_reducible assumption) | assumption)
                                    obtain ⟨ad394, e394, hx394_0, hx394_1, hx394_2, hx394_3⟩ := at_T32 (Kd.R_reads' HO_4.out).2.2 x9_2 p394 q394
                                    obtain rfl : ad393 = ad394 := (by injection e394)
                                    replace p394 := eq_true p394
                                    replace q394 := eq_true q394
                                    have p395 : 0 ≤ (x9_2 : Int) := of_decide_eq_true (by first | (with_reducible assumption) | assumption)
                                    have q395 : x9_2 < (t375.length : Int) := of_decide_eq_true (by first | (with_reducible assumption) | assumption)
                                    obtain ⟨ad395, e395, hx395_0, hx395_1, hx395_2, hx395_3⟩ := at_T32 (Kd.R_reads' HO_4.out).2.2 x9_2 p395 q395
                                    obtain rfl : ad393 = ad395 := (by injection e395)
                                    replace p395 := eq_true p395
                                    replace q395 := eq_true q395
                                    have p396 : 0 ≤ (x9_2 : Int) := of_decide_eq_true (by first | (with_reducible assumption) | assumption)
                                    have q396 : x9_2 < (t375.length : Int) := of_decide_eq_true (by first | (with_reducible assumption) | assumption)
                                    obtain ⟨ad396, e396, hx396_0, hx396_1, hx396_2, hx396_3⟩ := at_T32 (Kd.R_reads' HO_4.out).2.2 x9_2 p396 q396
                                    obtain rfl : ad393 = ad396 := (by injection e396)
                                    replace p396 := eq_true p396
                                    replace q396 := eq_true q396
                                    go_wp2
                                    repeat (go_quiet (fail); try go_wp2)
                                    go_ret
                                    exact ⟨by first | rfl | (simp [errW_none, errW_some] <;> rfl) | (simp [*, errW_none, errW_some] <;> rfl) | (simp [bne, errW_none, errW_some]; done) | (simp [*, bne, errW_none, errW_some]; done), by repeat (first | (with_reducible first | exact HB.out | apply below_alloc | apply pw_below_drewN | apply below_drew1) | exact HB.out)⟩
                                · rw [if_neg c45] at H
                                  exact absurd H (by simp)
                              · rw [if_neg c44] at H
                                exact absurd H (by simp)
                            · rw [if_neg c43] at H
                              exact absurd H (by simp)
                          · rw [if_neg c42] at H
                            have c42b0 : (((rd_T32 t375 x9_2).f0) == 1) = false := beq_eq_false_iff_ne.mpr c42
                            have c42b1 : (((rd_T32 t375 x9_2).f0) != 1) = true := bne_iff_ne.mpr c42
                            by_cases c47 : ((rd_T32 t375 x9_2).f0) = 5
                            · rw [if_pos c47] at H
                              have c47b0 : (((rd_T32 t375 x9_2).f0) == 5) = true := beq_iff_eq.mpr c47
                              have c47b1 : (((rd_T32 t375 x9_2).f0) != 5) = false := bne_eq_false_iff_eq.mpr c47
                              clear c47
                              by_cases c48 : 0 ≤ ((rd_T32 t375 x9_2).f3)
                              · rw [if_pos c48] at H
                                have c48b0 := eq_true c48
                                have c48b1 : decide (0 ≤ ((rd_T32 t375 x9_2).f3)) = true := decide_eq_true c48
                                clear c48
                                by_cases c49 : ((rd_T32 t375 x9_2).f3) ≤ (wrap64 (((rd_T32 t375 x9_2).f3) + (((rd_T32 t375 x9_2).f1).size : Int)))
                                · rw [if_pos c49] at H
                                  have c49b0 := eq_true c49
                                  have c49b1 : decide (((rd_T32 t375 x9_2).f3) ≤ (wrap64 (((rd_T32 t375 x9_2).f3) + (((rd_T32 t375 x9_2).f1).size : Int)))) = true := decide_eq_true c49
                                  by_cases c50 : (wrap64 (((rd_T32 t375 x9_2).f3) + (((rd_T32 t375 x9_2).f1).size : Int))) ≤ (t374.size : Int)
                                  · rw [if_pos c50] at H
                                    have c50b0 := eq_true c50
                                    have c50b1 : decide ((wrap64 (((rd_T32 t375 x9_2).f3) + (((rd_T32 t375 x9_2).f1).size : Int))) ≤ (t374.size : Int)) = true := decide_eq_true c50
                                    by_cases c51 : (t374.extract (((rd_T32 t375 x9_2).f3) : Int).toNat ((wrap64 (((rd_T32 t375 x9_2).f3) + (((rd_T32 t375 x9_2).f1).size : Int))) : Int).toNat).toList = ((rd_T32 t375 x9_2).f1).toList
                                    · rw [if_pos c51] at H
                                      have c51b0 : ((t374.extract (((rd_T32 t375 x9_2).f3) : Int).toNat ((wrap64 (((rd_T32 t375 x9_2).f3) + (((rd_T32 t375 x9_2).f1).size : Int))) : Int).toNat).toList == ((rd_T32 t375 x9_2).f1).toList) = true := beq_iff_eq.mpr c51
                                      have c51b1 : ((t374.extract (((rd_T32 t375 x9_2).f3) : Int).toNat ((wrap64 (((rd_T32 t375 x9_2).f3) + (((rd_T32 t375 x9_2).f1).size : Int))) : Int).toNat).toList != ((rd_T32 t375 x9_2).f1).toList) = false := bne_eq_false_iff_eq.mpr c51
                                      clear c51
                                      have H' := Aside0.mk H
                                      clear H
                                      have p393 : 0 ≤ (x9_2 : Int) := of_decide_eq_true (by first | (with_reducible assumption) | assumption)
                                      have q393 : x9_2 < (t375.length : Int) := of_decide_eq_true (by first | (with_reducible assumption) | assumption)
                                      obtain ⟨ad393, e393, hx393_0, hx393_1, hx393_2, hx393_3⟩ := at_T32 (Kd.R_reads' HO_4.out).2.2 x9_2 p393 q393
                                      cases e393
                                      replace p393 := eq_true p393
                                      replace q393 := eq_true q393
                                      have p394 : 0 ≤ (x9_2 : Int) := of_decide_eq_true (by first | (with_reducible assumption) | assumption)
                                      have q394 : x9_2 < (t375.length : Int) := of_decide_eq_true (by first | (with_reducible assumption) | assumption)
                                      obtain ⟨ad394, e394, hx394_0, hx394_1, hx394_2, hx394_3⟩ := at_T32 (Kd.R_reads' HO_4.out).2.2 x9_2 p394 q394
                                      obtain rfl : ad393 = ad394 := (by injection e394)
                                      replace p394 := eq_true p394
                                      replace q394 := eq_true q394
                                      have p397 : 0 ≤ (x9_2 : Int) := of_decide_eq_true (by first | (with_reducible assumption) | assumption)
                                      have q397 : x9_2 < (t375.length : Int) := of_decide_eq_true (by first | (with_reducible assumption) | assumption)
                                      obtain ⟨ad397, e397, hx397_0, hx397_1, hx397_2, hx397_3⟩ := at_T32 (Kd.R_reads' HO_4.out).2.2 x9_2 p397 q397
                                      obtain rfl : ad393 = ad397 := (by injection e397)
                                      replace p397 := eq_true p397
                                      replace q397 := eq_true q397
                                      have p398 : 0 ≤ (x9_2 : Int) := of_decide_eq_true (by first | (with_reducible assumption) | assumption)
                                      have q398 : x9_2 < (t375.length : Int) := of_decide_eq_true (by first | (with_reducible assumption) | assumption)
                                      obtain ⟨ad398, e398, hx398_0, hx398_1, hx398_2, hx398_3⟩ := at_T32 (Kd.R_reads' HO_4.out).2.2 x9_2 p398 q398
                                      obtain rfl : ad393 = ad398 := (by injection e398)
                                      replace p398 := eq_true p398
                                      replace q398 := eq_true q398
                                      have p399 : 0 ≤ (x9_2 : Int) := of_decide_eq_true (by first | (with_reducible assumption) | assumption)
                                      have q399 : x9_2 < (t375.length : Int) := of_decide_eq_true (by first | (with_reducible assumption) | assumption)
                                      obtain ⟨ad399, e399, hx399_0, hx399_1, hx399_2, hx399_3⟩ := at_T32 (Kd.R_reads' HO_4.out).2.2 x9_2 p399 q399
                                      obtain rfl : ad393 = ad399 := (by injection e399)
                                      replace p399 := eq_true p399
                                      replace q399 := eq_true q399
                                      go_wp2
                                      repeat (go_quiet (fail); try go_wp2)
                                      go_roundg kj24
                                      case measure => have := HJ7.out; have := HK2.out; have := HJ24.out; omega
                                      case rel => exact ⟨(wrap64 (x9_2 + 1)), (by first | rfl | (simp; done) | (simp [*]; done) | (simp [Int.tdiv_eq_ediv_of_nonneg]; done)), (by first | exact H' | ((repeat (first | rw [hji32] | rw [hji56] | rw [hji62])); exact H')), ⟨by have := HJ7.out; have := HK2.out; have := HJ24.out; omega⟩, ⟨by (with_reducible repeat (first | apply Kd.R_alloc | apply Kd.R_drewN | apply Kd.R_drew)); exact HO_4.out⟩, ⟨by (with_reducible repeat (first | apply Kd.R_alloc | apply Kd.R_drewN | apply Kd.R_drew)); exact HO_6.out⟩, ⟨by repeat (first | (with_reducible first | exact HB.out | apply below_alloc | apply pw_below_drewN | apply below_drew1) | exact HB.out)⟩⟩
                                    · rw [if_neg c51] at H
                                      have c51b0 : ((t374.extract (((rd_T32 t375 x9_2).f3) : Int).toNat ((wrap64 (((rd_T32 t375 x9_2).f3) + (((rd_T32 t375 x9_2).f1).size : Int))) : Int).toNat).toList == ((rd_T32 t375 x9_2).f1).toList) = false := beq_eq_false_iff_ne.mpr c51
                                      have c51b1 : ((t374.extract (((rd_T32 t375 x9_2).f3) : Int).toNat ((wrap64 (((rd_T32 t375 x9_2).f3) + (((rd_T32 t375 x9_2).f1).size : Int))) : Int).toNat).toList != ((rd_T32 t375 x9_2).f1).toList) = true := bne_iff_ne.mpr c51
                                      obtain rfl := Option.some.inj H
                                      have p393 : 0 ≤ (x9_2 : Int) := of_decide_eq_true (by first | (with_reducible assumption) | assumption)
                                      have q393 : x9_2 < (t375.length : Int) := of_decide_eq_true (by first | (with_reducible assumption) | assumption)
                                      obtain ⟨ad393, e393, hx393_0, hx393_1, hx393_2, hx393_3⟩ := at_T32 (Kd.R_reads' HO_4.out).2.2 x9_2 p393 q393
                                      cases e393
                                      replace p393 := eq_true p393
                                      replace q393 := eq_true q393
                                      have p394 : 0 ≤ (x9_2 : Int) := of_decide_eq_true (by first | (with_reducible assumption) | assumption)
                                      have q394 : x9_2 < (t375.length : Int) := of_decide_eq_true (by first | (with_reducible assumption) | assumption)
                                      obtain ⟨ad394, e394, hx394_0, hx394_1, hx394_2, hx394_3⟩ := at_T32 (Kd.R_reads' HO_4.out).2.2 x9_2 p394 q394
                                      obtain rfl : ad393 = ad394 := (by injection e394)
                                      replace p394 := eq_true p394
                                      replace q394 := eq_true q394
                                      have p397 : 0 ≤ (x9_2 : Int) := of_decide_eq_true (by first | (with_reducible assumption) | assumption)
                                      have q397 : x9_2 < (t375.length : Int) := of_decide_eq_true (by first | (with_reducible assumption) | assumption)
                                      obtain ⟨ad397, e397, hx397_0, hx397_1, hx397_2, hx397_3⟩ := at_T32 (Kd.R_reads' HO_4.out).2.2 x9_2 p397 q397
                                      obtain rfl : ad393 = ad397 := (by injection e397)
                                      replace p397 := eq_true p397
                                      replace q397 := eq_true q397
                                      have p398 : 0 ≤ (x9_2 : Int) := of_decide_eq_true (by first | (with_reducible assumption) | assumption)
                                      have q398 : x9_2 < (t375.length : Int) := of_decide_eq_true (by first | (with_reducible assumption) | assumption)
                                      obtain ⟨ad398, e398, hx398_0, hx398_1, hx398_2, hx398_3⟩ := at_T32 (Kd.R_reads' HO_4.out).2.2 x9_2 p398 q398
                                      obtain rfl : ad393 = ad398 := (by injection e398)
                                      replace p398 := eq_true p398
                                      replace q398 := eq_true q398
                                      have p399 : 0 ≤ (x9_2 : Int) := of_decide_eq_true (by first | (with_reducible assumption) | assumption)
                                      have q399 : x9_2 < (t375.length : Int) := of_decide_eq_true (by first | (with_reducible assumption) | assumption)
                                      obtain ⟨ad399, e399, hx399_0, hx399_1, hx399_2, hx399_3⟩ := at_T32 (Kd.R_reads' HO_4.out).2.2 x9_2 p399 q399
                                      obtain rfl : ad393 = ad399 := (by injection e399)
                                      replace p399 := eq_true p399
                                      replace q399 := eq_true q399
                                      go_wp2
                                      repeat (go_quiet (fail); try go_wp2)
                                      go_ret
                                      exact ⟨by first | rfl | (simp [errW_none, errW_some] <;> rfl) | (simp [*, errW_none, errW_some] <;> rfl) | (simp [bne, errW_none, errW_some]; done) | (simp [*, bne, errW_none, errW_some]; done), by repeat (first | (with_reducible first | exact HB.out | apply below_alloc | apply pw_below_drewN | apply below_drew1) | exact HB.out)⟩
                                  · rw [if_neg c50] at H
                                    exact absurd H (by simp)
                                · rw [if_neg c49] at H
                                  exact absurd H (by simp)
                              · rw [if_neg c48] at H
                                exact absurd H (by simp)
                            · rw [if_neg c47] at H
                              have c47b0 : (((rd_T32 t375 x9_2).f0) == 5) = false := beq_eq_false_iff_ne.mpr c47
                              have c47b1 : (((rd_T32 t375 x9_2).f0) != 5) = true := bne_iff_ne.mpr c47
                              have H' := Aside0.mk H
                              clear H
                              have p393 : 0 ≤ (x9_2 : Int) := of_decide_eq_true (by first | (with_reducible assumption) | assumption)
                              have q393 : x9_2 < (t375.length : Int) := of_decide_eq_true (by first | (with_reducible assumption) | assumption)
                              obtain ⟨ad393, e393, hx393_0, hx393_1, hx393_2, hx393_3⟩ := at_T32 (Kd.R_reads' HO_4.out).2.2 x9_2 p393 q393
                              cases e393
                              replace p393 := eq_true p393
                              replace q393 := eq_true q393
                              have p394 : 0 ≤ (x9_2 : Int) := of_decide_eq_true (by first | (with_reducible assumption) | assumption)
                              have q394 : x9_2 < (t375.length : Int) := of_decide_eq_true (by first | (with_reducible assumption) | assumption)
                              obtain ⟨ad394, e394, hx394_0, hx394_1, hx394_2, hx394_3⟩ := at_T32 (Kd.R_reads' HO_4.out).2.2 x9_2 p394 q394
                              obtain rfl : ad393 = ad394 := (by injection e394)
                              replace p394 := eq_true p394
                              replace q394 := eq_true q394
                              have p397 : 0 ≤ (x9_2 : Int) := of_decide_eq_true (by first | (with_reducible assumption) | assumption)
                              have q397 : x9_2 < (t375.length : Int) := of_decide_eq_true (by first | (with_reducible assumption) | assumption)
                              obtain ⟨ad397, e397, hx397_0, hx397_1, hx397_2, hx397_3⟩ := at_T32 (Kd.R_reads' HO_4.out).2.2 x9_2 p397 q397
                              obtain rfl : ad393 = ad397 := (by injection e397)
                              replace p397 := eq_true p397
                              replace q397 := eq_true q397
                              go_wp2
                              repeat (go_quiet (fail); try go_wp2)
                              go_roundg kj24
                              case measure => have := HJ7.out; have := HK2.out; have := HJ24.out; omega
                              case rel => exact ⟨(wrap64 (x9_2 + 1)), (by first | rfl | (simp; done) | (simp [*]; done) | (simp [Int.tdiv_eq_ediv_of_nonneg]; done)), (by first | exact H' | ((repeat (first | rw [hji32] | rw [hji56] | rw [hji62])); exact H')), ⟨by have := HJ7.out; have := HK2.out; have := HJ24.out; omega⟩, ⟨by (with_reducible repeat (first | apply Kd.R_alloc | apply Kd.R_drewN | apply Kd.R_drew)); exact HO_4.out⟩, ⟨by (with_reducible repeat (first | apply Kd.R_alloc | apply Kd.R_drewN | apply Kd.R_drew)); exact HO_6.out⟩, ⟨by repeat (first | (with_reducible first | exact HB.out | apply below_alloc | apply pw_below_drewN | apply below_drew1) | exact HB.out)⟩⟩
                        · rw [if_neg c41] at H
                          exact absurd H (by simp)
                      · rw [if_neg c40] at H
                        exact absurd H (by simp)
              · rw [if_neg c24] at H
                have c24b0 : decide (x9_2 < (t375.length : Int)) = false := decide_eq_false c24
                clear c24
                by_cases c52 : t376 ≥ 0
                · rw [if_pos c52] at H
                  have c52b0 : decide (0 ≤ t376) = true := decide_eq_true c52
                  clear c52
                  by_cases c53 : (t375.length : Int) = 0
                  · rw [if_pos c53] at H
                    have c53b0 : ((t375.length : Int) == 0) = true := beq_iff_eq.mpr c53
                    have c53b1 : ((t375.length : Int) != 0) = false := bne_eq_false_iff_eq.mpr c53
                    clear c53
                    obtain rfl := Option.some.inj H
                    obtain ⟨Ao54, co54, eo54⟩ := Kd.R_slice HO_4.out
                    subst eo54
                    go_wp2
                    repeat (go_quiet (fail); try go_wp2)
                    go_ret
                    exact ⟨by first | rfl | (simp [errW_none, errW_some] <;> rfl) | (simp [*, errW_none, errW_some] <;> rfl) | (simp [bne, errW_none, errW_some]; done) | (simp [*, bne, errW_none, errW_some]; done), by repeat (first | (with_reducible first | exact HB.out | apply below_alloc | apply pw_below_drewN | apply below_drew1) | exact HB.out)⟩
                  · rw [if_neg c53] at H
                    have c53b0 : ((t375.length : Int) == 0) = false := beq_eq_false_iff_ne.mpr c53
                    have c53b1 : ((t375.length : Int) != 0) = true := bne_iff_ne.mpr c53
                    have c53b2 : ¬ (t375 = []) := fun h_ => c53 (by rw [h_]; rfl)
                    by_cases c55 : t376 = (-1)
                    · rw [if_pos c55] at H
                      have c55b0 : (t376 == (-1)) = true := beq_iff_eq.mpr c55
                      have c55b1 : (t376 != (-1)) = false := bne_eq_false_iff_eq.mpr c55
                      clear c55
                      obtain ⟨ji56, hji56⟩ : ∃ j_ : Int, (wrap64 ((t375.length : Int) - 1)) = j_ := ⟨_, rfl⟩
                      replace H : (if 0 ≤ (ji56) then (if (ji56) < (t375.length : Int) then (some (((rd_T32 t375 (ji56)).f3) == (t374.size : Int))) else (none)) else (none)) = some r := by first | (rw [hji56] at H; exact H) | (simp only [hji56] at H ⊢; exact H)
                      have hji56w : (IntKind.i64.wrap ((t375.length : Int) - 1)) = ji56 := (i64_w _).trans hji56
                      by_cases c57 : 0 ≤ (ji56)
                      · rw [if_pos c57] at H
                        have c57b0 : decide (0 ≤ (ji56)) = true := decide_eq_true c57
                        clear c57
                        by_cases c58 : (ji56) < (t375.length : Int)
                        · rw [if_pos c58] at H
                          have c58b0 : decide ((ji56) < (t375.length : Int)) = true := decide_eq_true c58
                          clear c58
                          obtain rfl := Option.some.inj H
                          obtain ⟨Ao59, co59, eo59⟩ := Kd.R_slice HO_4.out
                          subst eo59
                          have p386 : 0 ≤ ((ji56) : Int) := of_decide_eq_true (by first | (with_reducible assumption) | assumption)
                          have q386 : (ji56) < (t375.length : Int) := of_decide_eq_true (by first | (with_reducible assumption) | assumption)
                          obtain ⟨ad386, e386, hx386_0, hx386_1, hx386_2, hx386_3⟩ := at_T32 (Kd.R_reads' HO_4.out).2.2 (ji56) p386 q386
                          cases e386
                          replace p386 := eq_true p386
                          replace q386 := eq_true q386
                          go_wp2
                          repeat (go_quiet (fail); try go_wp2)
                          go_ret
                          exact ⟨by first | rfl | (simp [errW_none, errW_some] <;> rfl) | (simp only [← hji56]; first | rfl | (simp [errW_none, errW_some] <;> rfl)) | (simp [*, errW_none, errW_some] <;> rfl) | (simp [bne, errW_none, errW_some]; done) | (simp [*, bne, errW_none, errW_some]; done), by repeat (first | (with_reducible first | exact HB.out | apply below_alloc | apply pw_below_drewN | apply below_drew1) | exact HB.out)⟩
                        · rw [if_neg c58] at H
                          exact absurd H (by simp)
                      · rw [if_neg c57] at H
                        exact absurd H (by simp)
                    · rw [if_neg c55] at H
                      have c55b0 : (t376 == (-1)) = false := beq_eq_false_iff_ne.mpr c55
                      have c55b1 : (t376 != (-1)) = true := bne_iff_ne.mpr c55
                      obtain rfl := Option.some.inj H
                      obtain ⟨Ao60, co60, eo60⟩ := Kd.R_slice HO_4.out
                      subst eo60
                      go_wp2
                      repeat (go_quiet (fail); try go_wp2)
                      go_ret
                      exact ⟨by first | rfl | (simp [errW_none, errW_some] <;> rfl) | (simp [*, errW_none, errW_some] <;> rfl) | (simp [bne, errW_none, errW_some]; done) | (simp [*, bne, errW_none, errW_some]; done), by repeat (first | (with_reducible first | exact HB.out | apply below_alloc | apply pw_below_drewN | apply below_drew1) | exact HB.out)⟩
                · rw [if_neg c52] at H
                  have c52b0 : decide (0 ≤ t376) = false := decide_eq_false c52
                  clear c52
                  by_cases c61 : t376 = (-1)
                  · rw [if_pos c61] at H
                    have c61b0 : (t376 == (-1)) = true := beq_iff_eq.mpr c61
                    have c61b1 : (t376 != (-1)) = false := bne_eq_false_iff_eq.mpr c61
                    clear c61
                    obtain ⟨ji62, hji62⟩ : ∃ j_ : Int, (wrap64 ((t375.length : Int) - 1)) = j_ := ⟨_, rfl⟩
                    replace H : (if 0 ≤ (ji62) then (if (ji62) < (t375.length : Int) then (some (((rd_T32 t375 (ji62)).f3) == (t374.size : Int))) else (none)) else (none)) = some r := by first | (rw [hji62] at H; exact H) | (simp only [hji62] at H ⊢; exact H)
                    have hji62w : (IntKind.i64.wrap ((t375.length : Int) - 1)) = ji62 := (i64_w _).trans hji62
                    by_cases c63 : 0 ≤ (ji62)
                    · rw [if_pos c63] at H
                      have c63b0 : decide (0 ≤ (ji62)) = true := decide_eq_true c63
                      clear c63
                      by_cases c64 : (ji62) < (t375.length : Int)
                      · rw [if_pos c64] at H
                        have c64b0 : decide ((ji62) < (t375.length : Int)) = true := decide_eq_true c64
                        clear c64
                        obtain rfl := Option.some.inj H
                        obtain ⟨Ao65, co65, eo65⟩ := Kd.R_slice HO_4.out
                        subst eo65
                        have p387 : 0 ≤ ((ji62) : Int) := of_decide_eq_true (by first | (with_reducible assumption) | assumption)
                        have q387 : (ji62) < (t375.length : Int) := of_decide_eq_true (by first | (with_reducible assumption) | assumption)
                        obtain ⟨ad387, e387, hx387_0, hx387_1, hx387_2, hx387_3⟩ := at_T32 (Kd.R_reads' HO_4.out).2.2 (ji62) p387 q387
                        cases e387
                        replace p387 := eq_true p387
                        replace q387 := eq_true q387
                        go_wp2
                        repeat (go_quiet (fail); try go_wp2)
                        go_ret
                        exact ⟨by first | rfl | (simp [errW_none, errW_some] <;> rfl) | (simp only [← hji62]; first | rfl | (simp [errW_none, errW_some] <;> rfl)) | (simp [*, errW_none, errW_some] <;> rfl) | (simp [bne, errW_none, errW_some]; done) | (simp [*, bne, errW_none, errW_some]; done), by repeat (first | (with_reducible first | exact HB.out | apply below_alloc | apply pw_below_drewN | apply below_drew1) | exact HB.out)⟩
                      · rw [if_neg c64] at H
                        exact absurd H (by simp)
                    · rw [if_neg c63] at H
                      exact absurd H (by simp)
                  · rw [if_neg c61] at H
                    have c61b0 : (t376 == (-1)) = false := beq_eq_false_iff_ne.mpr c61
                    have c61b1 : (t376 != (-1)) = true := bne_iff_ne.mpr c61
                    obtain rfl := Option.some.inj H
                    obtain ⟨Ao66, co66, eo66⟩ := Kd.R_slice HO_4.out
                    subst eo66
                    go_wp2
                    repeat (go_quiet (fail); try go_wp2)
                    go_ret
                    exact ⟨by first | rfl | (simp [errW_none, errW_some] <;> rfl) | (simp [*, errW_none, errW_some] <;> rfl) | (simp [bne, errW_none, errW_some]; done) | (simp [*, bne, errW_none, errW_some]; done), by repeat (first | (with_reducible first | exact HB.out | apply below_alloc | apply pw_below_drewN | apply below_drew1) | exact HB.out)⟩

end Go.Proofs.YtelaipnanpfniaaDoor.QFnTokens
