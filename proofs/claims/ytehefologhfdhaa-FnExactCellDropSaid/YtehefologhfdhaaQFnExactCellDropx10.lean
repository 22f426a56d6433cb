/- Written by wip/pr2, a program of this session. -/
import Derived.Test.YtehefologhfdhaaQFnExactCellDropx0
import Derived.Test.YtehefologhfdhaaQFnExactCellDropx2
import Derived.Test.YtehefologhfdhaaQFnExactCellDropx8
import Derived.Test.YtehefologhfdhaaQFnExactCellDropx9
import Derived.Test.YtehefologhfdhaaWFnExactCellDrop
namespace Go.Proofs.Ytehefologhfdhaa.QFnExactCellDrop
open Go.RowKit Go.Proofs.YtehefologhfdhaaW.PrintWords Go.Proofs.YtehefologhfdhaaW.PrintLast Go.Proofs.YtehefologhfdhaaW.PrintMore Go.Proofs.YtehefologhfdhaaW.Mac
attribute [local go_sem] max2_int min2_int max_two min_two max_three min_three max_four min_four   -- for this text's walks alone
set_option linter.unusedVariables false
set_option linter.unusedSimpArgs false
set_option maxHeartbeats 8000000
set_option maxRecDepth 100000

/-! ### laws_heldState: function 17 -/
theorem laws_heldState.calls (k : Nat) (A0_0 : Option Addr) (c0_0 : Nat) (l0_0 : List (S46)) (A0_1 : Option Addr) (c0_1 : Nat) (l0_1 : List (S58)) (a0_2 : Int) (a0_3 : Int) (a1 : Int) (r : Int) (w : World) (hr0_0 : Kd.C k46 w A0_0 l0_0.length l0_0) (hc0_0 : l0_0.length ≤ c0_0) (hr0_1 : Kd.C k58 w A0_1 l0_1.length l0_1) (hc0_1 : l0_1.length ≤ c0_1) (h : laws_heldState.f k l0_0 l0_1 a0_2 a0_3 a1 = some r) :
  Calls Try.prog 17 #[.agg #[.slice A0_0 l0_0.length c0_0, .slice A0_1 l0_1.length c0_1, .int .i64 a0_2, .int .i64 a0_3], .int .i64 a1] w fun e w' => e = .returned (.int .i64 r) ∧ Below w.heap.size w w' := by
 have hu35 := Try.underlying35
 have HR0_0 := Aside0.mk hr0_0
 have HC0_0 := Aside0.mk hc0_0
 clear hr0_0 hc0_0
 have HR0_1 := Aside0.mk hr0_1
 have HC0_1 := Aside0.mk hc0_1
 clear hr0_1 hc0_1
 have HB := Aside0.mk (Below.refl w.heap.size w)
 rw [laws_heldState.f] at h
 have H := h
 clear h
 replace H := zO H; obtain ⟨t273, A3, H⟩ := H
 replace H := zI H; obtain ⟨c4, H⟩ | ⟨c4, H⟩ := H
 ·have c4b0 := decide_eq_true c4
  clear c4
  obtain rfl := Option.some.inj H
  go_enter Try.func17, Try.ntmps17
  go_wp2_with (first | ((with_reducible refine gate_dst (N := 2) rfl ?_); refine zX (N := 2) (cs := #[.slice A0_0 l0_0.length c0_0, .slice A0_1 l0_1.length c0_1, .int .i64 a0_2, .int .i64 a0_3]) (t := 35) ?_; intro gb272 hg w5 hbox hb; have n_ := z4 (zs hb) (hbox) (zl hg) (zl hg); clear HB; obtain ⟨HB, BK272, GW272, GE272⟩ := n_; clear hb hbox hg; obtain ⟨hcz6_0, hcz6_1, hcz6_2, hcz6_3, hfz6_0, hfz6_1, hfz6_2, hfz6_3⟩ := zC4 BK272) | ((with_reducible refine gate_callee (f := 37) rfl ?_); refine zG (some 8) Try.func37 #[.slice A0_0 l0_0.length c0_0, .int .i64 a1] ?_; (with_reducible refine (laws_heldValS.calls k _ _ l0_0 a1 t273 _ (zR HR0_0) HC0_0.out A3.out).mono ?_); rintro e w7 ⟨rfl, hb⟩; refine ⟨_, rfl, ?_⟩; have n_ := z2 (zb BK272 hb) (zs hb); clear BK272 HB; obtain ⟨BK272, HB⟩ := n_; (try clear hb)))
  go_ret
  exact ⟨zE, zB⟩
 ·have c4b0 := decide_eq_false c4
  clear c4
  replace H := zO H; obtain ⟨t274, A8, H⟩ := H
  replace H := zI H; obtain ⟨c9, H⟩ | ⟨c9, H⟩ := H
  ·have c9b0 := decide_eq_true c9
   clear c9
   obtain rfl := Option.some.inj H
   go_enter Try.func17, Try.ntmps17
   go_wp2_with (first | ((with_reducible refine gate_dst (N := 2) rfl ?_); refine zX (N := 2) (cs := #[.slice A0_0 l0_0.length c0_0, .slice A0_1 l0_1.length c0_1, .int .i64 a0_2, .int .i64 a0_3]) (t := 35) ?_; intro gb272 hg w10 hbox hb; have n_ := z4 (zs hb) (hbox) (zl hg) (zl hg); clear HB; obtain ⟨HB, BK272, GW272, GE272⟩ := n_; clear hb hbox hg; obtain ⟨hcz11_0, hcz11_1, hcz11_2, hcz11_3, hfz11_0, hfz11_1, hfz11_2, hfz11_3⟩ := zC4 BK272) | ((with_reducible refine gate_callee (f := 37) rfl ?_); refine zG (some 8) Try.func37 #[.slice A0_0 l0_0.length c0_0, .int .i64 a1] ?_; (with_reducible refine (laws_heldValS.calls k _ _ l0_0 a1 t273 _ (zR HR0_0) HC0_0.out A3.out).mono ?_); rintro e w12 ⟨rfl, hb⟩; refine ⟨_, rfl, ?_⟩; have n_ := z2 (zb BK272 hb) (zs hb); clear BK272 HB; obtain ⟨BK272, HB⟩ := n_; (try clear hb); obtain ⟨hcz13_0, hcz13_1, hcz13_2, hcz13_3, hfz13_0, hfz13_1, hfz13_2, hfz13_3⟩ := zC4 BK272) | ((with_reducible refine gate_callee (f := 38) rfl ?_); refine zG (some 14) Try.func38 #[.slice A0_1 l0_1.length c0_1, .int .i64 t273] ?_; (with_reducible refine (laws_heldCellS.calls k _ _ l0_1 t273 t274 _ (zR HR0_1) HC0_1.out A8.out).mono ?_); rintro e w14 ⟨rfl, hb⟩; refine ⟨_, rfl, ?_⟩; have n_ := z2 (zb BK272 hb) (zs hb); clear BK272 HB; obtain ⟨BK272, HB⟩ := n_; (try clear hb)))
   go_ret
   exact ⟨zE, zB⟩
  ·have c9b0 := decide_eq_false c9
   clear c9
   obtain rfl := Option.some.inj H
   go_enter Try.func17, Try.ntmps17
   go_wp2_with (first | ((with_reducible refine gate_dst (N := 2) rfl ?_); refine zX (N := 2) (cs := #[.slice A0_0 l0_0.length c0_0, .slice A0_1 l0_1.length c0_1, .int .i64 a0_2, .int .i64 a0_3]) (t := 35) ?_; intro gb272 hg w15 hbox hb; have n_ := z4 (zs hb) (hbox) (zl hg) (zl hg); clear HB; obtain ⟨HB, BK272, GW272, GE272⟩ := n_; clear hb hbox hg; obtain ⟨hcz16_0, hcz16_1, hcz16_2, hcz16_3, hfz16_0, hfz16_1, hfz16_2, hfz16_3⟩ := zC4 BK272) | ((with_reducible refine gate_callee (f := 37) rfl ?_); refine zG (some 8) Try.func37 #[.slice A0_0 l0_0.length c0_0, .int .i64 a1] ?_; (with_reducible refine (laws_heldValS.calls k _ _ l0_0 a1 t273 _ (zR HR0_0) HC0_0.out A3.out).mono ?_); rintro e w17 ⟨rfl, hb⟩; refine ⟨_, rfl, ?_⟩; have n_ := z2 (zb BK272 hb) (zs hb); clear BK272 HB; obtain ⟨BK272, HB⟩ := n_; (try clear hb); obtain ⟨hcz18_0, hcz18_1, hcz18_2, hcz18_3, hfz18_0, hfz18_1, hfz18_2, hfz18_3⟩ := zC4 BK272) | ((with_reducible refine gate_callee (f := 38) rfl ?_); refine zG (some 14) Try.func38 #[.slice A0_1 l0_1.length c0_1, .int .i64 t273] ?_; (with_reducible refine (laws_heldCellS.calls k _ _ l0_1 t273 t274 _ (zR HR0_1) HC0_1.out A8.out).mono ?_); rintro e w19 ⟨rfl, hb⟩; refine ⟨_, rfl, ?_⟩; have n_ := z2 (zb BK272 hb) (zs hb); clear BK272 HB; obtain ⟨BK272, HB⟩ := n_; (try clear hb)))
   go_ret
   exact ⟨zE, zB⟩

end Go.Proofs.Ytehefologhfdhaa.QFnExactCellDrop
