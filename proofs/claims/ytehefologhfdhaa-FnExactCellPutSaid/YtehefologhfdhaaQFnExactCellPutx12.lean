/- Written by wip/pr2, a program of this session. -/
import Derived.Test.YtehefologhfdhaaQFnExactCellPutx0
import Derived.Test.YtehefologhfdhaaQFnExactCellPutx1
import Derived.Test.YtehefologhfdhaaQFnExactCellPutx2
import Derived.Test.YtehefologhfdhaaQFnExactCellPutx3
import Derived.Test.YtehefologhfdhaaQFnExactCellPutx5
import Derived.Test.YtehefologhfdhaaQFnExactCellPutx6
import Derived.Test.YtehefologhfdhaaQFnExactCellPutx7
import Derived.Test.YtehefologhfdhaaQFnExactCellPutx9
import Derived.Test.YtehefologhfdhaaQFnExactCellPutx10
import Derived.Test.YtehefologhfdhaaQFnExactCellPutx11
import Derived.Test.YtehefologhfdhaaWFnExactCellPut
namespace Go.Proofs.Ytehefologhfdhaa.QFnExactCellPut
open Go.RowKit Go.Proofs.YtehefologhfdhaaW.PrintWords Go.Proofs.YtehefologhfdhaaW.PrintLast Go.Proofs.YtehefologhfdhaaW.PrintMore Go.Proofs.YtehefologhfdhaaW.Mac
attribute [local go_sem] max2_int min2_int max_two min_two max_three min_three max_four min_four   -- for this text's walks alone
set_option linter.unusedVariables false
set_option linter.unusedSimpArgs false
set_option maxHeartbeats 8000000
set_option maxRecDepth 100000

/-! ### laws_FnExactCellPut: function 5 -/
def laws_FnExactCellPut.T10 : Bool × List (List Nat × List Nat) := (true, [([], []), ([0], [0]), ([], []), ([], []), ([], []), ([4, 1], [4]), ([1, 2, 3, 5, 5], [1, 2, 3, 5]), ([6], [6]), ([7], [7]), ([7], [7]), ([], []), ([10, 8, 6, 0, 1, 2, 3, 4, 5, 6, 7, 8, 10], [8, 10]), ([9, 11, 0, 1, 2, 3, 4, 5, 6, 7, 8, 9, 10, 11], [9])])
def laws_FnExactCellPut.B10 : List Nat := [0, 1, 0, 0, 0, 19, 63, 127, 255, 255, 0, 1535, 4095]
theorem laws_FnExactCellPut.tab10 : rtab .any (opsOf Try.f5 10) = laws_FnExactCellPut.T10 := by kernel_rfl
theorem laws_FnExactCellPut.bits10 : waitsOk laws_FnExactCellPut.T10.2 laws_FnExactCellPut.B10 = true := by kernel_rfl
def laws_FnExactCellPut.T12 : Bool × List (List Nat × List Nat) := (true, [([], []), ([], []), ([], []), ([], []), ([3], [3]), ([0, 1, 2, 4, 4], [0, 1, 2, 4]), ([5], [5]), ([6], [6]), ([6], [6]), ([], []), ([9, 7, 5, 0, 1, 2, 3, 4, 5, 6, 7, 9], [7, 9]), ([8, 10, 0, 1, 2, 3, 4, 5, 6, 7, 8, 9, 10], [8])])
def laws_FnExactCellPut.B12 : List Nat := [0, 0, 0, 0, 8, 31, 63, 127, 127, 0, 767, 2047]
theorem laws_FnExactCellPut.tab12 : rtab .any (opsOf Try.f5 12) = laws_FnExactCellPut.T12 := by kernel_rfl
theorem laws_FnExactCellPut.bits12 : waitsOk laws_FnExactCellPut.T12.2 laws_FnExactCellPut.B12 = true := by kernel_rfl
def laws_FnExactCellPut.T29 : Bool × List (List Nat × List Nat) := (true, [([], []), ([0], [0]), ([], []), ([], []), ([], []), ([4, 1], [4]), ([1, 2, 3, 5, 5], [1, 2, 3, 5]), ([6], [6]), ([7], [7]), ([7], [7]), ([], []), ([10, 8, 6, 0, 1, 2, 3, 4, 5, 6, 7, 8, 10], [8, 10]), ([9, 11, 0, 1, 2, 3, 4, 5, 6, 7, 8, 9, 10, 11], [9])])
def laws_FnExactCellPut.B29 : List Nat := [0, 1, 0, 0, 0, 19, 63, 127, 255, 255, 0, 1535, 4095]
theorem laws_FnExactCellPut.tab29 : rtab .any (opsOf Try.f5 29) = laws_FnExactCellPut.T29 := by kernel_rfl
theorem laws_FnExactCellPut.bits29 : waitsOk laws_FnExactCellPut.T29.2 laws_FnExactCellPut.B29 = true := by kernel_rfl
theorem laws_FnExactCellPut.calls (k : Nat) (A0_0 : Option Addr) (c0_0 : Nat) (l0_0 : List (S42)) (A0_1 : Option Addr) (c0_1 : Nat) (l0_1 : List (S72)) (a0_2 : Int) (a0_3 : Int) (a1 : Int) (a2 : ByteArray) (a3_0 : Int) (a3_1 : Int) (a3_2 : ByteArray) (r : Bool) (w : World) (hr0_0 : Kd.C k42 w A0_0 l0_0.length l0_0) (hc0_0 : l0_0.length ≤ c0_0) (hr0_1 : Kd.C k72 w A0_1 l0_1.length l0_1) (hc0_1 : l0_1.length ≤ c0_1) (h : laws_FnExactCellPut.f k l0_0 l0_1 a0_2 a0_3 a1 a2 a3_0 a3_1 a3_2 = some r) :
  Calls Try.prog 5 #[.agg #[.slice A0_0 l0_0.length c0_0, .slice A0_1 l0_1.length c0_1, .int .i64 a0_2, .int .i64 a0_3], .int .i64 a1, .string a2, .agg #[.int .i64 a3_0, .int .i64 a3_1, .string a3_2]] w fun e w' => e = .returned (.bool r) ∧ Below w.heap.size w w' := by
 have hu30 := Try.underlying30
 have hu42 := Try.underlying42
 have hu35 := Try.underlying35
 have HR0_0 := Aside0.mk hr0_0
 have HC0_0 := Aside0.mk hc0_0
 clear hr0_0 hc0_0
 have HR0_1 := Aside0.mk hr0_1
 have HC0_1 := Aside0.mk hc0_1
 clear hr0_1 hc0_1
 have HB := zz (Below.refl w.heap.size w)
 rw [laws_FnExactCellPut.f] at h
 have H := h
 clear h
 replace H := zI H; obtain ⟨c5, H⟩ | ⟨c5, H⟩ := H
 ·have c5b0 := decide_eq_true c5
  have c5b1 : decide (1048576 < a2.size) = true := decide_eq_true (by omega)
  clear c5
  obtain rfl := Option.some.inj H
  go_enter Try.func5, Try.ntmps5
  go_wp2_with (first | ((with_reducible refine gate_dst (N := 4) rfl ?_); refine zX (N := 4) (cs := #[.slice A0_0 l0_0.length c0_0, .slice A0_1 l0_1.length c0_1, .int .i64 a0_2, .int .i64 a0_3]) (t := 30) ?_; intro gb325 hg w6 hbox hb; have n_ := z4 (zs hb) (hbox) (zl hg) (zl hg); clear HB; obtain ⟨HB, BK325, GW325, GE325⟩ := n_; clear hb hbox hg) | ((with_reducible refine gate_dst (N := 7) rfl ?_); refine zX (N := 7) (cs := #[.int .i64 a3_0, .int .i64 a3_1, .string a3_2]) (t := 42) ?_; intro gb326 hg w7 hbox hb; have n_ := z7 (zb BK325 hb) (zs hb) (hbox) (zl hg) (zl hg) (zn BK325 hg) (zm BK325 hg); clear BK325 HB; obtain ⟨BK325, HB, BK326, GW326, GE326, NB325_326, NB326_325⟩ := n_; clear hb hbox hg))
  go_ret
  exact ⟨zE, zB⟩
 ·have c5b0 := decide_eq_false c5
  have c5b1 : decide (1048576 < a2.size) = false := decide_eq_false (by omega)
  clear c5
  replace H := zO H; obtain ⟨t327, A8, H⟩ := H
  replace H := zI H; obtain ⟨c9, H⟩ | ⟨c9, H⟩ := H
  ·have c9b0 := decide_eq_true c9
   clear c9
   obtain rfl := Option.some.inj H
   go_enter Try.func5, Try.ntmps5
   go_wp2_with (first | ((with_reducible refine gate_dst (N := 4) rfl ?_); refine zX (N := 4) (cs := #[.slice A0_0 l0_0.length c0_0, .slice A0_1 l0_1.length c0_1, .int .i64 a0_2, .int .i64 a0_3]) (t := 30) ?_; intro gb325 hg w10 hbox hb; have n_ := z4 (zs hb) (hbox) (zl hg) (zl hg); clear HB; obtain ⟨HB, BK325, GW325, GE325⟩ := n_; clear hb hbox hg) | ((with_reducible refine gate_dst (N := 7) rfl ?_); refine zX (N := 7) (cs := #[.int .i64 a3_0, .int .i64 a3_1, .string a3_2]) (t := 42) ?_; intro gb326 hg w11 hbox hb; have n_ := z7 (zb BK325 hb) (zs hb) (hbox) (zl hg) (zl hg) (zn BK325 hg) (zm BK325 hg); clear BK325 HB; obtain ⟨BK325, HB, BK326, GW326, GE326, NB325_326, NB326_325⟩ := n_; clear hb hbox hg; have := NB325_326.out; have := NB326_325.out; obtain ⟨_, _, _, _, _, _, _, _⟩ := zC4 BK325) | ((with_reducible refine gate_callee (f := 11) rfl ?_); refine zG (some 25) Try.func11 #[.agg #[.slice A0_0 l0_0.length c0_0, .slice A0_1 l0_1.length c0_1, .int .i64 a0_2, .int .i64 a0_3], .int .i64 1048576] ?_; (with_reducible refine (laws_szState.calls k _ _ l0_0 _ _ l0_1 a0_2 a0_3 1048576 t327 _ (zR HR0_0) HC0_0.out (zR HR0_1) HC0_1.out A8.out).mono ?_); rintro e w14 ⟨rfl, hb⟩; refine ⟨_, rfl, ?_⟩; have n_ := z3 (zb BK325 hb) (zb BK326 hb) (zs hb); clear BK325 BK326 HB; obtain ⟨BK325, BK326, HB⟩ := n_; (try clear hb)))
   go_ret
   exact ⟨zE, zB⟩
  ·have c9b0 := decide_eq_false c9
   clear c9
   replace H := zO H; obtain ⟨t328, A15, H⟩ := H
   replace H := zI H; obtain ⟨c16, H⟩ | ⟨c16, H⟩ := H
   ·have c16b0 := decide_eq_true c16
    clear c16
    obtain rfl := Option.some.inj H
    go_enter Try.func5, Try.ntmps5
    go_wp2_with (first | ((with_reducible refine gate_dst (N := 4) rfl ?_); refine zX (N := 4) (cs := #[.slice A0_0 l0_0.length c0_0, .slice A0_1 l0_1.length c0_1, .int .i64 a0_2, .int .i64 a0_3]) (t := 30) ?_; intro gb325 hg w17 hbox hb; have n_ := z4 (zs hb) (hbox) (zl hg) (zl hg); clear HB; obtain ⟨HB, BK325, GW325, GE325⟩ := n_; clear hb hbox hg) | ((with_reducible refine gate_dst (N := 7) rfl ?_); refine zX (N := 7) (cs := #[.int .i64 a3_0, .int .i64 a3_1, .string a3_2]) (t := 42) ?_; intro gb326 hg w18 hbox hb; have n_ := z7 (zb BK325 hb) (zs hb) (hbox) (zl hg) (zl hg) (zn BK325 hg) (zm BK325 hg); clear BK325 HB; obtain ⟨BK325, HB, BK326, GW326, GE326, NB325_326, NB326_325⟩ := n_; clear hb hbox hg; have := NB325_326.out; have := NB326_325.out; obtain ⟨_, _, _, _, _, _, _, _⟩ := zC4 BK325) | ((with_reducible refine gate_callee (f := 11) rfl ?_); refine zG (some 25) Try.func11 #[.agg #[.slice A0_0 l0_0.length c0_0, .slice A0_1 l0_1.length c0_1, .int .i64 a0_2, .int .i64 a0_3], .int .i64 1048576] ?_; (with_reducible refine (laws_szState.calls k _ _ l0_0 _ _ l0_1 a0_2 a0_3 1048576 t327 _ (zR HR0_0) HC0_0.out (zR HR0_1) HC0_1.out A8.out).mono ?_); rintro e w21 ⟨rfl, hb⟩; refine ⟨_, rfl, ?_⟩; have n_ := z3 (zb BK325 hb) (zb BK326 hb) (zs hb); clear BK325 BK326 HB; obtain ⟨BK325, BK326, HB⟩ := n_; (try clear hb); obtain ⟨_, _, _, _, _, _⟩ := zC3 BK326) | ((with_reducible refine gate_callee (f := 18) rfl ?_); refine zG (some 30) Try.func18 #[.agg #[.int .i64 a3_0, .int .i64 a3_1, .string a3_2], .int .i64 t327] ?_; (with_reducible refine (laws_szVal.calls a3_0 a3_1 a3_2 t327 t328 _ A15.out).mono ?_); rintro e w23 ⟨rfl, hb⟩; refine ⟨_, rfl, ?_⟩; have n_ := z3 (zb BK325 hb) (zb BK326 hb) (zs hb); clear BK325 BK326 HB; obtain ⟨BK325, BK326, HB⟩ := n_; (try clear hb)))
    go_ret
    exact ⟨zE, zB⟩
   ·have c16b0 := decide_eq_false c16
    clear c16
    replace H := zO H; obtain ⟨⟨t329, t332, t335, t336⟩, A24, H⟩ := H
    replace H : ((laws_toVal.f a3_0 a3_1 a3_2).bind fun bt337 => ((spec_CellPut.f k t329 t332 t335 t336 a1 a2 bt337.1 bt337.2.1 bt337.2.2).bind fun bt340 => ((laws_toState.f k l0_0 l0_1 a0_2 a0_3).bind fun bt350 => ((laws_toVal.f a3_0 a3_1 a3_2).bind fun bt359 => ((impl_CellPut.f k bt350.1 bt350.2.1 bt350.2.2.1 bt350.2.2.2 a1 a2 bt359.1 bt359.2.1 bt359.2.2).bind fun bt362 => ((laws_eqState.f k bt362.1 bt362.2.1 bt362.2.2.1 bt362.2.2.2.1 bt340.1 bt340.2.1 bt340.2.2.1 bt340.2.2.2.1).bind fun t372 => (if t372 = true then (laws_FnExactCellPut.j0 k a1 a2 bt340.2.2.2.2 bt362.2.2.2.2 (bt362.2.2.2.2 != bt340.2.2.2.2) l0_0 l0_1 a0_2 a0_3 a3_0 a3_1 a3_2 bt340.1 bt340.2.1 bt340.2.2.1 bt340.2.2.2.1 bt350.1 bt350.2.1 bt350.2.2.1 bt350.2.2.2 bt362.1 bt362.2.1 bt362.2.2.1 bt362.2.2.2.1) else (laws_FnExactCellPut.j0 k a1 a2 bt340.2.2.2.2 bt362.2.2.2.2 true l0_0 l0_1 a0_2 a0_3 a3_0 a3_1 a3_2 bt340.1 bt340.2.1 bt340.2.2.1 bt340.2.2.2.1 bt350.1 bt350.2.1 bt350.2.2.1 bt350.2.2.2 bt362.1 bt362.2.1 bt362.2.2.1 bt362.2.2.2.1)))))))) = some r := H
    replace H := zO H; obtain ⟨⟨t337, t338, t339⟩, A25, H⟩ := H
    replace H : ((spec_CellPut.f k t329 t332 t335 t336 a1 a2 t337 t338 t339).bind fun bt340 => ((laws_toState.f k l0_0 l0_1 a0_2 a0_3).bind fun bt350 => ((laws_toVal.f a3_0 a3_1 a3_2).bind fun bt359 => ((impl_CellPut.f k bt350.1 bt350.2.1 bt350.2.2.1 bt350.2.2.2 a1 a2 bt359.1 bt359.2.1 bt359.2.2).bind fun bt362 => ((laws_eqState.f k bt362.1 bt362.2.1 bt362.2.2.1 bt362.2.2.2.1 bt340.1 bt340.2.1 bt340.2.2.1 bt340.2.2.2.1).bind fun t372 => (if t372 = true then (laws_FnExactCellPut.j0 k a1 a2 bt340.2.2.2.2 bt362.2.2.2.2 (bt362.2.2.2.2 != bt340.2.2.2.2) l0_0 l0_1 a0_2 a0_3 a3_0 a3_1 a3_2 bt340.1 bt340.2.1 bt340.2.2.1 bt340.2.2.2.1 bt350.1 bt350.2.1 bt350.2.2.1 bt350.2.2.2 bt362.1 bt362.2.1 bt362.2.2.1 bt362.2.2.2.1) else (laws_FnExactCellPut.j0 k a1 a2 bt340.2.2.2.2 bt362.2.2.2.2 true l0_0 l0_1 a0_2 a0_3 a3_0 a3_1 a3_2 bt340.1 bt340.2.1 bt340.2.2.1 bt340.2.2.2.1 bt350.1 bt350.2.1 bt350.2.2.1 bt350.2.2.2 bt362.1 bt362.2.1 bt362.2.2.1 bt362.2.2.2.1))))))) = some r := H
    replace H := zO H; obtain ⟨⟨t340, t343, t346, t347, t348⟩, A26, H⟩ := H
    replace H : ((laws_toState.f k l0_0 l0_1 a0_2 a0_3).bind fun bt350 => ((laws_toVal.f a3_0 a3_1 a3_2).bind fun bt359 => ((impl_CellPut.f k bt350.1 bt350.2.1 bt350.2.2.1 bt350.2.2.2 a1 a2 bt359.1 bt359.2.1 bt359.2.2).bind fun bt362 => ((laws_eqState.f k bt362.1 bt362.2.1 bt362.2.2.1 bt362.2.2.2.1 t340 t343 t346 t347).bind fun t372 => (if t372 = true then (laws_FnExactCellPut.j0 k a1 a2 t348 bt362.2.2.2.2 (bt362.2.2.2.2 != t348) l0_0 l0_1 a0_2 a0_3 a3_0 a3_1 a3_2 t340 t343 t346 t347 bt350.1 bt350.2.1 bt350.2.2.1 bt350.2.2.2 bt362.1 bt362.2.1 bt362.2.2.1 bt362.2.2.2.1) else (laws_FnExactCellPut.j0 k a1 a2 t348 bt362.2.2.2.2 true l0_0 l0_1 a0_2 a0_3 a3_0 a3_1 a3_2 t340 t343 t346 t347 bt350.1 bt350.2.1 bt350.2.2.1 bt350.2.2.2 bt362.1 bt362.2.1 bt362.2.2.1 bt362.2.2.2.1)))))) = some r := H
    replace H := zO H; obtain ⟨⟨t350, t353, t356, t357⟩, A27, H⟩ := H
    replace H : ((laws_toVal.f a3_0 a3_1 a3_2).bind fun bt359 => ((impl_CellPut.f k t350 t353 t356 t357 a1 a2 bt359.1 bt359.2.1 bt359.2.2).bind fun bt362 => ((laws_eqState.f k bt362.1 bt362.2.1 bt362.2.2.1 bt362.2.2.2.1 t340 t343 t346 t347).bind fun t372 => (if t372 = true then (laws_FnExactCellPut.j0 k a1 a2 t348 bt362.2.2.2.2 (bt362.2.2.2.2 != t348) l0_0 l0_1 a0_2 a0_3 a3_0 a3_1 a3_2 t340 t343 t346 t347 t350 t353 t356 t357 bt362.1 bt362.2.1 bt362.2.2.1 bt362.2.2.2.1) else (laws_FnExactCellPut.j0 k a1 a2 t348 bt362.2.2.2.2 true l0_0 l0_1 a0_2 a0_3 a3_0 a3_1 a3_2 t340 t343 t346 t347 t350 t353 t356 t357 bt362.1 bt362.2.1 bt362.2.2.1 bt362.2.2.2.1))))) = some r := H
    replace H := zO H; obtain ⟨⟨t359, t360, t361⟩, A28, H⟩ := H
    replace H : ((impl_CellPut.f k t350 t353 t356 t357 a1 a2 t359 t360 t361).bind fun bt362 => ((laws_eqState.f k bt362.1 bt362.2.1 bt362.2.2.1 bt362.2.2.2.1 t340 t343 t346 t347).bind fun t372 => (if t372 = true then (laws_FnExactCellPut.j0 k a1 a2 t348 bt362.2.2.2.2 (bt362.2.2.2.2 != t348) l0_0 l0_1 a0_2 a0_3 a3_0 a3_1 a3_2 t340 t343 t346 t347 t350 t353 t356 t357 bt362.1 bt362.2.1 bt362.2.2.1 bt362.2.2.2.1) else (laws_FnExactCellPut.j0 k a1 a2 t348 bt362.2.2.2.2 true l0_0 l0_1 a0_2 a0_3 a3_0 a3_1 a3_2 t340 t343 t346 t347 t350 t353 t356 t357 bt362.1 bt362.2.1 bt362.2.2.1 bt362.2.2.2.1)))) = some r := H
    replace H := zO H; obtain ⟨⟨t362, t365, t368, t369, t370⟩, A29, H⟩ := H
    replace H : ((laws_eqState.f k t362 t365 t368 t369 t340 t343 t346 t347).bind fun t372 => (if t372 = true then (laws_FnExactCellPut.j0 k a1 a2 t348 t370 (t370 != t348) l0_0 l0_1 a0_2 a0_3 a3_0 a3_1 a3_2 t340 t343 t346 t347 t350 t353 t356 t357 t362 t365 t368 t369) else (laws_FnExactCellPut.j0 k a1 a2 t348 t370 true l0_0 l0_1 a0_2 a0_3 a3_0 a3_1 a3_2 t340 t343 t346 t347 t350 t353 t356 t357 t362 t365 t368 t369))) = some r := H
    have HC30 := Aside0.mk H
    clear H
    go_enter Try.func5, Try.ntmps5
    try go_wp2_with (first | ((with_reducible refine gate_dst (N := 4) rfl ?_); refine zX (N := 4) (cs := #[.slice A0_0 l0_0.length c0_0, .slice A0_1 l0_1.length c0_1, .int .i64 a0_2, .int .i64 a0_3]) (t := 30) ?_; intro gb325 hg w31 hbox hb; have n_ := z4 (zs hb) (hbox) (zl hg) (zl hg); clear HB; obtain ⟨HB, BK325, GW325, GE325⟩ := n_; clear hb hbox hg) | ((with_reducible refine gate_dst (N := 7) rfl ?_); refine zX (N := 7) (cs := #[.int .i64 a3_0, .int .i64 a3_1, .string a3_2]) (t := 42) ?_; intro gb326 hg w32 hbox hb; have n_ := z7 (zb BK325 hb) (zs hb) (hbox) (zl hg) (zl hg) (zn BK325 hg) (zm BK325 hg); clear BK325 HB; obtain ⟨BK325, HB, BK326, GW326, GE326, NB325_326, NB326_325⟩ := n_; clear hb hbox hg; have := NB325_326.out; have := NB326_325.out; obtain ⟨_, _, _, _, _, _, _, _⟩ := zC4 BK325) | ((with_reducible refine gate_callee (f := 11) rfl ?_); refine zG (some 25) Try.func11 #[.agg #[.slice A0_0 l0_0.length c0_0, .slice A0_1 l0_1.length c0_1, .int .i64 a0_2, .int .i64 a0_3], .int .i64 1048576] ?_; (with_reducible refine (laws_szState.calls k _ _ l0_0 _ _ l0_1 a0_2 a0_3 1048576 t327 _ (zR HR0_0) HC0_0.out (zR HR0_1) HC0_1.out A8.out).mono ?_); rintro e w35 ⟨rfl, hb⟩; refine ⟨_, rfl, ?_⟩; have n_ := z3 (zb BK325 hb) (zb BK326 hb) (zs hb); clear BK325 BK326 HB; obtain ⟨BK325, BK326, HB⟩ := n_; (try clear hb); obtain ⟨_, _, _, _, _, _⟩ := zC3 BK326) | ((with_reducible refine gate_callee (f := 18) rfl ?_); refine zG (some 30) Try.func18 #[.agg #[.int .i64 a3_0, .int .i64 a3_1, .string a3_2], .int .i64 t327] ?_; (with_reducible refine (laws_szVal.calls a3_0 a3_1 a3_2 t327 t328 _ A15.out).mono ?_); rintro e w37 ⟨rfl, hb⟩; refine ⟨_, rfl, ?_⟩; have n_ := z3 (zb BK325 hb) (zb BK326 hb) (zs hb); clear BK325 BK326 HB; obtain ⟨BK325, BK326, HB⟩ := n_; (try clear hb)))
    have n_ := z3 (blk_drew BK325.out) (blk_drew BK326.out) (below_drew1 HB.out)
    clear BK325 BK326 HB
    obtain ⟨BK325, BK326, HB⟩ := n_
    refine start_ (n := 13) (S := fun w' => w'.cell? ⟨gb325, 0, none⟩ = some (.slice A0_0 l0_0.length c0_0) ∧ w'.cell? ⟨gb325, 1, none⟩ = some (.slice A0_1 l0_1.length c0_1) ∧ w'.cell? ⟨gb325, 2, none⟩ = some (.int .i64 a0_2) ∧ w'.cell? ⟨gb325, 3, none⟩ = some (.int .i64 a0_3) ∧ w'.cell? ⟨gb326, 0, none⟩ = some (.int .i64 a3_0) ∧ w'.cell? ⟨gb326, 1, none⟩ = some (.int .i64 a3_1) ∧ w'.cell? ⟨gb326, 2, none⟩ = some (.string a3_2)) (ds := []) #[false, false, false, false, false, false, false, false, false, false, false, false, false] (by kernel_rfl) rfl rfl ⟨(blk_cell BK325.out 0).trans rfl, (blk_cell BK325.out 1).trans rfl, (blk_cell BK325.out 2).trans rfl, (blk_cell BK325.out 3).trans rfl, (blk_cell BK326.out 0).trans rfl, (blk_cell BK326.out 1).trans rfl, (blk_cell BK326.out 2).trans rfl⟩ (fun hHeld => ?_); refine with_tabW laws_FnExactCellPut.tab10 laws_FnExactCellPut.bits10 (fun HT_ HW_ => ?_)
    generalize w37.drew = w38 at BK325 BK326 HB hHeld ⊢
    refine pure_ (i := 2) (N := some 36) (v := ?_) (a' := ?_) #[false, false, true, false, false, false, false, false, false, false, false, false, false] rfl rfl (any_of HT_.out (by kernel_rfl)) (fun _ _ _ h => h) (Or.inl ⟨by rfl, ?_⟩) ?_ ?_
    rotate_left
    ·intro w'; go_simp; with_reducible rfl
    rotate_left
    ·exact zY
    refine pure_ (i := 3) (N := some 37) (v := ?_) (a' := ?_) #[false, false, true, true, false, false, false, false, false, false, false, false, false] rfl rfl (any_of HT_.out (by kernel_rfl)) (fun _ _ _ h => h) (Or.inl ⟨by rfl, ?_⟩) ?_ ?_
    rotate_left
    ·intro w'; go_simp; with_reducible rfl
    rotate_left
    ·exact zY
    refine take_ (i := 0) (N := some 34) (v := ?_) (a' := ?_) #[true, false, true, true, false, false, false, false, false, false, false, false, false] rfl rfl (take_ofW HT_.out HW_.out (by kernel_rfl)) (fun _ _ _ h => h) (Or.inl ⟨by rfl, ?_⟩) hHeld ?_ ?_
    rotate_left
    ·rintro w' ⟨s0, s1, s2, s3, s4, s5, s6⟩
     go_simp
     with_reducible rfl
    rotate_left
    ·exact zY
    refine take_ (i := 4) (N := some 38) (v := ?_) (a' := ?_) #[true, false, true, true, true, false, false, false, false, false, false, false, false] rfl rfl (take_ofW HT_.out HW_.out (by kernel_rfl)) (fun _ _ _ h => h) (Or.inl ⟨by rfl, ?_⟩) hHeld ?_ ?_
    rotate_left
    ·rintro w' ⟨s0, s1, s2, s3, s4, s5, s6⟩
     go_simp
     with_reducible rfl
    rotate_left
    ·exact zY
    refine join_ (σ := Value × Value × Value × Value × Nat) 2 #[true, true, true, true, true, true, true, true, true, true, true, false, false] (fun s_ => [(35, .agg #[s_.1, s_.2.1, .int .i64 t335, .int .i64 t336]), (39, .agg #[.int .i64 t337, .int .i64 t338, .string t339]), (40, .tuple #[.agg #[s_.2.2.1, s_.2.2.2.1, .int .i64 t346, .int .i64 t347], .bool t348]), (10, .pointer (some ⟨s_.2.2.2.2, 0, none⟩)), (33, .tuple #[.agg #[s_.2.2.1, s_.2.2.2.1, .int .i64 t346, .int .i64 t347], .bool t348]), (41, .agg #[s_.2.2.1, s_.2.2.2.1, .int .i64 t346, .int .i64 t347]), (42, .bool t348)]) (fun s_ w' => (w'.cell? ⟨gb325, 0, none⟩ = some (.slice A0_0 l0_0.length c0_0) ∧ w'.cell? ⟨gb325, 1, none⟩ = some (.slice A0_1 l0_1.length c0_1) ∧ w'.cell? ⟨gb325, 2, none⟩ = some (.int .i64 a0_2) ∧ w'.cell? ⟨gb325, 3, none⟩ = some (.int .i64 a0_3) ∧ w'.cell? ⟨gb326, 0, none⟩ = some (.int .i64 a3_0) ∧ w'.cell? ⟨gb326, 1, none⟩ = some (.int .i64 a3_1) ∧ w'.cell? ⟨gb326, 2, none⟩ = some (.string a3_2)) ∧ (Kd.R k46 46 w' w.heap.size (fun k_ => some k_ ≠ (s_.2.2.1 : Value).ownBlock) s_.1 t329) ∧ (Kd.R k58 58 w' w.heap.size (fun k_ => some k_ ≠ (s_.2.2.2.1 : Value).ownBlock) s_.2.1 t332) ∧ (Kd.R k46 46 w' w.heap.size (fun k_ => some k_ ≠ (s_.1 : Value).ownBlock) s_.2.2.1 t340) ∧ (Kd.R k58 58 w' w.heap.size (fun k_ => some k_ ≠ (s_.2.1 : Value).ownBlock) s_.2.2.2.1 t343) ∧ (w'.heap[gb325]? = some (.cells #[.slice A0_0 l0_0.length c0_0, .slice A0_1 l0_1.length c0_1, .int .i64 a0_2, .int .i64 a0_3] 30 (0, 0))) ∧ (w'.heap[gb326]? = some (.cells #[.int .i64 a3_0, .int .i64 a3_1, .string a3_2] 42 (0, 0))) ∧ (w'.heap[s_.2.2.2.2]? = some (.cells #[.slice none 0 0, .slice none 0 0, .int .i64 0, .int .i64 0] 35 (0, 0))) ∧ (w.heap.size ≤ s_.2.2.2.2) ∧ (w.heap.size ≤ s_.2.2.2.2) ∧ (gb325 ≠ s_.2.2.2.2) ∧ (s_.2.2.2.2 ≠ gb325) ∧ (gb326 ≠ s_.2.2.2.2) ∧ (s_.2.2.2.2 ≠ gb326) ∧ (Below w.heap.size w w')) ?_ ?_
    rotate_left
    ·intro hCont
     refine two_ (i := 1) (j := 10) (Ni := some 35) (Nj := some 10) #[true, true, true, true, true, false, false, false, false, false, false, false, false] #[true, false, true, true, true, false, false, false, false, false, true, false, false] rfl rfl rfl rfl (two_of HT_.out (by kernel_rfl)) (by decide) (by decide) (fun K hK => ?_) (fun K hK => ?_)
     ·skip
      refine goes_ Try.func13 (by kernel_rfl) rfl #[.agg #[.slice A0_0 l0_0.length c0_0, .slice A0_1 l0_1.length c0_1, .int .i64 a0_2, .int .i64 a0_3]] (by rfl) rfl rfl zA ?_
      with_reducible refine (laws_toState.calls k _ _ l0_0 _ _ l0_1 a0_2 a0_3 t329 t332 t335 t336 _ ?side1 ?side2 ?side3 ?side4 A24.out).mono ?_
      (case side1 => exact zCc ((Kd.C_below HR0_0.out HB.out)))
      (case side2 => exact HC0_0.out)
      (case side3 => exact zCc ((Kd.C_below HR0_1.out HB.out)))
      (case side4 => exact HC0_1.out)
      rintro e w39 ⟨v330, v333, rfl, ho0, ho1, hb⟩
      refine ⟨_, rfl, ?_⟩
      have n_ := z5 (Kd.R_lower ho0 (below_size zB)) (Kd.R_lower ho1 (below_size zB)) (zb BK325 hb) (zb BK326 hb) (zs hb)
      clear BK325 BK326 HB
      obtain ⟨HO331, HO334, BK325, BK326, HB⟩ := n_
      (try clear hb)
      (try clear hb2)
      (try clear hk)
      (try clear hi)
      (try clear ho0)
      (try clear ho1)
      refine hK.out _ _ ⟨(blk_cell BK325.out 0).trans rfl, (blk_cell BK325.out 1).trans rfl, (blk_cell BK325.out 2).trans rfl, (blk_cell BK325.out 3).trans rfl, (blk_cell BK326.out 0).trans rfl, (blk_cell BK326.out 1).trans rfl, (blk_cell BK326.out 2).trans rfl⟩ (fun hHeld => ?_)
      clear hK K
      refine norm_ (a' := ?_) ?_ ?_
      rotate_left
      ·show Act.put _ (some 35) _ = _
       simp only [Act.put, List.setIfInBounds_toArray, List.set_cons_zero, List.set_cons_succ, i64_w, i32_w]
       rfl
      refine two_ (i := 5) (j := 10) (Ni := some 39) (Nj := some 10) #[true, true, true, true, true, true, false, false, false, false, false, false, false] #[true, true, true, true, true, false, false, false, false, false, true, false, false] rfl rfl rfl rfl (two_of HT_.out (by kernel_rfl)) (by decide) (by decide) (fun K hK => ?_) (fun K hK => ?_)
      ·skip
       refine goes_ Try.func20 (by kernel_rfl) rfl #[.agg #[.int .i64 a3_0, .int .i64 a3_1, .string a3_2]] (by rfl) rfl rfl zA ?_
       with_reducible refine (laws_toVal.calls a3_0 a3_1 a3_2 t337 t338 t339 _ A25.out).mono ?_
       rintro e w40 ⟨rfl, hb⟩
       refine ⟨_, rfl, ?_⟩
       have n_ := z5 (Kd.R_below (zRr HO331) hb) (Kd.R_below (zRr HO334) hb) (zb BK325 hb) (zb BK326 hb) (zs hb)
       clear HO331 HO334 BK325 BK326 HB
       obtain ⟨HO331, HO334, BK325, BK326, HB⟩ := n_
       (try clear hb)
       (try clear hb2)
       (try clear hk)
       (try clear hi)
       obtain ⟨Ao41, co41, eo41⟩ := Kd.R_slice HO331.out
       (first | subst eo41 | (injection eo41 with f1_ f2_ f3_; have f4_ := f1_.symm; have f5_ := f3_.symm; clear f1_ f2_ f3_; subst f4_; subst f5_))
       obtain ⟨Ao42, co42, eo42⟩ := Kd.R_slice HO334.out
       (first | subst eo42 | (injection eo42 with f1_ f2_ f3_; have f4_ := f1_.symm; have f5_ := f3_.symm; clear f1_ f2_ f3_; subst f4_; subst f5_))
       refine hK.out _ _ ⟨(blk_cell BK325.out 0).trans rfl, (blk_cell BK325.out 1).trans rfl, (blk_cell BK325.out 2).trans rfl, (blk_cell BK325.out 3).trans rfl, (blk_cell BK326.out 0).trans rfl, (blk_cell BK326.out 1).trans rfl, (blk_cell BK326.out 2).trans rfl⟩ (fun hHeld => ?_)
       clear hK K
       refine norm_ (a' := ?_) ?_ ?_
       rotate_left
       ·show Act.put _ (some 39) _ = _
        simp only [Act.put, List.setIfInBounds_toArray, List.set_cons_zero, List.set_cons_succ, i64_w, i32_w]
        rfl
       refine two_ (i := 6) (j := 10) (Ni := some 40) (Nj := some 10) #[true, true, true, true, true, true, true, false, false, false, false, false, false] #[true, true, true, true, true, true, false, false, false, false, true, false, false] rfl rfl rfl rfl (two_of HT_.out (by kernel_rfl)) (by decide) (by decide) (fun K hK => ?_) (fun K hK => ?_)
       ·skip
        refine goes_ Try.func19 (by kernel_rfl) rfl #[.agg #[.slice Ao41 t329.length co41, .slice Ao42 t332.length co42, .int .i64 t335, .int .i64 t336], .int .i64 a1, .string a2, .agg #[.int .i64 t337, .int .i64 t338, .string t339]] (by rfl) rfl rfl zA ?_
        with_reducible refine (spec_CellPut.calls k _ _ t329 _ _ t332 t335 t336 a1 a2 t337 t338 t339 t340 t343 t346 t347 t348 _ ?side1 ?side2 ?side3 ?side4 A26.out).mono ?_
        (case side1 => exact zCc ((Kd.R_reads' HO331.out).2.2))
        (case side2 => exact (Kd.R_reads' HO331.out).2.1)
        (case side3 => exact zCc ((Kd.R_reads' HO334.out).2.2))
        (case side4 => exact (Kd.R_reads' HO334.out).2.1)
        rintro e w43 ⟨v341, v344, rfl, ho0, ho1, hb⟩
        refine ⟨_, rfl, ?_⟩
        have n_ := z7 (Kd.R_elder' (zRr HO331) (Kd.R_base ho0) hb) (Kd.R_elder' (zRr HO334) (Kd.R_base ho1) hb) (Kd.R_lower (Kd.R_new' ho0 (Kd.R_lt (zRr HO331))) (below_size zB)) (Kd.R_lower (Kd.R_new' ho1 (Kd.R_lt (zRr HO334))) (below_size zB)) (zb BK325 hb) (zb BK326 hb) (zs hb)
        clear HO331 HO334 BK325 BK326 HB
        obtain ⟨HO331, HO334, HO342, HO345, BK325, BK326, HB⟩ := n_
        (try clear hb)
        (try clear hb2)
        (try clear hk)
        (try clear hi)
        (try clear ho0)
        (try clear ho1)
        refine hK.out _ _ ⟨(blk_cell BK325.out 0).trans rfl, (blk_cell BK325.out 1).trans rfl, (blk_cell BK325.out 2).trans rfl, (blk_cell BK325.out 3).trans rfl, (blk_cell BK326.out 0).trans rfl, (blk_cell BK326.out 1).trans rfl, (blk_cell BK326.out 2).trans rfl⟩ (fun hHeld => ?_)
        clear hK K
        refine norm_ (a' := ?_) ?_ ?_
        rotate_left
        ·show Act.put _ (some 40) _ = _
         simp only [Act.put, List.setIfInBounds_toArray, List.set_cons_zero, List.set_cons_succ, i64_w, i32_w]
         rfl
        refine pure_ (i := 7) (N := some 33) (v := ?_) (a' := ?_) #[true, true, true, true, true, true, true, true, false, false, false, false, false] rfl rfl (any_of HT_.out (by kernel_rfl)) (fun _ _ _ h => h) (Or.inl ⟨by rfl, ?_⟩) ?_ ?_
        rotate_left
        ·intro w'; go_simp; with_reducible rfl
        rotate_left
        ·exact zY
        refine pure_ (i := 8) (N := some 41) (v := ?_) (a' := ?_) #[true, true, true, true, true, true, true, true, true, false, false, false, false] rfl rfl (any_of HT_.out (by kernel_rfl)) (fun _ _ _ h => h) (Or.inl ⟨by rfl, ?_⟩) ?_ ?_
        rotate_left
        ·intro w'; go_simp; with_reducible rfl
        rotate_left
        ·exact zY
        refine pure_ (i := 9) (N := some 42) (v := ?_) (a' := ?_) #[true, true, true, true, true, true, true, true, true, true, false, false, false] rfl rfl (any_of HT_.out (by kernel_rfl)) (fun _ _ _ h => h) (Or.inl ⟨by rfl, ?_⟩) ?_ ?_
        rotate_left
        ·intro w'; go_simp; with_reducible rfl
        rotate_left
        ·exact zY
        refine one_ (i := 10) (N := some 10) #[true, true, true, true, true, true, true, true, true, true, true, false, false] rfl rfl (one_of HT_.out (by kernel_rfl)) (by decide) (fun K hK => ?_)
        refine box_step ?hg (N := 10) ?hd (cs := #[.slice none 0 0, .slice none 0 0, .int .i64 0, .int .i64 0]) (t := 35) ?hr ?_; (case hd => rfl); (case hg => rfl); (case hr => first | (go_simp; done) | (go_simp; rfl))
        intro gb349 hg w44 hbox hb
        have n_ := z14 (Kd.R_below (zRr HO331) hb) (Kd.R_below (zRr HO334) hb) (Kd.R_below (zRr HO342) hb) (Kd.R_below (zRr HO345) hb) (zb BK325 hb) (zb BK326 hb) (zs hb) (hbox) (zl hg) (zl hg) (zn BK325 hg) (zm BK325 hg) (zn BK326 hg) (zm BK326 hg)
        clear HO331 HO334 HO342 HO345 BK325 BK326 HB
        obtain ⟨HO331, HO334, HO342, HO345, BK325, BK326, HB, BK349, GW349, GE349, NB325_349, NB349_325, NB326_349, NB349_326⟩ := n_
        clear hb hbox hg
        refine hK.out _ _ ⟨(blk_cell BK325.out 0).trans rfl, (blk_cell BK325.out 1).trans rfl, (blk_cell BK325.out 2).trans rfl, (blk_cell BK325.out 3).trans rfl, (blk_cell BK326.out 0).trans rfl, (blk_cell BK326.out 1).trans rfl, (blk_cell BK326.out 2).trans rfl⟩ (fun hHeld => ?_)
        clear hK K
        refine norm_ (a' := ?_) ?_ ?_
        rotate_left
        ·show Act.put _ (some 10) _ = _
         simp only [Act.put, List.setIfInBounds_toArray, List.set_cons_zero, List.set_cons_succ, i64_w, i32_w]
         rfl
        exact norm_ (by simp only [putAll, Act.put, List.setIfInBounds_toArray, List.set_cons_zero, List.set_cons_succ]) (hCont (.slice Ao41 t329.length co41, .slice Ao42 t332.length co42, v341, v344, gb349) _ ⟨hHeld, (zRm HO331 (fun _ hk => hk.2)), (zRm HO334 (fun _ hk => hk.2)), (zRm HO342 (fun _ hk => hk.2)), (zRm HO345 (fun _ hk => hk.2)), (zP BK325), (zP BK326), (zP BK349), GW349.out, GE349.out, NB325_349.out, NB349_325.out, NB326_349.out, NB349_326.out, zB⟩)
       ·skip
        refine box_step ?hg (N := 10) ?hd (cs := #[.slice none 0 0, .slice none 0 0, .int .i64 0, .int .i64 0]) (t := 35) ?hr ?_; (case hd => rfl); (case hg => rfl); (case hr => first | (go_simp; done) | (go_simp; rfl))
        intro gb349 hg w41 hbox hb
        have n_ := z12 (Kd.R_below (zRr HO331) hb) (Kd.R_below (zRr HO334) hb) (zb BK325 hb) (zb BK326 hb) (zs hb) (hbox) (zl hg) (zl hg) (zn BK325 hg) (zm BK325 hg) (zn BK326 hg) (zm BK326 hg)
        clear HO331 HO334 BK325 BK326 HB
        obtain ⟨HO331, HO334, BK325, BK326, HB, BK349, GW349, GE349, NB325_349, NB349_325, NB326_349, NB349_326⟩ := n_
        clear hb hbox hg
        obtain ⟨Ao42, co42, eo42⟩ := Kd.R_slice HO331.out
        (first | subst eo42 | (injection eo42 with f1_ f2_ f3_; have f4_ := f1_.symm; have f5_ := f3_.symm; clear f1_ f2_ f3_; subst f4_; subst f5_))
        obtain ⟨Ao43, co43, eo43⟩ := Kd.R_slice HO334.out
        (first | subst eo43 | (injection eo43 with f1_ f2_ f3_; have f4_ := f1_.symm; have f5_ := f3_.symm; clear f1_ f2_ f3_; subst f4_; subst f5_))
        refine hK.out _ _ ⟨(blk_cell BK325.out 0).trans rfl, (blk_cell BK325.out 1).trans rfl, (blk_cell BK325.out 2).trans rfl, (blk_cell BK325.out 3).trans rfl, (blk_cell BK326.out 0).trans rfl, (blk_cell BK326.out 1).trans rfl, (blk_cell BK326.out 2).trans rfl⟩ (fun hHeld => ?_)
        clear hK K
        refine norm_ (a' := ?_) ?_ ?_
        rotate_left
        ·show Act.put _ (some 10) _ = _
         simp only [Act.put, List.setIfInBounds_toArray, List.set_cons_zero, List.set_cons_succ, i64_w, i32_w]
         rfl
        refine one_ (i := 6) (N := some 40) #[true, true, true, true, true, true, true, false, false, false, true, false, false] rfl rfl (one_of HT_.out (by kernel_rfl)) (by decide) (fun K hK => ?_)
        refine goes_ Try.func19 (by kernel_rfl) rfl #[.agg #[.slice Ao42 t329.length co42, .slice Ao43 t332.length co43, .int .i64 t335, .int .i64 t336], .int .i64 a1, .string a2, .agg #[.int .i64 t337, .int .i64 t338, .string t339]] (by rfl) rfl rfl zA ?_
        with_reducible refine (spec_CellPut.calls k _ _ t329 _ _ t332 t335 t336 a1 a2 t337 t338 t339 t340 t343 t346 t347 t348 _ ?side1 ?side2 ?side3 ?side4 A26.out).mono ?_
        (case side1 => exact zCc ((Kd.R_reads' HO331.out).2.2))
        (case side2 => exact (Kd.R_reads' HO331.out).2.1)
        (case side3 => exact zCc ((Kd.R_reads' HO334.out).2.2))
        (case side4 => exact (Kd.R_reads' HO334.out).2.1)
        rintro e w44 ⟨v341, v344, rfl, ho0, ho1, hb⟩
        refine ⟨_, rfl, ?_⟩
        have n_ := z8 (Kd.R_elder' (zRr HO331) (Kd.R_base ho0) hb) (Kd.R_elder' (zRr HO334) (Kd.R_base ho1) hb) (Kd.R_lower (Kd.R_new' ho0 (Kd.R_lt (zRr HO331))) (below_size zB)) (Kd.R_lower (Kd.R_new' ho1 (Kd.R_lt (zRr HO334))) (below_size zB)) (zb BK325 hb) (zb BK326 hb) (zb BK349 hb) (zs hb)
        clear HO331 HO334 BK325 BK326 BK349 HB
        obtain ⟨HO331, HO334, HO342, HO345, BK325, BK326, BK349, HB⟩ := n_
        (try clear hb)
        (try clear hb2)
        (try clear hk)
        (try clear hi)
        (try clear ho0)
        (try clear ho1)
        refine hK.out _ _ ⟨(blk_cell BK325.out 0).trans rfl, (blk_cell BK325.out 1).trans rfl, (blk_cell BK325.out 2).trans rfl, (blk_cell BK325.out 3).trans rfl, (blk_cell BK326.out 0).trans rfl, (blk_cell BK326.out 1).trans rfl, (blk_cell BK326.out 2).trans rfl⟩ (fun hHeld => ?_)
        clear hK K
        refine norm_ (a' := ?_) ?_ ?_
        rotate_left
        ·show Act.put _ (some 40) _ = _
         simp only [Act.put, List.setIfInBounds_toArray, List.set_cons_zero, List.set_cons_succ, i64_w, i32_w]
         rfl
        refine pure_ (i := 7) (N := some 33) (v := ?_) (a' := ?_) #[true, true, true, true, true, true, true, true, false, false, true, false, false] rfl rfl (any_of HT_.out (by kernel_rfl)) (fun _ _ _ h => h) (Or.inl ⟨by rfl, ?_⟩) ?_ ?_
        rotate_left
        ·intro w'; go_simp; with_reducible rfl
        rotate_left
        ·exact zY
        refine pure_ (i := 8) (N := some 41) (v := ?_) (a' := ?_) #[true, true, true, true, true, true, true, true, true, false, true, false, false] rfl rfl (any_of HT_.out (by kernel_rfl)) (fun _ _ _ h => h) (Or.inl ⟨by rfl, ?_⟩) ?_ ?_
        rotate_left
        ·intro w'; go_simp; with_reducible rfl
        rotate_left
        ·exact zY
        refine pure_ (i := 9) (N := some 42) (v := ?_) (a' := ?_) #[true, true, true, true, true, true, true, true, true, true, true, false, false] rfl rfl (any_of HT_.out (by kernel_rfl)) (fun _ _ _ h => h) (Or.inl ⟨by rfl, ?_⟩) ?_ ?_
        rotate_left
        ·intro w'; go_simp; with_reducible rfl
        rotate_left
        ·exact zY
        exact norm_ (by simp only [putAll, Act.put, List.setIfInBounds_toArray, List.set_cons_zero, List.set_cons_succ]) (hCont (.slice Ao42 t329.length co42, .slice Ao43 t332.length co43, v341, v344, gb349) _ ⟨hHeld, (zRm HO331 (fun _ hk => hk.2)), (zRm HO334 (fun _ hk => hk.2)), (zRm HO342 (fun _ hk => hk.2)), (zRm HO345 (fun _ hk => hk.2)), (zP BK325), (zP BK326), (zP BK349), GW349.out, GE349.out, NB325_349.out, NB349_325.out, NB326_349.out, NB349_326.out, zB⟩)
      ·skip
       refine box_step ?hg (N := 10) ?hd (cs := #[.slice none 0 0, .slice none 0 0, .int .i64 0, .int .i64 0]) (t := 35) ?hr ?_; (case hd => rfl); (case hg => rfl); (case hr => first | (go_simp; done) | (go_simp; rfl))
       intro gb349 hg w40 hbox hb
       have n_ := z12 (Kd.R_below (zRr HO331) hb) (Kd.R_below (zRr HO334) hb) (zb BK325 hb) (zb BK326 hb) (zs hb) (hbox) (zl hg) (zl hg) (zn BK325 hg) (zm BK325 hg) (zn BK326 hg) (zm BK326 hg)
       clear HO331 HO334 BK325 BK326 HB
       obtain ⟨HO331, HO334, BK325, BK326, HB, BK349, GW349, GE349, NB325_349, NB349_325, NB326_349, NB349_326⟩ := n_
       clear hb hbox hg
       refine hK.out _ _ ⟨(blk_cell BK325.out 0).trans rfl, (blk_cell BK325.out 1).trans rfl, (blk_cell BK325.out 2).trans rfl, (blk_cell BK325.out 3).trans rfl, (blk_cell BK326.out 0).trans rfl, (blk_cell BK326.out 1).trans rfl, (blk_cell BK326.out 2).trans rfl⟩ (fun hHeld => ?_)
       clear hK K
       refine norm_ (a' := ?_) ?_ ?_
       rotate_left
       ·show Act.put _ (some 10) _ = _
        simp only [Act.put, List.setIfInBounds_toArray, List.set_cons_zero, List.set_cons_succ, i64_w, i32_w]
        rfl
       refine one_ (i := 5) (N := some 39) #[true, true, true, true, true, true, false, false, false, false, true, false, false] rfl rfl (one_of HT_.out (by kernel_rfl)) (by decide) (fun K hK => ?_)
       refine goes_ Try.func20 (by kernel_rfl) rfl #[.agg #[.int .i64 a3_0, .int .i64 a3_1, .string a3_2]] (by rfl) rfl rfl zA ?_
       with_reducible refine (laws_toVal.calls a3_0 a3_1 a3_2 t337 t338 t339 _ A25.out).mono ?_
       rintro e w41 ⟨rfl, hb⟩
       refine ⟨_, rfl, ?_⟩
       have n_ := z6 (Kd.R_below (zRr HO331) hb) (Kd.R_below (zRr HO334) hb) (zb BK325 hb) (zb BK326 hb) (zb BK349 hb) (zs hb)
       clear HO331 HO334 BK325 BK326 BK349 HB
       obtain ⟨HO331, HO334, BK325, BK326, BK349, HB⟩ := n_
       (try clear hb)
       (try clear hb2)
       (try clear hk)
       (try clear hi)
       obtain ⟨Ao42, co42, eo42⟩ := Kd.R_slice HO331.out
       (first | subst eo42 | (injection eo42 with f1_ f2_ f3_; have f4_ := f1_.symm; have f5_ := f3_.symm; clear f1_ f2_ f3_; subst f4_; subst f5_))
       obtain ⟨Ao43, co43, eo43⟩ := Kd.R_slice HO334.out
       (first | subst eo43 | (injection eo43 with f1_ f2_ f3_; have f4_ := f1_.symm; have f5_ := f3_.symm; clear f1_ f2_ f3_; subst f4_; subst f5_))
       refine hK.out _ _ ⟨(blk_cell BK325.out 0).trans rfl, (blk_cell BK325.out 1).trans rfl, (blk_cell BK325.out 2).trans rfl, (blk_cell BK325.out 3).trans rfl, (blk_cell BK326.out 0).trans rfl, (blk_cell BK326.out 1).trans rfl, (blk_cell BK326.out 2).trans rfl⟩ (fun hHeld => ?_)
       clear hK K
       refine norm_ (a' := ?_) ?_ ?_
       rotate_left
       ·show Act.put _ (some 39) _ = _
        simp only [Act.put, List.setIfInBounds_toArray, List.set_cons_zero, List.set_cons_succ, i64_w, i32_w]
        rfl
       refine one_ (i := 6) (N := some 40) #[true, true, true, true, true, true, true, false, false, false, true, false, false] rfl rfl (one_of HT_.out (by kernel_rfl)) (by decide) (fun K hK => ?_)
       refine goes_ Try.func19 (by kernel_rfl) rfl #[.agg #[.slice Ao42 t329.length co42, .slice Ao43 t332.length co43, .int .i64 t335, .int .i64 t336], .int .i64 a1, .string a2, .agg #[.int .i64 t337, .int .i64 t338, .string t339]] (by rfl) rfl rfl zA ?_
       with_reducible refine (spec_CellPut.calls k _ _ t329 _ _ t332 t335 t336 a1 a2 t337 t338 t339 t340 t343 t346 t347 t348 _ ?side1 ?side2 ?side3 ?side4 A26.out).mono ?_
       (case side1 => exact zCc ((Kd.R_reads' HO331.out).2.2))
       (case side2 => exact (Kd.R_reads' HO331.out).2.1)
       (case side3 => exact zCc ((Kd.R_reads' HO334.out).2.2))
       (case side4 => exact (Kd.R_reads' HO334.out).2.1)
       rintro e w44 ⟨v341, v344, rfl, ho0, ho1, hb⟩
       refine ⟨_, rfl, ?_⟩
       have n_ := z8 (Kd.R_elder' (zRr HO331) (Kd.R_base ho0) hb) (Kd.R_elder' (zRr HO334) (Kd.R_base ho1) hb) (Kd.R_lower (Kd.R_new' ho0 (Kd.R_lt (zRr HO331))) (below_size zB)) (Kd.R_lower (Kd.R_new' ho1 (Kd.R_lt (zRr HO334))) (below_size zB)) (zb BK325 hb) (zb BK326 hb) (zb BK349 hb) (zs hb)
       clear HO331 HO334 BK325 BK326 BK349 HB
       obtain ⟨HO331, HO334, HO342, HO345, BK325, BK326, BK349, HB⟩ := n_
       (try clear hb)
       (try clear hb2)
       (try clear hk)
       (try clear hi)
       (try clear ho0)
       (try clear ho1)
       refine hK.out _ _ ⟨(blk_cell BK325.out 0).trans rfl, (blk_cell BK325.out 1).trans rfl, (blk_cell BK325.out 2).trans rfl, (blk_cell BK325.out 3).trans rfl, (blk_cell BK326.out 0).trans rfl, (blk_cell BK326.out 1).trans rfl, (blk_cell BK326.out 2).trans rfl⟩ (fun hHeld => ?_)
       clear hK K
       refine norm_ (a' := ?_) ?_ ?_
       rotate_left
       ·show Act.put _ (some 40) _ = _
        simp only [Act.put, List.setIfInBounds_toArray, List.set_cons_zero, List.set_cons_succ, i64_w, i32_w]
        rfl
       refine pure_ (i := 7) (N := some 33) (v := ?_) (a' := ?_) #[true, true, true, true, true, true, true, true, false, false, true, false, false] rfl rfl (any_of HT_.out (by kernel_rfl)) (fun _ _ _ h => h) (Or.inl ⟨by rfl, ?_⟩) ?_ ?_
       rotate_left
       ·intro w'; go_simp; with_reducible rfl
       rotate_left
       ·exact zY
       refine pure_ (i := 8) (N := some 41) (v := ?_) (a' := ?_) #[true, true, true, true, true, true, true, true, true, false, true, false, false] rfl rfl (any_of HT_.out (by kernel_rfl)) (fun _ _ _ h => h) (Or.inl ⟨by rfl, ?_⟩) ?_ ?_
       rotate_left
       ·intro w'; go_simp; with_reducible rfl
       rotate_left
       ·exact zY
       refine pure_ (i := 9) (N := some 42) (v := ?_) (a' := ?_) #[true, true, true, true, true, true, true, true, true, true, true, false, false] rfl rfl (any_of HT_.out (by kernel_rfl)) (fun _ _ _ h => h) (Or.inl ⟨by rfl, ?_⟩) ?_ ?_
       rotate_left
       ·intro w'; go_simp; with_reducible rfl
       rotate_left
       ·exact zY
       exact norm_ (by simp only [putAll, Act.put, List.setIfInBounds_toArray, List.set_cons_zero, List.set_cons_succ]) (hCont (.slice Ao42 t329.length co42, .slice Ao43 t332.length co43, v341, v344, gb349) _ ⟨hHeld, (zRm HO331 (fun _ hk => hk.2)), (zRm HO334 (fun _ hk => hk.2)), (zRm HO342 (fun _ hk => hk.2)), (zRm HO345 (fun _ hk => hk.2)), (zP BK325), (zP BK326), (zP BK349), GW349.out, GE349.out, NB325_349.out, NB349_325.out, NB326_349.out, NB349_326.out, zB⟩)
     ·skip
      refine box_step ?hg (N := 10) ?hd (cs := #[.slice none 0 0, .slice none 0 0, .int .i64 0, .int .i64 0]) (t := 35) ?hr ?_; (case hd => rfl); (case hg => rfl); (case hr => first | (go_simp; done) | (go_simp; rfl))
      intro gb349 hg w39 hbox hb
      have n_ := z10 (zb BK325 hb) (zb BK326 hb) (zs hb) (hbox) (zl hg) (zl hg) (zn BK325 hg) (zm BK325 hg) (zn BK326 hg) (zm BK326 hg)
      clear BK325 BK326 HB
      obtain ⟨BK325, BK326, HB, BK349, GW349, GE349, NB325_349, NB349_325, NB326_349, NB349_326⟩ := n_
      clear hb hbox hg
      refine hK.out _ _ ⟨(blk_cell BK325.out 0).trans rfl, (blk_cell BK325.out 1).trans rfl, (blk_cell BK325.out 2).trans rfl, (blk_cell BK325.out 3).trans rfl, (blk_cell BK326.out 0).trans rfl, (blk_cell BK326.out 1).trans rfl, (blk_cell BK326.out 2).trans rfl⟩ (fun hHeld => ?_)
      clear hK K
      refine norm_ (a' := ?_) ?_ ?_
      rotate_left
      ·show Act.put _ (some 10) _ = _
       simp only [Act.put, List.setIfInBounds_toArray, List.set_cons_zero, List.set_cons_succ, i64_w, i32_w]
       rfl
      refine one_ (i := 1) (N := some 35) #[true, true, true, true, true, false, false, false, false, false, true, false, false] rfl rfl (one_of HT_.out (by kernel_rfl)) (by decide) (fun K hK => ?_)
      refine goes_ Try.func13 (by kernel_rfl) rfl #[.agg #[.slice A0_0 l0_0.length c0_0, .slice A0_1 l0_1.length c0_1, .int .i64 a0_2, .int .i64 a0_3]] (by rfl) rfl rfl zA ?_
      with_reducible refine (laws_toState.calls k _ _ l0_0 _ _ l0_1 a0_2 a0_3 t329 t332 t335 t336 _ ?side1 ?side2 ?side3 ?side4 A24.out).mono ?_
      (case side1 => exact zCc ((Kd.C_below HR0_0.out HB.out)))
      (case side2 => exact HC0_0.out)
      (case side3 => exact zCc ((Kd.C_below HR0_1.out HB.out)))
      (case side4 => exact HC0_1.out)
      rintro e w40 ⟨v330, v333, rfl, ho0, ho1, hb⟩
      refine ⟨_, rfl, ?_⟩
      have n_ := z6 (Kd.R_lower ho0 (below_size zB)) (Kd.R_lower ho1 (below_size zB)) (zb BK325 hb) (zb BK326 hb) (zb BK349 hb) (zs hb)
      clear BK325 BK326 BK349 HB
      obtain ⟨HO331, HO334, BK325, BK326, BK349, HB⟩ := n_
      (try clear hb)
      (try clear hb2)
      (try clear hk)
      (try clear hi)
      (try clear ho0)
      (try clear ho1)
      refine hK.out _ _ ⟨(blk_cell BK325.out 0).trans rfl, (blk_cell BK325.out 1).trans rfl, (blk_cell BK325.out 2).trans rfl, (blk_cell BK325.out 3).trans rfl, (blk_cell BK326.out 0).trans rfl, (blk_cell BK326.out 1).trans rfl, (blk_cell BK326.out 2).trans rfl⟩ (fun hHeld => ?_)
      clear hK K
      refine norm_ (a' := ?_) ?_ ?_
      rotate_left
      ·show Act.put _ (some 35) _ = _
       simp only [Act.put, List.setIfInBounds_toArray, List.set_cons_zero, List.set_cons_succ, i64_w, i32_w]
       rfl
      refine one_ (i := 5) (N := some 39) #[true, true, true, true, true, true, false, false, false, false, true, false, false] rfl rfl (one_of HT_.out (by kernel_rfl)) (by decide) (fun K hK => ?_)
      refine goes_ Try.func20 (by kernel_rfl) rfl #[.agg #[.int .i64 a3_0, .int .i64 a3_1, .string a3_2]] (by rfl) rfl rfl zA ?_
      with_reducible refine (laws_toVal.calls a3_0 a3_1 a3_2 t337 t338 t339 _ A25.out).mono ?_
      rintro e w41 ⟨rfl, hb⟩
      refine ⟨_, rfl, ?_⟩
      have n_ := z6 (Kd.R_below (zRr HO331) hb) (Kd.R_below (zRr HO334) hb) (zb BK325 hb) (zb BK326 hb) (zb BK349 hb) (zs hb)
      clear HO331 HO334 BK325 BK326 BK349 HB
      obtain ⟨HO331, HO334, BK325, BK326, BK349, HB⟩ := n_
      (try clear hb)
      (try clear hb2)
      (try clear hk)
      (try clear hi)
      obtain ⟨Ao42, co42, eo42⟩ := Kd.R_slice HO331.out
      (first | subst eo42 | (injection eo42 with f1_ f2_ f3_; have f4_ := f1_.symm; have f5_ := f3_.symm; clear f1_ f2_ f3_; subst f4_; subst f5_))
      obtain ⟨Ao43, co43, eo43⟩ := Kd.R_slice HO334.out
      (first | subst eo43 | (injection eo43 with f1_ f2_ f3_; have f4_ := f1_.symm; have f5_ := f3_.symm; clear f1_ f2_ f3_; subst f4_; subst f5_))
      refine hK.out _ _ ⟨(blk_cell BK325.out 0).trans rfl, (blk_cell BK325.out 1).trans rfl, (blk_cell BK325.out 2).trans rfl, (blk_cell BK325.out 3).trans rfl, (blk_cell BK326.out 0).trans rfl, (blk_cell BK326.out 1).trans rfl, (blk_cell BK326.out 2).trans rfl⟩ (fun hHeld => ?_)
      clear hK K
      refine norm_ (a' := ?_) ?_ ?_
      rotate_left
      ·show Act.put _ (some 39) _ = _
       simp only [Act.put, List.setIfInBounds_toArray, List.set_cons_zero, List.set_cons_succ, i64_w, i32_w]
       rfl
      refine one_ (i := 6) (N := some 40) #[true, true, true, true, true, true, true, false, false, false, true, false, false] rfl rfl (one_of HT_.out (by kernel_rfl)) (by decide) (fun K hK => ?_)
      refine goes_ Try.func19 (by kernel_rfl) rfl #[.agg #[.slice Ao42 t329.length co42, .slice Ao43 t332.length co43, .int .i64 t335, .int .i64 t336], .int .i64 a1, .string a2, .agg #[.int .i64 t337, .int .i64 t338, .string t339]] (by rfl) rfl rfl zA ?_
      with_reducible refine (spec_CellPut.calls k _ _ t329 _ _ t332 t335 t336 a1 a2 t337 t338 t339 t340 t343 t346 t347 t348 _ ?side1 ?side2 ?side3 ?side4 A26.out).mono ?_
      (case side1 => exact zCc ((Kd.R_reads' HO331.out).2.2))
      (case side2 => exact (Kd.R_reads' HO331.out).2.1)
      (case side3 => exact zCc ((Kd.R_reads' HO334.out).2.2))
      (case side4 => exact (Kd.R_reads' HO334.out).2.1)
      rintro e w44 ⟨v341, v344, rfl, ho0, ho1, hb⟩
      refine ⟨_, rfl, ?_⟩
      have n_ := z8 (Kd.R_elder' (zRr HO331) (Kd.R_base ho0) hb) (Kd.R_elder' (zRr HO334) (Kd.R_base ho1) hb) (Kd.R_lower (Kd.R_new' ho0 (Kd.R_lt (zRr HO331))) (below_size zB)) (Kd.R_lower (Kd.R_new' ho1 (Kd.R_lt (zRr HO334))) (below_size zB)) (zb BK325 hb) (zb BK326 hb) (zb BK349 hb) (zs hb)
      clear HO331 HO334 BK325 BK326 BK349 HB
      obtain ⟨HO331, HO334, HO342, HO345, BK325, BK326, BK349, HB⟩ := n_
      (try clear hb)
      (try clear hb2)
      (try clear hk)
      (try clear hi)
      (try clear ho0)
      (try clear ho1)
      refine hK.out _ _ ⟨(blk_cell BK325.out 0).trans rfl, (blk_cell BK325.out 1).trans rfl, (blk_cell BK325.out 2).trans rfl, (blk_cell BK325.out 3).trans rfl, (blk_cell BK326.out 0).trans rfl, (blk_cell BK326.out 1).trans rfl, (blk_cell BK326.out 2).trans rfl⟩ (fun hHeld => ?_)
      clear hK K
      refine norm_ (a' := ?_) ?_ ?_
      rotate_left
      ·show Act.put _ (some 40) _ = _
       simp only [Act.put, List.setIfInBounds_toArray, List.set_cons_zero, List.set_cons_succ, i64_w, i32_w]
       rfl
      refine pure_ (i := 7) (N := some 33) (v := ?_) (a' := ?_) #[true, true, true, true, true, true, true, true, false, false, true, false, false] rfl rfl (any_of HT_.out (by kernel_rfl)) (fun _ _ _ h => h) (Or.inl ⟨by rfl, ?_⟩) ?_ ?_
      rotate_left
      ·intro w'; go_simp; with_reducible rfl
      rotate_left
      ·exact zY
      refine pure_ (i := 8) (N := some 41) (v := ?_) (a' := ?_) #[true, true, true, true, true, true, true, true, true, false, true, false, false] rfl rfl (any_of HT_.out (by kernel_rfl)) (fun _ _ _ h => h) (Or.inl ⟨by rfl, ?_⟩) ?_ ?_
      rotate_left
      ·intro w'; go_simp; with_reducible rfl
      rotate_left
      ·exact zY
      refine pure_ (i := 9) (N := some 42) (v := ?_) (a' := ?_) #[true, true, true, true, true, true, true, true, true, true, true, false, false] rfl rfl (any_of HT_.out (by kernel_rfl)) (fun _ _ _ h => h) (Or.inl ⟨by rfl, ?_⟩) ?_ ?_
      rotate_left
      ·intro w'; go_simp; with_reducible rfl
      rotate_left
      ·exact zY
      exact norm_ (by simp only [putAll, Act.put, List.setIfInBounds_toArray, List.set_cons_zero, List.set_cons_succ]) (hCont (.slice Ao42 t329.length co42, .slice Ao43 t332.length co43, v341, v344, gb349) _ ⟨hHeld, (zRm HO331 (fun _ hk => hk.2)), (zRm HO334 (fun _ hk => hk.2)), (zRm HO342 (fun _ hk => hk.2)), (zRm HO345 (fun _ hk => hk.2)), (zP BK325), (zP BK326), (zP BK349), GW349.out, GE349.out, NB325_349.out, NB349_325.out, NB326_349.out, NB349_326.out, zB⟩)
    rintro ⟨v330, v333, v341, v344, gb349⟩ w45 ⟨hS_, h0_, h1_, h2_, h3_, h4_, h5_, h6_, h7_, h8_, h9_, h10_, h11_, h12_, h13_⟩
    have n0_ : Aside0 (Kd.R k46 46 w45 w.heap.size (fun k_ => some k_ ≠ (v341 : Value).ownBlock) v330 t329) := ⟨h0_⟩
    have n1_ : Aside0 (Kd.R k58 58 w45 w.heap.size (fun k_ => some k_ ≠ (v344 : Value).ownBlock) v333 t332) := ⟨h1_⟩
    have n2_ : Aside0 (Kd.R k46 46 w45 w.heap.size (fun k_ => some k_ ≠ (v330 : Value).ownBlock) v341 t340) := ⟨h2_⟩
    have n3_ : Aside0 (Kd.R k58 58 w45 w.heap.size (fun k_ => some k_ ≠ (v333 : Value).ownBlock) v344 t343) := ⟨h3_⟩
    have n4_ : Aside0 (w45.heap[gb325]? = some (.cells #[.slice A0_0 l0_0.length c0_0, .slice A0_1 l0_1.length c0_1, .int .i64 a0_2, .int .i64 a0_3] 30 (0, 0))) := ⟨h4_⟩
    have n5_ : Aside0 (w45.heap[gb326]? = some (.cells #[.int .i64 a3_0, .int .i64 a3_1, .string a3_2] 42 (0, 0))) := ⟨h5_⟩
    have n6_ : Aside0 (w45.heap[gb349]? = some (.cells #[.slice none 0 0, .slice none 0 0, .int .i64 0, .int .i64 0] 35 (0, 0))) := ⟨h6_⟩
    have n7_ : Aside0 (w.heap.size ≤ gb349) := ⟨h7_⟩
    have n8_ : Aside0 (w.heap.size ≤ gb349) := ⟨h8_⟩
    have n9_ : Aside0 (gb325 ≠ gb349) := ⟨h9_⟩
    have n10_ : Aside0 (gb349 ≠ gb325) := ⟨h10_⟩
    have n11_ : Aside0 (gb326 ≠ gb349) := ⟨h11_⟩
    have n12_ : Aside0 (gb349 ≠ gb326) := ⟨h12_⟩
    have n13_ : Aside0 (Below w.heap.size w w45) := ⟨h13_⟩
    clear BK325
    clear BK326
    clear HB
    clear h0_ h1_ h2_ h3_ h4_ h5_ h6_ h7_ h8_ h9_ h10_ h11_ h12_ h13_
    have HO331 := n0_
    have HO334 := n1_
    have HO342 := n2_
    have HO345 := n3_
    have BK325 := n4_
    have BK326 := n5_
    have BK349 := n6_
    have GW349 := n7_
    have GE349 := n8_
    have NB325_349 := n9_
    have NB349_325 := n10_
    have NB326_349 := n11_
    have NB349_326 := n12_
    have HB := n13_
    clear n0_ n1_ n2_ n3_ n4_ n5_ n6_ n7_ n8_ n9_ n10_ n11_ n12_ n13_
    have hHeld : w45.cell? ⟨gb325, 0, none⟩ = some (.slice A0_0 l0_0.length c0_0) ∧ w45.cell? ⟨gb325, 1, none⟩ = some (.slice A0_1 l0_1.length c0_1) ∧ w45.cell? ⟨gb325, 2, none⟩ = some (.int .i64 a0_2) ∧ w45.cell? ⟨gb325, 3, none⟩ = some (.int .i64 a0_3) ∧ w45.cell? ⟨gb326, 0, none⟩ = some (.int .i64 a3_0) ∧ w45.cell? ⟨gb326, 1, none⟩ = some (.int .i64 a3_1) ∧ w45.cell? ⟨gb326, 2, none⟩ = some (.string a3_2) := hS_
    obtain ⟨Ao46, co46, eo46⟩ := Kd.R_slice HO342.out
    (first | subst eo46 | (injection eo46 with f1_ f2_ f3_; have f4_ := f1_.symm; have f5_ := f3_.symm; clear f1_ f2_ f3_; subst f4_; subst f5_))
    obtain ⟨Ao48, co48, eo48⟩ := Kd.R_slice HO345.out
    (first | subst eo48 | (injection eo48 with f1_ f2_ f3_; have f4_ := f1_.symm; have f5_ := f3_.symm; clear f1_ f2_ f3_; subst f4_; subst f5_))
    refine norm_ (a' := ?_) ?_ ?_
    rotate_left
    ·simp only [putAll, Act.put, List.setIfInBounds_toArray, List.set_cons_zero, List.set_cons_succ]
     rfl
    refine one_ (i := 11) (N := none) #[true, true, true, true, true, true, true, true, true, true, true, true, false] rfl rfl (one_of HT_.out (by kernel_rfl)) (by decide) (fun K hK => ?_)
    have hs47 : w45.cell? ⟨gb349, 0, none⟩ = some (.slice none 0 0) := (blk_cell BK349.out 0).trans rfl
    have hfs47 := blk_frozen BK349.out 0
    have hns47_0 := NB325_349.out
    have hns47_1 := NB326_349.out
    have hms47_0 := NB349_325.out
    have hms47_1 := NB349_326.out
    have hs49 : w45.cell? ⟨gb349, 1, none⟩ = some (.slice none 0 0) := (blk_cell BK349.out 1).trans rfl
    have hfs49 := blk_frozen BK349.out 1
    have hns49_0 := NB325_349.out
    have hns49_1 := NB326_349.out
    have hms49_0 := NB349_325.out
    have hms49_1 := NB349_326.out
    have hs50 : w45.cell? ⟨gb349, 2, none⟩ = some (.int .i64 0) := (blk_cell BK349.out 2).trans rfl
    have hfs50 := blk_frozen BK349.out 2
    have hns50_0 := NB325_349.out
    have hns50_1 := NB326_349.out
    have hms50_0 := NB349_325.out
    have hms50_1 := NB349_326.out
    have hs51 : w45.cell? ⟨gb349, 3, none⟩ = some (.int .i64 0) := (blk_cell BK349.out 3).trans rfl
    have hfs51 := blk_frozen BK349.out 3
    have hns51_0 := NB325_349.out
    have hns51_1 := NB326_349.out
    have hms51_0 := NB349_325.out
    have hms51_1 := NB349_326.out
    refine skip_ (w1 := ?_) (by rfl) rfl ?_ ?_
    rotate_left
    ·go_simp
     rfl
    refine hK.out _ _ ⟨((cell_far (p := ⟨gb349, _, none⟩) NB325_349.out _).trans (((cell_far (p := ⟨gb349, _, none⟩) NB325_349.out _).trans (((cell_far (p := ⟨gb349, _, none⟩) NB325_349.out _).trans (((cell_far (p := ⟨gb349, _, none⟩) NB325_349.out _).trans (hHeld.1)))))))), ((cell_far (p := ⟨gb349, _, none⟩) NB325_349.out _).trans (((cell_far (p := ⟨gb349, _, none⟩) NB325_349.out _).trans (((cell_far (p := ⟨gb349, _, none⟩) NB325_349.out _).trans (((cell_far (p := ⟨gb349, _, none⟩) NB325_349.out _).trans (hHeld.2.1)))))))), ((cell_far (p := ⟨gb349, _, none⟩) NB325_349.out _).trans (((cell_far (p := ⟨gb349, _, none⟩) NB325_349.out _).trans (((cell_far (p := ⟨gb349, _, none⟩) NB325_349.out _).trans (((cell_far (p := ⟨gb349, _, none⟩) NB325_349.out _).trans (hHeld.2.2.1)))))))), ((cell_far (p := ⟨gb349, _, none⟩) NB325_349.out _).trans (((cell_far (p := ⟨gb349, _, none⟩) NB325_349.out _).trans (((cell_far (p := ⟨gb349, _, none⟩) NB325_349.out _).trans (((cell_far (p := ⟨gb349, _, none⟩) NB325_349.out _).trans (hHeld.2.2.2.1)))))))), ((cell_far (p := ⟨gb349, _, none⟩) NB326_349.out _).trans (((cell_far (p := ⟨gb349, _, none⟩) NB326_349.out _).trans (((cell_far (p := ⟨gb349, _, none⟩) NB326_349.out _).trans (((cell_far (p := ⟨gb349, _, none⟩) NB326_349.out _).trans (hHeld.2.2.2.2.1)))))))), ((cell_far (p := ⟨gb349, _, none⟩) NB326_349.out _).trans (((cell_far (p := ⟨gb349, _, none⟩) NB326_349.out _).trans (((cell_far (p := ⟨gb349, _, none⟩) NB326_349.out _).trans (((cell_far (p := ⟨gb349, _, none⟩) NB326_349.out _).trans (hHeld.2.2.2.2.2.1)))))))), ((cell_far (p := ⟨gb349, _, none⟩) NB326_349.out _).trans (((cell_far (p := ⟨gb349, _, none⟩) NB326_349.out _).trans (((cell_far (p := ⟨gb349, _, none⟩) NB326_349.out _).trans (((cell_far (p := ⟨gb349, _, none⟩) NB326_349.out _).trans (hHeld.2.2.2.2.2.2))))))))⟩ (fun hHeld => ?_)
    clear hK K
    refine pure_ (i := 12) (N := some 11) (v := ?_) (a' := ?_) #[true, true, true, true, true, true, true, true, true, true, true, true, true] rfl rfl (any_of HT_.out (by kernel_rfl)) (fun _ _ _ h => h) (Or.inl ⟨by rfl, ?_⟩) ?_ ?_
    rotate_left
    ·intro w'; go_simp; with_reducible rfl
    rotate_left
    ·exact zY
    refine done_ (done_of HT_.out (by kernel_rfl)) ?_
    have := NB325_349.out
    have := NB349_325.out
    obtain ⟨_, _, _, _, _, _, _, _⟩ := zC4 BK325
    try go_wp2_with (first | ((with_reducible refine gate_callee (f := 13) rfl ?_); refine zG (some 44) Try.func13 #[.agg #[.slice A0_0 l0_0.length c0_0, .slice A0_1 l0_1.length c0_1, .int .i64 a0_2, .int .i64 a0_3]] ?_; (with_reducible refine (laws_toState.calls k _ _ l0_0 _ _ l0_1 a0_2 a0_3 t350 t353 t356 t357 _ ?side1 ?side2 ?side3 ?side4 A27.out).mono ?_); (case side1 => exact Kd.C_below HR0_0.out zB); (case side2 => exact HC0_0.out); (case side3 => exact Kd.C_below HR0_1.out zB); (case side4 => exact HC0_1.out); rintro e w54 ⟨v351, v354, rfl, ho0, ho1, hb⟩; refine ⟨_, rfl, ?_⟩; have n_ := z10 (Kd.R_elder' (by (with_reducible repeat (first | apply Kd.R_alloc | apply Kd.R_drewN | apply Kd.R_drew)); exact (Kd.R_mono (Kd.R_far (p := ⟨gb349, 3, none⟩) (Kd.R_far (p := ⟨gb349, 2, none⟩) (Kd.R_far (p := ⟨gb349, 1, none⟩) (Kd.R_far (p := ⟨gb349, 0, none⟩) (Kd.R_types HO331.out BK349.out (by decide)) (fun _ hk => hk.2) (.slice Ao46 t340.length co46)) (fun _ hk => hk.2) (.slice Ao48 t343.length co48)) (fun _ hk => hk.2) (.int .i64 t346)) (fun _ hk => hk.2) (.int .i64 t347)) (fun _ h_ => h_.1))) (Kd.R_base ho0) hb) (Kd.R_elder' (by (with_reducible repeat (first | apply Kd.R_alloc | apply Kd.R_drewN | apply Kd.R_drew)); exact (Kd.R_mono (Kd.R_far (p := ⟨gb349, 3, none⟩) (Kd.R_far (p := ⟨gb349, 2, none⟩) (Kd.R_far (p := ⟨gb349, 1, none⟩) (Kd.R_far (p := ⟨gb349, 0, none⟩) (Kd.R_types HO334.out BK349.out (by decide)) (fun _ hk => hk.2) (.slice Ao46 t340.length co46)) (fun _ hk => hk.2) (.slice Ao48 t343.length co48)) (fun _ hk => hk.2) (.int .i64 t346)) (fun _ hk => hk.2) (.int .i64 t347)) (fun _ h_ => h_.1))) (Kd.R_base ho1) hb) (Kd.R_elder' (by (with_reducible repeat (first | apply Kd.R_alloc | apply Kd.R_drewN | apply Kd.R_drew)); exact (Kd.R_mono (Kd.R_far (p := ⟨gb349, 3, none⟩) (Kd.R_far (p := ⟨gb349, 2, none⟩) (Kd.R_far (p := ⟨gb349, 1, none⟩) (Kd.R_far (p := ⟨gb349, 0, none⟩) (Kd.R_types HO342.out BK349.out (by decide)) (fun _ hk => hk.2) (.slice Ao46 t340.length co46)) (fun _ hk => hk.2) (.slice Ao48 t343.length co48)) (fun _ hk => hk.2) (.int .i64 t346)) (fun _ hk => hk.2) (.int .i64 t347)) (fun _ h_ => h_.1))) (Kd.R_base ho0) hb) (Kd.R_elder' (by (with_reducible repeat (first | apply Kd.R_alloc | apply Kd.R_drewN | apply Kd.R_drew)); exact (Kd.R_mono (Kd.R_far (p := ⟨gb349, 3, none⟩) (Kd.R_far (p := ⟨gb349, 2, none⟩) (Kd.R_far (p := ⟨gb349, 1, none⟩) (Kd.R_far (p := ⟨gb349, 0, none⟩) (Kd.R_types HO345.out BK349.out (by decide)) (fun _ hk => hk.2) (.slice Ao46 t340.length co46)) (fun _ hk => hk.2) (.slice Ao48 t343.length co48)) (fun _ hk => hk.2) (.int .i64 t346)) (fun _ hk => hk.2) (.int .i64 t347)) (fun _ h_ => h_.1))) (Kd.R_base ho1) hb) (Kd.R_lower (Kd.R_new' (Kd.R_new' ho0 (Kd.R_lt (by (with_reducible repeat (first | apply Kd.R_alloc | apply Kd.R_drewN | apply Kd.R_drew)); exact (Kd.R_mono (Kd.R_far (p := ⟨gb349, 3, none⟩) (Kd.R_far (p := ⟨gb349, 2, none⟩) (Kd.R_far (p := ⟨gb349, 1, none⟩) (Kd.R_far (p := ⟨gb349, 0, none⟩) (Kd.R_types HO331.out BK349.out (by decide)) (fun _ hk => hk.2) (.slice Ao46 t340.length co46)) (fun _ hk => hk.2) (.slice Ao48 t343.length co48)) (fun _ hk => hk.2) (.int .i64 t346)) (fun _ hk => hk.2) (.int .i64 t347)) (fun _ h_ => h_.1))))) (Kd.R_lt (by (with_reducible repeat (first | apply Kd.R_alloc | apply Kd.R_drewN | apply Kd.R_drew)); exact (Kd.R_mono (Kd.R_far (p := ⟨gb349, 3, none⟩) (Kd.R_far (p := ⟨gb349, 2, none⟩) (Kd.R_far (p := ⟨gb349, 1, none⟩) (Kd.R_far (p := ⟨gb349, 0, none⟩) (Kd.R_types HO342.out BK349.out (by decide)) (fun _ hk => hk.2) (.slice Ao46 t340.length co46)) (fun _ hk => hk.2) (.slice Ao48 t343.length co48)) (fun _ hk => hk.2) (.int .i64 t346)) (fun _ hk => hk.2) (.int .i64 t347)) (fun _ h_ => h_.1))))) (below_size zB)) (Kd.R_lower (Kd.R_new' (Kd.R_new' ho1 (Kd.R_lt (by (with_reducible repeat (first | apply Kd.R_alloc | apply Kd.R_drewN | apply Kd.R_drew)); exact (Kd.R_mono (Kd.R_far (p := ⟨gb349, 3, none⟩) (Kd.R_far (p := ⟨gb349, 2, none⟩) (Kd.R_far (p := ⟨gb349, 1, none⟩) (Kd.R_far (p := ⟨gb349, 0, none⟩) (Kd.R_types HO334.out BK349.out (by decide)) (fun _ hk => hk.2) (.slice Ao46 t340.length co46)) (fun _ hk => hk.2) (.slice Ao48 t343.length co48)) (fun _ hk => hk.2) (.int .i64 t346)) (fun _ hk => hk.2) (.int .i64 t347)) (fun _ h_ => h_.1))))) (Kd.R_lt (by (with_reducible repeat (first | apply Kd.R_alloc | apply Kd.R_drewN | apply Kd.R_drew)); exact (Kd.R_mono (Kd.R_far (p := ⟨gb349, 3, none⟩) (Kd.R_far (p := ⟨gb349, 2, none⟩) (Kd.R_far (p := ⟨gb349, 1, none⟩) (Kd.R_far (p := ⟨gb349, 0, none⟩) (Kd.R_types HO345.out BK349.out (by decide)) (fun _ hk => hk.2) (.slice Ao46 t340.length co46)) (fun _ hk => hk.2) (.slice Ao48 t343.length co48)) (fun _ hk => hk.2) (.int .i64 t346)) (fun _ hk => hk.2) (.int .i64 t347)) (fun _ h_ => h_.1))))) (below_size zB)) (zb BK325 hb) (zb BK326 hb) (zq #[.slice Ao46 t340.length co46, .slice Ao48 t343.length co48, .int .i64 t346, .int .i64 t347] BK349 hb) (zs hb); clear HO331 HO334 HO342 HO345 BK325 BK326 BK349 HB; obtain ⟨HO331, HO334, HO342, HO345, HO352, HO355, BK325, BK326, BK349, HB⟩ := n_; (try clear hb); (try clear ho0); (try clear ho1)) | ((with_reducible refine gate_dst (N := 12) rfl ?_); refine zX (N := 12) (cs := #[.slice none 0 0, .slice none 0 0, .int .i64 0, .int .i64 0]) (t := 35) ?_; intro gb358 hg w55 hbox hb; have n_ := z19 (Kd.R_below (zRr HO331) hb) (Kd.R_below (zRr HO334) hb) (Kd.R_below (zRr HO342) hb) (Kd.R_below (zRr HO345) hb) (Kd.R_below (zRr HO352) hb) (Kd.R_below (zRr HO355) hb) (zb BK325 hb) (zb BK326 hb) (zb BK349 hb) (zs hb) (hbox) (zl hg) (zl hg) (zn BK325 hg) (zm BK325 hg) (zn BK326 hg) (zm BK326 hg) (zn BK349 hg) (zm BK349 hg); clear HO331 HO334 HO342 HO345 HO352 HO355 BK325 BK326 BK349 HB; obtain ⟨HO331, HO334, HO342, HO345, HO352, HO355, BK325, BK326, BK349, HB, BK358, GW358, GE358, NB325_358, NB358_325, NB326_358, NB358_326, NB349_358, NB358_349⟩ := n_; clear hb hbox hg; obtain ⟨Ao56, co56, eo56⟩ := Kd.R_slice HO352.out; subst eo56; have := NB358_325.out; have := NB325_358.out; have := NB358_326.out; have := NB326_358.out; have := NB358_349.out; have := NB349_358.out; obtain ⟨_, _, _, _, _, _, _, _⟩ := zC4 BK358; obtain ⟨Ao61, co61, eo61⟩ := Kd.R_slice HO355.out; subst eo61))
    have n0_ : Aside0 (Kd.R k46 46 ((((w55.setCell ⟨gb358, 0, none⟩ (.slice Ao56 t350.length co56)).setCell ⟨gb358, 1, none⟩ (.slice Ao61 t353.length co61)).setCell ⟨gb358, 2, none⟩ (.int .i64 t356)).setCell ⟨gb358, 3, none⟩ (.int .i64 t357)) w.heap.size (fun k_ => some k_ ≠ (.slice Ao46 t340.length co46 : Value).ownBlock ∧ some k_ ≠ (.slice Ao56 t350.length co56 : Value).ownBlock) v330 t329) := ⟨by (with_reducible repeat (first | apply Kd.R_alloc | apply Kd.R_drewN | apply Kd.R_drew)); exact Kd.R_mono (Kd.R_far (p := ⟨gb358, 3, none⟩) (Kd.R_far (p := ⟨gb358, 2, none⟩) (Kd.R_far (p := ⟨gb358, 1, none⟩) (Kd.R_far (p := ⟨gb358, 0, none⟩) (Kd.R_types HO331.out BK358.out (by decide)) (fun _ hk => hk.2) (.slice Ao56 t350.length co56)) (fun _ hk => hk.2) (.slice Ao61 t353.length co61)) (fun _ hk => hk.2) (.int .i64 t356)) (fun _ hk => hk.2) (.int .i64 t357)) (fun _ hk => ⟨hk.1.1, hk.1.2⟩)⟩
    have n1_ : Aside0 (Kd.R k58 58 ((((w55.setCell ⟨gb358, 0, none⟩ (.slice Ao56 t350.length co56)).setCell ⟨gb358, 1, none⟩ (.slice Ao61 t353.length co61)).setCell ⟨gb358, 2, none⟩ (.int .i64 t356)).setCell ⟨gb358, 3, none⟩ (.int .i64 t357)) w.heap.size (fun k_ => some k_ ≠ (.slice Ao48 t343.length co48 : Value).ownBlock ∧ some k_ ≠ (.slice Ao61 t353.length co61 : Value).ownBlock) v333 t332) := ⟨by (with_reducible repeat (first | apply Kd.R_alloc | apply Kd.R_drewN | apply Kd.R_drew)); exact Kd.R_mono (Kd.R_far (p := ⟨gb358, 3, none⟩) (Kd.R_far (p := ⟨gb358, 2, none⟩) (Kd.R_far (p := ⟨gb358, 1, none⟩) (Kd.R_far (p := ⟨gb358, 0, none⟩) (Kd.R_types HO334.out BK358.out (by decide)) (fun _ hk => hk.2) (.slice Ao56 t350.length co56)) (fun _ hk => hk.2) (.slice Ao61 t353.length co61)) (fun _ hk => hk.2) (.int .i64 t356)) (fun _ hk => hk.2) (.int .i64 t357)) (fun _ hk => ⟨hk.1.1, hk.1.2⟩)⟩
    have n2_ : Aside0 (Kd.R k46 46 ((((w55.setCell ⟨gb358, 0, none⟩ (.slice Ao56 t350.length co56)).setCell ⟨gb358, 1, none⟩ (.slice Ao61 t353.length co61)).setCell ⟨gb358, 2, none⟩ (.int .i64 t356)).setCell ⟨gb358, 3, none⟩ (.int .i64 t357)) w.heap.size (fun k_ => some k_ ≠ (v330 : Value).ownBlock ∧ some k_ ≠ (.slice Ao56 t350.length co56 : Value).ownBlock) (.slice Ao46 t340.length co46) t340) := ⟨by (with_reducible repeat (first | apply Kd.R_alloc | apply Kd.R_drewN | apply Kd.R_drew)); exact Kd.R_mono (Kd.R_far (p := ⟨gb358, 3, none⟩) (Kd.R_far (p := ⟨gb358, 2, none⟩) (Kd.R_far (p := ⟨gb358, 1, none⟩) (Kd.R_far (p := ⟨gb358, 0, none⟩) (Kd.R_types HO342.out BK358.out (by decide)) (fun _ hk => hk.2) (.slice Ao56 t350.length co56)) (fun _ hk => hk.2) (.slice Ao61 t353.length co61)) (fun _ hk => hk.2) (.int .i64 t356)) (fun _ hk => hk.2) (.int .i64 t357)) (fun _ hk => ⟨hk.1.1, hk.1.2⟩)⟩
    have n3_ : Aside0 (Kd.R k58 58 ((((w55.setCell ⟨gb358, 0, none⟩ (.slice Ao56 t350.length co56)).setCell ⟨gb358, 1, none⟩ (.slice Ao61 t353.length co61)).setCell ⟨gb358, 2, none⟩ (.int .i64 t356)).setCell ⟨gb358, 3, none⟩ (.int .i64 t357)) w.heap.size (fun k_ => some k_ ≠ (v333 : Value).ownBlock ∧ some k_ ≠ (.slice Ao61 t353.length co61 : Value).ownBlock) (.slice Ao48 t343.length co48) t343) := ⟨by (with_reducible repeat (first | apply Kd.R_alloc | apply Kd.R_drewN | apply Kd.R_drew)); exact Kd.R_mono (Kd.R_far (p := ⟨gb358, 3, none⟩) (Kd.R_far (p := ⟨gb358, 2, none⟩) (Kd.R_far (p := ⟨gb358, 1, none⟩) (Kd.R_far (p := ⟨gb358, 0, none⟩) (Kd.R_types HO345.out BK358.out (by decide)) (fun _ hk => hk.2) (.slice Ao56 t350.length co56)) (fun _ hk => hk.2) (.slice Ao61 t353.length co61)) (fun _ hk => hk.2) (.int .i64 t356)) (fun _ hk => hk.2) (.int .i64 t357)) (fun _ hk => ⟨hk.1.1, hk.1.2⟩)⟩
    have n4_ : Aside0 (Kd.R k46 46 ((((w55.setCell ⟨gb358, 0, none⟩ (.slice Ao56 t350.length co56)).setCell ⟨gb358, 1, none⟩ (.slice Ao61 t353.length co61)).setCell ⟨gb358, 2, none⟩ (.int .i64 t356)).setCell ⟨gb358, 3, none⟩ (.int .i64 t357)) w.heap.size (fun k_ => some k_ ≠ (v330 : Value).ownBlock ∧ some k_ ≠ (.slice Ao46 t340.length co46 : Value).ownBlock) (.slice Ao56 t350.length co56) t350) := ⟨by (with_reducible repeat (first | apply Kd.R_alloc | apply Kd.R_drewN | apply Kd.R_drew)); exact Kd.R_mono (Kd.R_far (p := ⟨gb358, 3, none⟩) (Kd.R_far (p := ⟨gb358, 2, none⟩) (Kd.R_far (p := ⟨gb358, 1, none⟩) (Kd.R_far (p := ⟨gb358, 0, none⟩) (Kd.R_types HO352.out BK358.out (by decide)) (fun _ hk => hk.2) (.slice Ao56 t350.length co56)) (fun _ hk => hk.2) (.slice Ao61 t353.length co61)) (fun _ hk => hk.2) (.int .i64 t356)) (fun _ hk => hk.2) (.int .i64 t357)) (fun _ hk => ⟨hk.1.1.2, hk.1.2⟩)⟩
    have n5_ : Aside0 (Kd.R k58 58 ((((w55.setCell ⟨gb358, 0, none⟩ (.slice Ao56 t350.length co56)).setCell ⟨gb358, 1, none⟩ (.slice Ao61 t353.length co61)).setCell ⟨gb358, 2, none⟩ (.int .i64 t356)).setCell ⟨gb358, 3, none⟩ (.int .i64 t357)) w.heap.size (fun k_ => some k_ ≠ (v333 : Value).ownBlock ∧ some k_ ≠ (.slice Ao48 t343.length co48 : Value).ownBlock) (.slice Ao61 t353.length co61) t353) := ⟨by (with_reducible repeat (first | apply Kd.R_alloc | apply Kd.R_drewN | apply Kd.R_drew)); exact Kd.R_mono (Kd.R_far (p := ⟨gb358, 3, none⟩) (Kd.R_far (p := ⟨gb358, 2, none⟩) (Kd.R_far (p := ⟨gb358, 1, none⟩) (Kd.R_far (p := ⟨gb358, 0, none⟩) (Kd.R_types HO355.out BK358.out (by decide)) (fun _ hk => hk.2) (.slice Ao56 t350.length co56)) (fun _ hk => hk.2) (.slice Ao61 t353.length co61)) (fun _ hk => hk.2) (.int .i64 t356)) (fun _ hk => hk.2) (.int .i64 t357)) (fun _ hk => ⟨hk.1.1.2, hk.1.2⟩)⟩
    have n6_ : Aside0 (((((w55.setCell ⟨gb358, 0, none⟩ (.slice Ao56 t350.length co56)).setCell ⟨gb358, 1, none⟩ (.slice Ao61 t353.length co61)).setCell ⟨gb358, 2, none⟩ (.int .i64 t356)).setCell ⟨gb358, 3, none⟩ (.int .i64 t357)).heap[gb325]? = some (.cells #[.slice A0_0 l0_0.length c0_0, .slice A0_1 l0_1.length c0_1, .int .i64 a0_2, .int .i64 a0_3] 30 (0, 0))) := ⟨zP BK325⟩
    have n7_ : Aside0 (((((w55.setCell ⟨gb358, 0, none⟩ (.slice Ao56 t350.length co56)).setCell ⟨gb358, 1, none⟩ (.slice Ao61 t353.length co61)).setCell ⟨gb358, 2, none⟩ (.int .i64 t356)).setCell ⟨gb358, 3, none⟩ (.int .i64 t357)).heap[gb326]? = some (.cells #[.int .i64 a3_0, .int .i64 a3_1, .string a3_2] 42 (0, 0))) := ⟨zP BK326⟩
    have n8_ : Aside0 (((((w55.setCell ⟨gb358, 0, none⟩ (.slice Ao56 t350.length co56)).setCell ⟨gb358, 1, none⟩ (.slice Ao61 t353.length co61)).setCell ⟨gb358, 2, none⟩ (.int .i64 t356)).setCell ⟨gb358, 3, none⟩ (.int .i64 t357)).heap[gb349]? = some (.cells #[.slice Ao46 t340.length co46, .slice Ao48 t343.length co48, .int .i64 t346, .int .i64 t347] 35 (0, 0))) := ⟨zP BK349⟩
    have n9_ : Aside0 (((((w55.setCell ⟨gb358, 0, none⟩ (.slice Ao56 t350.length co56)).setCell ⟨gb358, 1, none⟩ (.slice Ao61 t353.length co61)).setCell ⟨gb358, 2, none⟩ (.int .i64 t356)).setCell ⟨gb358, 3, none⟩ (.int .i64 t357)).heap[gb358]? = some (.cells #[.slice Ao56 t350.length co56, .slice Ao61 t353.length co61, .int .i64 t356, .int .i64 t357] 35 (0, 0))) := ⟨zP BK358⟩
    have n10_ : Aside0 (Below w.heap.size w ((((w55.setCell ⟨gb358, 0, none⟩ (.slice Ao56 t350.length co56)).setCell ⟨gb358, 1, none⟩ (.slice Ao61 t353.length co61)).setCell ⟨gb358, 2, none⟩ (.int .i64 t356)).setCell ⟨gb358, 3, none⟩ (.int .i64 t357))) := ⟨zB⟩
    (try clear HO331)
    (try clear HO334)
    (try clear HO342)
    (try clear HO345)
    (try clear HO352)
    (try clear HO355)
    (try clear BK325)
    (try clear BK326)
    (try clear BK349)
    (try clear BK358)
    (try clear HB)
    generalize ((((w55.setCell ⟨gb358, 0, none⟩ (.slice Ao56 t350.length co56)).setCell ⟨gb358, 1, none⟩ (.slice Ao61 t353.length co61)).setCell ⟨gb358, 2, none⟩ (.int .i64 t356)).setCell ⟨gb358, 3, none⟩ (.int .i64 t357)) = w62 at n0_ n1_ n2_ n3_ n4_ n5_ n6_ n7_ n8_ n9_ n10_ ⊢
    have HO331 := n0_
    have HO334 := n1_
    have HO342 := n2_
    have HO345 := n3_
    have HO352 := n4_
    have HO355 := n5_
    have BK325 := n6_
    have BK326 := n7_
    have BK349 := n8_
    have BK358 := n9_
    have HB := n10_
    clear n0_ n1_ n2_ n3_ n4_ n5_ n6_ n7_ n8_ n9_ n10_
    have n_ := z11 (Kd.R_drew HO331.out) (Kd.R_drew HO334.out) (Kd.R_drew HO342.out) (Kd.R_drew HO345.out) (Kd.R_drew HO352.out) (Kd.R_drew HO355.out) (blk_drew BK325.out) (blk_drew BK326.out) (blk_drew BK349.out) (blk_drew BK358.out) (below_drew1 HB.out)
    clear HO331 HO334 HO342 HO345 HO352 HO355 BK325 BK326 BK349 BK358 HB
    obtain ⟨HO331, HO334, HO342, HO345, HO352, HO355, BK325, BK326, BK349, BK358, HB⟩ := n_
    refine start_ (n := 12) (S := fun w' => w'.cell? ⟨gb358, 0, none⟩ = some (.slice Ao56 t350.length co56) ∧ w'.cell? ⟨gb358, 1, none⟩ = some (.slice Ao61 t353.length co61) ∧ w'.cell? ⟨gb358, 2, none⟩ = some (.int .i64 t356) ∧ w'.cell? ⟨gb358, 3, none⟩ = some (.int .i64 t357) ∧ w'.cell? ⟨gb326, 0, none⟩ = some (.int .i64 a3_0) ∧ w'.cell? ⟨gb326, 1, none⟩ = some (.int .i64 a3_1) ∧ w'.cell? ⟨gb326, 2, none⟩ = some (.string a3_2)) (ds := []) #[false, false, false, false, false, false, false, false, false, false, false, false] (by kernel_rfl) rfl rfl ⟨(blk_cell BK358.out 0).trans rfl, (blk_cell BK358.out 1).trans rfl, (blk_cell BK358.out 2).trans rfl, (blk_cell BK358.out 3).trans rfl, (blk_cell BK326.out 0).trans rfl, (blk_cell BK326.out 1).trans rfl, (blk_cell BK326.out 2).trans rfl⟩ (fun hHeld => ?_); refine with_tabW laws_FnExactCellPut.tab12 laws_FnExactCellPut.bits12 (fun HT_ HW_ => ?_)
    generalize w62.drew = w63 at HO331 HO334 HO342 HO345 HO352 HO355 BK325 BK326 BK349 BK358 HB hHeld ⊢
    refine pure_ (i := 1) (N := some 47) (v := ?_) (a' := ?_) #[false, true, false, false, false, false, false, false, false, false, false, false] rfl rfl (any_of HT_.out (by kernel_rfl)) (fun _ _ _ h => h) (Or.inl ⟨by rfl, ?_⟩) ?_ ?_
    rotate_left
    ·intro w'; go_simp; with_reducible rfl
    rotate_left
    ·exact zY
    refine pure_ (i := 2) (N := some 48) (v := ?_) (a' := ?_) #[false, true, true, false, false, false, false, false, false, false, false, false] rfl rfl (any_of HT_.out (by kernel_rfl)) (fun _ _ _ h => h) (Or.inl ⟨by rfl, ?_⟩) ?_ ?_
    rotate_left
    ·intro w'; go_simp; with_reducible rfl
    rotate_left
    ·exact zY
    refine take_ (i := 0) (N := some 46) (v := ?_) (a' := ?_) #[true, true, true, false, false, false, false, false, false, false, false, false] rfl rfl (take_ofW HT_.out HW_.out (by kernel_rfl)) (fun _ _ _ h => h) (Or.inl ⟨by rfl, ?_⟩) hHeld ?_ ?_
    rotate_left
    ·rintro w' ⟨s0, s1, s2, s3, s4, s5, s6⟩
     go_simp
     with_reducible rfl
    rotate_left
    ·exact zY
    refine take_ (i := 3) (N := some 49) (v := ?_) (a' := ?_) #[true, true, true, true, false, false, false, false, false, false, false, false] rfl rfl (take_ofW HT_.out HW_.out (by kernel_rfl)) (fun _ _ _ h => h) (Or.inl ⟨by rfl, ?_⟩) hHeld ?_ ?_
    rotate_left
    ·rintro w' ⟨s0, s1, s2, s3, s4, s5, s6⟩
     go_simp
     with_reducible rfl
    rotate_left
    ·exact zY
    refine join_ (σ := Value × Value × Nat) 2 #[true, true, true, true, true, true, true, true, true, true, false, false] (fun s_ => [(50, .agg #[.int .i64 t359, .int .i64 t360, .string t361]), (51, .tuple #[.agg #[s_.1, s_.2.1, .int .i64 t368, .int .i64 t369], .bool t370]), (13, .pointer (some ⟨s_.2.2, 0, none⟩)), (45, .tuple #[.agg #[s_.1, s_.2.1, .int .i64 t368, .int .i64 t369], .bool t370]), (52, .agg #[s_.1, s_.2.1, .int .i64 t368, .int .i64 t369]), (53, .bool t370)]) (fun s_ w' => (w'.cell? ⟨gb358, 0, none⟩ = some (.slice Ao56 t350.length co56) ∧ w'.cell? ⟨gb358, 1, none⟩ = some (.slice Ao61 t353.length co61) ∧ w'.cell? ⟨gb358, 2, none⟩ = some (.int .i64 t356) ∧ w'.cell? ⟨gb358, 3, none⟩ = some (.int .i64 t357) ∧ w'.cell? ⟨gb326, 0, none⟩ = some (.int .i64 a3_0) ∧ w'.cell? ⟨gb326, 1, none⟩ = some (.int .i64 a3_1) ∧ w'.cell? ⟨gb326, 2, none⟩ = some (.string a3_2)) ∧ (Kd.R k46 46 w' w.heap.size (fun k_ => some k_ ≠ (.slice Ao46 t340.length co46 : Value).ownBlock ∧ some k_ ≠ (.slice Ao56 t350.length co56 : Value).ownBlock ∧ some k_ ≠ (s_.1 : Value).ownBlock) v330 t329) ∧ (Kd.R k58 58 w' w.heap.size (fun k_ => some k_ ≠ (.slice Ao48 t343.length co48 : Value).ownBlock ∧ some k_ ≠ (.slice Ao61 t353.length co61 : Value).ownBlock ∧ some k_ ≠ (s_.2.1 : Value).ownBlock) v333 t332) ∧ (Kd.R k46 46 w' w.heap.size (fun k_ => some k_ ≠ (v330 : Value).ownBlock ∧ some k_ ≠ (.slice Ao56 t350.length co56 : Value).ownBlock ∧ some k_ ≠ (s_.1 : Value).ownBlock) (.slice Ao46 t340.length co46) t340) ∧ (Kd.R k58 58 w' w.heap.size (fun k_ => some k_ ≠ (v333 : Value).ownBlock ∧ some k_ ≠ (.slice Ao61 t353.length co61 : Value).ownBlock ∧ some k_ ≠ (s_.2.1 : Value).ownBlock) (.slice Ao48 t343.length co48) t343) ∧ (Kd.R k46 46 w' w.heap.size (fun k_ => some k_ ≠ (v330 : Value).ownBlock ∧ some k_ ≠ (.slice Ao46 t340.length co46 : Value).ownBlock ∧ some k_ ≠ (s_.1 : Value).ownBlock) (.slice Ao56 t350.length co56) t350) ∧ (Kd.R k58 58 w' w.heap.size (fun k_ => some k_ ≠ (v333 : Value).ownBlock ∧ some k_ ≠ (.slice Ao48 t343.length co48 : Value).ownBlock ∧ some k_ ≠ (s_.2.1 : Value).ownBlock) (.slice Ao61 t353.length co61) t353) ∧ (Kd.R k46 46 w' w.heap.size (fun k_ => some k_ ≠ (v330 : Value).ownBlock ∧ some k_ ≠ (.slice Ao46 t340.length co46 : Value).ownBlock ∧ some k_ ≠ (.slice Ao56 t350.length co56 : Value).ownBlock) s_.1 t362) ∧ (Kd.R k58 58 w' w.heap.size (fun k_ => some k_ ≠ (v333 : Value).ownBlock ∧ some k_ ≠ (.slice Ao48 t343.length co48 : Value).ownBlock ∧ some k_ ≠ (.slice Ao61 t353.length co61 : Value).ownBlock) s_.2.1 t365) ∧ (w'.heap[gb325]? = some (.cells #[.slice A0_0 l0_0.length c0_0, .slice A0_1 l0_1.length c0_1, .int .i64 a0_2, .int .i64 a0_3] 30 (0, 0))) ∧ (w'.heap[gb326]? = some (.cells #[.int .i64 a3_0, .int .i64 a3_1, .string a3_2] 42 (0, 0))) ∧ (w'.heap[gb349]? = some (.cells #[.slice Ao46 t340.length co46, .slice Ao48 t343.length co48, .int .i64 t346, .int .i64 t347] 35 (0, 0))) ∧ (w'.heap[gb358]? = some (.cells #[.slice Ao56 t350.length co56, .slice Ao61 t353.length co61, .int .i64 t356, .int .i64 t357] 35 (0, 0))) ∧ (w'.heap[s_.2.2]? = some (.cells #[.slice none 0 0, .slice none 0 0, .int .i64 0, .int .i64 0] 35 (0, 0))) ∧ (w.heap.size ≤ s_.2.2) ∧ (w.heap.size ≤ s_.2.2) ∧ (gb325 ≠ s_.2.2) ∧ (s_.2.2 ≠ gb325) ∧ (gb326 ≠ s_.2.2) ∧ (s_.2.2 ≠ gb326) ∧ (gb349 ≠ s_.2.2) ∧ (s_.2.2 ≠ gb349) ∧ (gb358 ≠ s_.2.2) ∧ (s_.2.2 ≠ gb358) ∧ (Below w.heap.size w w')) ?_ ?_
    rotate_left
    ·intro hCont
     refine two_ (i := 4) (j := 9) (Ni := some 50) (Nj := some 13) #[true, true, true, true, true, false, false, false, false, false, false, false] #[true, true, true, true, false, false, false, false, false, true, false, false] rfl rfl rfl rfl (two_of HT_.out (by kernel_rfl)) (by decide) (by decide) (fun K hK => ?_) (fun K hK => ?_)
     ·skip
      refine goes_ Try.func20 (by kernel_rfl) rfl #[.agg #[.int .i64 a3_0, .int .i64 a3_1, .string a3_2]] (by rfl) rfl rfl zA ?_
      with_reducible refine (laws_toVal.calls a3_0 a3_1 a3_2 t359 t360 t361 _ A28.out).mono ?_
      rintro e w64 ⟨rfl, hb⟩
      refine ⟨_, rfl, ?_⟩
      have n_ := z11 (Kd.R_below (zRr HO331) hb) (Kd.R_below (zRr HO334) hb) (Kd.R_below (zRr HO342) hb) (Kd.R_below (zRr HO345) hb) (Kd.R_below (zRr HO352) hb) (Kd.R_below (zRr HO355) hb) (zb BK325 hb) (zb BK326 hb) (zb BK349 hb) (zb BK358 hb) (zs hb)
      clear HO331 HO334 HO342 HO345 HO352 HO355 BK325 BK326 BK349 BK358 HB
      obtain ⟨HO331, HO334, HO342, HO345, HO352, HO355, BK325, BK326, BK349, BK358, HB⟩ := n_
      (try clear hb)
      (try clear hb2)
      (try clear hk)
      (try clear hi)
      refine hK.out _ _ ⟨(blk_cell BK358.out 0).trans rfl, (blk_cell BK358.out 1).trans rfl, (blk_cell BK358.out 2).trans rfl, (blk_cell BK358.out 3).trans rfl, (blk_cell BK326.out 0).trans rfl, (blk_cell BK326.out 1).trans rfl, (blk_cell BK326.out 2).trans rfl⟩ (fun hHeld => ?_)
      clear hK K
      refine norm_ (a' := ?_) ?_ ?_
      rotate_left
      ·show Act.put _ (some 50) _ = _
       simp only [Act.put, List.setIfInBounds_toArray, List.set_cons_zero, List.set_cons_succ, i64_w, i32_w]
       rfl
      refine two_ (i := 5) (j := 9) (Ni := some 51) (Nj := some 13) #[true, true, true, true, true, true, false, false, false, false, false, false] #[true, true, true, true, true, false, false, false, false, true, false, false] rfl rfl rfl rfl (two_of HT_.out (by kernel_rfl)) (by decide) (by decide) (fun K hK => ?_) (fun K hK => ?_)
      ·skip
       refine goes_ Try.func21 (by kernel_rfl) rfl #[.agg #[.slice Ao56 t350.length co56, .slice Ao61 t353.length co61, .int .i64 t356, .int .i64 t357], .int .i64 a1, .string a2, .agg #[.int .i64 t359, .int .i64 t360, .string t361]] (by rfl) rfl rfl zA ?_
       with_reducible refine (impl_CellPut.calls k _ _ t350 _ _ t353 t356 t357 a1 a2 t359 t360 t361 t362 t365 t368 t369 t370 _ ?side1 ?side2 ?side3 ?side4 A29.out).mono ?_
       (case side1 => exact zCc ((Kd.R_reads' HO352.out).2.2))
       (case side2 => exact (Kd.R_reads' HO352.out).2.1)
       (case side3 => exact zCc ((Kd.R_reads' HO355.out).2.2))
       (case side4 => exact (Kd.R_reads' HO355.out).2.1)
       rintro e w65 ⟨v363, v366, rfl, ho0, ho1, hb⟩
       refine ⟨_, rfl, ?_⟩
       have n_ := z13 (Kd.R_elder' (zRr HO331) (Kd.R_base ho0) hb) (Kd.R_elder' (zRr HO334) (Kd.R_base ho1) hb) (Kd.R_elder' (zRr HO342) (Kd.R_base ho0) hb) (Kd.R_elder' (zRr HO345) (Kd.R_base ho1) hb) (Kd.R_elder' (zRr HO352) (Kd.R_base ho0) hb) (Kd.R_elder' (zRr HO355) (Kd.R_base ho1) hb) (Kd.R_lower (Kd.R_new' (Kd.R_new' (Kd.R_new' ho0 (Kd.R_lt (zRr HO331))) (Kd.R_lt (zRr HO342))) (Kd.R_lt (zRr HO352))) (below_size zB)) (Kd.R_lower (Kd.R_new' (Kd.R_new' (Kd.R_new' ho1 (Kd.R_lt (zRr HO334))) (Kd.R_lt (zRr HO345))) (Kd.R_lt (zRr HO355))) (below_size zB)) (zb BK325 hb) (zb BK326 hb) (zb BK349 hb) (zb BK358 hb) (zs hb)
       clear HO331 HO334 HO342 HO345 HO352 HO355 BK325 BK326 BK349 BK358 HB
       obtain ⟨HO331, HO334, HO342, HO345, HO352, HO355, HO364, HO367, BK325, BK326, BK349, BK358, HB⟩ := n_
       (try clear hb)
       (try clear hb2)
       (try clear hk)
       (try clear hi)
       (try clear ho0)
       (try clear ho1)
       refine hK.out _ _ ⟨(blk_cell BK358.out 0).trans rfl, (blk_cell BK358.out 1).trans rfl, (blk_cell BK358.out 2).trans rfl, (blk_cell BK358.out 3).trans rfl, (blk_cell BK326.out 0).trans rfl, (blk_cell BK326.out 1).trans rfl, (blk_cell BK326.out 2).trans rfl⟩ (fun hHeld => ?_)
       clear hK K
       refine norm_ (a' := ?_) ?_ ?_
       rotate_left
       ·show Act.put _ (some 51) _ = _
        simp only [Act.put, List.setIfInBounds_toArray, List.set_cons_zero, List.set_cons_succ, i64_w, i32_w]
        rfl
       refine pure_ (i := 6) (N := some 45) (v := ?_) (a' := ?_) #[true, true, true, true, true, true, true, false, false, false, false, false] rfl rfl (any_of HT_.out (by kernel_rfl)) (fun _ _ _ h => h) (Or.inl ⟨by rfl, ?_⟩) ?_ ?_
       rotate_left
       ·intro w'; go_simp; with_reducible rfl
       rotate_left
       ·exact zY
       refine pure_ (i := 7) (N := some 52) (v := ?_) (a' := ?_) #[true, true, true, true, true, true, true, true, false, false, false, false] rfl rfl (any_of HT_.out (by kernel_rfl)) (fun _ _ _ h => h) (Or.inl ⟨by rfl, ?_⟩) ?_ ?_
       rotate_left
       ·intro w'; go_simp; with_reducible rfl
       rotate_left
       ·exact zY
       refine pure_ (i := 8) (N := some 53) (v := ?_) (a' := ?_) #[true, true, true, true, true, true, true, true, true, false, false, false] rfl rfl (any_of HT_.out (by kernel_rfl)) (fun _ _ _ h => h) (Or.inl ⟨by rfl, ?_⟩) ?_ ?_
       rotate_left
       ·intro w'; go_simp; with_reducible rfl
       rotate_left
       ·exact zY
       refine one_ (i := 9) (N := some 13) #[true, true, true, true, true, true, true, true, true, true, false, false] rfl rfl (one_of HT_.out (by kernel_rfl)) (by decide) (fun K hK => ?_)
       refine box_step ?hg (N := 13) ?hd (cs := #[.slice none 0 0, .slice none 0 0, .int .i64 0, .int .i64 0]) (t := 35) ?hr ?_; (case hd => rfl); (case hg => rfl); (case hr => first | (go_simp; done) | (go_simp; rfl))
       intro gb371 hg w66 hbox hb
       have n_ := z24 (Kd.R_below (zRr HO331) hb) (Kd.R_below (zRr HO334) hb) (Kd.R_below (zRr HO342) hb) (Kd.R_below (zRr HO345) hb) (Kd.R_below (zRr HO352) hb) (Kd.R_below (zRr HO355) hb) (Kd.R_below (zRr HO364) hb) (Kd.R_below (zRr HO367) hb) (zb BK325 hb) (zb BK326 hb) (zb BK349 hb) (zb BK358 hb) (zs hb) (hbox) (zl hg) (zl hg) (zn BK325 hg) (zm BK325 hg) (zn BK326 hg) (zm BK326 hg) (zn BK349 hg) (zm BK349 hg) (zn BK358 hg) (zm BK358 hg)
       clear HO331 HO334 HO342 HO345 HO352 HO355 HO364 HO367 BK325 BK326 BK349 BK358 HB
       obtain ⟨HO331, HO334, HO342, HO345, HO352, HO355, HO364, HO367, BK325, BK326, BK349, BK358, HB, BK371, GW371, GE371, NB325_371, NB371_325, NB326_371, NB371_326, NB349_371, NB371_349, NB358_371, NB371_358⟩ := n_
       clear hb hbox hg
       refine hK.out _ _ ⟨(blk_cell BK358.out 0).trans rfl, (blk_cell BK358.out 1).trans rfl, (blk_cell BK358.out 2).trans rfl, (blk_cell BK358.out 3).trans rfl, (blk_cell BK326.out 0).trans rfl, (blk_cell BK326.out 1).trans rfl, (blk_cell BK326.out 2).trans rfl⟩ (fun hHeld => ?_)
       clear hK K
       refine norm_ (a' := ?_) ?_ ?_
       rotate_left
       ·show Act.put _ (some 13) _ = _
        simp only [Act.put, List.setIfInBounds_toArray, List.set_cons_zero, List.set_cons_succ, i64_w, i32_w]
        rfl
       exact norm_ (by simp only [putAll, Act.put, List.setIfInBounds_toArray, List.set_cons_zero, List.set_cons_succ]) (hCont (v363, v366, gb371) _ ⟨hHeld, (zRm HO331 (fun _ hk => ⟨hk.1.1, ⟨hk.1.2, hk.2⟩⟩)), (zRm HO334 (fun _ hk => ⟨hk.1.1, ⟨hk.1.2, hk.2⟩⟩)), (zRm HO342 (fun _ hk => ⟨hk.1.1, ⟨hk.1.2, hk.2⟩⟩)), (zRm HO345 (fun _ hk => ⟨hk.1.1, ⟨hk.1.2, hk.2⟩⟩)), (zRm HO352 (fun _ hk => ⟨hk.1.1, ⟨hk.1.2, hk.2⟩⟩)), (zRm HO355 (fun _ hk => ⟨hk.1.1, ⟨hk.1.2, hk.2⟩⟩)), (zRm HO364 (fun _ hk => ⟨hk.1.1.2, ⟨hk.1.2, hk.2⟩⟩)), (zRm HO367 (fun _ hk => ⟨hk.1.1.2, ⟨hk.1.2, hk.2⟩⟩)), (zP BK325), (zP BK326), (zP BK349), (zP BK358), (zP BK371), GW371.out, GE371.out, NB325_371.out, NB371_325.out, NB326_371.out, NB371_326.out, NB349_371.out, NB371_349.out, NB358_371.out, NB371_358.out, zB⟩)
      ·skip
       refine box_step ?hg (N := 13) ?hd (cs := #[.slice none 0 0, .slice none 0 0, .int .i64 0, .int .i64 0]) (t := 35) ?hr ?_; (case hd => rfl); (case hg => rfl); (case hr => first | (go_simp; done) | (go_simp; rfl))
       intro gb371 hg w65 hbox hb
       have n_ := z22 (Kd.R_below (zRr HO331) hb) (Kd.R_below (zRr HO334) hb) (Kd.R_below (zRr HO342) hb) (Kd.R_below (zRr HO345) hb) (Kd.R_below (zRr HO352) hb) (Kd.R_below (zRr HO355) hb) (zb BK325 hb) (zb BK326 hb) (zb BK349 hb) (zb BK358 hb) (zs hb) (hbox) (zl hg) (zl hg) (zn BK325 hg) (zm BK325 hg) (zn BK326 hg) (zm BK326 hg) (zn BK349 hg) (zm BK349 hg) (zn BK358 hg) (zm BK358 hg)
       clear HO331 HO334 HO342 HO345 HO352 HO355 BK325 BK326 BK349 BK358 HB
       obtain ⟨HO331, HO334, HO342, HO345, HO352, HO355, BK325, BK326, BK349, BK358, HB, BK371, GW371, GE371, NB325_371, NB371_325, NB326_371, NB371_326, NB349_371, NB371_349, NB358_371, NB371_358⟩ := n_
       clear hb hbox hg
       refine hK.out _ _ ⟨(blk_cell BK358.out 0).trans rfl, (blk_cell BK358.out 1).trans rfl, (blk_cell BK358.out 2).trans rfl, (blk_cell BK358.out 3).trans rfl, (blk_cell BK326.out 0).trans rfl, (blk_cell BK326.out 1).trans rfl, (blk_cell BK326.out 2).trans rfl⟩ (fun hHeld => ?_)
       clear hK K
       refine norm_ (a' := ?_) ?_ ?_
       rotate_left
       ·show Act.put _ (some 13) _ = _
        simp only [Act.put, List.setIfInBounds_toArray, List.set_cons_zero, List.set_cons_succ, i64_w, i32_w]
        rfl
       refine one_ (i := 5) (N := some 51) #[true, true, true, true, true, true, false, false, false, true, false, false] rfl rfl (one_of HT_.out (by kernel_rfl)) (by decide) (fun K hK => ?_)
       refine goes_ Try.func21 (by kernel_rfl) rfl #[.agg #[.slice Ao56 t350.length co56, .slice Ao61 t353.length co61, .int .i64 t356, .int .i64 t357], .int .i64 a1, .string a2, .agg #[.int .i64 t359, .int .i64 t360, .string t361]] (by rfl) rfl rfl zA ?_
       with_reducible refine (impl_CellPut.calls k _ _ t350 _ _ t353 t356 t357 a1 a2 t359 t360 t361 t362 t365 t368 t369 t370 _ ?side1 ?side2 ?side3 ?side4 A29.out).mono ?_
       (case side1 => exact zCc ((Kd.R_reads' HO352.out).2.2))
       (case side2 => exact (Kd.R_reads' HO352.out).2.1)
       (case side3 => exact zCc ((Kd.R_reads' HO355.out).2.2))
       (case side4 => exact (Kd.R_reads' HO355.out).2.1)
       rintro e w66 ⟨v363, v366, rfl, ho0, ho1, hb⟩
       refine ⟨_, rfl, ?_⟩
       have n_ := z14 (Kd.R_elder' (zRr HO331) (Kd.R_base ho0) hb) (Kd.R_elder' (zRr HO334) (Kd.R_base ho1) hb) (Kd.R_elder' (zRr HO342) (Kd.R_base ho0) hb) (Kd.R_elder' (zRr HO345) (Kd.R_base ho1) hb) (Kd.R_elder' (zRr HO352) (Kd.R_base ho0) hb) (Kd.R_elder' (zRr HO355) (Kd.R_base ho1) hb) (Kd.R_lower (Kd.R_new' (Kd.R_new' (Kd.R_new' ho0 (Kd.R_lt (zRr HO331))) (Kd.R_lt (zRr HO342))) (Kd.R_lt (zRr HO352))) (below_size zB)) (Kd.R_lower (Kd.R_new' (Kd.R_new' (Kd.R_new' ho1 (Kd.R_lt (zRr HO334))) (Kd.R_lt (zRr HO345))) (Kd.R_lt (zRr HO355))) (below_size zB)) (zb BK325 hb) (zb BK326 hb) (zb BK349 hb) (zb BK358 hb) (zb BK371 hb) (zs hb)
       clear HO331 HO334 HO342 HO345 HO352 HO355 BK325 BK326 BK349 BK358 BK371 HB
       obtain ⟨HO331, HO334, HO342, HO345, HO352, HO355, HO364, HO367, BK325, BK326, BK349, BK358, BK371, HB⟩ := n_
       (try clear hb)
       (try clear hb2)
       (try clear hk)
       (try clear hi)
       (try clear ho0)
       (try clear ho1)
       refine hK.out _ _ ⟨(blk_cell BK358.out 0).trans rfl, (blk_cell BK358.out 1).trans rfl, (blk_cell BK358.out 2).trans rfl, (blk_cell BK358.out 3).trans rfl, (blk_cell BK326.out 0).trans rfl, (blk_cell BK326.out 1).trans rfl, (blk_cell BK326.out 2).trans rfl⟩ (fun hHeld => ?_)
       clear hK K
       refine norm_ (a' := ?_) ?_ ?_
       rotate_left
       ·show Act.put _ (some 51) _ = _
        simp only [Act.put, List.setIfInBounds_toArray, List.set_cons_zero, List.set_cons_succ, i64_w, i32_w]
        rfl
       refine pure_ (i := 6) (N := some 45) (v := ?_) (a' := ?_) #[true, true, true, true, true, true, true, false, false, true, false, false] rfl rfl (any_of HT_.out (by kernel_rfl)) (fun _ _ _ h => h) (Or.inl ⟨by rfl, ?_⟩) ?_ ?_
       rotate_left
       ·intro w'; go_simp; with_reducible rfl
       rotate_left
       ·exact zY
       refine pure_ (i := 7) (N := some 52) (v := ?_) (a' := ?_) #[true, true, true, true, true, true, true, true, false, true, false, false] rfl rfl (any_of HT_.out (by kernel_rfl)) (fun _ _ _ h => h) (Or.inl ⟨by rfl, ?_⟩) ?_ ?_
       rotate_left
       ·intro w'; go_simp; with_reducible rfl
       rotate_left
       ·exact zY
       refine pure_ (i := 8) (N := some 53) (v := ?_) (a' := ?_) #[true, true, true, true, true, true, true, true, true, true, false, false] rfl rfl (any_of HT_.out (by kernel_rfl)) (fun _ _ _ h => h) (Or.inl ⟨by rfl, ?_⟩) ?_ ?_
       rotate_left
       ·intro w'; go_simp; with_reducible rfl
       rotate_left
       ·exact zY
       exact norm_ (by simp only [putAll, Act.put, List.setIfInBounds_toArray, List.set_cons_zero, List.set_cons_succ]) (hCont (v363, v366, gb371) _ ⟨hHeld, (zRm HO331 (fun _ hk => ⟨hk.1.1, ⟨hk.1.2, hk.2⟩⟩)), (zRm HO334 (fun _ hk => ⟨hk.1.1, ⟨hk.1.2, hk.2⟩⟩)), (zRm HO342 (fun _ hk => ⟨hk.1.1, ⟨hk.1.2, hk.2⟩⟩)), (zRm HO345 (fun _ hk => ⟨hk.1.1, ⟨hk.1.2, hk.2⟩⟩)), (zRm HO352 (fun _ hk => ⟨hk.1.1, ⟨hk.1.2, hk.2⟩⟩)), (zRm HO355 (fun _ hk => ⟨hk.1.1, ⟨hk.1.2, hk.2⟩⟩)), (zRm HO364 (fun _ hk => ⟨hk.1.1.2, ⟨hk.1.2, hk.2⟩⟩)), (zRm HO367 (fun _ hk => ⟨hk.1.1.2, ⟨hk.1.2, hk.2⟩⟩)), (zP BK325), (zP BK326), (zP BK349), (zP BK358), (zP BK371), GW371.out, GE371.out, NB325_371.out, NB371_325.out, NB326_371.out, NB371_326.out, NB349_371.out, NB371_349.out, NB358_371.out, NB371_358.out, zB⟩)
     ·skip
      refine box_step ?hg (N := 13) ?hd (cs := #[.slice none 0 0, .slice none 0 0, .int .i64 0, .int .i64 0]) (t := 35) ?hr ?_; (case hd => rfl); (case hg => rfl); (case hr => first | (go_simp; done) | (go_simp; rfl))
      intro gb371 hg w64 hbox hb
      have n_ := z22 (Kd.R_below (zRr HO331) hb) (Kd.R_below (zRr HO334) hb) (Kd.R_below (zRr HO342) hb) (Kd.R_below (zRr HO345) hb) (Kd.R_below (zRr HO352) hb) (Kd.R_below (zRr HO355) hb) (zb BK325 hb) (zb BK326 hb) (zb BK349 hb) (zb BK358 hb) (zs hb) (hbox) (zl hg) (zl hg) (zn BK325 hg) (zm BK325 hg) (zn BK326 hg) (zm BK326 hg) (zn BK349 hg) (zm BK349 hg) (zn BK358 hg) (zm BK358 hg)
      clear HO331 HO334 HO342 HO345 HO352 HO355 BK325 BK326 BK349 BK358 HB
      obtain ⟨HO331, HO334, HO342, HO345, HO352, HO355, BK325, BK326, BK349, BK358, HB, BK371, GW371, GE371, NB325_371, NB371_325, NB326_371, NB371_326, NB349_371, NB371_349, NB358_371, NB371_358⟩ := n_
      clear hb hbox hg
      refine hK.out _ _ ⟨(blk_cell BK358.out 0).trans rfl, (blk_cell BK358.out 1).trans rfl, (blk_cell BK358.out 2).trans rfl, (blk_cell BK358.out 3).trans rfl, (blk_cell BK326.out 0).trans rfl, (blk_cell BK326.out 1).trans rfl, (blk_cell BK326.out 2).trans rfl⟩ (fun hHeld => ?_)
      clear hK K
      refine norm_ (a' := ?_) ?_ ?_
      rotate_left
      ·show Act.put _ (some 13) _ = _
       simp only [Act.put, List.setIfInBounds_toArray, List.set_cons_zero, List.set_cons_succ, i64_w, i32_w]
       rfl
      refine one_ (i := 4) (N := some 50) #[true, true, true, true, true, false, false, false, false, true, false, false] rfl rfl (one_of HT_.out (by kernel_rfl)) (by decide) (fun K hK => ?_)
      refine goes_ Try.func20 (by kernel_rfl) rfl #[.agg #[.int .i64 a3_0, .int .i64 a3_1, .string a3_2]] (by rfl) rfl rfl zA ?_
      with_reducible refine (laws_toVal.calls a3_0 a3_1 a3_2 t359 t360 t361 _ A28.out).mono ?_
      rintro e w65 ⟨rfl, hb⟩
      refine ⟨_, rfl, ?_⟩
      have n_ := z12 (Kd.R_below (zRr HO331) hb) (Kd.R_below (zRr HO334) hb) (Kd.R_below (zRr HO342) hb) (Kd.R_below (zRr HO345) hb) (Kd.R_below (zRr HO352) hb) (Kd.R_below (zRr HO355) hb) (zb BK325 hb) (zb BK326 hb) (zb BK349 hb) (zb BK358 hb) (zb BK371 hb) (zs hb)
      clear HO331 HO334 HO342 HO345 HO352 HO355 BK325 BK326 BK349 BK358 BK371 HB
      obtain ⟨HO331, HO334, HO342, HO345, HO352, HO355, BK325, BK326, BK349, BK358, BK371, HB⟩ := n_
      (try clear hb)
      (try clear hb2)
      (try clear hk)
      (try clear hi)
      refine hK.out _ _ ⟨(blk_cell BK358.out 0).trans rfl, (blk_cell BK358.out 1).trans rfl, (blk_cell BK358.out 2).trans rfl, (blk_cell BK358.out 3).trans rfl, (blk_cell BK326.out 0).trans rfl, (blk_cell BK326.out 1).trans rfl, (blk_cell BK326.out 2).trans rfl⟩ (fun hHeld => ?_)
      clear hK K
      refine norm_ (a' := ?_) ?_ ?_
      rotate_left
      ·show Act.put _ (some 50) _ = _
       simp only [Act.put, List.setIfInBounds_toArray, List.set_cons_zero, List.set_cons_succ, i64_w, i32_w]
       rfl
      refine one_ (i := 5) (N := some 51) #[true, true, true, true, true, true, false, false, false, true, false, false] rfl rfl (one_of HT_.out (by kernel_rfl)) (by decide) (fun K hK => ?_)
      refine goes_ Try.func21 (by kernel_rfl) rfl #[.agg #[.slice Ao56 t350.length co56, .slice Ao61 t353.length co61, .int .i64 t356, .int .i64 t357], .int .i64 a1, .string a2, .agg #[.int .i64 t359, .int .i64 t360, .string t361]] (by rfl) rfl rfl zA ?_
      with_reducible refine (impl_CellPut.calls k _ _ t350 _ _ t353 t356 t357 a1 a2 t359 t360 t361 t362 t365 t368 t369 t370 _ ?side1 ?side2 ?side3 ?side4 A29.out).mono ?_
      (case side1 => exact zCc ((Kd.R_reads' HO352.out).2.2))
      (case side2 => exact (Kd.R_reads' HO352.out).2.1)
      (case side3 => exact zCc ((Kd.R_reads' HO355.out).2.2))
      (case side4 => exact (Kd.R_reads' HO355.out).2.1)
      rintro e w66 ⟨v363, v366, rfl, ho0, ho1, hb⟩
      refine ⟨_, rfl, ?_⟩
      have n_ := z14 (Kd.R_elder' (zRr HO331) (Kd.R_base ho0) hb) (Kd.R_elder' (zRr HO334) (Kd.R_base ho1) hb) (Kd.R_elder' (zRr HO342) (Kd.R_base ho0) hb) (Kd.R_elder' (zRr HO345) (Kd.R_base ho1) hb) (Kd.R_elder' (zRr HO352) (Kd.R_base ho0) hb) (Kd.R_elder' (zRr HO355) (Kd.R_base ho1) hb) (Kd.R_lower (Kd.R_new' (Kd.R_new' (Kd.R_new' ho0 (Kd.R_lt (zRr HO331))) (Kd.R_lt (zRr HO342))) (Kd.R_lt (zRr HO352))) (below_size zB)) (Kd.R_lower (Kd.R_new' (Kd.R_new' (Kd.R_new' ho1 (Kd.R_lt (zRr HO334))) (Kd.R_lt (zRr HO345))) (Kd.R_lt (zRr HO355))) (below_size zB)) (zb BK325 hb) (zb BK326 hb) (zb BK349 hb) (zb BK358 hb) (zb BK371 hb) (zs hb)
      clear HO331 HO334 HO342 HO345 HO352 HO355 BK325 BK326 BK349 BK358 BK371 HB
      obtain ⟨HO331, HO334, HO342, HO345, HO352, HO355, HO364, HO367, BK325, BK326, BK349, BK358, BK371, HB⟩ := n_
      (try clear hb)
      (try clear hb2)
      (try clear hk)
      (try clear hi)
      (try clear ho0)
      (try clear ho1)
      refine hK.out _ _ ⟨(blk_cell BK358.out 0).trans rfl, (blk_cell BK358.out 1).trans rfl, (blk_cell BK358.out 2).trans rfl, (blk_cell BK358.out 3).trans rfl, (blk_cell BK326.out 0).trans rfl, (blk_cell BK326.out 1).trans rfl, (blk_cell BK326.out 2).trans rfl⟩ (fun hHeld => ?_)
      clear hK K
      refine norm_ (a' := ?_) ?_ ?_
      rotate_left
      ·show Act.put _ (some 51) _ = _
       simp only [Act.put, List.setIfInBounds_toArray, List.set_cons_zero, List.set_cons_succ, i64_w, i32_w]
       rfl
      refine pure_ (i := 6) (N := some 45) (v := ?_) (a' := ?_) #[true, true, true, true, true, true, true, false, false, true, false, false] rfl rfl (any_of HT_.out (by kernel_rfl)) (fun _ _ _ h => h) (Or.inl ⟨by rfl, ?_⟩) ?_ ?_
      rotate_left
      ·intro w'; go_simp; with_reducible rfl
      rotate_left
      ·exact zY
      refine pure_ (i := 7) (N := some 52) (v := ?_) (a' := ?_) #[true, true, true, true, true, true, true, true, false, true, false, false] rfl rfl (any_of HT_.out (by kernel_rfl)) (fun _ _ _ h => h) (Or.inl ⟨by rfl, ?_⟩) ?_ ?_
      rotate_left
      ·intro w'; go_simp; with_reducible rfl
      rotate_left
      ·exact zY
      refine pure_ (i := 8) (N := some 53) (v := ?_) (a' := ?_) #[true, true, true, true, true, true, true, true, true, true, false, false] rfl rfl (any_of HT_.out (by kernel_rfl)) (fun _ _ _ h => h) (Or.inl ⟨by rfl, ?_⟩) ?_ ?_
      rotate_left
      ·intro w'; go_simp; with_reducible rfl
      rotate_left
      ·exact zY
      exact norm_ (by simp only [putAll, Act.put, List.setIfInBounds_toArray, List.set_cons_zero, List.set_cons_succ]) (hCont (v363, v366, gb371) _ ⟨hHeld, (zRm HO331 (fun _ hk => ⟨hk.1.1, ⟨hk.1.2, hk.2⟩⟩)), (zRm HO334 (fun _ hk => ⟨hk.1.1, ⟨hk.1.2, hk.2⟩⟩)), (zRm HO342 (fun _ hk => ⟨hk.1.1, ⟨hk.1.2, hk.2⟩⟩)), (zRm HO345 (fun _ hk => ⟨hk.1.1, ⟨hk.1.2, hk.2⟩⟩)), (zRm HO352 (fun _ hk => ⟨hk.1.1, ⟨hk.1.2, hk.2⟩⟩)), (zRm HO355 (fun _ hk => ⟨hk.1.1, ⟨hk.1.2, hk.2⟩⟩)), (zRm HO364 (fun _ hk => ⟨hk.1.1.2, ⟨hk.1.2, hk.2⟩⟩)), (zRm HO367 (fun _ hk => ⟨hk.1.1.2, ⟨hk.1.2, hk.2⟩⟩)), (zP BK325), (zP BK326), (zP BK349), (zP BK358), (zP BK371), GW371.out, GE371.out, NB325_371.out, NB371_325.out, NB326_371.out, NB371_326.out, NB349_371.out, NB371_349.out, NB358_371.out, NB371_358.out, zB⟩)
    rintro ⟨v363, v366, gb371⟩ w67 ⟨hS_, h0_, h1_, h2_, h3_, h4_, h5_, h6_, h7_, h8_, h9_, h10_, h11_, h12_, h13_, h14_, h15_, h16_, h17_, h18_, h19_, h20_, h21_, h22_, h23_⟩
    have n0_ : Aside0 (Kd.R k46 46 w67 w.heap.size (fun k_ => some k_ ≠ (.slice Ao46 t340.length co46 : Value).ownBlock ∧ some k_ ≠ (.slice Ao56 t350.length co56 : Value).ownBlock ∧ some k_ ≠ (v363 : Value).ownBlock) v330 t329) := ⟨h0_⟩
    have n1_ : Aside0 (Kd.R k58 58 w67 w.heap.size (fun k_ => some k_ ≠ (.slice Ao48 t343.length co48 : Value).ownBlock ∧ some k_ ≠ (.slice Ao61 t353.length co61 : Value).ownBlock ∧ some k_ ≠ (v366 : Value).ownBlock) v333 t332) := ⟨h1_⟩
    have n2_ : Aside0 (Kd.R k46 46 w67 w.heap.size (fun k_ => some k_ ≠ (v330 : Value).ownBlock ∧ some k_ ≠ (.slice Ao56 t350.length co56 : Value).ownBlock ∧ some k_ ≠ (v363 : Value).ownBlock) (.slice Ao46 t340.length co46) t340) := ⟨h2_⟩
    have n3_ : Aside0 (Kd.R k58 58 w67 w.heap.size (fun k_ => some k_ ≠ (v333 : Value).ownBlock ∧ some k_ ≠ (.slice Ao61 t353.length co61 : Value).ownBlock ∧ some k_ ≠ (v366 : Value).ownBlock) (.slice Ao48 t343.length co48) t343) := ⟨h3_⟩
    have n4_ : Aside0 (Kd.R k46 46 w67 w.heap.size (fun k_ => some k_ ≠ (v330 : Value).ownBlock ∧ some k_ ≠ (.slice Ao46 t340.length co46 : Value).ownBlock ∧ some k_ ≠ (v363 : Value).ownBlock) (.slice Ao56 t350.length co56) t350) := ⟨h4_⟩
    have n5_ : Aside0 (Kd.R k58 58 w67 w.heap.size (fun k_ => some k_ ≠ (v333 : Value).ownBlock ∧ some k_ ≠ (.slice Ao48 t343.length co48 : Value).ownBlock ∧ some k_ ≠ (v366 : Value).ownBlock) (.slice Ao61 t353.length co61) t353) := ⟨h5_⟩
    have n6_ : Aside0 (Kd.R k46 46 w67 w.heap.size (fun k_ => some k_ ≠ (v330 : Value).ownBlock ∧ some k_ ≠ (.slice Ao46 t340.length co46 : Value).ownBlock ∧ some k_ ≠ (.slice Ao56 t350.length co56 : Value).ownBlock) v363 t362) := ⟨h6_⟩
    have n7_ : Aside0 (Kd.R k58 58 w67 w.heap.size (fun k_ => some k_ ≠ (v333 : Value).ownBlock ∧ some k_ ≠ (.slice Ao48 t343.length co48 : Value).ownBlock ∧ some k_ ≠ (.slice Ao61 t353.length co61 : Value).ownBlock) v366 t365) := ⟨h7_⟩
    have n8_ : Aside0 (w67.heap[gb325]? = some (.cells #[.slice A0_0 l0_0.length c0_0, .slice A0_1 l0_1.length c0_1, .int .i64 a0_2, .int .i64 a0_3] 30 (0, 0))) := ⟨h8_⟩
    have n9_ : Aside0 (w67.heap[gb326]? = some (.cells #[.int .i64 a3_0, .int .i64 a3_1, .string a3_2] 42 (0, 0))) := ⟨h9_⟩
    have n10_ : Aside0 (w67.heap[gb349]? = some (.cells #[.slice Ao46 t340.length co46, .slice Ao48 t343.length co48, .int .i64 t346, .int .i64 t347] 35 (0, 0))) := ⟨h10_⟩
    have n11_ : Aside0 (w67.heap[gb358]? = some (.cells #[.slice Ao56 t350.length co56, .slice Ao61 t353.length co61, .int .i64 t356, .int .i64 t357] 35 (0, 0))) := ⟨h11_⟩
    have n12_ : Aside0 (w67.heap[gb371]? = some (.cells #[.slice none 0 0, .slice none 0 0, .int .i64 0, .int .i64 0] 35 (0, 0))) := ⟨h12_⟩
    have n13_ : Aside0 (w.heap.size ≤ gb371) := ⟨h13_⟩
    have n14_ : Aside0 (w.heap.size ≤ gb371) := ⟨h14_⟩
    have n15_ : Aside0 (gb325 ≠ gb371) := ⟨h15_⟩
    have n16_ : Aside0 (gb371 ≠ gb325) := ⟨h16_⟩
    have n17_ : Aside0 (gb326 ≠ gb371) := ⟨h17_⟩
    have n18_ : Aside0 (gb371 ≠ gb326) := ⟨h18_⟩
    have n19_ : Aside0 (gb349 ≠ gb371) := ⟨h19_⟩
    have n20_ : Aside0 (gb371 ≠ gb349) := ⟨h20_⟩
    have n21_ : Aside0 (gb358 ≠ gb371) := ⟨h21_⟩
    have n22_ : Aside0 (gb371 ≠ gb358) := ⟨h22_⟩
    have n23_ : Aside0 (Below w.heap.size w w67) := ⟨h23_⟩
    clear HO331
    clear HO334
    clear HO342
    clear HO345
    clear HO352
    clear HO355
    clear BK325
    clear BK326
    clear BK349
    clear BK358
    clear HB
    clear h0_ h1_ h2_ h3_ h4_ h5_ h6_ h7_ h8_ h9_ h10_ h11_ h12_ h13_ h14_ h15_ h16_ h17_ h18_ h19_ h20_ h21_ h22_ h23_
    have HO331 := n0_
    have HO334 := n1_
    have HO342 := n2_
    have HO345 := n3_
    have HO352 := n4_
    have HO355 := n5_
    have HO364 := n6_
    have HO367 := n7_
    have BK325 := n8_
    have BK326 := n9_
    have BK349 := n10_
    have BK358 := n11_
    have BK371 := n12_
    have GW371 := n13_
    have GE371 := n14_
    have NB325_371 := n15_
    have NB371_325 := n16_
    have NB326_371 := n17_
    have NB371_326 := n18_
    have NB349_371 := n19_
    have NB371_349 := n20_
    have NB358_371 := n21_
    have NB371_358 := n22_
    have HB := n23_
    clear n0_ n1_ n2_ n3_ n4_ n5_ n6_ n7_ n8_ n9_ n10_ n11_ n12_ n13_ n14_ n15_ n16_ n17_ n18_ n19_ n20_ n21_ n22_ n23_
    have hHeld : w67.cell? ⟨gb358, 0, none⟩ = some (.slice Ao56 t350.length co56) ∧ w67.cell? ⟨gb358, 1, none⟩ = some (.slice Ao61 t353.length co61) ∧ w67.cell? ⟨gb358, 2, none⟩ = some (.int .i64 t356) ∧ w67.cell? ⟨gb358, 3, none⟩ = some (.int .i64 t357) ∧ w67.cell? ⟨gb326, 0, none⟩ = some (.int .i64 a3_0) ∧ w67.cell? ⟨gb326, 1, none⟩ = some (.int .i64 a3_1) ∧ w67.cell? ⟨gb326, 2, none⟩ = some (.string a3_2) := hS_
    obtain ⟨Ao68, co68, eo68⟩ := Kd.R_slice HO364.out
    (first | subst eo68 | (injection eo68 with f1_ f2_ f3_; have f4_ := f1_.symm; have f5_ := f3_.symm; clear f1_ f2_ f3_; subst f4_; subst f5_))
    obtain ⟨Ao70, co70, eo70⟩ := Kd.R_slice HO367.out
    (first | subst eo70 | (injection eo70 with f1_ f2_ f3_; have f4_ := f1_.symm; have f5_ := f3_.symm; clear f1_ f2_ f3_; subst f4_; subst f5_))
    refine norm_ (a' := ?_) ?_ ?_
    rotate_left
    ·simp only [putAll, Act.put, List.setIfInBounds_toArray, List.set_cons_zero, List.set_cons_succ]
     rfl
    refine one_ (i := 10) (N := none) #[true, true, true, true, true, true, true, true, true, true, true, false] rfl rfl (one_of HT_.out (by kernel_rfl)) (by decide) (fun K hK => ?_)
    have hs69 : w67.cell? ⟨gb371, 0, none⟩ = some (.slice none 0 0) := (blk_cell BK371.out 0).trans rfl
    have hfs69 := blk_frozen BK371.out 0
    have hns69_0 := NB325_371.out
    have hns69_1 := NB326_371.out
    have hns69_2 := NB349_371.out
    have hns69_3 := NB358_371.out
    have hms69_0 := NB371_325.out
    have hms69_1 := NB371_326.out
    have hms69_2 := NB371_349.out
    have hms69_3 := NB371_358.out
    have hs71 : w67.cell? ⟨gb371, 1, none⟩ = some (.slice none 0 0) := (blk_cell BK371.out 1).trans rfl
    have hfs71 := blk_frozen BK371.out 1
    have hns71_0 := NB325_371.out
    have hns71_1 := NB326_371.out
    have hns71_2 := NB349_371.out
    have hns71_3 := NB358_371.out
    have hms71_0 := NB371_325.out
    have hms71_1 := NB371_326.out
    have hms71_2 := NB371_349.out
    have hms71_3 := NB371_358.out
    have hs72 : w67.cell? ⟨gb371, 2, none⟩ = some (.int .i64 0) := (blk_cell BK371.out 2).trans rfl
    have hfs72 := blk_frozen BK371.out 2
    have hns72_0 := NB325_371.out
    have hns72_1 := NB326_371.out
    have hns72_2 := NB349_371.out
    have hns72_3 := NB358_371.out
    have hms72_0 := NB371_325.out
    have hms72_1 := NB371_326.out
    have hms72_2 := NB371_349.out
    have hms72_3 := NB371_358.out
    have hs73 : w67.cell? ⟨gb371, 3, none⟩ = some (.int .i64 0) := (blk_cell BK371.out 3).trans rfl
    have hfs73 := blk_frozen BK371.out 3
    have hns73_0 := NB325_371.out
    have hns73_1 := NB326_371.out
    have hns73_2 := NB349_371.out
    have hns73_3 := NB358_371.out
    have hms73_0 := NB371_325.out
    have hms73_1 := NB371_326.out
    have hms73_2 := NB371_349.out
    have hms73_3 := NB371_358.out
    refine skip_ (w1 := ?_) (by rfl) rfl ?_ ?_
    rotate_left
    ·go_simp
     rfl
    refine hK.out _ _ ⟨((cell_far (p := ⟨gb371, _, none⟩) NB358_371.out _).trans (((cell_far (p := ⟨gb371, _, none⟩) NB358_371.out _).trans (((cell_far (p := ⟨gb371, _, none⟩) NB358_371.out _).trans (((cell_far (p := ⟨gb371, _, none⟩) NB358_371.out _).trans (hHeld.1)))))))), ((cell_far (p := ⟨gb371, _, none⟩) NB358_371.out _).trans (((cell_far (p := ⟨gb371, _, none⟩) NB358_371.out _).trans (((cell_far (p := ⟨gb371, _, none⟩) NB358_371.out _).trans (((cell_far (p := ⟨gb371, _, none⟩) NB358_371.out _).trans (hHeld.2.1)))))))), ((cell_far (p := ⟨gb371, _, none⟩) NB358_371.out _).trans (((cell_far (p := ⟨gb371, _, none⟩) NB358_371.out _).trans (((cell_far (p := ⟨gb371, _, none⟩) NB358_371.out _).trans (((cell_far (p := ⟨gb371, _, none⟩) NB358_371.out _).trans (hHeld.2.2.1)))))))), ((cell_far (p := ⟨gb371, _, none⟩) NB358_371.out _).trans (((cell_far (p := ⟨gb371, _, none⟩) NB358_371.out _).trans (((cell_far (p := ⟨gb371, _, none⟩) NB358_371.out _).trans (((cell_far (p := ⟨gb371, _, none⟩) NB358_371.out _).trans (hHeld.2.2.2.1)))))))), ((cell_far (p := ⟨gb371, _, none⟩) NB326_371.out _).trans (((cell_far (p := ⟨gb371, _, none⟩) NB326_371.out _).trans (((cell_far (p := ⟨gb371, _, none⟩) NB326_371.out _).trans (((cell_far (p := ⟨gb371, _, none⟩) NB326_371.out _).trans (hHeld.2.2.2.2.1)))))))), ((cell_far (p := ⟨gb371, _, none⟩) NB326_371.out _).trans (((cell_far (p := ⟨gb371, _, none⟩) NB326_371.out _).trans (((cell_far (p := ⟨gb371, _, none⟩) NB326_371.out _).trans (((cell_far (p := ⟨gb371, _, none⟩) NB326_371.out _).trans (hHeld.2.2.2.2.2.1)))))))), ((cell_far (p := ⟨gb371, _, none⟩) NB326_371.out _).trans (((cell_far (p := ⟨gb371, _, none⟩) NB326_371.out _).trans (((cell_far (p := ⟨gb371, _, none⟩) NB326_371.out _).trans (((cell_far (p := ⟨gb371, _, none⟩) NB326_371.out _).trans (hHeld.2.2.2.2.2.2))))))))⟩ (fun hHeld => ?_)
    clear hK K
    refine pure_ (i := 11) (N := some 14) (v := ?_) (a' := ?_) #[true, true, true, true, true, true, true, true, true, true, true, true] rfl rfl (any_of HT_.out (by kernel_rfl)) (fun _ _ _ h => h) (Or.inl ⟨by rfl, ?_⟩) ?_ ?_
    rotate_left
    ·intro w'; go_simp; with_reducible rfl
    rotate_left
    ·exact zY
    refine done_ (done_of HT_.out (by kernel_rfl)) ?_
    go_upto_region 13 with (fail)
    go_cut [62] (fun v62 wc => ∃ (kq : Nat) (x62_29 : Bool), v62 = .bool x62_29 ∧ Aside0 (laws_FnExactCellPut.j0 kq a1 a2 t348 t370 x62_29 l0_0 l0_1 a0_2 a0_3 a3_0 a3_1 a3_2 t340 t343 t346 t347 t350 t353 t356 t357 t362 t365 t368 t369 = some r) ∧ Aside0 (kq ≤ k) ∧ Aside0 (Kd.R k46 46 wc w.heap.size (fun k_ => some k_ ≠ ((.slice Ao56 t350.length co56) : Value).ownBlock ∧ some k_ ≠ ((.slice Ao68 t362.length co68) : Value).ownBlock) (.slice Ao46 t340.length co46) t340) ∧ Aside0 (Kd.R k58 58 wc w.heap.size (fun k_ => some k_ ≠ ((.slice Ao61 t353.length co61) : Value).ownBlock ∧ some k_ ≠ ((.slice Ao70 t365.length co70) : Value).ownBlock) (.slice Ao48 t343.length co48) t343) ∧ Aside0 (Kd.R k46 46 wc w.heap.size (fun k_ => some k_ ≠ ((.slice Ao46 t340.length co46) : Value).ownBlock ∧ some k_ ≠ ((.slice Ao68 t362.length co68) : Value).ownBlock) (.slice Ao56 t350.length co56) t350) ∧ Aside0 (Kd.R k58 58 wc w.heap.size (fun k_ => some k_ ≠ ((.slice Ao48 t343.length co48) : Value).ownBlock ∧ some k_ ≠ ((.slice Ao70 t365.length co70) : Value).ownBlock) (.slice Ao61 t353.length co61) t353) ∧ Aside0 (Kd.R k46 46 wc w.heap.size (fun k_ => some k_ ≠ ((.slice Ao46 t340.length co46) : Value).ownBlock ∧ some k_ ≠ ((.slice Ao56 t350.length co56) : Value).ownBlock) (.slice Ao68 t362.length co68) t362) ∧ Aside0 (Kd.R k58 58 wc w.heap.size (fun k_ => some k_ ≠ ((.slice Ao48 t343.length co48) : Value).ownBlock ∧ some k_ ≠ ((.slice Ao61 t353.length co61) : Value).ownBlock) (.slice Ao70 t365.length co70) t365) ∧ Aside0 (wc.heap[gb325]? = some (.cells #[(.slice A0_0 l0_0.length c0_0), (.slice A0_1 l0_1.length c0_1), .int .i64 a0_2, .int .i64 a0_3] 30 (0, 0))) ∧ Aside0 (wc.heap[gb326]? = some (.cells #[.int .i64 a3_0, .int .i64 a3_1, .string a3_2] 42 (0, 0))) ∧ Aside0 (wc.heap[gb349]? = some (.cells #[(.slice Ao46 t340.length co46), (.slice Ao48 t343.length co48), .int .i64 t346, .int .i64 t347] 35 (0, 0))) ∧ Aside0 (wc.heap[gb358]? = some (.cells #[(.slice Ao56 t350.length co56), (.slice Ao61 t353.length co61), .int .i64 t356, .int .i64 t357] 35 (0, 0))) ∧ Aside0 (wc.heap[gb371]? = some (.cells #[(.slice Ao68 t362.length co68), (.slice Ao70 t365.length co70), .int .i64 t368, .int .i64 t369] 35 (0, 0))) ∧ Aside0 (Below w.heap.size w wc))
    case first =>
     have H := HC30.out
     clear HC30
     replace H := zO H; obtain ⟨t372, A74, H⟩ := H
     by_cases c75 : t372 = true
     ·subst c75; replace H := zT H
      have H' := Aside0.mk H
      clear H
      have := NB371_325.out
      have := NB325_371.out
      have := NB371_326.out
      have := NB326_371.out
      have := NB371_349.out
      have := NB349_371.out
      have := NB371_358.out
      have := NB358_371.out
      obtain ⟨_, _, _, _, _, _, _, _⟩ := zC4 BK371
      have := NB349_325.out
      have := NB325_349.out
      have := NB349_326.out
      have := NB326_349.out
      have := NB349_358.out
      have := NB358_349.out
      obtain ⟨_, _, _, _, _, _, _, _⟩ := zC4 BK349
      go_wp2_with (first | ((with_reducible refine gate_callee (f := 15) rfl ?_); refine zG (some 56) Try.func15 #[.agg #[.slice Ao68 t362.length co68, .slice Ao70 t365.length co70, .int .i64 t368, .int .i64 t369], .agg #[.slice Ao46 t340.length co46, .slice Ao48 t343.length co48, .int .i64 t346, .int .i64 t347]] ?_; (with_reducible refine (laws_eqState.calls k _ _ t362 _ _ t365 t368 t369 _ _ t340 _ _ t343 t346 t347 true _ ?side1 ?side2 ?side3 ?side4 ?side5 ?side6 ?side7 ?side8 A74.out).mono ?_); (case side1 => refine (Kd.R_reads' (e := 46) (base := w.heap.size) (ok := fun k_ => (some k_ ≠ (v330 : Value).ownBlock ∧ (some k_ ≠ (.slice Ao46 t340.length co46 : Value).ownBlock ∧ some k_ ≠ (.slice Ao56 t350.length co56 : Value).ownBlock))) (n := t362.length) (c := co68) ?_).2.2; exact (by (with_reducible repeat (first | apply Kd.R_alloc | apply Kd.R_drewN | apply Kd.R_drew)); exact (Kd.R_mono (Kd.R_far (p := ⟨gb371, 3, none⟩) (Kd.R_far (p := ⟨gb371, 2, none⟩) (Kd.R_far (p := ⟨gb371, 1, none⟩) (Kd.R_far (p := ⟨gb371, 0, none⟩) (Kd.R_types HO364.out BK371.out (by decide)) (fun _ hk => hk.2) (.slice Ao68 t362.length co68)) (fun _ hk => hk.2) (.slice Ao70 t365.length co70)) (fun _ hk => hk.2) (.int .i64 t368)) (fun _ hk => hk.2) (.int .i64 t369)) (fun _ h_ => h_.1)))); (case side2 => exact (Kd.R_reads' HO364.out).2.1); (case side3 => refine (Kd.R_reads' (e := 58) (base := w.heap.size) (ok := fun k_ => (some k_ ≠ (v333 : Value).ownBlock ∧ (some k_ ≠ (.slice Ao48 t343.length co48 : Value).ownBlock ∧ some k_ ≠ (.slice Ao61 t353.length co61 : Value).ownBlock))) (n := t365.length) (c := co70) ?_).2.2; exact (by (with_reducible repeat (first | apply Kd.R_alloc | apply Kd.R_drewN | apply Kd.R_drew)); exact (Kd.R_mono (Kd.R_far (p := ⟨gb371, 3, none⟩) (Kd.R_far (p := ⟨gb371, 2, none⟩) (Kd.R_far (p := ⟨gb371, 1, none⟩) (Kd.R_far (p := ⟨gb371, 0, none⟩) (Kd.R_types HO367.out BK371.out (by decide)) (fun _ hk => hk.2) (.slice Ao68 t362.length co68)) (fun _ hk => hk.2) (.slice Ao70 t365.length co70)) (fun _ hk => hk.2) (.int .i64 t368)) (fun _ hk => hk.2) (.int .i64 t369)) (fun _ h_ => h_.1)))); (case side4 => exact (Kd.R_reads' HO367.out).2.1); (case side5 => refine (Kd.R_reads' (e := 46) (base := w.heap.size) (ok := fun k_ => (some k_ ≠ (v330 : Value).ownBlock ∧ (some k_ ≠ (.slice Ao56 t350.length co56 : Value).ownBlock ∧ some k_ ≠ (.slice Ao68 t362.length co68 : Value).ownBlock))) (n := t340.length) (c := co46) ?_).2.2; exact (by (with_reducible repeat (first | apply Kd.R_alloc | apply Kd.R_drewN | apply Kd.R_drew)); exact (Kd.R_mono (Kd.R_far (p := ⟨gb371, 3, none⟩) (Kd.R_far (p := ⟨gb371, 2, none⟩) (Kd.R_far (p := ⟨gb371, 1, none⟩) (Kd.R_far (p := ⟨gb371, 0, none⟩) (Kd.R_types HO342.out BK371.out (by decide)) (fun _ hk => hk.2) (.slice Ao68 t362.length co68)) (fun _ hk => hk.2) (.slice Ao70 t365.length co70)) (fun _ hk => hk.2) (.int .i64 t368)) (fun _ hk => hk.2) (.int .i64 t369)) (fun _ h_ => h_.1)))); (case side6 => exact (Kd.R_reads' HO342.out).2.1); (case side7 => refine (Kd.R_reads' (e := 58) (base := w.heap.size) (ok := fun k_ => (some k_ ≠ (v333 : Value).ownBlock ∧ (some k_ ≠ (.slice Ao61 t353.length co61 : Value).ownBlock ∧ some k_ ≠ (.slice Ao70 t365.length co70 : Value).ownBlock))) (n := t343.length) (c := co48) ?_).2.2; exact (by (with_reducible repeat (first | apply Kd.R_alloc | apply Kd.R_drewN | apply Kd.R_drew)); exact (Kd.R_mono (Kd.R_far (p := ⟨gb371, 3, none⟩) (Kd.R_far (p := ⟨gb371, 2, none⟩) (Kd.R_far (p := ⟨gb371, 1, none⟩) (Kd.R_far (p := ⟨gb371, 0, none⟩) (Kd.R_types HO345.out BK371.out (by decide)) (fun _ hk => hk.2) (.slice Ao68 t362.length co68)) (fun _ hk => hk.2) (.slice Ao70 t365.length co70)) (fun _ hk => hk.2) (.int .i64 t368)) (fun _ hk => hk.2) (.int .i64 t369)) (fun _ h_ => h_.1)))); (case side8 => exact (Kd.R_reads' HO345.out).2.1); rintro e w85 ⟨rfl, hb⟩; refine ⟨_, rfl, ?_⟩; have n_ := z14 (Kd.R_below (by (with_reducible repeat (first | apply Kd.R_alloc | apply Kd.R_drewN | apply Kd.R_drew)); exact (Kd.R_mono (Kd.R_far (p := ⟨gb371, 3, none⟩) (Kd.R_far (p := ⟨gb371, 2, none⟩) (Kd.R_far (p := ⟨gb371, 1, none⟩) (Kd.R_far (p := ⟨gb371, 0, none⟩) (Kd.R_types HO331.out BK371.out (by decide)) (fun _ hk => hk.2) (.slice Ao68 t362.length co68)) (fun _ hk => hk.2) (.slice Ao70 t365.length co70)) (fun _ hk => hk.2) (.int .i64 t368)) (fun _ hk => hk.2) (.int .i64 t369)) (fun _ h_ => h_.1))) hb) (Kd.R_below (by (with_reducible repeat (first | apply Kd.R_alloc | apply Kd.R_drewN | apply Kd.R_drew)); exact (Kd.R_mono (Kd.R_far (p := ⟨gb371, 3, none⟩) (Kd.R_far (p := ⟨gb371, 2, none⟩) (Kd.R_far (p := ⟨gb371, 1, none⟩) (Kd.R_far (p := ⟨gb371, 0, none⟩) (Kd.R_types HO334.out BK371.out (by decide)) (fun _ hk => hk.2) (.slice Ao68 t362.length co68)) (fun _ hk => hk.2) (.slice Ao70 t365.length co70)) (fun _ hk => hk.2) (.int .i64 t368)) (fun _ hk => hk.2) (.int .i64 t369)) (fun _ h_ => h_.1))) hb) (Kd.R_below (by (with_reducible repeat (first | apply Kd.R_alloc | apply Kd.R_drewN | apply Kd.R_drew)); exact (Kd.R_mono (Kd.R_far (p := ⟨gb371, 3, none⟩) (Kd.R_far (p := ⟨gb371, 2, none⟩) (Kd.R_far (p := ⟨gb371, 1, none⟩) (Kd.R_far (p := ⟨gb371, 0, none⟩) (Kd.R_types HO342.out BK371.out (by decide)) (fun _ hk => hk.2) (.slice Ao68 t362.length co68)) (fun _ hk => hk.2) (.slice Ao70 t365.length co70)) (fun _ hk => hk.2) (.int .i64 t368)) (fun _ hk => hk.2) (.int .i64 t369)) (fun _ h_ => h_.1))) hb) (Kd.R_below (by (with_reducible repeat (first | apply Kd.R_alloc | apply Kd.R_drewN | apply Kd.R_drew)); exact (Kd.R_mono (Kd.R_far (p := ⟨gb371, 3, none⟩) (Kd.R_far (p := ⟨gb371, 2, none⟩) (Kd.R_far (p := ⟨gb371, 1, none⟩) (Kd.R_far (p := ⟨gb371, 0, none⟩) (Kd.R_types HO345.out BK371.out (by decide)) (fun _ hk => hk.2) (.slice Ao68 t362.length co68)) (fun _ hk => hk.2) (.slice Ao70 t365.length co70)) (fun _ hk => hk.2) (.int .i64 t368)) (fun _ hk => hk.2) (.int .i64 t369)) (fun _ h_ => h_.1))) hb) (Kd.R_below (by (with_reducible repeat (first | apply Kd.R_alloc | apply Kd.R_drewN | apply Kd.R_drew)); exact (Kd.R_mono (Kd.R_far (p := ⟨gb371, 3, none⟩) (Kd.R_far (p := ⟨gb371, 2, none⟩) (Kd.R_far (p := ⟨gb371, 1, none⟩) (Kd.R_far (p := ⟨gb371, 0, none⟩) (Kd.R_types HO352.out BK371.out (by decide)) (fun _ hk => hk.2) (.slice Ao68 t362.length co68)) (fun _ hk => hk.2) (.slice Ao70 t365.length co70)) (fun _ hk => hk.2) (.int .i64 t368)) (fun _ hk => hk.2) (.int .i64 t369)) (fun _ h_ => h_.1))) hb) (Kd.R_below (by (with_reducible repeat (first | apply Kd.R_alloc | apply Kd.R_drewN | apply Kd.R_drew)); exact (Kd.R_mono (Kd.R_far (p := ⟨gb371, 3, none⟩) (Kd.R_far (p := ⟨gb371, 2, none⟩) (Kd.R_far (p := ⟨gb371, 1, none⟩) (Kd.R_far (p := ⟨gb371, 0, none⟩) (Kd.R_types HO355.out BK371.out (by decide)) (fun _ hk => hk.2) (.slice Ao68 t362.length co68)) (fun _ hk => hk.2) (.slice Ao70 t365.length co70)) (fun _ hk => hk.2) (.int .i64 t368)) (fun _ hk => hk.2) (.int .i64 t369)) (fun _ h_ => h_.1))) hb) (Kd.R_below (by (with_reducible repeat (first | apply Kd.R_alloc | apply Kd.R_drewN | apply Kd.R_drew)); exact (Kd.R_mono (Kd.R_far (p := ⟨gb371, 3, none⟩) (Kd.R_far (p := ⟨gb371, 2, none⟩) (Kd.R_far (p := ⟨gb371, 1, none⟩) (Kd.R_far (p := ⟨gb371, 0, none⟩) (Kd.R_types HO364.out BK371.out (by decide)) (fun _ hk => hk.2) (.slice Ao68 t362.length co68)) (fun _ hk => hk.2) (.slice Ao70 t365.length co70)) (fun _ hk => hk.2) (.int .i64 t368)) (fun _ hk => hk.2) (.int .i64 t369)) (fun _ h_ => h_.1))) hb) (Kd.R_below (by (with_reducible repeat (first | apply Kd.R_alloc | apply Kd.R_drewN | apply Kd.R_drew)); exact (Kd.R_mono (Kd.R_far (p := ⟨gb371, 3, none⟩) (Kd.R_far (p := ⟨gb371, 2, none⟩) (Kd.R_far (p := ⟨gb371, 1, none⟩) (Kd.R_far (p := ⟨gb371, 0, none⟩) (Kd.R_types HO367.out BK371.out (by decide)) (fun _ hk => hk.2) (.slice Ao68 t362.length co68)) (fun _ hk => hk.2) (.slice Ao70 t365.length co70)) (fun _ hk => hk.2) (.int .i64 t368)) (fun _ hk => hk.2) (.int .i64 t369)) (fun _ h_ => h_.1))) hb) (zb BK325 hb) (zb BK326 hb) (zb BK349 hb) (zb BK358 hb) (zq #[.slice Ao68 t362.length co68, .slice Ao70 t365.length co70, .int .i64 t368, .int .i64 t369] BK371 hb) (zs hb); clear HO331 HO334 HO342 HO345 HO352 HO355 HO364 HO367 BK325 BK326 BK349 BK358 BK371 HB; obtain ⟨HO331, HO334, HO342, HO345, HO352, HO355, HO364, HO367, BK325, BK326, BK349, BK358, BK371, HB⟩ := n_; (try clear hb)))
      go_meet
      case rel => exact ⟨_, ((t370 != t348)), zS, H', ⟨by first | omega | exact Nat.le_refl _⟩, ⟨zRm HO342 (fun _ hk => ⟨hk.2.1, hk.2.2⟩)⟩, ⟨zRm HO345 (fun _ hk => ⟨hk.2.1, hk.2.2⟩)⟩, ⟨zRm HO352 (fun _ hk => ⟨hk.2.1, hk.2.2⟩)⟩, ⟨zRm HO355 (fun _ hk => ⟨hk.2.1, hk.2.2⟩)⟩, ⟨zRm HO364 (fun _ hk => ⟨hk.2.1, hk.2.2⟩)⟩, ⟨zRm HO367 (fun _ hk => ⟨hk.2.1, hk.2.2⟩)⟩, ⟨zP BK325⟩, ⟨zP BK326⟩, ⟨zP BK349⟩, ⟨zP BK358⟩, ⟨zP BK371⟩, ⟨zB⟩⟩
     ·replace c75 := Bool.eq_false_iff.mpr c75; subst c75; replace H := zN H
      have H' := Aside0.mk H
      clear H
      have := NB371_325.out
      have := NB325_371.out
      have := NB371_326.out
      have := NB326_371.out
      have := NB371_349.out
      have := NB349_371.out
      have := NB371_358.out
      have := NB358_371.out
      obtain ⟨_, _, _, _, _, _, _, _⟩ := zC4 BK371
      have := NB349_325.out
      have := NB325_349.out
      have := NB349_326.out
      have := NB326_349.out
      have := NB349_358.out
      have := NB358_349.out
      obtain ⟨_, _, _, _, _, _, _, _⟩ := zC4 BK349
      go_wp2_with (first | ((with_reducible refine gate_callee (f := 15) rfl ?_); refine zG (some 56) Try.func15 #[.agg #[.slice Ao68 t362.length co68, .slice Ao70 t365.length co70, .int .i64 t368, .int .i64 t369], .agg #[.slice Ao46 t340.length co46, .slice Ao48 t343.length co48, .int .i64 t346, .int .i64 t347]] ?_; (with_reducible refine (laws_eqState.calls k _ _ t362 _ _ t365 t368 t369 _ _ t340 _ _ t343 t346 t347 false _ ?side1 ?side2 ?side3 ?side4 ?side5 ?side6 ?side7 ?side8 A74.out).mono ?_); (case side1 => refine (Kd.R_reads' (e := 46) (base := w.heap.size) (ok := fun k_ => (some k_ ≠ (v330 : Value).ownBlock ∧ (some k_ ≠ (.slice Ao46 t340.length co46 : Value).ownBlock ∧ some k_ ≠ (.slice Ao56 t350.length co56 : Value).ownBlock))) (n := t362.length) (c := co68) ?_).2.2; exact (by (with_reducible repeat (first | apply Kd.R_alloc | apply Kd.R_drewN | apply Kd.R_drew)); exact (Kd.R_mono (Kd.R_far (p := ⟨gb371, 3, none⟩) (Kd.R_far (p := ⟨gb371, 2, none⟩) (Kd.R_far (p := ⟨gb371, 1, none⟩) (Kd.R_far (p := ⟨gb371, 0, none⟩) (Kd.R_types HO364.out BK371.out (by decide)) (fun _ hk => hk.2) (.slice Ao68 t362.length co68)) (fun _ hk => hk.2) (.slice Ao70 t365.length co70)) (fun _ hk => hk.2) (.int .i64 t368)) (fun _ hk => hk.2) (.int .i64 t369)) (fun _ h_ => h_.1)))); (case side2 => exact (Kd.R_reads' HO364.out).2.1); (case side3 => refine (Kd.R_reads' (e := 58) (base := w.heap.size) (ok := fun k_ => (some k_ ≠ (v333 : Value).ownBlock ∧ (some k_ ≠ (.slice Ao48 t343.length co48 : Value).ownBlock ∧ some k_ ≠ (.slice Ao61 t353.length co61 : Value).ownBlock))) (n := t365.length) (c := co70) ?_).2.2; exact (by (with_reducible repeat (first | apply Kd.R_alloc | apply Kd.R_drewN | apply Kd.R_drew)); exact (Kd.R_mono (Kd.R_far (p := ⟨gb371, 3, none⟩) (Kd.R_far (p := ⟨gb371, 2, none⟩) (Kd.R_far (p := ⟨gb371, 1, none⟩) (Kd.R_far (p := ⟨gb371, 0, none⟩) (Kd.R_types HO367.out BK371.out (by decide)) (fun _ hk => hk.2) (.slice Ao68 t362.length co68)) (fun _ hk => hk.2) (.slice Ao70 t365.length co70)) (fun _ hk => hk.2) (.int .i64 t368)) (fun _ hk => hk.2) (.int .i64 t369)) (fun _ h_ => h_.1)))); (case side4 => exact (Kd.R_reads' HO367.out).2.1); (case side5 => refine (Kd.R_reads' (e := 46) (base := w.heap.size) (ok := fun k_ => (some k_ ≠ (v330 : Value).ownBlock ∧ (some k_ ≠ (.slice Ao56 t350.length co56 : Value).ownBlock ∧ some k_ ≠ (.slice Ao68 t362.length co68 : Value).ownBlock))) (n := t340.length) (c := co46) ?_).2.2; exact (by (with_reducible repeat (first | apply Kd.R_alloc | apply Kd.R_drewN | apply Kd.R_drew)); exact (Kd.R_mono (Kd.R_far (p := ⟨gb371, 3, none⟩) (Kd.R_far (p := ⟨gb371, 2, none⟩) (Kd.R_far (p := ⟨gb371, 1, none⟩) (Kd.R_far (p := ⟨gb371, 0, none⟩) (Kd.R_types HO342.out BK371.out (by decide)) (fun _ hk => hk.2) (.slice Ao68 t362.length co68)) (fun _ hk => hk.2) (.slice Ao70 t365.length co70)) (fun _ hk => hk.2) (.int .i64 t368)) (fun _ hk => hk.2) (.int .i64 t369)) (fun _ h_ => h_.1)))); (case side6 => exact (Kd.R_reads' HO342.out).2.1); (case side7 => refine (Kd.R_reads' (e := 58) (base := w.heap.size) (ok := fun k_ => (some k_ ≠ (v333 : Value).ownBlock ∧ (some k_ ≠ (.slice Ao61 t353.length co61 : Value).ownBlock ∧ some k_ ≠ (.slice Ao70 t365.length co70 : Value).ownBlock))) (n := t343.length) (c := co48) ?_).2.2; exact (by (with_reducible repeat (first | apply Kd.R_alloc | apply Kd.R_drewN | apply Kd.R_drew)); exact (Kd.R_mono (Kd.R_far (p := ⟨gb371, 3, none⟩) (Kd.R_far (p := ⟨gb371, 2, none⟩) (Kd.R_far (p := ⟨gb371, 1, none⟩) (Kd.R_far (p := ⟨gb371, 0, none⟩) (Kd.R_types HO345.out BK371.out (by decide)) (fun _ hk => hk.2) (.slice Ao68 t362.length co68)) (fun _ hk => hk.2) (.slice Ao70 t365.length co70)) (fun _ hk => hk.2) (.int .i64 t368)) (fun _ hk => hk.2) (.int .i64 t369)) (fun _ h_ => h_.1)))); (case side8 => exact (Kd.R_reads' HO345.out).2.1); rintro e w95 ⟨rfl, hb⟩; refine ⟨_, rfl, ?_⟩; have n_ := z14 (Kd.R_below (by (with_reducible repeat (first | apply Kd.R_alloc | apply Kd.R_drewN | apply Kd.R_drew)); exact (Kd.R_mono (Kd.R_far (p := ⟨gb371, 3, none⟩) (Kd.R_far (p := ⟨gb371, 2, none⟩) (Kd.R_far (p := ⟨gb371, 1, none⟩) (Kd.R_far (p := ⟨gb371, 0, none⟩) (Kd.R_types HO331.out BK371.out (by decide)) (fun _ hk => hk.2) (.slice Ao68 t362.length co68)) (fun _ hk => hk.2) (.slice Ao70 t365.length co70)) (fun _ hk => hk.2) (.int .i64 t368)) (fun _ hk => hk.2) (.int .i64 t369)) (fun _ h_ => h_.1))) hb) (Kd.R_below (by (with_reducible repeat (first | apply Kd.R_alloc | apply Kd.R_drewN | apply Kd.R_drew)); exact (Kd.R_mono (Kd.R_far (p := ⟨gb371, 3, none⟩) (Kd.R_far (p := ⟨gb371, 2, none⟩) (Kd.R_far (p := ⟨gb371, 1, none⟩) (Kd.R_far (p := ⟨gb371, 0, none⟩) (Kd.R_types HO334.out BK371.out (by decide)) (fun _ hk => hk.2) (.slice Ao68 t362.length co68)) (fun _ hk => hk.2) (.slice Ao70 t365.length co70)) (fun _ hk => hk.2) (.int .i64 t368)) (fun _ hk => hk.2) (.int .i64 t369)) (fun _ h_ => h_.1))) hb) (Kd.R_below (by (with_reducible repeat (first | apply Kd.R_alloc | apply Kd.R_drewN | apply Kd.R_drew)); exact (Kd.R_mono (Kd.R_far (p := ⟨gb371, 3, none⟩) (Kd.R_far (p := ⟨gb371, 2, none⟩) (Kd.R_far (p := ⟨gb371, 1, none⟩) (Kd.R_far (p := ⟨gb371, 0, none⟩) (Kd.R_types HO342.out BK371.out (by decide)) (fun _ hk => hk.2) (.slice Ao68 t362.length co68)) (fun _ hk => hk.2) (.slice Ao70 t365.length co70)) (fun _ hk => hk.2) (.int .i64 t368)) (fun _ hk => hk.2) (.int .i64 t369)) (fun _ h_ => h_.1))) hb) (Kd.R_below (by (with_reducible repeat (first | apply Kd.R_alloc | apply Kd.R_drewN | apply Kd.R_drew)); exact (Kd.R_mono (Kd.R_far (p := ⟨gb371, 3, none⟩) (Kd.R_far (p := ⟨gb371, 2, none⟩) (Kd.R_far (p := ⟨gb371, 1, none⟩) (Kd.R_far (p := ⟨gb371, 0, none⟩) (Kd.R_types HO345.out BK371.out (by decide)) (fun _ hk => hk.2) (.slice Ao68 t362.length co68)) (fun _ hk => hk.2) (.slice Ao70 t365.length co70)) (fun _ hk => hk.2) (.int .i64 t368)) (fun _ hk => hk.2) (.int .i64 t369)) (fun _ h_ => h_.1))) hb) (Kd.R_below (by (with_reducible repeat (first | apply Kd.R_alloc | apply Kd.R_drewN | apply Kd.R_drew)); exact (Kd.R_mono (Kd.R_far (p := ⟨gb371, 3, none⟩) (Kd.R_far (p := ⟨gb371, 2, none⟩) (Kd.R_far (p := ⟨gb371, 1, none⟩) (Kd.R_far (p := ⟨gb371, 0, none⟩) (Kd.R_types HO352.out BK371.out (by decide)) (fun _ hk => hk.2) (.slice Ao68 t362.length co68)) (fun _ hk => hk.2) (.slice Ao70 t365.length co70)) (fun _ hk => hk.2) (.int .i64 t368)) (fun _ hk => hk.2) (.int .i64 t369)) (fun _ h_ => h_.1))) hb) (Kd.R_below (by (with_reducible repeat (first | apply Kd.R_alloc | apply Kd.R_drewN | apply Kd.R_drew)); exact (Kd.R_mono (Kd.R_far (p := ⟨gb371, 3, none⟩) (Kd.R_far (p := ⟨gb371, 2, none⟩) (Kd.R_far (p := ⟨gb371, 1, none⟩) (Kd.R_far (p := ⟨gb371, 0, none⟩) (Kd.R_types HO355.out BK371.out (by decide)) (fun _ hk => hk.2) (.slice Ao68 t362.length co68)) (fun _ hk => hk.2) (.slice Ao70 t365.length co70)) (fun _ hk => hk.2) (.int .i64 t368)) (fun _ hk => hk.2) (.int .i64 t369)) (fun _ h_ => h_.1))) hb) (Kd.R_below (by (with_reducible repeat (first | apply Kd.R_alloc | apply Kd.R_drewN | apply Kd.R_drew)); exact (Kd.R_mono (Kd.R_far (p := ⟨gb371, 3, none⟩) (Kd.R_far (p := ⟨gb371, 2, none⟩) (Kd.R_far (p := ⟨gb371, 1, none⟩) (Kd.R_far (p := ⟨gb371, 0, none⟩) (Kd.R_types HO364.out BK371.out (by decide)) (fun _ hk => hk.2) (.slice Ao68 t362.length co68)) (fun _ hk => hk.2) (.slice Ao70 t365.length co70)) (fun _ hk => hk.2) (.int .i64 t368)) (fun _ hk => hk.2) (.int .i64 t369)) (fun _ h_ => h_.1))) hb) (Kd.R_below (by (with_reducible repeat (first | apply Kd.R_alloc | apply Kd.R_drewN | apply Kd.R_drew)); exact (Kd.R_mono (Kd.R_far (p := ⟨gb371, 3, none⟩) (Kd.R_far (p := ⟨gb371, 2, none⟩) (Kd.R_far (p := ⟨gb371, 1, none⟩) (Kd.R_far (p := ⟨gb371, 0, none⟩) (Kd.R_types HO367.out BK371.out (by decide)) (fun _ hk => hk.2) (.slice Ao68 t362.length co68)) (fun _ hk => hk.2) (.slice Ao70 t365.length co70)) (fun _ hk => hk.2) (.int .i64 t368)) (fun _ hk => hk.2) (.int .i64 t369)) (fun _ h_ => h_.1))) hb) (zb BK325 hb) (zb BK326 hb) (zb BK349 hb) (zb BK358 hb) (zq #[.slice Ao68 t362.length co68, .slice Ao70 t365.length co70, .int .i64 t368, .int .i64 t369] BK371 hb) (zs hb); clear HO331 HO334 HO342 HO345 HO352 HO355 HO364 HO367 BK325 BK326 BK349 BK358 BK371 HB; obtain ⟨HO331, HO334, HO342, HO345, HO352, HO355, HO364, HO367, BK325, BK326, BK349, BK358, BK371, HB⟩ := n_; (try clear hb)))
      go_meet
      case rel => exact ⟨_, (true), zS, H', ⟨by first | omega | exact Nat.le_refl _⟩, ⟨zRm HO342 (fun _ hk => ⟨hk.2.1, hk.2.2⟩)⟩, ⟨zRm HO345 (fun _ hk => ⟨hk.2.1, hk.2.2⟩)⟩, ⟨zRm HO352 (fun _ hk => ⟨hk.2.1, hk.2.2⟩)⟩, ⟨zRm HO355 (fun _ hk => ⟨hk.2.1, hk.2.2⟩)⟩, ⟨zRm HO364 (fun _ hk => ⟨hk.2.1, hk.2.2⟩)⟩, ⟨zRm HO367 (fun _ hk => ⟨hk.2.1, hk.2.2⟩)⟩, ⟨zP BK325⟩, ⟨zP BK326⟩, ⟨zP BK349⟩, ⟨zP BK358⟩, ⟨zP BK371⟩, ⟨zB⟩⟩
    case rest =>
     clear HC30
     (try clear c9)
     obtain ⟨kq, x62_29, rfl, HA, HJ29, HO_350000, HO_350001, HO_359000, HO_359001, HO_372000, HO_372001, BK325, BK326, BK349, BK358, BK371, HB⟩ := hcut
     cases kq with
     | zero => exact absurd HA.out (by simp [laws_FnExactCellPut.j0])
     | succ kj29 =>
      have H := HA.out
      clear HA
      simp only [laws_FnExactCellPut.j0] at H
      by_cases c96 : x62_29 = true
      ·subst c96; replace H := zT H
       obtain rfl := Option.some.inj H
       go_wp2
       go_ret
       exact ⟨zE, zB⟩
      ·replace c96 := Bool.eq_false_iff.mpr c96; subst c96; replace H := zN H
       replace H := zO H; obtain ⟨⟨t373, t376, t379, t380⟩, A97, H⟩ := H
       replace H : ((laws_eqState.f kj29 t350 t353 t356 t357 t373 t376 t379 t380).bind fun t381 => (if t381 = true then ((laws_markState.f kj29 t350 t353 t356 t357 1).bind fun bt382 => (if bt382.1 < 0 then (laws_FnExactCellPut.j1 kj29 a1 a2 t348 true l0_0 l0_1 a0_2 a0_3 a3_0 a3_1 a3_2 t340 t343 t346 t347 t362 t365 t368 t369) else ((laws_eqState.f kj29 t362 t365 t368 t369 t340 t343 t346 t347).bind fun t385 => (if t385 = true then (laws_FnExactCellPut.j1 kj29 a1 a2 t348 (t370 != t348) l0_0 l0_1 a0_2 a0_3 a3_0 a3_1 a3_2 t340 t343 t346 t347 t362 t365 t368 t369) else (laws_FnExactCellPut.j1 kj29 a1 a2 t348 true l0_0 l0_1 a0_2 a0_3 a3_0 a3_1 a3_2 t340 t343 t346 t347 t362 t365 t368 t369))))) else (some false))) = some r := H
       replace H := zO H; obtain ⟨t381, A98, H⟩ := H
       by_cases c99 : t381 = true
       ·subst c99; replace H := zT H
        replace H := zO H; obtain ⟨⟨t382, t383, t384⟩, A100, H⟩ := H
        replace H : (if t382 < 0 then (laws_FnExactCellPut.j1 kj29 a1 a2 t348 true l0_0 l0_1 a0_2 a0_3 a3_0 a3_1 a3_2 t340 t343 t346 t347 t362 t365 t368 t369) else ((laws_eqState.f kj29 t362 t365 t368 t369 t340 t343 t346 t347).bind fun t385 => (if t385 = true then (laws_FnExactCellPut.j1 kj29 a1 a2 t348 (t370 != t348) l0_0 l0_1 a0_2 a0_3 a3_0 a3_1 a3_2 t340 t343 t346 t347 t362 t365 t368 t369) else (laws_FnExactCellPut.j1 kj29 a1 a2 t348 true l0_0 l0_1 a0_2 a0_3 a3_0 a3_1 a3_2 t340 t343 t346 t347 t362 t365 t368 t369)))) = some r := H
        have HC101 := Aside0.mk H
        clear H
        try go_wp2
        have n_ := z12 (Kd.R_drew HO_350000.out) (Kd.R_drew HO_350001.out) (Kd.R_drew HO_359000.out) (Kd.R_drew HO_359001.out) (Kd.R_drew HO_372000.out) (Kd.R_drew HO_372001.out) (blk_drew BK325.out) (blk_drew BK326.out) (blk_drew BK349.out) (blk_drew BK358.out) (blk_drew BK371.out) (below_drew1 HB.out)
        clear HO_350000 HO_350001 HO_359000 HO_359001 HO_372000 HO_372001 BK325 BK326 BK349 BK358 BK371 HB
        obtain ⟨HO_350000, HO_350001, HO_359000, HO_359001, HO_372000, HO_372001, BK325, BK326, BK349, BK358, BK371, HB⟩ := n_
        refine start_ (n := 5) (S := fun w' => w'.cell? ⟨gb358, 0, none⟩ = some (.slice Ao56 t350.length co56) ∧ w'.cell? ⟨gb358, 1, none⟩ = some (.slice Ao61 t353.length co61) ∧ w'.cell? ⟨gb358, 2, none⟩ = some (.int .i64 t356) ∧ w'.cell? ⟨gb358, 3, none⟩ = some (.int .i64 t357) ∧ w'.cell? ⟨gb325, 0, none⟩ = some (.slice A0_0 l0_0.length c0_0) ∧ w'.cell? ⟨gb325, 1, none⟩ = some (.slice A0_1 l0_1.length c0_1) ∧ w'.cell? ⟨gb325, 2, none⟩ = some (.int .i64 a0_2) ∧ w'.cell? ⟨gb325, 3, none⟩ = some (.int .i64 a0_3)) (ds := []) #[false, false, false, false, false] (by kernel_rfl) rfl rfl ⟨(blk_cell BK358.out 0).trans rfl, (blk_cell BK358.out 1).trans rfl, (blk_cell BK358.out 2).trans rfl, (blk_cell BK358.out 3).trans rfl, (blk_cell BK325.out 0).trans rfl, (blk_cell BK325.out 1).trans rfl, (blk_cell BK325.out 2).trans rfl, (blk_cell BK325.out 3).trans rfl⟩ (fun hHeld => ?_)
        generalize wc.drew = w102 at HO_350000 HO_350001 HO_359000 HO_359001 HO_372000 HO_372001 BK325 BK326 BK349 BK358 BK371 HB hHeld ⊢
        refine take_ (i := 0) (N := some 63) (v := ?_) (a' := ?_) #[true, false, false, false, false] rfl rfl (by kernel_rfl) (fun _ _ _ h => h) (Or.inl ⟨by rfl, ?_⟩) hHeld ?_ ?_
        rotate_left
        ·rintro w' ⟨s0, s1, s2, s3, s4, s5, s6, s7⟩
         go_simp
         with_reducible rfl
        rotate_left
        ·exact zY
        refine take_ (i := 1) (N := some 64) (v := ?_) (a' := ?_) #[true, true, false, false, false] rfl rfl (by kernel_rfl) (fun _ _ _ h => h) (Or.inl ⟨by rfl, ?_⟩) hHeld ?_ ?_
        rotate_left
        ·rintro w' ⟨s0, s1, s2, s3, s4, s5, s6, s7⟩
         go_simp
         with_reducible rfl
        rotate_left
        ·exact zY
        refine one_ (i := 2) (N := some 65) #[true, true, true, false, false] rfl rfl (by kernel_rfl) (by decide) (fun K hK => ?_)
        refine goes_ Try.func13 (by kernel_rfl) rfl #[.agg #[.slice A0_0 l0_0.length c0_0, .slice A0_1 l0_1.length c0_1, .int .i64 a0_2, .int .i64 a0_3]] (by rfl) rfl rfl zA ?_
        with_reducible refine (laws_toState.calls kj29 _ _ l0_0 _ _ l0_1 a0_2 a0_3 t373 t376 t379 t380 _ ?side1 ?side2 ?side3 ?side4 A97.out).mono ?_
        (case side1 => exact zCc ((Kd.C_below HR0_0.out HB.out)))
        (case side2 => exact HC0_0.out)
        (case side3 => exact zCc ((Kd.C_below HR0_1.out HB.out)))
        (case side4 => exact HC0_1.out)
        rintro e w103 ⟨v374, v377, rfl, ho0, ho1, hb⟩
        refine ⟨_, rfl, ?_⟩
        have n_ := z14 (Kd.R_elder' (zRr HO_350000) (Kd.R_base ho0) hb) (Kd.R_elder' (zRr HO_350001) (Kd.R_base ho1) hb) (Kd.R_elder' (zRr HO_359000) (Kd.R_base ho0) hb) (Kd.R_elder' (zRr HO_359001) (Kd.R_base ho1) hb) (Kd.R_elder' (zRr HO_372000) (Kd.R_base ho0) hb) (Kd.R_elder' (zRr HO_372001) (Kd.R_base ho1) hb) (Kd.R_lower (Kd.R_new' (Kd.R_new' (Kd.R_new' ho0 (Kd.R_lt (zRr HO_350000))) (Kd.R_lt (zRr HO_359000))) (Kd.R_lt (zRr HO_372000))) (below_size zB)) (Kd.R_lower (Kd.R_new' (Kd.R_new' (Kd.R_new' ho1 (Kd.R_lt (zRr HO_350001))) (Kd.R_lt (zRr HO_359001))) (Kd.R_lt (zRr HO_372001))) (below_size zB)) (zb BK325 hb) (zb BK326 hb) (zb BK349 hb) (zb BK358 hb) (zb BK371 hb) (zs hb)
        clear HO_350000 HO_350001 HO_359000 HO_359001 HO_372000 HO_372001 BK325 BK326 BK349 BK358 BK371 HB
        obtain ⟨HO_350000, HO_350001, HO_359000, HO_359001, HO_372000, HO_372001, HO375, HO378, BK325, BK326, BK349, BK358, BK371, HB⟩ := n_
        (try clear hb)
        (try clear hb2)
        (try clear hk)
        (try clear hi)
        (try clear ho0)
        (try clear ho1)
        obtain ⟨Ao104, co104, eo104⟩ := Kd.R_slice HO375.out
        (first | subst eo104 | (injection eo104 with f1_ f2_ f3_; have f4_ := f1_.symm; have f5_ := f3_.symm; clear f1_ f2_ f3_; subst f4_; subst f5_))
        obtain ⟨Ao105, co105, eo105⟩ := Kd.R_slice HO378.out
        (first | subst eo105 | (injection eo105 with f1_ f2_ f3_; have f4_ := f1_.symm; have f5_ := f3_.symm; clear f1_ f2_ f3_; subst f4_; subst f5_))
        refine hK.out _ _ ⟨(blk_cell BK358.out 0).trans rfl, (blk_cell BK358.out 1).trans rfl, (blk_cell BK358.out 2).trans rfl, (blk_cell BK358.out 3).trans rfl, (blk_cell BK325.out 0).trans rfl, (blk_cell BK325.out 1).trans rfl, (blk_cell BK325.out 2).trans rfl, (blk_cell BK325.out 3).trans rfl⟩ (fun hHeld => ?_)
        clear hK K
        refine norm_ (a' := ?_) ?_ ?_
        rotate_left
        ·show Act.put _ (some 65) _ = _
         simp only [Act.put, List.setIfInBounds_toArray, List.set_cons_zero, List.set_cons_succ, i64_w, i32_w]
         rfl
        refine one_ (i := 3) (N := some 66) #[true, true, true, true, false] rfl rfl (by kernel_rfl) (by decide) (fun K hK => ?_)
        refine goes_ Try.func15 (by kernel_rfl) rfl #[.agg #[.slice Ao56 t350.length co56, .slice Ao61 t353.length co61, .int .i64 t356, .int .i64 t357], .agg #[.slice Ao104 t373.length co104, .slice Ao105 t376.length co105, .int .i64 t379, .int .i64 t380]] (by rfl) rfl rfl zA ?_
        with_reducible refine (laws_eqState.calls kj29 _ _ t350 _ _ t353 t356 t357 _ _ t373 _ _ t376 t379 t380 true _ ?side1 ?side2 ?side3 ?side4 ?side5 ?side6 ?side7 ?side8 A98.out).mono ?_
        (case side1 => exact zCc ((Kd.R_reads' HO_359000.out).2.2))
        (case side2 => exact (Kd.R_reads' HO_359000.out).2.1)
        (case side3 => exact zCc ((Kd.R_reads' HO_359001.out).2.2))
        (case side4 => exact (Kd.R_reads' HO_359001.out).2.1)
        (case side5 => exact zCc ((Kd.R_reads' HO375.out).2.2))
        (case side6 => exact (Kd.R_reads' HO375.out).2.1)
        (case side7 => exact zCc ((Kd.R_reads' HO378.out).2.2))
        (case side8 => exact (Kd.R_reads' HO378.out).2.1)
        rintro e w106 ⟨rfl, hb⟩
        refine ⟨_, rfl, ?_⟩
        have n_ := z14 (Kd.R_below (zRr HO_350000) hb) (Kd.R_below (zRr HO_350001) hb) (Kd.R_below (zRr HO_359000) hb) (Kd.R_below (zRr HO_359001) hb) (Kd.R_below (zRr HO_372000) hb) (Kd.R_below (zRr HO_372001) hb) (Kd.R_below (zRr HO375) hb) (Kd.R_below (zRr HO378) hb) (zb BK325 hb) (zb BK326 hb) (zb BK349 hb) (zb BK358 hb) (zb BK371 hb) (zs hb)
        clear HO_350000 HO_350001 HO_359000 HO_359001 HO_372000 HO_372001 HO375 HO378 BK325 BK326 BK349 BK358 BK371 HB
        obtain ⟨HO_350000, HO_350001, HO_359000, HO_359001, HO_372000, HO_372001, HO375, HO378, BK325, BK326, BK349, BK358, BK371, HB⟩ := n_
        (try clear hb)
        (try clear hb2)
        (try clear hk)
        (try clear hi)
        refine hK.out _ _ ⟨(blk_cell BK358.out 0).trans rfl, (blk_cell BK358.out 1).trans rfl, (blk_cell BK358.out 2).trans rfl, (blk_cell BK358.out 3).trans rfl, (blk_cell BK325.out 0).trans rfl, (blk_cell BK325.out 1).trans rfl, (blk_cell BK325.out 2).trans rfl, (blk_cell BK325.out 3).trans rfl⟩ (fun hHeld => ?_)
        clear hK K
        refine norm_ (a' := ?_) ?_ ?_
        rotate_left
        ·show Act.put _ (some 66) _ = _
         simp only [Act.put, List.setIfInBounds_toArray, List.set_cons_zero, List.set_cons_succ, i64_w, i32_w]
         rfl
        refine pure_ (i := 4) (N := some 67) (v := ?_) (a' := ?_) #[true, true, true, true, true] rfl rfl (by kernel_rfl) (fun _ _ _ h => h) (Or.inl ⟨by rfl, ?_⟩) ?_ ?_
        rotate_left
        ·intro w'; go_simp; with_reducible rfl
        rotate_left
        ·exact zY
        refine done_ (by kernel_rfl) ?_
        have := NB358_325.out
        have := NB325_358.out
        have := NB358_326.out
        have := NB326_358.out
        have := NB358_349.out
        have := NB349_358.out
        have := NB358_371.out
        have := NB371_358.out
        obtain ⟨hcz111_0, hcz111_1, hcz111_2, hcz111_3, hfz111_0, hfz111_1, hfz111_2, hfz111_3⟩ := zC4 BK358
        go_upto_region 19 with (first | ((with_reducible refine gate_callee (f := 16) rfl ?_); refine zG (some 70) Try.func16 #[.agg #[.slice Ao56 t350.length co56, .slice Ao61 t353.length co61, .int .i64 t356, .int .i64 t357], .int .i64 1] ?_; (with_reducible refine (laws_markState.calls kj29 (fun k_ => some k_ = (.slice Ao56 t350.length co56 : Value).ownBlock) (.slice Ao56 t350.length co56) t350 (fun k_ => some k_ = (.slice Ao61 t353.length co61 : Value).ownBlock) (.slice Ao61 t353.length co61) t353 t356 t357 1 t382 t383 t384 w _ ?side1 ?side2 ?side3 A100.out).mono ?_); (case side1 => repeat (first | (with_reducible first | exact HB.out | apply below_alloc | apply pw_below_drewN | apply below_drew1 | refine below_set ?_ GE325.out | refine below_set ?_ GE326.out | refine below_set ?_ GE349.out | refine below_set ?_ GE358.out | refine below_set ?_ GE371.out) | exact HB.out)); (case side2 => exact Kd.R_tight rfl HO_359000.out); (case side3 => exact Kd.R_tight rfl HO_359001.out); rintro e w112 ⟨rfl, hy0, hy1, hb, hkp⟩; refine ⟨_, rfl, ?_⟩; have n_ := z14 (Kd.R_mono (ok' := fun k_ => some k_ ≠ (.slice Ao56 t350.length co56 : Value).ownBlock ∧ some k_ ≠ (.slice Ao68 t362.length co68 : Value).ownBlock ∧ some k_ ≠ (.slice Ao104 t373.length co104 : Value).ownBlock) (Kd.R_keptB ((Kd.R_apart' HO_350000.out (Kd.R_typed HO_359001.out) (by decide))) hkp (fun k_ hk_ hs_ => Or.elim hs_ (fun e_ => (hk_.1.1.1) e_) (fun e_ => (hk_.2) e_))) (fun k_ hk_ => ⟨hk_.1.1.1.1, hk_.1.1.1.2, hk_.1.1.2⟩)) (Kd.R_mono (ok' := fun k_ => some k_ ≠ (.slice Ao61 t353.length co61 : Value).ownBlock ∧ some k_ ≠ (.slice Ao70 t365.length co70 : Value).ownBlock ∧ some k_ ≠ (.slice Ao105 t376.length co105 : Value).ownBlock) (Kd.R_keptB ((Kd.R_apart' HO_350001.out (Kd.R_typed HO_359000.out) (by decide))) hkp (fun k_ hk_ hs_ => Or.elim hs_ (fun e_ => (hk_.2) e_) (fun e_ => (hk_.1.1.1) e_))) (fun k_ hk_ => ⟨hk_.1.1.1.1, hk_.1.1.1.2, hk_.1.1.2⟩)) (Kd.R_reok rfl hy0 (fun k_ e_ => HO_359000.out.1 k_ e_)) (Kd.R_reok rfl hy1 (fun k_ e_ => HO_359001.out.1 k_ e_)) (Kd.R_mono (ok' := fun k_ => some k_ ≠ (.slice Ao46 t340.length co46 : Value).ownBlock ∧ some k_ ≠ (.slice Ao56 t350.length co56 : Value).ownBlock ∧ some k_ ≠ (.slice Ao104 t373.length co104 : Value).ownBlock) (Kd.R_keptB ((Kd.R_apart' HO_372000.out (Kd.R_typed HO_359001.out) (by decide))) hkp (fun k_ hk_ hs_ => Or.elim hs_ (fun e_ => (hk_.1.1.2) e_) (fun e_ => (hk_.2) e_))) (fun k_ hk_ => ⟨hk_.1.1.1.1, hk_.1.1.1.2, hk_.1.1.2⟩)) (Kd.R_mono (ok' := fun k_ => some k_ ≠ (.slice Ao48 t343.length co48 : Value).ownBlock ∧ some k_ ≠ (.slice Ao61 t353.length co61 : Value).ownBlock ∧ some k_ ≠ (.slice Ao105 t376.length co105 : Value).ownBlock) (Kd.R_keptB ((Kd.R_apart' HO_372001.out (Kd.R_typed HO_359000.out) (by decide))) hkp (fun k_ hk_ hs_ => Or.elim hs_ (fun e_ => (hk_.2) e_) (fun e_ => (hk_.1.1.2) e_))) (fun k_ hk_ => ⟨hk_.1.1.1.1, hk_.1.1.1.2, hk_.1.1.2⟩)) (blk_kept (zP BK325) hkp (fun hs_ => Or.elim hs_ (fun e_ => (fun e_ => (Kd.R_ne HO_359000.out BK325.out (by decide)) e_) e_) (fun e_ => (fun e_ => (Kd.R_ne HO_359001.out BK325.out (by decide)) e_) e_))) (blk_kept (zP BK326) hkp (fun hs_ => Or.elim hs_ (fun e_ => (fun e_ => (Kd.R_ne HO_359000.out BK326.out (by decide)) e_) e_) (fun e_ => (fun e_ => (Kd.R_ne HO_359001.out BK326.out (by decide)) e_) e_))) (blk_kept (zP BK349) hkp (fun hs_ => Or.elim hs_ (fun e_ => (fun e_ => (Kd.R_ne HO_359000.out BK349.out (by decide)) e_) e_) (fun e_ => (fun e_ => (Kd.R_ne HO_359001.out BK349.out (by decide)) e_) e_))) (blk_kept (zP BK358) hkp (fun hs_ => Or.elim hs_ (fun e_ => (fun e_ => (Kd.R_ne HO_359000.out BK358.out (by decide)) e_) e_) (fun e_ => (fun e_ => (Kd.R_ne HO_359001.out BK358.out (by decide)) e_) e_))) (blk_kept (zP BK371) hkp (fun hs_ => Or.elim hs_ (fun e_ => (fun e_ => (Kd.R_ne HO_359000.out BK371.out (by decide)) e_) e_) (fun e_ => (fun e_ => (Kd.R_ne HO_359001.out BK371.out (by decide)) e_) e_))) (Kd.R_mono (ok' := fun k_ => some k_ ≠ (.slice Ao46 t340.length co46 : Value).ownBlock ∧ some k_ ≠ (.slice Ao56 t350.length co56 : Value).ownBlock ∧ some k_ ≠ (.slice Ao68 t362.length co68 : Value).ownBlock) (Kd.R_keptB ((Kd.R_apart' HO375.out (Kd.R_typed HO_359001.out) (by decide))) hkp (fun k_ hk_ hs_ => Or.elim hs_ (fun e_ => (hk_.1.1.2) e_) (fun e_ => (hk_.2) e_))) (fun k_ hk_ => ⟨hk_.1.1.1.1.2, hk_.1.1.1.2, hk_.1.1.2⟩)) (Kd.R_mono (ok' := fun k_ => some k_ ≠ (.slice Ao48 t343.length co48 : Value).ownBlock ∧ some k_ ≠ (.slice Ao61 t353.length co61 : Value).ownBlock ∧ some k_ ≠ (.slice Ao70 t365.length co70 : Value).ownBlock) (Kd.R_keptB ((Kd.R_apart' HO378.out (Kd.R_typed HO_359000.out) (by decide))) hkp (fun k_ hk_ hs_ => Or.elim hs_ (fun e_ => (hk_.2) e_) (fun e_ => (hk_.1.1.2) e_))) (fun k_ hk_ => ⟨hk_.1.1.1.1.2, hk_.1.1.1.2, hk_.1.1.2⟩)) (hb); clear HO_350000 HO_350001 HO_359000 HO_359001 HO_372000 HO_372001 BK325 BK326 BK349 BK358 BK371 HO375 HO378 HB; obtain ⟨HO_350000, HO_350001, HO_359000, HO_359001, HO_372000, HO_372001, BK325, BK326, BK349, BK358, BK371, HO375, HO378, HB⟩ := n_; (try clear hb); (try clear hkp); (try clear hy0); (try clear hy1)))
        (try simp only [Act.put, List.setIfInBounds_toArray, List.set_cons_zero, List.set_cons_succ])
        go_cut [83] (fun v83 wc => ∃ (kq : Nat) (x83_100 : Bool), v83 = .bool x83_100 ∧ Aside0 (laws_FnExactCellPut.j1 kq a1 a2 t348 x83_100 l0_0 l0_1 a0_2 a0_3 a3_0 a3_1 a3_2 t340 t343 t346 t347 t362 t365 t368 t369 = some r) ∧ Aside0 (kq ≤ kj29) ∧ Aside0 (Kd.R k46 46 wc w.heap.size (fun k_ => some k_ ≠ ((.slice Ao56 t350.length co56) : Value).ownBlock ∧ some k_ ≠ ((.slice Ao68 t362.length co68) : Value).ownBlock) (.slice Ao46 t340.length co46) t340) ∧ Aside0 (Kd.R k58 58 wc w.heap.size (fun k_ => some k_ ≠ ((.slice Ao61 t353.length co61) : Value).ownBlock ∧ some k_ ≠ ((.slice Ao70 t365.length co70) : Value).ownBlock) (.slice Ao48 t343.length co48) t343) ∧ Aside0 (Kd.R k46 46 wc w.heap.size (fun k_ => some k_ ≠ ((.slice Ao46 t340.length co46) : Value).ownBlock ∧ some k_ ≠ ((.slice Ao68 t362.length co68) : Value).ownBlock) (.slice Ao56 t350.length co56) t383) ∧ Aside0 (Kd.R k58 58 wc w.heap.size (fun k_ => some k_ ≠ ((.slice Ao48 t343.length co48) : Value).ownBlock ∧ some k_ ≠ ((.slice Ao70 t365.length co70) : Value).ownBlock) (.slice Ao61 t353.length co61) t384) ∧ Aside0 (Kd.R k46 46 wc w.heap.size (fun k_ => some k_ ≠ ((.slice Ao46 t340.length co46) : Value).ownBlock ∧ some k_ ≠ ((.slice Ao56 t350.length co56) : Value).ownBlock) (.slice Ao68 t362.length co68) t362) ∧ Aside0 (Kd.R k58 58 wc w.heap.size (fun k_ => some k_ ≠ ((.slice Ao48 t343.length co48) : Value).ownBlock ∧ some k_ ≠ ((.slice Ao61 t353.length co61) : Value).ownBlock) (.slice Ao70 t365.length co70) t365) ∧ Aside0 (wc.heap[gb325]? = some (.cells #[(.slice A0_0 l0_0.length c0_0), (.slice A0_1 l0_1.length c0_1), .int .i64 a0_2, .int .i64 a0_3] 30 (0, 0))) ∧ Aside0 (wc.heap[gb326]? = some (.cells #[.int .i64 a3_0, .int .i64 a3_1, .string a3_2] 42 (0, 0))) ∧ Aside0 (wc.heap[gb349]? = some (.cells #[(.slice Ao46 t340.length co46), (.slice Ao48 t343.length co48), .int .i64 t346, .int .i64 t347] 35 (0, 0))) ∧ Aside0 (wc.heap[gb358]? = some (.cells #[(.slice Ao56 t350.length co56), (.slice Ao61 t353.length co61), .int .i64 t356, .int .i64 t357] 35 (0, 0))) ∧ Aside0 (wc.heap[gb371]? = some (.cells #[(.slice Ao68 t362.length co68), (.slice Ao70 t365.length co70), .int .i64 t368, .int .i64 t369] 35 (0, 0))) ∧ Aside0 (Below w.heap.size w wc))
        case first =>
         have H := HC101.out
         clear HC101
         replace H := zI H; obtain ⟨c113, H⟩ | ⟨c113, H⟩ := H
         ·have c113b0 := decide_eq_true c113
          clear c113
          (first | rw [c113b0] | (simp only [i64_w, i32_w]; rw [c113b0]) | skip)
          have H' := Aside0.mk H
          clear H
          go_wp2
          go_meet
          case rel => exact ⟨_, (true), zS, H', ⟨by have := HJ29.out; first | omega | exact Nat.le_refl _⟩, ⟨zRm HO_350000 (fun _ hk => ⟨hk.1, hk.2.1⟩)⟩, ⟨zRm HO_350001 (fun _ hk => ⟨hk.1, hk.2.1⟩)⟩, ⟨zRm HO_359000 (fun _ hk => ⟨hk.1.1, hk.1.2⟩)⟩, ⟨zRm HO_359001 (fun _ hk => ⟨hk.1.1, hk.1.2⟩)⟩, ⟨zRm HO_372000 (fun _ hk => ⟨hk.1, hk.2.1⟩)⟩, ⟨zRm HO_372001 (fun _ hk => ⟨hk.1, hk.2.1⟩)⟩, ⟨zP BK325⟩, ⟨zP BK326⟩, ⟨zP BK349⟩, ⟨zP BK358⟩, ⟨zP BK371⟩, ⟨zB⟩⟩
         ·have c113b0 := decide_eq_false c113
          clear c113
          (first | rw [c113b0] | (simp only [i64_w, i32_w]; rw [c113b0]) | skip)
          replace H := zO H; obtain ⟨t385, A114, H⟩ := H
          by_cases c115 : t385 = true
          ·subst c115; replace H := zT H
           have H' := Aside0.mk H
           clear H
           have := NB371_325.out
           have := NB325_371.out
           have := NB371_326.out
           have := NB326_371.out
           have := NB371_349.out
           have := NB349_371.out
           have := NB371_358.out
           have := NB358_371.out
           obtain ⟨_, _, _, _, _, _, _, _⟩ := zC4 BK371
           have := NB349_325.out
           have := NB325_349.out
           have := NB349_326.out
           have := NB326_349.out
           have := NB349_358.out
           have := NB358_349.out
           obtain ⟨_, _, _, _, _, _, _, _⟩ := zC4 BK349
           go_wp2_with (first | (go_at_call 15; (with_reducible refine (laws_eqState.calls kj29 _ _ t362 _ _ t365 t368 t369 _ _ t340 _ _ t343 t346 t347 true _ ?side1 ?side2 ?side3 ?side4 ?side5 ?side6 ?side7 ?side8 A114.out).mono ?_); (case side1 => exact zCc ((Kd.R_reads' HO_372000.out).2.2)); (case side2 => exact (Kd.R_reads' HO_372000.out).2.1); (case side3 => exact zCc ((Kd.R_reads' HO_372001.out).2.2)); (case side4 => exact (Kd.R_reads' HO_372001.out).2.1); (case side5 => exact zCc ((Kd.R_reads' HO_350000.out).2.2)); (case side6 => exact (Kd.R_reads' HO_350000.out).2.1); (case side7 => exact zCc ((Kd.R_reads' HO_350001.out).2.2)); (case side8 => exact (Kd.R_reads' HO_350001.out).2.1); rintro e w125 ⟨rfl, hb⟩; have n_ := z14 (Kd.R_below (zRr HO_350000) hb) (Kd.R_below (zRr HO_350001) hb) (Kd.R_below (zRr HO_359000) hb) (Kd.R_below (zRr HO_359001) hb) (Kd.R_below (zRr HO_372000) hb) (Kd.R_below (zRr HO_372001) hb) (Kd.R_below (zRr HO375) hb) (Kd.R_below (zRr HO378) hb) (zb BK325 hb) (zb BK326 hb) (zb BK349 hb) (zb BK358 hb) (zb BK371 hb) (zs hb); clear HO_350000 HO_350001 HO_359000 HO_359001 HO_372000 HO_372001 HO375 HO378 BK325 BK326 BK349 BK358 BK371 HB; obtain ⟨HO_350000, HO_350001, HO_359000, HO_359001, HO_372000, HO_372001, HO375, HO378, BK325, BK326, BK349, BK358, BK371, HB⟩ := n_; (try clear hb)))
           go_meet
           case rel => exact ⟨_, ((t370 != t348)), zS, H', ⟨by have := HJ29.out; first | omega | exact Nat.le_refl _⟩, ⟨zRm HO_350000 (fun _ hk => ⟨hk.1, hk.2.1⟩)⟩, ⟨zRm HO_350001 (fun _ hk => ⟨hk.1, hk.2.1⟩)⟩, ⟨zRm HO_359000 (fun _ hk => ⟨hk.1.1, hk.1.2⟩)⟩, ⟨zRm HO_359001 (fun _ hk => ⟨hk.1.1, hk.1.2⟩)⟩, ⟨zRm HO_372000 (fun _ hk => ⟨hk.1, hk.2.1⟩)⟩, ⟨zRm HO_372001 (fun _ hk => ⟨hk.1, hk.2.1⟩)⟩, ⟨zP BK325⟩, ⟨zP BK326⟩, ⟨zP BK349⟩, ⟨zP BK358⟩, ⟨zP BK371⟩, ⟨zB⟩⟩
          ·replace c115 := Bool.eq_false_iff.mpr c115; subst c115; replace H := zN H
           have H' := Aside0.mk H
           clear H
           have := NB371_325.out
           have := NB325_371.out
           have := NB371_326.out
           have := NB326_371.out
           have := NB371_349.out
           have := NB349_371.out
           have := NB371_358.out
           have := NB358_371.out
           obtain ⟨_, _, _, _, _, _, _, _⟩ := zC4 BK371
           have := NB349_325.out
           have := NB325_349.out
           have := NB349_326.out
           have := NB326_349.out
           have := NB349_358.out
           have := NB358_349.out
           obtain ⟨_, _, _, _, _, _, _, _⟩ := zC4 BK349
           go_wp2_with (first | (go_at_call 15; (with_reducible refine (laws_eqState.calls kj29 _ _ t362 _ _ t365 t368 t369 _ _ t340 _ _ t343 t346 t347 false _ ?side1 ?side2 ?side3 ?side4 ?side5 ?side6 ?side7 ?side8 A114.out).mono ?_); (case side1 => exact zCc ((Kd.R_reads' HO_372000.out).2.2)); (case side2 => exact (Kd.R_reads' HO_372000.out).2.1); (case side3 => exact zCc ((Kd.R_reads' HO_372001.out).2.2)); (case side4 => exact (Kd.R_reads' HO_372001.out).2.1); (case side5 => exact zCc ((Kd.R_reads' HO_350000.out).2.2)); (case side6 => exact (Kd.R_reads' HO_350000.out).2.1); (case side7 => exact zCc ((Kd.R_reads' HO_350001.out).2.2)); (case side8 => exact (Kd.R_reads' HO_350001.out).2.1); rintro e w135 ⟨rfl, hb⟩; have n_ := z14 (Kd.R_below (zRr HO_350000) hb) (Kd.R_below (zRr HO_350001) hb) (Kd.R_below (zRr HO_359000) hb) (Kd.R_below (zRr HO_359001) hb) (Kd.R_below (zRr HO_372000) hb) (Kd.R_below (zRr HO_372001) hb) (Kd.R_below (zRr HO375) hb) (Kd.R_below (zRr HO378) hb) (zb BK325 hb) (zb BK326 hb) (zb BK349 hb) (zb BK358 hb) (zb BK371 hb) (zs hb); clear HO_350000 HO_350001 HO_359000 HO_359001 HO_372000 HO_372001 HO375 HO378 BK325 BK326 BK349 BK358 BK371 HB; obtain ⟨HO_350000, HO_350001, HO_359000, HO_359001, HO_372000, HO_372001, HO375, HO378, BK325, BK326, BK349, BK358, BK371, HB⟩ := n_; (try clear hb)))
           go_meet
           case rel => exact ⟨_, (true), zS, H', ⟨by have := HJ29.out; first | omega | exact Nat.le_refl _⟩, ⟨zRm HO_350000 (fun _ hk => ⟨hk.1, hk.2.1⟩)⟩, ⟨zRm HO_350001 (fun _ hk => ⟨hk.1, hk.2.1⟩)⟩, ⟨zRm HO_359000 (fun _ hk => ⟨hk.1.1, hk.1.2⟩)⟩, ⟨zRm HO_359001 (fun _ hk => ⟨hk.1.1, hk.1.2⟩)⟩, ⟨zRm HO_372000 (fun _ hk => ⟨hk.1, hk.2.1⟩)⟩, ⟨zRm HO_372001 (fun _ hk => ⟨hk.1, hk.2.1⟩)⟩, ⟨zP BK325⟩, ⟨zP BK326⟩, ⟨zP BK349⟩, ⟨zP BK358⟩, ⟨zP BK371⟩, ⟨zB⟩⟩
        case rest =>
         clear HC101
         (try clear c9); (try clear c16); (try clear c96); (try clear c99); (try clear hcz111_0); (try clear hcz111_1); (try clear hcz111_2); (try clear hcz111_3); (try clear hfz111_0); (try clear hfz111_1); (try clear hfz111_2); (try clear hfz111_3)
         obtain ⟨kq, x83_100, rfl, HA, HJ100, HO_350000, HO_350001, HO_359000, HO_359001, HO_372000, HO_372001, BK325, BK326, BK349, BK358, BK371, HB⟩ := hcut
         have hl359000_100 := (Kd.R_reads' HO_359000.out).1
         rw [hl359000_100] at HO_359000
         (try simp only [hl359000_100])
         (try simp only [hl359000_100] at BK325)
         (try simp only [hl359000_100] at BK326)
         (try simp only [hl359000_100] at BK349)
         (try simp only [hl359000_100] at BK358)
         (try simp only [hl359000_100] at BK371)
         (try simp only [hl359000_100] at HO_350000)
         (try simp only [hl359000_100] at HO_350001)
         (try simp only [hl359000_100] at HO_359001)
         (try simp only [hl359000_100] at HO_372000)
         (try simp only [hl359000_100] at HO_372001)
         have hl359001_100 := (Kd.R_reads' HO_359001.out).1
         rw [hl359001_100] at HO_359001
         (try simp only [hl359001_100])
         (try simp only [hl359001_100] at BK325)
         (try simp only [hl359001_100] at BK326)
         (try simp only [hl359001_100] at BK349)
         (try simp only [hl359001_100] at BK358)
         (try simp only [hl359001_100] at BK371)
         (try simp only [hl359001_100] at HO_350000)
         (try simp only [hl359001_100] at HO_350001)
         (try simp only [hl359001_100] at HO_359000)
         (try simp only [hl359001_100] at HO_372000)
         (try simp only [hl359001_100] at HO_372001)
         cases kq with
         | zero => exact absurd HA.out (by simp [laws_FnExactCellPut.j1])
         | succ kj100 =>
          have H := HA.out
          clear HA
          simp only [laws_FnExactCellPut.j1] at H
          by_cases c136 : x83_100 = true
          ·subst c136; replace H := zT H
           obtain rfl := Option.some.inj H
           go_wp2
           go_ret
           exact ⟨zE, zB⟩
          ·replace c136 := Bool.eq_false_iff.mpr c136; subst c136; replace H := zN H
           replace H := zO H; obtain ⟨⟨t386, t387, t388⟩, A137, H⟩ := H
           replace H : ((laws_heldState.f kj100 t387 t388 t368 t369 1).bind fun t389 => (if t389 < 0 then (some false) else (if t389 = t386 then ((laws_toState.f kj100 l0_0 l0_1 a0_2 a0_3).bind fun bt390 => ((laws_toVal.f a3_0 a3_1 a3_2).bind fun bt398 => ((impl_CellPut.f kj100 bt390.1 bt390.2.1 bt390.2.2.1 bt390.2.2.2 a1 a2 bt398.1 bt398.2.1 bt398.2.2).bind fun bt401 => ((laws_eqState.f kj100 bt401.1 bt401.2.1 bt401.2.2.1 bt401.2.2.2.1 t340 t343 t346 t347).bind fun t411 => (if t411 = true then (laws_FnExactCellPut.j2 kj100 t386 (bt401.2.2.2.2 != t348) t387 t388 t368 t369) else (laws_FnExactCellPut.j2 kj100 t386 true t387 t388 t368 t369)))))) else (some false)))) = some r := H
           replace H := zO H; obtain ⟨t389, A138, H⟩ := H
           replace H := zI H; obtain ⟨c139, H⟩ | ⟨c139, H⟩ := H
           ·have c139b0 := decide_eq_true c139
            clear c139
            obtain rfl := Option.some.inj H
            have := NB371_325.out
            have := NB325_371.out
            have := NB371_326.out
            have := NB326_371.out
            have := NB371_349.out
            have := NB349_371.out
            have := NB371_358.out
            have := NB358_371.out
            obtain ⟨_, _, _, _, _, _, _, _⟩ := zC4 BK371
            go_wp2_with (first | ((with_reducible refine gate_callee (f := 16) rfl ?_); refine zG (some 86) Try.func16 #[.agg #[.slice Ao68 t362.length co68, .slice Ao70 t365.length co70, .int .i64 t368, .int .i64 t369], .int .i64 1] ?_; (with_reducible refine (laws_markState.calls kj100 (fun k_ => some k_ = (.slice Ao68 t362.length co68 : Value).ownBlock) (.slice Ao68 t362.length co68) t362 (fun k_ => some k_ = (.slice Ao70 t365.length co70 : Value).ownBlock) (.slice Ao70 t365.length co70) t365 t368 t369 1 t386 t387 t388 w _ ?side1 ?side2 ?side3 A137.out).mono ?_); (case side1 => repeat (first | (with_reducible first | exact HB.out | apply below_alloc | apply pw_below_drewN | apply below_drew1 | refine below_set ?_ GE325.out | refine below_set ?_ GE326.out | refine below_set ?_ GE349.out | refine below_set ?_ GE358.out | refine below_set ?_ GE371.out) | exact HB.out)); (case side2 => exact Kd.R_tight rfl HO_372000.out); (case side3 => exact Kd.R_tight rfl HO_372001.out); rintro e w145 ⟨rfl, hy0, hy1, hb, hkp⟩; refine ⟨_, rfl, ?_⟩; have n_ := z12 (Kd.R_mono (ok' := fun k_ => some k_ ≠ (.slice Ao56 t383.length co56 : Value).ownBlock ∧ some k_ ≠ (.slice Ao68 t362.length co68 : Value).ownBlock) (Kd.R_keptB ((Kd.R_apart' HO_350000.out (Kd.R_typed HO_372001.out) (by decide))) hkp (fun k_ hk_ hs_ => Or.elim hs_ (fun e_ => (hk_.1.2) e_) (fun e_ => (hk_.2) e_))) (fun k_ hk_ => ⟨hk_.1.1.1, hk_.1.1.2⟩)) (Kd.R_mono (ok' := fun k_ => some k_ ≠ (.slice Ao61 t384.length co61 : Value).ownBlock ∧ some k_ ≠ (.slice Ao70 t365.length co70 : Value).ownBlock) (Kd.R_keptB ((Kd.R_apart' HO_350001.out (Kd.R_typed HO_372000.out) (by decide))) hkp (fun k_ hk_ hs_ => Or.elim hs_ (fun e_ => (hk_.2) e_) (fun e_ => (hk_.1.2) e_))) (fun k_ hk_ => ⟨hk_.1.1.1, hk_.1.1.2⟩)) (Kd.R_mono (ok' := fun k_ => some k_ ≠ (.slice Ao46 t340.length co46 : Value).ownBlock ∧ some k_ ≠ (.slice Ao68 t362.length co68 : Value).ownBlock) (Kd.R_keptB ((Kd.R_apart' HO_359000.out (Kd.R_typed HO_372001.out) (by decide))) hkp (fun k_ hk_ hs_ => Or.elim hs_ (fun e_ => (hk_.1.2) e_) (fun e_ => (hk_.2) e_))) (fun k_ hk_ => ⟨hk_.1.1.1, hk_.1.1.2⟩)) (Kd.R_mono (ok' := fun k_ => some k_ ≠ (.slice Ao48 t343.length co48 : Value).ownBlock ∧ some k_ ≠ (.slice Ao70 t365.length co70 : Value).ownBlock) (Kd.R_keptB ((Kd.R_apart' HO_359001.out (Kd.R_typed HO_372000.out) (by decide))) hkp (fun k_ hk_ hs_ => Or.elim hs_ (fun e_ => (hk_.2) e_) (fun e_ => (hk_.1.2) e_))) (fun k_ hk_ => ⟨hk_.1.1.1, hk_.1.1.2⟩)) (Kd.R_reok rfl hy0 (fun k_ e_ => HO_372000.out.1 k_ e_)) (Kd.R_reok rfl hy1 (fun k_ e_ => HO_372001.out.1 k_ e_)) (blk_kept (zP BK325) hkp (fun hs_ => Or.elim hs_ (fun e_ => (fun e_ => (Kd.R_ne HO_372000.out BK325.out (by decide)) e_) e_) (fun e_ => (fun e_ => (Kd.R_ne HO_372001.out BK325.out (by decide)) e_) e_))) (blk_kept (zP BK326) hkp (fun hs_ => Or.elim hs_ (fun e_ => (fun e_ => (Kd.R_ne HO_372000.out BK326.out (by decide)) e_) e_) (fun e_ => (fun e_ => (Kd.R_ne HO_372001.out BK326.out (by decide)) e_) e_))) (blk_kept (zP BK349) hkp (fun hs_ => Or.elim hs_ (fun e_ => (fun e_ => (Kd.R_ne HO_372000.out BK349.out (by decide)) e_) e_) (fun e_ => (fun e_ => (Kd.R_ne HO_372001.out BK349.out (by decide)) e_) e_))) (blk_kept (zP BK358) hkp (fun hs_ => Or.elim hs_ (fun e_ => (fun e_ => (Kd.R_ne HO_372000.out BK358.out (by decide)) e_) e_) (fun e_ => (fun e_ => (Kd.R_ne HO_372001.out BK358.out (by decide)) e_) e_))) (blk_kept (zP BK371) hkp (fun hs_ => Or.elim hs_ (fun e_ => (fun e_ => (Kd.R_ne HO_372000.out BK371.out (by decide)) e_) e_) (fun e_ => (fun e_ => (Kd.R_ne HO_372001.out BK371.out (by decide)) e_) e_))) (hb); clear HO_350000 HO_350001 HO_359000 HO_359001 HO_372000 HO_372001 BK325 BK326 BK349 BK358 BK371 HB; obtain ⟨HO_350000, HO_350001, HO_359000, HO_359001, HO_372000, HO_372001, BK325, BK326, BK349, BK358, BK371, HB⟩ := n_; (try clear hb); (try clear hkp); (try clear hy0); (try clear hy1); obtain ⟨_, _, _, _, _, _, _, _⟩ := zC4 BK371) | ((with_reducible refine gate_callee (f := 17) rfl ?_); refine goesL_ (some 89) rfl rfl Try.func17 (by kernel_rfl) rfl #[.agg #[.slice Ao68 t387.length co68, .slice Ao70 t388.length co70, .int .i64 t368, .int .i64 t369], .int .i64 1] rfl (by (try simp only [List.map_toArray, List.map_cons, List.map_nil]); first | done | (rw [show t387.length = t362.length from (Kd.R_reads' HO_372000.out).1.symm, show t388.length = t365.length from (Kd.R_reads' HO_372001.out).1.symm] <;> rfl) | rfl | (simp only [List.length_drop, List.length_take]; rfl)) ?_; (with_reducible refine (laws_heldState.calls kj100 _ _ t387 _ _ t388 t368 t369 1 t389 _ ?side1 ?side2 ?side3 ?side4 A138.out).mono ?_); (case side1 => exact zCc ((Kd.R_reads' HO_372000.out).2.2)); (case side2 => rw [show t387.length = t362.length from (Kd.R_reads' HO_372000.out).1.symm]; exact (Kd.R_reads' HO_372000.out).2.1); (case side3 => exact zCc ((Kd.R_reads' HO_372001.out).2.2)); (case side4 => rw [show t388.length = t365.length from (Kd.R_reads' HO_372001.out).1.symm]; exact (Kd.R_reads' HO_372001.out).2.1); rintro e w147 ⟨rfl, hb⟩; refine ⟨_, rfl, ?_⟩; have n_ := z12 (Kd.R_below (zRr HO_350000) hb) (Kd.R_below (zRr HO_350001) hb) (Kd.R_below (zRr HO_359000) hb) (Kd.R_below (zRr HO_359001) hb) (Kd.R_below (zRr HO_372000) hb) (Kd.R_below (zRr HO_372001) hb) (zb BK325 hb) (zb BK326 hb) (zb BK349 hb) (zb BK358 hb) (zb BK371 hb) (zs hb); clear HO_350000 HO_350001 HO_359000 HO_359001 HO_372000 HO_372001 BK325 BK326 BK349 BK358 BK371 HB; obtain ⟨HO_350000, HO_350001, HO_359000, HO_359001, HO_372000, HO_372001, BK325, BK326, BK349, BK358, BK371, HB⟩ := n_; (try clear hb)))
            go_ret
            exact ⟨zE, zB⟩
           ·have c139b0 := decide_eq_false c139
            clear c139
            replace H := zI H; obtain ⟨c148, H⟩ | ⟨c148, H⟩ := H
            ·have c148b0 := beq_iff_eq.mpr c148
             have c148b1 := bne_eq_false_iff_eq.mpr c148
             clear c148
             replace H := zO H; obtain ⟨⟨t390, t393, t396, t397⟩, A149, H⟩ := H
             replace H : ((laws_toVal.f a3_0 a3_1 a3_2).bind fun bt398 => ((impl_CellPut.f kj100 t390 t393 t396 t397 a1 a2 bt398.1 bt398.2.1 bt398.2.2).bind fun bt401 => ((laws_eqState.f kj100 bt401.1 bt401.2.1 bt401.2.2.1 bt401.2.2.2.1 t340 t343 t346 t347).bind fun t411 => (if t411 = true then (laws_FnExactCellPut.j2 kj100 t386 (bt401.2.2.2.2 != t348) t387 t388 t368 t369) else (laws_FnExactCellPut.j2 kj100 t386 true t387 t388 t368 t369))))) = some r := H
             replace H := zO H; obtain ⟨⟨t398, t399, t400⟩, A150, H⟩ := H
             replace H : ((impl_CellPut.f kj100 t390 t393 t396 t397 a1 a2 t398 t399 t400).bind fun bt401 => ((laws_eqState.f kj100 bt401.1 bt401.2.1 bt401.2.2.1 bt401.2.2.2.1 t340 t343 t346 t347).bind fun t411 => (if t411 = true then (laws_FnExactCellPut.j2 kj100 t386 (bt401.2.2.2.2 != t348) t387 t388 t368 t369) else (laws_FnExactCellPut.j2 kj100 t386 true t387 t388 t368 t369)))) = some r := H
             replace H := zO H; obtain ⟨⟨t401, t404, t407, t408, t409⟩, A151, H⟩ := H
             replace H : ((laws_eqState.f kj100 t401 t404 t407 t408 t340 t343 t346 t347).bind fun t411 => (if t411 = true then (laws_FnExactCellPut.j2 kj100 t386 (t409 != t348) t387 t388 t368 t369) else (laws_FnExactCellPut.j2 kj100 t386 true t387 t388 t368 t369))) = some r := H
             have HC152 := Aside0.mk H
             clear H
             have := NB371_325.out
             have := NB325_371.out
             have := NB371_326.out
             have := NB326_371.out
             have := NB371_349.out
             have := NB349_371.out
             have := NB371_358.out
             have := NB358_371.out
             obtain ⟨_, _, _, _, _, _, _, _⟩ := zC4 BK371
             try go_wp2_with (first | ((with_reducible refine gate_callee (f := 16) rfl ?_); refine zG (some 86) Try.func16 #[.agg #[.slice Ao68 t362.length co68, .slice Ao70 t365.length co70, .int .i64 t368, .int .i64 t369], .int .i64 1] ?_; (with_reducible refine (laws_markState.calls kj100 (fun k_ => some k_ = (.slice Ao68 t362.length co68 : Value).ownBlock) (.slice Ao68 t362.length co68) t362 (fun k_ => some k_ = (.slice Ao70 t365.length co70 : Value).ownBlock) (.slice Ao70 t365.length co70) t365 t368 t369 1 t386 t387 t388 w _ ?side1 ?side2 ?side3 A137.out).mono ?_); (case side1 => repeat (first | (with_reducible first | exact HB.out | apply below_alloc | apply pw_below_drewN | apply below_drew1 | refine below_set ?_ GE325.out | refine below_set ?_ GE326.out | refine below_set ?_ GE349.out | refine below_set ?_ GE358.out | refine below_set ?_ GE371.out) | exact HB.out)); (case side2 => exact Kd.R_tight rfl HO_372000.out); (case side3 => exact Kd.R_tight rfl HO_372001.out); rintro e w158 ⟨rfl, hy0, hy1, hb, hkp⟩; refine ⟨_, rfl, ?_⟩; have n_ := z12 (Kd.R_mono (ok' := fun k_ => some k_ ≠ (.slice Ao56 t383.length co56 : Value).ownBlock ∧ some k_ ≠ (.slice Ao68 t362.length co68 : Value).ownBlock) (Kd.R_keptB ((Kd.R_apart' HO_350000.out (Kd.R_typed HO_372001.out) (by decide))) hkp (fun k_ hk_ hs_ => Or.elim hs_ (fun e_ => (hk_.1.2) e_) (fun e_ => (hk_.2) e_))) (fun k_ hk_ => ⟨hk_.1.1.1, hk_.1.1.2⟩)) (Kd.R_mono (ok' := fun k_ => some k_ ≠ (.slice Ao61 t384.length co61 : Value).ownBlock ∧ some k_ ≠ (.slice Ao70 t365.length co70 : Value).ownBlock) (Kd.R_keptB ((Kd.R_apart' HO_350001.out (Kd.R_typed HO_372000.out) (by decide))) hkp (fun k_ hk_ hs_ => Or.elim hs_ (fun e_ => (hk_.2) e_) (fun e_ => (hk_.1.2) e_))) (fun k_ hk_ => ⟨hk_.1.1.1, hk_.1.1.2⟩)) (Kd.R_mono (ok' := fun k_ => some k_ ≠ (.slice Ao46 t340.length co46 : Value).ownBlock ∧ some k_ ≠ (.slice Ao68 t362.length co68 : Value).ownBlock) (Kd.R_keptB ((Kd.R_apart' HO_359000.out (Kd.R_typed HO_372001.out) (by decide))) hkp (fun k_ hk_ hs_ => Or.elim hs_ (fun e_ => (hk_.1.2) e_) (fun e_ => (hk_.2) e_))) (fun k_ hk_ => ⟨hk_.1.1.1, hk_.1.1.2⟩)) (Kd.R_mono (ok' := fun k_ => some k_ ≠ (.slice Ao48 t343.length co48 : Value).ownBlock ∧ some k_ ≠ (.slice Ao70 t365.length co70 : Value).ownBlock) (Kd.R_keptB ((Kd.R_apart' HO_359001.out (Kd.R_typed HO_372000.out) (by decide))) hkp (fun k_ hk_ hs_ => Or.elim hs_ (fun e_ => (hk_.2) e_) (fun e_ => (hk_.1.2) e_))) (fun k_ hk_ => ⟨hk_.1.1.1, hk_.1.1.2⟩)) (Kd.R_reok rfl hy0 (fun k_ e_ => HO_372000.out.1 k_ e_)) (Kd.R_reok rfl hy1 (fun k_ e_ => HO_372001.out.1 k_ e_)) (blk_kept (zP BK325) hkp (fun hs_ => Or.elim hs_ (fun e_ => (fun e_ => (Kd.R_ne HO_372000.out BK325.out (by decide)) e_) e_) (fun e_ => (fun e_ => (Kd.R_ne HO_372001.out BK325.out (by decide)) e_) e_))) (blk_kept (zP BK326) hkp (fun hs_ => Or.elim hs_ (fun e_ => (fun e_ => (Kd.R_ne HO_372000.out BK326.out (by decide)) e_) e_) (fun e_ => (fun e_ => (Kd.R_ne HO_372001.out BK326.out (by decide)) e_) e_))) (blk_kept (zP BK349) hkp (fun hs_ => Or.elim hs_ (fun e_ => (fun e_ => (Kd.R_ne HO_372000.out BK349.out (by decide)) e_) e_) (fun e_ => (fun e_ => (Kd.R_ne HO_372001.out BK349.out (by decide)) e_) e_))) (blk_kept (zP BK358) hkp (fun hs_ => Or.elim hs_ (fun e_ => (fun e_ => (Kd.R_ne HO_372000.out BK358.out (by decide)) e_) e_) (fun e_ => (fun e_ => (Kd.R_ne HO_372001.out BK358.out (by decide)) e_) e_))) (blk_kept (zP BK371) hkp (fun hs_ => Or.elim hs_ (fun e_ => (fun e_ => (Kd.R_ne HO_372000.out BK371.out (by decide)) e_) e_) (fun e_ => (fun e_ => (Kd.R_ne HO_372001.out BK371.out (by decide)) e_) e_))) (hb); clear HO_350000 HO_350001 HO_359000 HO_359001 HO_372000 HO_372001 BK325 BK326 BK349 BK358 BK371 HB; obtain ⟨HO_350000, HO_350001, HO_359000, HO_359001, HO_372000, HO_372001, BK325, BK326, BK349, BK358, BK371, HB⟩ := n_; (try clear hb); (try clear hkp); (try clear hy0); (try clear hy1); obtain ⟨_, _, _, _, _, _, _, _⟩ := zC4 BK371) | ((with_reducible refine gate_callee (f := 17) rfl ?_); refine goesL_ (some 89) rfl rfl Try.func17 (by kernel_rfl) rfl #[.agg #[.slice Ao68 t387.length co68, .slice Ao70 t388.length co70, .int .i64 t368, .int .i64 t369], .int .i64 1] rfl (by (try simp only [List.map_toArray, List.map_cons, List.map_nil]); first | done | (rw [show t387.length = t362.length from (Kd.R_reads' HO_372000.out).1.symm, show t388.length = t365.length from (Kd.R_reads' HO_372001.out).1.symm] <;> rfl) | rfl | (simp only [List.length_drop, List.length_take]; rfl)) ?_; (with_reducible refine (laws_heldState.calls kj100 _ _ t387 _ _ t388 t368 t369 1 t389 _ ?side1 ?side2 ?side3 ?side4 A138.out).mono ?_); (case side1 => exact zCc ((Kd.R_reads' HO_372000.out).2.2)); (case side2 => rw [show t387.length = t362.length from (Kd.R_reads' HO_372000.out).1.symm]; exact (Kd.R_reads' HO_372000.out).2.1); (case side3 => exact zCc ((Kd.R_reads' HO_372001.out).2.2)); (case side4 => rw [show t388.length = t365.length from (Kd.R_reads' HO_372001.out).1.symm]; exact (Kd.R_reads' HO_372001.out).2.1); rintro e w160 ⟨rfl, hb⟩; refine ⟨_, rfl, ?_⟩; have n_ := z12 (Kd.R_below (zRr HO_350000) hb) (Kd.R_below (zRr HO_350001) hb) (Kd.R_below (zRr HO_359000) hb) (Kd.R_below (zRr HO_359001) hb) (Kd.R_below (zRr HO_372000) hb) (Kd.R_below (zRr HO_372001) hb) (zb BK325 hb) (zb BK326 hb) (zb BK349 hb) (zb BK358 hb) (zb BK371 hb) (zs hb); clear HO_350000 HO_350001 HO_359000 HO_359001 HO_372000 HO_372001 BK325 BK326 BK349 BK358 BK371 HB; obtain ⟨HO_350000, HO_350001, HO_359000, HO_359001, HO_372000, HO_372001, BK325, BK326, BK349, BK358, BK371, HB⟩ := n_; (try clear hb)))
             have n_ := z12 (Kd.R_drew HO_350000.out) (Kd.R_drew HO_350001.out) (Kd.R_drew HO_359000.out) (Kd.R_drew HO_359001.out) (Kd.R_drew HO_372000.out) (Kd.R_drew HO_372001.out) (blk_drew BK325.out) (blk_drew BK326.out) (blk_drew BK349.out) (blk_drew BK358.out) (blk_drew BK371.out) (below_drew1 HB.out)
             clear HO_350000 HO_350001 HO_359000 HO_359001 HO_372000 HO_372001 BK325 BK326 BK349 BK358 BK371 HB
             obtain ⟨HO_350000, HO_350001, HO_359000, HO_359001, HO_372000, HO_372001, BK325, BK326, BK349, BK358, BK371, HB⟩ := n_
             refine start_ (n := 13) (S := fun w' => w'.cell? ⟨gb325, 0, none⟩ = some (.slice A0_0 l0_0.length c0_0) ∧ w'.cell? ⟨gb325, 1, none⟩ = some (.slice A0_1 l0_1.length c0_1) ∧ w'.cell? ⟨gb325, 2, none⟩ = some (.int .i64 a0_2) ∧ w'.cell? ⟨gb325, 3, none⟩ = some (.int .i64 a0_3) ∧ w'.cell? ⟨gb326, 0, none⟩ = some (.int .i64 a3_0) ∧ w'.cell? ⟨gb326, 1, none⟩ = some (.int .i64 a3_1) ∧ w'.cell? ⟨gb326, 2, none⟩ = some (.string a3_2)) (ds := []) #[false, false, false, false, false, false, false, false, false, false, false, false, false] (by kernel_rfl) rfl rfl ⟨(blk_cell BK325.out 0).trans rfl, (blk_cell BK325.out 1).trans rfl, (blk_cell BK325.out 2).trans rfl, (blk_cell BK325.out 3).trans rfl, (blk_cell BK326.out 0).trans rfl, (blk_cell BK326.out 1).trans rfl, (blk_cell BK326.out 2).trans rfl⟩ (fun hHeld => ?_); refine with_tabW laws_FnExactCellPut.tab29 laws_FnExactCellPut.bits29 (fun HT_ HW_ => ?_)
             generalize w160.drew = w161 at HO_350000 HO_350001 HO_359000 HO_359001 HO_372000 HO_372001 BK325 BK326 BK349 BK358 BK371 HB hHeld ⊢
             refine pure_ (i := 2) (N := some 98) (v := ?_) (a' := ?_) #[false, false, true, false, false, false, false, false, false, false, false, false, false] rfl rfl (any_of HT_.out (by kernel_rfl)) (fun _ _ _ h => h) (Or.inl ⟨by rfl, ?_⟩) ?_ ?_
             rotate_left
             ·intro w'; go_simp; with_reducible rfl
             rotate_left
             ·exact zY
             refine pure_ (i := 3) (N := some 99) (v := ?_) (a' := ?_) #[false, false, true, true, false, false, false, false, false, false, false, false, false] rfl rfl (any_of HT_.out (by kernel_rfl)) (fun _ _ _ h => h) (Or.inl ⟨by rfl, ?_⟩) ?_ ?_
             rotate_left
             ·intro w'; go_simp; with_reducible rfl
             rotate_left
             ·exact zY
             refine take_ (i := 0) (N := some 96) (v := ?_) (a' := ?_) #[true, false, true, true, false, false, false, false, false, false, false, false, false] rfl rfl (take_ofW HT_.out HW_.out (by kernel_rfl)) (fun _ _ _ h => h) (Or.inl ⟨by rfl, ?_⟩) hHeld ?_ ?_
             rotate_left
             ·rintro w' ⟨s0, s1, s2, s3, s4, s5, s6⟩
              go_simp
              with_reducible rfl
             rotate_left
             ·exact zY
             refine take_ (i := 4) (N := some 100) (v := ?_) (a' := ?_) #[true, false, true, true, true, false, false, false, false, false, false, false, false] rfl rfl (take_ofW HT_.out HW_.out (by kernel_rfl)) (fun _ _ _ h => h) (Or.inl ⟨by rfl, ?_⟩) hHeld ?_ ?_
             rotate_left
             ·rintro w' ⟨s0, s1, s2, s3, s4, s5, s6⟩
              go_simp
              with_reducible rfl
             rotate_left
             ·exact zY
             refine join_ (σ := Value × Value × Value × Value × Nat) 2 #[true, true, true, true, true, true, true, true, true, true, true, false, false] (fun s_ => [(97, .agg #[s_.1, s_.2.1, .int .i64 t396, .int .i64 t397]), (101, .agg #[.int .i64 t398, .int .i64 t399, .string t400]), (102, .tuple #[.agg #[s_.2.2.1, s_.2.2.2.1, .int .i64 t407, .int .i64 t408], .bool t409]), (18, .pointer (some ⟨s_.2.2.2.2, 0, none⟩)), (95, .tuple #[.agg #[s_.2.2.1, s_.2.2.2.1, .int .i64 t407, .int .i64 t408], .bool t409]), (103, .agg #[s_.2.2.1, s_.2.2.2.1, .int .i64 t407, .int .i64 t408]), (104, .bool t409)]) (fun s_ w' => (w'.cell? ⟨gb325, 0, none⟩ = some (.slice A0_0 l0_0.length c0_0) ∧ w'.cell? ⟨gb325, 1, none⟩ = some (.slice A0_1 l0_1.length c0_1) ∧ w'.cell? ⟨gb325, 2, none⟩ = some (.int .i64 a0_2) ∧ w'.cell? ⟨gb325, 3, none⟩ = some (.int .i64 a0_3) ∧ w'.cell? ⟨gb326, 0, none⟩ = some (.int .i64 a3_0) ∧ w'.cell? ⟨gb326, 1, none⟩ = some (.int .i64 a3_1) ∧ w'.cell? ⟨gb326, 2, none⟩ = some (.string a3_2)) ∧ (Kd.R k46 46 w' w.heap.size (fun k_ => some k_ ≠ (s_.2.2.1 : Value).ownBlock ∧ some k_ ≠ (.slice Ao46 t340.length co46 : Value).ownBlock ∧ some k_ ≠ (.slice Ao56 t383.length co56 : Value).ownBlock ∧ some k_ ≠ (.slice Ao68 t362.length co68 : Value).ownBlock) s_.1 t390) ∧ (Kd.R k58 58 w' w.heap.size (fun k_ => some k_ ≠ (s_.2.2.2.1 : Value).ownBlock ∧ some k_ ≠ (.slice Ao48 t343.length co48 : Value).ownBlock ∧ some k_ ≠ (.slice Ao61 t384.length co61 : Value).ownBlock ∧ some k_ ≠ (.slice Ao70 t365.length co70 : Value).ownBlock) s_.2.1 t393) ∧ (Kd.R k46 46 w' w.heap.size (fun k_ => some k_ ≠ (s_.1 : Value).ownBlock ∧ some k_ ≠ (.slice Ao46 t340.length co46 : Value).ownBlock ∧ some k_ ≠ (.slice Ao56 t383.length co56 : Value).ownBlock ∧ some k_ ≠ (.slice Ao68 t362.length co68 : Value).ownBlock) s_.2.2.1 t401) ∧ (Kd.R k58 58 w' w.heap.size (fun k_ => some k_ ≠ (s_.2.1 : Value).ownBlock ∧ some k_ ≠ (.slice Ao48 t343.length co48 : Value).ownBlock ∧ some k_ ≠ (.slice Ao61 t384.length co61 : Value).ownBlock ∧ some k_ ≠ (.slice Ao70 t365.length co70 : Value).ownBlock) s_.2.2.2.1 t404) ∧ (Kd.R k46 46 w' w.heap.size (fun k_ => some k_ ≠ (s_.1 : Value).ownBlock ∧ some k_ ≠ (s_.2.2.1 : Value).ownBlock ∧ some k_ ≠ (.slice Ao56 t383.length co56 : Value).ownBlock ∧ some k_ ≠ (.slice Ao68 t362.length co68 : Value).ownBlock) (.slice Ao46 t340.length co46) t340) ∧ (Kd.R k58 58 w' w.heap.size (fun k_ => some k_ ≠ (s_.2.1 : Value).ownBlock ∧ some k_ ≠ (s_.2.2.2.1 : Value).ownBlock ∧ some k_ ≠ (.slice Ao61 t384.length co61 : Value).ownBlock ∧ some k_ ≠ (.slice Ao70 t365.length co70 : Value).ownBlock) (.slice Ao48 t343.length co48) t343) ∧ (Kd.R k46 46 w' w.heap.size (fun k_ => some k_ ≠ (s_.1 : Value).ownBlock ∧ some k_ ≠ (s_.2.2.1 : Value).ownBlock ∧ some k_ ≠ (.slice Ao46 t340.length co46 : Value).ownBlock ∧ some k_ ≠ (.slice Ao68 t362.length co68 : Value).ownBlock) (.slice Ao56 t383.length co56) t383) ∧ (Kd.R k58 58 w' w.heap.size (fun k_ => some k_ ≠ (s_.2.1 : Value).ownBlock ∧ some k_ ≠ (s_.2.2.2.1 : Value).ownBlock ∧ some k_ ≠ (.slice Ao48 t343.length co48 : Value).ownBlock ∧ some k_ ≠ (.slice Ao70 t365.length co70 : Value).ownBlock) (.slice Ao61 t384.length co61) t384) ∧ (Kd.R k46 46 w' w.heap.size (fun k_ => some k_ ≠ (s_.1 : Value).ownBlock ∧ some k_ ≠ (s_.2.2.1 : Value).ownBlock ∧ some k_ ≠ (.slice Ao46 t340.length co46 : Value).ownBlock ∧ some k_ ≠ (.slice Ao56 t383.length co56 : Value).ownBlock) (.slice Ao68 t362.length co68) t387) ∧ (Kd.R k58 58 w' w.heap.size (fun k_ => some k_ ≠ (s_.2.1 : Value).ownBlock ∧ some k_ ≠ (s_.2.2.2.1 : Value).ownBlock ∧ some k_ ≠ (.slice Ao48 t343.length co48 : Value).ownBlock ∧ some k_ ≠ (.slice Ao61 t384.length co61 : Value).ownBlock) (.slice Ao70 t365.length co70) t388) ∧ (w'.heap[gb325]? = some (.cells #[.slice A0_0 l0_0.length c0_0, .slice A0_1 l0_1.length c0_1, .int .i64 a0_2, .int .i64 a0_3] 30 (0, 0))) ∧ (w'.heap[gb326]? = some (.cells #[.int .i64 a3_0, .int .i64 a3_1, .string a3_2] 42 (0, 0))) ∧ (w'.heap[gb349]? = some (.cells #[.slice Ao46 t340.length co46, .slice Ao48 t343.length co48, .int .i64 t346, .int .i64 t347] 35 (0, 0))) ∧ (w'.heap[gb358]? = some (.cells #[.slice Ao56 t383.length co56, .slice Ao61 t384.length co61, .int .i64 t356, .int .i64 t357] 35 (0, 0))) ∧ (w'.heap[gb371]? = some (.cells #[.slice Ao68 t362.length co68, .slice Ao70 t365.length co70, .int .i64 t368, .int .i64 t369] 35 (0, 0))) ∧ (w'.heap[s_.2.2.2.2]? = some (.cells #[.slice none 0 0, .slice none 0 0, .int .i64 0, .int .i64 0] 35 (0, 0))) ∧ (w.heap.size ≤ s_.2.2.2.2) ∧ (w.heap.size ≤ s_.2.2.2.2) ∧ (gb325 ≠ s_.2.2.2.2) ∧ (s_.2.2.2.2 ≠ gb325) ∧ (gb326 ≠ s_.2.2.2.2) ∧ (s_.2.2.2.2 ≠ gb326) ∧ (gb349 ≠ s_.2.2.2.2) ∧ (s_.2.2.2.2 ≠ gb349) ∧ (gb358 ≠ s_.2.2.2.2) ∧ (s_.2.2.2.2 ≠ gb358) ∧ (gb371 ≠ s_.2.2.2.2) ∧ (s_.2.2.2.2 ≠ gb371) ∧ (Below w.heap.size w w')) ?_ ?_
             rotate_left
             ·intro hCont
              refine two_ (i := 1) (j := 10) (Ni := some 97) (Nj := some 18) #[true, true, true, true, true, false, false, false, false, false, false, false, false] #[true, false, true, true, true, false, false, false, false, false, true, false, false] rfl rfl rfl rfl (two_of HT_.out (by kernel_rfl)) (by decide) (by decide) (fun K hK => ?_) (fun K hK => ?_)
              ·skip
               refine goes_ Try.func13 (by kernel_rfl) rfl #[.agg #[.slice A0_0 l0_0.length c0_0, .slice A0_1 l0_1.length c0_1, .int .i64 a0_2, .int .i64 a0_3]] (by rfl) rfl rfl zA ?_
               with_reducible refine (laws_toState.calls kj100 _ _ l0_0 _ _ l0_1 a0_2 a0_3 t390 t393 t396 t397 _ ?side1 ?side2 ?side3 ?side4 A149.out).mono ?_
               (case side1 => exact zCc ((Kd.C_below HR0_0.out HB.out)))
               (case side2 => exact HC0_0.out)
               (case side3 => exact zCc ((Kd.C_below HR0_1.out HB.out)))
               (case side4 => exact HC0_1.out)
               rintro e w162 ⟨v391, v394, rfl, ho0, ho1, hb⟩
               refine ⟨_, rfl, ?_⟩
               have n_ := z14 (Kd.R_elder' (zRr HO_350000) (Kd.R_base ho0) hb) (Kd.R_elder' (zRr HO_350001) (Kd.R_base ho1) hb) (Kd.R_elder' (zRr HO_359000) (Kd.R_base ho0) hb) (Kd.R_elder' (zRr HO_359001) (Kd.R_base ho1) hb) (Kd.R_elder' (zRr HO_372000) (Kd.R_base ho0) hb) (Kd.R_elder' (zRr HO_372001) (Kd.R_base ho1) hb) (Kd.R_lower (Kd.R_new' (Kd.R_new' (Kd.R_new' ho0 (Kd.R_lt (zRr HO_350000))) (Kd.R_lt (zRr HO_359000))) (Kd.R_lt (zRr HO_372000))) (below_size zB)) (Kd.R_lower (Kd.R_new' (Kd.R_new' (Kd.R_new' ho1 (Kd.R_lt (zRr HO_350001))) (Kd.R_lt (zRr HO_359001))) (Kd.R_lt (zRr HO_372001))) (below_size zB)) (zb BK325 hb) (zb BK326 hb) (zb BK349 hb) (zb BK358 hb) (zb BK371 hb) (zs hb)
               clear HO_350000 HO_350001 HO_359000 HO_359001 HO_372000 HO_372001 BK325 BK326 BK349 BK358 BK371 HB
               obtain ⟨HO_350000, HO_350001, HO_359000, HO_359001, HO_372000, HO_372001, HO392, HO395, BK325, BK326, BK349, BK358, BK371, HB⟩ := n_
               (try clear hb)
               (try clear hb2)
               (try clear hk)
               (try clear hi)
               (try clear ho0)
               (try clear ho1)
               refine hK.out _ _ ⟨(blk_cell BK325.out 0).trans rfl, (blk_cell BK325.out 1).trans rfl, (blk_cell BK325.out 2).trans rfl, (blk_cell BK325.out 3).trans rfl, (blk_cell BK326.out 0).trans rfl, (blk_cell BK326.out 1).trans rfl, (blk_cell BK326.out 2).trans rfl⟩ (fun hHeld => ?_)
               clear hK K
               refine norm_ (a' := ?_) ?_ ?_
               rotate_left
               ·show Act.put _ (some 97) _ = _
                simp only [Act.put, List.setIfInBounds_toArray, List.set_cons_zero, List.set_cons_succ, i64_w, i32_w]
                rfl
               refine two_ (i := 5) (j := 10) (Ni := some 101) (Nj := some 18) #[true, true, true, true, true, true, false, false, false, false, false, false, false] #[true, true, true, true, true, false, false, false, false, false, true, false, false] rfl rfl rfl rfl (two_of HT_.out (by kernel_rfl)) (by decide) (by decide) (fun K hK => ?_) (fun K hK => ?_)
               ·skip
                refine goes_ Try.func20 (by kernel_rfl) rfl #[.agg #[.int .i64 a3_0, .int .i64 a3_1, .string a3_2]] (by rfl) rfl rfl zA ?_
                with_reducible refine (laws_toVal.calls a3_0 a3_1 a3_2 t398 t399 t400 _ A150.out).mono ?_
                rintro e w163 ⟨rfl, hb⟩
                refine ⟨_, rfl, ?_⟩
                have n_ := z14 (Kd.R_below (zRr HO_350000) hb) (Kd.R_below (zRr HO_350001) hb) (Kd.R_below (zRr HO_359000) hb) (Kd.R_below (zRr HO_359001) hb) (Kd.R_below (zRr HO_372000) hb) (Kd.R_below (zRr HO_372001) hb) (Kd.R_below (zRr HO392) hb) (Kd.R_below (zRr HO395) hb) (zb BK325 hb) (zb BK326 hb) (zb BK349 hb) (zb BK358 hb) (zb BK371 hb) (zs hb)
                clear HO_350000 HO_350001 HO_359000 HO_359001 HO_372000 HO_372001 HO392 HO395 BK325 BK326 BK349 BK358 BK371 HB
                obtain ⟨HO_350000, HO_350001, HO_359000, HO_359001, HO_372000, HO_372001, HO392, HO395, BK325, BK326, BK349, BK358, BK371, HB⟩ := n_
                (try clear hb)
                (try clear hb2)
                (try clear hk)
                (try clear hi)
                obtain ⟨Ao164, co164, eo164⟩ := Kd.R_slice HO392.out
                (first | subst eo164 | (injection eo164 with f1_ f2_ f3_; have f4_ := f1_.symm; have f5_ := f3_.symm; clear f1_ f2_ f3_; subst f4_; subst f5_))
                obtain ⟨Ao165, co165, eo165⟩ := Kd.R_slice HO395.out
                (first | subst eo165 | (injection eo165 with f1_ f2_ f3_; have f4_ := f1_.symm; have f5_ := f3_.symm; clear f1_ f2_ f3_; subst f4_; subst f5_))
                refine hK.out _ _ ⟨(blk_cell BK325.out 0).trans rfl, (blk_cell BK325.out 1).trans rfl, (blk_cell BK325.out 2).trans rfl, (blk_cell BK325.out 3).trans rfl, (blk_cell BK326.out 0).trans rfl, (blk_cell BK326.out 1).trans rfl, (blk_cell BK326.out 2).trans rfl⟩ (fun hHeld => ?_)
                clear hK K
                refine norm_ (a' := ?_) ?_ ?_
                rotate_left
                ·show Act.put _ (some 101) _ = _
                 simp only [Act.put, List.setIfInBounds_toArray, List.set_cons_zero, List.set_cons_succ, i64_w, i32_w]
                 rfl
                refine two_ (i := 6) (j := 10) (Ni := some 102) (Nj := some 18) #[true, true, true, true, true, true, true, false, false, false, false, false, false] #[true, true, true, true, true, true, false, false, false, false, true, false, false] rfl rfl rfl rfl (two_of HT_.out (by kernel_rfl)) (by decide) (by decide) (fun K hK => ?_) (fun K hK => ?_)
                ·skip
                 refine goes_ Try.func21 (by kernel_rfl) rfl #[.agg #[.slice Ao164 t390.length co164, .slice Ao165 t393.length co165, .int .i64 t396, .int .i64 t397], .int .i64 a1, .string a2, .agg #[.int .i64 t398, .int .i64 t399, .string t400]] (by rfl) rfl rfl zA ?_
                 with_reducible refine (impl_CellPut.calls kj100 _ _ t390 _ _ t393 t396 t397 a1 a2 t398 t399 t400 t401 t404 t407 t408 t409 _ ?side1 ?side2 ?side3 ?side4 A151.out).mono ?_
                 (case side1 => exact zCc ((Kd.R_reads' HO392.out).2.2))
                 (case side2 => exact (Kd.R_reads' HO392.out).2.1)
                 (case side3 => exact zCc ((Kd.R_reads' HO395.out).2.2))
                 (case side4 => exact (Kd.R_reads' HO395.out).2.1)
                 rintro e w166 ⟨v402, v405, rfl, ho0, ho1, hb⟩
                 refine ⟨_, rfl, ?_⟩
                 have n_ := z16 (Kd.R_elder' (zRr HO_350000) (Kd.R_base ho0) hb) (Kd.R_elder' (zRr HO_350001) (Kd.R_base ho1) hb) (Kd.R_elder' (zRr HO_359000) (Kd.R_base ho0) hb) (Kd.R_elder' (zRr HO_359001) (Kd.R_base ho1) hb) (Kd.R_elder' (zRr HO_372000) (Kd.R_base ho0) hb) (Kd.R_elder' (zRr HO_372001) (Kd.R_base ho1) hb) (Kd.R_elder' (zRr HO392) (Kd.R_base ho0) hb) (Kd.R_elder' (zRr HO395) (Kd.R_base ho1) hb) (Kd.R_lower (Kd.R_new' (Kd.R_new' (Kd.R_new' (Kd.R_new' ho0 (Kd.R_lt (zRr HO_350000))) (Kd.R_lt (zRr HO_359000))) (Kd.R_lt (zRr HO_372000))) (Kd.R_lt (zRr HO392))) (below_size zB)) (Kd.R_lower (Kd.R_new' (Kd.R_new' (Kd.R_new' (Kd.R_new' ho1 (Kd.R_lt (zRr HO_350001))) (Kd.R_lt (zRr HO_359001))) (Kd.R_lt (zRr HO_372001))) (Kd.R_lt (zRr HO395))) (below_size zB)) (zb BK325 hb) (zb BK326 hb) (zb BK349 hb) (zb BK358 hb) (zb BK371 hb) (zs hb)
                 clear HO_350000 HO_350001 HO_359000 HO_359001 HO_372000 HO_372001 HO392 HO395 BK325 BK326 BK349 BK358 BK371 HB
                 obtain ⟨HO_350000, HO_350001, HO_359000, HO_359001, HO_372000, HO_372001, HO392, HO395, HO403, HO406, BK325, BK326, BK349, BK358, BK371, HB⟩ := n_
                 (try clear hb)
                 (try clear hb2)
                 (try clear hk)
                 (try clear hi)
                 (try clear ho0)
                 (try clear ho1)
                 refine hK.out _ _ ⟨(blk_cell BK325.out 0).trans rfl, (blk_cell BK325.out 1).trans rfl, (blk_cell BK325.out 2).trans rfl, (blk_cell BK325.out 3).trans rfl, (blk_cell BK326.out 0).trans rfl, (blk_cell BK326.out 1).trans rfl, (blk_cell BK326.out 2).trans rfl⟩ (fun hHeld => ?_)
                 clear hK K
                 refine norm_ (a' := ?_) ?_ ?_
                 rotate_left
                 ·show Act.put _ (some 102) _ = _
                  simp only [Act.put, List.setIfInBounds_toArray, List.set_cons_zero, List.set_cons_succ, i64_w, i32_w]
                  rfl
                 refine pure_ (i := 7) (N := some 95) (v := ?_) (a' := ?_) #[true, true, true, true, true, true, true, true, false, false, false, false, false] rfl rfl (any_of HT_.out (by kernel_rfl)) (fun _ _ _ h => h) (Or.inl ⟨by rfl, ?_⟩) ?_ ?_
                 rotate_left
                 ·intro w'; go_simp; with_reducible rfl
                 rotate_left
                 ·exact zY
                 refine pure_ (i := 8) (N := some 103) (v := ?_) (a' := ?_) #[true, true, true, true, true, true, true, true, true, false, false, false, false] rfl rfl (any_of HT_.out (by kernel_rfl)) (fun _ _ _ h => h) (Or.inl ⟨by rfl, ?_⟩) ?_ ?_
                 rotate_left
                 ·intro w'; go_simp; with_reducible rfl
                 rotate_left
                 ·exact zY
                 refine pure_ (i := 9) (N := some 104) (v := ?_) (a' := ?_) #[true, true, true, true, true, true, true, true, true, true, false, false, false] rfl rfl (any_of HT_.out (by kernel_rfl)) (fun _ _ _ h => h) (Or.inl ⟨by rfl, ?_⟩) ?_ ?_
                 rotate_left
                 ·intro w'; go_simp; with_reducible rfl
                 rotate_left
                 ·exact zY
                 refine one_ (i := 10) (N := some 18) #[true, true, true, true, true, true, true, true, true, true, true, false, false] rfl rfl (one_of HT_.out (by kernel_rfl)) (by decide) (fun K hK => ?_)
                 refine box_step ?hg (N := 18) ?hd (cs := #[.slice none 0 0, .slice none 0 0, .int .i64 0, .int .i64 0]) (t := 35) ?hr ?_; (case hd => rfl); (case hg => rfl); (case hr => first | (go_simp; done) | (go_simp; rfl))
                 intro gb410 hg w167 hbox hb
                 have n_ := z29 (Kd.R_below (zRr HO_350000) hb) (Kd.R_below (zRr HO_350001) hb) (Kd.R_below (zRr HO_359000) hb) (Kd.R_below (zRr HO_359001) hb) (Kd.R_below (zRr HO_372000) hb) (Kd.R_below (zRr HO_372001) hb) (Kd.R_below (zRr HO392) hb) (Kd.R_below (zRr HO395) hb) (Kd.R_below (zRr HO403) hb) (Kd.R_below (zRr HO406) hb) (zb BK325 hb) (zb BK326 hb) (zb BK349 hb) (zb BK358 hb) (zb BK371 hb) (zs hb) (hbox) (zl hg) (zl hg) (zn BK325 hg) (zm BK325 hg) (zn BK326 hg) (zm BK326 hg) (zn BK349 hg) (zm BK349 hg) (zn BK358 hg) (zm BK358 hg) (zn BK371 hg) (zm BK371 hg)
                 clear HO_350000 HO_350001 HO_359000 HO_359001 HO_372000 HO_372001 HO392 HO395 HO403 HO406 BK325 BK326 BK349 BK358 BK371 HB
                 obtain ⟨HO_350000, HO_350001, HO_359000, HO_359001, HO_372000, HO_372001, HO392, HO395, HO403, HO406, BK325, BK326, BK349, BK358, BK371, HB, BK410, GW410, GE410, NB325_410, NB410_325, NB326_410, NB410_326, NB349_410, NB410_349, NB358_410, NB410_358, NB371_410, NB410_371⟩ := n_
                 clear hb hbox hg
                 refine hK.out _ _ ⟨(blk_cell BK325.out 0).trans rfl, (blk_cell BK325.out 1).trans rfl, (blk_cell BK325.out 2).trans rfl, (blk_cell BK325.out 3).trans rfl, (blk_cell BK326.out 0).trans rfl, (blk_cell BK326.out 1).trans rfl, (blk_cell BK326.out 2).trans rfl⟩ (fun hHeld => ?_)
                 clear hK K
                 refine norm_ (a' := ?_) ?_ ?_
                 rotate_left
                 ·show Act.put _ (some 18) _ = _
                  simp only [Act.put, List.setIfInBounds_toArray, List.set_cons_zero, List.set_cons_succ, i64_w, i32_w]
                  rfl
                 exact norm_ (by simp only [putAll, Act.put, List.setIfInBounds_toArray, List.set_cons_zero, List.set_cons_succ]) (hCont (.slice Ao164 t390.length co164, .slice Ao165 t393.length co165, v402, v405, gb410) _ ⟨hHeld, (zRm HO392 (fun _ hk => ⟨hk.2, ⟨hk.1.1.1.2, ⟨hk.1.1.2, hk.1.2⟩⟩⟩)), (zRm HO395 (fun _ hk => ⟨hk.2, ⟨hk.1.1.1.2, ⟨hk.1.1.2, hk.1.2⟩⟩⟩)), (zRm HO403 (fun _ hk => ⟨hk.2, ⟨hk.1.1.1.2, ⟨hk.1.1.2, hk.1.2⟩⟩⟩)), (zRm HO406 (fun _ hk => ⟨hk.2, ⟨hk.1.1.1.2, ⟨hk.1.1.2, hk.1.2⟩⟩⟩)), (zRm HO_350000 (fun _ hk => ⟨hk.1.2, ⟨hk.2, ⟨hk.1.1.1, hk.1.1.2⟩⟩⟩)), (zRm HO_350001 (fun _ hk => ⟨hk.1.2, ⟨hk.2, ⟨hk.1.1.1, hk.1.1.2⟩⟩⟩)), (zRm HO_359000 (fun _ hk => ⟨hk.1.2, ⟨hk.2, ⟨hk.1.1.1, hk.1.1.2⟩⟩⟩)), (zRm HO_359001 (fun _ hk => ⟨hk.1.2, ⟨hk.2, ⟨hk.1.1.1, hk.1.1.2⟩⟩⟩)), (zRm HO_372000 (fun _ hk => ⟨hk.1.2, ⟨hk.2, ⟨hk.1.1.1, hk.1.1.2⟩⟩⟩)), (zRm HO_372001 (fun _ hk => ⟨hk.1.2, ⟨hk.2, ⟨hk.1.1.1, hk.1.1.2⟩⟩⟩)), (zP BK325), (zP BK326), (zP BK349), (zP BK358), (zP BK371), (zP BK410), GW410.out, GE410.out, NB325_410.out, NB410_325.out, NB326_410.out, NB410_326.out, NB349_410.out, NB410_349.out, NB358_410.out, NB410_358.out, NB371_410.out, NB410_371.out, zB⟩)
                ·skip
                 refine box_step ?hg (N := 18) ?hd (cs := #[.slice none 0 0, .slice none 0 0, .int .i64 0, .int .i64 0]) (t := 35) ?hr ?_; (case hd => rfl); (case hg => rfl); (case hr => first | (go_simp; done) | (go_simp; rfl))
                 intro gb410 hg w164 hbox hb
                 have n_ := z27 (Kd.R_below (zRr HO_350000) hb) (Kd.R_below (zRr HO_350001) hb) (Kd.R_below (zRr HO_359000) hb) (Kd.R_below (zRr HO_359001) hb) (Kd.R_below (zRr HO_372000) hb) (Kd.R_below (zRr HO_372001) hb) (Kd.R_below (zRr HO392) hb) (Kd.R_below (zRr HO395) hb) (zb BK325 hb) (zb BK326 hb) (zb BK349 hb) (zb BK358 hb) (zb BK371 hb) (zs hb) (hbox) (zl hg) (zl hg) (zn BK325 hg) (zm BK325 hg) (zn BK326 hg) (zm BK326 hg) (zn BK349 hg) (zm BK349 hg) (zn BK358 hg) (zm BK358 hg) (zn BK371 hg) (zm BK371 hg)
                 clear HO_350000 HO_350001 HO_359000 HO_359001 HO_372000 HO_372001 HO392 HO395 BK325 BK326 BK349 BK358 BK371 HB
                 obtain ⟨HO_350000, HO_350001, HO_359000, HO_359001, HO_372000, HO_372001, HO392, HO395, BK325, BK326, BK349, BK358, BK371, HB, BK410, GW410, GE410, NB325_410, NB410_325, NB326_410, NB410_326, NB349_410, NB410_349, NB358_410, NB410_358, NB371_410, NB410_371⟩ := n_
                 clear hb hbox hg
                 obtain ⟨Ao165, co165, eo165⟩ := Kd.R_slice HO392.out
                 (first | subst eo165 | (injection eo165 with f1_ f2_ f3_; have f4_ := f1_.symm; have f5_ := f3_.symm; clear f1_ f2_ f3_; subst f4_; subst f5_))
                 obtain ⟨Ao166, co166, eo166⟩ := Kd.R_slice HO395.out
                 (first | subst eo166 | (injection eo166 with f1_ f2_ f3_; have f4_ := f1_.symm; have f5_ := f3_.symm; clear f1_ f2_ f3_; subst f4_; subst f5_))
                 refine hK.out _ _ ⟨(blk_cell BK325.out 0).trans rfl, (blk_cell BK325.out 1).trans rfl, (blk_cell BK325.out 2).trans rfl, (blk_cell BK325.out 3).trans rfl, (blk_cell BK326.out 0).trans rfl, (blk_cell BK326.out 1).trans rfl, (blk_cell BK326.out 2).trans rfl⟩ (fun hHeld => ?_)
                 clear hK K
                 refine norm_ (a' := ?_) ?_ ?_
                 rotate_left
                 ·show Act.put _ (some 18) _ = _
                  simp only [Act.put, List.setIfInBounds_toArray, List.set_cons_zero, List.set_cons_succ, i64_w, i32_w]
                  rfl
                 refine one_ (i := 6) (N := some 102) #[true, true, true, true, true, true, true, false, false, false, true, false, false] rfl rfl (one_of HT_.out (by kernel_rfl)) (by decide) (fun K hK => ?_)
                 refine goes_ Try.func21 (by kernel_rfl) rfl #[.agg #[.slice Ao165 t390.length co165, .slice Ao166 t393.length co166, .int .i64 t396, .int .i64 t397], .int .i64 a1, .string a2, .agg #[.int .i64 t398, .int .i64 t399, .string t400]] (by rfl) rfl rfl zA ?_
                 with_reducible refine (impl_CellPut.calls kj100 _ _ t390 _ _ t393 t396 t397 a1 a2 t398 t399 t400 t401 t404 t407 t408 t409 _ ?side1 ?side2 ?side3 ?side4 A151.out).mono ?_
                 (case side1 => exact zCc ((Kd.R_reads' HO392.out).2.2))
                 (case side2 => exact (Kd.R_reads' HO392.out).2.1)
                 (case side3 => exact zCc ((Kd.R_reads' HO395.out).2.2))
                 (case side4 => exact (Kd.R_reads' HO395.out).2.1)
                 rintro e w167 ⟨v402, v405, rfl, ho0, ho1, hb⟩
                 refine ⟨_, rfl, ?_⟩
                 have n_ := z17 (Kd.R_elder' (zRr HO_350000) (Kd.R_base ho0) hb) (Kd.R_elder' (zRr HO_350001) (Kd.R_base ho1) hb) (Kd.R_elder' (zRr HO_359000) (Kd.R_base ho0) hb) (Kd.R_elder' (zRr HO_359001) (Kd.R_base ho1) hb) (Kd.R_elder' (zRr HO_372000) (Kd.R_base ho0) hb) (Kd.R_elder' (zRr HO_372001) (Kd.R_base ho1) hb) (Kd.R_elder' (zRr HO392) (Kd.R_base ho0) hb) (Kd.R_elder' (zRr HO395) (Kd.R_base ho1) hb) (Kd.R_lower (Kd.R_new' (Kd.R_new' (Kd.R_new' (Kd.R_new' ho0 (Kd.R_lt (zRr HO_350000))) (Kd.R_lt (zRr HO_359000))) (Kd.R_lt (zRr HO_372000))) (Kd.R_lt (zRr HO392))) (below_size zB)) (Kd.R_lower (Kd.R_new' (Kd.R_new' (Kd.R_new' (Kd.R_new' ho1 (Kd.R_lt (zRr HO_350001))) (Kd.R_lt (zRr HO_359001))) (Kd.R_lt (zRr HO_372001))) (Kd.R_lt (zRr HO395))) (below_size zB)) (zb BK325 hb) (zb BK326 hb) (zb BK349 hb) (zb BK358 hb) (zb BK371 hb) (zb BK410 hb) (zs hb)
                 clear HO_350000 HO_350001 HO_359000 HO_359001 HO_372000 HO_372001 HO392 HO395 BK325 BK326 BK349 BK358 BK371 BK410 HB
                 obtain ⟨HO_350000, HO_350001, HO_359000, HO_359001, HO_372000, HO_372001, HO392, HO395, HO403, HO406, BK325, BK326, BK349, BK358, BK371, BK410, HB⟩ := n_
                 (try clear hb)
                 (try clear hb2)
                 (try clear hk)
                 (try clear hi)
                 (try clear ho0)
                 (try clear ho1)
                 refine hK.out _ _ ⟨(blk_cell BK325.out 0).trans rfl, (blk_cell BK325.out 1).trans rfl, (blk_cell BK325.out 2).trans rfl, (blk_cell BK325.out 3).trans rfl, (blk_cell BK326.out 0).trans rfl, (blk_cell BK326.out 1).trans rfl, (blk_cell BK326.out 2).trans rfl⟩ (fun hHeld => ?_)
                 clear hK K
                 refine norm_ (a' := ?_) ?_ ?_
                 rotate_left
                 ·show Act.put _ (some 102) _ = _
                  simp only [Act.put, List.setIfInBounds_toArray, List.set_cons_zero, List.set_cons_succ, i64_w, i32_w]
                  rfl
                 refine pure_ (i := 7) (N := some 95) (v := ?_) (a' := ?_) #[true, true, true, true, true, true, true, true, false, false, true, false, false] rfl rfl (any_of HT_.out (by kernel_rfl)) (fun _ _ _ h => h) (Or.inl ⟨by rfl, ?_⟩) ?_ ?_
                 rotate_left
                 ·intro w'; go_simp; with_reducible rfl
                 rotate_left
                 ·exact zY
                 refine pure_ (i := 8) (N := some 103) (v := ?_) (a' := ?_) #[true, true, true, true, true, true, true, true, true, false, true, false, false] rfl rfl (any_of HT_.out (by kernel_rfl)) (fun _ _ _ h => h) (Or.inl ⟨by rfl, ?_⟩) ?_ ?_
                 rotate_left
                 ·intro w'; go_simp; with_reducible rfl
                 rotate_left
                 ·exact zY
                 refine pure_ (i := 9) (N := some 104) (v := ?_) (a' := ?_) #[true, true, true, true, true, true, true, true, true, true, true, false, false] rfl rfl (any_of HT_.out (by kernel_rfl)) (fun _ _ _ h => h) (Or.inl ⟨by rfl, ?_⟩) ?_ ?_
                 rotate_left
                 ·intro w'; go_simp; with_reducible rfl
                 rotate_left
                 ·exact zY
                 exact norm_ (by simp only [putAll, Act.put, List.setIfInBounds_toArray, List.set_cons_zero, List.set_cons_succ]) (hCont (.slice Ao165 t390.length co165, .slice Ao166 t393.length co166, v402, v405, gb410) _ ⟨hHeld, (zRm HO392 (fun _ hk => ⟨hk.2, ⟨hk.1.1.1.2, ⟨hk.1.1.2, hk.1.2⟩⟩⟩)), (zRm HO395 (fun _ hk => ⟨hk.2, ⟨hk.1.1.1.2, ⟨hk.1.1.2, hk.1.2⟩⟩⟩)), (zRm HO403 (fun _ hk => ⟨hk.2, ⟨hk.1.1.1.2, ⟨hk.1.1.2, hk.1.2⟩⟩⟩)), (zRm HO406 (fun _ hk => ⟨hk.2, ⟨hk.1.1.1.2, ⟨hk.1.1.2, hk.1.2⟩⟩⟩)), (zRm HO_350000 (fun _ hk => ⟨hk.1.2, ⟨hk.2, ⟨hk.1.1.1, hk.1.1.2⟩⟩⟩)), (zRm HO_350001 (fun _ hk => ⟨hk.1.2, ⟨hk.2, ⟨hk.1.1.1, hk.1.1.2⟩⟩⟩)), (zRm HO_359000 (fun _ hk => ⟨hk.1.2, ⟨hk.2, ⟨hk.1.1.1, hk.1.1.2⟩⟩⟩)), (zRm HO_359001 (fun _ hk => ⟨hk.1.2, ⟨hk.2, ⟨hk.1.1.1, hk.1.1.2⟩⟩⟩)), (zRm HO_372000 (fun _ hk => ⟨hk.1.2, ⟨hk.2, ⟨hk.1.1.1, hk.1.1.2⟩⟩⟩)), (zRm HO_372001 (fun _ hk => ⟨hk.1.2, ⟨hk.2, ⟨hk.1.1.1, hk.1.1.2⟩⟩⟩)), (zP BK325), (zP BK326), (zP BK349), (zP BK358), (zP BK371), (zP BK410), GW410.out, GE410.out, NB325_410.out, NB410_325.out, NB326_410.out, NB410_326.out, NB349_410.out, NB410_349.out, NB358_410.out, NB410_358.out, NB371_410.out, NB410_371.out, zB⟩)
               ·skip
                refine box_step ?hg (N := 18) ?hd (cs := #[.slice none 0 0, .slice none 0 0, .int .i64 0, .int .i64 0]) (t := 35) ?hr ?_; (case hd => rfl); (case hg => rfl); (case hr => first | (go_simp; done) | (go_simp; rfl))
                intro gb410 hg w163 hbox hb
                have n_ := z27 (Kd.R_below (zRr HO_350000) hb) (Kd.R_below (zRr HO_350001) hb) (Kd.R_below (zRr HO_359000) hb) (Kd.R_below (zRr HO_359001) hb) (Kd.R_below (zRr HO_372000) hb) (Kd.R_below (zRr HO_372001) hb) (Kd.R_below (zRr HO392) hb) (Kd.R_below (zRr HO395) hb) (zb BK325 hb) (zb BK326 hb) (zb BK349 hb) (zb BK358 hb) (zb BK371 hb) (zs hb) (hbox) (zl hg) (zl hg) (zn BK325 hg) (zm BK325 hg) (zn BK326 hg) (zm BK326 hg) (zn BK349 hg) (zm BK349 hg) (zn BK358 hg) (zm BK358 hg) (zn BK371 hg) (zm BK371 hg)
                clear HO_350000 HO_350001 HO_359000 HO_359001 HO_372000 HO_372001 HO392 HO395 BK325 BK326 BK349 BK358 BK371 HB
                obtain ⟨HO_350000, HO_350001, HO_359000, HO_359001, HO_372000, HO_372001, HO392, HO395, BK325, BK326, BK349, BK358, BK371, HB, BK410, GW410, GE410, NB325_410, NB410_325, NB326_410, NB410_326, NB349_410, NB410_349, NB358_410, NB410_358, NB371_410, NB410_371⟩ := n_
                clear hb hbox hg
                refine hK.out _ _ ⟨(blk_cell BK325.out 0).trans rfl, (blk_cell BK325.out 1).trans rfl, (blk_cell BK325.out 2).trans rfl, (blk_cell BK325.out 3).trans rfl, (blk_cell BK326.out 0).trans rfl, (blk_cell BK326.out 1).trans rfl, (blk_cell BK326.out 2).trans rfl⟩ (fun hHeld => ?_)
                clear hK K
                refine norm_ (a' := ?_) ?_ ?_
                rotate_left
                ·show Act.put _ (some 18) _ = _
                 simp only [Act.put, List.setIfInBounds_toArray, List.set_cons_zero, List.set_cons_succ, i64_w, i32_w]
                 rfl
                refine one_ (i := 5) (N := some 101) #[true, true, true, true, true, true, false, false, false, false, true, false, false] rfl rfl (one_of HT_.out (by kernel_rfl)) (by decide) (fun K hK => ?_)
                refine goes_ Try.func20 (by kernel_rfl) rfl #[.agg #[.int .i64 a3_0, .int .i64 a3_1, .string a3_2]] (by rfl) rfl rfl zA ?_
                with_reducible refine (laws_toVal.calls a3_0 a3_1 a3_2 t398 t399 t400 _ A150.out).mono ?_
                rintro e w164 ⟨rfl, hb⟩
                refine ⟨_, rfl, ?_⟩
                have n_ := z15 (Kd.R_below (zRr HO_350000) hb) (Kd.R_below (zRr HO_350001) hb) (Kd.R_below (zRr HO_359000) hb) (Kd.R_below (zRr HO_359001) hb) (Kd.R_below (zRr HO_372000) hb) (Kd.R_below (zRr HO_372001) hb) (Kd.R_below (zRr HO392) hb) (Kd.R_below (zRr HO395) hb) (zb BK325 hb) (zb BK326 hb) (zb BK349 hb) (zb BK358 hb) (zb BK371 hb) (zb BK410 hb) (zs hb)
                clear HO_350000 HO_350001 HO_359000 HO_359001 HO_372000 HO_372001 HO392 HO395 BK325 BK326 BK349 BK358 BK371 BK410 HB
                obtain ⟨HO_350000, HO_350001, HO_359000, HO_359001, HO_372000, HO_372001, HO392, HO395, BK325, BK326, BK349, BK358, BK371, BK410, HB⟩ := n_
                (try clear hb)
                (try clear hb2)
                (try clear hk)
                (try clear hi)
                obtain ⟨Ao165, co165, eo165⟩ := Kd.R_slice HO392.out
                (first | subst eo165 | (injection eo165 with f1_ f2_ f3_; have f4_ := f1_.symm; have f5_ := f3_.symm; clear f1_ f2_ f3_; subst f4_; subst f5_))
                obtain ⟨Ao166, co166, eo166⟩ := Kd.R_slice HO395.out
                (first | subst eo166 | (injection eo166 with f1_ f2_ f3_; have f4_ := f1_.symm; have f5_ := f3_.symm; clear f1_ f2_ f3_; subst f4_; subst f5_))
                refine hK.out _ _ ⟨(blk_cell BK325.out 0).trans rfl, (blk_cell BK325.out 1).trans rfl, (blk_cell BK325.out 2).trans rfl, (blk_cell BK325.out 3).trans rfl, (blk_cell BK326.out 0).trans rfl, (blk_cell BK326.out 1).trans rfl, (blk_cell BK326.out 2).trans rfl⟩ (fun hHeld => ?_)
                clear hK K
                refine norm_ (a' := ?_) ?_ ?_
                rotate_left
                ·show Act.put _ (some 101) _ = _
                 simp only [Act.put, List.setIfInBounds_toArray, List.set_cons_zero, List.set_cons_succ, i64_w, i32_w]
                 rfl
                refine one_ (i := 6) (N := some 102) #[true, true, true, true, true, true, true, false, false, false, true, false, false] rfl rfl (one_of HT_.out (by kernel_rfl)) (by decide) (fun K hK => ?_)
                refine goes_ Try.func21 (by kernel_rfl) rfl #[.agg #[.slice Ao165 t390.length co165, .slice Ao166 t393.length co166, .int .i64 t396, .int .i64 t397], .int .i64 a1, .string a2, .agg #[.int .i64 t398, .int .i64 t399, .string t400]] (by rfl) rfl rfl zA ?_
                with_reducible refine (impl_CellPut.calls kj100 _ _ t390 _ _ t393 t396 t397 a1 a2 t398 t399 t400 t401 t404 t407 t408 t409 _ ?side1 ?side2 ?side3 ?side4 A151.out).mono ?_
                (case side1 => exact zCc ((Kd.R_reads' HO392.out).2.2))
                (case side2 => exact (Kd.R_reads' HO392.out).2.1)
                (case side3 => exact zCc ((Kd.R_reads' HO395.out).2.2))
                (case side4 => exact (Kd.R_reads' HO395.out).2.1)
                rintro e w167 ⟨v402, v405, rfl, ho0, ho1, hb⟩
                refine ⟨_, rfl, ?_⟩
                have n_ := z17 (Kd.R_elder' (zRr HO_350000) (Kd.R_base ho0) hb) (Kd.R_elder' (zRr HO_350001) (Kd.R_base ho1) hb) (Kd.R_elder' (zRr HO_359000) (Kd.R_base ho0) hb) (Kd.R_elder' (zRr HO_359001) (Kd.R_base ho1) hb) (Kd.R_elder' (zRr HO_372000) (Kd.R_base ho0) hb) (Kd.R_elder' (zRr HO_372001) (Kd.R_base ho1) hb) (Kd.R_elder' (zRr HO392) (Kd.R_base ho0) hb) (Kd.R_elder' (zRr HO395) (Kd.R_base ho1) hb) (Kd.R_lower (Kd.R_new' (Kd.R_new' (Kd.R_new' (Kd.R_new' ho0 (Kd.R_lt (zRr HO_350000))) (Kd.R_lt (zRr HO_359000))) (Kd.R_lt (zRr HO_372000))) (Kd.R_lt (zRr HO392))) (below_size zB)) (Kd.R_lower (Kd.R_new' (Kd.R_new' (Kd.R_new' (Kd.R_new' ho1 (Kd.R_lt (zRr HO_350001))) (Kd.R_lt (zRr HO_359001))) (Kd.R_lt (zRr HO_372001))) (Kd.R_lt (zRr HO395))) (below_size zB)) (zb BK325 hb) (zb BK326 hb) (zb BK349 hb) (zb BK358 hb) (zb BK371 hb) (zb BK410 hb) (zs hb)
                clear HO_350000 HO_350001 HO_359000 HO_359001 HO_372000 HO_372001 HO392 HO395 BK325 BK326 BK349 BK358 BK371 BK410 HB
                obtain ⟨HO_350000, HO_350001, HO_359000, HO_359001, HO_372000, HO_372001, HO392, HO395, HO403, HO406, BK325, BK326, BK349, BK358, BK371, BK410, HB⟩ := n_
                (try clear hb)
                (try clear hb2)
                (try clear hk)
                (try clear hi)
                (try clear ho0)
                (try clear ho1)
                refine hK.out _ _ ⟨(blk_cell BK325.out 0).trans rfl, (blk_cell BK325.out 1).trans rfl, (blk_cell BK325.out 2).trans rfl, (blk_cell BK325.out 3).trans rfl, (blk_cell BK326.out 0).trans rfl, (blk_cell BK326.out 1).trans rfl, (blk_cell BK326.out 2).trans rfl⟩ (fun hHeld => ?_)
                clear hK K
                refine norm_ (a' := ?_) ?_ ?_
                rotate_left
                ·show Act.put _ (some 102) _ = _
                 simp only [Act.put, List.setIfInBounds_toArray, List.set_cons_zero, List.set_cons_succ, i64_w, i32_w]
                 rfl
                refine pure_ (i := 7) (N := some 95) (v := ?_) (a' := ?_) #[true, true, true, true, true, true, true, true, false, false, true, false, false] rfl rfl (any_of HT_.out (by kernel_rfl)) (fun _ _ _ h => h) (Or.inl ⟨by rfl, ?_⟩) ?_ ?_
                rotate_left
                ·intro w'; go_simp; with_reducible rfl
                rotate_left
                ·exact zY
                refine pure_ (i := 8) (N := some 103) (v := ?_) (a' := ?_) #[true, true, true, true, true, true, true, true, true, false, true, false, false] rfl rfl (any_of HT_.out (by kernel_rfl)) (fun _ _ _ h => h) (Or.inl ⟨by rfl, ?_⟩) ?_ ?_
                rotate_left
                ·intro w'; go_simp; with_reducible rfl
                rotate_left
                ·exact zY
                refine pure_ (i := 9) (N := some 104) (v := ?_) (a' := ?_) #[true, true, true, true, true, true, true, true, true, true, true, false, false] rfl rfl (any_of HT_.out (by kernel_rfl)) (fun _ _ _ h => h) (Or.inl ⟨by rfl, ?_⟩) ?_ ?_
                rotate_left
                ·intro w'; go_simp; with_reducible rfl
                rotate_left
                ·exact zY
                exact norm_ (by simp only [putAll, Act.put, List.setIfInBounds_toArray, List.set_cons_zero, List.set_cons_succ]) (hCont (.slice Ao165 t390.length co165, .slice Ao166 t393.length co166, v402, v405, gb410) _ ⟨hHeld, (zRm HO392 (fun _ hk => ⟨hk.2, ⟨hk.1.1.1.2, ⟨hk.1.1.2, hk.1.2⟩⟩⟩)), (zRm HO395 (fun _ hk => ⟨hk.2, ⟨hk.1.1.1.2, ⟨hk.1.1.2, hk.1.2⟩⟩⟩)), (zRm HO403 (fun _ hk => ⟨hk.2, ⟨hk.1.1.1.2, ⟨hk.1.1.2, hk.1.2⟩⟩⟩)), (zRm HO406 (fun _ hk => ⟨hk.2, ⟨hk.1.1.1.2, ⟨hk.1.1.2, hk.1.2⟩⟩⟩)), (zRm HO_350000 (fun _ hk => ⟨hk.1.2, ⟨hk.2, ⟨hk.1.1.1, hk.1.1.2⟩⟩⟩)), (zRm HO_350001 (fun _ hk => ⟨hk.1.2, ⟨hk.2, ⟨hk.1.1.1, hk.1.1.2⟩⟩⟩)), (zRm HO_359000 (fun _ hk => ⟨hk.1.2, ⟨hk.2, ⟨hk.1.1.1, hk.1.1.2⟩⟩⟩)), (zRm HO_359001 (fun _ hk => ⟨hk.1.2, ⟨hk.2, ⟨hk.1.1.1, hk.1.1.2⟩⟩⟩)), (zRm HO_372000 (fun _ hk => ⟨hk.1.2, ⟨hk.2, ⟨hk.1.1.1, hk.1.1.2⟩⟩⟩)), (zRm HO_372001 (fun _ hk => ⟨hk.1.2, ⟨hk.2, ⟨hk.1.1.1, hk.1.1.2⟩⟩⟩)), (zP BK325), (zP BK326), (zP BK349), (zP BK358), (zP BK371), (zP BK410), GW410.out, GE410.out, NB325_410.out, NB410_325.out, NB326_410.out, NB410_326.out, NB349_410.out, NB410_349.out, NB358_410.out, NB410_358.out, NB371_410.out, NB410_371.out, zB⟩)
              ·skip
               refine box_step ?hg (N := 18) ?hd (cs := #[.slice none 0 0, .slice none 0 0, .int .i64 0, .int .i64 0]) (t := 35) ?hr ?_; (case hd => rfl); (case hg => rfl); (case hr => first | (go_simp; done) | (go_simp; rfl))
               intro gb410 hg w162 hbox hb
               have n_ := z25 (Kd.R_below (zRr HO_350000) hb) (Kd.R_below (zRr HO_350001) hb) (Kd.R_below (zRr HO_359000) hb) (Kd.R_below (zRr HO_359001) hb) (Kd.R_below (zRr HO_372000) hb) (Kd.R_below (zRr HO_372001) hb) (zb BK325 hb) (zb BK326 hb) (zb BK349 hb) (zb BK358 hb) (zb BK371 hb) (zs hb) (hbox) (zl hg) (zl hg) (zn BK325 hg) (zm BK325 hg) (zn BK326 hg) (zm BK326 hg) (zn BK349 hg) (zm BK349 hg) (zn BK358 hg) (zm BK358 hg) (zn BK371 hg) (zm BK371 hg)
               clear HO_350000 HO_350001 HO_359000 HO_359001 HO_372000 HO_372001 BK325 BK326 BK349 BK358 BK371 HB
               obtain ⟨HO_350000, HO_350001, HO_359000, HO_359001, HO_372000, HO_372001, BK325, BK326, BK349, BK358, BK371, HB, BK410, GW410, GE410, NB325_410, NB410_325, NB326_410, NB410_326, NB349_410, NB410_349, NB358_410, NB410_358, NB371_410, NB410_371⟩ := n_
               clear hb hbox hg
               refine hK.out _ _ ⟨(blk_cell BK325.out 0).trans rfl, (blk_cell BK325.out 1).trans rfl, (blk_cell BK325.out 2).trans rfl, (blk_cell BK325.out 3).trans rfl, (blk_cell BK326.out 0).trans rfl, (blk_cell BK326.out 1).trans rfl, (blk_cell BK326.out 2).trans rfl⟩ (fun hHeld => ?_)
               clear hK K
               refine norm_ (a' := ?_) ?_ ?_
               rotate_left
               ·show Act.put _ (some 18) _ = _
                simp only [Act.put, List.setIfInBounds_toArray, List.set_cons_zero, List.set_cons_succ, i64_w, i32_w]
                rfl
               refine one_ (i := 1) (N := some 97) #[true, true, true, true, true, false, false, false, false, false, true, false, false] rfl rfl (one_of HT_.out (by kernel_rfl)) (by decide) (fun K hK => ?_)
               refine goes_ Try.func13 (by kernel_rfl) rfl #[.agg #[.slice A0_0 l0_0.length c0_0, .slice A0_1 l0_1.length c0_1, .int .i64 a0_2, .int .i64 a0_3]] (by rfl) rfl rfl zA ?_
               with_reducible refine (laws_toState.calls kj100 _ _ l0_0 _ _ l0_1 a0_2 a0_3 t390 t393 t396 t397 _ ?side1 ?side2 ?side3 ?side4 A149.out).mono ?_
               (case side1 => exact zCc ((Kd.C_below HR0_0.out HB.out)))
               (case side2 => exact HC0_0.out)
               (case side3 => exact zCc ((Kd.C_below HR0_1.out HB.out)))
               (case side4 => exact HC0_1.out)
               rintro e w163 ⟨v391, v394, rfl, ho0, ho1, hb⟩
               refine ⟨_, rfl, ?_⟩
               have n_ := z15 (Kd.R_elder' (zRr HO_350000) (Kd.R_base ho0) hb) (Kd.R_elder' (zRr HO_350001) (Kd.R_base ho1) hb) (Kd.R_elder' (zRr HO_359000) (Kd.R_base ho0) hb) (Kd.R_elder' (zRr HO_359001) (Kd.R_base ho1) hb) (Kd.R_elder' (zRr HO_372000) (Kd.R_base ho0) hb) (Kd.R_elder' (zRr HO_372001) (Kd.R_base ho1) hb) (Kd.R_lower (Kd.R_new' (Kd.R_new' (Kd.R_new' ho0 (Kd.R_lt (zRr HO_350000))) (Kd.R_lt (zRr HO_359000))) (Kd.R_lt (zRr HO_372000))) (below_size zB)) (Kd.R_lower (Kd.R_new' (Kd.R_new' (Kd.R_new' ho1 (Kd.R_lt (zRr HO_350001))) (Kd.R_lt (zRr HO_359001))) (Kd.R_lt (zRr HO_372001))) (below_size zB)) (zb BK325 hb) (zb BK326 hb) (zb BK349 hb) (zb BK358 hb) (zb BK371 hb) (zb BK410 hb) (zs hb)
               clear HO_350000 HO_350001 HO_359000 HO_359001 HO_372000 HO_372001 BK325 BK326 BK349 BK358 BK371 BK410 HB
               obtain ⟨HO_350000, HO_350001, HO_359000, HO_359001, HO_372000, HO_372001, HO392, HO395, BK325, BK326, BK349, BK358, BK371, BK410, HB⟩ := n_
               (try clear hb)
               (try clear hb2)
               (try clear hk)
               (try clear hi)
               (try clear ho0)
               (try clear ho1)
               refine hK.out _ _ ⟨(blk_cell BK325.out 0).trans rfl, (blk_cell BK325.out 1).trans rfl, (blk_cell BK325.out 2).trans rfl, (blk_cell BK325.out 3).trans rfl, (blk_cell BK326.out 0).trans rfl, (blk_cell BK326.out 1).trans rfl, (blk_cell BK326.out 2).trans rfl⟩ (fun hHeld => ?_)
               clear hK K
               refine norm_ (a' := ?_) ?_ ?_
               rotate_left
               ·show Act.put _ (some 97) _ = _
                simp only [Act.put, List.setIfInBounds_toArray, List.set_cons_zero, List.set_cons_succ, i64_w, i32_w]
                rfl
               refine one_ (i := 5) (N := some 101) #[true, true, true, true, true, true, false, false, false, false, true, false, false] rfl rfl (one_of HT_.out (by kernel_rfl)) (by decide) (fun K hK => ?_)
               refine goes_ Try.func20 (by kernel_rfl) rfl #[.agg #[.int .i64 a3_0, .int .i64 a3_1, .string a3_2]] (by rfl) rfl rfl zA ?_
               with_reducible refine (laws_toVal.calls a3_0 a3_1 a3_2 t398 t399 t400 _ A150.out).mono ?_
               rintro e w164 ⟨rfl, hb⟩
               refine ⟨_, rfl, ?_⟩
               have n_ := z15 (Kd.R_below (zRr HO_350000) hb) (Kd.R_below (zRr HO_350001) hb) (Kd.R_below (zRr HO_359000) hb) (Kd.R_below (zRr HO_359001) hb) (Kd.R_below (zRr HO_372000) hb) (Kd.R_below (zRr HO_372001) hb) (Kd.R_below (zRr HO392) hb) (Kd.R_below (zRr HO395) hb) (zb BK325 hb) (zb BK326 hb) (zb BK349 hb) (zb BK358 hb) (zb BK371 hb) (zb BK410 hb) (zs hb)
               clear HO_350000 HO_350001 HO_359000 HO_359001 HO_372000 HO_372001 HO392 HO395 BK325 BK326 BK349 BK358 BK371 BK410 HB
               obtain ⟨HO_350000, HO_350001, HO_359000, HO_359001, HO_372000, HO_372001, HO392, HO395, BK325, BK326, BK349, BK358, BK371, BK410, HB⟩ := n_
               (try clear hb)
               (try clear hb2)
               (try clear hk)
               (try clear hi)
               obtain ⟨Ao165, co165, eo165⟩ := Kd.R_slice HO392.out
               (first | subst eo165 | (injection eo165 with f1_ f2_ f3_; have f4_ := f1_.symm; have f5_ := f3_.symm; clear f1_ f2_ f3_; subst f4_; subst f5_))
               obtain ⟨Ao166, co166, eo166⟩ := Kd.R_slice HO395.out
               (first | subst eo166 | (injection eo166 with f1_ f2_ f3_; have f4_ := f1_.symm; have f5_ := f3_.symm; clear f1_ f2_ f3_; subst f4_; subst f5_))
               refine hK.out _ _ ⟨(blk_cell BK325.out 0).trans rfl, (blk_cell BK325.out 1).trans rfl, (blk_cell BK325.out 2).trans rfl, (blk_cell BK325.out 3).trans rfl, (blk_cell BK326.out 0).trans rfl, (blk_cell BK326.out 1).trans rfl, (blk_cell BK326.out 2).trans rfl⟩ (fun hHeld => ?_)
               clear hK K
               refine norm_ (a' := ?_) ?_ ?_
               rotate_left
               ·show Act.put _ (some 101) _ = _
                simp only [Act.put, List.setIfInBounds_toArray, List.set_cons_zero, List.set_cons_succ, i64_w, i32_w]
                rfl
               refine one_ (i := 6) (N := some 102) #[true, true, true, true, true, true, true, false, false, false, true, false, false] rfl rfl (one_of HT_.out (by kernel_rfl)) (by decide) (fun K hK => ?_)
               refine goes_ Try.func21 (by kernel_rfl) rfl #[.agg #[.slice Ao165 t390.length co165, .slice Ao166 t393.length co166, .int .i64 t396, .int .i64 t397], .int .i64 a1, .string a2, .agg #[.int .i64 t398, .int .i64 t399, .string t400]] (by rfl) rfl rfl zA ?_
               with_reducible refine (impl_CellPut.calls kj100 _ _ t390 _ _ t393 t396 t397 a1 a2 t398 t399 t400 t401 t404 t407 t408 t409 _ ?side1 ?side2 ?side3 ?side4 A151.out).mono ?_
               (case side1 => exact zCc ((Kd.R_reads' HO392.out).2.2))
               (case side2 => exact (Kd.R_reads' HO392.out).2.1)
               (case side3 => exact zCc ((Kd.R_reads' HO395.out).2.2))
               (case side4 => exact (Kd.R_reads' HO395.out).2.1)
               rintro e w167 ⟨v402, v405, rfl, ho0, ho1, hb⟩
               refine ⟨_, rfl, ?_⟩
               have n_ := z17 (Kd.R_elder' (zRr HO_350000) (Kd.R_base ho0) hb) (Kd.R_elder' (zRr HO_350001) (Kd.R_base ho1) hb) (Kd.R_elder' (zRr HO_359000) (Kd.R_base ho0) hb) (Kd.R_elder' (zRr HO_359001) (Kd.R_base ho1) hb) (Kd.R_elder' (zRr HO_372000) (Kd.R_base ho0) hb) (Kd.R_elder' (zRr HO_372001) (Kd.R_base ho1) hb) (Kd.R_elder' (zRr HO392) (Kd.R_base ho0) hb) (Kd.R_elder' (zRr HO395) (Kd.R_base ho1) hb) (Kd.R_lower (Kd.R_new' (Kd.R_new' (Kd.R_new' (Kd.R_new' ho0 (Kd.R_lt (zRr HO_350000))) (Kd.R_lt (zRr HO_359000))) (Kd.R_lt (zRr HO_372000))) (Kd.R_lt (zRr HO392))) (below_size zB)) (Kd.R_lower (Kd.R_new' (Kd.R_new' (Kd.R_new' (Kd.R_new' ho1 (Kd.R_lt (zRr HO_350001))) (Kd.R_lt (zRr HO_359001))) (Kd.R_lt (zRr HO_372001))) (Kd.R_lt (zRr HO395))) (below_size zB)) (zb BK325 hb) (zb BK326 hb) (zb BK349 hb) (zb BK358 hb) (zb BK371 hb) (zb BK410 hb) (zs hb)
               clear HO_350000 HO_350001 HO_359000 HO_359001 HO_372000 HO_372001 HO392 HO395 BK325 BK326 BK349 BK358 BK371 BK410 HB
               obtain ⟨HO_350000, HO_350001, HO_359000, HO_359001, HO_372000, HO_372001, HO392, HO395, HO403, HO406, BK325, BK326, BK349, BK358, BK371, BK410, HB⟩ := n_
               (try clear hb)
               (try clear hb2)
               (try clear hk)
               (try clear hi)
               (try clear ho0)
               (try clear ho1)
               refine hK.out _ _ ⟨(blk_cell BK325.out 0).trans rfl, (blk_cell BK325.out 1).trans rfl, (blk_cell BK325.out 2).trans rfl, (blk_cell BK325.out 3).trans rfl, (blk_cell BK326.out 0).trans rfl, (blk_cell BK326.out 1).trans rfl, (blk_cell BK326.out 2).trans rfl⟩ (fun hHeld => ?_)
               clear hK K
               refine norm_ (a' := ?_) ?_ ?_
               rotate_left
               ·show Act.put _ (some 102) _ = _
                simp only [Act.put, List.setIfInBounds_toArray, List.set_cons_zero, List.set_cons_succ, i64_w, i32_w]
                rfl
               refine pure_ (i := 7) (N := some 95) (v := ?_) (a' := ?_) #[true, true, true, true, true, true, true, true, false, false, true, false, false] rfl rfl (any_of HT_.out (by kernel_rfl)) (fun _ _ _ h => h) (Or.inl ⟨by rfl, ?_⟩) ?_ ?_
               rotate_left
               ·intro w'; go_simp; with_reducible rfl
               rotate_left
               ·exact zY
               refine pure_ (i := 8) (N := some 103) (v := ?_) (a' := ?_) #[true, true, true, true, true, true, true, true, true, false, true, false, false] rfl rfl (any_of HT_.out (by kernel_rfl)) (fun _ _ _ h => h) (Or.inl ⟨by rfl, ?_⟩) ?_ ?_
               rotate_left
               ·intro w'; go_simp; with_reducible rfl
               rotate_left
               ·exact zY
               refine pure_ (i := 9) (N := some 104) (v := ?_) (a' := ?_) #[true, true, true, true, true, true, true, true, true, true, true, false, false] rfl rfl (any_of HT_.out (by kernel_rfl)) (fun _ _ _ h => h) (Or.inl ⟨by rfl, ?_⟩) ?_ ?_
               rotate_left
               ·intro w'; go_simp; with_reducible rfl
               rotate_left
               ·exact zY
               exact norm_ (by simp only [putAll, Act.put, List.setIfInBounds_toArray, List.set_cons_zero, List.set_cons_succ]) (hCont (.slice Ao165 t390.length co165, .slice Ao166 t393.length co166, v402, v405, gb410) _ ⟨hHeld, (zRm HO392 (fun _ hk => ⟨hk.2, ⟨hk.1.1.1.2, ⟨hk.1.1.2, hk.1.2⟩⟩⟩)), (zRm HO395 (fun _ hk => ⟨hk.2, ⟨hk.1.1.1.2, ⟨hk.1.1.2, hk.1.2⟩⟩⟩)), (zRm HO403 (fun _ hk => ⟨hk.2, ⟨hk.1.1.1.2, ⟨hk.1.1.2, hk.1.2⟩⟩⟩)), (zRm HO406 (fun _ hk => ⟨hk.2, ⟨hk.1.1.1.2, ⟨hk.1.1.2, hk.1.2⟩⟩⟩)), (zRm HO_350000 (fun _ hk => ⟨hk.1.2, ⟨hk.2, ⟨hk.1.1.1, hk.1.1.2⟩⟩⟩)), (zRm HO_350001 (fun _ hk => ⟨hk.1.2, ⟨hk.2, ⟨hk.1.1.1, hk.1.1.2⟩⟩⟩)), (zRm HO_359000 (fun _ hk => ⟨hk.1.2, ⟨hk.2, ⟨hk.1.1.1, hk.1.1.2⟩⟩⟩)), (zRm HO_359001 (fun _ hk => ⟨hk.1.2, ⟨hk.2, ⟨hk.1.1.1, hk.1.1.2⟩⟩⟩)), (zRm HO_372000 (fun _ hk => ⟨hk.1.2, ⟨hk.2, ⟨hk.1.1.1, hk.1.1.2⟩⟩⟩)), (zRm HO_372001 (fun _ hk => ⟨hk.1.2, ⟨hk.2, ⟨hk.1.1.1, hk.1.1.2⟩⟩⟩)), (zP BK325), (zP BK326), (zP BK349), (zP BK358), (zP BK371), (zP BK410), GW410.out, GE410.out, NB325_410.out, NB410_325.out, NB326_410.out, NB410_326.out, NB349_410.out, NB410_349.out, NB358_410.out, NB410_358.out, NB371_410.out, NB410_371.out, zB⟩)
             rintro ⟨v391, v394, v402, v405, gb410⟩ w168 ⟨hS_, h0_, h1_, h2_, h3_, h4_, h5_, h6_, h7_, h8_, h9_, h10_, h11_, h12_, h13_, h14_, h15_, h16_, h17_, h18_, h19_, h20_, h21_, h22_, h23_, h24_, h25_, h26_, h27_, h28_⟩
             have n0_ : Aside0 (Kd.R k46 46 w168 w.heap.size (fun k_ => some k_ ≠ (v402 : Value).ownBlock ∧ some k_ ≠ (.slice Ao46 t340.length co46 : Value).ownBlock ∧ some k_ ≠ (.slice Ao56 t383.length co56 : Value).ownBlock ∧ some k_ ≠ (.slice Ao68 t362.length co68 : Value).ownBlock) v391 t390) := ⟨h0_⟩
             have n1_ : Aside0 (Kd.R k58 58 w168 w.heap.size (fun k_ => some k_ ≠ (v405 : Value).ownBlock ∧ some k_ ≠ (.slice Ao48 t343.length co48 : Value).ownBlock ∧ some k_ ≠ (.slice Ao61 t384.length co61 : Value).ownBlock ∧ some k_ ≠ (.slice Ao70 t365.length co70 : Value).ownBlock) v394 t393) := ⟨h1_⟩
             have n2_ : Aside0 (Kd.R k46 46 w168 w.heap.size (fun k_ => some k_ ≠ (v391 : Value).ownBlock ∧ some k_ ≠ (.slice Ao46 t340.length co46 : Value).ownBlock ∧ some k_ ≠ (.slice Ao56 t383.length co56 : Value).ownBlock ∧ some k_ ≠ (.slice Ao68 t362.length co68 : Value).ownBlock) v402 t401) := ⟨h2_⟩
             have n3_ : Aside0 (Kd.R k58 58 w168 w.heap.size (fun k_ => some k_ ≠ (v394 : Value).ownBlock ∧ some k_ ≠ (.slice Ao48 t343.length co48 : Value).ownBlock ∧ some k_ ≠ (.slice Ao61 t384.length co61 : Value).ownBlock ∧ some k_ ≠ (.slice Ao70 t365.length co70 : Value).ownBlock) v405 t404) := ⟨h3_⟩
             have n4_ : Aside0 (Kd.R k46 46 w168 w.heap.size (fun k_ => some k_ ≠ (v391 : Value).ownBlock ∧ some k_ ≠ (v402 : Value).ownBlock ∧ some k_ ≠ (.slice Ao56 t383.length co56 : Value).ownBlock ∧ some k_ ≠ (.slice Ao68 t362.length co68 : Value).ownBlock) (.slice Ao46 t340.length co46) t340) := ⟨h4_⟩
             have n5_ : Aside0 (Kd.R k58 58 w168 w.heap.size (fun k_ => some k_ ≠ (v394 : Value).ownBlock ∧ some k_ ≠ (v405 : Value).ownBlock ∧ some k_ ≠ (.slice Ao61 t384.length co61 : Value).ownBlock ∧ some k_ ≠ (.slice Ao70 t365.length co70 : Value).ownBlock) (.slice Ao48 t343.length co48) t343) := ⟨h5_⟩
             have n6_ : Aside0 (Kd.R k46 46 w168 w.heap.size (fun k_ => some k_ ≠ (v391 : Value).ownBlock ∧ some k_ ≠ (v402 : Value).ownBlock ∧ some k_ ≠ (.slice Ao46 t340.length co46 : Value).ownBlock ∧ some k_ ≠ (.slice Ao68 t362.length co68 : Value).ownBlock) (.slice Ao56 t383.length co56) t383) := ⟨h6_⟩
             have n7_ : Aside0 (Kd.R k58 58 w168 w.heap.size (fun k_ => some k_ ≠ (v394 : Value).ownBlock ∧ some k_ ≠ (v405 : Value).ownBlock ∧ some k_ ≠ (.slice Ao48 t343.length co48 : Value).ownBlock ∧ some k_ ≠ (.slice Ao70 t365.length co70 : Value).ownBlock) (.slice Ao61 t384.length co61) t384) := ⟨h7_⟩
             have n8_ : Aside0 (Kd.R k46 46 w168 w.heap.size (fun k_ => some k_ ≠ (v391 : Value).ownBlock ∧ some k_ ≠ (v402 : Value).ownBlock ∧ some k_ ≠ (.slice Ao46 t340.length co46 : Value).ownBlock ∧ some k_ ≠ (.slice Ao56 t383.length co56 : Value).ownBlock) (.slice Ao68 t362.length co68) t387) := ⟨h8_⟩
             have n9_ : Aside0 (Kd.R k58 58 w168 w.heap.size (fun k_ => some k_ ≠ (v394 : Value).ownBlock ∧ some k_ ≠ (v405 : Value).ownBlock ∧ some k_ ≠ (.slice Ao48 t343.length co48 : Value).ownBlock ∧ some k_ ≠ (.slice Ao61 t384.length co61 : Value).ownBlock) (.slice Ao70 t365.length co70) t388) := ⟨h9_⟩
             have n10_ : Aside0 (w168.heap[gb325]? = some (.cells #[.slice A0_0 l0_0.length c0_0, .slice A0_1 l0_1.length c0_1, .int .i64 a0_2, .int .i64 a0_3] 30 (0, 0))) := ⟨h10_⟩
             have n11_ : Aside0 (w168.heap[gb326]? = some (.cells #[.int .i64 a3_0, .int .i64 a3_1, .string a3_2] 42 (0, 0))) := ⟨h11_⟩
             have n12_ : Aside0 (w168.heap[gb349]? = some (.cells #[.slice Ao46 t340.length co46, .slice Ao48 t343.length co48, .int .i64 t346, .int .i64 t347] 35 (0, 0))) := ⟨h12_⟩
             have n13_ : Aside0 (w168.heap[gb358]? = some (.cells #[.slice Ao56 t383.length co56, .slice Ao61 t384.length co61, .int .i64 t356, .int .i64 t357] 35 (0, 0))) := ⟨h13_⟩
             have n14_ : Aside0 (w168.heap[gb371]? = some (.cells #[.slice Ao68 t362.length co68, .slice Ao70 t365.length co70, .int .i64 t368, .int .i64 t369] 35 (0, 0))) := ⟨h14_⟩
             have n15_ : Aside0 (w168.heap[gb410]? = some (.cells #[.slice none 0 0, .slice none 0 0, .int .i64 0, .int .i64 0] 35 (0, 0))) := ⟨h15_⟩
             have n16_ : Aside0 (w.heap.size ≤ gb410) := ⟨h16_⟩
             have n17_ : Aside0 (w.heap.size ≤ gb410) := ⟨h17_⟩
             have n18_ : Aside0 (gb325 ≠ gb410) := ⟨h18_⟩
             have n19_ : Aside0 (gb410 ≠ gb325) := ⟨h19_⟩
             have n20_ : Aside0 (gb326 ≠ gb410) := ⟨h20_⟩
             have n21_ : Aside0 (gb410 ≠ gb326) := ⟨h21_⟩
             have n22_ : Aside0 (gb349 ≠ gb410) := ⟨h22_⟩
             have n23_ : Aside0 (gb410 ≠ gb349) := ⟨h23_⟩
             have n24_ : Aside0 (gb358 ≠ gb410) := ⟨h24_⟩
             have n25_ : Aside0 (gb410 ≠ gb358) := ⟨h25_⟩
             have n26_ : Aside0 (gb371 ≠ gb410) := ⟨h26_⟩
             have n27_ : Aside0 (gb410 ≠ gb371) := ⟨h27_⟩
             have n28_ : Aside0 (Below w.heap.size w w168) := ⟨h28_⟩
             clear HO_350000
             clear HO_350001
             clear HO_359000
             clear HO_359001
             clear HO_372000
             clear HO_372001
             clear BK325
             clear BK326
             clear BK349
             clear BK358
             clear BK371
             clear HB
             clear h0_ h1_ h2_ h3_ h4_ h5_ h6_ h7_ h8_ h9_ h10_ h11_ h12_ h13_ h14_ h15_ h16_ h17_ h18_ h19_ h20_ h21_ h22_ h23_ h24_ h25_ h26_ h27_ h28_
             have HO392 := n0_
             have HO395 := n1_
             have HO403 := n2_
             have HO406 := n3_
             have HO_350000 := n4_
             have HO_350001 := n5_
             have HO_359000 := n6_
             have HO_359001 := n7_
             have HO_372000 := n8_
             have HO_372001 := n9_
             have BK325 := n10_
             have BK326 := n11_
             have BK349 := n12_
             have BK358 := n13_
             have BK371 := n14_
             have BK410 := n15_
             have GW410 := n16_
             have GE410 := n17_
             have NB325_410 := n18_
             have NB410_325 := n19_
             have NB326_410 := n20_
             have NB410_326 := n21_
             have NB349_410 := n22_
             have NB410_349 := n23_
             have NB358_410 := n24_
             have NB410_358 := n25_
             have NB371_410 := n26_
             have NB410_371 := n27_
             have HB := n28_
             clear n0_ n1_ n2_ n3_ n4_ n5_ n6_ n7_ n8_ n9_ n10_ n11_ n12_ n13_ n14_ n15_ n16_ n17_ n18_ n19_ n20_ n21_ n22_ n23_ n24_ n25_ n26_ n27_ n28_
             have hHeld : w168.cell? ⟨gb325, 0, none⟩ = some (.slice A0_0 l0_0.length c0_0) ∧ w168.cell? ⟨gb325, 1, none⟩ = some (.slice A0_1 l0_1.length c0_1) ∧ w168.cell? ⟨gb325, 2, none⟩ = some (.int .i64 a0_2) ∧ w168.cell? ⟨gb325, 3, none⟩ = some (.int .i64 a0_3) ∧ w168.cell? ⟨gb326, 0, none⟩ = some (.int .i64 a3_0) ∧ w168.cell? ⟨gb326, 1, none⟩ = some (.int .i64 a3_1) ∧ w168.cell? ⟨gb326, 2, none⟩ = some (.string a3_2) := hS_
             obtain ⟨Ao169, co169, eo169⟩ := Kd.R_slice HO403.out
             (first | subst eo169 | (injection eo169 with f1_ f2_ f3_; have f4_ := f1_.symm; have f5_ := f3_.symm; clear f1_ f2_ f3_; subst f4_; subst f5_))
             obtain ⟨Ao171, co171, eo171⟩ := Kd.R_slice HO406.out
             (first | subst eo171 | (injection eo171 with f1_ f2_ f3_; have f4_ := f1_.symm; have f5_ := f3_.symm; clear f1_ f2_ f3_; subst f4_; subst f5_))
             refine norm_ (a' := ?_) ?_ ?_
             rotate_left
             ·simp only [putAll, Act.put, List.setIfInBounds_toArray, List.set_cons_zero, List.set_cons_succ]
              rfl
             refine one_ (i := 11) (N := none) #[true, true, true, true, true, true, true, true, true, true, true, true, false] rfl rfl (one_of HT_.out (by kernel_rfl)) (by decide) (fun K hK => ?_)
             have hs170 : w168.cell? ⟨gb410, 0, none⟩ = some (.slice none 0 0) := (blk_cell BK410.out 0).trans rfl
             have hfs170 := blk_frozen BK410.out 0
             have hns170_0 := NB325_410.out
             have hns170_1 := NB326_410.out
             have hns170_2 := NB349_410.out
             have hns170_3 := NB358_410.out
             have hns170_4 := NB371_410.out
             have hms170_0 := NB410_325.out
             have hms170_1 := NB410_326.out
             have hms170_2 := NB410_349.out
             have hms170_3 := NB410_358.out
             have hms170_4 := NB410_371.out
             have hs172 : w168.cell? ⟨gb410, 1, none⟩ = some (.slice none 0 0) := (blk_cell BK410.out 1).trans rfl
             have hfs172 := blk_frozen BK410.out 1
             have hns172_0 := NB325_410.out
             have hns172_1 := NB326_410.out
             have hns172_2 := NB349_410.out
             have hns172_3 := NB358_410.out
             have hns172_4 := NB371_410.out
             have hms172_0 := NB410_325.out
             have hms172_1 := NB410_326.out
             have hms172_2 := NB410_349.out
             have hms172_3 := NB410_358.out
             have hms172_4 := NB410_371.out
             have hs173 : w168.cell? ⟨gb410, 2, none⟩ = some (.int .i64 0) := (blk_cell BK410.out 2).trans rfl
             have hfs173 := blk_frozen BK410.out 2
             have hns173_0 := NB325_410.out
             have hns173_1 := NB326_410.out
             have hns173_2 := NB349_410.out
             have hns173_3 := NB358_410.out
             have hns173_4 := NB371_410.out
             have hms173_0 := NB410_325.out
             have hms173_1 := NB410_326.out
             have hms173_2 := NB410_349.out
             have hms173_3 := NB410_358.out
             have hms173_4 := NB410_371.out
             have hs174 : w168.cell? ⟨gb410, 3, none⟩ = some (.int .i64 0) := (blk_cell BK410.out 3).trans rfl
             have hfs174 := blk_frozen BK410.out 3
             have hns174_0 := NB325_410.out
             have hns174_1 := NB326_410.out
             have hns174_2 := NB349_410.out
             have hns174_3 := NB358_410.out
             have hns174_4 := NB371_410.out
             have hms174_0 := NB410_325.out
             have hms174_1 := NB410_326.out
             have hms174_2 := NB410_349.out
             have hms174_3 := NB410_358.out
             have hms174_4 := NB410_371.out
             refine skip_ (w1 := ?_) (by rfl) rfl ?_ ?_
             rotate_left
             ·go_simp
              rfl
             refine hK.out _ _ ⟨((cell_far (p := ⟨gb410, _, none⟩) NB325_410.out _).trans (((cell_far (p := ⟨gb410, _, none⟩) NB325_410.out _).trans (((cell_far (p := ⟨gb410, _, none⟩) NB325_410.out _).trans (((cell_far (p := ⟨gb410, _, none⟩) NB325_410.out _).trans (hHeld.1)))))))), ((cell_far (p := ⟨gb410, _, none⟩) NB325_410.out _).trans (((cell_far (p := ⟨gb410, _, none⟩) NB325_410.out _).trans (((cell_far (p := ⟨gb410, _, none⟩) NB325_410.out _).trans (((cell_far (p := ⟨gb410, _, none⟩) NB325_410.out _).trans (hHeld.2.1)))))))), ((cell_far (p := ⟨gb410, _, none⟩) NB325_410.out _).trans (((cell_far (p := ⟨gb410, _, none⟩) NB325_410.out _).trans (((cell_far (p := ⟨gb410, _, none⟩) NB325_410.out _).trans (((cell_far (p := ⟨gb410, _, none⟩) NB325_410.out _).trans (hHeld.2.2.1)))))))), ((cell_far (p := ⟨gb410, _, none⟩) NB325_410.out _).trans (((cell_far (p := ⟨gb410, _, none⟩) NB325_410.out _).trans (((cell_far (p := ⟨gb410, _, none⟩) NB325_410.out _).trans (((cell_far (p := ⟨gb410, _, none⟩) NB325_410.out _).trans (hHeld.2.2.2.1)))))))), ((cell_far (p := ⟨gb410, _, none⟩) NB326_410.out _).trans (((cell_far (p := ⟨gb410, _, none⟩) NB326_410.out _).trans (((cell_far (p := ⟨gb410, _, none⟩) NB326_410.out _).trans (((cell_far (p := ⟨gb410, _, none⟩) NB326_410.out _).trans (hHeld.2.2.2.2.1)))))))), ((cell_far (p := ⟨gb410, _, none⟩) NB326_410.out _).trans (((cell_far (p := ⟨gb410, _, none⟩) NB326_410.out _).trans (((cell_far (p := ⟨gb410, _, none⟩) NB326_410.out _).trans (((cell_far (p := ⟨gb410, _, none⟩) NB326_410.out _).trans (hHeld.2.2.2.2.2.1)))))))), ((cell_far (p := ⟨gb410, _, none⟩) NB326_410.out _).trans (((cell_far (p := ⟨gb410, _, none⟩) NB326_410.out _).trans (((cell_far (p := ⟨gb410, _, none⟩) NB326_410.out _).trans (((cell_far (p := ⟨gb410, _, none⟩) NB326_410.out _).trans (hHeld.2.2.2.2.2.2))))))))⟩ (fun hHeld => ?_)
             clear hK K
             refine pure_ (i := 12) (N := some 19) (v := ?_) (a' := ?_) #[true, true, true, true, true, true, true, true, true, true, true, true, true] rfl rfl (any_of HT_.out (by kernel_rfl)) (fun _ _ _ h => h) (Or.inl ⟨by rfl, ?_⟩) ?_ ?_
             rotate_left
             ·intro w'; go_simp; with_reducible rfl
             rotate_left
             ·exact zY
             refine done_ (done_of HT_.out (by kernel_rfl)) ?_
             go_upto_region 30 with (fail)
             go_cut [113] (fun v113 wc => ∃ (kq : Nat) (x113_151 : Bool), v113 = .bool x113_151 ∧ Aside0 (laws_FnExactCellPut.j2 kq t386 x113_151 t387 t388 t368 t369 = some r) ∧ Aside0 (kq ≤ kj100) ∧ Aside0 (Kd.R k46 46 wc w.heap.size (fun k_ => some k_ ≠ ((.slice Ao56 t383.length co56) : Value).ownBlock ∧ some k_ ≠ ((.slice Ao68 t362.length co68) : Value).ownBlock ∧ some k_ ≠ ((.slice Ao169 t401.length co169) : Value).ownBlock) (.slice Ao46 t340.length co46) t340) ∧ Aside0 (Kd.R k58 58 wc w.heap.size (fun k_ => some k_ ≠ ((.slice Ao61 t384.length co61) : Value).ownBlock ∧ some k_ ≠ ((.slice Ao70 t365.length co70) : Value).ownBlock ∧ some k_ ≠ ((.slice Ao171 t404.length co171) : Value).ownBlock) (.slice Ao48 t343.length co48) t343) ∧ Aside0 (Kd.R k46 46 wc w.heap.size (fun k_ => some k_ ≠ ((.slice Ao46 t340.length co46) : Value).ownBlock ∧ some k_ ≠ ((.slice Ao68 t362.length co68) : Value).ownBlock ∧ some k_ ≠ ((.slice Ao169 t401.length co169) : Value).ownBlock) (.slice Ao56 t383.length co56) t383) ∧ Aside0 (Kd.R k58 58 wc w.heap.size (fun k_ => some k_ ≠ ((.slice Ao48 t343.length co48) : Value).ownBlock ∧ some k_ ≠ ((.slice Ao70 t365.length co70) : Value).ownBlock ∧ some k_ ≠ ((.slice Ao171 t404.length co171) : Value).ownBlock) (.slice Ao61 t384.length co61) t384) ∧ Aside0 (Kd.R k46 46 wc w.heap.size (fun k_ => some k_ ≠ ((.slice Ao46 t340.length co46) : Value).ownBlock ∧ some k_ ≠ ((.slice Ao56 t383.length co56) : Value).ownBlock ∧ some k_ ≠ ((.slice Ao169 t401.length co169) : Value).ownBlock) (.slice Ao68 t362.length co68) t387) ∧ Aside0 (Kd.R k58 58 wc w.heap.size (fun k_ => some k_ ≠ ((.slice Ao48 t343.length co48) : Value).ownBlock ∧ some k_ ≠ ((.slice Ao61 t384.length co61) : Value).ownBlock ∧ some k_ ≠ ((.slice Ao171 t404.length co171) : Value).ownBlock) (.slice Ao70 t365.length co70) t388) ∧ Aside0 (Kd.R k46 46 wc w.heap.size (fun k_ => some k_ ≠ ((.slice Ao46 t340.length co46) : Value).ownBlock ∧ some k_ ≠ ((.slice Ao56 t383.length co56) : Value).ownBlock ∧ some k_ ≠ ((.slice Ao68 t362.length co68) : Value).ownBlock) (.slice Ao169 t401.length co169) t401) ∧ Aside0 (Kd.R k58 58 wc w.heap.size (fun k_ => some k_ ≠ ((.slice Ao48 t343.length co48) : Value).ownBlock ∧ some k_ ≠ ((.slice Ao61 t384.length co61) : Value).ownBlock ∧ some k_ ≠ ((.slice Ao70 t365.length co70) : Value).ownBlock) (.slice Ao171 t404.length co171) t404) ∧ Aside0 (wc.heap[gb325]? = some (.cells #[(.slice A0_0 l0_0.length c0_0), (.slice A0_1 l0_1.length c0_1), .int .i64 a0_2, .int .i64 a0_3] 30 (0, 0))) ∧ Aside0 (wc.heap[gb326]? = some (.cells #[.int .i64 a3_0, .int .i64 a3_1, .string a3_2] 42 (0, 0))) ∧ Aside0 (wc.heap[gb349]? = some (.cells #[(.slice Ao46 t340.length co46), (.slice Ao48 t343.length co48), .int .i64 t346, .int .i64 t347] 35 (0, 0))) ∧ Aside0 (wc.heap[gb358]? = some (.cells #[(.slice Ao56 t383.length co56), (.slice Ao61 t384.length co61), .int .i64 t356, .int .i64 t357] 35 (0, 0))) ∧ Aside0 (wc.heap[gb371]? = some (.cells #[(.slice Ao68 t362.length co68), (.slice Ao70 t365.length co70), .int .i64 t368, .int .i64 t369] 35 (0, 0))) ∧ Aside0 (wc.heap[gb410]? = some (.cells #[(.slice Ao169 t401.length co169), (.slice Ao171 t404.length co171), .int .i64 t407, .int .i64 t408] 35 (0, 0))) ∧ Aside0 (Below w.heap.size w wc))
             case first =>
              have H := HC152.out
              clear HC152
              replace H := zO H; obtain ⟨t411, A175, H⟩ := H
              by_cases c176 : t411 = true
              ·subst c176; replace H := zT H
               have H' := Aside0.mk H
               clear H
               have := NB410_325.out
               have := NB325_410.out
               have := NB410_326.out
               have := NB326_410.out
               have := NB410_349.out
               have := NB349_410.out
               have := NB410_358.out
               have := NB358_410.out
               have := NB410_371.out
               have := NB371_410.out
               obtain ⟨_, _, _, _, _, _, _, _⟩ := zC4 BK410
               have := NB349_325.out
               have := NB325_349.out
               have := NB349_326.out
               have := NB326_349.out
               have := NB349_358.out
               have := NB358_349.out
               have := NB349_371.out
               have := NB371_349.out
               obtain ⟨_, _, _, _, _, _, _, _⟩ := zC4 BK349
               go_wp2_with (first | ((with_reducible refine gate_callee (f := 15) rfl ?_); refine zG (some 107) Try.func15 #[.agg #[.slice Ao169 t401.length co169, .slice Ao171 t404.length co171, .int .i64 t407, .int .i64 t408], .agg #[.slice Ao46 t340.length co46, .slice Ao48 t343.length co48, .int .i64 t346, .int .i64 t347]] ?_; (with_reducible refine (laws_eqState.calls kj100 _ _ t401 _ _ t404 t407 t408 _ _ t340 _ _ t343 t346 t347 true _ ?side1 ?side2 ?side3 ?side4 ?side5 ?side6 ?side7 ?side8 A175.out).mono ?_); (case side1 => refine (Kd.R_reads' (e := 46) (base := w.heap.size) (ok := fun k_ => (some k_ ≠ (v391 : Value).ownBlock ∧ (some k_ ≠ (.slice Ao46 t340.length co46 : Value).ownBlock ∧ (some k_ ≠ (.slice Ao56 t383.length co56 : Value).ownBlock ∧ some k_ ≠ (.slice Ao68 t362.length co68 : Value).ownBlock)))) (n := t401.length) (c := co169) ?_).2.2; exact (by (with_reducible repeat (first | apply Kd.R_alloc | apply Kd.R_drewN | apply Kd.R_drew)); exact (Kd.R_mono (Kd.R_far (p := ⟨gb410, 3, none⟩) (Kd.R_far (p := ⟨gb410, 2, none⟩) (Kd.R_far (p := ⟨gb410, 1, none⟩) (Kd.R_far (p := ⟨gb410, 0, none⟩) (Kd.R_types HO403.out BK410.out (by decide)) (fun _ hk => hk.2) (.slice Ao169 t401.length co169)) (fun _ hk => hk.2) (.slice Ao171 t404.length co171)) (fun _ hk => hk.2) (.int .i64 t407)) (fun _ hk => hk.2) (.int .i64 t408)) (fun _ h_ => h_.1)))); (case side2 => exact (Kd.R_reads' HO403.out).2.1); (case side3 => refine (Kd.R_reads' (e := 58) (base := w.heap.size) (ok := fun k_ => (some k_ ≠ (v394 : Value).ownBlock ∧ (some k_ ≠ (.slice Ao48 t343.length co48 : Value).ownBlock ∧ (some k_ ≠ (.slice Ao61 t384.length co61 : Value).ownBlock ∧ some k_ ≠ (.slice Ao70 t365.length co70 : Value).ownBlock)))) (n := t404.length) (c := co171) ?_).2.2; exact (by (with_reducible repeat (first | apply Kd.R_alloc | apply Kd.R_drewN | apply Kd.R_drew)); exact (Kd.R_mono (Kd.R_far (p := ⟨gb410, 3, none⟩) (Kd.R_far (p := ⟨gb410, 2, none⟩) (Kd.R_far (p := ⟨gb410, 1, none⟩) (Kd.R_far (p := ⟨gb410, 0, none⟩) (Kd.R_types HO406.out BK410.out (by decide)) (fun _ hk => hk.2) (.slice Ao169 t401.length co169)) (fun _ hk => hk.2) (.slice Ao171 t404.length co171)) (fun _ hk => hk.2) (.int .i64 t407)) (fun _ hk => hk.2) (.int .i64 t408)) (fun _ h_ => h_.1)))); (case side4 => exact (Kd.R_reads' HO406.out).2.1); (case side5 => refine (Kd.R_reads' (e := 46) (base := w.heap.size) (ok := fun k_ => (some k_ ≠ (v391 : Value).ownBlock ∧ (some k_ ≠ (.slice Ao169 t401.length co169 : Value).ownBlock ∧ (some k_ ≠ (.slice Ao56 t383.length co56 : Value).ownBlock ∧ some k_ ≠ (.slice Ao68 t362.length co68 : Value).ownBlock)))) (n := t340.length) (c := co46) ?_).2.2; exact (by (with_reducible repeat (first | apply Kd.R_alloc | apply Kd.R_drewN | apply Kd.R_drew)); exact (Kd.R_mono (Kd.R_far (p := ⟨gb410, 3, none⟩) (Kd.R_far (p := ⟨gb410, 2, none⟩) (Kd.R_far (p := ⟨gb410, 1, none⟩) (Kd.R_far (p := ⟨gb410, 0, none⟩) (Kd.R_types HO_350000.out BK410.out (by decide)) (fun _ hk => hk.2) (.slice Ao169 t401.length co169)) (fun _ hk => hk.2) (.slice Ao171 t404.length co171)) (fun _ hk => hk.2) (.int .i64 t407)) (fun _ hk => hk.2) (.int .i64 t408)) (fun _ h_ => h_.1)))); (case side6 => exact (Kd.R_reads' HO_350000.out).2.1); (case side7 => refine (Kd.R_reads' (e := 58) (base := w.heap.size) (ok := fun k_ => (some k_ ≠ (v394 : Value).ownBlock ∧ (some k_ ≠ (.slice Ao171 t404.length co171 : Value).ownBlock ∧ (some k_ ≠ (.slice Ao61 t384.length co61 : Value).ownBlock ∧ some k_ ≠ (.slice Ao70 t365.length co70 : Value).ownBlock)))) (n := t343.length) (c := co48) ?_).2.2; exact (by (with_reducible repeat (first | apply Kd.R_alloc | apply Kd.R_drewN | apply Kd.R_drew)); exact (Kd.R_mono (Kd.R_far (p := ⟨gb410, 3, none⟩) (Kd.R_far (p := ⟨gb410, 2, none⟩) (Kd.R_far (p := ⟨gb410, 1, none⟩) (Kd.R_far (p := ⟨gb410, 0, none⟩) (Kd.R_types HO_350001.out BK410.out (by decide)) (fun _ hk => hk.2) (.slice Ao169 t401.length co169)) (fun _ hk => hk.2) (.slice Ao171 t404.length co171)) (fun _ hk => hk.2) (.int .i64 t407)) (fun _ hk => hk.2) (.int .i64 t408)) (fun _ h_ => h_.1)))); (case side8 => exact (Kd.R_reads' HO_350001.out).2.1); rintro e w188 ⟨rfl, hb⟩; refine ⟨_, rfl, ?_⟩; have n_ := z17 (Kd.R_below (by (with_reducible repeat (first | apply Kd.R_alloc | apply Kd.R_drewN | apply Kd.R_drew)); exact (Kd.R_mono (Kd.R_far (p := ⟨gb410, 3, none⟩) (Kd.R_far (p := ⟨gb410, 2, none⟩) (Kd.R_far (p := ⟨gb410, 1, none⟩) (Kd.R_far (p := ⟨gb410, 0, none⟩) (Kd.R_types HO_350000.out BK410.out (by decide)) (fun _ hk => hk.2) (.slice Ao169 t401.length co169)) (fun _ hk => hk.2) (.slice Ao171 t404.length co171)) (fun _ hk => hk.2) (.int .i64 t407)) (fun _ hk => hk.2) (.int .i64 t408)) (fun _ h_ => h_.1))) hb) (Kd.R_below (by (with_reducible repeat (first | apply Kd.R_alloc | apply Kd.R_drewN | apply Kd.R_drew)); exact (Kd.R_mono (Kd.R_far (p := ⟨gb410, 3, none⟩) (Kd.R_far (p := ⟨gb410, 2, none⟩) (Kd.R_far (p := ⟨gb410, 1, none⟩) (Kd.R_far (p := ⟨gb410, 0, none⟩) (Kd.R_types HO_350001.out BK410.out (by decide)) (fun _ hk => hk.2) (.slice Ao169 t401.length co169)) (fun _ hk => hk.2) (.slice Ao171 t404.length co171)) (fun _ hk => hk.2) (.int .i64 t407)) (fun _ hk => hk.2) (.int .i64 t408)) (fun _ h_ => h_.1))) hb) (Kd.R_below (by (with_reducible repeat (first | apply Kd.R_alloc | apply Kd.R_drewN | apply Kd.R_drew)); exact (Kd.R_mono (Kd.R_far (p := ⟨gb410, 3, none⟩) (Kd.R_far (p := ⟨gb410, 2, none⟩) (Kd.R_far (p := ⟨gb410, 1, none⟩) (Kd.R_far (p := ⟨gb410, 0, none⟩) (Kd.R_types HO_359000.out BK410.out (by decide)) (fun _ hk => hk.2) (.slice Ao169 t401.length co169)) (fun _ hk => hk.2) (.slice Ao171 t404.length co171)) (fun _ hk => hk.2) (.int .i64 t407)) (fun _ hk => hk.2) (.int .i64 t408)) (fun _ h_ => h_.1))) hb) (Kd.R_below (by (with_reducible repeat (first | apply Kd.R_alloc | apply Kd.R_drewN | apply Kd.R_drew)); exact (Kd.R_mono (Kd.R_far (p := ⟨gb410, 3, none⟩) (Kd.R_far (p := ⟨gb410, 2, none⟩) (Kd.R_far (p := ⟨gb410, 1, none⟩) (Kd.R_far (p := ⟨gb410, 0, none⟩) (Kd.R_types HO_359001.out BK410.out (by decide)) (fun _ hk => hk.2) (.slice Ao169 t401.length co169)) (fun _ hk => hk.2) (.slice Ao171 t404.length co171)) (fun _ hk => hk.2) (.int .i64 t407)) (fun _ hk => hk.2) (.int .i64 t408)) (fun _ h_ => h_.1))) hb) (Kd.R_below (by (with_reducible repeat (first | apply Kd.R_alloc | apply Kd.R_drewN | apply Kd.R_drew)); exact (Kd.R_mono (Kd.R_far (p := ⟨gb410, 3, none⟩) (Kd.R_far (p := ⟨gb410, 2, none⟩) (Kd.R_far (p := ⟨gb410, 1, none⟩) (Kd.R_far (p := ⟨gb410, 0, none⟩) (Kd.R_types HO_372000.out BK410.out (by decide)) (fun _ hk => hk.2) (.slice Ao169 t401.length co169)) (fun _ hk => hk.2) (.slice Ao171 t404.length co171)) (fun _ hk => hk.2) (.int .i64 t407)) (fun _ hk => hk.2) (.int .i64 t408)) (fun _ h_ => h_.1))) hb) (Kd.R_below (by (with_reducible repeat (first | apply Kd.R_alloc | apply Kd.R_drewN | apply Kd.R_drew)); exact (Kd.R_mono (Kd.R_far (p := ⟨gb410, 3, none⟩) (Kd.R_far (p := ⟨gb410, 2, none⟩) (Kd.R_far (p := ⟨gb410, 1, none⟩) (Kd.R_far (p := ⟨gb410, 0, none⟩) (Kd.R_types HO_372001.out BK410.out (by decide)) (fun _ hk => hk.2) (.slice Ao169 t401.length co169)) (fun _ hk => hk.2) (.slice Ao171 t404.length co171)) (fun _ hk => hk.2) (.int .i64 t407)) (fun _ hk => hk.2) (.int .i64 t408)) (fun _ h_ => h_.1))) hb) (Kd.R_below (by (with_reducible repeat (first | apply Kd.R_alloc | apply Kd.R_drewN | apply Kd.R_drew)); exact (Kd.R_mono (Kd.R_far (p := ⟨gb410, 3, none⟩) (Kd.R_far (p := ⟨gb410, 2, none⟩) (Kd.R_far (p := ⟨gb410, 1, none⟩) (Kd.R_far (p := ⟨gb410, 0, none⟩) (Kd.R_types HO392.out BK410.out (by decide)) (fun _ hk => hk.2) (.slice Ao169 t401.length co169)) (fun _ hk => hk.2) (.slice Ao171 t404.length co171)) (fun _ hk => hk.2) (.int .i64 t407)) (fun _ hk => hk.2) (.int .i64 t408)) (fun _ h_ => h_.1))) hb) (Kd.R_below (by (with_reducible repeat (first | apply Kd.R_alloc | apply Kd.R_drewN | apply Kd.R_drew)); exact (Kd.R_mono (Kd.R_far (p := ⟨gb410, 3, none⟩) (Kd.R_far (p := ⟨gb410, 2, none⟩) (Kd.R_far (p := ⟨gb410, 1, none⟩) (Kd.R_far (p := ⟨gb410, 0, none⟩) (Kd.R_types HO395.out BK410.out (by decide)) (fun _ hk => hk.2) (.slice Ao169 t401.length co169)) (fun _ hk => hk.2) (.slice Ao171 t404.length co171)) (fun _ hk => hk.2) (.int .i64 t407)) (fun _ hk => hk.2) (.int .i64 t408)) (fun _ h_ => h_.1))) hb) (Kd.R_below (by (with_reducible repeat (first | apply Kd.R_alloc | apply Kd.R_drewN | apply Kd.R_drew)); exact (Kd.R_mono (Kd.R_far (p := ⟨gb410, 3, none⟩) (Kd.R_far (p := ⟨gb410, 2, none⟩) (Kd.R_far (p := ⟨gb410, 1, none⟩) (Kd.R_far (p := ⟨gb410, 0, none⟩) (Kd.R_types HO403.out BK410.out (by decide)) (fun _ hk => hk.2) (.slice Ao169 t401.length co169)) (fun _ hk => hk.2) (.slice Ao171 t404.length co171)) (fun _ hk => hk.2) (.int .i64 t407)) (fun _ hk => hk.2) (.int .i64 t408)) (fun _ h_ => h_.1))) hb) (Kd.R_below (by (with_reducible repeat (first | apply Kd.R_alloc | apply Kd.R_drewN | apply Kd.R_drew)); exact (Kd.R_mono (Kd.R_far (p := ⟨gb410, 3, none⟩) (Kd.R_far (p := ⟨gb410, 2, none⟩) (Kd.R_far (p := ⟨gb410, 1, none⟩) (Kd.R_far (p := ⟨gb410, 0, none⟩) (Kd.R_types HO406.out BK410.out (by decide)) (fun _ hk => hk.2) (.slice Ao169 t401.length co169)) (fun _ hk => hk.2) (.slice Ao171 t404.length co171)) (fun _ hk => hk.2) (.int .i64 t407)) (fun _ hk => hk.2) (.int .i64 t408)) (fun _ h_ => h_.1))) hb) (zb BK325 hb) (zb BK326 hb) (zb BK349 hb) (zb BK358 hb) (zb BK371 hb) (zq #[.slice Ao169 t401.length co169, .slice Ao171 t404.length co171, .int .i64 t407, .int .i64 t408] BK410 hb) (zs hb); clear HO_350000 HO_350001 HO_359000 HO_359001 HO_372000 HO_372001 HO392 HO395 HO403 HO406 BK325 BK326 BK349 BK358 BK371 BK410 HB; obtain ⟨HO_350000, HO_350001, HO_359000, HO_359001, HO_372000, HO_372001, HO392, HO395, HO403, HO406, BK325, BK326, BK349, BK358, BK371, BK410, HB⟩ := n_; (try clear hb)))
               go_meet
               case rel => exact ⟨_, ((t409 != t348)), zS, H', ⟨by have := HJ29.out; have := HJ100.out; first | omega | exact Nat.le_refl _⟩, ⟨by (try simp only [hl359000_100]); (try simp only [hl359001_100]); (with_reducible repeat (first | apply Kd.R_alloc | apply Kd.R_drewN | apply Kd.R_drew)); exact Kd.R_mono HO_350000.out (fun _ hk => ⟨hk.2.2.1, ⟨hk.2.2.2, hk.2.1⟩⟩)⟩, ⟨by (try simp only [hl359000_100]); (try simp only [hl359001_100]); (with_reducible repeat (first | apply Kd.R_alloc | apply Kd.R_drewN | apply Kd.R_drew)); exact Kd.R_mono HO_350001.out (fun _ hk => ⟨hk.2.2.1, ⟨hk.2.2.2, hk.2.1⟩⟩)⟩, ⟨by (try simp only [hl359000_100]); (try simp only [hl359001_100]); (with_reducible repeat (first | apply Kd.R_alloc | apply Kd.R_drewN | apply Kd.R_drew)); exact Kd.R_mono HO_359000.out (fun _ hk => ⟨hk.2.2.1, ⟨hk.2.2.2, hk.2.1⟩⟩)⟩, ⟨by (try simp only [hl359000_100]); (try simp only [hl359001_100]); (with_reducible repeat (first | apply Kd.R_alloc | apply Kd.R_drewN | apply Kd.R_drew)); exact Kd.R_mono HO_359001.out (fun _ hk => ⟨hk.2.2.1, ⟨hk.2.2.2, hk.2.1⟩⟩)⟩, ⟨by (try simp only [hl359000_100]); (try simp only [hl359001_100]); (with_reducible repeat (first | apply Kd.R_alloc | apply Kd.R_drewN | apply Kd.R_drew)); exact Kd.R_mono HO_372000.out (fun _ hk => ⟨hk.2.2.1, ⟨hk.2.2.2, hk.2.1⟩⟩)⟩, ⟨by (try simp only [hl359000_100]); (try simp only [hl359001_100]); (with_reducible repeat (first | apply Kd.R_alloc | apply Kd.R_drewN | apply Kd.R_drew)); exact Kd.R_mono HO_372001.out (fun _ hk => ⟨hk.2.2.1, ⟨hk.2.2.2, hk.2.1⟩⟩)⟩, ⟨by (try simp only [hl359000_100]); (try simp only [hl359001_100]); (with_reducible repeat (first | apply Kd.R_alloc | apply Kd.R_drewN | apply Kd.R_drew)); exact Kd.R_mono HO403.out (fun _ hk => ⟨hk.2.1, ⟨hk.2.2.1, hk.2.2.2⟩⟩)⟩, ⟨by (try simp only [hl359000_100]); (try simp only [hl359001_100]); (with_reducible repeat (first | apply Kd.R_alloc | apply Kd.R_drewN | apply Kd.R_drew)); exact Kd.R_mono HO406.out (fun _ hk => ⟨hk.2.1, ⟨hk.2.2.1, hk.2.2.2⟩⟩)⟩, ⟨by (try simp only [hl359000_100]); (try simp only [hl359001_100]); (with_reducible repeat (first | refine blk_drewN ?_ _ | refine blk_drew ?_ | refine blk_alloc ?_ _)); exact BK325.out⟩, ⟨by (try simp only [hl359000_100]); (try simp only [hl359001_100]); (with_reducible repeat (first | refine blk_drewN ?_ _ | refine blk_drew ?_ | refine blk_alloc ?_ _)); exact BK326.out⟩, ⟨by (try simp only [hl359000_100]); (try simp only [hl359001_100]); (with_reducible repeat (first | refine blk_drewN ?_ _ | refine blk_drew ?_ | refine blk_alloc ?_ _)); exact BK349.out⟩, ⟨by (try simp only [hl359000_100]); (try simp only [hl359001_100]); (with_reducible repeat (first | refine blk_drewN ?_ _ | refine blk_drew ?_ | refine blk_alloc ?_ _)); exact BK358.out⟩, ⟨by (try simp only [hl359000_100]); (try simp only [hl359001_100]); (with_reducible repeat (first | refine blk_drewN ?_ _ | refine blk_drew ?_ | refine blk_alloc ?_ _)); exact BK371.out⟩, ⟨by (try simp only [hl359000_100]); (try simp only [hl359001_100]); (with_reducible repeat (first | refine blk_drewN ?_ _ | refine blk_drew ?_ | refine blk_alloc ?_ _)); exact BK410.out⟩, ⟨zB⟩⟩
              ·replace c176 := Bool.eq_false_iff.mpr c176; subst c176; replace H := zN H
               have H' := Aside0.mk H
               clear H
               have := NB410_325.out
               have := NB325_410.out
               have := NB410_326.out
               have := NB326_410.out
               have := NB410_349.out
               have := NB349_410.out
               have := NB410_358.out
               have := NB358_410.out
               have := NB410_371.out
               have := NB371_410.out
               obtain ⟨_, _, _, _, _, _, _, _⟩ := zC4 BK410
               have := NB349_325.out
               have := NB325_349.out
               have := NB349_326.out
               have := NB326_349.out
               have := NB349_358.out
               have := NB358_349.out
               have := NB349_371.out
               have := NB371_349.out
               obtain ⟨_, _, _, _, _, _, _, _⟩ := zC4 BK349
               go_wp2_with (first | ((with_reducible refine gate_callee (f := 15) rfl ?_); refine zG (some 107) Try.func15 #[.agg #[.slice Ao169 t401.length co169, .slice Ao171 t404.length co171, .int .i64 t407, .int .i64 t408], .agg #[.slice Ao46 t340.length co46, .slice Ao48 t343.length co48, .int .i64 t346, .int .i64 t347]] ?_; (with_reducible refine (laws_eqState.calls kj100 _ _ t401 _ _ t404 t407 t408 _ _ t340 _ _ t343 t346 t347 false _ ?side1 ?side2 ?side3 ?side4 ?side5 ?side6 ?side7 ?side8 A175.out).mono ?_); (case side1 => refine (Kd.R_reads' (e := 46) (base := w.heap.size) (ok := fun k_ => (some k_ ≠ (v391 : Value).ownBlock ∧ (some k_ ≠ (.slice Ao46 t340.length co46 : Value).ownBlock ∧ (some k_ ≠ (.slice Ao56 t383.length co56 : Value).ownBlock ∧ some k_ ≠ (.slice Ao68 t362.length co68 : Value).ownBlock)))) (n := t401.length) (c := co169) ?_).2.2; exact (by (with_reducible repeat (first | apply Kd.R_alloc | apply Kd.R_drewN | apply Kd.R_drew)); exact (Kd.R_mono (Kd.R_far (p := ⟨gb410, 3, none⟩) (Kd.R_far (p := ⟨gb410, 2, none⟩) (Kd.R_far (p := ⟨gb410, 1, none⟩) (Kd.R_far (p := ⟨gb410, 0, none⟩) (Kd.R_types HO403.out BK410.out (by decide)) (fun _ hk => hk.2) (.slice Ao169 t401.length co169)) (fun _ hk => hk.2) (.slice Ao171 t404.length co171)) (fun _ hk => hk.2) (.int .i64 t407)) (fun _ hk => hk.2) (.int .i64 t408)) (fun _ h_ => h_.1)))); (case side2 => exact (Kd.R_reads' HO403.out).2.1); (case side3 => refine (Kd.R_reads' (e := 58) (base := w.heap.size) (ok := fun k_ => (some k_ ≠ (v394 : Value).ownBlock ∧ (some k_ ≠ (.slice Ao48 t343.length co48 : Value).ownBlock ∧ (some k_ ≠ (.slice Ao61 t384.length co61 : Value).ownBlock ∧ some k_ ≠ (.slice Ao70 t365.length co70 : Value).ownBlock)))) (n := t404.length) (c := co171) ?_).2.2; exact (by (with_reducible repeat (first | apply Kd.R_alloc | apply Kd.R_drewN | apply Kd.R_drew)); exact (Kd.R_mono (Kd.R_far (p := ⟨gb410, 3, none⟩) (Kd.R_far (p := ⟨gb410, 2, none⟩) (Kd.R_far (p := ⟨gb410, 1, none⟩) (Kd.R_far (p := ⟨gb410, 0, none⟩) (Kd.R_types HO406.out BK410.out (by decide)) (fun _ hk => hk.2) (.slice Ao169 t401.length co169)) (fun _ hk => hk.2) (.slice Ao171 t404.length co171)) (fun _ hk => hk.2) (.int .i64 t407)) (fun _ hk => hk.2) (.int .i64 t408)) (fun _ h_ => h_.1)))); (case side4 => exact (Kd.R_reads' HO406.out).2.1); (case side5 => refine (Kd.R_reads' (e := 46) (base := w.heap.size) (ok := fun k_ => (some k_ ≠ (v391 : Value).ownBlock ∧ (some k_ ≠ (.slice Ao169 t401.length co169 : Value).ownBlock ∧ (some k_ ≠ (.slice Ao56 t383.length co56 : Value).ownBlock ∧ some k_ ≠ (.slice Ao68 t362.length co68 : Value).ownBlock)))) (n := t340.length) (c := co46) ?_).2.2; exact (by (with_reducible repeat (first | apply Kd.R_alloc | apply Kd.R_drewN | apply Kd.R_drew)); exact (Kd.R_mono (Kd.R_far (p := ⟨gb410, 3, none⟩) (Kd.R_far (p := ⟨gb410, 2, none⟩) (Kd.R_far (p := ⟨gb410, 1, none⟩) (Kd.R_far (p := ⟨gb410, 0, none⟩) (Kd.R_types HO_350000.out BK410.out (by decide)) (fun _ hk => hk.2) (.slice Ao169 t401.length co169)) (fun _ hk => hk.2) (.slice Ao171 t404.length co171)) (fun _ hk => hk.2) (.int .i64 t407)) (fun _ hk => hk.2) (.int .i64 t408)) (fun _ h_ => h_.1)))); (case side6 => exact (Kd.R_reads' HO_350000.out).2.1); (case side7 => refine (Kd.R_reads' (e := 58) (base := w.heap.size) (ok := fun k_ => (some k_ ≠ (v394 : Value).ownBlock ∧ (some k_ ≠ (.slice Ao171 t404.length co171 : Value).ownBlock ∧ (some k_ ≠ (.slice Ao61 t384.length co61 : Value).ownBlock ∧ some k_ ≠ (.slice Ao70 t365.length co70 : Value).ownBlock)))) (n := t343.length) (c := co48) ?_).2.2; exact (by (with_reducible repeat (first | apply Kd.R_alloc | apply Kd.R_drewN | apply Kd.R_drew)); exact (Kd.R_mono (Kd.R_far (p := ⟨gb410, 3, none⟩) (Kd.R_far (p := ⟨gb410, 2, none⟩) (Kd.R_far (p := ⟨gb410, 1, none⟩) (Kd.R_far (p := ⟨gb410, 0, none⟩) (Kd.R_types HO_350001.out BK410.out (by decide)) (fun _ hk => hk.2) (.slice Ao169 t401.length co169)) (fun _ hk => hk.2) (.slice Ao171 t404.length co171)) (fun _ hk => hk.2) (.int .i64 t407)) (fun _ hk => hk.2) (.int .i64 t408)) (fun _ h_ => h_.1)))); (case side8 => exact (Kd.R_reads' HO_350001.out).2.1); rintro e w200 ⟨rfl, hb⟩; refine ⟨_, rfl, ?_⟩; have n_ := z17 (Kd.R_below (by (with_reducible repeat (first | apply Kd.R_alloc | apply Kd.R_drewN | apply Kd.R_drew)); exact (Kd.R_mono (Kd.R_far (p := ⟨gb410, 3, none⟩) (Kd.R_far (p := ⟨gb410, 2, none⟩) (Kd.R_far (p := ⟨gb410, 1, none⟩) (Kd.R_far (p := ⟨gb410, 0, none⟩) (Kd.R_types HO_350000.out BK410.out (by decide)) (fun _ hk => hk.2) (.slice Ao169 t401.length co169)) (fun _ hk => hk.2) (.slice Ao171 t404.length co171)) (fun _ hk => hk.2) (.int .i64 t407)) (fun _ hk => hk.2) (.int .i64 t408)) (fun _ h_ => h_.1))) hb) (Kd.R_below (by (with_reducible repeat (first | apply Kd.R_alloc | apply Kd.R_drewN | apply Kd.R_drew)); exact (Kd.R_mono (Kd.R_far (p := ⟨gb410, 3, none⟩) (Kd.R_far (p := ⟨gb410, 2, none⟩) (Kd.R_far (p := ⟨gb410, 1, none⟩) (Kd.R_far (p := ⟨gb410, 0, none⟩) (Kd.R_types HO_350001.out BK410.out (by decide)) (fun _ hk => hk.2) (.slice Ao169 t401.length co169)) (fun _ hk => hk.2) (.slice Ao171 t404.length co171)) (fun _ hk => hk.2) (.int .i64 t407)) (fun _ hk => hk.2) (.int .i64 t408)) (fun _ h_ => h_.1))) hb) (Kd.R_below (by (with_reducible repeat (first | apply Kd.R_alloc | apply Kd.R_drewN | apply Kd.R_drew)); exact (Kd.R_mono (Kd.R_far (p := ⟨gb410, 3, none⟩) (Kd.R_far (p := ⟨gb410, 2, none⟩) (Kd.R_far (p := ⟨gb410, 1, none⟩) (Kd.R_far (p := ⟨gb410, 0, none⟩) (Kd.R_types HO_359000.out BK410.out (by decide)) (fun _ hk => hk.2) (.slice Ao169 t401.length co169)) (fun _ hk => hk.2) (.slice Ao171 t404.length co171)) (fun _ hk => hk.2) (.int .i64 t407)) (fun _ hk => hk.2) (.int .i64 t408)) (fun _ h_ => h_.1))) hb) (Kd.R_below (by (with_reducible repeat (first | apply Kd.R_alloc | apply Kd.R_drewN | apply Kd.R_drew)); exact (Kd.R_mono (Kd.R_far (p := ⟨gb410, 3, none⟩) (Kd.R_far (p := ⟨gb410, 2, none⟩) (Kd.R_far (p := ⟨gb410, 1, none⟩) (Kd.R_far (p := ⟨gb410, 0, none⟩) (Kd.R_types HO_359001.out BK410.out (by decide)) (fun _ hk => hk.2) (.slice Ao169 t401.length co169)) (fun _ hk => hk.2) (.slice Ao171 t404.length co171)) (fun _ hk => hk.2) (.int .i64 t407)) (fun _ hk => hk.2) (.int .i64 t408)) (fun _ h_ => h_.1))) hb) (Kd.R_below (by (with_reducible repeat (first | apply Kd.R_alloc | apply Kd.R_drewN | apply Kd.R_drew)); exact (Kd.R_mono (Kd.R_far (p := ⟨gb410, 3, none⟩) (Kd.R_far (p := ⟨gb410, 2, none⟩) (Kd.R_far (p := ⟨gb410, 1, none⟩) (Kd.R_far (p := ⟨gb410, 0, none⟩) (Kd.R_types HO_372000.out BK410.out (by decide)) (fun _ hk => hk.2) (.slice Ao169 t401.length co169)) (fun _ hk => hk.2) (.slice Ao171 t404.length co171)) (fun _ hk => hk.2) (.int .i64 t407)) (fun _ hk => hk.2) (.int .i64 t408)) (fun _ h_ => h_.1))) hb) (Kd.R_below (by (with_reducible repeat (first | apply Kd.R_alloc | apply Kd.R_drewN | apply Kd.R_drew)); exact (Kd.R_mono (Kd.R_far (p := ⟨gb410, 3, none⟩) (Kd.R_far (p := ⟨gb410, 2, none⟩) (Kd.R_far (p := ⟨gb410, 1, none⟩) (Kd.R_far (p := ⟨gb410, 0, none⟩) (Kd.R_types HO_372001.out BK410.out (by decide)) (fun _ hk => hk.2) (.slice Ao169 t401.length co169)) (fun _ hk => hk.2) (.slice Ao171 t404.length co171)) (fun _ hk => hk.2) (.int .i64 t407)) (fun _ hk => hk.2) (.int .i64 t408)) (fun _ h_ => h_.1))) hb) (Kd.R_below (by (with_reducible repeat (first | apply Kd.R_alloc | apply Kd.R_drewN | apply Kd.R_drew)); exact (Kd.R_mono (Kd.R_far (p := ⟨gb410, 3, none⟩) (Kd.R_far (p := ⟨gb410, 2, none⟩) (Kd.R_far (p := ⟨gb410, 1, none⟩) (Kd.R_far (p := ⟨gb410, 0, none⟩) (Kd.R_types HO392.out BK410.out (by decide)) (fun _ hk => hk.2) (.slice Ao169 t401.length co169)) (fun _ hk => hk.2) (.slice Ao171 t404.length co171)) (fun _ hk => hk.2) (.int .i64 t407)) (fun _ hk => hk.2) (.int .i64 t408)) (fun _ h_ => h_.1))) hb) (Kd.R_below (by (with_reducible repeat (first | apply Kd.R_alloc | apply Kd.R_drewN | apply Kd.R_drew)); exact (Kd.R_mono (Kd.R_far (p := ⟨gb410, 3, none⟩) (Kd.R_far (p := ⟨gb410, 2, none⟩) (Kd.R_far (p := ⟨gb410, 1, none⟩) (Kd.R_far (p := ⟨gb410, 0, none⟩) (Kd.R_types HO395.out BK410.out (by decide)) (fun _ hk => hk.2) (.slice Ao169 t401.length co169)) (fun _ hk => hk.2) (.slice Ao171 t404.length co171)) (fun _ hk => hk.2) (.int .i64 t407)) (fun _ hk => hk.2) (.int .i64 t408)) (fun _ h_ => h_.1))) hb) (Kd.R_below (by (with_reducible repeat (first | apply Kd.R_alloc | apply Kd.R_drewN | apply Kd.R_drew)); exact (Kd.R_mono (Kd.R_far (p := ⟨gb410, 3, none⟩) (Kd.R_far (p := ⟨gb410, 2, none⟩) (Kd.R_far (p := ⟨gb410, 1, none⟩) (Kd.R_far (p := ⟨gb410, 0, none⟩) (Kd.R_types HO403.out BK410.out (by decide)) (fun _ hk => hk.2) (.slice Ao169 t401.length co169)) (fun _ hk => hk.2) (.slice Ao171 t404.length co171)) (fun _ hk => hk.2) (.int .i64 t407)) (fun _ hk => hk.2) (.int .i64 t408)) (fun _ h_ => h_.1))) hb) (Kd.R_below (by (with_reducible repeat (first | apply Kd.R_alloc | apply Kd.R_drewN | apply Kd.R_drew)); exact (Kd.R_mono (Kd.R_far (p := ⟨gb410, 3, none⟩) (Kd.R_far (p := ⟨gb410, 2, none⟩) (Kd.R_far (p := ⟨gb410, 1, none⟩) (Kd.R_far (p := ⟨gb410, 0, none⟩) (Kd.R_types HO406.out BK410.out (by decide)) (fun _ hk => hk.2) (.slice Ao169 t401.length co169)) (fun _ hk => hk.2) (.slice Ao171 t404.length co171)) (fun _ hk => hk.2) (.int .i64 t407)) (fun _ hk => hk.2) (.int .i64 t408)) (fun _ h_ => h_.1))) hb) (zb BK325 hb) (zb BK326 hb) (zb BK349 hb) (zb BK358 hb) (zb BK371 hb) (zq #[.slice Ao169 t401.length co169, .slice Ao171 t404.length co171, .int .i64 t407, .int .i64 t408] BK410 hb) (zs hb); clear HO_350000 HO_350001 HO_359000 HO_359001 HO_372000 HO_372001 HO392 HO395 HO403 HO406 BK325 BK326 BK349 BK358 BK371 BK410 HB; obtain ⟨HO_350000, HO_350001, HO_359000, HO_359001, HO_372000, HO_372001, HO392, HO395, HO403, HO406, BK325, BK326, BK349, BK358, BK371, BK410, HB⟩ := n_; (try clear hb)))
               go_meet
               case rel => exact ⟨_, (true), zS, H', ⟨by have := HJ29.out; have := HJ100.out; first | omega | exact Nat.le_refl _⟩, ⟨by (try simp only [hl359000_100]); (try simp only [hl359001_100]); (with_reducible repeat (first | apply Kd.R_alloc | apply Kd.R_drewN | apply Kd.R_drew)); exact Kd.R_mono HO_350000.out (fun _ hk => ⟨hk.2.2.1, ⟨hk.2.2.2, hk.2.1⟩⟩)⟩, ⟨by (try simp only [hl359000_100]); (try simp only [hl359001_100]); (with_reducible repeat (first | apply Kd.R_alloc | apply Kd.R_drewN | apply Kd.R_drew)); exact Kd.R_mono HO_350001.out (fun _ hk => ⟨hk.2.2.1, ⟨hk.2.2.2, hk.2.1⟩⟩)⟩, ⟨by (try simp only [hl359000_100]); (try simp only [hl359001_100]); (with_reducible repeat (first | apply Kd.R_alloc | apply Kd.R_drewN | apply Kd.R_drew)); exact Kd.R_mono HO_359000.out (fun _ hk => ⟨hk.2.2.1, ⟨hk.2.2.2, hk.2.1⟩⟩)⟩, ⟨by (try simp only [hl359000_100]); (try simp only [hl359001_100]); (with_reducible repeat (first | apply Kd.R_alloc | apply Kd.R_drewN | apply Kd.R_drew)); exact Kd.R_mono HO_359001.out (fun _ hk => ⟨hk.2.2.1, ⟨hk.2.2.2, hk.2.1⟩⟩)⟩, ⟨by (try simp only [hl359000_100]); (try simp only [hl359001_100]); (with_reducible repeat (first | apply Kd.R_alloc | apply Kd.R_drewN | apply Kd.R_drew)); exact Kd.R_mono HO_372000.out (fun _ hk => ⟨hk.2.2.1, ⟨hk.2.2.2, hk.2.1⟩⟩)⟩, ⟨by (try simp only [hl359000_100]); (try simp only [hl359001_100]); (with_reducible repeat (first | apply Kd.R_alloc | apply Kd.R_drewN | apply Kd.R_drew)); exact Kd.R_mono HO_372001.out (fun _ hk => ⟨hk.2.2.1, ⟨hk.2.2.2, hk.2.1⟩⟩)⟩, ⟨by (try simp only [hl359000_100]); (try simp only [hl359001_100]); (with_reducible repeat (first | apply Kd.R_alloc | apply Kd.R_drewN | apply Kd.R_drew)); exact Kd.R_mono HO403.out (fun _ hk => ⟨hk.2.1, ⟨hk.2.2.1, hk.2.2.2⟩⟩)⟩, ⟨by (try simp only [hl359000_100]); (try simp only [hl359001_100]); (with_reducible repeat (first | apply Kd.R_alloc | apply Kd.R_drewN | apply Kd.R_drew)); exact Kd.R_mono HO406.out (fun _ hk => ⟨hk.2.1, ⟨hk.2.2.1, hk.2.2.2⟩⟩)⟩, ⟨by (try simp only [hl359000_100]); (try simp only [hl359001_100]); (with_reducible repeat (first | refine blk_drewN ?_ _ | refine blk_drew ?_ | refine blk_alloc ?_ _)); exact BK325.out⟩, ⟨by (try simp only [hl359000_100]); (try simp only [hl359001_100]); (with_reducible repeat (first | refine blk_drewN ?_ _ | refine blk_drew ?_ | refine blk_alloc ?_ _)); exact BK326.out⟩, ⟨by (try simp only [hl359000_100]); (try simp only [hl359001_100]); (with_reducible repeat (first | refine blk_drewN ?_ _ | refine blk_drew ?_ | refine blk_alloc ?_ _)); exact BK349.out⟩, ⟨by (try simp only [hl359000_100]); (try simp only [hl359001_100]); (with_reducible repeat (first | refine blk_drewN ?_ _ | refine blk_drew ?_ | refine blk_alloc ?_ _)); exact BK358.out⟩, ⟨by (try simp only [hl359000_100]); (try simp only [hl359001_100]); (with_reducible repeat (first | refine blk_drewN ?_ _ | refine blk_drew ?_ | refine blk_alloc ?_ _)); exact BK371.out⟩, ⟨by (try simp only [hl359000_100]); (try simp only [hl359001_100]); (with_reducible repeat (first | refine blk_drewN ?_ _ | refine blk_drew ?_ | refine blk_alloc ?_ _)); exact BK410.out⟩, ⟨zB⟩⟩
             case rest =>
              clear HC152
              obtain ⟨kq, x113_151, rfl, HA, HJ151, HO_350000, HO_350001, HO_359000, HO_359001, HO_372000, HO_372001, HO_411000, HO_411001, BK325, BK326, BK349, BK358, BK371, BK410, HB⟩ := hcut
              have hl372000_151 := (Kd.R_reads' HO_372000.out).1
              rw [hl372000_151] at HO_372000
              (try simp only [hl372000_151])
              (try simp only [hl372000_151] at BK325)
              (try simp only [hl372000_151] at BK326)
              (try simp only [hl372000_151] at BK349)
              (try simp only [hl372000_151] at BK358)
              (try simp only [hl372000_151] at BK371)
              (try simp only [hl372000_151] at BK410)
              (try simp only [hl372000_151] at HO_350000)
              (try simp only [hl372000_151] at HO_350001)
              (try simp only [hl372000_151] at HO_359000)
              (try simp only [hl372000_151] at HO_359001)
              (try simp only [hl372000_151] at HO_372001)
              (try simp only [hl372000_151] at HO_411000)
              (try simp only [hl372000_151] at HO_411001)
              have hl372001_151 := (Kd.R_reads' HO_372001.out).1
              rw [hl372001_151] at HO_372001
              (try simp only [hl372001_151])
              (try simp only [hl372001_151] at BK325)
              (try simp only [hl372001_151] at BK326)
              (try simp only [hl372001_151] at BK349)
              (try simp only [hl372001_151] at BK358)
              (try simp only [hl372001_151] at BK371)
              (try simp only [hl372001_151] at BK410)
              (try simp only [hl372001_151] at HO_350000)
              (try simp only [hl372001_151] at HO_350001)
              (try simp only [hl372001_151] at HO_359000)
              (try simp only [hl372001_151] at HO_359001)
              (try simp only [hl372001_151] at HO_372000)
              (try simp only [hl372001_151] at HO_411000)
              (try simp only [hl372001_151] at HO_411001)
              cases kq with
              | zero => exact absurd HA.out (by simp [laws_FnExactCellPut.j2])
              | succ kj151 =>
               have H := HA.out
               clear HA
               simp only [laws_FnExactCellPut.j2] at H
               by_cases c201 : x113_151 = true
               ·subst c201; replace H := zT H
                obtain rfl := Option.some.inj H
                go_wp2
                go_ret
                exact ⟨zE, zB⟩
               ·replace c201 := Bool.eq_false_iff.mpr c201; subst c201; replace H := zN H
                replace H := zO H; obtain ⟨t412, A202, H⟩ := H
                replace H := zI H; obtain ⟨c203, H⟩ | ⟨c203, H⟩ := H
                ·have c203b0 := decide_eq_true c203
                 clear c203
                 obtain rfl := Option.some.inj H
                 have := NB371_325.out
                 have := NB325_371.out
                 have := NB371_326.out
                 have := NB326_371.out
                 have := NB371_349.out
                 have := NB349_371.out
                 have := NB371_358.out
                 have := NB358_371.out
                 have := NB371_410.out
                 have := NB410_371.out
                 obtain ⟨_, _, _, _, _, _, _, _⟩ := zC4 BK371
                 go_wp2_with (first | ((with_reducible refine gate_callee (f := 17) rfl ?_); refine zG (some 116) Try.func17 #[.agg #[.slice Ao68 t387.length co68, .slice Ao70 t388.length co70, .int .i64 t368, .int .i64 t369], .int .i64 1] ?_; (with_reducible refine (laws_heldState.calls kj151 _ _ t387 _ _ t388 t368 t369 1 t412 _ ?side1 ?side2 ?side3 ?side4 A202.out).mono ?_); (case side1 => exact zCc ((Kd.R_reads' HO_372000.out).2.2)); (case side2 => exact (Kd.R_reads' HO_372000.out).2.1); (case side3 => exact zCc ((Kd.R_reads' HO_372001.out).2.2)); (case side4 => exact (Kd.R_reads' HO_372001.out).2.1); rintro e w210 ⟨rfl, hb⟩; refine ⟨_, rfl, ?_⟩; have n_ := z15 (Kd.R_below (zRr HO_350000) hb) (Kd.R_below (zRr HO_350001) hb) (Kd.R_below (zRr HO_359000) hb) (Kd.R_below (zRr HO_359001) hb) (Kd.R_below (zRr HO_372000) hb) (Kd.R_below (zRr HO_372001) hb) (Kd.R_below (zRr HO_411000) hb) (Kd.R_below (zRr HO_411001) hb) (zb BK325 hb) (zb BK326 hb) (zb BK349 hb) (zb BK358 hb) (zb BK371 hb) (zb BK410 hb) (zs hb); clear HO_350000 HO_350001 HO_359000 HO_359001 HO_372000 HO_372001 HO_411000 HO_411001 BK325 BK326 BK349 BK358 BK371 BK410 HB; obtain ⟨HO_350000, HO_350001, HO_359000, HO_359001, HO_372000, HO_372001, HO_411000, HO_411001, BK325, BK326, BK349, BK358, BK371, BK410, HB⟩ := n_; (try clear hb)))
                 go_ret
                 exact ⟨zE, zB⟩
                ·have c203b0 := decide_eq_false c203
                 clear c203
                 replace H := zI H; obtain ⟨c211, H⟩ | ⟨c211, H⟩ := H
                 ·have c211b0 := beq_iff_eq.mpr c211
                  have c211b1 := bne_eq_false_iff_eq.mpr c211
                  clear c211
                  obtain rfl := Option.some.inj H
                  have := NB371_325.out
                  have := NB325_371.out
                  have := NB371_326.out
                  have := NB326_371.out
                  have := NB371_349.out
                  have := NB349_371.out
                  have := NB371_358.out
                  have := NB358_371.out
                  have := NB371_410.out
                  have := NB410_371.out
                  obtain ⟨_, _, _, _, _, _, _, _⟩ := zC4 BK371
                  go_wp2_with (first | ((with_reducible refine gate_callee (f := 17) rfl ?_); refine zG (some 116) Try.func17 #[.agg #[.slice Ao68 t387.length co68, .slice Ao70 t388.length co70, .int .i64 t368, .int .i64 t369], .int .i64 1] ?_; (with_reducible refine (laws_heldState.calls kj151 _ _ t387 _ _ t388 t368 t369 1 t412 _ ?side1 ?side2 ?side3 ?side4 A202.out).mono ?_); (case side1 => exact zCc ((Kd.R_reads' HO_372000.out).2.2)); (case side2 => exact (Kd.R_reads' HO_372000.out).2.1); (case side3 => exact zCc ((Kd.R_reads' HO_372001.out).2.2)); (case side4 => exact (Kd.R_reads' HO_372001.out).2.1); rintro e w218 ⟨rfl, hb⟩; refine ⟨_, rfl, ?_⟩; have n_ := z15 (Kd.R_below (zRr HO_350000) hb) (Kd.R_below (zRr HO_350001) hb) (Kd.R_below (zRr HO_359000) hb) (Kd.R_below (zRr HO_359001) hb) (Kd.R_below (zRr HO_372000) hb) (Kd.R_below (zRr HO_372001) hb) (Kd.R_below (zRr HO_411000) hb) (Kd.R_below (zRr HO_411001) hb) (zb BK325 hb) (zb BK326 hb) (zb BK349 hb) (zb BK358 hb) (zb BK371 hb) (zb BK410 hb) (zs hb); clear HO_350000 HO_350001 HO_359000 HO_359001 HO_372000 HO_372001 HO_411000 HO_411001 BK325 BK326 BK349 BK358 BK371 BK410 HB; obtain ⟨HO_350000, HO_350001, HO_359000, HO_359001, HO_372000, HO_372001, HO_411000, HO_411001, BK325, BK326, BK349, BK358, BK371, BK410, HB⟩ := n_; (try clear hb)))
                  go_ret
                  exact ⟨zE, zB⟩
                 ·have c211b0 := beq_eq_false_iff_ne.mpr c211
                  have c211b1 := bne_iff_ne.mpr c211
                  obtain rfl := Option.some.inj H
                  have := NB371_325.out
                  have := NB325_371.out
                  have := NB371_326.out
                  have := NB326_371.out
                  have := NB371_349.out
                  have := NB349_371.out
                  have := NB371_358.out
                  have := NB358_371.out
                  have := NB371_410.out
                  have := NB410_371.out
                  obtain ⟨_, _, _, _, _, _, _, _⟩ := zC4 BK371
                  go_wp2_with (first | ((with_reducible refine gate_callee (f := 17) rfl ?_); refine zG (some 116) Try.func17 #[.agg #[.slice Ao68 t387.length co68, .slice Ao70 t388.length co70, .int .i64 t368, .int .i64 t369], .int .i64 1] ?_; (with_reducible refine (laws_heldState.calls kj151 _ _ t387 _ _ t388 t368 t369 1 t412 _ ?side1 ?side2 ?side3 ?side4 A202.out).mono ?_); (case side1 => exact zCc ((Kd.R_reads' HO_372000.out).2.2)); (case side2 => exact (Kd.R_reads' HO_372000.out).2.1); (case side3 => exact zCc ((Kd.R_reads' HO_372001.out).2.2)); (case side4 => exact (Kd.R_reads' HO_372001.out).2.1); rintro e w225 ⟨rfl, hb⟩; refine ⟨_, rfl, ?_⟩; have n_ := z15 (Kd.R_below (zRr HO_350000) hb) (Kd.R_below (zRr HO_350001) hb) (Kd.R_below (zRr HO_359000) hb) (Kd.R_below (zRr HO_359001) hb) (Kd.R_below (zRr HO_372000) hb) (Kd.R_below (zRr HO_372001) hb) (Kd.R_below (zRr HO_411000) hb) (Kd.R_below (zRr HO_411001) hb) (zb BK325 hb) (zb BK326 hb) (zb BK349 hb) (zb BK358 hb) (zb BK371 hb) (zb BK410 hb) (zs hb); clear HO_350000 HO_350001 HO_359000 HO_359001 HO_372000 HO_372001 HO_411000 HO_411001 BK325 BK326 BK349 BK358 BK371 BK410 HB; obtain ⟨HO_350000, HO_350001, HO_359000, HO_359001, HO_372000, HO_372001, HO_411000, HO_411001, BK325, BK326, BK349, BK358, BK371, BK410, HB⟩ := n_; (try clear hb)))
                  go_ret
                  exact ⟨zE, zB⟩
            ·have c148b0 := beq_eq_false_iff_ne.mpr c148
             have c148b1 := bne_iff_ne.mpr c148
             obtain rfl := Option.some.inj H
             have := NB371_325.out
             have := NB325_371.out
             have := NB371_326.out
             have := NB326_371.out
             have := NB371_349.out
             have := NB349_371.out
             have := NB371_358.out
             have := NB358_371.out
             obtain ⟨_, _, _, _, _, _, _, _⟩ := zC4 BK371
             go_wp2_with (first | ((with_reducible refine gate_callee (f := 16) rfl ?_); refine zG (some 86) Try.func16 #[.agg #[.slice Ao68 t362.length co68, .slice Ao70 t365.length co70, .int .i64 t368, .int .i64 t369], .int .i64 1] ?_; (with_reducible refine (laws_markState.calls kj100 (fun k_ => some k_ = (.slice Ao68 t362.length co68 : Value).ownBlock) (.slice Ao68 t362.length co68) t362 (fun k_ => some k_ = (.slice Ao70 t365.length co70 : Value).ownBlock) (.slice Ao70 t365.length co70) t365 t368 t369 1 t386 t387 t388 w _ ?side1 ?side2 ?side3 A137.out).mono ?_); (case side1 => repeat (first | (with_reducible first | exact HB.out | apply below_alloc | apply pw_below_drewN | apply below_drew1 | refine below_set ?_ GE325.out | refine below_set ?_ GE326.out | refine below_set ?_ GE349.out | refine below_set ?_ GE358.out | refine below_set ?_ GE371.out) | exact HB.out)); (case side2 => exact Kd.R_tight rfl HO_372000.out); (case side3 => exact Kd.R_tight rfl HO_372001.out); rintro e w231 ⟨rfl, hy0, hy1, hb, hkp⟩; refine ⟨_, rfl, ?_⟩; have n_ := z12 (Kd.R_mono (ok' := fun k_ => some k_ ≠ (.slice Ao56 t383.length co56 : Value).ownBlock ∧ some k_ ≠ (.slice Ao68 t362.length co68 : Value).ownBlock) (Kd.R_keptB ((Kd.R_apart' HO_350000.out (Kd.R_typed HO_372001.out) (by decide))) hkp (fun k_ hk_ hs_ => Or.elim hs_ (fun e_ => (hk_.1.2) e_) (fun e_ => (hk_.2) e_))) (fun k_ hk_ => ⟨hk_.1.1.1, hk_.1.1.2⟩)) (Kd.R_mono (ok' := fun k_ => some k_ ≠ (.slice Ao61 t384.length co61 : Value).ownBlock ∧ some k_ ≠ (.slice Ao70 t365.length co70 : Value).ownBlock) (Kd.R_keptB ((Kd.R_apart' HO_350001.out (Kd.R_typed HO_372000.out) (by decide))) hkp (fun k_ hk_ hs_ => Or.elim hs_ (fun e_ => (hk_.2) e_) (fun e_ => (hk_.1.2) e_))) (fun k_ hk_ => ⟨hk_.1.1.1, hk_.1.1.2⟩)) (Kd.R_mono (ok' := fun k_ => some k_ ≠ (.slice Ao46 t340.length co46 : Value).ownBlock ∧ some k_ ≠ (.slice Ao68 t362.length co68 : Value).ownBlock) (Kd.R_keptB ((Kd.R_apart' HO_359000.out (Kd.R_typed HO_372001.out) (by decide))) hkp (fun k_ hk_ hs_ => Or.elim hs_ (fun e_ => (hk_.1.2) e_) (fun e_ => (hk_.2) e_))) (fun k_ hk_ => ⟨hk_.1.1.1, hk_.1.1.2⟩)) (Kd.R_mono (ok' := fun k_ => some k_ ≠ (.slice Ao48 t343.length co48 : Value).ownBlock ∧ some k_ ≠ (.slice Ao70 t365.length co70 : Value).ownBlock) (Kd.R_keptB ((Kd.R_apart' HO_359001.out (Kd.R_typed HO_372000.out) (by decide))) hkp (fun k_ hk_ hs_ => Or.elim hs_ (fun e_ => (hk_.2) e_) (fun e_ => (hk_.1.2) e_))) (fun k_ hk_ => ⟨hk_.1.1.1, hk_.1.1.2⟩)) (Kd.R_reok rfl hy0 (fun k_ e_ => HO_372000.out.1 k_ e_)) (Kd.R_reok rfl hy1 (fun k_ e_ => HO_372001.out.1 k_ e_)) (blk_kept (zP BK325) hkp (fun hs_ => Or.elim hs_ (fun e_ => (fun e_ => (Kd.R_ne HO_372000.out BK325.out (by decide)) e_) e_) (fun e_ => (fun e_ => (Kd.R_ne HO_372001.out BK325.out (by decide)) e_) e_))) (blk_kept (zP BK326) hkp (fun hs_ => Or.elim hs_ (fun e_ => (fun e_ => (Kd.R_ne HO_372000.out BK326.out (by decide)) e_) e_) (fun e_ => (fun e_ => (Kd.R_ne HO_372001.out BK326.out (by decide)) e_) e_))) (blk_kept (zP BK349) hkp (fun hs_ => Or.elim hs_ (fun e_ => (fun e_ => (Kd.R_ne HO_372000.out BK349.out (by decide)) e_) e_) (fun e_ => (fun e_ => (Kd.R_ne HO_372001.out BK349.out (by decide)) e_) e_))) (blk_kept (zP BK358) hkp (fun hs_ => Or.elim hs_ (fun e_ => (fun e_ => (Kd.R_ne HO_372000.out BK358.out (by decide)) e_) e_) (fun e_ => (fun e_ => (Kd.R_ne HO_372001.out BK358.out (by decide)) e_) e_))) (blk_kept (zP BK371) hkp (fun hs_ => Or.elim hs_ (fun e_ => (fun e_ => (Kd.R_ne HO_372000.out BK371.out (by decide)) e_) e_) (fun e_ => (fun e_ => (Kd.R_ne HO_372001.out BK371.out (by decide)) e_) e_))) (hb); clear HO_350000 HO_350001 HO_359000 HO_359001 HO_372000 HO_372001 BK325 BK326 BK349 BK358 BK371 HB; obtain ⟨HO_350000, HO_350001, HO_359000, HO_359001, HO_372000, HO_372001, BK325, BK326, BK349, BK358, BK371, HB⟩ := n_; (try clear hb); (try clear hkp); (try clear hy0); (try clear hy1); obtain ⟨_, _, _, _, _, _, _, _⟩ := zC4 BK371) | ((with_reducible refine gate_callee (f := 17) rfl ?_); refine goesL_ (some 89) rfl rfl Try.func17 (by kernel_rfl) rfl #[.agg #[.slice Ao68 t387.length co68, .slice Ao70 t388.length co70, .int .i64 t368, .int .i64 t369], .int .i64 1] rfl (by (try simp only [List.map_toArray, List.map_cons, List.map_nil]); first | done | (rw [show t387.length = t362.length from (Kd.R_reads' HO_372000.out).1.symm, show t388.length = t365.length from (Kd.R_reads' HO_372001.out).1.symm] <;> rfl) | rfl | (simp only [List.length_drop, List.length_take]; rfl)) ?_; (with_reducible refine (laws_heldState.calls kj100 _ _ t387 _ _ t388 t368 t369 1 t389 _ ?side1 ?side2 ?side3 ?side4 A138.out).mono ?_); (case side1 => exact zCc ((Kd.R_reads' HO_372000.out).2.2)); (case side2 => rw [show t387.length = t362.length from (Kd.R_reads' HO_372000.out).1.symm]; exact (Kd.R_reads' HO_372000.out).2.1); (case side3 => exact zCc ((Kd.R_reads' HO_372001.out).2.2)); (case side4 => rw [show t388.length = t365.length from (Kd.R_reads' HO_372001.out).1.symm]; exact (Kd.R_reads' HO_372001.out).2.1); rintro e w233 ⟨rfl, hb⟩; refine ⟨_, rfl, ?_⟩; have n_ := z12 (Kd.R_below (zRr HO_350000) hb) (Kd.R_below (zRr HO_350001) hb) (Kd.R_below (zRr HO_359000) hb) (Kd.R_below (zRr HO_359001) hb) (Kd.R_below (zRr HO_372000) hb) (Kd.R_below (zRr HO_372001) hb) (zb BK325 hb) (zb BK326 hb) (zb BK349 hb) (zb BK358 hb) (zb BK371 hb) (zs hb); clear HO_350000 HO_350001 HO_359000 HO_359001 HO_372000 HO_372001 BK325 BK326 BK349 BK358 BK371 HB; obtain ⟨HO_350000, HO_350001, HO_359000, HO_359001, HO_372000, HO_372001, BK325, BK326, BK349, BK358, BK371, HB⟩ := n_; (try clear hb)))
             go_ret
             exact ⟨zE, zB⟩
       ·replace c99 := Bool.eq_false_iff.mpr c99; subst c99; replace H := zN H
        obtain rfl := Option.some.inj H
        try go_wp2
        have n_ := z12 (Kd.R_drew HO_350000.out) (Kd.R_drew HO_350001.out) (Kd.R_drew HO_359000.out) (Kd.R_drew HO_359001.out) (Kd.R_drew HO_372000.out) (Kd.R_drew HO_372001.out) (blk_drew BK325.out) (blk_drew BK326.out) (blk_drew BK349.out) (blk_drew BK358.out) (blk_drew BK371.out) (below_drew1 HB.out)
        clear HO_350000 HO_350001 HO_359000 HO_359001 HO_372000 HO_372001 BK325 BK326 BK349 BK358 BK371 HB
        obtain ⟨HO_350000, HO_350001, HO_359000, HO_359001, HO_372000, HO_372001, BK325, BK326, BK349, BK358, BK371, HB⟩ := n_
        refine start_ (n := 5) (S := fun w' => w'.cell? ⟨gb358, 0, none⟩ = some (.slice Ao56 t350.length co56) ∧ w'.cell? ⟨gb358, 1, none⟩ = some (.slice Ao61 t353.length co61) ∧ w'.cell? ⟨gb358, 2, none⟩ = some (.int .i64 t356) ∧ w'.cell? ⟨gb358, 3, none⟩ = some (.int .i64 t357) ∧ w'.cell? ⟨gb325, 0, none⟩ = some (.slice A0_0 l0_0.length c0_0) ∧ w'.cell? ⟨gb325, 1, none⟩ = some (.slice A0_1 l0_1.length c0_1) ∧ w'.cell? ⟨gb325, 2, none⟩ = some (.int .i64 a0_2) ∧ w'.cell? ⟨gb325, 3, none⟩ = some (.int .i64 a0_3)) (ds := []) #[false, false, false, false, false] (by kernel_rfl) rfl rfl ⟨(blk_cell BK358.out 0).trans rfl, (blk_cell BK358.out 1).trans rfl, (blk_cell BK358.out 2).trans rfl, (blk_cell BK358.out 3).trans rfl, (blk_cell BK325.out 0).trans rfl, (blk_cell BK325.out 1).trans rfl, (blk_cell BK325.out 2).trans rfl, (blk_cell BK325.out 3).trans rfl⟩ (fun hHeld => ?_)
        generalize wc.drew = w234 at HO_350000 HO_350001 HO_359000 HO_359001 HO_372000 HO_372001 BK325 BK326 BK349 BK358 BK371 HB hHeld ⊢
        refine take_ (i := 0) (N := some 63) (v := ?_) (a' := ?_) #[true, false, false, false, false] rfl rfl (by kernel_rfl) (fun _ _ _ h => h) (Or.inl ⟨by rfl, ?_⟩) hHeld ?_ ?_
        rotate_left
        ·rintro w' ⟨s0, s1, s2, s3, s4, s5, s6, s7⟩
         go_simp
         with_reducible rfl
        rotate_left
        ·exact zY
        refine take_ (i := 1) (N := some 64) (v := ?_) (a' := ?_) #[true, true, false, false, false] rfl rfl (by kernel_rfl) (fun _ _ _ h => h) (Or.inl ⟨by rfl, ?_⟩) hHeld ?_ ?_
        rotate_left
        ·rintro w' ⟨s0, s1, s2, s3, s4, s5, s6, s7⟩
         go_simp
         with_reducible rfl
        rotate_left
        ·exact zY
        refine one_ (i := 2) (N := some 65) #[true, true, true, false, false] rfl rfl (by kernel_rfl) (by decide) (fun K hK => ?_)
        refine goes_ Try.func13 (by kernel_rfl) rfl #[.agg #[.slice A0_0 l0_0.length c0_0, .slice A0_1 l0_1.length c0_1, .int .i64 a0_2, .int .i64 a0_3]] (by rfl) rfl rfl zA ?_
        with_reducible refine (laws_toState.calls kj29 _ _ l0_0 _ _ l0_1 a0_2 a0_3 t373 t376 t379 t380 _ ?side1 ?side2 ?side3 ?side4 A97.out).mono ?_
        (case side1 => exact zCc ((Kd.C_below HR0_0.out HB.out)))
        (case side2 => exact HC0_0.out)
        (case side3 => exact zCc ((Kd.C_below HR0_1.out HB.out)))
        (case side4 => exact HC0_1.out)
        rintro e w235 ⟨v374, v377, rfl, ho0, ho1, hb⟩
        refine ⟨_, rfl, ?_⟩
        have n_ := z14 (Kd.R_elder' (zRr HO_350000) (Kd.R_base ho0) hb) (Kd.R_elder' (zRr HO_350001) (Kd.R_base ho1) hb) (Kd.R_elder' (zRr HO_359000) (Kd.R_base ho0) hb) (Kd.R_elder' (zRr HO_359001) (Kd.R_base ho1) hb) (Kd.R_elder' (zRr HO_372000) (Kd.R_base ho0) hb) (Kd.R_elder' (zRr HO_372001) (Kd.R_base ho1) hb) (Kd.R_lower (Kd.R_new' (Kd.R_new' (Kd.R_new' ho0 (Kd.R_lt (zRr HO_350000))) (Kd.R_lt (zRr HO_359000))) (Kd.R_lt (zRr HO_372000))) (below_size zB)) (Kd.R_lower (Kd.R_new' (Kd.R_new' (Kd.R_new' ho1 (Kd.R_lt (zRr HO_350001))) (Kd.R_lt (zRr HO_359001))) (Kd.R_lt (zRr HO_372001))) (below_size zB)) (zb BK325 hb) (zb BK326 hb) (zb BK349 hb) (zb BK358 hb) (zb BK371 hb) (zs hb)
        clear HO_350000 HO_350001 HO_359000 HO_359001 HO_372000 HO_372001 BK325 BK326 BK349 BK358 BK371 HB
        obtain ⟨HO_350000, HO_350001, HO_359000, HO_359001, HO_372000, HO_372001, HO375, HO378, BK325, BK326, BK349, BK358, BK371, HB⟩ := n_
        (try clear hb)
        (try clear hb2)
        (try clear hk)
        (try clear hi)
        (try clear ho0)
        (try clear ho1)
        obtain ⟨Ao236, co236, eo236⟩ := Kd.R_slice HO375.out
        (first | subst eo236 | (injection eo236 with f1_ f2_ f3_; have f4_ := f1_.symm; have f5_ := f3_.symm; clear f1_ f2_ f3_; subst f4_; subst f5_))
        obtain ⟨Ao237, co237, eo237⟩ := Kd.R_slice HO378.out
        (first | subst eo237 | (injection eo237 with f1_ f2_ f3_; have f4_ := f1_.symm; have f5_ := f3_.symm; clear f1_ f2_ f3_; subst f4_; subst f5_))
        refine hK.out _ _ ⟨(blk_cell BK358.out 0).trans rfl, (blk_cell BK358.out 1).trans rfl, (blk_cell BK358.out 2).trans rfl, (blk_cell BK358.out 3).trans rfl, (blk_cell BK325.out 0).trans rfl, (blk_cell BK325.out 1).trans rfl, (blk_cell BK325.out 2).trans rfl, (blk_cell BK325.out 3).trans rfl⟩ (fun hHeld => ?_)
        clear hK K
        refine norm_ (a' := ?_) ?_ ?_
        rotate_left
        ·show Act.put _ (some 65) _ = _
         simp only [Act.put, List.setIfInBounds_toArray, List.set_cons_zero, List.set_cons_succ, i64_w, i32_w]
         rfl
        refine one_ (i := 3) (N := some 66) #[true, true, true, true, false] rfl rfl (by kernel_rfl) (by decide) (fun K hK => ?_)
        refine goes_ Try.func15 (by kernel_rfl) rfl #[.agg #[.slice Ao56 t350.length co56, .slice Ao61 t353.length co61, .int .i64 t356, .int .i64 t357], .agg #[.slice Ao236 t373.length co236, .slice Ao237 t376.length co237, .int .i64 t379, .int .i64 t380]] (by rfl) rfl rfl zA ?_
        with_reducible refine (laws_eqState.calls kj29 _ _ t350 _ _ t353 t356 t357 _ _ t373 _ _ t376 t379 t380 false _ ?side1 ?side2 ?side3 ?side4 ?side5 ?side6 ?side7 ?side8 A98.out).mono ?_
        (case side1 => exact zCc ((Kd.R_reads' HO_359000.out).2.2))
        (case side2 => exact (Kd.R_reads' HO_359000.out).2.1)
        (case side3 => exact zCc ((Kd.R_reads' HO_359001.out).2.2))
        (case side4 => exact (Kd.R_reads' HO_359001.out).2.1)
        (case side5 => exact zCc ((Kd.R_reads' HO375.out).2.2))
        (case side6 => exact (Kd.R_reads' HO375.out).2.1)
        (case side7 => exact zCc ((Kd.R_reads' HO378.out).2.2))
        (case side8 => exact (Kd.R_reads' HO378.out).2.1)
        rintro e w238 ⟨rfl, hb⟩
        refine ⟨_, rfl, ?_⟩
        have n_ := z14 (Kd.R_below (zRr HO_350000) hb) (Kd.R_below (zRr HO_350001) hb) (Kd.R_below (zRr HO_359000) hb) (Kd.R_below (zRr HO_359001) hb) (Kd.R_below (zRr HO_372000) hb) (Kd.R_below (zRr HO_372001) hb) (Kd.R_below (zRr HO375) hb) (Kd.R_below (zRr HO378) hb) (zb BK325 hb) (zb BK326 hb) (zb BK349 hb) (zb BK358 hb) (zb BK371 hb) (zs hb)
        clear HO_350000 HO_350001 HO_359000 HO_359001 HO_372000 HO_372001 HO375 HO378 BK325 BK326 BK349 BK358 BK371 HB
        obtain ⟨HO_350000, HO_350001, HO_359000, HO_359001, HO_372000, HO_372001, HO375, HO378, BK325, BK326, BK349, BK358, BK371, HB⟩ := n_
        (try clear hb)
        (try clear hb2)
        (try clear hk)
        (try clear hi)
        refine hK.out _ _ ⟨(blk_cell BK358.out 0).trans rfl, (blk_cell BK358.out 1).trans rfl, (blk_cell BK358.out 2).trans rfl, (blk_cell BK358.out 3).trans rfl, (blk_cell BK325.out 0).trans rfl, (blk_cell BK325.out 1).trans rfl, (blk_cell BK325.out 2).trans rfl, (blk_cell BK325.out 3).trans rfl⟩ (fun hHeld => ?_)
        clear hK K
        refine norm_ (a' := ?_) ?_ ?_
        rotate_left
        ·show Act.put _ (some 66) _ = _
         simp only [Act.put, List.setIfInBounds_toArray, List.set_cons_zero, List.set_cons_succ, i64_w, i32_w]
         rfl
        refine pure_ (i := 4) (N := some 67) (v := ?_) (a' := ?_) #[true, true, true, true, true] rfl rfl (by kernel_rfl) (fun _ _ _ h => h) (Or.inl ⟨by rfl, ?_⟩) ?_ ?_
        rotate_left
        ·intro w'; go_simp; with_reducible rfl
        rotate_left
        ·exact zY
        refine done_ (by kernel_rfl) ?_
        try go_wp2
        go_ret
        exact ⟨zE, zB⟩

end Go.Proofs.Ytehefologhfdhaa.QFnExactCellPut
