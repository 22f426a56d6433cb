/- The walks of the functions that FnExactRexParse reaches, through the abstract machine. -/
import Derived.Test.YtccldchklemogaaAFnExactRexParseh
import Derived.Test.YtccldchklemogaaAFnExactRexParsex0
import Derived.Test.YtccldchklemogaaAFnExactRexParsex1
import Derived.Test.YtccldchklemogaaFFnExactRexParse
import Derived.Test.YtccldchklemogaaProg
set_option maxHeartbeats 4000000
set_option maxRecDepth 100000
set_option linter.unusedVariables false
set_option linter.unusedSimpArgs false
namespace Go.Proofs.Ytccldchklemogaa.TFnExactRexParse
open Go Go.RowKit Go.Proofs Go.Proofs.YtccldchklemogaaW.AM Go.Proofs.Ytccldchklemogaa.QFnExactRexParse Go.Proofs.YtccldchklemogaaW.PrintWords Go.Proofs.YtccldchklemogaaW.Pgs
theorem laws_FnExactRexParse_ev (a0 : ByteArray) (r : Bool) (h : laws_FnExactRexParse.fv a0 = some r) : CE G 3 [.val (.str a0)] [] [.val (.bool r)] [] := by
  obtain ⟨k, h⟩ := lim_ex h
  refine CE.mk ⟨Try.f3, _, rfl, rfl, ⟨by kernel_rfl, Nat.le_of_ble_eq_true rfl, Nat.le_of_ble_eq_true rfl⟩, ?_⟩
  rcases k with _ | k
  · exact (run_zero h).elim
  rw [run_succ, laws_FnExactRexParse.B] at h
  refine zz ?_
  refine br (iP h) ?_ ?_ <;> (clear h; intro c h)
  ·replace h := evR h; cases h
   refine zz ?_
   exact zend
  have h_ := evO h; clear h; obtain ⟨t16, ht, h⟩ := h_
  refine zz ?_
  refine Exists.intro _ (And.intro (spec_RexParse_ev (h := ht)) ?_)
  have h_ := evO h; clear h; obtain ⟨t21, ht, h⟩ := h_
  refine zz ?_
  refine Exists.intro _ (Exists.intro _ (And.intro (impl_RexParse_ev (h := ht)) ?_))
  refine zz ?_
  refine cutJ (n := 32) (fun fr hp => ∃ kq, kq ≤ k ∧ ∃ (x0 : ByteArray) (x4 : Bool) (y1032785 : List S24) (x1557_0 : Int) (x1557_1 : Int) (x1557_2 : ByteArray) (x1557_3 : Bool) (x1557_4 : List S24) (x2069_0 : Int) (x2069_1 : Int) (x2069_2 : ByteArray) (x2069_3 : Bool) (g1032785 : Nat), run laws_FnExactRexParse.B kq (.j0 x0 x4 y1032785 x1557_0 x1557_1 x1557_2 x1557_3 x1557_4 x2069_0 x2069_1 x2069_2 x2069_3) = some r ∧ (∃ fr0, fr = puts [(0, .one (.val (.str x0))), (3, .one (.ptr 1557 0)), (4, .one (.val (.bool x4))), (5, .one (.ptr 2069 0))] fr0) ∧ hp = (upd 1557 (.box [.val (.int .i64 x1557_0), .val (.int .i64 x1557_1), .val (.str x1557_2), .val (.bool x1557_3), .val (.row (x1557_4.map e24))]) (upd 2069 (.box [.val (.int .i64 x2069_0), .val (.int .i64 x2069_1), .val (.str x2069_2), .val (.bool x2069_3), .ref 1032785 g1032785]) (upd 1032785 (.tree 24 5 (y1032785.map e24) g1032785) (fun _ => none))))) ?_ ?_
  ·refine zz ?_
   refine cutJ (n := 200005) (fun fr hp => ∃ kq, kq ≤ k ∧ ∃ (x0 : ByteArray) (x4 : Bool) (x32 : Bool) (y1032785 : List S24) (x1557_0 : Int) (x1557_1 : Int) (x1557_2 : ByteArray) (x1557_3 : Bool) (x1557_4 : List S24) (x2069_0 : Int) (x2069_1 : Int) (x2069_2 : ByteArray) (x2069_3 : Bool) (g1032785 : Nat), run laws_FnExactRexParse.B kq (.j1 x0 x4 x32 y1032785 x1557_0 x1557_1 x1557_2 x1557_3 x1557_4 x2069_0 x2069_1 x2069_2 x2069_3) = some r ∧ (∃ fr0, fr = puts [(0, .one (.val (.str x0))), (3, .one (.ptr 1557 0)), (4, .one (.val (.bool x4))), (5, .one (.ptr 2069 0)), (32, .one (.val (.bool x32)))] fr0) ∧ hp = (upd 1557 (.box [.val (.int .i64 x1557_0), .val (.int .i64 x1557_1), .val (.str x1557_2), .val (.bool x1557_3), .val (.row (x1557_4.map e24))]) (upd 2069 (.box [.val (.int .i64 x2069_0), .val (.int .i64 x2069_1), .val (.str x2069_2), .val (.bool x2069_3), .ref 1032785 g1032785]) (upd 1032785 (.tree 24 5 (y1032785.map e24) g1032785) (fun _ => none))))) ?_ ?_
   ·have h_ := evO h; clear h; obtain ⟨t26, ht, h⟩ := h_
    refine zz ?_
    refine Exists.intro _ (Exists.intro _ (And.intro (laws_eqRex_ev (h := ht)) ?_))
    refine zz ?_
    refine brX (iP h) ?_ ?_ <;> (clear h; intro c h)
    ·refine zl ?_
     refine zl ?_
     refine zr ?_
     replace h := evT h
     refine zz ?_
     exact ⟨[(1557, 1557), (2069, 2069), (1032785, 1032785)], rfl, _, zfuel, _, _, _, _, _, _, _, _, _, _, _, _, _, 0, h, leafFr [0, 3, 4, 5, 32] (by kernel_rfl), by kernel_rfl⟩
    refine zr ?_
    refine zr ?_
    refine zl ?_
    replace h := evT h
    refine zz ?_
    exact ⟨[(1557, 1557), (2069, 2069), (1032785, 1032785)], rfl, _, zfuel, _, _, _, _, _, _, _, _, _, _, _, _, _, 0, h, leafFr [0, 3, 4, 5, 32] (by kernel_rfl), by kernel_rfl⟩
   clear h; rintro _ _ ⟨k, hle, x0, x4, x32, y1032785, x1557_0, x1557_1, x1557_2, x1557_3, x1557_4, x2069_0, x2069_1, x2069_2, x2069_3, g1032785, h, ⟨fr0, rfl⟩, rfl⟩
   rcases k with _ | k
   · exact (run_zero h).elim
   rw [run_succ, laws_FnExactRexParse.B] at h
   refine zz ?_
   refine br (iP h) ?_ ?_ <;> (clear h; intro c h)
   ·replace h := evR h; cases h
    refine zz ?_
    exact zend
   replace h := evT h
   refine zz ?_
   exact ⟨[(1557, 1557), (2069, 2069), (1032785, 1032785)], rfl, _, zfuel, _, _, _, _, _, _, _, _, _, _, _, _, g1032785, h, leafFr [0, 3, 4, 5] (by kernel_rfl), by kernel_rfl⟩
  clear h; rintro _ _ ⟨k, hle, x0, x4, y1032785, x1557_0, x1557_1, x1557_2, x1557_3, x1557_4, x2069_0, x2069_1, x2069_2, x2069_3, g1032785, h, ⟨fr0, rfl⟩, rfl⟩
  rcases k with _ | k
  · exact (run_zero h).elim
  rw [run_succ, laws_FnExactRexParse.B] at h
  have h_ := evO h; clear h; obtain ⟨t35, ht, h⟩ := h_
  refine zz ?_
  refine Exists.intro _ (Exists.intro _ (And.intro (laws_markRex_ev (h := ht)) ?_))
  have h_ := evO h; clear h; obtain ⟨t38, ht, h⟩ := h_
  refine zz ?_
  refine Exists.intro _ (Exists.intro _ (And.intro (laws_heldRex_ev (h := ht)) ?_))
  refine zz ?_
  refine br (iP h) ?_ ?_ <;> (clear h; intro c h)
  ·replace h := evR h; cases h
   refine zz ?_
   exact zend
  refine zz ?_
  refine brN (iP h) ?_ ?_ <;> (clear h; intro c h)
  ·replace h := evR h; cases h
   refine zz ?_
   exact zend
  have h_ := evO h; clear h; obtain ⟨t46, ht, h⟩ := h_
  refine zz ?_
  refine Exists.intro _ (Exists.intro _ (And.intro (impl_RexParse_ev (h := ht)) ?_))
  refine zz ?_
  refine cutJ (n := 57) (fun fr hp => ∃ kq, kq ≤ k ∧ ∃ (x7 : Int) (y1032785 : List S24) (x2069_0 : Int) (x2069_1 : Int) (x2069_2 : ByteArray) (x2069_3 : Bool) (g1032785 : Nat), run laws_FnExactRexParse.B kq (.j2 x7 y1032785 x2069_0 x2069_1 x2069_2 x2069_3) = some r ∧ (∃ fr0, fr = puts [(5, .one (.ptr 2069 0)), (7, .one (.val (.int .i64 x7)))] fr0) ∧ hp = (upd 2069 (.box [.val (.int .i64 x2069_0), .val (.int .i64 x2069_1), .val (.str x2069_2), .val (.bool x2069_3), .ref 1032785 g1032785]) (upd 1032785 (.tree 24 5 (y1032785.map e24) g1032785) (fun _ => none)))) ?_ ?_
  ·refine zz ?_
   refine cutJ (n := 200016) (fun fr hp => ∃ kq, kq ≤ k ∧ ∃ (x7 : Int) (x57 : Bool) (y1032785 : List S24) (x2069_0 : Int) (x2069_1 : Int) (x2069_2 : ByteArray) (x2069_3 : Bool) (g1032785 : Nat), run laws_FnExactRexParse.B kq (.j3 x7 x57 y1032785 x2069_0 x2069_1 x2069_2 x2069_3) = some r ∧ (∃ fr0, fr = puts [(5, .one (.ptr 2069 0)), (7, .one (.val (.int .i64 x7))), (57, .one (.val (.bool x57)))] fr0) ∧ hp = (upd 2069 (.box [.val (.int .i64 x2069_0), .val (.int .i64 x2069_1), .val (.str x2069_2), .val (.bool x2069_3), .ref 1032785 g1032785]) (upd 1032785 (.tree 24 5 (y1032785.map e24) g1032785) (fun _ => none)))) ?_ ?_
   ·have h_ := evO h; clear h; obtain ⟨t51, ht, h⟩ := h_
    refine zz ?_
    refine Exists.intro _ (Exists.intro _ (And.intro (laws_eqRex_ev (h := ht)) ?_))
    refine zz ?_
    refine brX (iP h) ?_ ?_ <;> (clear h; intro c h)
    ·refine zl ?_
     refine zl ?_
     refine zr ?_
     replace h := evT h
     refine zz ?_
     exact ⟨[(2069, 2069), (1032785, 1032785)], rfl, _, zfuel, _, _, _, _, _, _, _, g1032785, h, leafFr [5, 7, 57] (by kernel_rfl), by kernel_rfl⟩
    refine zr ?_
    refine zr ?_
    refine zl ?_
    replace h := evT h
    refine zz ?_
    exact ⟨[(2069, 2069), (1032785, 1032785)], rfl, _, zfuel, _, _, _, _, _, _, _, g1032785, h, leafFr [5, 7, 57] (by kernel_rfl), by kernel_rfl⟩
   clear h; rintro _ _ ⟨k, hle, x7, x57, y1032785, x2069_0, x2069_1, x2069_2, x2069_3, g1032785, h, ⟨fr0, rfl⟩, rfl⟩
   rcases k with _ | k
   · exact (run_zero h).elim
   rw [run_succ, laws_FnExactRexParse.B] at h
   refine zz ?_
   refine br (iP h) ?_ ?_ <;> (clear h; intro c h)
   ·replace h := evR h; cases h
    refine zz ?_
    exact zend
   replace h := evT h
   refine zz ?_
   exact ⟨[(2069, 2069), (1032785, 1032785)], rfl, _, zfuel, _, _, _, _, _, _, g1032785, h, leafFr [5, 7] (by kernel_rfl), by kernel_rfl⟩
  clear h; rintro _ _ ⟨k, hle, x7, y1032785, x2069_0, x2069_1, x2069_2, x2069_3, g1032785, h, ⟨fr0, rfl⟩, rfl⟩
  rcases k with _ | k
  · exact (run_zero h).elim
  rw [run_succ, laws_FnExactRexParse.B] at h
  have h_ := evO h; clear h; obtain ⟨t60, ht, h⟩ := h_
  refine zz ?_
  refine Exists.intro _ (Exists.intro _ (And.intro (laws_heldRex_ev (h := ht)) ?_))
  refine zz ?_
  refine br (iP h) ?_ ?_ <;> (clear h; intro c h)
  ·replace h := evR h; cases h
   refine zz ?_
   exact zend
  refine zz ?_
  refine brN (iP h) ?_ ?_ <;> (clear h; intro c h)
  ·replace h := evR h; cases h
   refine zz ?_
   exact zend
  replace h := evR h; cases h
  refine zz ?_
  exact zend
end Go.Proofs.Ytccldchklemogaa.TFnExactRexParse
