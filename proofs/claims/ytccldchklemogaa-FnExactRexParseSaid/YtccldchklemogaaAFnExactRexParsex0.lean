/- The walks of the functions that FnExactRexParse reaches, through the abstract machine. -/
import Derived.Test.YtccldchklemogaaAFnExactRexParseh
import Derived.Test.YtccldchklemogaaFFnExactRexParse
import Derived.Test.YtccldchklemogaaProg
set_option maxHeartbeats 4000000
set_option maxRecDepth 100000
set_option linter.unusedVariables false
set_option linter.unusedSimpArgs false
namespace Go.Proofs.Ytccldchklemogaa.TFnExactRexParse
open Go Go.RowKit Go.Proofs Go.Proofs.YtccldchklemogaaW.AM Go.Proofs.Ytccldchklemogaa.QFnExactRexParse Go.Proofs.YtccldchklemogaaW.PrintWords Go.Proofs.YtccldchklemogaaW.Pgs
theorem spec_l3Now_ev (s0_0 : ByteArray) (s0_1 : Int) (s0_2 : Bool) (a1 : Int) (r1 : Bool) (r2 : ByteArray) (r3 : Int) (r4 : Bool) (h : spec_l3Now.f s0_0 s0_1 s0_2 a1 = some (r1, r2, r3, r4)) : CE G 36 [.ptr 0 0, .val (.int .u8 a1)] [.box [.val (.str s0_0), .val (.int .i64 s0_1), .val (.bool s0_2)]] [.val (.bool r1)] [.box [.val (.str r2), .val (.int .i64 r3), .val (.bool r4)]] := by
  refine CE.mk ⟨Try.f36, _, rfl, rfl, ⟨by kernel_rfl, Nat.le_of_ble_eq_true rfl, Nat.le_of_ble_eq_true rfl⟩, ?_⟩
  rw [spec_l3Now.f] at h
  refine zz ?_
  refine brN (iteS h) ?_ ?_ <;> (clear h; intro c h)
  rotate_left
  ·refine zr ?_
   refine zr ?_
   refine zr ?_
   refine zr ?_
   refine zr ?_
   refine zr ?_
   refine zr ?_
   refine zr ?_
   refine zr ?_
   refine zr ?_
   refine zr ?_
   refine zr ?_
   refine zr ?_
   refine zr ?_
   refine zr ?_
   refine zr ?_
   refine zr ?_
   refine zr ?_
   refine zr ?_
   refine zr ?_
   refine zr ?_
   refine zr ?_
   cases h
   refine zz ?_
   exact zend
  refine zl ?_
  refine zl ?_
  refine zl ?_
  refine zl ?_
  refine zl ?_
  refine zl ?_
  refine zl ?_
  refine zl ?_
  refine zl ?_
  refine zl ?_
  refine zz ?_
  refine br (iteS h) ?_ ?_ <;> (clear h; intro c h)
  rotate_left
  ·refine zr ?_
   refine zr ?_
   refine zr ?_
   refine zr ?_
   refine zr ?_
   refine zr ?_
   refine zr ?_
   refine zr ?_
   refine zr ?_
   refine zr ?_
   refine zr ?_
   cases h
   refine zz ?_
   exact zend
  refine zl ?_
  refine zl ?_
  refine zl ?_
  refine zl ?_
  refine zl ?_
  refine zl ?_
  refine zl ?_
  refine zl ?_
  have h_ := gS h; clear h; obtain ⟨c, h⟩ := h_
  refine zl ?_
  refine zl ?_
  refine zl ?_
  cases h
  refine zz ?_
  exact zend
theorem spec_l3Set_ev (s0_0 : ByteArray) (s0_1 : Int) (s0_2 : Bool) (r1 : Int) (r2 : Int) (r3 : ByteArray) (r4 : Bool) (r5 : List S24) (r6 : ByteArray) (r7 : Int) (r8 : Bool) (h : spec_l3Set.fv s0_0 s0_1 s0_2 = some (r1, r2, r3, r4, r5, r6, r7, r8)) : CE G 70 [.ptr 0 0] [.box [.val (.str s0_0), .val (.int .i64 s0_1), .val (.bool s0_2)]] [.val (.agg [.int .i64 r1, .int .i64 r2, .str r3, .bool r4, .row (r5.map e24)])] [.box [.val (.str r6), .val (.int .i64 r7), .val (.bool r8)]] := by
  obtain ⟨k, h⟩ := lim_ex h
  refine CE.mk ⟨Try.f70, _, rfl, rfl, ⟨by kernel_rfl, Nat.le_of_ble_eq_true rfl, Nat.le_of_ble_eq_true rfl⟩, ?_⟩
  rcases k with _ | k
  · exact (run_zero h).elim
  rw [run_succ, spec_l3Set.B] at h
  refine zz ?_
  refine cutJ (n := 13) (fun fr hp => ∃ kq, kq ≤ k ∧ ∃ (x1000 : ByteArray) (x1001 : Int) (x1002 : Bool) (x529_0 : Int) (x529_1 : Int) (x529_2 : ByteArray) (x529_3 : Bool), run spec_l3Set.B kq (.j0 x1000 x1001 x1002 x529_0 x529_1 x529_2 x529_3) = some (r1, r2, r3, r4, r5, r6, r7, r8) ∧ (∃ fr0, fr = puts [(0, .one (.ptr 0 0)), (2, .one (.ptr 16 0)), (3, .one (.ptr 529 0))] fr0) ∧ hp = (upd 0 (.box [.val (.str x1000), .val (.int .i64 x1001), .val (.bool x1002)]) (upd 16 (.box [.val (.int .i64 0), .val (.int .i64 0), .val (.str (⟨#[]⟩ : ByteArray)), .val (.bool false), .nilrow]) (upd 529 (.box [.val (.int .i64 x529_0), .val (.int .i64 x529_1), .val (.str x529_2), .val (.bool x529_3), .val (.row (([] : List S24).map e24))]) (fun _ => none))))) ?_ ?_
  ·have h_ := evO h; clear h; obtain ⟨t13, ht, h⟩ := h_
   refine zz ?_
   refine Exists.intro _ (Exists.intro _ (And.intro (spec_l3Now_ev (h := ht)) ?_))
   refine zz ?_
   refine br (iP h) ?_ ?_ <;> (clear h; intro c h)
   ·replace h := evT h
    refine zz ?_
    exact ⟨[(0, 0), (16, 16), (529, 529)], rfl, _, zfuel, _, _, _, _, _, _, _, h, leafFr [0, 2, 3] (by kernel_rfl), by kernel_rfl⟩
   replace h := evT h
   refine zz ?_
   exact ⟨[(0, 0), (16, 16), (529, 529)], rfl, _, zfuel, _, _, _, _, _, _, _, h, leafFr [0, 2, 3] (by kernel_rfl), by kernel_rfl⟩
  clear h; rintro _ _ ⟨k, hle, x1000, x1001, x1002, x529_0, x529_1, x529_2, x529_3, h, ⟨fr0, rfl⟩, rfl⟩
  rcases k with _ | k
  · exact (run_zero h).elim
  rw [run_succ, spec_l3Set.B] at h
  have h_ := gP h; clear h; obtain ⟨c, h⟩ := h_
  refine zz ?_
  refine Exists.intro (List.map VV.bool (List.replicate 256 false)) (And.intro zrow ?_)
  replace h := evT h
  refine zz ?_
  refine loopJ (fun kq fr hp => ∃ (x4 : List Bool) (x5 : Int) (x1000 : ByteArray) (x1001 : Int) (x1002 : Bool) (x529_0 : Int) (x529_1 : Int) (x529_2 : ByteArray) (x529_3 : Bool) (g2576 : Nat), run spec_l3Set.B kq (.l0 x4 x5 x1000 x1001 x1002 x529_0 x529_1 x529_2 x529_3) = some (r1, r2, r3, r4, r5, r6, r7, r8) ∧ (∃ fr0, fr = puts [(0, .one (.ptr 0 0)), (2, .one (.ptr 16 0)), (3, .one (.ptr 529 0)), (4, .one (.ref 2576 g2576)), (5, .one (.val (.int .i64 x5)))] fr0) ∧ hp = (upd 0 (.box [.val (.str x1000), .val (.int .i64 x1001), .val (.bool x1002)]) (upd 16 (.box [.val (.int .i64 0), .val (.int .i64 0), .val (.str (⟨#[]⟩ : ByteArray)), .val (.bool false), .nilrow]) (upd 529 (.box [.val (.int .i64 x529_0), .val (.int .i64 x529_1), .val (.str x529_2), .val (.bool x529_3), .val (.row (([] : List S24).map e24))]) (upd 2576 (.own 4 1 (x4.map VV.bool) g2576 false) (fun _ => none)))))) k ⟨[(0, 0), (16, 16), (529, 529), (2576, 2576)], rfl, _, zfuel, _, _, _, _, _, _, _, _, _, 0, h, leafFr [0, 2, 3, 4, 5] (by kernel_rfl), by kernel_rfl⟩ ?_
  clear h; rintro k hle _ _ ⟨x4, x5, x1000, x1001, x1002, x529_0, x529_1, x529_2, x529_3, g2576, h, ⟨fr0, rfl⟩, rfl⟩
  rcases k with _ | k
  · exact (run_zero h).elim
  rw [run_succ, spec_l3Set.B] at h
  refine zz ?_
  refine cutJ (n := 200007) (fun fr hp => ∃ kq, kq ≤ k ∧ ∃ (x4 : List Bool) (x5 : Int) (x44 : Bool) (x1000 : ByteArray) (x1001 : Int) (x1002 : Bool) (x529_0 : Int) (x529_1 : Int) (x529_2 : ByteArray) (x529_3 : Bool) (g2576 : Nat), run spec_l3Set.B kq (.j2 x4 x5 x44 x1000 x1001 x1002 x529_0 x529_1 x529_2 x529_3) = some (r1, r2, r3, r4, r5, r6, r7, r8) ∧ (∃ fr0, fr = puts [(0, .one (.ptr 0 0)), (2, .one (.ptr 16 0)), (3, .one (.ptr 529 0)), (4, .one (.ref 2576 g2576)), (5, .one (.val (.int .i64 x5))), (44, .one (.val (.bool x44)))] fr0) ∧ hp = (upd 0 (.box [.val (.str x1000), .val (.int .i64 x1001), .val (.bool x1002)]) (upd 16 (.box [.val (.int .i64 0), .val (.int .i64 0), .val (.str (⟨#[]⟩ : ByteArray)), .val (.bool false), .nilrow]) (upd 529 (.box [.val (.int .i64 x529_0), .val (.int .i64 x529_1), .val (.str x529_2), .val (.bool x529_3), .val (.row (([] : List S24).map e24))]) (upd 2576 (.own 4 1 (x4.map VV.bool) g2576 false) (fun _ => none)))))) ?_ ?_
  ·refine zz ?_
   refine br (iP h) ?_ ?_ <;> (clear h; intro c h)
   rotate_left
   ·refine zr ?_
    refine zr ?_
    refine zr ?_
    refine zr ?_
    refine zr ?_
    refine zr ?_
    refine zr ?_
    refine zr ?_
    refine zr ?_
    refine zr ?_
    replace h := evT h
    refine zz ?_
    exact ⟨[(0, 0), (16, 16), (529, 529), (2576, 2576)], rfl, _, zfuel, _, _, _, _, _, _, _, _, _, _, g2576, h, leafFr [0, 2, 3, 4, 5, 44] (by kernel_rfl), by kernel_rfl⟩
   refine zl ?_
   refine zl ?_
   refine zl ?_
   refine zl ?_
   refine zl ?_
   refine zl ?_
   refine zl ?_
   refine zl ?_
   have h_ := gP h; clear h; obtain ⟨c, h⟩ := h_
   refine zl ?_
   refine zl ?_
   replace h := evT h
   refine zz ?_
   exact ⟨[(0, 0), (16, 16), (529, 529), (2576, 2576)], rfl, _, zfuel, _, _, _, _, _, _, _, _, _, _, g2576, h, leafFr [0, 2, 3, 4, 5, 44] (by kernel_rfl), by kernel_rfl⟩
  clear h; rintro _ _ ⟨k, hle, x4, x5, x44, x1000, x1001, x1002, x529_0, x529_1, x529_2, x529_3, g2576, h, ⟨fr0, rfl⟩, rfl⟩
  rcases k with _ | k
  · exact (run_zero h).elim
  rw [run_succ, spec_l3Set.B] at h
  refine zz ?_
  refine br (iP h) ?_ ?_ <;> (clear h; intro c h)
  rotate_left
  ·refine zz ?_
   refine cutJ (n := 148) (fun fr hp => ∃ kq, kq ≤ k ∧ ∃ (x4 : List Bool) (x1000 : ByteArray) (x1001 : Int) (x1002 : Bool) (x529_0 : Int) (x529_1 : Int) (x529_2 : ByteArray) (x529_3 : Bool) (g2576 : Nat), run spec_l3Set.B kq (.j8 x4 x1000 x1001 x1002 x529_0 x529_1 x529_2 x529_3) = some (r1, r2, r3, r4, r5, r6, r7, r8) ∧ (∃ fr0, fr = puts [(0, .one (.ptr 0 0)), (2, .one (.ptr 16 0)), (3, .one (.ptr 529 0)), (4, .one (.ref 2576 g2576))] fr0) ∧ hp = (upd 0 (.box [.val (.str x1000), .val (.int .i64 x1001), .val (.bool x1002)]) (upd 16 (.box [.val (.int .i64 0), .val (.int .i64 0), .val (.str (⟨#[]⟩ : ByteArray)), .val (.bool false), .nilrow]) (upd 529 (.box [.val (.int .i64 x529_0), .val (.int .i64 x529_1), .val (.str x529_2), .val (.bool x529_3), .val (.row (([] : List S24).map e24))]) (upd 2576 (.own 4 1 (x4.map VV.bool) g2576 false) (fun _ => none)))))) ?_ ?_
   ·refine zz ?_
    refine cutJ (n := 200021) (fun fr hp => ∃ kq, kq ≤ k ∧ ∃ (x4 : List Bool) (x148 : Bool) (x1000 : ByteArray) (x1001 : Int) (x1002 : Bool) (x529_0 : Int) (x529_1 : Int) (x529_2 : ByteArray) (x529_3 : Bool) (g2576 : Nat), run spec_l3Set.B kq (.j7 x4 x148 x1000 x1001 x1002 x529_0 x529_1 x529_2 x529_3) = some (r1, r2, r3, r4, r5, r6, r7, r8) ∧ (∃ fr0, fr = puts [(0, .one (.ptr 0 0)), (2, .one (.ptr 16 0)), (3, .one (.ptr 529 0)), (4, .one (.ref 2576 g2576)), (148, .one (.val (.bool x148)))] fr0) ∧ hp = (upd 0 (.box [.val (.str x1000), .val (.int .i64 x1001), .val (.bool x1002)]) (upd 16 (.box [.val (.int .i64 0), .val (.int .i64 0), .val (.str (⟨#[]⟩ : ByteArray)), .val (.bool false), .nilrow]) (upd 529 (.box [.val (.int .i64 x529_0), .val (.int .i64 x529_1), .val (.str x529_2), .val (.bool x529_3), .val (.row (([] : List S24).map e24))]) (upd 2576 (.own 4 1 (x4.map VV.bool) g2576 false) (fun _ => none)))))) ?_ ?_
    ·refine zz ?_
     refine brW (iP h) ?_ ?_ <;> (clear h; intro c h)
     ·refine zl ?_
      refine zr ?_
      replace h := evT h
      refine zz ?_
      exact ⟨[(0, 0), (16, 16), (529, 529), (2576, 2576)], rfl, _, zfuel, _, _, _, _, _, _, _, _, _, g2576, h, leafFr [0, 2, 3, 4, 148] (by kernel_rfl), by kernel_rfl⟩
     refine zr ?_
     refine zl ?_
     replace h := evT h
     refine zz ?_
     exact ⟨[(0, 0), (16, 16), (529, 529), (2576, 2576)], rfl, _, zfuel, _, _, _, _, _, _, _, _, _, g2576, h, leafFr [0, 2, 3, 4, 148] (by kernel_rfl), by kernel_rfl⟩
    clear h; rintro _ _ ⟨k, hle, x4, x148, x1000, x1001, x1002, x529_0, x529_1, x529_2, x529_3, g2576, h, ⟨fr0, rfl⟩, rfl⟩
    rcases k with _ | k
    · exact (run_zero h).elim
    rw [run_succ, spec_l3Set.B] at h
    refine zz ?_
    refine br (iP h) ?_ ?_ <;> (clear h; intro c h)
    ·replace h := evT h
     refine zz ?_
     exact ⟨[(0, 0), (16, 16), (529, 529), (2576, 2576)], rfl, _, zfuel, _, _, _, _, _, _, _, _, g2576, h, leafFr [0, 2, 3, 4] (by kernel_rfl), by kernel_rfl⟩
    replace h := evT h
    refine zz ?_
    exact ⟨[(0, 0), (16, 16), (529, 529), (2576, 2576)], rfl, _, zfuel, _, _, _, _, _, _, _, _, g2576, h, leafFr [0, 2, 3, 4] (by kernel_rfl), by kernel_rfl⟩
   clear h; rintro _ _ ⟨k, hle, x4, x1000, x1001, x1002, x529_0, x529_1, x529_2, x529_3, g2576, h, ⟨fr0, rfl⟩, rfl⟩
   rcases k with _ | k
   · exact (run_zero h).elim
   rw [run_succ, spec_l3Set.B] at h
   refine zz ?_
   refine Exists.intro (List.map (VV.int .u8) ([] : List Int)) (And.intro zrow ?_)
   replace h := evT h
   refine zz ?_
   refine loopJ (fun kq fr hp => ∃ (x4 : List Bool) (x9 : List Int) (x10 : Int) (x1000 : ByteArray) (x1001 : Int) (x1002 : Bool) (x529_0 : Int) (x529_1 : Int) (x529_2 : ByteArray) (x529_3 : Bool) (g2576 : Nat) (g12304 : Nat), run spec_l3Set.B kq (.l2 x4 x9 x10 x1000 x1001 x1002 x529_0 x529_1 x529_2 x529_3) = some (r1, r2, r3, r4, r5, r6, r7, r8) ∧ (∃ fr0, fr = puts [(2, .one (.ptr 16 0)), (3, .one (.ptr 529 0)), (4, .one (.ref 2576 g2576)), (9, .one (.ref 12304 g12304)), (10, .one (.val (.int .i64 x10)))] fr0) ∧ hp = (upd 0 (.box [.val (.str x1000), .val (.int .i64 x1001), .val (.bool x1002)]) (upd 16 (.box [.val (.int .i64 0), .val (.int .i64 0), .val (.str (⟨#[]⟩ : ByteArray)), .val (.bool false), .nilrow]) (upd 529 (.box [.val (.int .i64 x529_0), .val (.int .i64 x529_1), .val (.str x529_2), .val (.bool x529_3), .val (.row (([] : List S24).map e24))]) (upd 2576 (.own 4 1 (x4.map VV.bool) g2576 false) (upd 12304 (.own 5 1 (x9.map (VV.int .u8)) g12304 false) (fun _ => none))))))) k ⟨[(0, 0), (16, 16), (529, 529), (2576, 2576), (12304, 12304)], rfl, _, zfuel, _, _, _, _, _, _, _, _, _, _, g2576, 0, h, leafFr [2, 3, 4, 9, 10] (by kernel_rfl), by kernel_rfl⟩ ?_
   clear h; rintro k hle _ _ ⟨x4, x9, x10, x1000, x1001, x1002, x529_0, x529_1, x529_2, x529_3, g2576, g12304, h, ⟨fr0, rfl⟩, rfl⟩
   rcases k with _ | k
   · exact (run_zero h).elim
   rw [run_succ, spec_l3Set.B] at h
   refine zz ?_
   refine br (iP h) ?_ ?_ <;> (clear h; intro c h)
   rotate_left
   ·replace h := evR h; cases h
    refine zz ?_
    exact zend
   have h_ := gP h; clear h; obtain ⟨c, h⟩ := h_
   have h_ := gP h; clear h; obtain ⟨c, h⟩ := h_
   refine zz ?_
   refine br (iP h) ?_ ?_ <;> (clear h; intro c h)
   rotate_left
   ·replace h := evT h
    refine zz ?_
    exact ⟨[(0, 0), (16, 16), (529, 529), (2576, 2576), (12304, 12304)], rfl, _, zfuel, _, _, _, _, _, _, _, _, _, _, g2576, g12304, h, leafFr [2, 3, 4, 9, 10] (by kernel_rfl), by kernel_rfl⟩
   refine zz ?_
   refine Exists.intro (List.map (VV.int .u8) ([((x10) % 256)] : List Int)) (And.intro zrow ?_)
   have h_ := gP h; clear h; obtain ⟨c, h⟩ := h_
   refine zz ?_
   refine Exists.intro (List.map (VV.int .u8) (x9 ++ [((x10) % 256)])) (And.intro zrow ?_)
   replace h := evT h
   refine zz ?_
   exact ⟨[(0, 0), (16, 16), (529, 529), (2576, 2576), (12304, 12304)], rfl, _, zfuel, _, _, _, _, _, _, _, _, _, _, g2576, (g12304 + 1), h, leafFr [2, 3, 4, 9, 10] (by kernel_rfl), by kernel_rfl⟩
  have h_ := gP h; clear h; obtain ⟨c, h⟩ := h_
  have h_ := gP h; clear h; obtain ⟨c, h⟩ := h_
  refine zz ?_
  refine cutJ (n := 98) (fun fr hp => ∃ kq, kq ≤ k ∧ ∃ (x4 : List Bool) (x5 : Int) (x6 : Int) (x7 : Int) (x1000 : ByteArray) (x1001 : Int) (x1002 : Bool) (x529_0 : Int) (x529_1 : Int) (x529_2 : ByteArray) (x529_3 : Bool) (g2576 : Nat), run spec_l3Set.B kq (.j4 x4 x5 x6 x7 x1000 x1001 x1002 x529_0 x529_1 x529_2 x529_3) = some (r1, r2, r3, r4, r5, r6, r7, r8) ∧ (∃ fr0, fr = puts [(0, .one (.ptr 0 0)), (2, .one (.ptr 16 0)), (3, .one (.ptr 529 0)), (4, .one (.ref 2576 g2576)), (5, .one (.val (.int .i64 x5))), (6, .one (.val (.int .i64 x6))), (7, .one (.val (.int .i64 x7)))] fr0) ∧ hp = (upd 0 (.box [.val (.str x1000), .val (.int .i64 x1001), .val (.bool x1002)]) (upd 16 (.box [.val (.int .i64 0), .val (.int .i64 0), .val (.str (⟨#[]⟩ : ByteArray)), .val (.bool false), .nilrow]) (upd 529 (.box [.val (.int .i64 x529_0), .val (.int .i64 x529_1), .val (.str x529_2), .val (.bool x529_3), .val (.row (([] : List S24).map e24))]) (upd 2576 (.own 4 1 (x4.map VV.bool) g2576 false) (fun _ => none)))))) ?_ ?_
  ·refine zz ?_
   refine cutJ (n := 200011) (fun fr hp => ∃ kq, kq ≤ k ∧ ∃ (x4 : List Bool) (x5 : Int) (x6 : Int) (x7 : Int) (x98 : Bool) (x1000 : ByteArray) (x1001 : Int) (x1002 : Bool) (x529_0 : Int) (x529_1 : Int) (x529_2 : ByteArray) (x529_3 : Bool) (g2576 : Nat), run spec_l3Set.B kq (.j3 x4 x5 x6 x7 x98 x1000 x1001 x1002 x529_0 x529_1 x529_2 x529_3) = some (r1, r2, r3, r4, r5, r6, r7, r8) ∧ (∃ fr0, fr = puts [(0, .one (.ptr 0 0)), (2, .one (.ptr 16 0)), (3, .one (.ptr 529 0)), (4, .one (.ref 2576 g2576)), (5, .one (.val (.int .i64 x5))), (6, .one (.val (.int .i64 x6))), (7, .one (.val (.int .i64 x7))), (98, .one (.val (.bool x98)))] fr0) ∧ hp = (upd 0 (.box [.val (.str x1000), .val (.int .i64 x1001), .val (.bool x1002)]) (upd 16 (.box [.val (.int .i64 0), .val (.int .i64 0), .val (.str (⟨#[]⟩ : ByteArray)), .val (.bool false), .nilrow]) (upd 529 (.box [.val (.int .i64 x529_0), .val (.int .i64 x529_1), .val (.str x529_2), .val (.bool x529_3), .val (.row (([] : List S24).map e24))]) (upd 2576 (.own 4 1 (x4.map VV.bool) g2576 false) (fun _ => none)))))) ?_ ?_
   ·refine zz ?_
    refine br (iP h) ?_ ?_ <;> (clear h; intro c h)
    rotate_left
    ·refine zr ?_
     refine zr ?_
     refine zr ?_
     refine zr ?_
     refine zr ?_
     refine zr ?_
     refine zr ?_
     refine zr ?_
     refine zr ?_
     refine zr ?_
     refine zr ?_
     refine zr ?_
     refine zr ?_
     refine zr ?_
     refine zr ?_
     refine zr ?_
     refine zr ?_
     refine zr ?_
     refine zr ?_
     refine zr ?_
     refine zr ?_
     refine zr ?_
     replace h := evT h
     refine zz ?_
     exact ⟨[(0, 0), (16, 16), (529, 529), (2576, 2576)], rfl, _, zfuel, _, _, _, _, _, _, _, _, _, _, _, _, g2576, h, leafFr [0, 2, 3, 4, 5, 6, 7, 98] (by kernel_rfl), by kernel_rfl⟩
    refine zl ?_
    refine zl ?_
    refine zl ?_
    refine zl ?_
    refine zl ?_
    refine zl ?_
    refine zl ?_
    refine zl ?_
    have h_ := gP h; clear h; obtain ⟨c, h⟩ := h_
    have h_ := gP h; clear h; obtain ⟨c, h⟩ := h_
    refine zl ?_
    refine zl ?_
    refine zz ?_
    refine br (iP h) ?_ ?_ <;> (clear h; intro c h)
    rotate_left
    ·refine zr ?_
     refine zr ?_
     refine zr ?_
     refine zr ?_
     refine zr ?_
     refine zr ?_
     refine zr ?_
     refine zr ?_
     refine zr ?_
     refine zr ?_
     refine zr ?_
     replace h := evT h
     refine zz ?_
     exact ⟨[(0, 0), (16, 16), (529, 529), (2576, 2576)], rfl, _, zfuel, _, _, _, _, _, _, _, _, _, _, _, _, g2576, h, leafFr [0, 2, 3, 4, 5, 6, 7, 98] (by kernel_rfl), by kernel_rfl⟩
    refine zl ?_
    refine zl ?_
    refine zl ?_
    refine zl ?_
    refine zl ?_
    refine zl ?_
    refine zl ?_
    refine zl ?_
    refine zl ?_
    have h_ := gP h; clear h; obtain ⟨c, h⟩ := h_
    refine zl ?_
    refine zl ?_
    replace h := evT h
    refine zz ?_
    exact ⟨[(0, 0), (16, 16), (529, 529), (2576, 2576)], rfl, _, zfuel, _, _, _, _, _, _, _, _, _, _, _, _, g2576, h, leafFr [0, 2, 3, 4, 5, 6, 7, 98] (by kernel_rfl), by kernel_rfl⟩
   clear h; rintro _ _ ⟨k, hle, x4, x5, x6, x7, x98, x1000, x1001, x1002, x529_0, x529_1, x529_2, x529_3, g2576, h, ⟨fr0, rfl⟩, rfl⟩
   rcases k with _ | k
   · exact (run_zero h).elim
   rw [run_succ, spec_l3Set.B] at h
   refine zz ?_
   refine br (iP h) ?_ ?_ <;> (clear h; intro c h)
   rotate_left
   ·replace h := evT h
    refine zz ?_
    exact ⟨[(0, 0), (16, 16), (529, 529), (2576, 2576)], rfl, _, zfuel, _, _, _, _, _, _, _, _, _, _, _, g2576, h, leafFr [0, 2, 3, 4, 5, 6, 7] (by kernel_rfl), by kernel_rfl⟩
   have h_ := gP h; clear h; obtain ⟨c, h⟩ := h_
   have h_ := gP h; clear h; obtain ⟨c, h⟩ := h_
   replace h := evT h
   refine zz ?_
   exact ⟨[(0, 0), (16, 16), (529, 529), (2576, 2576)], rfl, _, zfuel, _, _, _, _, _, _, _, _, _, _, _, g2576, h, leafFr [0, 2, 3, 4, 5, 6, 7] (by kernel_rfl), by kernel_rfl⟩
  clear h; rintro _ _ ⟨k, hle, x4, x5, x6, x7, x1000, x1001, x1002, x529_0, x529_1, x529_2, x529_3, g2576, h, ⟨fr0, rfl⟩, rfl⟩
  rcases k with _ | k
  · exact (run_zero h).elim
  rw [run_succ, spec_l3Set.B] at h
  refine zz ?_
  refine cutJ (n := 120) (fun fr hp => ∃ kq, kq ≤ k ∧ ∃ (x4 : List Bool) (x5 : Int) (x6 : Int) (x7 : Int) (x1000 : ByteArray) (x1001 : Int) (x1002 : Bool) (x529_0 : Int) (x529_1 : Int) (x529_2 : ByteArray) (x529_3 : Bool) (g2576 : Nat), run spec_l3Set.B kq (.j5 x4 x5 x6 x7 x1000 x1001 x1002 x529_0 x529_1 x529_2 x529_3) = some (r1, r2, r3, r4, r5, r6, r7, r8) ∧ (∃ fr0, fr = puts [(0, .one (.ptr 0 0)), (2, .one (.ptr 16 0)), (3, .one (.ptr 529 0)), (4, .one (.ref 2576 g2576)), (5, .one (.val (.int .i64 x5))), (6, .one (.val (.int .i64 x6))), (7, .one (.val (.int .i64 x7)))] fr0) ∧ hp = (upd 0 (.box [.val (.str x1000), .val (.int .i64 x1001), .val (.bool x1002)]) (upd 16 (.box [.val (.int .i64 0), .val (.int .i64 0), .val (.str (⟨#[]⟩ : ByteArray)), .val (.bool false), .nilrow]) (upd 529 (.box [.val (.int .i64 x529_0), .val (.int .i64 x529_1), .val (.str x529_2), .val (.bool x529_3), .val (.row (([] : List S24).map e24))]) (upd 2576 (.own 4 1 (x4.map VV.bool) g2576 false) (fun _ => none)))))) ?_ ?_
  ·refine zz ?_
   refine br (iP h) ?_ ?_ <;> (clear h; intro c h)
   ·replace h := evT h
    refine zz ?_
    exact ⟨[(0, 0), (16, 16), (529, 529), (2576, 2576)], rfl, _, zfuel, _, _, _, _, _, _, _, _, _, _, _, g2576, h, leafFr [0, 2, 3, 4, 5, 6, 7] (by kernel_rfl), by kernel_rfl⟩
   replace h := evT h
   refine zz ?_
   exact ⟨[(0, 0), (16, 16), (529, 529), (2576, 2576)], rfl, _, zfuel, _, _, _, _, _, _, _, _, _, _, _, g2576, h, leafFr [0, 2, 3, 4, 5, 6, 7] (by kernel_rfl), by kernel_rfl⟩
  clear h; rintro _ _ ⟨k, hle, x4, x5, x6, x7, x1000, x1001, x1002, x529_0, x529_1, x529_2, x529_3, g2576, h, ⟨fr0, rfl⟩, rfl⟩
  rcases k with _ | k
  · exact (run_zero h).elim
  rw [run_succ, spec_l3Set.B] at h
  replace h := evT h
  refine zz ?_
  refine loopJ (fun kq fr hp => ∃ (x4 : List Bool) (x5 : Int) (x7 : Int) (x8 : Int) (x1000 : ByteArray) (x1001 : Int) (x1002 : Bool) (x529_0 : Int) (x529_1 : Int) (x529_2 : ByteArray) (x529_3 : Bool) (g2576 : Nat), run spec_l3Set.B kq (.l1 x4 x5 x7 x8 x1000 x1001 x1002 x529_0 x529_1 x529_2 x529_3) = some (r1, r2, r3, r4, r5, r6, r7, r8) ∧ (∃ fr0, fr = puts [(0, .one (.ptr 0 0)), (2, .one (.ptr 16 0)), (3, .one (.ptr 529 0)), (4, .one (.ref 2576 g2576)), (5, .one (.val (.int .i64 x5))), (7, .one (.val (.int .i64 x7))), (8, .one (.val (.int .i64 x8)))] fr0) ∧ hp = (upd 0 (.box [.val (.str x1000), .val (.int .i64 x1001), .val (.bool x1002)]) (upd 16 (.box [.val (.int .i64 0), .val (.int .i64 0), .val (.str (⟨#[]⟩ : ByteArray)), .val (.bool false), .nilrow]) (upd 529 (.box [.val (.int .i64 x529_0), .val (.int .i64 x529_1), .val (.str x529_2), .val (.bool x529_3), .val (.row (([] : List S24).map e24))]) (upd 2576 (.own 4 1 (x4.map VV.bool) g2576 false) (fun _ => none)))))) k ⟨[(0, 0), (16, 16), (529, 529), (2576, 2576)], rfl, _, zfuel, _, _, _, _, _, _, _, _, _, _, _, g2576, h, leafFr [0, 2, 3, 4, 5, 7, 8] (by kernel_rfl), by kernel_rfl⟩ ?_
  clear h; rintro k hle _ _ ⟨x4, x5, x7, x8, x1000, x1001, x1002, x529_0, x529_1, x529_2, x529_3, g2576, h, ⟨fr0, rfl⟩, rfl⟩
  rcases k with _ | k
  · exact (run_zero h).elim
  rw [run_succ, spec_l3Set.B] at h
  refine zz ?_
  refine br (iP h) ?_ ?_ <;> (clear h; intro c h)
  rotate_left
  ·replace h := evT h
   refine zz ?_
   exact ⟨[(0, 0), (16, 16), (529, 529), (2576, 2576)], rfl, _, zfuel, _, _, _, _, _, _, _, _, _, g2576, h, leafFr [0, 2, 3, 4, 5] (by kernel_rfl), by kernel_rfl⟩
  have h_ := gP h; clear h; obtain ⟨c, h⟩ := h_
  have h_ := gP h; clear h; obtain ⟨c, h⟩ := h_
  refine zz ?_
  refine Exists.intro (List.map VV.bool (x4.set (x8 : Int).toNat true)) (And.intro zrow ?_)
  replace h := evT h
  refine zz ?_
  exact ⟨[(0, 0), (16, 16), (529, 529), (2576, 2576)], rfl, _, zfuel, _, _, _, _, _, _, _, _, _, _, _, g2576, h, leafFr [0, 2, 3, 4, 5, 7, 8] (by kernel_rfl), by kernel_rfl⟩
theorem spec_l3Pattern_all : ∀ n, (∀ (k : Nat) (s0_0 : ByteArray) (s0_1 : Int) (s0_2 : Bool) (a1 : Int) (r1 : Int) (r2 : Int) (r3 : ByteArray) (r4 : Bool) (r5 : List S24) (r6 : ByteArray) (r7 : Int) (r8 : Bool) (h : run spec_l3Pattern.B k (.spec_l3Pattern_f s0_0 s0_1 s0_2 a1) = some (r1, r2, r3, r4, r5, r6, r7, r8)) (hk : k < n), CE G 19 [.ptr 0 0, .val (.int .i64 a1)] [.box [.val (.str s0_0), .val (.int .i64 s0_1), .val (.bool s0_2)]] [.val (.agg [.int .i64 r1, .int .i64 r2, .str r3, .bool r4, .row (r5.map e24)])] [.box [.val (.str r6), .val (.int .i64 r7), .val (.bool r8)]]) ∧ (∀ (k : Nat) (s0_0 : ByteArray) (s0_1 : Int) (s0_2 : Bool) (a1 : Int) (r1 : Int) (r2 : Int) (r3 : ByteArray) (r4 : Bool) (r5 : List S24) (r6 : ByteArray) (r7 : Int) (r8 : Bool) (h : run spec_l3Pattern.B k (.spec_l3Part_f s0_0 s0_1 s0_2 a1) = some (r1, r2, r3, r4, r5, r6, r7, r8)) (hk : k < n), CE G 35 [.ptr 0 0, .val (.int .i64 a1)] [.box [.val (.str s0_0), .val (.int .i64 s0_1), .val (.bool s0_2)]] [.val (.agg [.int .i64 r1, .int .i64 r2, .str r3, .bool r4, .row (r5.map e24)])] [.box [.val (.str r6), .val (.int .i64 r7), .val (.bool r8)]]) ∧ (∀ (k : Nat) (s0_0 : ByteArray) (s0_1 : Int) (s0_2 : Bool) (a1 : Int) (r1 : Int) (r2 : Int) (r3 : ByteArray) (r4 : Bool) (r5 : List S24) (r6 : ByteArray) (r7 : Int) (r8 : Bool) (h : run spec_l3Pattern.B k (.spec_l3Piece_f s0_0 s0_1 s0_2 a1) = some (r1, r2, r3, r4, r5, r6, r7, r8)) (hk : k < n), CE G 47 [.ptr 0 0, .val (.int .i64 a1)] [.box [.val (.str s0_0), .val (.int .i64 s0_1), .val (.bool s0_2)]] [.val (.agg [.int .i64 r1, .int .i64 r2, .str r3, .bool r4, .row (r5.map e24)])] [.box [.val (.str r6), .val (.int .i64 r7), .val (.bool r8)]]) ∧ (∀ (k : Nat) (s0_0 : ByteArray) (s0_1 : Int) (s0_2 : Bool) (a1 : Int) (r1 : Int) (r2 : Int) (r3 : ByteArray) (r4 : Bool) (r5 : List S24) (r6 : ByteArray) (r7 : Int) (r8 : Bool) (h : run spec_l3Pattern.B k (.spec_l3Atom_f s0_0 s0_1 s0_2 a1) = some (r1, r2, r3, r4, r5, r6, r7, r8)) (hk : k < n), CE G 56 [.ptr 0 0, .val (.int .i64 a1)] [.box [.val (.str s0_0), .val (.int .i64 s0_1), .val (.bool s0_2)]] [.val (.agg [.int .i64 r1, .int .i64 r2, .str r3, .bool r4, .row (r5.map e24)])] [.box [.val (.str r6), .val (.int .i64 r7), .val (.bool r8)]]) := by
  intro n
  induction n with
  | zero => exact ⟨by intros; omega, by intros; omega, by intros; omega, by intros; omega⟩
  | succ n ih =>
    refine ⟨?_, ?_, ?_, ?_⟩
    · intro k s0_0 s0_1 s0_2 a1 r1 r2 r3 r4 r5 r6 r7 r8 h hk
      refine CE.mk ⟨Try.f19, _, rfl, rfl, ⟨by kernel_rfl, Nat.le_of_ble_eq_true rfl, Nat.le_of_ble_eq_true rfl⟩, ?_⟩
      rcases k with _ | k
      · exact (run_zero h).elim
      rw [run_succ, spec_l3Pattern.B] at h
      have h_ := evA h; clear h; obtain ⟨t8, ht, h⟩ := h_
      refine zz ?_
      refine Exists.intro _ (Exists.intro _ (And.intro (ih.2.1 _ (h := ht) (hk := zfuel)) ?_))
      refine zz ?_
      refine Exists.intro (List.map e24 ([(⟨t8.1, t8.2.1, t8.2.2.1, t8.2.2.2.1, t8.2.2.2.2.1⟩ : S24)] : List S24)) (And.intro zrow ?_)
      replace h := evT h
      refine zz ?_
      refine loopJ (fun kq fr hp => ∃ (x1 : Int) (x5 : List S24) (x1000 : ByteArray) (x1001 : Int) (x1002 : Bool) (g531 : Nat), run spec_l3Pattern.B kq (.spec_l3Pattern_l0 x1 x5 x1000 x1001 x1002) = some (r1, r2, r3, r4, r5, r6, r7, r8) ∧ (∃ fr0, fr = puts [(0, .one (.ptr 0 0)), (1, .one (.val (.int .i64 x1))), (4, .one (.ptr 16 0)), (5, .one (.ref 531 g531))] fr0) ∧ hp = (upd 0 (.box [.val (.str x1000), .val (.int .i64 x1001), .val (.bool x1002)]) (upd 16 (.box [.val (.int .i64 0), .val (.int .i64 0), .val (.str (⟨#[]⟩ : ByteArray)), .val (.bool false), .nilrow]) (upd 531 (.own 24 5 (x5.map e24) g531 false) (fun _ => none))))) k ⟨[(0, 0), (16, 16), (531, 531)], rfl, _, zfuel, _, _, _, _, _, 0, h, leafFr [0, 1, 4, 5] (by kernel_rfl), by kernel_rfl⟩ ?_
      clear h; rintro k hle _ _ ⟨x1, x5, x1000, x1001, x1002, g531, h, ⟨fr0, rfl⟩, rfl⟩
      rcases k with _ | k
      · exact (run_zero h).elim
      rw [run_succ, spec_l3Pattern.B] at h
      have h_ := evO h; clear h; obtain ⟨t11, ht, h⟩ := h_
      refine zz ?_
      refine Exists.intro _ (Exists.intro _ (And.intro (spec_l3Now_ev (h := ht)) ?_))
      refine zz ?_
      refine br (iP h) ?_ ?_ <;> (clear h; intro c h)
      rotate_left
      ·refine zz ?_
       refine br (iP h) ?_ ?_ <;> (clear h; intro c h)
       rotate_left
       ·replace h := evR h; cases h
        refine zz ?_
        exact zend
       have h_ := gP h; clear h; obtain ⟨c, h⟩ := h_
       replace h := evR h; cases h
       refine zz ?_
       exact zend
      have h_ := evA h; clear h; obtain ⟨t22, ht, h⟩ := h_
      refine zz ?_
      refine Exists.intro _ (Exists.intro _ (And.intro (ih.2.1 _ (h := ht) (hk := zfuel)) ?_))
      refine zz ?_
      refine Exists.intro (List.map e24 ([(⟨t22.1, t22.2.1, t22.2.2.1, t22.2.2.2.1, t22.2.2.2.2.1⟩ : S24)] : List S24)) (And.intro zrow ?_)
      have h_ := gP h; clear h; obtain ⟨c, h⟩ := h_
      refine zz ?_
      refine Exists.intro (List.map e24 (x5 ++ [(⟨t22.1, t22.2.1, t22.2.2.1, t22.2.2.2.1, t22.2.2.2.2.1⟩ : S24)])) (And.intro zrow ?_)
      replace h := evT h
      refine zz ?_
      exact ⟨[(0, 0), (16, 16), (531, 531)], rfl, _, zfuel, _, _, _, _, _, (g531 + 1), h, leafFr [0, 1, 4, 5] (by kernel_rfl), by kernel_rfl⟩
    · intro k s0_0 s0_1 s0_2 a1 r1 r2 r3 r4 r5 r6 r7 r8 h hk
      refine CE.mk ⟨Try.f35, _, rfl, rfl, ⟨by kernel_rfl, Nat.le_of_ble_eq_true rfl, Nat.le_of_ble_eq_true rfl⟩, ?_⟩
      rcases k with _ | k
      · exact (run_zero h).elim
      rw [run_succ, spec_l3Pattern.B] at h
      refine zz ?_
      refine Exists.intro (List.map e24 ([] : List S24)) (And.intro zrow ?_)
      refine zz ?_
      refine cutJ (n := 100000) (fun fr hp => ∃ kq, kq ≤ k ∧ ∃ (x5 : List S24) (x1000 : ByteArray) (x1001 : Int) (x1002 : Bool) (g528 : Nat), run spec_l3Pattern.B kq (.spec_l3Part_j1 x5 x1000 x1001 x1002) = some (r1, r2, r3, r4, r5, r6, r7, r8) ∧ (∃ fr0, fr = puts [(4, .one (.ptr 16 0)), (5, .one (.ref 528 g528))] fr0) ∧ hp = (upd 0 (.box [.val (.str x1000), .val (.int .i64 x1001), .val (.bool x1002)]) (upd 16 (.box [.val (.int .i64 0), .val (.int .i64 0), .val (.str (⟨#[]⟩ : ByteArray)), .val (.bool false), .nilrow]) (upd 528 (.own 24 5 (x5.map e24) g528 false) (fun _ => none))))) ?_ ?_
      ·replace h := evT h
       refine zz ?_
       refine loopJ (fun kq fr hp => ∃ (x1 : Int) (x5 : List S24) (x1000 : ByteArray) (x1001 : Int) (x1002 : Bool) (g528 : Nat), run spec_l3Pattern.B kq (.spec_l3Part_l0 x1 x5 x1000 x1001 x1002) = some (r1, r2, r3, r4, r5, r6, r7, r8) ∧ (∃ fr0, fr = puts [(0, .one (.ptr 0 0)), (1, .one (.val (.int .i64 x1))), (4, .one (.ptr 16 0)), (5, .one (.ref 528 g528))] fr0) ∧ hp = (upd 0 (.box [.val (.str x1000), .val (.int .i64 x1001), .val (.bool x1002)]) (upd 16 (.box [.val (.int .i64 0), .val (.int .i64 0), .val (.str (⟨#[]⟩ : ByteArray)), .val (.bool false), .nilrow]) (upd 528 (.own 24 5 (x5.map e24) g528 false) (fun _ => none))))) k ⟨[(0, 0), (16, 16), (528, 528)], rfl, _, zfuel, _, _, _, _, _, 0, h, leafFr [0, 1, 4, 5] (by kernel_rfl), by kernel_rfl⟩ ?_
       clear h; rintro k hle _ _ ⟨x1, x5, x1000, x1001, x1002, g528, h, ⟨fr0, rfl⟩, rfl⟩
       rcases k with _ | k
       · exact (run_zero h).elim
       rw [run_succ, spec_l3Pattern.B] at h
       refine zz ?_
       refine brN (iP h) ?_ ?_ <;> (clear h; intro c h)
       rotate_left
       ·refine zr ?_
        refine zr ?_
        refine zr ?_
        refine zr ?_
        refine zr ?_
        refine zr ?_
        refine zr ?_
        refine zr ?_
        refine zr ?_
        refine zr ?_
        refine zr ?_
        refine zr ?_
        refine zr ?_
        refine zr ?_
        refine zr ?_
        refine zr ?_
        refine zr ?_
        refine zr ?_
        refine zr ?_
        refine zr ?_
        refine zr ?_
        refine zr ?_
        refine zr ?_
        refine zr ?_
        refine zr ?_
        refine zr ?_
        refine zr ?_
        refine zr ?_
        refine zr ?_
        refine zr ?_
        refine zr ?_
        refine zr ?_
        refine zr ?_
        replace h := evT h
        refine zz ?_
        exact ⟨[(0, 0), (16, 16), (528, 528)], rfl, _, zfuel, _, _, _, _, g528, h, leafFr [4, 5] (by kernel_rfl), by kernel_rfl⟩
       refine zl ?_
       refine zl ?_
       refine zl ?_
       refine zl ?_
       refine zl ?_
       refine zl ?_
       refine zl ?_
       refine zl ?_
       refine zl ?_
       refine zl ?_
       refine zz ?_
       refine br (iP h) ?_ ?_ <;> (clear h; intro c h)
       rotate_left
       ·refine zr ?_
        refine zr ?_
        refine zr ?_
        refine zr ?_
        refine zr ?_
        refine zr ?_
        refine zr ?_
        refine zr ?_
        refine zr ?_
        refine zr ?_
        refine zr ?_
        refine zr ?_
        refine zr ?_
        refine zr ?_
        refine zr ?_
        refine zr ?_
        refine zr ?_
        refine zr ?_
        refine zr ?_
        refine zr ?_
        refine zr ?_
        refine zr ?_
        replace h := evT h
        refine zz ?_
        exact ⟨[(0, 0), (16, 16), (528, 528)], rfl, _, zfuel, _, _, _, _, g528, h, leafFr [4, 5] (by kernel_rfl), by kernel_rfl⟩
       refine zl ?_
       refine zl ?_
       refine zl ?_
       refine zl ?_
       refine zl ?_
       refine zl ?_
       refine zl ?_
       refine zl ?_
       have h_ := gP h; clear h; obtain ⟨c, h⟩ := h_
       refine zl ?_
       refine zl ?_
       refine zz ?_
       refine brN (iP h) ?_ ?_ <;> (clear h; intro c h)
       rotate_left
       ·refine zr ?_
        refine zr ?_
        refine zr ?_
        refine zr ?_
        refine zr ?_
        refine zr ?_
        refine zr ?_
        refine zr ?_
        refine zr ?_
        refine zr ?_
        refine zr ?_
        replace h := evT h
        refine zz ?_
        exact ⟨[(0, 0), (16, 16), (528, 528)], rfl, _, zfuel, _, _, _, _, g528, h, leafFr [4, 5] (by kernel_rfl), by kernel_rfl⟩
       refine zl ?_
       refine zl ?_
       refine zl ?_
       refine zl ?_
       refine zl ?_
       refine zl ?_
       refine zl ?_
       refine zl ?_
       refine zl ?_
       refine zl ?_
       refine zz ?_
       refine brN (iP h) ?_ ?_ <;> (clear h; intro c h)
       rotate_left
       ·replace h := evT h
        refine zz ?_
        exact ⟨[(0, 0), (16, 16), (528, 528)], rfl, _, zfuel, _, _, _, _, g528, h, leafFr [4, 5] (by kernel_rfl), by kernel_rfl⟩
       have h_ := evA h; clear h; obtain ⟨t51, ht, h⟩ := h_
       refine zz ?_
       refine Exists.intro _ (Exists.intro _ (And.intro (ih.2.2.1 _ (h := ht) (hk := zfuel)) ?_))
       refine zz ?_
       refine Exists.intro (List.map e24 ([(⟨t51.1, t51.2.1, t51.2.2.1, t51.2.2.2.1, t51.2.2.2.2.1⟩ : S24)] : List S24)) (And.intro zrow ?_)
       have h_ := gP h; clear h; obtain ⟨c, h⟩ := h_
       refine zz ?_
       refine Exists.intro (List.map e24 (x5 ++ [(⟨t51.1, t51.2.1, t51.2.2.1, t51.2.2.2.1, t51.2.2.2.2.1⟩ : S24)])) (And.intro zrow ?_)
       replace h := evT h
       refine zz ?_
       exact ⟨[(0, 0), (16, 16), (528, 528)], rfl, _, zfuel, _, _, _, _, _, (g528 + 1), h, leafFr [0, 1, 4, 5] (by kernel_rfl), by kernel_rfl⟩
      clear h; rintro _ _ ⟨k, hle, x5, x1000, x1001, x1002, g528, h, ⟨fr0, rfl⟩, rfl⟩
      rcases k with _ | k
      · exact (run_zero h).elim
      rw [run_succ, spec_l3Pattern.B] at h
      refine zz ?_
      refine br (iP h) ?_ ?_ <;> (clear h; intro c h)
      ·replace h := evR h; cases h
       refine zz ?_
       exact zend
      refine zz ?_
      refine br (iP h) ?_ ?_ <;> (clear h; intro c h)
      rotate_left
      ·replace h := evR h; cases h
       refine zz ?_
       exact zend
      have h_ := gP h; clear h; obtain ⟨c, h⟩ := h_
      replace h := evR h; cases h
      refine zz ?_
      exact zend
    · intro k s0_0 s0_1 s0_2 a1 r1 r2 r3 r4 r5 r6 r7 r8 h hk
      refine CE.mk ⟨Try.f47, _, rfl, rfl, ⟨by kernel_rfl, Nat.le_of_ble_eq_true rfl, Nat.le_of_ble_eq_true rfl⟩, ?_⟩
      rcases k with _ | k
      · exact (run_zero h).elim
      rw [run_succ, spec_l3Pattern.B] at h
      have h_ := evA h; clear h; obtain ⟨t10, ht, h⟩ := h_
      refine zz ?_
      refine Exists.intro _ (Exists.intro _ (And.intro (ih.2.2.2 _ (h := ht) (hk := zfuel)) ?_))
      replace h := evT h
      refine zz ?_
      refine loopJ (fun kq fr hp => ∃ (x1000 : ByteArray) (x1001 : Int) (x1002 : Bool) (x531_0 : Int) (x531_1 : Int) (x531_2 : ByteArray) (x531_3 : Bool) (x531_4 : List S24), run spec_l3Pattern.B kq (.spec_l3Piece_l0 x1000 x1001 x1002 x531_0 x531_1 x531_2 x531_3 x531_4) = some (r1, r2, r3, r4, r5, r6, r7, r8) ∧ (∃ fr0, fr = puts [(0, .one (.ptr 0 0)), (4, .one (.ptr 16 0)), (5, .one (.ptr 531 0))] fr0) ∧ hp = (upd 0 (.box [.val (.str x1000), .val (.int .i64 x1001), .val (.bool x1002)]) (upd 16 (.box [.val (.int .i64 0), .val (.int .i64 0), .val (.str (⟨#[]⟩ : ByteArray)), .val (.bool false), .nilrow]) (upd 531 (.box [.val (.int .i64 x531_0), .val (.int .i64 x531_1), .val (.str x531_2), .val (.bool x531_3), .val (.row (x531_4.map e24))]) (fun _ => none))))) k ⟨[(0, 0), (16, 16), (531, 531)], rfl, _, zfuel, _, _, _, _, _, _, _, _, h, leafFr [0, 4, 5] (by kernel_rfl), by kernel_rfl⟩ ?_
      clear h; rintro k hle _ _ ⟨x1000, x1001, x1002, x531_0, x531_1, x531_2, x531_3, x531_4, h, ⟨fr0, rfl⟩, rfl⟩
      rcases k with _ | k
      · exact (run_zero h).elim
      rw [run_succ, spec_l3Pattern.B] at h
      refine zz ?_
      refine brN (iP h) ?_ ?_ <;> (clear h; intro c h)
      rotate_left
      ·replace h := evR h; cases h
       refine zz ?_
       exact zend
      have h_ := evO h; clear h; obtain ⟨t18, ht, h⟩ := h_
      refine zz ?_
      refine Exists.intro _ (Exists.intro _ (And.intro (spec_l3Now_ev (h := ht)) ?_))
      refine zz ?_
      refine br (iP h) ?_ ?_ <;> (clear h; intro c h)
      ·refine zz ?_
       refine br (iP h) ?_ ?_ <;> (clear h; intro c h)
       ·exact absurd c (by decide)
       refine zz ?_
       refine Exists.intro (List.map e24 ([(⟨x531_0, x531_1, x531_2, x531_3, x531_4⟩ : S24)] : List S24)) (And.intro zrow ?_)
       replace h := evT h
       refine zz ?_
       exact ⟨[(0, 0), (16, 16), (531, 531)], rfl, _, zfuel, _, _, _, _, _, _, _, _, h, leafFr [0, 4, 5] (by kernel_rfl), by kernel_rfl⟩
      have h_ := evO h; clear h; obtain ⟨t21, ht, h⟩ := h_
      refine zz ?_
      refine Exists.intro _ (Exists.intro _ (And.intro (spec_l3Now_ev (h := ht)) ?_))
      refine zz ?_
      refine br (iP h) ?_ ?_ <;> (clear h; intro c h)
      ·refine zz ?_
       refine br (iP h) ?_ ?_ <;> (clear h; intro c h)
       ·exact absurd c (by decide)
       refine zz ?_
       refine Exists.intro (List.map e24 ([(⟨x531_0, x531_1, x531_2, x531_3, x531_4⟩ : S24)] : List S24)) (And.intro zrow ?_)
       replace h := evT h
       refine zz ?_
       exact ⟨[(0, 0), (16, 16), (531, 531)], rfl, _, zfuel, _, _, _, _, _, _, _, _, h, leafFr [0, 4, 5] (by kernel_rfl), by kernel_rfl⟩
      have h_ := evO h; clear h; obtain ⟨t24, ht, h⟩ := h_
      refine zz ?_
      refine Exists.intro _ (Exists.intro _ (And.intro (spec_l3Now_ev (h := ht)) ?_))
      refine zz ?_
      refine br (iP h) ?_ ?_ <;> (clear h; intro c h)
      rotate_left
      ·refine zz ?_
       refine br (iP h) ?_ ?_ <;> (clear h; intro c h)
       ·replace h := evR h; cases h
        refine zz ?_
        exact zend
       exact absurd c (by decide)
      refine zz ?_
      refine br (iP h) ?_ ?_ <;> (clear h; intro c h)
      ·exact absurd c (by decide)
      refine zz ?_
      refine Exists.intro (List.map e24 ([(⟨x531_0, x531_1, x531_2, x531_3, x531_4⟩ : S24)] : List S24)) (And.intro zrow ?_)
      replace h := evT h
      refine zz ?_
      exact ⟨[(0, 0), (16, 16), (531, 531)], rfl, _, zfuel, _, _, _, _, _, _, _, _, h, leafFr [0, 4, 5] (by kernel_rfl), by kernel_rfl⟩
    · intro k s0_0 s0_1 s0_2 a1 r1 r2 r3 r4 r5 r6 r7 r8 h hk
      refine CE.mk ⟨Try.f56, _, rfl, rfl, ⟨by kernel_rfl, Nat.le_of_ble_eq_true rfl, Nat.le_of_ble_eq_true rfl⟩, ?_⟩
      rcases k with _ | k
      · exact (run_zero h).elim
      rw [run_succ, spec_l3Pattern.B] at h
      refine zz ?_
      refine cutJ (n := 200001) (fun fr hp => ∃ kq, kq ≤ k ∧ ∃ (x1 : Int) (x26 : Bool) (x1000 : ByteArray) (x1001 : Int) (x1002 : Bool), run spec_l3Pattern.B kq (.spec_l3Atom_j0 x1 x26 x1000 x1001 x1002) = some (r1, r2, r3, r4, r5, r6, r7, r8) ∧ (∃ fr0, fr = puts [(0, .one (.ptr 0 0)), (1, .one (.val (.int .i64 x1))), (4, .one (.ptr 16 0)), (26, .one (.val (.bool x26)))] fr0) ∧ hp = (upd 0 (.box [.val (.str x1000), .val (.int .i64 x1001), .val (.bool x1002)]) (upd 16 (.box [.val (.int .i64 0), .val (.int .i64 0), .val (.str (⟨#[]⟩ : ByteArray)), .val (.bool false), .nilrow]) (fun _ => none)))) ?_ ?_
      ·refine zz ?_
       refine brW (iP h) ?_ ?_ <;> (clear h; intro c h)
       rotate_left
       ·refine zr ?_
        refine zr ?_
        refine zr ?_
        refine zr ?_
        refine zr ?_
        refine zr ?_
        refine zr ?_
        refine zr ?_
        refine zr ?_
        refine zl ?_
        refine zr ?_
        refine zr ?_
        refine zl ?_
        replace h := evT h
        refine zz ?_
        exact ⟨[(0, 0), (16, 16)], rfl, _, zfuel, _, _, _, _, _, h, leafFr [0, 1, 4, 26] (by kernel_rfl), by kernel_rfl⟩
       refine zl ?_
       refine zl ?_
       refine zl ?_
       refine zl ?_
       refine zl ?_
       refine zl ?_
       refine zl ?_
       refine zl ?_
       refine zl ?_
       refine zr ?_
       refine zz ?_
       refine brW (iP h) ?_ ?_ <;> (clear h; intro c h)
       ·refine zl ?_
        refine zr ?_
        replace h := evT h
        refine zz ?_
        exact ⟨[(0, 0), (16, 16)], rfl, _, zfuel, _, _, _, _, _, h, leafFr [0, 1, 4, 26] (by kernel_rfl), by kernel_rfl⟩
       refine zr ?_
       refine zl ?_
       replace h := evT h
       refine zz ?_
       exact ⟨[(0, 0), (16, 16)], rfl, _, zfuel, _, _, _, _, _, h, leafFr [0, 1, 4, 26] (by kernel_rfl), by kernel_rfl⟩
      clear h; rintro _ _ ⟨k, hle, x1, x26, x1000, x1001, x1002, h, ⟨fr0, rfl⟩, rfl⟩
      rcases k with _ | k
      · exact (run_zero h).elim
      rw [run_succ, spec_l3Pattern.B] at h
      refine zz ?_
      refine br (iP h) ?_ ?_ <;> (clear h; intro c h)
      ·replace h := evR h; cases h
       refine zz ?_
       exact zend
      have h_ := gP h; clear h; obtain ⟨c, h⟩ := h_
      have h_ := gP h; clear h; obtain ⟨c, h⟩ := h_
      refine zz ?_
      refine br (iP h) ?_ ?_ <;> (clear h; intro c h)
      ·have h_ := evA h; clear h; obtain ⟨t53, ht, h⟩ := h_
       refine zz ?_
       refine Exists.intro _ (Exists.intro _ (And.intro (ih.1 _ (h := ht) (hk := zfuel)) ?_))
       have h_ := evO h; clear h; obtain ⟨t55, ht, h⟩ := h_
       refine zz ?_
       refine Exists.intro _ (Exists.intro _ (And.intro (spec_l3Now_ev (h := ht)) ?_))
       refine zz ?_
       refine brN (iP h) ?_ ?_ <;> (clear h; intro c h)
       ·replace h := evR h; cases h
        refine zz ?_
        exact zend
       replace h := evR h; cases h
       refine zz ?_
       exact zend
      refine zz ?_
      refine br (iP h) ?_ ?_ <;> (clear h; intro c h)
      ·replace h := evR h; cases h
       refine zz ?_
       exact zend
      refine zz ?_
      refine br (iP h) ?_ ?_ <;> (clear h; intro c h)
      ·replace h := evR h; cases h
       refine zz ?_
       exact zend
      refine zz ?_
      refine br (iP h) ?_ ?_ <;> (clear h; intro c h)
      ·replace h := evR h; cases h
       refine zz ?_
       exact zend
      refine zz ?_
      refine br (iP h) ?_ ?_ <;> (clear h; intro c h)
      ·have h_ := evO h; clear h; obtain ⟨t80, ht, h⟩ := h_
       refine zz ?_
       refine Exists.intro _ (Exists.intro _ (And.intro (spec_l3Set_ev (h := ht)) ?_))
       replace h := evR h; cases h
       refine zz ?_
       exact zend
      refine zz ?_
      refine br (iP h) ?_ ?_ <;> (clear h; intro c h)
      ·refine zz ?_
       refine br (iP h) ?_ ?_ <;> (clear h; intro c h)
       ·replace h := evR h; cases h
        refine zz ?_
        exact zend
       have h_ := gP h; clear h; obtain ⟨c, h⟩ := h_
       have h_ := gP h; clear h; obtain ⟨c, h⟩ := h_
       replace h := evR h; cases h
       refine zz ?_
       exact zend
      refine zz ?_
      refine br (iP h) ?_ ?_ <;> (clear h; intro c h)
      ·refine zl ?_
       replace h := evR h; cases h
       refine zz ?_
       exact zend
      refine zz ?_
      refine br (iP h) ?_ ?_ <;> (clear h; intro c h)
      ·refine zl ?_
       replace h := evR h; cases h
       refine zz ?_
       exact zend
      refine zz ?_
      refine br (iP h) ?_ ?_ <;> (clear h; intro c h)
      ·replace h := evR h; cases h
       refine zz ?_
       exact zend
      replace h := evR h; cases h
      refine zz ?_
      exact zend
theorem spec_l3Pattern_ev (s0_0 : ByteArray) (s0_1 : Int) (s0_2 : Bool) (a1 : Int) (r1 : Int) (r2 : Int) (r3 : ByteArray) (r4 : Bool) (r5 : List S24) (r6 : ByteArray) (r7 : Int) (r8 : Bool) (h : spec_l3Pattern.fv s0_0 s0_1 s0_2 a1 = some (r1, r2, r3, r4, r5, r6, r7, r8)) : CE G 19 [.ptr 0 0, .val (.int .i64 a1)] [.box [.val (.str s0_0), .val (.int .i64 s0_1), .val (.bool s0_2)]] [.val (.agg [.int .i64 r1, .int .i64 r2, .str r3, .bool r4, .row (r5.map e24)])] [.box [.val (.str r6), .val (.int .i64 r7), .val (.bool r8)]] := by
  obtain ⟨k, h⟩ := lim_ex h
  exact (spec_l3Pattern_all (k + 1)).1 k _ _ _ _ _ _ _ _ _ _ _ _ h (Nat.lt_succ_self k)
theorem spec_l3Part_ev (s0_0 : ByteArray) (s0_1 : Int) (s0_2 : Bool) (a1 : Int) (r1 : Int) (r2 : Int) (r3 : ByteArray) (r4 : Bool) (r5 : List S24) (r6 : ByteArray) (r7 : Int) (r8 : Bool) (h : spec_l3Part.fv s0_0 s0_1 s0_2 a1 = some (r1, r2, r3, r4, r5, r6, r7, r8)) : CE G 35 [.ptr 0 0, .val (.int .i64 a1)] [.box [.val (.str s0_0), .val (.int .i64 s0_1), .val (.bool s0_2)]] [.val (.agg [.int .i64 r1, .int .i64 r2, .str r3, .bool r4, .row (r5.map e24)])] [.box [.val (.str r6), .val (.int .i64 r7), .val (.bool r8)]] := by
  obtain ⟨k, h⟩ := lim_ex h
  exact (spec_l3Pattern_all (k + 1)).2.1 k _ _ _ _ _ _ _ _ _ _ _ _ h (Nat.lt_succ_self k)
theorem spec_l3Piece_ev (s0_0 : ByteArray) (s0_1 : Int) (s0_2 : Bool) (a1 : Int) (r1 : Int) (r2 : Int) (r3 : ByteArray) (r4 : Bool) (r5 : List S24) (r6 : ByteArray) (r7 : Int) (r8 : Bool) (h : spec_l3Piece.fv s0_0 s0_1 s0_2 a1 = some (r1, r2, r3, r4, r5, r6, r7, r8)) : CE G 47 [.ptr 0 0, .val (.int .i64 a1)] [.box [.val (.str s0_0), .val (.int .i64 s0_1), .val (.bool s0_2)]] [.val (.agg [.int .i64 r1, .int .i64 r2, .str r3, .bool r4, .row (r5.map e24)])] [.box [.val (.str r6), .val (.int .i64 r7), .val (.bool r8)]] := by
  obtain ⟨k, h⟩ := lim_ex h
  exact (spec_l3Pattern_all (k + 1)).2.2.1 k _ _ _ _ _ _ _ _ _ _ _ _ h (Nat.lt_succ_self k)
theorem spec_l3Atom_ev (s0_0 : ByteArray) (s0_1 : Int) (s0_2 : Bool) (a1 : Int) (r1 : Int) (r2 : Int) (r3 : ByteArray) (r4 : Bool) (r5 : List S24) (r6 : ByteArray) (r7 : Int) (r8 : Bool) (h : spec_l3Atom.fv s0_0 s0_1 s0_2 a1 = some (r1, r2, r3, r4, r5, r6, r7, r8)) : CE G 56 [.ptr 0 0, .val (.int .i64 a1)] [.box [.val (.str s0_0), .val (.int .i64 s0_1), .val (.bool s0_2)]] [.val (.agg [.int .i64 r1, .int .i64 r2, .str r3, .bool r4, .row (r5.map e24)])] [.box [.val (.str r6), .val (.int .i64 r7), .val (.bool r8)]] := by
  obtain ⟨k, h⟩ := lim_ex h
  exact (spec_l3Pattern_all (k + 1)).2.2.2 k _ _ _ _ _ _ _ _ _ _ _ _ h (Nat.lt_succ_self k)
theorem spec_l1Max_ev (a0 : Int) (a1 : Int) (r : Int) (h : spec_l1Max.f a0 a1 = some r) : CE G 37 [.val (.int .i64 a0), .val (.int .i64 a1)] [] [.val (.int .i64 r)] [] := by
  refine CE.mk ⟨Try.f37, _, rfl, rfl, ⟨by kernel_rfl, Nat.le_of_ble_eq_true rfl, Nat.le_of_ble_eq_true rfl⟩, ?_⟩
  rw [spec_l1Max.f] at h
  refine zz ?_
  refine br (iteS h) ?_ ?_ <;> (clear h; intro c h)
  ·cases h
   refine zz ?_
   exact zend
  cases h
  refine zz ?_
  exact zend
theorem spec_l3Deep_all : ∀ n, (∀ (k : Nat) (a0_0 : Int) (a0_1 : Int) (a0_2 : ByteArray) (a0_3 : Bool) (l0_4 : List S24) (r : Int) (h : run spec_l3Deep.B k (.f a0_0 a0_1 a0_2 a0_3 l0_4) = some r) (hk : k < n), CE G 20 [.val (.agg [.int .i64 a0_0, .int .i64 a0_1, .str a0_2, .bool a0_3, .row (l0_4.map e24)])] [] [.val (.int .i64 r)] []) := by
  intro n
  induction n with
  | zero => exact (by intros; omega)
  | succ n ih =>
    · intro k a0_0 a0_1 a0_2 a0_3 l0_4 r h hk
      refine CE.mk ⟨Try.f20, _, rfl, rfl, ⟨by kernel_rfl, Nat.le_of_ble_eq_true rfl, Nat.le_of_ble_eq_true rfl⟩, ?_⟩
      rcases k with _ | k
      · exact (run_zero h).elim
      rw [run_succ, spec_l3Deep.B] at h
      replace h := evT h
      refine zz ?_
      refine loopJ (fun kq fr hp => ∃ (x3 : Int) (x4 : Int) (x16_0 : Int) (x16_1 : Int) (x16_2 : ByteArray) (x16_3 : Bool) (x16_4 : List S24), run spec_l3Deep.B kq (.l0 x3 x4 x16_0 x16_1 x16_2 x16_3 x16_4) = some r ∧ (∃ fr0, fr = puts [(1, .one (.ptr 16 0)), (3, .one (.val (.int .i64 x3))), (4, .one (.val (.int .i64 x4)))] fr0) ∧ hp = (upd 16 (.box [.val (.int .i64 x16_0), .val (.int .i64 x16_1), .val (.str x16_2), .val (.bool x16_3), .val (.row (x16_4.map e24))]) (fun _ => none))) k ⟨[(16, 16)], rfl, _, zfuel, _, _, _, _, _, _, _, h, leafFr [1, 3, 4] (by kernel_rfl), by kernel_rfl⟩ ?_
      clear h; rintro k hle _ _ ⟨x3, x4, x16_0, x16_1, x16_2, x16_3, x16_4, h, ⟨fr0, rfl⟩, rfl⟩
      rcases k with _ | k
      · exact (run_zero h).elim
      rw [run_succ, spec_l3Deep.B] at h
      refine zz ?_
      refine br (iP h) ?_ ?_ <;> (clear h; intro c h)
      rotate_left
      ·replace h := evR h; cases h
       refine zz ?_
       exact zend
      have h_ := gP h; clear h; obtain ⟨c, h⟩ := h_
      have h_ := evA h; clear h; obtain ⟨t18, ht, h⟩ := h_
      refine zz ?_
      refine Exists.intro _ (And.intro (ih _ (h := ht) (hk := zfuel)) ?_)
      have h_ := evO h; clear h; obtain ⟨t19, ht, h⟩ := h_
      refine zz ?_
      refine Exists.intro _ (And.intro (spec_l1Max_ev (h := ht)) ?_)
      replace h := evT h
      refine zz ?_
      exact ⟨[(16, 16)], rfl, _, zfuel, _, _, _, _, _, _, _, h, leafFr [1, 3, 4] (by kernel_rfl), by kernel_rfl⟩
theorem spec_l3Deep_ev (a0_0 : Int) (a0_1 : Int) (a0_2 : ByteArray) (a0_3 : Bool) (l0_4 : List S24) (r : Int) (h : spec_l3Deep.fv a0_0 a0_1 a0_2 a0_3 l0_4 = some r) : CE G 20 [.val (.agg [.int .i64 a0_0, .int .i64 a0_1, .str a0_2, .bool a0_3, .row (l0_4.map e24)])] [] [.val (.int .i64 r)] [] := by
  obtain ⟨k, h⟩ := lim_ex h
  exact (spec_l3Deep_all (k + 1)) k _ _ _ _ _ _ h (Nat.lt_succ_self k)
theorem spec_RexParse_ev (a0 : ByteArray) (r1 : Int) (r2 : Int) (r3 : ByteArray) (r4 : Bool) (r5 : List S24) (r6 : Bool) (h : spec_RexParse.fv a0 = some (r1, r2, r3, r4, r5, r6)) : CE G 5 [.val (.str a0)] [] [.val (.agg [.int .i64 r1, .int .i64 r2, .str r3, .bool r4, .row (r5.map e24)]), .val (.bool r6)] [] := by
  refine CE.mk ⟨Try.f5, _, rfl, rfl, ⟨by kernel_rfl, Nat.le_of_ble_eq_true rfl, Nat.le_of_ble_eq_true rfl⟩, ?_⟩
  rw [spec_RexParse.fv] at h
  refine zz ?_
  refine br (iteS h) ?_ ?_ <;> (clear h; intro c h)
  ·cases h
   refine zz ?_
   exact zend
  have h_ := oS h; clear h; obtain ⟨t14, ht, h⟩ := h_
  refine zz ?_
  refine Exists.intro _ (Exists.intro _ (And.intro (spec_l3Pattern_ev (h := ht)) ?_))
  refine zz ?_
  refine brW (iteS h) ?_ ?_ <;> (clear h; intro c h)
  rotate_left
  ·refine zr ?_
   refine zr ?_
   refine zr ?_
   refine zr ?_
   refine zr ?_
   refine zr ?_
   refine zl ?_
   refine zr ?_
   refine zr ?_
   refine zr ?_
   refine zl ?_
   refine zl ?_
   cases h
   refine zz ?_
   exact zend
  refine zl ?_
  refine zl ?_
  refine zl ?_
  refine zl ?_
  refine zl ?_
  refine zl ?_
  refine zr ?_
  refine zz ?_
  refine brX (iteS h) ?_ ?_ <;> (clear h; intro c h)
  rotate_left
  ·refine zr ?_
   refine zr ?_
   refine zl ?_
   refine zl ?_
   cases h
   refine zz ?_
   exact zend
  refine zl ?_
  have h_ := oS h; clear h; obtain ⟨t30, ht, h⟩ := h_
  refine zz ?_
  refine Exists.intro _ (And.intro (spec_l3Deep_ev (h := ht)) ?_)
  refine zl ?_
  refine zr ?_
  refine zz ?_
  refine br (iteS h) ?_ ?_ <;> (clear h; intro c h)
  ·cases h
   refine zz ?_
   exact zend
  cases h
  refine zz ?_
  exact zend
theorem impl_rexReader_next_ev (s0_0 : ByteArray) (s0_1 : Bool) (r1 : Int) (r2 : Bool) (r3 : ByteArray) (r4 : Bool) (h : impl_rexReader_next.f s0_0 s0_1 = some (r1, r2, r3, r4)) : CE G 48 [.ptr 0 0] [.box [.val (.str s0_0), .val (.bool s0_1)]] [.val (.int .u8 r1), .val (.bool r2)] [.box [.val (.str r3), .val (.bool r4)]] := by
  refine CE.mk ⟨Try.f48, _, rfl, rfl, ⟨by kernel_rfl, Nat.le_of_ble_eq_true rfl, Nat.le_of_ble_eq_true rfl⟩, ?_⟩
  rw [impl_rexReader_next.f] at h
  refine zz ?_
  refine brW (iteS h) ?_ ?_ <;> (clear h; intro c h)
  rotate_left
  ·refine zr ?_
   refine zr ?_
   refine zr ?_
   refine zl ?_
   refine zl ?_
   cases h
   refine zz ?_
   exact zend
  refine zl ?_
  refine zl ?_
  refine zl ?_
  refine zr ?_
  refine zz ?_
  refine br (iteS h) ?_ ?_ <;> (clear h; intro c h)
  ·cases h
   refine zz ?_
   exact zend
  have h_ := gS h; clear h; obtain ⟨c, h⟩ := h_
  cases h
  refine zz ?_
  exact zend
theorem impl_rexReader_take_ev (s0_0 : ByteArray) (s0_1 : Bool) (a1 : Int) (r1 : Bool) (r2 : ByteArray) (r3 : Bool) (h : impl_rexReader_take.f s0_0 s0_1 a1 = some (r1, r2, r3)) : CE G 39 [.ptr 0 0, .val (.int .u8 a1)] [.box [.val (.str s0_0), .val (.bool s0_1)]] [.val (.bool r1)] [.box [.val (.str r2), .val (.bool r3)]] := by
  refine CE.mk ⟨Try.f39, _, rfl, rfl, ⟨by kernel_rfl, Nat.le_of_ble_eq_true rfl, Nat.le_of_ble_eq_true rfl⟩, ?_⟩
  rw [impl_rexReader_take.f] at h
  have h_ := oS h; clear h; obtain ⟨t9, ht, h⟩ := h_
  refine zz ?_
  refine Exists.intro _ (Exists.intro _ (And.intro (impl_rexReader_next_ev (h := ht)) ?_))
  refine zz ?_
  refine brX (iteS h) ?_ ?_ <;> (clear h; intro c h)
  rotate_left
  ·refine zr ?_
   refine zr ?_
   refine zl ?_
   refine zl ?_
   cases h
   refine zz ?_
   exact zend
  refine zl ?_
  refine zl ?_
  refine zr ?_
  refine zz ?_
  refine brN (iteS h) ?_ ?_ <;> (clear h; intro c h)
  ·cases h
   refine zz ?_
   exact zend
  have h_ := gS h; clear h; obtain ⟨c, h⟩ := h_
  cases h
  refine zz ?_
  exact zend
end Go.Proofs.Ytccldchklemogaa.TFnExactRexParse
