/- The walks of the functions that FnOps reaches, through the abstract machine. -/
import Derived.Test.YtchhkbkbbglgbaaGreatDoorAFnOpsh
import Derived.Test.YtchhkbkbbglgbaaGreatDoorAFnOpsx0
import Derived.Test.YtchhkbkbbglgbaaGreatDoorAFnOpsx1
import Derived.Test.YtchhkbkbbglgbaaGreatDoorAFnOpsx2
import Derived.Test.YtchhkbkbbglgbaaGreatDoorFFnOps
import Derived.Test.YtchhkbkbbglgbaaGreatDoorProg
set_option maxHeartbeats 4000000
set_option maxRecDepth 100000
set_option linter.unusedVariables false
set_option linter.unusedSimpArgs false
namespace Go.Proofs.YtchhkbkbbglgbaaGreatDoor.TFnOps
open Go Go.RowKit Go.Proofs Go.Proofs.YtchhkbkbbglgbaaGreatDoorW.AM Go.Proofs.YtchhkbkbbglgbaaGreatDoor.QFnOps Go.Proofs.YtchhkbkbbglgbaaGreatDoorW.PrintWords Go.Proofs.YtchhkbkbbglgbaaGreatDoorW.Pgs
variable {m_ : Int}
theorem spec_l8Simple_ev (l0_0 : List S126) (s0_1 s0_2 : Int) (s0_3 : Bool) (s0_4 s0_5 : Int) (s0_6 : ByteArray) (l0_7 : List S91) (r1 r2 : Int) (r3 : ByteArray) (r4 : List S91) (r5 : List S126) (r6 r7 : Int) (r8 : Bool) (r9 r10 : Int) (r11 : ByteArray) (r12 : List S91) (h : spec_l8Simple.fv l0_0 s0_1 s0_2 s0_3 s0_4 s0_5 s0_6 l0_7 = some (r1, r2, r3, r4, r5, r6, r7, r8, r9, r10, r11, r12)) : CE (G m_) 148 [.ptr 0 0] [.box [.val (.row (l0_0.map e126)), .val (.int .i64 s0_1), .val (.int .i64 s0_2), .val (.bool s0_3), .val (.int .i64 s0_4), .val (.int .i64 s0_5), .val (.str s0_6), .val (.row (l0_7.map e91))]] [.val (.agg [.int .i64 r1, .int .i64 r2, .str r3, .row (r4.map e91)])] [.box [.val (.row (r5.map e126)), .val (.int .i64 r6), .val (.int .i64 r7), .val (.bool r8), .val (.int .i64 r9), .val (.int .i64 r10), .val (.str r11), .val (.row (r12.map e91))]] := by
  obtain ⟨k, h⟩ := lim_ex h
  refine CE.mk ⟨Tryz.f148, _, rfl, rfl, ⟨by kernel_rfl, Nat.le_of_ble_eq_true rfl, Nat.le_of_ble_eq_true rfl⟩, ?_⟩
  rcases k with _ | k
  · exact (run_zero h).elim
  rw [run_succ, spec_l8Simple.B] at h
  have h_ := evO h; clear h; obtain ⟨t8, ht, h⟩ := h_
  refine zz ?_
  refine Exists.intro _ (Exists.intro _ (And.intro (spec_l8Is_ev (h := ht)) ?_))
  refine zz ?_
  refine br (iP h) ?_ ?_ <;> (clear h; intro c h)
  rotate_left
  ·have h_ := evO h; clear h; obtain ⟨t43, ht, h⟩ := h_
   refine zz ?_
   refine Exists.intro _ (Exists.intro _ (And.intro (spec_l8Is_ev (h := ht)) ?_))
   refine zz ?_
   refine br (iP h) ?_ ?_ <;> (clear h; intro c h)
   ·have h_ := evO h; clear h; obtain ⟨t45, ht, h⟩ := h_
    refine zz ?_
    refine Exists.intro _ (Exists.intro _ (And.intro (spec_l8Next_ev (h := ht)) ?_))
    replace h := evR h; cases h
    refine zz ?_
    exact zend
   have h_ := evO h; clear h; obtain ⟨t49, ht, h⟩ := h_
   refine zz ?_
   refine Exists.intro _ (Exists.intro _ (And.intro (spec_l8Is_ev (h := ht)) ?_))
   refine zz ?_
   refine br (iP h) ?_ ?_ <;> (clear h; intro c h)
   rotate_left
   ·have h_ := evO h; clear h; obtain ⟨t65, ht, h⟩ := h_
    refine zz ?_
    refine Exists.intro _ (Exists.intro _ (And.intro (spec_l8E_ev (h := ht)) ?_))
    refine zz ?_
    refine Exists.intro (List.map e91 ([(⟨t65.1, t65.2.1, t65.2.2.1, t65.2.2.2.1⟩ : S91)] : List S91)) (And.intro zrow ?_)
    have h_ := evO h; clear h; obtain ⟨t67, ht, h⟩ := h_
    refine zz ?_
    refine Exists.intro _ (Exists.intro _ (And.intro (spec_l8Kids_ev (h := ht)) ?_))
    replace h := evR h; cases h
    refine zz ?_
    exact zend
   have h_ := evO h; clear h; obtain ⟨t51, ht, h⟩ := h_
   refine zz ?_
   refine Exists.intro _ (Exists.intro _ (And.intro (spec_l8Next_ev (h := ht)) ?_))
   have h_ := evO h; clear h; obtain ⟨t53, ht, h⟩ := h_
   refine zz ?_
   refine Exists.intro _ (Exists.intro _ (And.intro (spec_l8Name_ev (h := ht)) ?_))
   have h_ := evO h; clear h; obtain ⟨t55, ht, h⟩ := h_
   refine zz ?_
   refine Exists.intro _ (Exists.intro _ (And.intro (spec_l8Take_ev (h := ht)) ?_))
   have h_ := evO h; clear h; obtain ⟨t57, ht, h⟩ := h_
   refine zz ?_
   refine Exists.intro _ (Exists.intro _ (And.intro (spec_l8E_ev (h := ht)) ?_))
   have h_ := evO h; clear h; obtain ⟨t59, ht, h⟩ := h_
   refine zz ?_
   refine Exists.intro _ (Exists.intro _ (And.intro (spec_l8Take_ev (h := ht)) ?_))
   refine zz ?_
   refine Exists.intro (List.map e91 ([(⟨t57.1, t57.2.1, t57.2.2.1, t57.2.2.2.1⟩ : S91)] : List S91)) (And.intro zrow ?_)
   replace h := evR h; cases h
   refine zz ?_
   exact zend
  have h_ := evO h; clear h; obtain ⟨t10, ht, h⟩ := h_
  refine zz ?_
  refine Exists.intro _ (Exists.intro _ (And.intro (spec_l8Next_ev (h := ht)) ?_))
  refine zz ?_
  refine cutJ (n := 100001) [0, 16, 1553, 1808] (fun fr hp => ∃ kq, kq ≤ k ∧ ∃ (y1808 : List S91) (x1000 : List S126) (x1001 x1002 : Int) (x1003 : Bool) (x1004 x1005 : Int) (x1006 : ByteArray) (x1007 : List S91) (x1553_0 x1553_1 : Int) (x1553_2 : ByteArray) (g1808 : Nat), run spec_l8Simple.B kq (.j0 y1808 x1000 x1001 x1002 x1003 x1004 x1005 x1006 x1007 x1553_0 x1553_1 x1553_2) = some (r1, r2, r3, r4, r5, r6, r7, r8, r9, r10, r11, r12) ∧ (∃ fr0, fr = puts [(2, .one (.ptr 16 0)), (3, .one (.ptr 1553 0))] fr0) ∧ hp = (upd 0 (.box [.val (.row (x1000.map e126)), .val (.int .i64 x1001), .val (.int .i64 x1002), .val (.bool x1003), .val (.int .i64 x1004), .val (.int .i64 x1005), .val (.str x1006), .val (.row (x1007.map e91))]) (upd 16 (.box [.val (.int .i64 0), .val (.int .i64 0), .val (.str (⟨#[]⟩ : ByteArray)), .nilrow]) (upd 1553 (.box [.val (.int .i64 x1553_0), .val (.int .i64 x1553_1), .val (.str x1553_2), .ref 1808 g1808]) (upd 1808 (.own 91 4 (y1808.map e91) g1808 false) (fun _ => none)))))) ?_ ?_
  ·replace h := evT h
   refine zz ?_
   refine loopJ [0, 16, 1553, 1808] (fun kq fr hp => ∃ (y1808 : List S91) (x1000 : List S126) (x1001 x1002 : Int) (x1003 : Bool) (x1004 x1005 : Int) (x1006 : ByteArray) (x1007 : List S91) (x1553_0 x1553_1 : Int) (x1553_2 : ByteArray) (g1808 : Nat), run spec_l8Simple.B kq (.l0 y1808 x1000 x1001 x1002 x1003 x1004 x1005 x1006 x1007 x1553_0 x1553_1 x1553_2) = some (r1, r2, r3, r4, r5, r6, r7, r8, r9, r10, r11, r12) ∧ (∃ fr0, fr = puts [(0, .one (.ptr 0 0)), (2, .one (.ptr 16 0)), (3, .one (.ptr 1553 0))] fr0) ∧ hp = (upd 0 (.box [.val (.row (x1000.map e126)), .val (.int .i64 x1001), .val (.int .i64 x1002), .val (.bool x1003), .val (.int .i64 x1004), .val (.int .i64 x1005), .val (.str x1006), .val (.row (x1007.map e91))]) (upd 16 (.box [.val (.int .i64 0), .val (.int .i64 0), .val (.str (⟨#[]⟩ : ByteArray)), .nilrow]) (upd 1553 (.box [.val (.int .i64 x1553_0), .val (.int .i64 x1553_1), .val (.str x1553_2), .ref 1808 g1808]) (upd 1808 (.own 91 4 (y1808.map e91) g1808 false) (fun _ => none)))))) k ⟨_, zfuel, _, _, _, _, _, _, _, _, _, _, _, _, 0, h, leafFr [0, 2, 3] (by kernel_rfl), by kernel_rfl⟩ ?_
   clear h; rintro k hle _ _ ⟨y1808, x1000, x1001, x1002, x1003, x1004, x1005, x1006, x1007, x1553_0, x1553_1, x1553_2, g1808, h, ⟨fr0, rfl⟩, rfl⟩
   rcases k with _ | k
   · exact (run_zero h).elim
   rw [run_succ, spec_l8Simple.B] at h
   refine zz ?_
   refine cutJ (n := 26) [0, 16, 1553, 1808] (fun fr hp => ∃ kq, kq ≤ k ∧ ∃ (y1808 : List S91) (x1000 : List S126) (x1001 x1002 : Int) (x1003 : Bool) (x1004 x1005 : Int) (x1006 : ByteArray) (x1007 : List S91) (x1553_0 x1553_1 : Int) (x1553_2 : ByteArray) (g1808 : Nat), run spec_l8Simple.B kq (.j1 y1808 x1000 x1001 x1002 x1003 x1004 x1005 x1006 x1007 x1553_0 x1553_1 x1553_2) = some (r1, r2, r3, r4, r5, r6, r7, r8, r9, r10, r11, r12) ∧ (∃ fr0, fr = puts [(0, .one (.ptr 0 0)), (2, .one (.ptr 16 0)), (3, .one (.ptr 1553 0))] fr0) ∧ hp = (upd 0 (.box [.val (.row (x1000.map e126)), .val (.int .i64 x1001), .val (.int .i64 x1002), .val (.bool x1003), .val (.int .i64 x1004), .val (.int .i64 x1005), .val (.str x1006), .val (.row (x1007.map e91))]) (upd 16 (.box [.val (.int .i64 0), .val (.int .i64 0), .val (.str (⟨#[]⟩ : ByteArray)), .nilrow]) (upd 1553 (.box [.val (.int .i64 x1553_0), .val (.int .i64 x1553_1), .val (.str x1553_2), .ref 1808 g1808]) (upd 1808 (.own 91 4 (y1808.map e91) g1808 false) (fun _ => none)))))) ?_ ?_
   ·refine zz ?_
    refine cutJ (n := 200004) [0, 16, 1553, 1808] (fun fr hp => ∃ kq, kq ≤ k ∧ ∃ (x26 : Bool) (y1808 : List S91) (x1000 : List S126) (x1001 x1002 : Int) (x1003 : Bool) (x1004 x1005 : Int) (x1006 : ByteArray) (x1007 : List S91) (x1553_0 x1553_1 : Int) (x1553_2 : ByteArray) (g1808 : Nat), run spec_l8Simple.B kq (.j2 x26 y1808 x1000 x1001 x1002 x1003 x1004 x1005 x1006 x1007 x1553_0 x1553_1 x1553_2) = some (r1, r2, r3, r4, r5, r6, r7, r8, r9, r10, r11, r12) ∧ (∃ fr0, fr = puts [(0, .one (.ptr 0 0)), (2, .one (.ptr 16 0)), (3, .one (.ptr 1553 0)), (26, .one (.val (.bool x26)))] fr0) ∧ hp = (upd 0 (.box [.val (.row (x1000.map e126)), .val (.int .i64 x1001), .val (.int .i64 x1002), .val (.bool x1003), .val (.int .i64 x1004), .val (.int .i64 x1005), .val (.str x1006), .val (.row (x1007.map e91))]) (upd 16 (.box [.val (.int .i64 0), .val (.int .i64 0), .val (.str (⟨#[]⟩ : ByteArray)), .nilrow]) (upd 1553 (.box [.val (.int .i64 x1553_0), .val (.int .i64 x1553_1), .val (.str x1553_2), .ref 1808 g1808]) (upd 1808 (.own 91 4 (y1808.map e91) g1808 false) (fun _ => none)))))) ?_ ?_
    ·refine zz ?_
     refine br (iP h) ?_ ?_ <;> (clear h; intro c h)
     rotate_left
     ·refine zr ?_
      refine zr ?_
      refine zr ?_
      refine zr ?_
      refine zr ?_
      refine zr ?_
      refine zr ?_
      replace h := evT h
      refine zz ?_
      exact ⟨_, zfuel, _, _, _, _, _, _, _, _, _, _, _, _, _, g1808, h, leafFr [0, 2, 3, 26] (by kernel_rfl), by kernel_rfl⟩
     refine zl ?_
     have h_ := evO h; clear h; obtain ⟨t19, ht, h⟩ := h_
     refine zz ?_
     refine Exists.intro _ (Exists.intro _ (And.intro (spec_l8Sign_ev (h := ht)) ?_))
     refine zl ?_
     refine zl ?_
     refine zz ?_
     refine brN (iP h) ?_ ?_ <;> (clear h; intro c h)
     rotate_left
     ·refine zr ?_
      refine zr ?_
      refine zr ?_
      replace h := evT h
      refine zz ?_
      exact ⟨_, zfuel, _, _, _, _, _, _, _, _, _, _, _, _, _, g1808, h, leafFr [0, 2, 3, 26] (by kernel_rfl), by kernel_rfl⟩
     refine zl ?_
     have h_ := evO h; clear h; obtain ⟨t24, ht, h⟩ := h_
     refine zz ?_
     refine Exists.intro _ (Exists.intro _ (And.intro (spec_l8Sign_ev (h := ht)) ?_))
     refine zl ?_
     refine zl ?_
     replace h := evT h
     refine zz ?_
     exact ⟨_, zfuel, _, _, _, _, _, _, _, _, _, _, _, _, _, g1808, h, leafFr [0, 2, 3, 26] (by kernel_rfl), by kernel_rfl⟩
    clear h; rintro _ _ ⟨k, hle, x26, y1808, x1000, x1001, x1002, x1003, x1004, x1005, x1006, x1007, x1553_0, x1553_1, x1553_2, g1808, h, ⟨fr0, rfl⟩, rfl⟩
    rcases k with _ | k
    · exact (run_zero h).elim
    rw [run_succ, spec_l8Simple.B] at h
    refine zz ?_
    refine br (iP h) ?_ ?_ <;> (clear h; intro c h)
    ·replace h := evT h
     refine zz ?_
     exact ⟨_, zfuel, _, _, _, _, _, _, _, _, _, _, _, _, g1808, h, leafFr [0, 2, 3] (by kernel_rfl), by kernel_rfl⟩
    replace h := evT h
    refine zz ?_
    exact ⟨_, zfuel, _, _, _, _, _, _, _, _, _, _, _, _, g1808, h, leafFr [2, 3] (by kernel_rfl), by kernel_rfl⟩
   clear h; rintro _ _ ⟨k, hle, y1808, x1000, x1001, x1002, x1003, x1004, x1005, x1006, x1007, x1553_0, x1553_1, x1553_2, g1808, h, ⟨fr0, rfl⟩, rfl⟩
   rcases k with _ | k
   · exact (run_zero h).elim
   rw [run_succ, spec_l8Simple.B] at h
   refine zz ?_
   refine cutJ (n := 30) [0, 16, 1553, 1808] (fun fr hp => ∃ kq, kq ≤ k ∧ ∃ (y1808 : List S91) (x1000 : List S126) (x1001 x1002 : Int) (x1003 : Bool) (x1004 x1005 : Int) (x1006 : ByteArray) (x1007 : List S91) (x1553_0 x1553_1 : Int) (x1553_2 : ByteArray) (g1808 : Nat), run spec_l8Simple.B kq (.j3 y1808 x1000 x1001 x1002 x1003 x1004 x1005 x1006 x1007 x1553_0 x1553_1 x1553_2) = some (r1, r2, r3, r4, r5, r6, r7, r8, r9, r10, r11, r12) ∧ (∃ fr0, fr = puts [(0, .one (.ptr 0 0)), (2, .one (.ptr 16 0)), (3, .one (.ptr 1553 0))] fr0) ∧ hp = (upd 0 (.box [.val (.row (x1000.map e126)), .val (.int .i64 x1001), .val (.int .i64 x1002), .val (.bool x1003), .val (.int .i64 x1004), .val (.int .i64 x1005), .val (.str x1006), .val (.row (x1007.map e91))]) (upd 16 (.box [.val (.int .i64 0), .val (.int .i64 0), .val (.str (⟨#[]⟩ : ByteArray)), .nilrow]) (upd 1553 (.box [.val (.int .i64 x1553_0), .val (.int .i64 x1553_1), .val (.str x1553_2), .ref 1808 g1808]) (upd 1808 (.own 91 4 (y1808.map e91) g1808 false) (fun _ => none)))))) ?_ ?_
   ·refine zz ?_
    refine br (iP h) ?_ ?_ <;> (clear h; intro c h)
    rotate_left
    ·replace h := evT h
     refine zz ?_
     exact ⟨_, zfuel, _, _, _, _, _, _, _, _, _, _, _, _, g1808, h, leafFr [0, 2, 3] (by kernel_rfl), by kernel_rfl⟩
    have h_ := evO h; clear h; obtain ⟨t32, ht, h⟩ := h_
    refine zz ?_
    refine Exists.intro _ (Exists.intro _ (And.intro (spec_l8Take_ev (h := ht)) ?_))
    replace h := evT h
    refine zz ?_
    exact ⟨_, zfuel, _, _, _, _, _, _, _, _, _, _, _, _, g1808, h, leafFr [0, 2, 3] (by kernel_rfl), by kernel_rfl⟩
   clear h; rintro _ _ ⟨k, hle, y1808, x1000, x1001, x1002, x1003, x1004, x1005, x1006, x1007, x1553_0, x1553_1, x1553_2, g1808, h, ⟨fr0, rfl⟩, rfl⟩
   rcases k with _ | k
   · exact (run_zero h).elim
   rw [run_succ, spec_l8Simple.B] at h
   have h_ := evO h; clear h; obtain ⟨t36, ht, h⟩ := h_
   refine zz ?_
   refine Exists.intro _ (Exists.intro _ (And.intro (spec_l8E_ev (h := ht)) ?_))
   refine zz ?_
   refine Exists.intro (List.map e91 ([(⟨t36.1, t36.2.1, t36.2.2.1, t36.2.2.2.1⟩ : S91)] : List S91)) (And.intro zrow ?_)
   have h_ := gP h; clear h; obtain ⟨c, h⟩ := h_
   refine zz ?_
   refine Exists.intro (List.map e91 (y1808 ++ [(⟨t36.1, t36.2.1, t36.2.2.1, t36.2.2.2.1⟩ : S91)])) (And.intro zrow ?_)
   replace h := evT h
   refine zz ?_
   exact ⟨_, zfuel, _, _, _, _, _, _, _, _, _, _, _, _, (g1808 + 1), h, leafFr [0, 2, 3] (by kernel_rfl), by kernel_rfl⟩
  clear h; rintro _ _ ⟨k, hle, y1808, x1000, x1001, x1002, x1003, x1004, x1005, x1006, x1007, x1553_0, x1553_1, x1553_2, g1808, h, ⟨fr0, rfl⟩, rfl⟩
  rcases k with _ | k
  · exact (run_zero h).elim
  rw [run_succ, spec_l8Simple.B] at h
  replace h := evR h; cases h
  refine zz ?_
  exact zend
theorem spec_l8Block_all : ∀ n, (∀ (k : Nat) (l0_0 : List S126) (s0_1 s0_2 : Int) (s0_3 : Bool) (s0_4 s0_5 : Int) (s0_6 : ByteArray) (l0_7 : List S91) (r1 r2 : Int) (r3 : ByteArray) (r4 : List S91) (r5 : List S126) (r6 r7 : Int) (r8 : Bool) (r9 r10 : Int) (r11 : ByteArray) (r12 : List S91) (h : run spec_l8Block.B k (.spec_l8Block_f l0_0 s0_1 s0_2 s0_3 s0_4 s0_5 s0_6 l0_7) = some (r1, r2, r3, r4, r5, r6, r7, r8, r9, r10, r11, r12)) (hk : k < n), CE (G m_) 112 [.ptr 0 0] [.box [.val (.row (l0_0.map e126)), .val (.int .i64 s0_1), .val (.int .i64 s0_2), .val (.bool s0_3), .val (.int .i64 s0_4), .val (.int .i64 s0_5), .val (.str s0_6), .val (.row (l0_7.map e91))]] [.val (.agg [.int .i64 r1, .int .i64 r2, .str r3, .row (r4.map e91)])] [.box [.val (.row (r5.map e126)), .val (.int .i64 r6), .val (.int .i64 r7), .val (.bool r8), .val (.int .i64 r9), .val (.int .i64 r10), .val (.str r11), .val (.row (r12.map e91))]]) ∧ (∀ (k : Nat) (l0_0 : List S126) (s0_1 s0_2 : Int) (s0_3 : Bool) (s0_4 s0_5 : Int) (s0_6 : ByteArray) (l0_7 : List S91) (r1 r2 : Int) (r3 : ByteArray) (r4 : List S91) (r5 : List S126) (r6 r7 : Int) (r8 : Bool) (r9 r10 : Int) (r11 : ByteArray) (r12 : List S91) (h : run spec_l8Block.B k (.spec_l8Stmt_f l0_0 s0_1 s0_2 s0_3 s0_4 s0_5 s0_6 l0_7) = some (r1, r2, r3, r4, r5, r6, r7, r8, r9, r10, r11, r12)) (hk : k < n), CE (G m_) 136 [.ptr 0 0] [.box [.val (.row (l0_0.map e126)), .val (.int .i64 s0_1), .val (.int .i64 s0_2), .val (.bool s0_3), .val (.int .i64 s0_4), .val (.int .i64 s0_5), .val (.str s0_6), .val (.row (l0_7.map e91))]] [.val (.agg [.int .i64 r1, .int .i64 r2, .str r3, .row (r4.map e91)])] [.box [.val (.row (r5.map e126)), .val (.int .i64 r6), .val (.int .i64 r7), .val (.bool r8), .val (.int .i64 r9), .val (.int .i64 r10), .val (.str r11), .val (.row (r12.map e91))]]) ∧ (∀ (k : Nat) (l0_0 : List S126) (s0_1 s0_2 : Int) (s0_3 : Bool) (s0_4 s0_5 : Int) (s0_6 : ByteArray) (l0_7 : List S91) (a1 r1 r2 : Int) (r3 : ByteArray) (r4 : List S91) (r5 : List S126) (r6 r7 : Int) (r8 : Bool) (r9 r10 : Int) (r11 : ByteArray) (r12 : List S91) (h : run spec_l8Block.B k (.spec_l8While_f l0_0 s0_1 s0_2 s0_3 s0_4 s0_5 s0_6 l0_7 a1) = some (r1, r2, r3, r4, r5, r6, r7, r8, r9, r10, r11, r12)) (hk : k < n), CE (G m_) 147 [.ptr 0 0, .val (.int .i64 a1)] [.box [.val (.row (l0_0.map e126)), .val (.int .i64 s0_1), .val (.int .i64 s0_2), .val (.bool s0_3), .val (.int .i64 s0_4), .val (.int .i64 s0_5), .val (.str s0_6), .val (.row (l0_7.map e91))]] [.val (.agg [.int .i64 r1, .int .i64 r2, .str r3, .row (r4.map e91)])] [.box [.val (.row (r5.map e126)), .val (.int .i64 r6), .val (.int .i64 r7), .val (.bool r8), .val (.int .i64 r9), .val (.int .i64 r10), .val (.str r11), .val (.row (r12.map e91))]]) := by
  intro n
  induction n with
  | zero => exact ⟨by intros; omega, by intros; omega, by intros; omega⟩
  | succ n ih =>
    refine ⟨?_, ?_, ?_⟩
    · intro k l0_0 s0_1 s0_2 s0_3 s0_4 s0_5 s0_6 l0_7 r1 r2 r3 r4 r5 r6 r7 r8 r9 r10 r11 r12 h hk
      refine CE.mk ⟨Tryz.f112, _, rfl, rfl, ⟨by kernel_rfl, Nat.le_of_ble_eq_true rfl, Nat.le_of_ble_eq_true rfl⟩, ?_⟩
      rcases k with _ | k
      · exact (run_zero h).elim
      rw [run_succ, spec_l8Block.B] at h
      have h_ := evO h; clear h; obtain ⟨t6, ht, h⟩ := h_
      refine zz ?_
      refine Exists.intro _ (Exists.intro _ (And.intro (spec_l8Take_ev (h := ht)) ?_))
      refine zz ?_
      refine cutJ (n := 100000) [0, 16, 529, 784] (fun fr hp => ∃ kq, kq ≤ k ∧ ∃ (y784 : List S91) (x1000 : List S126) (x1001 x1002 : Int) (x1003 : Bool) (x1004 x1005 : Int) (x1006 : ByteArray) (x1007 : List S91) (x529_0 x529_1 : Int) (x529_2 : ByteArray) (g784 : Nat), run spec_l8Block.B kq (.spec_l8Block_j0 y784 x1000 x1001 x1002 x1003 x1004 x1005 x1006 x1007 x529_0 x529_1 x529_2) = some (r1, r2, r3, r4, r5, r6, r7, r8, r9, r10, r11, r12) ∧ (∃ fr0, fr = puts [(0, .one (.ptr 0 0)), (2, .one (.ptr 16 0)), (3, .one (.ptr 529 0))] fr0) ∧ hp = (upd 0 (.box [.val (.row (x1000.map e126)), .val (.int .i64 x1001), .val (.int .i64 x1002), .val (.bool x1003), .val (.int .i64 x1004), .val (.int .i64 x1005), .val (.str x1006), .val (.row (x1007.map e91))]) (upd 16 (.box [.val (.int .i64 0), .val (.int .i64 0), .val (.str (⟨#[]⟩ : ByteArray)), .nilrow]) (upd 529 (.box [.val (.int .i64 x529_0), .val (.int .i64 x529_1), .val (.str x529_2), .ref 784 g784]) (upd 784 (.own 91 4 (y784.map e91) g784 false) (fun _ => none)))))) ?_ ?_
      ·replace h := evT h
       refine zz ?_
       refine loopJ [0, 16, 529, 784] (fun kq fr hp => ∃ (y784 : List S91) (x1000 : List S126) (x1001 x1002 : Int) (x1003 : Bool) (x1004 x1005 : Int) (x1006 : ByteArray) (x1007 : List S91) (x529_0 x529_1 : Int) (x529_2 : ByteArray) (g784 : Nat), run spec_l8Block.B kq (.spec_l8Block_l0 y784 x1000 x1001 x1002 x1003 x1004 x1005 x1006 x1007 x529_0 x529_1 x529_2) = some (r1, r2, r3, r4, r5, r6, r7, r8, r9, r10, r11, r12) ∧ (∃ fr0, fr = puts [(0, .one (.ptr 0 0)), (2, .one (.ptr 16 0)), (3, .one (.ptr 529 0))] fr0) ∧ hp = (upd 0 (.box [.val (.row (x1000.map e126)), .val (.int .i64 x1001), .val (.int .i64 x1002), .val (.bool x1003), .val (.int .i64 x1004), .val (.int .i64 x1005), .val (.str x1006), .val (.row (x1007.map e91))]) (upd 16 (.box [.val (.int .i64 0), .val (.int .i64 0), .val (.str (⟨#[]⟩ : ByteArray)), .nilrow]) (upd 529 (.box [.val (.int .i64 x529_0), .val (.int .i64 x529_1), .val (.str x529_2), .ref 784 g784]) (upd 784 (.own 91 4 (y784.map e91) g784 false) (fun _ => none)))))) k ⟨_, zfuel, _, _, _, _, _, _, _, _, _, _, _, _, 0, h, leafFr [0, 2, 3] (by kernel_rfl), by kernel_rfl⟩ ?_
       clear h; rintro k hle _ _ ⟨y784, x1000, x1001, x1002, x1003, x1004, x1005, x1006, x1007, x529_0, x529_1, x529_2, g784, h, ⟨fr0, rfl⟩, rfl⟩
       rcases k with _ | k
       · exact (run_zero h).elim
       rw [run_succ, spec_l8Block.B] at h
       refine zz ?_
       refine cutJ (n := 16) [0, 16, 529, 784] (fun fr hp => ∃ kq, kq ≤ k ∧ ∃ (y784 : List S91) (x1000 : List S126) (x1001 x1002 : Int) (x1003 : Bool) (x1004 x1005 : Int) (x1006 : ByteArray) (x1007 : List S91) (x529_0 x529_1 : Int) (x529_2 : ByteArray) (g784 : Nat), run spec_l8Block.B kq (.spec_l8Block_j1 y784 x1000 x1001 x1002 x1003 x1004 x1005 x1006 x1007 x529_0 x529_1 x529_2) = some (r1, r2, r3, r4, r5, r6, r7, r8, r9, r10, r11, r12) ∧ (∃ fr0, fr = puts [(0, .one (.ptr 0 0)), (2, .one (.ptr 16 0)), (3, .one (.ptr 529 0))] fr0) ∧ hp = (upd 0 (.box [.val (.row (x1000.map e126)), .val (.int .i64 x1001), .val (.int .i64 x1002), .val (.bool x1003), .val (.int .i64 x1004), .val (.int .i64 x1005), .val (.str x1006), .val (.row (x1007.map e91))]) (upd 16 (.box [.val (.int .i64 0), .val (.int .i64 0), .val (.str (⟨#[]⟩ : ByteArray)), .nilrow]) (upd 529 (.box [.val (.int .i64 x529_0), .val (.int .i64 x529_1), .val (.str x529_2), .ref 784 g784]) (upd 784 (.own 91 4 (y784.map e91) g784 false) (fun _ => none)))))) ?_ ?_
       ·refine zz ?_
        refine cutJ (n := 200003) [0, 16, 529, 784] (fun fr hp => ∃ kq, kq ≤ k ∧ ∃ (x16 : Bool) (y784 : List S91) (x1000 : List S126) (x1001 x1002 : Int) (x1003 : Bool) (x1004 x1005 : Int) (x1006 : ByteArray) (x1007 : List S91) (x529_0 x529_1 : Int) (x529_2 : ByteArray) (g784 : Nat), run spec_l8Block.B kq (.spec_l8Block_j2 x16 y784 x1000 x1001 x1002 x1003 x1004 x1005 x1006 x1007 x529_0 x529_1 x529_2) = some (r1, r2, r3, r4, r5, r6, r7, r8, r9, r10, r11, r12) ∧ (∃ fr0, fr = puts [(0, .one (.ptr 0 0)), (2, .one (.ptr 16 0)), (3, .one (.ptr 529 0)), (16, .one (.val (.bool x16)))] fr0) ∧ hp = (upd 0 (.box [.val (.row (x1000.map e126)), .val (.int .i64 x1001), .val (.int .i64 x1002), .val (.bool x1003), .val (.int .i64 x1004), .val (.int .i64 x1005), .val (.str x1006), .val (.row (x1007.map e91))]) (upd 16 (.box [.val (.int .i64 0), .val (.int .i64 0), .val (.str (⟨#[]⟩ : ByteArray)), .nilrow]) (upd 529 (.box [.val (.int .i64 x529_0), .val (.int .i64 x529_1), .val (.str x529_2), .ref 784 g784]) (upd 784 (.own 91 4 (y784.map e91) g784 false) (fun _ => none)))))) ?_ ?_
        ·refine zz ?_
         refine br (iP h) ?_ ?_ <;> (clear h; intro c h)
         rotate_left
         ·refine zr ?_
          refine zr ?_
          refine zr ?_
          replace h := evT h
          refine zz ?_
          exact ⟨_, zfuel, _, _, _, _, _, _, _, _, _, _, _, _, _, g784, h, leafFr [0, 2, 3, 16] (by kernel_rfl), by kernel_rfl⟩
         refine zl ?_
         have h_ := evO h; clear h; obtain ⟨t14, ht, h⟩ := h_
         refine zz ?_
         refine Exists.intro _ (Exists.intro _ (And.intro (spec_l8Sign_ev (h := ht)) ?_))
         refine zl ?_
         refine zl ?_
         replace h := evT h
         refine zz ?_
         exact ⟨_, zfuel, _, _, _, _, _, _, _, _, _, _, _, _, _, g784, h, leafFr [0, 2, 3, 16] (by kernel_rfl), by kernel_rfl⟩
        clear h; rintro _ _ ⟨k, hle, x16, y784, x1000, x1001, x1002, x1003, x1004, x1005, x1006, x1007, x529_0, x529_1, x529_2, g784, h, ⟨fr0, rfl⟩, rfl⟩
        rcases k with _ | k
        · exact (run_zero h).elim
        rw [run_succ, spec_l8Block.B] at h
        refine zz ?_
        refine br (iP h) ?_ ?_ <;> (clear h; intro c h)
        ·replace h := evT h
         refine zz ?_
         exact ⟨_, zfuel, _, _, _, _, _, _, _, _, _, _, _, _, g784, h, leafFr [0, 2, 3] (by kernel_rfl), by kernel_rfl⟩
        replace h := evT h
        refine zz ?_
        exact ⟨_, zfuel, _, _, _, _, _, _, _, _, _, _, _, _, g784, h, leafFr [0, 2, 3] (by kernel_rfl), by kernel_rfl⟩
       clear h; rintro _ _ ⟨k, hle, y784, x1000, x1001, x1002, x1003, x1004, x1005, x1006, x1007, x529_0, x529_1, x529_2, g784, h, ⟨fr0, rfl⟩, rfl⟩
       rcases k with _ | k
       · exact (run_zero h).elim
       rw [run_succ, spec_l8Block.B] at h
       have h_ := evO h; clear h; obtain ⟨t18, ht, h⟩ := h_
       refine zz ?_
       refine Exists.intro _ (Exists.intro _ (And.intro (spec_l8Sign_ev (h := ht)) ?_))
       refine zz ?_
       refine br (iP h) ?_ ?_ <;> (clear h; intro c h)
       ·have h_ := evO h; clear h; obtain ⟨t20, ht, h⟩ := h_
        refine zz ?_
        refine Exists.intro _ (Exists.intro _ (And.intro (spec_l8Next_ev (h := ht)) ?_))
        replace h := evT h
        refine zz ?_
        exact ⟨_, zfuel, _, _, _, _, _, _, _, _, _, _, _, _, g784, h, leafFr [0, 2, 3] (by kernel_rfl), by kernel_rfl⟩
       have h_ := evA h; clear h; obtain ⟨t24, ht, h⟩ := h_
       refine zz ?_
       refine Exists.intro _ (Exists.intro _ (And.intro (ih.2.1 _ (h := ht) (hk := zfuel)) ?_))
       refine zz ?_
       refine Exists.intro (List.map e91 ([(⟨t24.1, t24.2.1, t24.2.2.1, t24.2.2.2.1⟩ : S91)] : List S91)) (And.intro zrow ?_)
       have h_ := gP h; clear h; obtain ⟨c, h⟩ := h_
       refine zz ?_
       refine Exists.intro (List.map e91 (y784 ++ [(⟨t24.1, t24.2.1, t24.2.2.1, t24.2.2.2.1⟩ : S91)])) (And.intro zrow ?_)
       replace h := evT h
       refine zz ?_
       exact ⟨_, zfuel, _, _, _, _, _, _, _, _, _, _, _, _, (g784 + 1), h, leafFr [0, 2, 3] (by kernel_rfl), by kernel_rfl⟩
      clear h; rintro _ _ ⟨k, hle, y784, x1000, x1001, x1002, x1003, x1004, x1005, x1006, x1007, x529_0, x529_1, x529_2, g784, h, ⟨fr0, rfl⟩, rfl⟩
      rcases k with _ | k
      · exact (run_zero h).elim
      rw [run_succ, spec_l8Block.B] at h
      have h_ := evO h; clear h; obtain ⟨t29, ht, h⟩ := h_
      refine zz ?_
      refine Exists.intro _ (Exists.intro _ (And.intro (spec_l8Take_ev (h := ht)) ?_))
      replace h := evR h; cases h
      refine zz ?_
      exact zend
    · intro k l0_0 s0_1 s0_2 s0_3 s0_4 s0_5 s0_6 l0_7 r1 r2 r3 r4 r5 r6 r7 r8 r9 r10 r11 r12 h hk
      refine CE.mk ⟨Tryz.f136, _, rfl, rfl, ⟨by kernel_rfl, Nat.le_of_ble_eq_true rfl, Nat.le_of_ble_eq_true rfl⟩, ?_⟩
      rcases k with _ | k
      · exact (run_zero h).elim
      rw [run_succ, spec_l8Block.B] at h
      have h_ := evO h; clear h; obtain ⟨t6, ht, h⟩ := h_
      refine zz ?_
      refine Exists.intro _ (Exists.intro _ (And.intro (spec_l8Is_ev (h := ht)) ?_))
      refine zz ?_
      refine br (iP h) ?_ ?_ <;> (clear h; intro c h)
      ·have h_ := evA h; clear h; obtain ⟨t8, ht, h⟩ := h_
       refine zz ?_
       refine Exists.intro _ (Exists.intro _ (And.intro (ih.2.2 _ (h := ht) (hk := zfuel)) ?_))
       replace h := evR h; cases h
       refine zz ?_
       exact zend
      have h_ := evO h; clear h; obtain ⟨t11, ht, h⟩ := h_
      refine zz ?_
      refine Exists.intro _ (Exists.intro _ (And.intro (spec_l8Is_ev (h := ht)) ?_))
      refine zz ?_
      refine br (iP h) ?_ ?_ <;> (clear h; intro c h)
      ·have h_ := evA h; clear h; obtain ⟨t13, ht, h⟩ := h_
       refine zz ?_
       refine Exists.intro _ (Exists.intro _ (And.intro (ih.2.2 _ (h := ht) (hk := zfuel)) ?_))
       replace h := evR h; cases h
       refine zz ?_
       exact zend
      have h_ := evO h; clear h; obtain ⟨t16, ht, h⟩ := h_
      refine zz ?_
      refine Exists.intro _ (Exists.intro _ (And.intro (spec_l8Sign_ev (h := ht)) ?_))
      refine zz ?_
      refine br (iP h) ?_ ?_ <;> (clear h; intro c h)
      ·have h_ := evA h; clear h; obtain ⟨t18, ht, h⟩ := h_
       refine zz ?_
       refine Exists.intro _ (Exists.intro _ (And.intro (ih.1 _ (h := ht) (hk := zfuel)) ?_))
       replace h := evR h; cases h
       refine zz ?_
       exact zend
      have h_ := evO h; clear h; obtain ⟨t20, ht, h⟩ := h_
      refine zz ?_
      refine Exists.intro _ (Exists.intro _ (And.intro (spec_l8Simple_ev (h := ht)) ?_))
      have h_ := evO h; clear h; obtain ⟨t22, ht, h⟩ := h_
      refine zz ?_
      refine Exists.intro _ (Exists.intro _ (And.intro (spec_l8Sign_ev (h := ht)) ?_))
      refine zz ?_
      refine brN (iP h) ?_ ?_ <;> (clear h; intro c h)
      rotate_left
      ·replace h := evR h; cases h
       refine zz ?_
       exact zend
      have h_ := evO h; clear h; obtain ⟨t25, ht, h⟩ := h_
      refine zz ?_
      refine Exists.intro _ (Exists.intro _ (And.intro (spec_l8Take_ev (h := ht)) ?_))
      replace h := evR h; cases h
      refine zz ?_
      exact zend
    · intro k l0_0 s0_1 s0_2 s0_3 s0_4 s0_5 s0_6 l0_7 a1 r1 r2 r3 r4 r5 r6 r7 r8 r9 r10 r11 r12 h hk
      refine CE.mk ⟨Tryz.f147, _, rfl, rfl, ⟨by kernel_rfl, Nat.le_of_ble_eq_true rfl, Nat.le_of_ble_eq_true rfl⟩, ?_⟩
      rcases k with _ | k
      · exact (run_zero h).elim
      rw [run_succ, spec_l8Block.B] at h
      have h_ := evO h; clear h; obtain ⟨t9, ht, h⟩ := h_
      refine zz ?_
      refine Exists.intro _ (Exists.intro _ (And.intro (spec_l8Next_ev (h := ht)) ?_))
      have h_ := evO h; clear h; obtain ⟨t11, ht, h⟩ := h_
      refine zz ?_
      refine Exists.intro _ (Exists.intro _ (And.intro (spec_l8Take_ev (h := ht)) ?_))
      have h_ := evO h; clear h; obtain ⟨t13, ht, h⟩ := h_
      refine zz ?_
      refine Exists.intro _ (Exists.intro _ (And.intro (spec_l8E_ev (h := ht)) ?_))
      have h_ := evO h; clear h; obtain ⟨t15, ht, h⟩ := h_
      refine zz ?_
      refine Exists.intro _ (Exists.intro _ (And.intro (spec_l8Take_ev (h := ht)) ?_))
      have h_ := evA h; clear h; obtain ⟨t17, ht, h⟩ := h_
      refine zz ?_
      refine Exists.intro _ (Exists.intro _ (And.intro (ih.1 _ (h := ht) (hk := zfuel)) ?_))
      refine zz ?_
      refine Exists.intro (List.map e91 ([(⟨t13.1, t13.2.1, t13.2.2.1, t13.2.2.2.1⟩ : S91), (⟨t17.1, t17.2.1, t17.2.2.1, t17.2.2.2.1⟩ : S91)] : List S91)) (And.intro zrow ?_)
      have h_ := evO h; clear h; obtain ⟨t22, ht, h⟩ := h_
      refine zz ?_
      refine Exists.intro _ (Exists.intro _ (And.intro (spec_l8Kids_ev (h := ht)) ?_))
      refine zz ?_
      refine cutJ (n := 200007) [0, 16, 3093, 1049217] (fun fr hp => ∃ kq, kq ≤ k ∧ ∃ (x28 : Bool) (y1049217 : List S91) (x1000 : List S126) (x1001 x1002 : Int) (x1003 : Bool) (x1004 x1005 : Int) (x1006 : ByteArray) (x1007 : List S91) (x3093_0 x3093_1 : Int) (x3093_2 : ByteArray) (g1049217 : Nat), run spec_l8Block.B kq (.spec_l8While_j0 x28 y1049217 x1000 x1001 x1002 x1003 x1004 x1005 x1006 x1007 x3093_0 x3093_1 x3093_2) = some (r1, r2, r3, r4, r5, r6, r7, r8, r9, r10, r11, r12) ∧ (∃ fr0, fr = puts [(0, .one (.ptr 0 0)), (4, .one (.ptr 16 0)), (7, .one (.ptr 3093 0)), (28, .one (.val (.bool x28)))] fr0) ∧ hp = (upd 0 (.box [.val (.row (x1000.map e126)), .val (.int .i64 x1001), .val (.int .i64 x1002), .val (.bool x1003), .val (.int .i64 x1004), .val (.int .i64 x1005), .val (.str x1006), .val (.row (x1007.map e91))]) (upd 16 (.box [.val (.int .i64 0), .val (.int .i64 0), .val (.str (⟨#[]⟩ : ByteArray)), .nilrow]) (upd 3093 (.box [.val (.int .i64 x3093_0), .val (.int .i64 x3093_1), .val (.str x3093_2), .ref 1049217 g1049217]) (upd 1049217 (.own 91 4 (y1049217.map e91) g1049217 false) (fun _ => none)))))) ?_ ?_
      ·refine zz ?_
       refine br (iP h) ?_ ?_ <;> (clear h; intro c h)
       rotate_left
       ·refine zr ?_
        refine zr ?_
        replace h := evT h
        refine zz ?_
        exact ⟨_, zfuel, _, _, _, _, _, _, _, _, _, _, _, _, _, 0, h, leafFr [0, 4, 7, 28] (by kernel_rfl), by kernel_rfl⟩
       refine zl ?_
       have h_ := evO h; clear h; obtain ⟨t27, ht, h⟩ := h_
       refine zz ?_
       refine Exists.intro _ (Exists.intro _ (And.intro (spec_l8Is_ev (h := ht)) ?_))
       refine zl ?_
       replace h := evT h
       refine zz ?_
       exact ⟨_, zfuel, _, _, _, _, _, _, _, _, _, _, _, _, _, 0, h, leafFr [0, 4, 7, 28] (by kernel_rfl), by kernel_rfl⟩
      clear h; rintro _ _ ⟨k, hle, x28, y1049217, x1000, x1001, x1002, x1003, x1004, x1005, x1006, x1007, x3093_0, x3093_1, x3093_2, g1049217, h, ⟨fr0, rfl⟩, rfl⟩
      rcases k with _ | k
      · exact (run_zero h).elim
      rw [run_succ, spec_l8Block.B] at h
      refine zz ?_
      refine br (iP h) ?_ ?_ <;> (clear h; intro c h)
      rotate_left
      ·replace h := evR h; cases h
       refine zz ?_
       exact zend
      have h_ := evO h; clear h; obtain ⟨t30, ht, h⟩ := h_
      refine zz ?_
      refine Exists.intro _ (Exists.intro _ (And.intro (spec_l8Next_ev (h := ht)) ?_))
      have h_ := evA h; clear h; obtain ⟨t34, ht, h⟩ := h_
      refine zz ?_
      refine Exists.intro _ (Exists.intro _ (And.intro (ih.1 _ (h := ht) (hk := zfuel)) ?_))
      refine zz ?_
      refine Exists.intro (List.map e91 ([(⟨t34.1, t34.2.1, t34.2.2.1, t34.2.2.2.1⟩ : S91)] : List S91)) (And.intro zrow ?_)
      have h_ := gP h; clear h; obtain ⟨c, h⟩ := h_
      refine zz ?_
      refine Exists.intro (List.map e91 (y1049217 ++ [(⟨t34.1, t34.2.1, t34.2.2.1, t34.2.2.2.1⟩ : S91)])) (And.intro zrow ?_)
      replace h := evR h; cases h
      refine zz ?_
      exact zend
theorem spec_l8Block_ev (l0_0 : List S126) (s0_1 s0_2 : Int) (s0_3 : Bool) (s0_4 s0_5 : Int) (s0_6 : ByteArray) (l0_7 : List S91) (r1 r2 : Int) (r3 : ByteArray) (r4 : List S91) (r5 : List S126) (r6 r7 : Int) (r8 : Bool) (r9 r10 : Int) (r11 : ByteArray) (r12 : List S91) (h : spec_l8Block.fv l0_0 s0_1 s0_2 s0_3 s0_4 s0_5 s0_6 l0_7 = some (r1, r2, r3, r4, r5, r6, r7, r8, r9, r10, r11, r12)) : CE (G m_) 112 [.ptr 0 0] [.box [.val (.row (l0_0.map e126)), .val (.int .i64 s0_1), .val (.int .i64 s0_2), .val (.bool s0_3), .val (.int .i64 s0_4), .val (.int .i64 s0_5), .val (.str s0_6), .val (.row (l0_7.map e91))]] [.val (.agg [.int .i64 r1, .int .i64 r2, .str r3, .row (r4.map e91)])] [.box [.val (.row (r5.map e126)), .val (.int .i64 r6), .val (.int .i64 r7), .val (.bool r8), .val (.int .i64 r9), .val (.int .i64 r10), .val (.str r11), .val (.row (r12.map e91))]] := by
  obtain ⟨k, h⟩ := lim_ex h
  exact (spec_l8Block_all (k + 1)).1 k _ _ _ _ _ _ _ _ _ _ _ _ _ _ _ _ _ _ _ _ h (Nat.lt_succ_self k)
theorem spec_l8Stmt_ev (l0_0 : List S126) (s0_1 s0_2 : Int) (s0_3 : Bool) (s0_4 s0_5 : Int) (s0_6 : ByteArray) (l0_7 : List S91) (r1 r2 : Int) (r3 : ByteArray) (r4 : List S91) (r5 : List S126) (r6 r7 : Int) (r8 : Bool) (r9 r10 : Int) (r11 : ByteArray) (r12 : List S91) (h : spec_l8Stmt.fv l0_0 s0_1 s0_2 s0_3 s0_4 s0_5 s0_6 l0_7 = some (r1, r2, r3, r4, r5, r6, r7, r8, r9, r10, r11, r12)) : CE (G m_) 136 [.ptr 0 0] [.box [.val (.row (l0_0.map e126)), .val (.int .i64 s0_1), .val (.int .i64 s0_2), .val (.bool s0_3), .val (.int .i64 s0_4), .val (.int .i64 s0_5), .val (.str s0_6), .val (.row (l0_7.map e91))]] [.val (.agg [.int .i64 r1, .int .i64 r2, .str r3, .row (r4.map e91)])] [.box [.val (.row (r5.map e126)), .val (.int .i64 r6), .val (.int .i64 r7), .val (.bool r8), .val (.int .i64 r9), .val (.int .i64 r10), .val (.str r11), .val (.row (r12.map e91))]] := by
  obtain ⟨k, h⟩ := lim_ex h
  exact (spec_l8Block_all (k + 1)).2.1 k _ _ _ _ _ _ _ _ _ _ _ _ _ _ _ _ _ _ _ _ h (Nat.lt_succ_self k)
theorem spec_l8While_ev (l0_0 : List S126) (s0_1 s0_2 : Int) (s0_3 : Bool) (s0_4 s0_5 : Int) (s0_6 : ByteArray) (l0_7 : List S91) (a1 r1 r2 : Int) (r3 : ByteArray) (r4 : List S91) (r5 : List S126) (r6 r7 : Int) (r8 : Bool) (r9 r10 : Int) (r11 : ByteArray) (r12 : List S91) (h : spec_l8While.fv l0_0 s0_1 s0_2 s0_3 s0_4 s0_5 s0_6 l0_7 a1 = some (r1, r2, r3, r4, r5, r6, r7, r8, r9, r10, r11, r12)) : CE (G m_) 147 [.ptr 0 0, .val (.int .i64 a1)] [.box [.val (.row (l0_0.map e126)), .val (.int .i64 s0_1), .val (.int .i64 s0_2), .val (.bool s0_3), .val (.int .i64 s0_4), .val (.int .i64 s0_5), .val (.str s0_6), .val (.row (l0_7.map e91))]] [.val (.agg [.int .i64 r1, .int .i64 r2, .str r3, .row (r4.map e91)])] [.box [.val (.row (r5.map e126)), .val (.int .i64 r6), .val (.int .i64 r7), .val (.bool r8), .val (.int .i64 r9), .val (.int .i64 r10), .val (.str r11), .val (.row (r12.map e91))]] := by
  obtain ⟨k, h⟩ := lim_ex h
  exact (spec_l8Block_all (k + 1)).2.2 k _ _ _ _ _ _ _ _ _ _ _ _ _ _ _ _ _ _ _ _ _ h (Nat.lt_succ_self k)
theorem spec_l8Rule_ev (l0_0 : List S126) (s0_1 s0_2 : Int) (s0_3 : Bool) (s0_4 s0_5 : Int) (s0_6 : ByteArray) (l0_7 : List S91) (r1 r2 r3 : Int) (r4 : ByteArray) (r5 : List S91) (r6 r7 : Int) (r8 : ByteArray) (r9 : List S91) (r10 : List S126) (r11 r12 : Int) (r13 : Bool) (r14 r15 : Int) (r16 : ByteArray) (r17 : List S91) (h : spec_l8Rule.fv l0_0 s0_1 s0_2 s0_3 s0_4 s0_5 s0_6 l0_7 = some (r1, r2, r3, r4, r5, r6, r7, r8, r9, r10, r11, r12, r13, r14, r15, r16, r17)) : CE (G m_) 85 [.ptr 0 0] [.box [.val (.row (l0_0.map e126)), .val (.int .i64 s0_1), .val (.int .i64 s0_2), .val (.bool s0_3), .val (.int .i64 s0_4), .val (.int .i64 s0_5), .val (.str s0_6), .val (.row (l0_7.map e91))]] [.val (.agg [.int .i64 r1, .int .i64 r2, .int .i64 r3, .str r4, .row (r5.map e91), .int .i64 r6, .int .i64 r7, .str r8, .row (r9.map e91)])] [.box [.val (.row (r10.map e126)), .val (.int .i64 r11), .val (.int .i64 r12), .val (.bool r13), .val (.int .i64 r14), .val (.int .i64 r15), .val (.str r16), .val (.row (r17.map e91))]] := by
  refine CE.mk ⟨Tryz.f85, _, rfl, rfl, ⟨by kernel_rfl, Nat.le_of_ble_eq_true rfl, Nat.le_of_ble_eq_true rfl⟩, ?_⟩
  rw [spec_l8Rule.fv] at h
  have h_ := oS h; clear h; obtain ⟨t6, ht, h⟩ := h_
  refine zz ?_
  refine Exists.intro _ (Exists.intro _ (And.intro (spec_l8Is_ev (h := ht)) ?_))
  refine zz ?_
  refine br (iteS h) ?_ ?_ <;> (clear h; intro c h)
  ·have h_ := oS h; clear h; obtain ⟨t8, ht, h⟩ := h_
   refine zz ?_
   refine Exists.intro _ (Exists.intro _ (And.intro (spec_l8Next_ev (h := ht)) ?_))
   have h_ := oS h; clear h; obtain ⟨t10, ht, h⟩ := h_
   refine zz ?_
   refine Exists.intro _ (Exists.intro _ (And.intro (spec_l8Block_ev (h := ht)) ?_))
   cases h
   refine zz ?_
   exact zend
  have h_ := oS h; clear h; obtain ⟨t14, ht, h⟩ := h_
  refine zz ?_
  refine Exists.intro _ (Exists.intro _ (And.intro (spec_l8Sign_ev (h := ht)) ?_))
  refine zz ?_
  refine br (iteS h) ?_ ?_ <;> (clear h; intro c h)
  ·have h_ := oS h; clear h; obtain ⟨t16, ht, h⟩ := h_
   refine zz ?_
   refine Exists.intro _ (Exists.intro _ (And.intro (spec_l8Block_ev (h := ht)) ?_))
   cases h
   refine zz ?_
   exact zend
  have h_ := oS h; clear h; obtain ⟨t19, ht, h⟩ := h_
  refine zz ?_
  refine Exists.intro _ (Exists.intro _ (And.intro (spec_l8E_ev (h := ht)) ?_))
  have h_ := oS h; clear h; obtain ⟨t22, ht, h⟩ := h_
  refine zz ?_
  refine Exists.intro _ (Exists.intro _ (And.intro (spec_l8Sign_ev (h := ht)) ?_))
  refine zz ?_
  refine br (iteS h) ?_ ?_ <;> (clear h; intro c h)
  ·have h_ := oS h; clear h; obtain ⟨t24, ht, h⟩ := h_
   refine zz ?_
   refine Exists.intro _ (Exists.intro _ (And.intro (spec_l8Block_ev (h := ht)) ?_))
   cases h
   refine zz ?_
   exact zend
  refine zz ?_
  refine Exists.intro (List.map e91 ([(⟨30, 0, (⟨#[]⟩ : ByteArray), ([] : List S91)⟩ : S91)] : List S91)) (And.intro zrow ?_)
  have h_ := oS h; clear h; obtain ⟨t28, ht, h⟩ := h_
  refine zz ?_
  refine Exists.intro _ (Exists.intro _ (And.intro (spec_l8Kids_ev (h := ht)) ?_))
  cases h
  refine zz ?_
  exact zend
theorem spec_l1Max_ev (a0 a1 r : Int) (h : spec_l1Max.f a0 a1 = some r) : CE (G m_) 64 [.val (.int .i64 a0), .val (.int .i64 a1)] [] [.val (.int .i64 r)] [] := by
  refine CE.mk ⟨Tryz.f64, _, rfl, rfl, ⟨by kernel_rfl, Nat.le_of_ble_eq_true rfl, Nat.le_of_ble_eq_true rfl⟩, ?_⟩
  rw [spec_l1Max.f] at h
  refine zz ?_
  refine br (iteS h) ?_ ?_ <;> (clear h; intro c h)
  ·cases h
   refine zz ?_
   exact zend
  cases h
  refine zz ?_
  exact zend
theorem spec_Deep_all : ∀ n, (∀ (k : Nat) (a0_0 a0_1 : Int) (a0_2 : ByteArray) (l0_3 : List S91) (r : Int) (h : run spec_Deep.B k (.f a0_0 a0_1 a0_2 l0_3) = some r) (hk : k < n), CE (G m_) 86 [.val (.agg [.int .i64 a0_0, .int .i64 a0_1, .str a0_2, .row (l0_3.map e91)])] [] [.val (.int .i64 r)] []) := by
  intro n
  induction n with
  | zero => exact (by intros; omega)
  | succ n ih =>
    · intro k a0_0 a0_1 a0_2 l0_3 r h hk
      refine CE.mk ⟨Tryz.f86, _, rfl, rfl, ⟨by kernel_rfl, Nat.le_of_ble_eq_true rfl, Nat.le_of_ble_eq_true rfl⟩, ?_⟩
      rcases k with _ | k
      · exact (run_zero h).elim
      rw [run_succ, spec_Deep.B] at h
      replace h := evT h
      refine zz ?_
      refine loopJ [16] (fun kq fr hp => ∃ (x3 x4 : Int) (x16_0 x16_1 : Int) (x16_2 : ByteArray) (x16_3 : List S91), run spec_Deep.B kq (.l0 x3 x4 x16_0 x16_1 x16_2 x16_3) = some r ∧ (∃ fr0, fr = puts [(1, .one (.ptr 16 0)), (3, .one (.val (.int .i64 x3))), (4, .one (.val (.int .i64 x4)))] fr0) ∧ hp = (upd 16 (.box [.val (.int .i64 x16_0), .val (.int .i64 x16_1), .val (.str x16_2), .val (.row (x16_3.map e91))]) (fun _ => none))) k ⟨_, zfuel, _, _, _, _, _, _, h, leafFr [1, 3, 4] (by kernel_rfl), by kernel_rfl⟩ ?_
      clear h; rintro k hle _ _ ⟨x3, x4, x16_0, x16_1, x16_2, x16_3, h, ⟨fr0, rfl⟩, rfl⟩
      rcases k with _ | k
      · exact (run_zero h).elim
      rw [run_succ, spec_Deep.B] at h
      refine zz ?_
      refine br (iP h) ?_ ?_ <;> (clear h; intro c h)
      rotate_left
      ·replace h := evR h; cases h
       refine zz ?_
       exact zend
      have h_ := gP h; clear h; obtain ⟨c, h⟩ := h_
      have h_ := evA h; clear h; obtain ⟨t18, ht, h⟩ := h_
      refine zz ?_
      refine Exists.intro _ (And.intro (ih _ (h := ht) (hk := zfuel)) ?_)
      have h_ := evO h; clear h; obtain ⟨t19, ht, h⟩ := h_
      refine zz ?_
      refine Exists.intro _ (And.intro (spec_l1Max_ev (h := ht)) ?_)
      replace h := evT h
      refine zz ?_
      exact ⟨_, zfuel, _, _, _, _, _, _, h, leafFr [1, 3, 4] (by kernel_rfl), by kernel_rfl⟩
theorem spec_Deep_ev (a0_0 a0_1 : Int) (a0_2 : ByteArray) (l0_3 : List S91) (r : Int) (h : spec_Deep.fv a0_0 a0_1 a0_2 l0_3 = some r) : CE (G m_) 86 [.val (.agg [.int .i64 a0_0, .int .i64 a0_1, .str a0_2, .row (l0_3.map e91)])] [] [.val (.int .i64 r)] [] := by
  obtain ⟨k, h⟩ := lim_ex h
  exact (spec_Deep_all (k + 1)) k _ _ _ _ _ h (Nat.lt_succ_self k)
theorem spec_Parse_ev (a0 : ByteArray) (r1 : List S93) (r2 : Int) (h : spec_Parse.fv a0 = some (r1, r2)) : CE (G m_) 58 [.val (.str a0)] [] [.ref 16 0, .val (.int .i64 r2)] [.own 93 9 (r1.map e93) 0 false] := by
  obtain ⟨k, h⟩ := lim_ex h
  refine CE.mk ⟨Tryz.f58, _, rfl, rfl, ⟨by kernel_rfl, Nat.le_of_ble_eq_true rfl, Nat.le_of_ble_eq_true rfl⟩, ?_⟩
  rcases k with _ | k
  · exact (run_zero h).elim
  rw [run_succ, spec_Parse.B] at h
  refine zz ?_
  refine Exists.intro (List.map e93 ([] : List S93)) (And.intro zrow ?_)
  have h_ := evO h; clear h; obtain ⟨t14, ht, h⟩ := h_
  refine zz ?_
  refine Exists.intro _ (And.intro (spec_Tokens_ev (h := ht)) ?_)
  refine zz ?_
  refine br (iP h) ?_ ?_ <;> (clear h; intro c h)
  ·replace h := evR h; cases h
   refine zz ?_
   first | refine ⟨trivial, [528], [(528, 0, 0)], ⟨rfl, ⟨trivial, trivial⟩⟩, _, rfl, _, rfl, ?_⟩ | refine ⟨[528], [(528, 0, 0)], ⟨rfl, ⟨trivial, trivial⟩⟩, _, rfl, _, rfl, ?_⟩
   repeat' (first | (refine And.intro ?_ ?_) | rfl)
  refine zz ?_
  refine Exists.intro (List.map e93 ([] : List S93)) (And.intro zrow ?_)
  refine zz ?_
  refine cutJ (n := 100000) [528, 2578, 3088] (fun fr hp => ∃ kq, kq ≤ k ∧ ∃ (x4 x8 : List S93) (x9 : Int) (x2578_0 : List S126) (x2578_1 x2578_2 : Int) (x2578_3 : Bool) (x2578_4 x2578_5 : Int) (x2578_6 : ByteArray) (x2578_7 : List S91) (g528 g3088 : Nat), run spec_Parse.B kq (.j0 x4 x8 x9 x2578_0 x2578_1 x2578_2 x2578_3 x2578_4 x2578_5 x2578_6 x2578_7) = some (r1, r2) ∧ (∃ fr0, fr = puts [(4, .one (.ref 528 g528)), (7, .one (.ptr 2578 0)), (8, .one (.ref 3088 g3088)), (9, .one (.val (.int .i64 x9)))] fr0) ∧ hp = (upd 528 (.own 93 9 (x4.map e93) g528 false) (upd 2578 (.box [.val (.row (x2578_0.map e126)), .val (.int .i64 x2578_1), .val (.int .i64 x2578_2), .val (.bool x2578_3), .val (.int .i64 x2578_4), .val (.int .i64 x2578_5), .val (.str x2578_6), .val (.row (x2578_7.map e91))]) (upd 3088 (.own 93 9 (x8.map e93) g3088 false) (fun _ => none))))) ?_ ?_
  ·replace h := evT h
   refine zz ?_
   refine loopJ [528, 2578, 3088] (fun kq fr hp => ∃ (x4 x8 : List S93) (x9 : Int) (x2578_0 : List S126) (x2578_1 x2578_2 : Int) (x2578_3 : Bool) (x2578_4 x2578_5 : Int) (x2578_6 : ByteArray) (x2578_7 : List S91) (g528 g3088 : Nat), run spec_Parse.B kq (.l0 x4 x8 x9 x2578_0 x2578_1 x2578_2 x2578_3 x2578_4 x2578_5 x2578_6 x2578_7) = some (r1, r2) ∧ (∃ fr0, fr = puts [(4, .one (.ref 528 g528)), (7, .one (.ptr 2578 0)), (8, .one (.ref 3088 g3088)), (9, .one (.val (.int .i64 x9)))] fr0) ∧ hp = (upd 528 (.own 93 9 (x4.map e93) g528 false) (upd 2578 (.box [.val (.row (x2578_0.map e126)), .val (.int .i64 x2578_1), .val (.int .i64 x2578_2), .val (.bool x2578_3), .val (.int .i64 x2578_4), .val (.int .i64 x2578_5), .val (.str x2578_6), .val (.row (x2578_7.map e91))]) (upd 3088 (.own 93 9 (x8.map e93) g3088 false) (fun _ => none))))) k ⟨_, zfuel, _, _, _, _, _, _, _, _, _, _, _, 0, 0, h, leafFr [4, 7, 8, 9] (by kernel_rfl), by kernel_rfl⟩ ?_
   clear h; rintro k hle _ _ ⟨x4, x8, x9, x2578_0, x2578_1, x2578_2, x2578_3, x2578_4, x2578_5, x2578_6, x2578_7, g528, g3088, h, ⟨fr0, rfl⟩, rfl⟩
   rcases k with _ | k
   · exact (run_zero h).elim
   rw [run_succ, spec_Parse.B] at h
   refine zz ?_
   refine cutJ (n := 35) [528, 2578, 3088] (fun fr hp => ∃ kq, kq ≤ k ∧ ∃ (x4 x8 : List S93) (x9 : Int) (x2578_0 : List S126) (x2578_1 x2578_2 : Int) (x2578_3 : Bool) (x2578_4 x2578_5 : Int) (x2578_6 : ByteArray) (x2578_7 : List S91) (g528 g3088 : Nat), run spec_Parse.B kq (.j1 x4 x8 x9 x2578_0 x2578_1 x2578_2 x2578_3 x2578_4 x2578_5 x2578_6 x2578_7) = some (r1, r2) ∧ (∃ fr0, fr = puts [(4, .one (.ref 528 g528)), (7, .one (.ptr 2578 0)), (8, .one (.ref 3088 g3088)), (9, .one (.val (.int .i64 x9)))] fr0) ∧ hp = (upd 528 (.own 93 9 (x4.map e93) g528 false) (upd 2578 (.box [.val (.row (x2578_0.map e126)), .val (.int .i64 x2578_1), .val (.int .i64 x2578_2), .val (.bool x2578_3), .val (.int .i64 x2578_4), .val (.int .i64 x2578_5), .val (.str x2578_6), .val (.row (x2578_7.map e91))]) (upd 3088 (.own 93 9 (x8.map e93) g3088 false) (fun _ => none))))) ?_ ?_
   ·refine zz ?_
    refine cutJ (n := 200008) [528, 2578, 3088] (fun fr hp => ∃ kq, kq ≤ k ∧ ∃ (x4 x8 : List S93) (x9 : Int) (x35 : Bool) (x2578_0 : List S126) (x2578_1 x2578_2 : Int) (x2578_3 : Bool) (x2578_4 x2578_5 : Int) (x2578_6 : ByteArray) (x2578_7 : List S91) (g528 g3088 : Nat), run spec_Parse.B kq (.j2 x4 x8 x9 x35 x2578_0 x2578_1 x2578_2 x2578_3 x2578_4 x2578_5 x2578_6 x2578_7) = some (r1, r2) ∧ (∃ fr0, fr = puts [(4, .one (.ref 528 g528)), (7, .one (.ptr 2578 0)), (8, .one (.ref 3088 g3088)), (9, .one (.val (.int .i64 x9))), (35, .one (.val (.bool x35)))] fr0) ∧ hp = (upd 528 (.own 93 9 (x4.map e93) g528 false) (upd 2578 (.box [.val (.row (x2578_0.map e126)), .val (.int .i64 x2578_1), .val (.int .i64 x2578_2), .val (.bool x2578_3), .val (.int .i64 x2578_4), .val (.int .i64 x2578_5), .val (.str x2578_6), .val (.row (x2578_7.map e91))]) (upd 3088 (.own 93 9 (x8.map e93) g3088 false) (fun _ => none))))) ?_ ?_
    ·refine zz ?_
     refine br (iP h) ?_ ?_ <;> (clear h; intro c h)
     rotate_left
     ·refine zr ?_
      refine zr ?_
      refine zr ?_
      refine zr ?_
      replace h := evT h
      refine zz ?_
      exact ⟨_, zfuel, _, _, _, _, _, _, _, _, _, _, _, _, g528, g3088, h, leafFr [4, 7, 8, 9, 35] (by kernel_rfl), by kernel_rfl⟩
     refine zl ?_
     have h_ := evO h; clear h; obtain ⟨t32, ht, h⟩ := h_
     refine zz ?_
     refine Exists.intro _ (Exists.intro _ (And.intro (spec_l8Now_ev (h := ht)) ?_))
     refine zl ?_
     refine zl ?_
     refine zl ?_
     replace h := evT h
     refine zz ?_
     exact ⟨_, zfuel, _, _, _, _, _, _, _, _, _, _, _, _, g528, g3088, h, leafFr [4, 7, 8, 9, 35] (by kernel_rfl), by kernel_rfl⟩
    clear h; rintro _ _ ⟨k, hle, x4, x8, x9, x35, x2578_0, x2578_1, x2578_2, x2578_3, x2578_4, x2578_5, x2578_6, x2578_7, g528, g3088, h, ⟨fr0, rfl⟩, rfl⟩
    rcases k with _ | k
    · exact (run_zero h).elim
    rw [run_succ, spec_Parse.B] at h
    refine zz ?_
    refine br (iP h) ?_ ?_ <;> (clear h; intro c h)
    ·replace h := evT h
     refine zz ?_
     exact ⟨_, zfuel, _, _, _, _, _, _, _, _, _, _, _, g528, g3088, h, leafFr [4, 7, 8, 9] (by kernel_rfl), by kernel_rfl⟩
    replace h := evT h
    refine zz ?_
    exact ⟨_, zfuel, _, _, _, _, _, _, _, _, _, _, _, g528, g3088, h, leafFr [4, 7, 8, 9] (by kernel_rfl), by kernel_rfl⟩
   clear h; rintro _ _ ⟨k, hle, x4, x8, x9, x2578_0, x2578_1, x2578_2, x2578_3, x2578_4, x2578_5, x2578_6, x2578_7, g528, g3088, h, ⟨fr0, rfl⟩, rfl⟩
   rcases k with _ | k
   · exact (run_zero h).elim
   rw [run_succ, spec_Parse.B] at h
   have h_ := evO h; clear h; obtain ⟨t37, ht, h⟩ := h_
   refine zz ?_
   refine Exists.intro _ (Exists.intro _ (And.intro (spec_l8Rule_ev (h := ht)) ?_))
   refine zz ?_
   refine Exists.intro (List.map e93 ([(⟨t37.1, t37.2.1, t37.2.2.1, t37.2.2.2.1, t37.2.2.2.2.1, t37.2.2.2.2.2.1, t37.2.2.2.2.2.2.1, t37.2.2.2.2.2.2.2.1, t37.2.2.2.2.2.2.2.2.1⟩ : S93)] : List S93)) (And.intro zrow ?_)
   have h_ := gP h; clear h; obtain ⟨c, h⟩ := h_
   refine zz ?_
   refine Exists.intro (List.map e93 (x8 ++ [(⟨t37.1, t37.2.1, t37.2.2.1, t37.2.2.2.1, t37.2.2.2.2.1, t37.2.2.2.2.2.1, t37.2.2.2.2.2.2.1, t37.2.2.2.2.2.2.2.1, t37.2.2.2.2.2.2.2.2.1⟩ : S93)])) (And.intro zrow ?_)
   have h_ := evO h; clear h; obtain ⟨t45, ht, h⟩ := h_
   refine zz ?_
   refine Exists.intro _ (And.intro (spec_Deep_ev (h := ht)) ?_)
   have h_ := evO h; clear h; obtain ⟨t48, ht, h⟩ := h_
   refine zz ?_
   refine Exists.intro _ (And.intro (spec_Deep_ev (h := ht)) ?_)
   have h_ := evO h; clear h; obtain ⟨t49, ht, h⟩ := h_
   refine zz ?_
   refine Exists.intro _ (And.intro (spec_l1Max_ev (h := ht)) ?_)
   have h_ := evO h; clear h; obtain ⟨t50, ht, h⟩ := h_
   refine zz ?_
   refine Exists.intro _ (And.intro (spec_l1Max_ev (h := ht)) ?_)
   replace h := evT h
   refine zz ?_
   exact ⟨_, zfuel, _, _, _, _, _, _, _, _, _, _, _, g528, (g3088 + 1), h, leafFr [4, 7, 8, 9] (by kernel_rfl), by kernel_rfl⟩
  clear h; rintro _ _ ⟨k, hle, x4, x8, x9, x2578_0, x2578_1, x2578_2, x2578_3, x2578_4, x2578_5, x2578_6, x2578_7, g528, g3088, h, ⟨fr0, rfl⟩, rfl⟩
  rcases k with _ | k
  · exact (run_zero h).elim
  rw [run_succ, spec_Parse.B] at h
  refine zz ?_
  refine br (iP h) ?_ ?_ <;> (clear h; intro c h)
  ·replace h := evR h; cases h
   refine zz ?_
   first | refine ⟨trivial, [528], [(528, g528, 0)], ⟨rfl, ⟨trivial, trivial⟩⟩, _, rfl, _, rfl, ?_⟩ | refine ⟨[528], [(528, g528, 0)], ⟨rfl, ⟨trivial, trivial⟩⟩, _, rfl, _, rfl, ?_⟩
   repeat' (first | (refine And.intro ?_ ?_) | rfl)
  refine zz ?_
  refine br (iP h) ?_ ?_ <;> (clear h; intro c h)
  ·replace h := evR h; cases h
   refine zz ?_
   first | refine ⟨trivial, [528], [(528, g528, 0)], ⟨rfl, ⟨trivial, trivial⟩⟩, _, rfl, _, rfl, ?_⟩ | refine ⟨[528], [(528, g528, 0)], ⟨rfl, ⟨trivial, trivial⟩⟩, _, rfl, _, rfl, ?_⟩
   repeat' (first | (refine And.intro ?_ ?_) | rfl)
  replace h := evR h; cases h
  refine zz ?_
  first | refine ⟨trivial, [3088], [(3088, g3088, 0)], ⟨rfl, ⟨trivial, trivial⟩⟩, _, rfl, _, rfl, ?_⟩ | refine ⟨[3088], [(3088, g3088, 0)], ⟨rfl, ⟨trivial, trivial⟩⟩, _, rfl, _, rfl, ?_⟩
  repeat' (first | (refine And.intro ?_ ?_) | rfl)
theorem spec_l8DrawRight_ev (l0_0 : List Int) (s0_1 s0_2 : Int) (r1 : List S93) (r2 : List Int) (r3 r4 : Int) (h : spec_l8DrawRight.fv l0_0 s0_1 s0_2 = some (r1, r2, r3, r4)) : CE (G m_) 42 [.ptr 0 0] [.box [.val (.row (l0_0.map (VV.int .u8))), .val (.int .i64 s0_1), .val (.int .i64 s0_2)]] [.val (.row (r1.map e93))] [.box [.val (.row (r2.map (VV.int .u8))), .val (.int .i64 r3), .val (.int .i64 r4)]] := by
  refine CE.mk ⟨Tryz.f42, _, rfl, rfl, ⟨by kernel_rfl, Nat.le_of_ble_eq_true rfl, Nat.le_of_ble_eq_true rfl⟩, ?_⟩
  rw [spec_l8DrawRight.fv] at h
  have h_ := oS h; clear h; obtain ⟨t7, ht, h⟩ := h_
  refine zz ?_
  refine Exists.intro _ (Exists.intro _ (And.intro (spec_l7DrawSource_ev (h := ht)) ?_))
  have h_ := oS h; clear h; obtain ⟨t8, ht, h⟩ := h_
  refine zz ?_
  refine Exists.intro _ (Exists.intro _ (And.intro (spec_Parse_ev (h := ht)) ?_))
  cases h
  refine zz ?_
  exact zend
theorem spec_l9IsE_ev (a0 : Int) (r : Bool) (h : spec_l9IsE.f a0 = some r) : CE (G m_) 99 [.val (.int .i64 a0)] [] [.val (.bool r)] [] := by
  refine CE.mk ⟨Tryz.f99, _, rfl, rfl, ⟨by kernel_rfl, Nat.le_of_ble_eq_true rfl, Nat.le_of_ble_eq_true rfl⟩, ?_⟩
  rw [spec_l9IsE.f] at h
  have h_ := oS h; clear h; obtain ⟨t4, ht, h⟩ := h_
  refine zz ?_
  refine Exists.intro _ (And.intro (spec_l1In_ev (h := ht)) ?_)
  cases h
  refine zz ?_
  exact zend
theorem spec_l9Line_ev (a0 : ByteArray) (r : Bool) (h : spec_l9Line.fv a0 = some r) : CE (G m_) 127 [.val (.str a0)] [] [.val (.bool r)] [] := by
  obtain ⟨k, h⟩ := lim_ex h
  refine CE.mk ⟨Tryz.f127, _, rfl, rfl, ⟨by kernel_rfl, Nat.le_of_ble_eq_true rfl, Nat.le_of_ble_eq_true rfl⟩, ?_⟩
  rcases k with _ | k
  · exact (run_zero h).elim
  rw [run_succ, spec_l9Line.B] at h
  replace h := evT h
  refine zz ?_
  refine loopJ [] (fun kq fr hp => ∃ (x0 : ByteArray) (x3 : Int), run spec_l9Line.B kq (.l0 x0 x3) = some r ∧ (∃ fr0, fr = puts [(0, .one (.val (.str x0))), (3, .one (.val (.int .i64 x3)))] fr0) ∧ hp = (fun _ => none)) k ⟨_, zfuel, _, _, h, leafFr [0, 3] (by kernel_rfl), by kernel_rfl⟩ ?_
  clear h; rintro k hle _ _ ⟨x0, x3, h, ⟨fr0, rfl⟩, rfl⟩
  rcases k with _ | k
  · exact (run_zero h).elim
  rw [run_succ, spec_l9Line.B] at h
  refine zz ?_
  refine br (iP h) ?_ ?_ <;> (clear h; intro c h)
  rotate_left
  ·replace h := evR h; cases h
   refine zz ?_
   exact zend
  have h_ := gP h; clear h; obtain ⟨c, h⟩ := h_
  refine zz ?_
  refine br (iP h) ?_ ?_ <;> (clear h; intro c h)
  ·replace h := evR h; cases h
   refine zz ?_
   exact zend
  replace h := evT h
  refine zz ?_
  exact ⟨_, zfuel, _, _, h, leafFr [0, 3] (by kernel_rfl), by kernel_rfl⟩
theorem spec_l9Rex_ev (a0 : ByteArray) (r : Bool) (h : spec_l9Rex.fv a0 = some r) : CE (G m_) 128 [.val (.str a0)] [] [.val (.bool r)] [] := by
  obtain ⟨k, h⟩ := lim_ex h
  refine CE.mk ⟨Tryz.f128, _, rfl, rfl, ⟨by kernel_rfl, Nat.le_of_ble_eq_true rfl, Nat.le_of_ble_eq_true rfl⟩, ?_⟩
  rcases k with _ | k
  · exact (run_zero h).elim
  rw [run_succ, spec_l9Rex.B] at h
  replace h := evT h
  refine zz ?_
  refine loopJ [] (fun kq fr hp => ∃ (x0 : ByteArray) (x3 : Int), run spec_l9Rex.B kq (.l0 x0 x3) = some r ∧ (∃ fr0, fr = puts [(0, .one (.val (.str x0))), (3, .one (.val (.int .i64 x3)))] fr0) ∧ hp = (fun _ => none)) k ⟨_, zfuel, _, _, h, leafFr [0, 3] (by kernel_rfl), by kernel_rfl⟩ ?_
  clear h; rintro k hle _ _ ⟨x0, x3, h, ⟨fr0, rfl⟩, rfl⟩
  rcases k with _ | k
  · exact (run_zero h).elim
  rw [run_succ, spec_l9Rex.B] at h
  refine zz ?_
  refine br (iP h) ?_ ?_ <;> (clear h; intro c h)
  rotate_left
  ·have h_ := evO h; clear h; obtain ⟨t27, ht, h⟩ := h_
   refine zz ?_
   refine Exists.intro _ (And.intro (spec_l9Line_ev (h := ht)) ?_)
   replace h := evR h; cases h
   refine zz ?_
   exact zend
  have h_ := gP h; clear h; obtain ⟨c, h⟩ := h_
  refine zz ?_
  refine br (iP h) ?_ ?_ <;> (clear h; intro c h)
  rotate_left
  ·replace h := evT h
   refine zz ?_
   exact ⟨_, zfuel, _, _, h, leafFr [0, 3] (by kernel_rfl), by kernel_rfl⟩
  refine zz ?_
  refine brW (iP h) ?_ ?_ <;> (clear h; intro c h)
  rotate_left
  ·refine zr ?_
   refine zr ?_
   refine zr ?_
   refine zl ?_
   refine zl ?_
   replace h := evR h; cases h
   refine zz ?_
   exact zend
  refine zl ?_
  refine zl ?_
  have h_ := gP h; clear h; obtain ⟨c, h⟩ := h_
  have h_ := gP h; clear h; obtain ⟨c, h⟩ := h_
  refine zl ?_
  refine zr ?_
  refine zz ?_
  refine br (iP h) ?_ ?_ <;> (clear h; intro c h)
  ·replace h := evR h; cases h
   refine zz ?_
   exact zend
  replace h := evT h
  refine zz ?_
  exact ⟨_, zfuel, _, _, h, leafFr [0, 3] (by kernel_rfl), by kernel_rfl⟩
theorem spec_l9Name_ev (a0 : ByteArray) (r : Bool) (h : spec_l9Name.fv a0 = some r) : CE (G m_) 82 [.val (.str a0)] [] [.val (.bool r)] [] := by
  obtain ⟨k, h⟩ := lim_ex h
  refine CE.mk ⟨Tryz.f82, _, rfl, rfl, ⟨by kernel_rfl, Nat.le_of_ble_eq_true rfl, Nat.le_of_ble_eq_true rfl⟩, ?_⟩
  rcases k with _ | k
  · exact (run_zero h).elim
  rw [run_succ, spec_l9Name.B] at h
  replace h := evT h
  refine zz ?_
  refine loopJ [] (fun kq fr hp => ∃ (x0 : ByteArray) (x3 : Int), run spec_l9Name.B kq (.l0 x0 x3) = some r ∧ (∃ fr0, fr = puts [(0, .one (.val (.str x0))), (3, .one (.val (.int .i64 x3)))] fr0) ∧ hp = (fun _ => none)) k ⟨_, zfuel, _, _, h, leafFr [0, 3] (by kernel_rfl), by kernel_rfl⟩ ?_
  clear h; rintro k hle _ _ ⟨x0, x3, h, ⟨fr0, rfl⟩, rfl⟩
  rcases k with _ | k
  · exact (run_zero h).elim
  rw [run_succ, spec_l9Name.B] at h
  refine zz ?_
  refine br (iP h) ?_ ?_ <;> (clear h; intro c h)
  ·have h_ := gP h; clear h; obtain ⟨c, h⟩ := h_
   have h_ := evO h; clear h; obtain ⟨t13, ht, h⟩ := h_
   refine zz ?_
   refine Exists.intro _ (And.intro (spec_l7Letter_ev (h := ht)) ?_)
   refine zz ?_
   refine brN (iP h) ?_ ?_ <;> (clear h; intro c h)
   ·replace h := evR h; cases h
    refine zz ?_
    exact zend
   replace h := evT h
   refine zz ?_
   exact ⟨_, zfuel, _, _, h, leafFr [0, 3] (by kernel_rfl), by kernel_rfl⟩
  have h_ := evO h; clear h; obtain ⟨t17, ht, h⟩ := h_
  refine zz ?_
  refine Exists.intro _ (And.intro (spec_l1In_ev (h := ht)) ?_)
  refine zz ?_
  refine br (iP h) ?_ ?_ <;> (clear h; intro c h)
  rotate_left
  ·refine zr ?_
   refine zr ?_
   refine zr ?_
   replace h := evR h; cases h
   refine zz ?_
   exact zend
  refine zl ?_
  have h_ := evO h; clear h; obtain ⟨t20, ht, h⟩ := h_
  refine zz ?_
  refine Exists.intro _ (And.intro (spec_Keyword_ev (h := ht)) ?_)
  refine zl ?_
  refine zl ?_
  replace h := evR h; cases h
  refine zz ?_
  exact zend
end Go.Proofs.YtchhkbkbbglgbaaGreatDoor.TFnOps
