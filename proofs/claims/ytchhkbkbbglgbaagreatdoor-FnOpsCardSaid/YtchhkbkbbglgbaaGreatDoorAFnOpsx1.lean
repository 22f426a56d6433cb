/- The walks of the functions that FnOps reaches, through the abstract machine. -/
import Derived.Test.YtchhkbkbbglgbaaGreatDoorAFnOpsh
import Derived.Test.YtchhkbkbbglgbaaGreatDoorAFnOpsx0
import Derived.Test.YtchhkbkbbglgbaaGreatDoorFFnOps
import Derived.Test.YtchhkbkbbglgbaaGreatDoorProg
set_option maxHeartbeats 4000000
set_option maxRecDepth 100000
set_option linter.unusedVariables false
set_option linter.unusedSimpArgs false
namespace Go.Proofs.YtchhkbkbbglgbaaGreatDoor.TFnOps
open Go Go.RowKit Go.Proofs Go.Proofs.YtchhkbkbbglgbaaGreatDoorW.AM Go.Proofs.YtchhkbkbbglgbaaGreatDoor.QFnOps Go.Proofs.YtchhkbkbbglgbaaGreatDoorW.PrintWords Go.Proofs.YtchhkbkbbglgbaaGreatDoorW.Pgs
variable {m_ : Int}
theorem spec_l7Within_ev (l0 : List ByteArray) (a1 : ByteArray) (r : Bool) (h : spec_l7Within.fv l0 a1 = some r) : CE (G m_) 36 [.val (.row (l0.map VV.str)), .val (.str a1)] [] [.val (.bool r)] [] := by
  obtain ⟨k, h⟩ := lim_ex h
  refine CE.mk ⟨Tryz.f36, _, rfl, rfl, ⟨by kernel_rfl, Nat.le_of_ble_eq_true rfl, Nat.le_of_ble_eq_true rfl⟩, ?_⟩
  rcases k with _ | k
  · exact (run_zero h).elim
  rw [run_succ, spec_l7Within.B] at h
  replace h := evT h
  refine zz ?_
  refine loopJ [] (fun kq fr hp => ∃ (x0 : List ByteArray) (x1 : ByteArray) (x5 : Int), run spec_l7Within.B kq (.l0 x0 x1 x5) = some r ∧ (∃ fr0, fr = puts [(0, .one (.val (.row (x0.map VV.str)))), (1, .one (.val (.str x1))), (5, .one (.val (.int .i64 x5)))] fr0) ∧ hp = (fun _ => none)) k ⟨_, zfuel, _, _, _, h, leafFr [0, 1, 5] (by kernel_rfl), by kernel_rfl⟩ ?_
  clear h; rintro k hle _ _ ⟨x0, x1, x5, h, ⟨fr0, rfl⟩, rfl⟩
  rcases k with _ | k
  · exact (run_zero h).elim
  rw [run_succ, spec_l7Within.B] at h
  refine zz ?_
  refine br (iP h) ?_ ?_ <;> (clear h; intro c h)
  rotate_left
  ·replace h := evR h; cases h
   refine zz ?_
   exact zend
  have h_ := gP h; clear h; obtain ⟨c, h⟩ := h_
  refine zz ?_
  refine br (iP h) ?_ ?_ <;> (clear h; intro c h)
  ·replace h := evR h; cases h
   refine zz ?_
   exact zend
  replace h := evT h
  refine zz ?_
  exact ⟨_, zfuel, _, _, _, h, leafFr [0, 1, 5] (by kernel_rfl), by kernel_rfl⟩
theorem spec_l7Calls_ev (r : List ByteArray) (h : spec_l7Calls.f  = some r) : CE (G m_) 37 [] [] [.val (.row (r.map VV.str))] [] := by
  refine CE.mk ⟨Tryz.f37, _, rfl, rfl, ⟨by kernel_rfl, Nat.le_of_ble_eq_true rfl, Nat.le_of_ble_eq_true rfl⟩, ?_⟩
  rw [spec_l7Calls.f] at h
  have h_ := oS h; clear h; obtain ⟨y1_0, hy, h⟩ := h_
  refine zz ?_
  refine Exists.intro (y1_0.map VV.str) (And.intro (by rw [← Option.some.inj hy]; exact zrow) ?_)
  cases h
  refine zz ?_
  exact zend
theorem spec_Keyword_ev (a0 : ByteArray) (r : Bool) (h : spec_Keyword.fv a0 = some r) : CE (G m_) 108 [.val (.str a0)] [] [.val (.bool r)] [] := by
  refine CE.mk ⟨Tryz.f108, _, rfl, rfl, ⟨by kernel_rfl, Nat.le_of_ble_eq_true rfl, Nat.le_of_ble_eq_true rfl⟩, ?_⟩
  rw [spec_Keyword.fv] at h
  have h_ := oS h; clear h; obtain ⟨y1_0, hy, h⟩ := h_
  refine zz ?_
  refine Exists.intro (y1_0.map VV.str) (And.intro (by rw [← Option.some.inj hy]; exact zrow) ?_)
  have h_ := oS h; clear h; obtain ⟨t5, ht, h⟩ := h_
  refine zz ?_
  refine Exists.intro _ (And.intro (spec_l7Within_ev (h := ht)) ?_)
  refine zz ?_
  refine brW (iteS h) ?_ ?_ <;> (clear h; intro c h)
  rotate_left
  ·refine zr ?_
   refine zr ?_
   refine zl ?_
   cases h
   refine zz ?_
   exact zend
  have h_ := oS h; clear h; obtain ⟨t7, ht, h⟩ := h_
  refine zz ?_
  refine Exists.intro _ (And.intro (spec_l7Calls_ev (h := ht)) ?_)
  refine zl ?_
  refine zl ?_
  have h_ := oS h; clear h; obtain ⟨t9, ht, h⟩ := h_
  refine zz ?_
  refine Exists.intro _ (And.intro (spec_l7Within_ev (h := ht)) ?_)
  refine zr ?_
  cases h
  refine zz ?_
  exact zend
theorem spec_l8Kids_ev (a0 : Int) (l1 : List S91) (r1 r2 : Int) (r3 : ByteArray) (r4 : List S91) (h : spec_l8Kids.f a0 l1 = some (r1, r2, r3, r4)) : CE (G m_) 115 [.val (.int .i64 a0), .val (.row (l1.map e91))] [] [.sp 16] [.vbox [.val (.int .i64 r1), .val (.int .i64 r2), .val (.str r3), .ref 17 0], .own 91 4 (r4.map e91) 0 false] := by
  refine CE.mk ⟨Tryz.f115, _, rfl, rfl, ⟨by kernel_rfl, Nat.le_of_ble_eq_true rfl, Nat.le_of_ble_eq_true rfl⟩, ?_⟩
  rw [spec_l8Kids.f] at h
  refine zz ?_
  refine Exists.intro (List.map e91 ([] : List S91)) (And.intro zrow ?_)
  have h_ := gS h; clear h; obtain ⟨c, h⟩ := h_
  refine zz ?_
  refine Exists.intro (List.map e91 (([] : List S91) ++ l1)) (And.intro zrow ?_)
  cases h
  refine zz ?_
  first | refine ⟨trivial, [460800016, 529], [(529, 0 + 1, 0)], ⟨rfl, ⟨trivial, trivial⟩⟩, _, rfl, _, rfl, ?_⟩ | refine ⟨[460800016, 529], [(529, 0 + 1, 0)], ⟨rfl, ⟨trivial, trivial⟩⟩, _, rfl, _, rfl, ?_⟩
  repeat' (first | (refine And.intro ?_ ?_) | rfl)
theorem spec_l8Begins_ev (l0_0 : List S126) (s0_1 s0_2 : Int) (s0_3 : Bool) (s0_4 s0_5 : Int) (s0_6 : ByteArray) (l0_7 : List S91) (r1 : Bool) (r2 : List S126) (r3 r4 : Int) (r5 : Bool) (r6 r7 : Int) (r8 : ByteArray) (r9 : List S91) (h : spec_l8Begins.fv l0_0 s0_1 s0_2 s0_3 s0_4 s0_5 s0_6 l0_7 = some (r1, r2, r3, r4, r5, r6, r7, r8, r9)) : CE (G m_) 157 [.ptr 0 0] [.box [.val (.row (l0_0.map e126)), .val (.int .i64 s0_1), .val (.int .i64 s0_2), .val (.bool s0_3), .val (.int .i64 s0_4), .val (.int .i64 s0_5), .val (.str s0_6), .val (.row (l0_7.map e91))]] [.val (.bool r1)] [.box [.val (.row (r2.map e126)), .val (.int .i64 r3), .val (.int .i64 r4), .val (.bool r5), .val (.int .i64 r6), .val (.int .i64 r7), .val (.str r8), .val (.row (r9.map e91))]] := by
  obtain ⟨k, h⟩ := lim_ex h
  refine CE.mk ⟨Tryz.f157, _, rfl, rfl, ⟨by kernel_rfl, Nat.le_of_ble_eq_true rfl, Nat.le_of_ble_eq_true rfl⟩, ?_⟩
  rcases k with _ | k
  · exact (run_zero h).elim
  rw [run_succ, spec_l8Begins.B] at h
  have h_ := evO h; clear h; obtain ⟨t5, ht, h⟩ := h_
  refine zz ?_
  refine Exists.intro _ (Exists.intro _ (And.intro (spec_l8Now_ev (h := ht)) ?_))
  refine zz ?_
  refine br (iP h) ?_ ?_ <;> (clear h; intro c h)
  ·replace h := evR h; cases h
   refine zz ?_
   exact zend
  refine zz ?_
  refine cutJ (n := 100000) [0, 530] (fun fr hp => ∃ kq, kq ≤ k ∧ ∃ (x1000 : List S126) (x1001 x1002 : Int) (x1003 : Bool) (x1004 x1005 : Int) (x1006 : ByteArray) (x1007 : List S91) (x530_0 : Int) (x530_1 : ByteArray) (x530_2 x530_3 : Int), run spec_l8Begins.B kq (.j0 x1000 x1001 x1002 x1003 x1004 x1005 x1006 x1007 x530_0 x530_1 x530_2 x530_3) = some (r1, r2, r3, r4, r5, r6, r7, r8, r9) ∧ (∃ fr0, fr = puts [(3, .one (.ptr 530 0))] fr0) ∧ hp = (upd 0 (.box [.val (.row (x1000.map e126)), .val (.int .i64 x1001), .val (.int .i64 x1002), .val (.bool x1003), .val (.int .i64 x1004), .val (.int .i64 x1005), .val (.str x1006), .val (.row (x1007.map e91))]) (upd 530 (.box [.val (.int .i64 x530_0), .val (.str x530_1), .val (.int .i64 x530_2), .val (.int .i64 x530_3)]) (fun _ => none)))) ?_ ?_
  ·refine zz ?_
   refine cutJ (n := 13) [0, 530] (fun fr hp => ∃ kq, kq ≤ k ∧ ∃ (x12 : Int) (x13 : Bool) (x1000 : List S126) (x1001 x1002 : Int) (x1003 : Bool) (x1004 x1005 : Int) (x1006 : ByteArray) (x1007 : List S91) (x530_0 : Int) (x530_1 : ByteArray) (x530_2 x530_3 : Int), run spec_l8Begins.B kq (.j1 x12 x13 x1000 x1001 x1002 x1003 x1004 x1005 x1006 x1007 x530_0 x530_1 x530_2 x530_3) = some (r1, r2, r3, r4, r5, r6, r7, r8, r9) ∧ (∃ fr0, fr = puts [(3, .one (.ptr 530 0)), (12, .one (.val (.int .i64 x12))), (13, .one (.val (.bool x13)))] fr0) ∧ hp = (upd 0 (.box [.val (.row (x1000.map e126)), .val (.int .i64 x1001), .val (.int .i64 x1002), .val (.bool x1003), .val (.int .i64 x1004), .val (.int .i64 x1005), .val (.str x1006), .val (.row (x1007.map e91))]) (upd 530 (.box [.val (.int .i64 x530_0), .val (.str x530_1), .val (.int .i64 x530_2), .val (.int .i64 x530_3)]) (fun _ => none)))) ?_ ?_
   ·refine zz ?_
    refine br (iP h) ?_ ?_ <;> (clear h; intro c h)
    ·replace h := evT h
     refine zz ?_
     exact ⟨_, zfuel, _, _, _, _, _, _, _, _, _, _, _, _, _, _, h, leafFr [3, 12, 13] (by kernel_rfl), by kernel_rfl⟩
    refine zz ?_
    refine br (iP h) ?_ ?_ <;> (clear h; intro c h)
    ·replace h := evT h
     refine zz ?_
     exact ⟨_, zfuel, _, _, _, _, _, _, _, _, _, _, _, _, _, _, h, leafFr [3, 12, 13] (by kernel_rfl), by kernel_rfl⟩
    replace h := evT h
    refine zz ?_
    exact ⟨_, zfuel, _, _, _, _, _, _, _, _, _, _, _, _, _, _, h, leafFr [3, 12, 13] (by kernel_rfl), by kernel_rfl⟩
   clear h; rintro _ _ ⟨k, hle, x12, x13, x1000, x1001, x1002, x1003, x1004, x1005, x1006, x1007, x530_0, x530_1, x530_2, x530_3, h, ⟨fr0, rfl⟩, rfl⟩
   rcases k with _ | k
   · exact (run_zero h).elim
   rw [run_succ, spec_l8Begins.B] at h
   refine zz ?_
   refine br (iP h) ?_ ?_ <;> (clear h; intro c h)
   ·replace h := evR h; cases h
    refine zz ?_
    exact zend
   refine zz ?_
   refine br (iP h) ?_ ?_ <;> (clear h; intro c h)
   rotate_left
   ·replace h := evT h
    refine zz ?_
    exact ⟨_, zfuel, _, _, _, _, _, _, _, _, _, _, _, _, h, leafFr [3] (by kernel_rfl), by kernel_rfl⟩
   refine zz ?_
   refine cutJ (n := 200010) [0] (fun fr hp => ∃ kq, kq ≤ k ∧ ∃ (x2 : Bool) (x1000 : List S126) (x1001 x1002 : Int) (x1003 : Bool) (x1004 x1005 : Int) (x1006 : ByteArray) (x1007 : List S91), run spec_l8Begins.B kq (.j2 x2 x1000 x1001 x1002 x1003 x1004 x1005 x1006 x1007) = some (r1, r2, r3, r4, r5, r6, r7, r8, r9) ∧ (∃ fr0, fr = puts [(2, .one (.val (.bool x2)))] fr0) ∧ hp = (upd 0 (.box [.val (.row (x1000.map e126)), .val (.int .i64 x1001), .val (.int .i64 x1002), .val (.bool x1003), .val (.int .i64 x1004), .val (.int .i64 x1005), .val (.str x1006), .val (.row (x1007.map e91))]) (fun _ => none))) ?_ ?_
   ·have h_ := evO h; clear h; obtain ⟨t21, ht, h⟩ := h_
    refine zz ?_
    refine Exists.intro _ (And.intro (spec_Keyword_ev (h := ht)) ?_)
    refine zz ?_
    refine brX (iP h) ?_ ?_ <;> (clear h; intro c h)
    rotate_left
    ·refine zr ?_
     refine zr ?_
     refine zl ?_
     refine zr ?_
     refine zr ?_
     refine zr ?_
     refine zl ?_
     refine zr ?_
     refine zr ?_
     refine zr ?_
     refine zr ?_
     refine zl ?_
     replace h := evT h
     refine zz ?_
     exact ⟨_, zfuel, _, _, _, _, _, _, _, _, _, h, leafFr [2] (by kernel_rfl), by kernel_rfl⟩
    refine zl ?_
    refine zl ?_
    refine zr ?_
    refine zz ?_
    refine brW (iP h) ?_ ?_ <;> (clear h; intro c h)
    rotate_left
    ·refine zr ?_
     refine zr ?_
     refine zl ?_
     refine zr ?_
     refine zr ?_
     refine zr ?_
     refine zr ?_
     refine zl ?_
     replace h := evT h
     refine zz ?_
     exact ⟨_, zfuel, _, _, _, _, _, _, _, _, _, h, leafFr [2] (by kernel_rfl), by kernel_rfl⟩
    refine zl ?_
    refine zl ?_
    refine zr ?_
    refine zz ?_
    refine brW (iP h) ?_ ?_ <;> (clear h; intro c h)
    rotate_left
    ·refine zr ?_
     refine zr ?_
     refine zr ?_
     refine zl ?_
     replace h := evT h
     refine zz ?_
     exact ⟨_, zfuel, _, _, _, _, _, _, _, _, _, h, leafFr [2] (by kernel_rfl), by kernel_rfl⟩
    have h_ := evO h; clear h; obtain ⟨t34, ht, h⟩ := h_
    refine zz ?_
    refine Exists.intro _ (And.intro (spec_l7Calls_ev (h := ht)) ?_)
    refine zl ?_
    refine zl ?_
    refine zl ?_
    have h_ := evO h; clear h; obtain ⟨t37, ht, h⟩ := h_
    refine zz ?_
    refine Exists.intro _ (And.intro (spec_l7Within_ev (h := ht)) ?_)
    refine zr ?_
    replace h := evT h
    refine zz ?_
    exact ⟨_, zfuel, _, _, _, _, _, _, _, _, _, h, leafFr [2] (by kernel_rfl), by kernel_rfl⟩
   clear h; rintro _ _ ⟨k, hle, x2, x1000, x1001, x1002, x1003, x1004, x1005, x1006, x1007, h, ⟨fr0, rfl⟩, rfl⟩
   rcases k with _ | k
   · exact (run_zero h).elim
   rw [run_succ, spec_l8Begins.B] at h
   replace h := evR h; cases h
   refine zz ?_
   exact zend
  clear h; rintro _ _ ⟨k, hle, x1000, x1001, x1002, x1003, x1004, x1005, x1006, x1007, x530_0, x530_1, x530_2, x530_3, h, ⟨fr0, rfl⟩, rfl⟩
  rcases k with _ | k
  · exact (run_zero h).elim
  rw [run_succ, spec_l8Begins.B] at h
  refine zz ?_
  refine br (iP h) ?_ ?_ <;> (clear h; intro c h)
  rotate_left
  ·refine zr ?_
   refine zr ?_
   refine zr ?_
   refine zr ?_
   refine zr ?_
   replace h := evR h; cases h
   refine zz ?_
   exact zend
  refine zl ?_
  refine zl ?_
  refine zl ?_
  refine zz ?_
  refine brW (iP h) ?_ ?_ <;> (clear h; intro c h)
  ·refine zl ?_
   refine zl ?_
   refine zl ?_
   refine zr ?_
   refine zl ?_
   replace h := evR h; cases h
   refine zz ?_
   exact zend
  refine zr ?_
  refine zr ?_
  refine zl ?_
  refine zl ?_
  refine zl ?_
  replace h := evR h; cases h
  refine zz ?_
  exact zend
theorem spec_l8Name_ev (l0_0 : List S126) (s0_1 s0_2 : Int) (s0_3 : Bool) (s0_4 s0_5 : Int) (s0_6 : ByteArray) (l0_7 : List S91) (r1 : ByteArray) (r2 : List S126) (r3 r4 : Int) (r5 : Bool) (r6 r7 : Int) (r8 : ByteArray) (r9 : List S91) (h : spec_l8Name.fv l0_0 s0_1 s0_2 s0_3 s0_4 s0_5 s0_6 l0_7 = some (r1, r2, r3, r4, r5, r6, r7, r8, r9)) : CE (G m_) 150 [.ptr 0 0] [.box [.val (.row (l0_0.map e126)), .val (.int .i64 s0_1), .val (.int .i64 s0_2), .val (.bool s0_3), .val (.int .i64 s0_4), .val (.int .i64 s0_5), .val (.str s0_6), .val (.row (l0_7.map e91))]] [.val (.str r1)] [.box [.val (.row (r2.map e126)), .val (.int .i64 r3), .val (.int .i64 r4), .val (.bool r5), .val (.int .i64 r6), .val (.int .i64 r7), .val (.str r8), .val (.row (r9.map e91))]] := by
  obtain ⟨k, h⟩ := lim_ex h
  refine CE.mk ⟨Tryz.f150, _, rfl, rfl, ⟨by kernel_rfl, Nat.le_of_ble_eq_true rfl, Nat.le_of_ble_eq_true rfl⟩, ?_⟩
  rcases k with _ | k
  · exact (run_zero h).elim
  rw [run_succ, spec_l8Name.B] at h
  have h_ := evO h; clear h; obtain ⟨t5, ht, h⟩ := h_
  refine zz ?_
  refine Exists.intro _ (Exists.intro _ (And.intro (spec_l8Now_ev (h := ht)) ?_))
  refine zz ?_
  refine cutJ (n := 20) [0, 530] (fun fr hp => ∃ kq, kq ≤ k ∧ ∃ (x1000 : List S126) (x1001 x1002 : Int) (x1003 : Bool) (x1004 x1005 : Int) (x1006 : ByteArray) (x1007 : List S91) (x530_0 : Int) (x530_1 : ByteArray) (x530_2 x530_3 : Int), run spec_l8Name.B kq (.j0 x1000 x1001 x1002 x1003 x1004 x1005 x1006 x1007 x530_0 x530_1 x530_2 x530_3) = some (r1, r2, r3, r4, r5, r6, r7, r8, r9) ∧ (∃ fr0, fr = puts [(0, .one (.ptr 0 0)), (3, .one (.ptr 530 0))] fr0) ∧ hp = (upd 0 (.box [.val (.row (x1000.map e126)), .val (.int .i64 x1001), .val (.int .i64 x1002), .val (.bool x1003), .val (.int .i64 x1004), .val (.int .i64 x1005), .val (.str x1006), .val (.row (x1007.map e91))]) (upd 530 (.box [.val (.int .i64 x530_0), .val (.str x530_1), .val (.int .i64 x530_2), .val (.int .i64 x530_3)]) (fun _ => none)))) ?_ ?_
  ·refine zz ?_
   refine cutJ (n := 200002) [0, 530] (fun fr hp => ∃ kq, kq ≤ k ∧ ∃ (x20 : Bool) (x1000 : List S126) (x1001 x1002 : Int) (x1003 : Bool) (x1004 x1005 : Int) (x1006 : ByteArray) (x1007 : List S91) (x530_0 : Int) (x530_1 : ByteArray) (x530_2 x530_3 : Int), run spec_l8Name.B kq (.j1 x20 x1000 x1001 x1002 x1003 x1004 x1005 x1006 x1007 x530_0 x530_1 x530_2 x530_3) = some (r1, r2, r3, r4, r5, r6, r7, r8, r9) ∧ (∃ fr0, fr = puts [(0, .one (.ptr 0 0)), (3, .one (.ptr 530 0)), (20, .one (.val (.bool x20)))] fr0) ∧ hp = (upd 0 (.box [.val (.row (x1000.map e126)), .val (.int .i64 x1001), .val (.int .i64 x1002), .val (.bool x1003), .val (.int .i64 x1004), .val (.int .i64 x1005), .val (.str x1006), .val (.row (x1007.map e91))]) (upd 530 (.box [.val (.int .i64 x530_0), .val (.str x530_1), .val (.int .i64 x530_2), .val (.int .i64 x530_3)]) (fun _ => none)))) ?_ ?_
   ·refine zz ?_
    refine brW (iP h) ?_ ?_ <;> (clear h; intro c h)
    rotate_left
    ·refine zr ?_
     refine zr ?_
     refine zl ?_
     refine zr ?_
     refine zr ?_
     refine zr ?_
     refine zl ?_
     replace h := evT h
     refine zz ?_
     exact ⟨_, zfuel, _, _, _, _, _, _, _, _, _, _, _, _, _, h, leafFr [0, 3, 20] (by kernel_rfl), by kernel_rfl⟩
    refine zl ?_
    refine zl ?_
    refine zr ?_
    refine zz ?_
    refine brX (iP h) ?_ ?_ <;> (clear h; intro c h)
    rotate_left
    ·refine zr ?_
     refine zr ?_
     refine zl ?_
     replace h := evT h
     refine zz ?_
     exact ⟨_, zfuel, _, _, _, _, _, _, _, _, _, _, _, _, _, h, leafFr [0, 3, 20] (by kernel_rfl), by kernel_rfl⟩
    refine zl ?_
    refine zl ?_
    have h_ := evO h; clear h; obtain ⟨t19, ht, h⟩ := h_
    refine zz ?_
    refine Exists.intro _ (And.intro (spec_Keyword_ev (h := ht)) ?_)
    refine zr ?_
    replace h := evT h
    refine zz ?_
    exact ⟨_, zfuel, _, _, _, _, _, _, _, _, _, _, _, _, _, h, leafFr [0, 3, 20] (by kernel_rfl), by kernel_rfl⟩
   clear h; rintro _ _ ⟨k, hle, x20, x1000, x1001, x1002, x1003, x1004, x1005, x1006, x1007, x530_0, x530_1, x530_2, x530_3, h, ⟨fr0, rfl⟩, rfl⟩
   rcases k with _ | k
   · exact (run_zero h).elim
   rw [run_succ, spec_l8Name.B] at h
   refine zz ?_
   refine br (iP h) ?_ ?_ <;> (clear h; intro c h)
   rotate_left
   ·replace h := evT h
    refine zz ?_
    exact ⟨_, zfuel, _, _, _, _, _, _, _, _, _, _, _, _, h, leafFr [0, 3] (by kernel_rfl), by kernel_rfl⟩
   have h_ := evO h; clear h; obtain ⟨t22, ht, h⟩ := h_
   refine zz ?_
   refine Exists.intro _ (Exists.intro _ (And.intro (spec_l8Bad_ev (h := ht)) ?_))
   replace h := evR h; cases h
   refine zz ?_
   exact zend
  clear h; rintro _ _ ⟨k, hle, x1000, x1001, x1002, x1003, x1004, x1005, x1006, x1007, x530_0, x530_1, x530_2, x530_3, h, ⟨fr0, rfl⟩, rfl⟩
  rcases k with _ | k
  · exact (run_zero h).elim
  rw [run_succ, spec_l8Name.B] at h
  have h_ := evO h; clear h; obtain ⟨t24, ht, h⟩ := h_
  refine zz ?_
  refine Exists.intro _ (Exists.intro _ (And.intro (spec_l8Next_ev (h := ht)) ?_))
  replace h := evR h; cases h
  refine zz ?_
  exact zend
theorem spec_l8Kids_2_ev {n0 : Nat} (a0 : Int) (l1 : List S91) (r1 r2 : Int) (r3 : ByteArray) (r4 : List S91) (h : spec_l8Kids_2.f a0 l1 = some (r1, r2, r3, r4)) : CE (G m_) 115 [.val (.int .i64 a0), .ref 0 n0] [.own 91 4 (l1.map e91) n0 false] [.sp 16] [.own 91 4 (l1.map e91) n0 false, .vbox [.val (.int .i64 r1), .val (.int .i64 r2), .val (.str r3), .ref 17 0], .own 91 4 (r4.map e91) 0 false] := by
  refine CE.mk ⟨Tryz.f115, _, rfl, rfl, ⟨by kernel_rfl, Nat.le_of_ble_eq_true rfl, Nat.le_of_ble_eq_true rfl⟩, ?_⟩
  rw [spec_l8Kids_2.f] at h
  refine zz ?_
  refine Exists.intro (List.map e91 ([] : List S91)) (And.intro zrow ?_)
  have h_ := gS h; clear h; obtain ⟨c, h⟩ := h_
  refine zz ?_
  refine Exists.intro (List.map e91 (([] : List S91) ++ l1)) (And.intro zrow ?_)
  cases h
  refine zz ?_
  first | refine ⟨trivial, [460800016, 529], [(529, 0 + 1, 0)], ⟨rfl, ⟨trivial, trivial⟩⟩, _, rfl, _, rfl, ?_⟩ | refine ⟨[460800016, 529], [(529, 0 + 1, 0)], ⟨rfl, ⟨trivial, trivial⟩⟩, _, rfl, _, rfl, ?_⟩
  repeat' (first | (refine And.intro ?_ ?_) | rfl)
end Go.Proofs.YtchhkbkbbglgbaaGreatDoor.TFnOps
