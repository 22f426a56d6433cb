/- The walks of the functions that FnOps reaches, through the abstract machine. -/
import Derived.Test.YtchhkbkbbglgbaaGreatDoorAFnOpsh
import Derived.Test.YtchhkbkbbglgbaaGreatDoorFFnOps
import Derived.Test.YtchhkbkbbglgbaaGreatDoorProg
set_option maxHeartbeats 4000000
set_option maxRecDepth 100000
set_option linter.unusedVariables false
set_option linter.unusedSimpArgs false
namespace Go.Proofs.YtchhkbkbbglgbaaGreatDoor.TFnOps
open Go Go.RowKit Go.Proofs Go.Proofs.YtchhkbkbbglgbaaGreatDoorW.AM Go.Proofs.YtchhkbkbbglgbaaGreatDoor.QFnOps Go.Proofs.YtchhkbkbbglgbaaGreatDoorW.PrintWords Go.Proofs.YtchhkbkbbglgbaaGreatDoorW.Pgs
variable {m_ : Int}
theorem laws_big_ev (l0 : List Int) (r : Bool) (h : laws_big.f l0 = some r) : CE (G m_) 4 [.val (.row (l0.map (VV.int .u8)))] [] [.val (.bool r)] [] := by
  refine CE.mk ⟨Tryz.f4, _, rfl, rfl, ⟨by kernel_rfl, Nat.le_of_ble_eq_true rfl, Nat.le_of_ble_eq_true rfl⟩, ?_⟩
  rw [laws_big.f] at h
  cases h
  refine zz ?_
  exact zend
theorem spec_l1New_ev (l0 r1 : List Int) (r2 r3 : Int) (h : spec_l1New.fv l0 = some (r1, r2, r3)) : CE (G m_) 12 [.val (.row (l0.map (VV.int .u8)))] [] [.ptr 16 0] [.box [.val (.row (r1.map (VV.int .u8))), .val (.int .i64 r2), .val (.int .i64 r3)]] := by
  obtain ⟨k, h⟩ := lim_ex h
  refine CE.mk ⟨Tryz.f12, _, rfl, rfl, ⟨by kernel_rfl, Nat.le_of_ble_eq_true rfl, Nat.le_of_ble_eq_true rfl⟩, ?_⟩
  rcases k with _ | k
  · exact (run_zero h).elim
  rw [run_succ, spec_l1New.B] at h
  replace h := evT h
  refine zz ?_
  refine loopJ [] (fun kq fr hp => ∃ (x0 : List Int) (x3 x4 : Int), run spec_l1New.B kq (.l0 x0 x3 x4) = some (r1, r2, r3) ∧ (∃ fr0, fr = puts [(0, .one (.val (.row (x0.map (VV.int .u8))))), (3, .one (.val (.int .i64 x3))), (4, .one (.val (.int .i64 x4)))] fr0) ∧ hp = (fun _ => none)) k ⟨_, zfuel, _, _, _, h, leafFr [0, 3, 4] (by kernel_rfl), by kernel_rfl⟩ ?_
  clear h; rintro k hle _ _ ⟨x0, x3, x4, h, ⟨fr0, rfl⟩, rfl⟩
  rcases k with _ | k
  · exact (run_zero h).elim
  rw [run_succ, spec_l1New.B] at h
  refine zz ?_
  refine br (iP h) ?_ ?_ <;> (clear h; intro c h)
  rotate_left
  ·refine zr ?_
   refine zr ?_
   refine zr ?_
   replace h := evR h; cases h
   refine zz ?_
   first | exact ⟨trivial, [3091], [], ⟨rfl, trivial⟩, _, rfl, _, rfl, And.intro rfl rfl⟩ | exact ⟨[3091], [], ⟨rfl, trivial⟩, _, rfl, _, rfl, And.intro rfl rfl⟩
  refine zl ?_
  refine zl ?_
  refine zz ?_
  refine br (iP h) ?_ ?_ <;> (clear h; intro c h)
  rotate_left
  ·replace h := evR h; cases h
   refine zz ?_
   first | exact ⟨trivial, [3091], [], ⟨rfl, trivial⟩, _, rfl, _, rfl, And.intro rfl rfl⟩ | exact ⟨[3091], [], ⟨rfl, trivial⟩, _, rfl, _, rfl, And.intro rfl rfl⟩
  have h_ := gP h; clear h; obtain ⟨c, h⟩ := h_
  replace h := evT h
  refine zz ?_
  exact ⟨_, zfuel, _, _, _, h, leafFr [0, 3, 4] (by kernel_rfl), by kernel_rfl⟩
theorem spec_l7Programs_ev (r : List ByteArray) (h : spec_l7Programs.f  = some r) : CE (G m_) 87 [] [] [.val (.row (r.map VV.str))] [] := by
  refine CE.mk ⟨Tryz.f87, _, rfl, rfl, ⟨by kernel_rfl, Nat.le_of_ble_eq_true rfl, Nat.le_of_ble_eq_true rfl⟩, ?_⟩
  rw [spec_l7Programs.f] at h
  have h_ := oS h; clear h; obtain ⟨y1_0, hy, h⟩ := h_
  refine zz ?_
  refine Exists.intro (y1_0.map VV.str) (And.intro (by rw [← Option.some.inj hy]; exact zrow) ?_)
  cases h
  refine zz ?_
  exact zend
theorem spec_l1Byte_ev (l0_0 : List Int) (s0_1 s0_2 r1 : Int) (r2 : List Int) (r3 r4 : Int) (h : spec_l1Byte.f l0_0 s0_1 s0_2 = some (r1, r2, r3, r4)) : CE (G m_) 33 [.ptr 0 0] [.box [.val (.row (l0_0.map (VV.int .u8))), .val (.int .i64 s0_1), .val (.int .i64 s0_2)]] [.val (.int .i64 r1)] [.box [.val (.row (r2.map (VV.int .u8))), .val (.int .i64 r3), .val (.int .i64 r4)]] := by
  refine CE.mk ⟨Tryz.f33, _, rfl, rfl, ⟨by kernel_rfl, Nat.le_of_ble_eq_true rfl, Nat.le_of_ble_eq_true rfl⟩, ?_⟩
  rw [spec_l1Byte.f] at h
  refine zz ?_
  refine br (iteS h) ?_ ?_ <;> (clear h; intro c h)
  rotate_left
  ·cases h
   refine zz ?_
   exact zend
  have h_ := gS h; clear h; obtain ⟨c, h⟩ := h_
  cases h
  refine zz ?_
  exact zend
theorem spec_l1Below_ev (l0_0 : List Int) (s0_1 s0_2 : Int) (a1 r1 : Int) (r2 : List Int) (r3 r4 : Int) (h : spec_l1Below.f l0_0 s0_1 s0_2 a1 = some (r1, r2, r3, r4)) : CE (G m_) 17 [.ptr 0 0, .val (.int .i64 a1)] [.box [.val (.row (l0_0.map (VV.int .u8))), .val (.int .i64 s0_1), .val (.int .i64 s0_2)]] [.val (.int .i64 r1)] [.box [.val (.row (r2.map (VV.int .u8))), .val (.int .i64 r3), .val (.int .i64 r4)]] := by
  refine CE.mk ⟨Tryz.f17, _, rfl, rfl, ⟨by kernel_rfl, Nat.le_of_ble_eq_true rfl, Nat.le_of_ble_eq_true rfl⟩, ?_⟩
  rw [spec_l1Below.f] at h
  refine zz ?_
  refine br (iteS h) ?_ ?_ <;> (clear h; intro c h)
  ·cases h
   refine zz ?_
   exact zend
  refine zz ?_
  refine br (iteS h) ?_ ?_ <;> (clear h; intro c h)
  ·have h_ := oS h; clear h; obtain ⟨t14, ht, h⟩ := h_
   refine zz ?_
   refine Exists.intro _ (Exists.intro _ (And.intro (spec_l1Byte_ev (h := ht)) ?_))
   have h_ := gS h; clear h; obtain ⟨c, h⟩ := h_
   cases h
   refine zz ?_
   exact zend
  have h_ := oS h; clear h; obtain ⟨t18, ht, h⟩ := h_
  refine zz ?_
  refine Exists.intro _ (Exists.intro _ (And.intro (spec_l1Byte_ev (h := ht)) ?_))
  have h_ := oS h; clear h; obtain ⟨t20, ht, h⟩ := h_
  refine zz ?_
  refine Exists.intro _ (Exists.intro _ (And.intro (spec_l1Byte_ev (h := ht)) ?_))
  have h_ := oS h; clear h; obtain ⟨t22, ht, h⟩ := h_
  refine zz ?_
  refine Exists.intro _ (Exists.intro _ (And.intro (spec_l1Byte_ev (h := ht)) ?_))
  have h_ := oS h; clear h; obtain ⟨t24, ht, h⟩ := h_
  refine zz ?_
  refine Exists.intro _ (Exists.intro _ (And.intro (spec_l1Byte_ev (h := ht)) ?_))
  have h_ := gS h; clear h; obtain ⟨c, h⟩ := h_
  cases h
  refine zz ?_
  exact zend
theorem spec_l1Pick_ev (l0_0 : List Int) (s0_1 s0_2 : Int) (l1 : List ByteArray) (r1 : ByteArray) (r2 : List Int) (r3 r4 : Int) (h : spec_l1Pick.f l0_0 s0_1 s0_2 l1 = some (r1, r2, r3, r4)) : CE (G m_) 27 [.ptr 0 0, .val (.row (l1.map VV.str))] [.box [.val (.row (l0_0.map (VV.int .u8))), .val (.int .i64 s0_1), .val (.int .i64 s0_2)]] [.val (.str r1)] [.box [.val (.row (r2.map (VV.int .u8))), .val (.int .i64 r3), .val (.int .i64 r4)]] := by
  refine CE.mk ⟨Tryz.f27, _, rfl, rfl, ⟨by kernel_rfl, Nat.le_of_ble_eq_true rfl, Nat.le_of_ble_eq_true rfl⟩, ?_⟩
  rw [spec_l1Pick.f] at h
  have h_ := oS h; clear h; obtain ⟨t9, ht, h⟩ := h_
  refine zz ?_
  refine Exists.intro _ (Exists.intro _ (And.intro (spec_l1Below_ev (h := ht)) ?_))
  have h_ := gS h; clear h; obtain ⟨c, h⟩ := h_
  have h_ := gS h; clear h; obtain ⟨c, h⟩ := h_
  cases h
  refine zz ?_
  exact zend
theorem spec_l7DrawSource_ev (l0_0 : List Int) (s0_1 s0_2 : Int) (r1 : ByteArray) (r2 : List Int) (r3 r4 : Int) (h : spec_l7DrawSource.f l0_0 s0_1 s0_2 = some (r1, r2, r3, r4)) : CE (G m_) 59 [.ptr 0 0] [.box [.val (.row (l0_0.map (VV.int .u8))), .val (.int .i64 s0_1), .val (.int .i64 s0_2)]] [.val (.str r1)] [.box [.val (.row (r2.map (VV.int .u8))), .val (.int .i64 r3), .val (.int .i64 r4)]] := by
  refine CE.mk ⟨Tryz.f59, _, rfl, rfl, ⟨by kernel_rfl, Nat.le_of_ble_eq_true rfl, Nat.le_of_ble_eq_true rfl⟩, ?_⟩
  rw [spec_l7DrawSource.f] at h
  have h_ := oS h; clear h; obtain ⟨t4, ht, h⟩ := h_
  refine zz ?_
  refine Exists.intro _ (And.intro (spec_l7Programs_ev (h := ht)) ?_)
  have h_ := oS h; clear h; obtain ⟨t5, ht, h⟩ := h_
  refine zz ?_
  refine Exists.intro _ (Exists.intro _ (And.intro (spec_l1Pick_ev (h := ht)) ?_))
  cases h
  refine zz ?_
  exact zend
theorem spec_l7Letter_ev (a0 : Int) (r : Bool) (h : spec_l7Letter.f a0 = some r) : CE (G m_) 107 [.val (.int .u8 a0)] [] [.val (.bool r)] [] := by
  refine CE.mk ⟨Tryz.f107, _, rfl, rfl, ⟨by kernel_rfl, Nat.le_of_ble_eq_true rfl, Nat.le_of_ble_eq_true rfl⟩, ?_⟩
  rw [spec_l7Letter.f] at h
  refine zz ?_
  refine br (iteS h) ?_ ?_ <;> (clear h; intro c h)
  rotate_left
  ·refine zr ?_
   refine zr ?_
   refine zl ?_
   refine zl ?_
   refine zl ?_
   refine zz ?_
   refine br (iteS h) ?_ ?_ <;> (clear h; intro c h)
   ·refine zl ?_
    refine zl ?_
    refine zl ?_
    refine zr ?_
    cases h
    refine zz ?_
    exact zend
   refine zr ?_
   refine zl ?_
   refine zr ?_
   refine zr ?_
   cases h
   refine zz ?_
   exact zend
  refine zl ?_
  refine zl ?_
  refine zz ?_
  refine brW (iteS h) ?_ ?_ <;> (clear h; intro c h)
  rotate_left
  ·refine zr ?_
   refine zr ?_
   refine zr ?_
   refine zl ?_
   cases h
   refine zz ?_
   exact zend
  refine zl ?_
  refine zl ?_
  refine zz ?_
  refine br (iteS h) ?_ ?_ <;> (clear h; intro c h)
  ·refine zl ?_
   refine zl ?_
   refine zl ?_
   refine zr ?_
   cases h
   refine zz ?_
   exact zend
  refine zr ?_
  refine zl ?_
  refine zr ?_
  refine zr ?_
  cases h
  refine zz ?_
  exact zend
theorem spec_l2Digit_ev (a0 : Int) (r : Bool) (h : spec_l2Digit.f a0 = some r) : CE (G m_) 129 [.val (.int .u8 a0)] [] [.val (.bool r)] [] := by
  refine CE.mk ⟨Tryz.f129, _, rfl, rfl, ⟨by kernel_rfl, Nat.le_of_ble_eq_true rfl, Nat.le_of_ble_eq_true rfl⟩, ?_⟩
  rw [spec_l2Digit.f] at h
  refine zz ?_
  refine br (iteS h) ?_ ?_ <;> (clear h; intro c h)
  ·refine zl ?_
   refine zl ?_
   cases h
   refine zz ?_
   exact zend
  refine zr ?_
  refine zr ?_
  cases h
  refine zz ?_
  exact zend
theorem spec_DecFront_ev (a0 : ByteArray) (r1 r2 : Int) (h : spec_DecFront.fv a0 = some (r1, r2)) : CE (G m_) 145 [.val (.str a0)] [] [.val (.int .i64 r1), .val (.int .i64 r2)] [] := by
  obtain ⟨k, h⟩ := lim_ex h
  refine CE.mk ⟨Tryz.f145, _, rfl, rfl, ⟨by kernel_rfl, Nat.le_of_ble_eq_true rfl, Nat.le_of_ble_eq_true rfl⟩, ?_⟩
  rcases k with _ | k
  · exact (run_zero h).elim
  rw [run_succ, spec_DecFront.B] at h
  refine zz ?_
  refine cutJ (n := 100000) [] (fun fr hp => ∃ kq, kq ≤ k ∧ ∃ (x0 : ByteArray) (x4 : Int), run spec_DecFront.B kq (.j1 x0 x4) = some (r1, r2) ∧ (∃ fr0, fr = puts [(0, .one (.val (.str x0))), (4, .one (.val (.int .i64 x4)))] fr0) ∧ hp = (fun _ => none)) ?_ ?_
  ·replace h := evT h
   refine zz ?_
   refine loopJ [] (fun kq fr hp => ∃ (x0 : ByteArray) (x4 : Int), run spec_DecFront.B kq (.l0 x0 x4) = some (r1, r2) ∧ (∃ fr0, fr = puts [(0, .one (.val (.str x0))), (4, .one (.val (.int .i64 x4)))] fr0) ∧ hp = (fun _ => none)) k ⟨_, zfuel, _, _, h, leafFr [0, 4] (by kernel_rfl), by kernel_rfl⟩ ?_
   clear h; rintro k hle _ _ ⟨x0, x4, h, ⟨fr0, rfl⟩, rfl⟩
   rcases k with _ | k
   · exact (run_zero h).elim
   rw [run_succ, spec_DecFront.B] at h
   refine zz ?_
   refine br (iP h) ?_ ?_ <;> (clear h; intro c h)
   rotate_left
   ·refine zr ?_
    refine zr ?_
    refine zr ?_
    refine zr ?_
    refine zr ?_
    replace h := evT h
    refine zz ?_
    exact ⟨_, zfuel, _, _, h, leafFr [0, 4] (by kernel_rfl), by kernel_rfl⟩
   refine zl ?_
   refine zl ?_
   have h_ := gP h; clear h; obtain ⟨c, h⟩ := h_
   refine zl ?_
   refine zl ?_
   refine zz ?_
   refine br (iP h) ?_ ?_ <;> (clear h; intro c h)
   ·replace h := evT h
    refine zz ?_
    exact ⟨_, zfuel, _, _, h, leafFr [0, 4] (by kernel_rfl), by kernel_rfl⟩
   replace h := evT h
   refine zz ?_
   exact ⟨_, zfuel, _, _, h, leafFr [0, 4] (by kernel_rfl), by kernel_rfl⟩
  clear h; rintro _ _ ⟨k, hle, x0, x4, h, ⟨fr0, rfl⟩, rfl⟩
  rcases k with _ | k
  · exact (run_zero h).elim
  rw [run_succ, spec_DecFront.B] at h
  refine zz ?_
  refine cutJ (n := 200004) [] (fun fr hp => ∃ kq, kq ≤ k ∧ ∃ (x0 : ByteArray) (x4 : Int) (x5 : Bool), run spec_DecFront.B kq (.j2 x0 x4 x5) = some (r1, r2) ∧ (∃ fr0, fr = puts [(0, .one (.val (.str x0))), (4, .one (.val (.int .i64 x4))), (5, .one (.val (.bool x5)))] fr0) ∧ hp = (fun _ => none)) ?_ ?_
  ·refine zz ?_
   refine br (iP h) ?_ ?_ <;> (clear h; intro c h)
   rotate_left
   ·refine zr ?_
    refine zr ?_
    refine zr ?_
    refine zr ?_
    replace h := evT h
    refine zz ?_
    exact ⟨_, zfuel, _, _, _, h, leafFr [0, 4, 5] (by kernel_rfl), by kernel_rfl⟩
   refine zl ?_
   refine zl ?_
   have h_ := gP h; clear h; obtain ⟨c, h⟩ := h_
   refine zl ?_
   refine zl ?_
   replace h := evT h
   refine zz ?_
   exact ⟨_, zfuel, _, _, _, h, leafFr [0, 4, 5] (by kernel_rfl), by kernel_rfl⟩
  clear h; rintro _ _ ⟨k, hle, x0, x4, x5, h, ⟨fr0, rfl⟩, rfl⟩
  rcases k with _ | k
  · exact (run_zero h).elim
  rw [run_succ, spec_DecFront.B] at h
  refine zz ?_
  refine cutJ (n := 46) [] (fun fr hp => ∃ kq, kq ≤ k ∧ ∃ (x0 : ByteArray) (x4 : Int) (x5 : Bool), run spec_DecFront.B kq (.j4 x0 x4 x5) = some (r1, r2) ∧ (∃ fr0, fr = puts [(0, .one (.val (.str x0))), (4, .one (.val (.int .i64 x4))), (5, .one (.val (.bool x5)))] fr0) ∧ hp = (fun _ => none)) ?_ ?_
  ·refine zz ?_
   refine cutJ (n := 200005) [] (fun fr hp => ∃ kq, kq ≤ k ∧ ∃ (x0 : ByteArray) (x4 : Int) (x5 x46 : Bool), run spec_DecFront.B kq (.j3 x0 x4 x5 x46) = some (r1, r2) ∧ (∃ fr0, fr = puts [(0, .one (.val (.str x0))), (4, .one (.val (.int .i64 x4))), (5, .one (.val (.bool x5))), (46, .one (.val (.bool x46)))] fr0) ∧ hp = (fun _ => none)) ?_ ?_
   ·refine zz ?_
    refine br (iP h) ?_ ?_ <;> (clear h; intro c h)
    rotate_left
    ·refine zr ?_
     refine zr ?_
     refine zr ?_
     refine zr ?_
     refine zr ?_
     refine zr ?_
     replace h := evT h
     refine zz ?_
     exact ⟨_, zfuel, _, _, _, _, h, leafFr [0, 4, 5, 46] (by kernel_rfl), by kernel_rfl⟩
    refine zl ?_
    refine zl ?_
    have h_ := gP h; clear h; obtain ⟨c, h⟩ := h_
    refine zl ?_
    refine zl ?_
    refine zz ?_
    refine brW (iP h) ?_ ?_ <;> (clear h; intro c h)
    ·refine zl ?_
     refine zl ?_
     refine zl ?_
     refine zl ?_
     refine zr ?_
     refine zl ?_
     replace h := evT h
     refine zz ?_
     exact ⟨_, zfuel, _, _, _, _, h, leafFr [0, 4, 5, 46] (by kernel_rfl), by kernel_rfl⟩
    refine zr ?_
    refine zr ?_
    refine zr ?_
    refine zl ?_
    refine zl ?_
    refine zl ?_
    replace h := evT h
    refine zz ?_
    exact ⟨_, zfuel, _, _, _, _, h, leafFr [0, 4, 5, 46] (by kernel_rfl), by kernel_rfl⟩
   clear h; rintro _ _ ⟨k, hle, x0, x4, x5, x46, h, ⟨fr0, rfl⟩, rfl⟩
   rcases k with _ | k
   · exact (run_zero h).elim
   rw [run_succ, spec_DecFront.B] at h
   refine zz ?_
   refine br (iP h) ?_ ?_ <;> (clear h; intro c h)
   ·replace h := evT h
    refine zz ?_
    exact ⟨_, zfuel, _, _, _, h, leafFr [0, 4, 5] (by kernel_rfl), by kernel_rfl⟩
   replace h := evT h
   refine zz ?_
   exact ⟨_, zfuel, _, _, _, h, leafFr [0, 4, 5] (by kernel_rfl), by kernel_rfl⟩
  clear h; rintro _ _ ⟨k, hle, x0, x4, x5, h, ⟨fr0, rfl⟩, rfl⟩
  rcases k with _ | k
  · exact (run_zero h).elim
  rw [run_succ, spec_DecFront.B] at h
  replace h := evT h
  refine zz ?_
  refine loopJ [] (fun kq fr hp => ∃ (x0 : ByteArray) (x4 : Int) (x5 : Bool) (x6 x7 : Int), run spec_DecFront.B kq (.l1 x0 x4 x5 x6 x7) = some (r1, r2) ∧ (∃ fr0, fr = puts [(0, .one (.val (.str x0))), (4, .one (.val (.int .i64 x4))), (5, .one (.val (.bool x5))), (6, .one (.val (.int .i64 x6))), (7, .one (.val (.int .i64 x7)))] fr0) ∧ hp = (fun _ => none)) k ⟨_, zfuel, _, _, _, _, _, h, leafFr [0, 4, 5, 6, 7] (by kernel_rfl), by kernel_rfl⟩ ?_
  clear h; rintro k hle _ _ ⟨x0, x4, x5, x6, x7, h, ⟨fr0, rfl⟩, rfl⟩
  rcases k with _ | k
  · exact (run_zero h).elim
  rw [run_succ, spec_DecFront.B] at h
  refine zz ?_
  refine cutJ (n := 200008) [] (fun fr hp => ∃ kq, kq ≤ k ∧ ∃ (x0 : ByteArray) (x4 : Int) (x5 : Bool) (x6 x7 : Int) (x58 : Bool), run spec_DecFront.B kq (.j6 x0 x4 x5 x6 x7 x58) = some (r1, r2) ∧ (∃ fr0, fr = puts [(0, .one (.val (.str x0))), (4, .one (.val (.int .i64 x4))), (5, .one (.val (.bool x5))), (6, .one (.val (.int .i64 x6))), (7, .one (.val (.int .i64 x7))), (58, .one (.val (.bool x58)))] fr0) ∧ hp = (fun _ => none)) ?_ ?_
  ·refine zz ?_
   refine br (iP h) ?_ ?_ <;> (clear h; intro c h)
   rotate_left
   ·refine zr ?_
    refine zr ?_
    refine zr ?_
    refine zr ?_
    replace h := evT h
    refine zz ?_
    exact ⟨_, zfuel, _, _, _, _, _, _, h, leafFr [0, 4, 5, 6, 7, 58] (by kernel_rfl), by kernel_rfl⟩
   refine zl ?_
   refine zl ?_
   have h_ := gP h; clear h; obtain ⟨c, h⟩ := h_
   refine zl ?_
   have h_ := evO h; clear h; obtain ⟨t57, ht, h⟩ := h_
   refine zz ?_
   refine Exists.intro _ (And.intro (spec_l2Digit_ev (h := ht)) ?_)
   refine zl ?_
   replace h := evT h
   refine zz ?_
   exact ⟨_, zfuel, _, _, _, _, _, _, h, leafFr [0, 4, 5, 6, 7, 58] (by kernel_rfl), by kernel_rfl⟩
  clear h; rintro _ _ ⟨k, hle, x0, x4, x5, x6, x7, x58, h, ⟨fr0, rfl⟩, rfl⟩
  rcases k with _ | k
  · exact (run_zero h).elim
  rw [run_succ, spec_DecFront.B] at h
  refine zz ?_
  refine br (iP h) ?_ ?_ <;> (clear h; intro c h)
  ·refine zz ?_
   refine br (iP h) ?_ ?_ <;> (clear h; intro c h)
   rotate_left
   ·replace h := evT h
    refine zz ?_
    exact ⟨_, zfuel, _, _, _, _, _, h, leafFr [0, 4, 5, 6, 7] (by kernel_rfl), by kernel_rfl⟩
   have h_ := gP h; clear h; obtain ⟨c, h⟩ := h_
   have h_ := gP h; clear h; obtain ⟨c, h⟩ := h_
   replace h := evT h
   refine zz ?_
   exact ⟨_, zfuel, _, _, _, _, _, h, leafFr [0, 4, 5, 6, 7] (by kernel_rfl), by kernel_rfl⟩
  refine zz ?_
  refine cutJ (n := 91) [] (fun fr hp => ∃ kq, kq ≤ k ∧ ∃ (x4 : Int) (x5 : Bool) (x6 x7 : Int), run spec_DecFront.B kq (.j9 x4 x5 x6 x7) = some (r1, r2) ∧ (∃ fr0, fr = puts [(4, .one (.val (.int .i64 x4))), (5, .one (.val (.bool x5))), (6, .one (.val (.int .i64 x6))), (7, .one (.val (.int .i64 x7)))] fr0) ∧ hp = (fun _ => none)) ?_ ?_
  ·refine zz ?_
   refine cutJ (n := 200013) [] (fun fr hp => ∃ kq, kq ≤ k ∧ ∃ (x0 : ByteArray) (x4 : Int) (x5 : Bool) (x6 x7 : Int) (x91 : Bool), run spec_DecFront.B kq (.j7 x0 x4 x5 x6 x7 x91) = some (r1, r2) ∧ (∃ fr0, fr = puts [(0, .one (.val (.str x0))), (4, .one (.val (.int .i64 x4))), (5, .one (.val (.bool x5))), (6, .one (.val (.int .i64 x6))), (7, .one (.val (.int .i64 x7))), (91, .one (.val (.bool x91)))] fr0) ∧ hp = (fun _ => none)) ?_ ?_
   ·refine zz ?_
    refine br (iP h) ?_ ?_ <;> (clear h; intro c h)
    rotate_left
    ·refine zr ?_
     refine zr ?_
     refine zr ?_
     refine zr ?_
     refine zr ?_
     refine zr ?_
     refine zr ?_
     refine zr ?_
     refine zr ?_
     refine zr ?_
     replace h := evT h
     refine zz ?_
     exact ⟨_, zfuel, _, _, _, _, _, _, h, leafFr [0, 4, 5, 6, 7, 91] (by kernel_rfl), by kernel_rfl⟩
    refine zl ?_
    refine zl ?_
    have h_ := gP h; clear h; obtain ⟨c, h⟩ := h_
    have h_ := gP h; clear h; obtain ⟨c, h⟩ := h_
    refine zl ?_
    refine zl ?_
    refine zz ?_
    refine br (iP h) ?_ ?_ <;> (clear h; intro c h)
    rotate_left
    ·refine zr ?_
     refine zr ?_
     refine zr ?_
     refine zr ?_
     refine zr ?_
     replace h := evT h
     refine zz ?_
     exact ⟨_, zfuel, _, _, _, _, _, _, h, leafFr [0, 4, 5, 6, 7, 91] (by kernel_rfl), by kernel_rfl⟩
    refine zl ?_
    refine zl ?_
    refine zl ?_
    have h_ := gP h; clear h; obtain ⟨c, h⟩ := h_
    refine zl ?_
    have h_ := evO h; clear h; obtain ⟨t90, ht, h⟩ := h_
    refine zz ?_
    refine Exists.intro _ (And.intro (spec_l2Digit_ev (h := ht)) ?_)
    refine zl ?_
    replace h := evT h
    refine zz ?_
    exact ⟨_, zfuel, _, _, _, _, _, _, h, leafFr [0, 4, 5, 6, 7, 91] (by kernel_rfl), by kernel_rfl⟩
   clear h; rintro _ _ ⟨k, hle, x0, x4, x5, x6, x7, x91, h, ⟨fr0, rfl⟩, rfl⟩
   rcases k with _ | k
   · exact (run_zero h).elim
   rw [run_succ, spec_DecFront.B] at h
   refine zz ?_
   refine br (iP h) ?_ ?_ <;> (clear h; intro c h)
   rotate_left
   ·replace h := evT h
    refine zz ?_
    exact ⟨_, zfuel, _, _, _, _, h, leafFr [4, 5, 6, 7] (by kernel_rfl), by kernel_rfl⟩
   replace h := evT h
   refine zz ?_
   refine loopJ [] (fun kq fr hp => ∃ (x0 : ByteArray) (x4 : Int) (x5 : Bool) (x6 x7 x8 : Int), run spec_DecFront.B kq (.l2 x0 x4 x5 x6 x7 x8) = some (r1, r2) ∧ (∃ fr0, fr = puts [(0, .one (.val (.str x0))), (4, .one (.val (.int .i64 x4))), (5, .one (.val (.bool x5))), (6, .one (.val (.int .i64 x6))), (7, .one (.val (.int .i64 x7))), (8, .one (.val (.int .i64 x8)))] fr0) ∧ hp = (fun _ => none)) k ⟨_, zfuel, _, _, _, _, _, _, h, leafFr [0, 4, 5, 6, 7, 8] (by kernel_rfl), by kernel_rfl⟩ ?_
   clear h; rintro k hle _ _ ⟨x0, x4, x5, x6, x7, x8, h, ⟨fr0, rfl⟩, rfl⟩
   rcases k with _ | k
   · exact (run_zero h).elim
   rw [run_succ, spec_DecFront.B] at h
   refine zz ?_
   refine br (iP h) ?_ ?_ <;> (clear h; intro c h)
   rotate_left
   ·refine zr ?_
    refine zr ?_
    refine zr ?_
    refine zr ?_
    refine zr ?_
    replace h := evT h
    refine zz ?_
    exact ⟨_, zfuel, _, _, _, _, h, leafFr [4, 5, 6, 7] (by kernel_rfl), by kernel_rfl⟩
   refine zl ?_
   refine zl ?_
   have h_ := gP h; clear h; obtain ⟨c, h⟩ := h_
   refine zl ?_
   have h_ := evO h; clear h; obtain ⟨t102, ht, h⟩ := h_
   refine zz ?_
   refine Exists.intro _ (And.intro (spec_l2Digit_ev (h := ht)) ?_)
   refine zl ?_
   refine zz ?_
   refine br (iP h) ?_ ?_ <;> (clear h; intro c h)
   ·replace h := evT h
    refine zz ?_
    exact ⟨_, zfuel, _, _, _, _, _, _, h, leafFr [0, 4, 5, 6, 7, 8] (by kernel_rfl), by kernel_rfl⟩
   replace h := evT h
   refine zz ?_
   exact ⟨_, zfuel, _, _, _, _, h, leafFr [4, 5, 6, 7] (by kernel_rfl), by kernel_rfl⟩
  clear h; rintro _ _ ⟨k, hle, x4, x5, x6, x7, h, ⟨fr0, rfl⟩, rfl⟩
  rcases k with _ | k
  · exact (run_zero h).elim
  rw [run_succ, spec_DecFront.B] at h
  refine zz ?_
  refine cutJ (n := 200021) [] (fun fr hp => ∃ kq, kq ≤ k ∧ ∃ (x4 : Int) (x5 : Bool) (x6 : Int) (x124 : Bool), run spec_DecFront.B kq (.j10 x4 x5 x6 x124) = some (r1, r2) ∧ (∃ fr0, fr = puts [(4, .one (.val (.int .i64 x4))), (5, .one (.val (.bool x5))), (6, .one (.val (.int .i64 x6))), (124, .one (.val (.bool x124)))] fr0) ∧ hp = (fun _ => none)) ?_ ?_
  ·refine zz ?_
   refine brW (iP h) ?_ ?_ <;> (clear h; intro c h)
   ·refine zl ?_
    refine zr ?_
    replace h := evT h
    refine zz ?_
    exact ⟨_, zfuel, _, _, _, _, h, leafFr [4, 5, 6, 124] (by kernel_rfl), by kernel_rfl⟩
   refine zr ?_
   refine zl ?_
   replace h := evT h
   refine zz ?_
   exact ⟨_, zfuel, _, _, _, _, h, leafFr [4, 5, 6, 124] (by kernel_rfl), by kernel_rfl⟩
  clear h; rintro _ _ ⟨k, hle, x4, x5, x6, x124, h, ⟨fr0, rfl⟩, rfl⟩
  rcases k with _ | k
  · exact (run_zero h).elim
  rw [run_succ, spec_DecFront.B] at h
  refine zz ?_
  refine br (iP h) ?_ ?_ <;> (clear h; intro c h)
  ·replace h := evR h; cases h
   refine zz ?_
   exact zend
  refine zz ?_
  refine br (iP h) ?_ ?_ <;> (clear h; intro c h)
  ·replace h := evR h; cases h
   refine zz ?_
   exact zend
  replace h := evR h; cases h
  refine zz ?_
  exact zend
theorem spec_l7Number_ev (a0 : ByteArray) (a1 r1 r2 : Int) (r3 : Bool) (h : spec_l7Number.fv a0 a1 = some (r1, r2, r3)) : CE (G m_) 130 [.val (.str a0), .val (.int .i64 a1)] [] [.val (.int .i64 r1), .val (.int .i64 r2), .val (.bool r3)] [] := by
  obtain ⟨k, h⟩ := lim_ex h
  refine CE.mk ⟨Tryz.f130, _, rfl, rfl, ⟨by kernel_rfl, Nat.le_of_ble_eq_true rfl, Nat.le_of_ble_eq_true rfl⟩, ?_⟩
  rcases k with _ | k
  · exact (run_zero h).elim
  rw [run_succ, spec_l7Number.B] at h
  refine zz ?_
  refine cutJ (n := 100000) [] (fun fr hp => ∃ kq, kq ≤ k ∧ ∃ (x0 : ByteArray) (x1 x7 : Int), run spec_l7Number.B kq (.j1 x0 x1 x7) = some (r1, r2, r3) ∧ (∃ fr0, fr = puts [(0, .one (.val (.str x0))), (1, .one (.val (.int .i64 x1))), (7, .one (.val (.int .i64 x7)))] fr0) ∧ hp = (fun _ => none)) ?_ ?_
  ·replace h := evT h
   refine zz ?_
   refine loopJ [] (fun kq fr hp => ∃ (x0 : ByteArray) (x1 x7 : Int), run spec_l7Number.B kq (.l0 x0 x1 x7) = some (r1, r2, r3) ∧ (∃ fr0, fr = puts [(0, .one (.val (.str x0))), (1, .one (.val (.int .i64 x1))), (7, .one (.val (.int .i64 x7)))] fr0) ∧ hp = (fun _ => none)) k ⟨_, zfuel, _, _, _, h, leafFr [0, 1, 7] (by kernel_rfl), by kernel_rfl⟩ ?_
   clear h; rintro k hle _ _ ⟨x0, x1, x7, h, ⟨fr0, rfl⟩, rfl⟩
   rcases k with _ | k
   · exact (run_zero h).elim
   rw [run_succ, spec_l7Number.B] at h
   refine zz ?_
   refine br (iP h) ?_ ?_ <;> (clear h; intro c h)
   rotate_left
   ·refine zr ?_
    refine zr ?_
    refine zr ?_
    refine zr ?_
    refine zr ?_
    replace h := evT h
    refine zz ?_
    exact ⟨_, zfuel, _, _, _, h, leafFr [0, 1, 7] (by kernel_rfl), by kernel_rfl⟩
   refine zl ?_
   refine zl ?_
   have h_ := gP h; clear h; obtain ⟨c, h⟩ := h_
   refine zl ?_
   have h_ := evO h; clear h; obtain ⟨t20, ht, h⟩ := h_
   refine zz ?_
   refine Exists.intro _ (And.intro (spec_l2Digit_ev (h := ht)) ?_)
   refine zl ?_
   refine zz ?_
   refine br (iP h) ?_ ?_ <;> (clear h; intro c h)
   ·replace h := evT h
    refine zz ?_
    exact ⟨_, zfuel, _, _, _, h, leafFr [0, 1, 7] (by kernel_rfl), by kernel_rfl⟩
   replace h := evT h
   refine zz ?_
   exact ⟨_, zfuel, _, _, _, h, leafFr [0, 1, 7] (by kernel_rfl), by kernel_rfl⟩
  clear h; rintro _ _ ⟨k, hle, x0, x1, x7, h, ⟨fr0, rfl⟩, rfl⟩
  rcases k with _ | k
  · exact (run_zero h).elim
  rw [run_succ, spec_l7Number.B] at h
  refine zz ?_
  refine cutJ (n := 200004) [] (fun fr hp => ∃ kq, kq ≤ k ∧ ∃ (x0 : ByteArray) (x1 x7 : Int) (x41 : Bool), run spec_l7Number.B kq (.j2 x0 x1 x7 x41) = some (r1, r2, r3) ∧ (∃ fr0, fr = puts [(0, .one (.val (.str x0))), (1, .one (.val (.int .i64 x1))), (7, .one (.val (.int .i64 x7))), (41, .one (.val (.bool x41)))] fr0) ∧ hp = (fun _ => none)) ?_ ?_
  ·refine zz ?_
   refine br (iP h) ?_ ?_ <;> (clear h; intro c h)
   rotate_left
   ·refine zr ?_
    refine zr ?_
    refine zr ?_
    refine zr ?_
    refine zr ?_
    refine zr ?_
    refine zr ?_
    refine zr ?_
    refine zr ?_
    refine zr ?_
    replace h := evT h
    refine zz ?_
    exact ⟨_, zfuel, _, _, _, _, h, leafFr [0, 1, 7, 41] (by kernel_rfl), by kernel_rfl⟩
   refine zl ?_
   refine zl ?_
   have h_ := gP h; clear h; obtain ⟨c, h⟩ := h_
   have h_ := gP h; clear h; obtain ⟨c, h⟩ := h_
   refine zl ?_
   refine zl ?_
   refine zz ?_
   refine br (iP h) ?_ ?_ <;> (clear h; intro c h)
   rotate_left
   ·refine zr ?_
    refine zr ?_
    refine zr ?_
    refine zr ?_
    refine zr ?_
    replace h := evT h
    refine zz ?_
    exact ⟨_, zfuel, _, _, _, _, h, leafFr [0, 1, 7, 41] (by kernel_rfl), by kernel_rfl⟩
   refine zl ?_
   refine zl ?_
   refine zl ?_
   have h_ := gP h; clear h; obtain ⟨c, h⟩ := h_
   refine zl ?_
   have h_ := evO h; clear h; obtain ⟨t40, ht, h⟩ := h_
   refine zz ?_
   refine Exists.intro _ (And.intro (spec_l2Digit_ev (h := ht)) ?_)
   refine zl ?_
   replace h := evT h
   refine zz ?_
   exact ⟨_, zfuel, _, _, _, _, h, leafFr [0, 1, 7, 41] (by kernel_rfl), by kernel_rfl⟩
  clear h; rintro _ _ ⟨k, hle, x0, x1, x7, x41, h, ⟨fr0, rfl⟩, rfl⟩
  rcases k with _ | k
  · exact (run_zero h).elim
  rw [run_succ, spec_l7Number.B] at h
  refine zz ?_
  refine br (iP h) ?_ ?_ <;> (clear h; intro c h)
  rotate_left
  ·have h_ := gP h; clear h; obtain ⟨c, h⟩ := h_
   have h_ := gP h; clear h; obtain ⟨c, h⟩ := h_
   have h_ := gP h; clear h; obtain ⟨c, h⟩ := h_
   have h_ := gP h; clear h; obtain ⟨c, h⟩ := h_
   have h_ := evO h; clear h; obtain ⟨t67, ht, h⟩ := h_
   refine zz ?_
   refine Exists.intro _ (And.intro (spec_DecFront_ev (h := ht)) ?_)
   replace h := evR h; cases h
   refine zz ?_
   exact zend
  replace h := evT h
  refine zz ?_
  refine loopJ [] (fun kq fr hp => ∃ (x0 : ByteArray) (x1 x7 x8 : Int), run spec_l7Number.B kq (.l1 x0 x1 x7 x8) = some (r1, r2, r3) ∧ (∃ fr0, fr = puts [(0, .one (.val (.str x0))), (1, .one (.val (.int .i64 x1))), (7, .one (.val (.int .i64 x7))), (8, .one (.val (.int .i64 x8)))] fr0) ∧ hp = (fun _ => none)) k ⟨_, zfuel, _, _, _, _, h, leafFr [0, 1, 7, 8] (by kernel_rfl), by kernel_rfl⟩ ?_
  clear h; rintro k hle _ _ ⟨x0, x1, x7, x8, h, ⟨fr0, rfl⟩, rfl⟩
  rcases k with _ | k
  · exact (run_zero h).elim
  rw [run_succ, spec_l7Number.B] at h
  refine zz ?_
  refine br (iP h) ?_ ?_ <;> (clear h; intro c h)
  rotate_left
  ·refine zr ?_
   refine zr ?_
   refine zr ?_
   refine zr ?_
   refine zr ?_
   refine zz ?_
   refine br (iP h) ?_ ?_ <;> (clear h; intro c h)
   ·replace h := evR h; cases h
    refine zz ?_
    exact zend
   have h_ := gP h; clear h; obtain ⟨c, h⟩ := h_
   have h_ := gP h; clear h; obtain ⟨c, h⟩ := h_
   have h_ := gP h; clear h; obtain ⟨c, h⟩ := h_
   have h_ := gP h; clear h; obtain ⟨c, h⟩ := h_
   have h_ := evO h; clear h; obtain ⟨t67, ht, h⟩ := h_
   refine zz ?_
   refine Exists.intro _ (And.intro (spec_DecFront_ev (h := ht)) ?_)
   replace h := evR h; cases h
   refine zz ?_
   exact zend
  refine zl ?_
  refine zl ?_
  have h_ := gP h; clear h; obtain ⟨c, h⟩ := h_
  refine zl ?_
  have h_ := evO h; clear h; obtain ⟨t53, ht, h⟩ := h_
  refine zz ?_
  refine Exists.intro _ (And.intro (spec_l2Digit_ev (h := ht)) ?_)
  refine zl ?_
  refine zz ?_
  refine br (iP h) ?_ ?_ <;> (clear h; intro c h)
  ·replace h := evT h
   refine zz ?_
   exact ⟨_, zfuel, _, _, _, _, h, leafFr [0, 1, 7, 8] (by kernel_rfl), by kernel_rfl⟩
  refine zz ?_
  refine br (iP h) ?_ ?_ <;> (clear h; intro c h)
  ·replace h := evR h; cases h
   refine zz ?_
   exact zend
  have h_ := gP h; clear h; obtain ⟨c, h⟩ := h_
  have h_ := gP h; clear h; obtain ⟨c, h⟩ := h_
  have h_ := gP h; clear h; obtain ⟨c, h⟩ := h_
  have h_ := evO h; clear h; obtain ⟨t67, ht, h⟩ := h_
  refine zz ?_
  refine Exists.intro _ (And.intro (spec_DecFront_ev (h := ht)) ?_)
  replace h := evR h; cases h
  refine zz ?_
  exact zend
theorem spec_l7Text_ev (a0 : ByteArray) (a1 : Int) (r1 : ByteArray) (r2 : Int) (r3 : Bool) (h : spec_l7Text.fv a0 a1 = some (r1, r2, r3)) : CE (G m_) 131 [.val (.str a0), .val (.int .i64 a1)] [] [.val (.str r1), .val (.int .i64 r2), .val (.bool r3)] [] := by
  obtain ⟨k, h⟩ := lim_ex h
  refine CE.mk ⟨Tryz.f131, _, rfl, rfl, ⟨by kernel_rfl, Nat.le_of_ble_eq_true rfl, Nat.le_of_ble_eq_true rfl⟩, ?_⟩
  rcases k with _ | k
  · exact (run_zero h).elim
  rw [run_succ, spec_l7Text.B] at h
  refine zz ?_
  refine Exists.intro (List.map (VV.int .u8) ([] : List Int)) (And.intro zrow ?_)
  replace h := evT h
  refine zz ?_
  refine loopJ [528] (fun kq fr hp => ∃ (x0 : ByteArray) (x7 : List Int) (x8 : Int) (g528 : Nat), run spec_l7Text.B kq (.l0 x0 x7 x8) = some (r1, r2, r3) ∧ (∃ fr0, fr = puts [(0, .one (.val (.str x0))), (7, .one (.ref 528 g528)), (8, .one (.val (.int .i64 x8)))] fr0) ∧ hp = (upd 528 (.own 5 1 (x7.map (VV.int .u8)) g528 false) (fun _ => none))) k ⟨_, zfuel, _, _, _, 0, h, leafFr [0, 7, 8] (by kernel_rfl), by kernel_rfl⟩ ?_
  clear h; rintro k hle _ _ ⟨x0, x7, x8, g528, h, ⟨fr0, rfl⟩, rfl⟩
  rcases k with _ | k
  · exact (run_zero h).elim
  rw [run_succ, spec_l7Text.B] at h
  refine zz ?_
  refine br (iP h) ?_ ?_ <;> (clear h; intro c h)
  rotate_left
  ·replace h := evR h; cases h
   refine zz ?_
   exact zend
  have h_ := gP h; clear h; obtain ⟨c, h⟩ := h_
  refine zz ?_
  refine br (iP h) ?_ ?_ <;> (clear h; intro c h)
  ·replace h := evR h; cases h
   refine zz ?_
   exact zend
  refine zz ?_
  refine br (iP h) ?_ ?_ <;> (clear h; intro c h)
  ·replace h := evR h; cases h
   refine zz ?_
   exact zend
  refine zz ?_
  refine br (iP h) ?_ ?_ <;> (clear h; intro c h)
  rotate_left
  ·refine zz ?_
   refine Exists.intro (List.map (VV.int .u8) ([(bt x0 x8)] : List Int)) (And.intro zrow ?_)
   have h_ := gP h; clear h; obtain ⟨c, h⟩ := h_
   refine zz ?_
   refine Exists.intro (List.map (VV.int .u8) (x7 ++ [(bt x0 x8)])) (And.intro zrow ?_)
   replace h := evT h
   refine zz ?_
   exact ⟨_, zfuel, _, _, _, (g528 + 1), h, leafFr [0, 7, 8] (by kernel_rfl), by kernel_rfl⟩
  refine zz ?_
  refine brW (iP h) ?_ ?_ <;> (clear h; intro c h)
  rotate_left
  ·refine zr ?_
   refine zr ?_
   refine zr ?_
   refine zl ?_
   refine zl ?_
   replace h := evR h; cases h
   refine zz ?_
   exact zend
  refine zl ?_
  refine zl ?_
  have h_ := gP h; clear h; obtain ⟨c, h⟩ := h_
  have h_ := gP h; clear h; obtain ⟨c, h⟩ := h_
  refine zl ?_
  refine zr ?_
  refine zz ?_
  refine br (iP h) ?_ ?_ <;> (clear h; intro c h)
  ·replace h := evR h; cases h
   refine zz ?_
   exact zend
  refine zz ?_
  refine Exists.intro (List.map (VV.int .u8) ([(bt x0 (wrap64 (x8 + 1)))] : List Int)) (And.intro zrow ?_)
  have h_ := gP h; clear h; obtain ⟨c, h⟩ := h_
  refine zz ?_
  refine Exists.intro (List.map (VV.int .u8) (x7 ++ [(bt x0 (wrap64 (x8 + 1)))])) (And.intro zrow ?_)
  replace h := evT h
  refine zz ?_
  exact ⟨_, zfuel, _, _, _, (g528 + 1), h, leafFr [0, 7, 8] (by kernel_rfl), by kernel_rfl⟩
theorem spec_l1In_ev (a0 a1 a2 : Int) (r : Bool) (h : spec_l1In.f a0 a1 a2 = some r) : CE (G m_) 18 [.val (.int .i64 a0), .val (.int .i64 a1), .val (.int .i64 a2)] [] [.val (.bool r)] [] := by
  refine CE.mk ⟨Tryz.f18, _, rfl, rfl, ⟨by kernel_rfl, Nat.le_of_ble_eq_true rfl, Nat.le_of_ble_eq_true rfl⟩, ?_⟩
  rw [spec_l1In.f] at h
  refine zz ?_
  refine br (iteS h) ?_ ?_ <;> (clear h; intro c h)
  ·refine zl ?_
   refine zl ?_
   refine zl ?_
   cases h
   refine zz ?_
   exact zend
  refine zr ?_
  refine zr ?_
  refine zr ?_
  cases h
  refine zz ?_
  exact zend
theorem spec_l7After_ev (l0 : List S126) (r : Bool) (h : spec_l7After.f l0 = some r) : CE (G m_) 132 [.val (.row (l0.map e126))] [] [.val (.bool r)] [] := by
  refine CE.mk ⟨Tryz.f132, _, rfl, rfl, ⟨by kernel_rfl, Nat.le_of_ble_eq_true rfl, Nat.le_of_ble_eq_true rfl⟩, ?_⟩
  rw [spec_l7After.f] at h
  refine zz ?_
  refine br (iteS h) ?_ ?_ <;> (clear h; intro c h)
  ·cases h
   refine zz ?_
   exact zend
  have h_ := gS h; clear h; obtain ⟨c, h⟩ := h_
  have h_ := gS h; clear h; obtain ⟨c, h⟩ := h_
  refine zz ?_
  refine br (iteS h) ?_ ?_ <;> (clear h; intro c h)
  rotate_left
  ·refine zr ?_
   refine zr ?_
   refine zr ?_
   refine zr ?_
   refine zr ?_
   refine zl ?_
   refine zl ?_
   refine zl ?_
   have h_ := oS h; clear h; obtain ⟨t29, ht, h⟩ := h_
   refine zz ?_
   refine Exists.intro _ (And.intro (spec_l1In_ev (h := ht)) ?_)
   refine zr ?_
   cases h
   refine zz ?_
   exact zend
  refine zl ?_
  refine zl ?_
  refine zl ?_
  refine zz ?_
  refine brW (iteS h) ?_ ?_ <;> (clear h; intro c h)
  rotate_left
  ·refine zr ?_
   refine zr ?_
   refine zl ?_
   refine zl ?_
   refine zl ?_
   refine zr ?_
   refine zr ?_
   refine zr ?_
   refine zl ?_
   cases h
   refine zz ?_
   exact zend
  refine zl ?_
  refine zl ?_
  refine zl ?_
  refine zr ?_
  refine zl ?_
  refine zz ?_
  refine brW (iteS h) ?_ ?_ <;> (clear h; intro c h)
  rotate_left
  ·refine zr ?_
   refine zr ?_
   refine zl ?_
   cases h
   refine zz ?_
   exact zend
  refine zl ?_
  refine zl ?_
  have h_ := oS h; clear h; obtain ⟨t29, ht, h⟩ := h_
  refine zz ?_
  refine Exists.intro _ (And.intro (spec_l1In_ev (h := ht)) ?_)
  refine zr ?_
  cases h
  refine zz ?_
  exact zend
theorem spec_l7Rex_ev (a0 : ByteArray) (a1 : Int) (r1 : ByteArray) (r2 : Int) (r3 : Bool) (h : spec_l7Rex.fv a0 a1 = some (r1, r2, r3)) : CE (G m_) 133 [.val (.str a0), .val (.int .i64 a1)] [] [.val (.str r1), .val (.int .i64 r2), .val (.bool r3)] [] := by
  obtain ⟨k, h⟩ := lim_ex h
  refine CE.mk ⟨Tryz.f133, _, rfl, rfl, ⟨by kernel_rfl, Nat.le_of_ble_eq_true rfl, Nat.le_of_ble_eq_true rfl⟩, ?_⟩
  rcases k with _ | k
  · exact (run_zero h).elim
  rw [run_succ, spec_l7Rex.B] at h
  refine zz ?_
  refine Exists.intro (List.map (VV.int .u8) ([] : List Int)) (And.intro zrow ?_)
  replace h := evT h
  refine zz ?_
  refine loopJ [528] (fun kq fr hp => ∃ (x0 : ByteArray) (x7 : List Int) (x8 : Int) (g528 : Nat), run spec_l7Rex.B kq (.l0 x0 x7 x8) = some (r1, r2, r3) ∧ (∃ fr0, fr = puts [(0, .one (.val (.str x0))), (7, .one (.ref 528 g528)), (8, .one (.val (.int .i64 x8)))] fr0) ∧ hp = (upd 528 (.own 5 1 (x7.map (VV.int .u8)) g528 false) (fun _ => none))) k ⟨_, zfuel, _, _, _, 0, h, leafFr [0, 7, 8] (by kernel_rfl), by kernel_rfl⟩ ?_
  clear h; rintro k hle _ _ ⟨x0, x7, x8, g528, h, ⟨fr0, rfl⟩, rfl⟩
  rcases k with _ | k
  · exact (run_zero h).elim
  rw [run_succ, spec_l7Rex.B] at h
  refine zz ?_
  refine br (iP h) ?_ ?_ <;> (clear h; intro c h)
  rotate_left
  ·replace h := evR h; cases h
   refine zz ?_
   exact zend
  have h_ := gP h; clear h; obtain ⟨c, h⟩ := h_
  refine zz ?_
  refine br (iP h) ?_ ?_ <;> (clear h; intro c h)
  ·replace h := evR h; cases h
   refine zz ?_
   exact zend
  refine zz ?_
  refine br (iP h) ?_ ?_ <;> (clear h; intro c h)
  ·replace h := evR h; cases h
   refine zz ?_
   exact zend
  refine zz ?_
  refine br (iP h) ?_ ?_ <;> (clear h; intro c h)
  rotate_left
  ·refine zz ?_
   refine Exists.intro (List.map (VV.int .u8) ([(bt x0 x8)] : List Int)) (And.intro zrow ?_)
   have h_ := gP h; clear h; obtain ⟨c, h⟩ := h_
   refine zz ?_
   refine Exists.intro (List.map (VV.int .u8) (x7 ++ [(bt x0 x8)])) (And.intro zrow ?_)
   replace h := evT h
   refine zz ?_
   exact ⟨_, zfuel, _, _, _, (g528 + 1), h, leafFr [0, 7, 8] (by kernel_rfl), by kernel_rfl⟩
  refine zz ?_
  refine cutJ (n := 200011) [528] (fun fr hp => ∃ kq, kq ≤ k ∧ ∃ (x0 : ByteArray) (x7 : List Int) (x8 : Int) (x42 : Bool) (g528 : Nat), run spec_l7Rex.B kq (.j1 x0 x7 x8 x42) = some (r1, r2, r3) ∧ (∃ fr0, fr = puts [(0, .one (.val (.str x0))), (7, .one (.ref 528 g528)), (8, .one (.val (.int .i64 x8))), (42, .one (.val (.bool x42)))] fr0) ∧ hp = (upd 528 (.own 5 1 (x7.map (VV.int .u8)) g528 false) (fun _ => none))) ?_ ?_
  ·refine zz ?_
   refine brW (iP h) ?_ ?_ <;> (clear h; intro c h)
   rotate_left
   ·refine zr ?_
    refine zr ?_
    refine zr ?_
    refine zr ?_
    refine zl ?_
    replace h := evT h
    refine zz ?_
    exact ⟨_, zfuel, _, _, _, _, g528, h, leafFr [0, 7, 8, 42] (by kernel_rfl), by kernel_rfl⟩
   refine zl ?_
   refine zl ?_
   refine zl ?_
   have h_ := gP h; clear h; obtain ⟨c, h⟩ := h_
   have h_ := gP h; clear h; obtain ⟨c, h⟩ := h_
   refine zl ?_
   refine zr ?_
   replace h := evT h
   refine zz ?_
   exact ⟨_, zfuel, _, _, _, _, g528, h, leafFr [0, 7, 8, 42] (by kernel_rfl), by kernel_rfl⟩
  clear h; rintro _ _ ⟨k, hle, x0, x7, x8, x42, g528, h, ⟨fr0, rfl⟩, rfl⟩
  rcases k with _ | k
  · exact (run_zero h).elim
  rw [run_succ, spec_l7Rex.B] at h
  refine zz ?_
  refine br (iP h) ?_ ?_ <;> (clear h; intro c h)
  ·replace h := evR h; cases h
   refine zz ?_
   exact zend
  have h_ := gP h; clear h; obtain ⟨c, h⟩ := h_
  have h_ := gP h; clear h; obtain ⟨c, h⟩ := h_
  refine zz ?_
  refine brN (iP h) ?_ ?_ <;> (clear h; intro c h)
  rotate_left
  ·refine zz ?_
   refine Exists.intro (List.map (VV.int .u8) ([(bt x0 (wrap64 (x8 + 1)))] : List Int)) (And.intro zrow ?_)
   have h_ := gP h; clear h; obtain ⟨c, h⟩ := h_
   refine zz ?_
   refine Exists.intro (List.map (VV.int .u8) (x7 ++ [(bt x0 (wrap64 (x8 + 1)))])) (And.intro zrow ?_)
   replace h := evT h
   refine zz ?_
   exact ⟨_, zfuel, _, _, _, (g528 + 1), h, leafFr [0, 7, 8] (by kernel_rfl), by kernel_rfl⟩
  have h_ := gP h; clear h; obtain ⟨c, h⟩ := h_
  have h_ := gP h; clear h; obtain ⟨c, h⟩ := h_
  refine zz ?_
  refine Exists.intro (List.map (VV.int .u8) ([(bt x0 x8)] : List Int)) (And.intro zrow ?_)
  have h_ := gP h; clear h; obtain ⟨c, h⟩ := h_
  refine zz ?_
  refine Exists.intro (List.map (VV.int .u8) (x7 ++ [(bt x0 x8)])) (And.intro zrow ?_)
  refine zz ?_
  refine Exists.intro (List.map (VV.int .u8) ([(bt x0 (wrap64 (x8 + 1)))] : List Int)) (And.intro zrow ?_)
  have h_ := gP h; clear h; obtain ⟨c, h⟩ := h_
  refine zz ?_
  refine Exists.intro (List.map (VV.int .u8) ((x7 ++ [(bt x0 x8)]) ++ [(bt x0 (wrap64 (x8 + 1)))])) (And.intro zrow ?_)
  replace h := evT h
  refine zz ?_
  exact ⟨_, zfuel, _, _, _, (g528 + 1 + 1), h, leafFr [0, 7, 8] (by kernel_rfl), by kernel_rfl⟩
theorem spec_l7Sign_ev (a0 : ByteArray) (a1 : Int) (r : ByteArray) (h : spec_l7Sign.fv a0 a1 = some r) : CE (G m_) 134 [.val (.str a0), .val (.int .i64 a1)] [] [.val (.str r)] [] := by
  obtain ⟨k, h⟩ := lim_ex h
  refine CE.mk ⟨Tryz.f134, _, rfl, rfl, ⟨by kernel_rfl, Nat.le_of_ble_eq_true rfl, Nat.le_of_ble_eq_true rfl⟩, ?_⟩
  rcases k with _ | k
  · exact (run_zero h).elim
  rw [run_succ, spec_l7Sign.B] at h
  have h_ := evO h; clear h; obtain ⟨y1_0, hy, h⟩ := h_
  refine zz ?_
  refine Exists.intro (y1_0.map VV.str) (And.intro (by rw [← Option.some.inj hy]; exact zrow) ?_)
  replace h := evT h
  refine zz ?_
  refine loopJ [528] (fun kq fr hp => ∃ (x0 : ByteArray) (x1 : Int) (x5 : List ByteArray) (x6 : Int) (g528 : Nat), run spec_l7Sign.B kq (.l0 x0 x1 x5 x6) = some r ∧ (∃ fr0, fr = puts [(0, .one (.val (.str x0))), (1, .one (.val (.int .i64 x1))), (5, .one (.ref 528 g528)), (6, .one (.val (.int .i64 x6)))] fr0) ∧ hp = (upd 528 (.own 9 1 (x5.map VV.str) g528 false) (fun _ => none))) k ⟨_, zfuel, _, _, _, _, 0, h, leafFr [0, 1, 5, 6] (by kernel_rfl), by kernel_rfl⟩ ?_
  clear h; rintro k hle _ _ ⟨x0, x1, x5, x6, g528, h, ⟨fr0, rfl⟩, rfl⟩
  rcases k with _ | k
  · exact (run_zero h).elim
  rw [run_succ, spec_l7Sign.B] at h
  refine zz ?_
  refine br (iP h) ?_ ?_ <;> (clear h; intro c h)
  rotate_left
  ·replace h := evR h; cases h
   refine zz ?_
   exact zend
  have h_ := gP h; clear h; obtain ⟨c, h⟩ := h_
  refine zz ?_
  refine br (iP h) ?_ ?_ <;> (clear h; intro c h)
  rotate_left
  ·refine zr ?_
   refine zr ?_
   refine zr ?_
   refine zr ?_
   refine zr ?_
   refine zr ?_
   refine zr ?_
   refine zr ?_
   refine zr ?_
   refine zr ?_
   refine zr ?_
   refine zr ?_
   replace h := evT h
   refine zz ?_
   exact ⟨_, zfuel, _, _, _, _, g528, h, leafFr [0, 1, 5, 6] (by kernel_rfl), by kernel_rfl⟩
  refine zl ?_
  refine zl ?_
  refine zl ?_
  refine zl ?_
  refine zl ?_
  have h_ := gP h; clear h; obtain ⟨c, h⟩ := h_
  have h_ := gP h; clear h; obtain ⟨c, h⟩ := h_
  have h_ := gP h; clear h; obtain ⟨c, h⟩ := h_
  refine zl ?_
  refine zl ?_
  refine zl ?_
  refine zl ?_
  refine zl ?_
  refine zl ?_
  refine zz ?_
  refine br (iP h) ?_ ?_ <;> (clear h; intro c h)
  ·replace h := evR h; cases h
   refine zz ?_
   exact zend
  replace h := evT h
  refine zz ?_
  exact ⟨_, zfuel, _, _, _, _, g528, h, leafFr [0, 1, 5, 6] (by kernel_rfl), by kernel_rfl⟩
theorem spec_l7One_ev (a0 : ByteArray) (a1 : Int) (l2 : List S126) (r1 : Int) (r2 : ByteArray) (r3 r4 r5 : Int) (r6 : Bool) (h : spec_l7One.fv a0 a1 l2 = some (r1, r2, r3, r4, r5, r6)) : CE (G m_) 109 [.val (.str a0), .val (.int .i64 a1), .val (.row (l2.map e126))] [] [.val (.agg [.int .i64 r1, .str r2, .int .i64 r3, .int .i64 r4]), .val (.int .i64 r5), .val (.bool r6)] [] := by
  obtain ⟨k, h⟩ := lim_ex h
  refine CE.mk ⟨Tryz.f109, _, rfl, rfl, ⟨by kernel_rfl, Nat.le_of_ble_eq_true rfl, Nat.le_of_ble_eq_true rfl⟩, ?_⟩
  rcases k with _ | k
  · exact (run_zero h).elim
  rw [run_succ, spec_l7One.B] at h
  have h_ := gP h; clear h; obtain ⟨c, h⟩ := h_
  have h_ := gP h; clear h; obtain ⟨c, h⟩ := h_
  have h_ := evO h; clear h; obtain ⟨t26, ht, h⟩ := h_
  refine zz ?_
  refine Exists.intro _ (And.intro (spec_l7Letter_ev (h := ht)) ?_)
  refine zz ?_
  refine br (iP h) ?_ ?_ <;> (clear h; intro c h)
  ·replace h := evT h
   refine zz ?_
   refine loopJ [16] (fun kq fr hp => ∃ (x0 : ByteArray) (x1 x10 : Int), run spec_l7One.B kq (.l0 x0 x1 x10) = some (r1, r2, r3, r4, r5, r6) ∧ (∃ fr0, fr = puts [(0, .one (.val (.str x0))), (1, .one (.val (.int .i64 x1))), (6, .one (.ptr 16 0)), (10, .one (.val (.int .i64 x10)))] fr0) ∧ hp = (upd 16 (.box [.val (.int .i64 0), .val (.str (⟨#[]⟩ : ByteArray)), .val (.int .i64 0), .val (.int .i64 0)]) (fun _ => none))) k ⟨_, zfuel, _, _, _, h, leafFr [0, 1, 6, 10] (by kernel_rfl), by kernel_rfl⟩ ?_
   clear h; rintro k hle _ _ ⟨x0, x1, x10, h, ⟨fr0, rfl⟩, rfl⟩
   rcases k with _ | k
   · exact (run_zero h).elim
   rw [run_succ, spec_l7One.B] at h
   refine zz ?_
   refine br (iP h) ?_ ?_ <;> (clear h; intro c h)
   rotate_left
   ·refine zr ?_
    refine zr ?_
    refine zr ?_
    refine zr ?_
    refine zr ?_
    have h_ := gP h; clear h; obtain ⟨c, h⟩ := h_
    have h_ := gP h; clear h; obtain ⟨c, h⟩ := h_
    have h_ := gP h; clear h; obtain ⟨c, h⟩ := h_
    have h_ := gP h; clear h; obtain ⟨c, h⟩ := h_
    replace h := evR h; cases h
    refine zz ?_
    exact zend
   refine zl ?_
   refine zl ?_
   have h_ := gP h; clear h; obtain ⟨c, h⟩ := h_
   refine zl ?_
   have h_ := evO h; clear h; obtain ⟨t36, ht, h⟩ := h_
   refine zz ?_
   refine Exists.intro _ (And.intro (spec_l7Letter_ev (h := ht)) ?_)
   refine zl ?_
   refine zz ?_
   refine br (iP h) ?_ ?_ <;> (clear h; intro c h)
   ·replace h := evT h
    refine zz ?_
    exact ⟨_, zfuel, _, _, _, h, leafFr [0, 1, 6, 10] (by kernel_rfl), by kernel_rfl⟩
   have h_ := gP h; clear h; obtain ⟨c, h⟩ := h_
   have h_ := gP h; clear h; obtain ⟨c, h⟩ := h_
   have h_ := gP h; clear h; obtain ⟨c, h⟩ := h_
   replace h := evR h; cases h
   refine zz ?_
   exact zend
  have h_ := evO h; clear h; obtain ⟨t53, ht, h⟩ := h_
  refine zz ?_
  refine Exists.intro _ (And.intro (spec_l2Digit_ev (h := ht)) ?_)
  refine zz ?_
  refine br (iP h) ?_ ?_ <;> (clear h; intro c h)
  ·have h_ := evO h; clear h; obtain ⟨t57, ht, h⟩ := h_
   refine zz ?_
   refine Exists.intro _ (And.intro (spec_l7Number_ev (h := ht)) ?_)
   replace h := evR h; cases h
   refine zz ?_
   exact zend
  refine zz ?_
  refine br (iP h) ?_ ?_ <;> (clear h; intro c h)
  ·have h_ := evO h; clear h; obtain ⟨t72, ht, h⟩ := h_
   refine zz ?_
   refine Exists.intro _ (And.intro (spec_l7Text_ev (h := ht)) ?_)
   replace h := evR h; cases h
   refine zz ?_
   exact zend
  refine zz ?_
  refine cutJ (n := 200013) [16] (fun fr hp => ∃ kq, kq ≤ k ∧ ∃ (x0 : ByteArray) (x1 : Int) (x81 : Bool), run spec_l7One.B kq (.j1 x0 x1 x81) = some (r1, r2, r3, r4, r5, r6) ∧ (∃ fr0, fr = puts [(0, .one (.val (.str x0))), (1, .one (.val (.int .i64 x1))), (6, .one (.ptr 16 0)), (81, .one (.val (.bool x81)))] fr0) ∧ hp = (upd 16 (.box [.val (.int .i64 0), .val (.str (⟨#[]⟩ : ByteArray)), .val (.int .i64 0), .val (.int .i64 0)]) (fun _ => none))) ?_ ?_
  ·refine zz ?_
   refine br (iP h) ?_ ?_ <;> (clear h; intro c h)
   rotate_left
   ·refine zr ?_
    refine zr ?_
    refine zr ?_
    replace h := evT h
    refine zz ?_
    exact ⟨_, zfuel, _, _, _, h, leafFr [0, 1, 6, 81] (by kernel_rfl), by kernel_rfl⟩
   refine zl ?_
   have h_ := evO h; clear h; obtain ⟨t86, ht, h⟩ := h_
   refine zz ?_
   refine Exists.intro _ (And.intro (spec_l7After_ev (h := ht)) ?_)
   refine zl ?_
   refine zl ?_
   replace h := evT h
   refine zz ?_
   exact ⟨_, zfuel, _, _, _, h, leafFr [0, 1, 6, 81] (by kernel_rfl), by kernel_rfl⟩
  clear h; rintro _ _ ⟨k, hle, x0, x1, x81, h, ⟨fr0, rfl⟩, rfl⟩
  rcases k with _ | k
  · exact (run_zero h).elim
  rw [run_succ, spec_l7One.B] at h
  refine zz ?_
  refine br (iP h) ?_ ?_ <;> (clear h; intro c h)
  ·have h_ := evO h; clear h; obtain ⟨t92, ht, h⟩ := h_
   refine zz ?_
   refine Exists.intro _ (And.intro (spec_l7Rex_ev (h := ht)) ?_)
   replace h := evR h; cases h
   refine zz ?_
   exact zend
  have h_ := evO h; clear h; obtain ⟨t103, ht, h⟩ := h_
  refine zz ?_
  refine Exists.intro _ (And.intro (spec_l7Sign_ev (h := ht)) ?_)
  replace h := evR h; cases h
  refine zz ?_
  exact zend
theorem spec_Tokens_ev (a0 : ByteArray) (r1 : List S126) (r2 : Int) (h : spec_Tokens.fv a0 = some (r1, r2)) : CE (G m_) 83 [.val (.str a0)] [] [.val (.row (r1.map e126)), .val (.int .i64 r2)] [] := by
  obtain ⟨k, h⟩ := lim_ex h
  refine CE.mk ⟨Tryz.f83, _, rfl, rfl, ⟨by kernel_rfl, Nat.le_of_ble_eq_true rfl, Nat.le_of_ble_eq_true rfl⟩, ?_⟩
  rcases k with _ | k
  · exact (run_zero h).elim
  rw [run_succ, spec_Tokens.B] at h
  refine zz ?_
  refine Exists.intro (List.map e126 ([] : List S126)) (And.intro zrow ?_)
  refine zz ?_
  refine br (iP h) ?_ ?_ <;> (clear h; intro c h)
  ·replace h := evR h; cases h
   refine zz ?_
   exact zend
  replace h := evT h
  refine zz ?_
  refine loopJ [528] (fun kq fr hp => ∃ (x0 : ByteArray) (x4 : List S126) (x5 : Int) (p528 : Bool) (g528 : Nat), run spec_Tokens.B kq (.l0 x0 x4 x5) = some (r1, r2) ∧ (∃ fr0, fr = puts [(0, .one (.val (.str x0))), (4, .one (.ref 528 g528)), (5, .one (.val (.int .i64 x5)))] fr0) ∧ hp = (upd 528 (.own 126 4 (x4.map e126) g528 p528) (fun _ => none))) k ⟨_, zfuel, _, _, _, false, 0, h, leafFr [0, 4, 5] (by kernel_rfl), by kernel_rfl⟩ ?_
  clear h; rintro k hle _ _ ⟨x0, x4, x5, p528, g528, h, ⟨fr0, rfl⟩, rfl⟩
  rcases k with _ | k
  · exact (run_zero h).elim
  rw [run_succ, spec_Tokens.B] at h
  refine zz ?_
  refine br (iP h) ?_ ?_ <;> (clear h; intro c h)
  rotate_left
  ·refine zz ?_
   refine Exists.intro (List.map e126 ([(⟨0, (⟨#[]⟩ : ByteArray), 0, (x0.size : Int)⟩ : S126)] : List S126)) (And.intro zrow ?_)
   have h_ := gP h; clear h; obtain ⟨c, h⟩ := h_
   refine zz ?_
   refine Exists.intro (List.map e126 (x4 ++ [(⟨0, (⟨#[]⟩ : ByteArray), 0, (x0.size : Int)⟩ : S126)])) (And.intro zrow ?_)
   replace h := evR h; cases h
   refine zz ?_
   exact zend
  refine zz ?_
  refine cutJ (n := 200006) [528] (fun fr hp => ∃ kq, kq ≤ k ∧ ∃ (x0 : ByteArray) (x4 : List S126) (x5 : Int) (x27 p528 : Bool) (g528 : Nat), run spec_Tokens.B kq (.j1 x0 x4 x5 x27) = some (r1, r2) ∧ (∃ fr0, fr = puts [(0, .one (.val (.str x0))), (4, .one (.ref 528 g528)), (5, .one (.val (.int .i64 x5))), (27, .one (.val (.bool x27)))] fr0) ∧ hp = (upd 528 (.own 126 4 (x4.map e126) g528 p528) (fun _ => none))) ?_ ?_
  ·have h_ := gP h; clear h; obtain ⟨c, h⟩ := h_
   refine zz ?_
   refine brW (iP h) ?_ ?_ <;> (clear h; intro c h)
   ·refine zl ?_
    refine zl ?_
    refine zl ?_
    refine zr ?_
    replace h := evT h
    refine zz ?_
    exact ⟨_, zfuel, _, _, _, _, p528, g528, h, leafFr [0, 4, 5, 27] (by kernel_rfl), by kernel_rfl⟩
   refine zr ?_
   refine zr ?_
   refine zr ?_
   refine zl ?_
   replace h := evT h
   refine zz ?_
   exact ⟨_, zfuel, _, _, _, _, p528, g528, h, leafFr [0, 4, 5, 27] (by kernel_rfl), by kernel_rfl⟩
  clear h; rintro _ _ ⟨k, hle, x0, x4, x5, x27, p528, g528, h, ⟨fr0, rfl⟩, rfl⟩
  rcases k with _ | k
  · exact (run_zero h).elim
  rw [run_succ, spec_Tokens.B] at h
  refine zz ?_
  refine br (iP h) ?_ ?_ <;> (clear h; intro c h)
  ·replace h := evT h
   refine zz ?_
   exact ⟨_, zfuel, _, _, _, p528, g528, h, leafFr [0, 4, 5] (by kernel_rfl), by kernel_rfl⟩
  have h_ := gP h; clear h; obtain ⟨c, h⟩ := h_
  have h_ := gP h; clear h; obtain ⟨c, h⟩ := h_
  refine zz ?_
  refine br (iP h) ?_ ?_ <;> (clear h; intro c h)
  rotate_left
  ·have h_ := evO h; clear h; obtain ⟨t50, ht, h⟩ := h_
   refine zz ?_
   refine Exists.intro _ (And.intro (spec_l7One_ev (h := ht)) ?_)
   refine zz ?_
   refine brN (iP h) ?_ ?_ <;> (clear h; intro c h)
   ·refine zz ?_
    refine Exists.intro (List.map e126 ([] : List S126)) (And.intro zrow ?_)
    replace h := evR h; cases h
    refine zz ?_
    exact zend
   refine zz ?_
   refine Exists.intro (List.map e126 ([(⟨t50.1, t50.2.1, t50.2.2.1, t50.2.2.2.1⟩ : S126)] : List S126)) (And.intro zrow ?_)
   have h_ := gP h; clear h; obtain ⟨c, h⟩ := h_
   refine zz ?_
   refine Exists.intro (List.map e126 (x4 ++ [(⟨t50.1, t50.2.1, t50.2.2.1, t50.2.2.2.1⟩ : S126)])) (And.intro zrow ?_)
   replace h := evT h
   refine zz ?_
   exact ⟨_, zfuel, _, _, _, true, (g528 + 1), h, leafFr [0, 4, 5] (by kernel_rfl), by kernel_rfl⟩
  replace h := evT h
  refine zz ?_
  refine loopJ [528] (fun kq fr hp => ∃ (x0 : ByteArray) (x4 : List S126) (x5 : Int) (p528 : Bool) (g528 : Nat), run spec_Tokens.B kq (.l1 x0 x4 x5) = some (r1, r2) ∧ (∃ fr0, fr = puts [(0, .one (.val (.str x0))), (4, .one (.ref 528 g528)), (5, .one (.val (.int .i64 x5)))] fr0) ∧ hp = (upd 528 (.own 126 4 (x4.map e126) g528 p528) (fun _ => none))) k ⟨_, zfuel, _, _, _, p528, g528, h, leafFr [0, 4, 5] (by kernel_rfl), by kernel_rfl⟩ ?_
  clear h; rintro k hle _ _ ⟨x0, x4, x5, p528, g528, h, ⟨fr0, rfl⟩, rfl⟩
  rcases k with _ | k
  · exact (run_zero h).elim
  rw [run_succ, spec_Tokens.B] at h
  refine zz ?_
  refine br (iP h) ?_ ?_ <;> (clear h; intro c h)
  rotate_left
  ·refine zr ?_
   refine zr ?_
   refine zr ?_
   refine zr ?_
   refine zr ?_
   replace h := evT h
   refine zz ?_
   exact ⟨_, zfuel, _, _, _, p528, g528, h, leafFr [0, 4, 5] (by kernel_rfl), by kernel_rfl⟩
  refine zl ?_
  refine zl ?_
  have h_ := gP h; clear h; obtain ⟨c, h⟩ := h_
  refine zl ?_
  refine zl ?_
  refine zz ?_
  refine brN (iP h) ?_ ?_ <;> (clear h; intro c h)
  ·replace h := evT h
   refine zz ?_
   exact ⟨_, zfuel, _, _, _, p528, g528, h, leafFr [0, 4, 5] (by kernel_rfl), by kernel_rfl⟩
  replace h := evT h
  refine zz ?_
  exact ⟨_, zfuel, _, _, _, p528, g528, h, leafFr [0, 4, 5] (by kernel_rfl), by kernel_rfl⟩
theorem spec_l8Now_ev (l0_0 : List S126) (s0_1 s0_2 : Int) (s0_3 : Bool) (s0_4 s0_5 : Int) (s0_6 : ByteArray) (l0_7 : List S91) (r1 : Int) (r2 : ByteArray) (r3 r4 : Int) (r5 : List S126) (r6 r7 : Int) (r8 : Bool) (r9 r10 : Int) (r11 : ByteArray) (r12 : List S91) (h : spec_l8Now.f l0_0 s0_1 s0_2 s0_3 s0_4 s0_5 s0_6 l0_7 = some (r1, r2, r3, r4, r5, r6, r7, r8, r9, r10, r11, r12)) : CE (G m_) 84 [.ptr 0 0] [.box [.val (.row (l0_0.map e126)), .val (.int .i64 s0_1), .val (.int .i64 s0_2), .val (.bool s0_3), .val (.int .i64 s0_4), .val (.int .i64 s0_5), .val (.str s0_6), .val (.row (l0_7.map e91))]] [.val (.agg [.int .i64 r1, .str r2, .int .i64 r3, .int .i64 r4])] [.box [.val (.row (r5.map e126)), .val (.int .i64 r6), .val (.int .i64 r7), .val (.bool r8), .val (.int .i64 r9), .val (.int .i64 r10), .val (.str r11), .val (.row (r12.map e91))]] := by
  refine CE.mk ⟨Tryz.f84, _, rfl, rfl, ⟨by kernel_rfl, Nat.le_of_ble_eq_true rfl, Nat.le_of_ble_eq_true rfl⟩, ?_⟩
  rw [spec_l8Now.f] at h
  have h_ := gS h; clear h; obtain ⟨c, h⟩ := h_
  have h_ := gS h; clear h; obtain ⟨c, h⟩ := h_
  cases h
  refine zz ?_
  exact zend
theorem spec_l8Is_ev (l0_0 : List S126) (s0_1 s0_2 : Int) (s0_3 : Bool) (s0_4 s0_5 : Int) (s0_6 : ByteArray) (l0_7 : List S91) (a1 : ByteArray) (r1 : Bool) (r2 : List S126) (r3 r4 : Int) (r5 : Bool) (r6 r7 : Int) (r8 : ByteArray) (r9 : List S91) (h : spec_l8Is.f l0_0 s0_1 s0_2 s0_3 s0_4 s0_5 s0_6 l0_7 a1 = some (r1, r2, r3, r4, r5, r6, r7, r8, r9)) : CE (G m_) 110 [.ptr 0 0, .val (.str a1)] [.box [.val (.row (l0_0.map e126)), .val (.int .i64 s0_1), .val (.int .i64 s0_2), .val (.bool s0_3), .val (.int .i64 s0_4), .val (.int .i64 s0_5), .val (.str s0_6), .val (.row (l0_7.map e91))]] [.val (.bool r1)] [.box [.val (.row (r2.map e126)), .val (.int .i64 r3), .val (.int .i64 r4), .val (.bool r5), .val (.int .i64 r6), .val (.int .i64 r7), .val (.str r8), .val (.row (r9.map e91))]] := by
  refine CE.mk ⟨Tryz.f110, _, rfl, rfl, ⟨by kernel_rfl, Nat.le_of_ble_eq_true rfl, Nat.le_of_ble_eq_true rfl⟩, ?_⟩
  rw [spec_l8Is.f] at h
  have h_ := oS h; clear h; obtain ⟨t7, ht, h⟩ := h_
  refine zz ?_
  refine Exists.intro _ (Exists.intro _ (And.intro (spec_l8Now_ev (h := ht)) ?_))
  refine zz ?_
  refine br (iteS h) ?_ ?_ <;> (clear h; intro c h)
  rotate_left
  ·refine zr ?_
   refine zr ?_
   refine zr ?_
   refine zr ?_
   refine zr ?_
   refine zr ?_
   refine zr ?_
   refine zr ?_
   cases h
   refine zz ?_
   exact zend
  refine zl ?_
  refine zl ?_
  refine zl ?_
  refine zz ?_
  refine br (iteS h) ?_ ?_ <;> (clear h; intro c h)
  ·refine zl ?_
   refine zl ?_
   refine zl ?_
   refine zl ?_
   cases h
   refine zz ?_
   exact zend
  refine zr ?_
  refine zr ?_
  refine zr ?_
  refine zr ?_
  cases h
  refine zz ?_
  exact zend
theorem spec_l8Next_ev (l0_0 : List S126) (s0_1 s0_2 : Int) (s0_3 : Bool) (s0_4 s0_5 : Int) (s0_6 : ByteArray) (l0_7 : List S91) (r1 : List S126) (r2 r3 : Int) (r4 : Bool) (r5 r6 : Int) (r7 : ByteArray) (r8 : List S91) (h : spec_l8Next.f l0_0 s0_1 s0_2 s0_3 s0_4 s0_5 s0_6 l0_7 = some (r1, r2, r3, r4, r5, r6, r7, r8)) : CE (G m_) 111 [.ptr 0 0] [.box [.val (.row (l0_0.map e126)), .val (.int .i64 s0_1), .val (.int .i64 s0_2), .val (.bool s0_3), .val (.int .i64 s0_4), .val (.int .i64 s0_5), .val (.str s0_6), .val (.row (l0_7.map e91))]] [] [.box [.val (.row (r1.map e126)), .val (.int .i64 r2), .val (.int .i64 r3), .val (.bool r4), .val (.int .i64 r5), .val (.int .i64 r6), .val (.str r7), .val (.row (r8.map e91))]] := by
  refine CE.mk ⟨Tryz.f111, _, rfl, rfl, ⟨by kernel_rfl, Nat.le_of_ble_eq_true rfl, Nat.le_of_ble_eq_true rfl⟩, ?_⟩
  rw [spec_l8Next.f] at h
  refine zz ?_
  refine br (iteS h) ?_ ?_ <;> (clear h; intro c h)
  ·cases h
   refine zz ?_
   exact zend
  cases h
  refine zz ?_
  exact zend
theorem spec_l8Sign_ev (l0_0 : List S126) (s0_1 s0_2 : Int) (s0_3 : Bool) (s0_4 s0_5 : Int) (s0_6 : ByteArray) (l0_7 : List S91) (a1 : ByteArray) (r1 : Bool) (r2 : List S126) (r3 r4 : Int) (r5 : Bool) (r6 r7 : Int) (r8 : ByteArray) (r9 : List S91) (h : spec_l8Sign.f l0_0 s0_1 s0_2 s0_3 s0_4 s0_5 s0_6 l0_7 a1 = some (r1, r2, r3, r4, r5, r6, r7, r8, r9)) : CE (G m_) 113 [.ptr 0 0, .val (.str a1)] [.box [.val (.row (l0_0.map e126)), .val (.int .i64 s0_1), .val (.int .i64 s0_2), .val (.bool s0_3), .val (.int .i64 s0_4), .val (.int .i64 s0_5), .val (.str s0_6), .val (.row (l0_7.map e91))]] [.val (.bool r1)] [.box [.val (.row (r2.map e126)), .val (.int .i64 r3), .val (.int .i64 r4), .val (.bool r5), .val (.int .i64 r6), .val (.int .i64 r7), .val (.str r8), .val (.row (r9.map e91))]] := by
  refine CE.mk ⟨Tryz.f113, _, rfl, rfl, ⟨by kernel_rfl, Nat.le_of_ble_eq_true rfl, Nat.le_of_ble_eq_true rfl⟩, ?_⟩
  rw [spec_l8Sign.f] at h
  have h_ := oS h; clear h; obtain ⟨t7, ht, h⟩ := h_
  refine zz ?_
  refine Exists.intro _ (Exists.intro _ (And.intro (spec_l8Now_ev (h := ht)) ?_))
  refine zz ?_
  refine br (iteS h) ?_ ?_ <;> (clear h; intro c h)
  rotate_left
  ·refine zr ?_
   refine zr ?_
   refine zr ?_
   refine zr ?_
   refine zr ?_
   refine zr ?_
   refine zr ?_
   refine zr ?_
   cases h
   refine zz ?_
   exact zend
  refine zl ?_
  refine zl ?_
  refine zl ?_
  refine zz ?_
  refine br (iteS h) ?_ ?_ <;> (clear h; intro c h)
  ·refine zl ?_
   refine zl ?_
   refine zl ?_
   refine zl ?_
   cases h
   refine zz ?_
   exact zend
  refine zr ?_
  refine zr ?_
  refine zr ?_
  refine zr ?_
  cases h
  refine zz ?_
  exact zend
theorem spec_l8Bad_ev (l0_0 : List S126) (s0_1 s0_2 : Int) (s0_3 : Bool) (s0_4 s0_5 : Int) (s0_6 : ByteArray) (l0_7 : List S91) (r1 : List S126) (r2 r3 : Int) (r4 : Bool) (r5 r6 : Int) (r7 : ByteArray) (r8 : List S91) (h : spec_l8Bad.f l0_0 s0_1 s0_2 s0_3 s0_4 s0_5 s0_6 l0_7 = some (r1, r2, r3, r4, r5, r6, r7, r8)) : CE (G m_) 146 [.ptr 0 0] [.box [.val (.row (l0_0.map e126)), .val (.int .i64 s0_1), .val (.int .i64 s0_2), .val (.bool s0_3), .val (.int .i64 s0_4), .val (.int .i64 s0_5), .val (.str s0_6), .val (.row (l0_7.map e91))]] [] [.box [.val (.row (r1.map e126)), .val (.int .i64 r2), .val (.int .i64 r3), .val (.bool r4), .val (.int .i64 r5), .val (.int .i64 r6), .val (.str r7), .val (.row (r8.map e91))]] := by
  refine CE.mk ⟨Tryz.f146, _, rfl, rfl, ⟨by kernel_rfl, Nat.le_of_ble_eq_true rfl, Nat.le_of_ble_eq_true rfl⟩, ?_⟩
  rw [spec_l8Bad.f] at h
  refine zz ?_
  refine br (iteS h) ?_ ?_ <;> (clear h; intro c h)
  rotate_left
  ·cases h
   refine zz ?_
   exact zend
  have h_ := oS h; clear h; obtain ⟨t9, ht, h⟩ := h_
  refine zz ?_
  refine Exists.intro _ (Exists.intro _ (And.intro (spec_l8Now_ev (h := ht)) ?_))
  cases h
  refine zz ?_
  exact zend
theorem spec_l8Take_ev (l0_0 : List S126) (s0_1 s0_2 : Int) (s0_3 : Bool) (s0_4 s0_5 : Int) (s0_6 : ByteArray) (l0_7 : List S91) (a1 : ByteArray) (r1 : List S126) (r2 r3 : Int) (r4 : Bool) (r5 r6 : Int) (r7 : ByteArray) (r8 : List S91) (h : spec_l8Take.f l0_0 s0_1 s0_2 s0_3 s0_4 s0_5 s0_6 l0_7 a1 = some (r1, r2, r3, r4, r5, r6, r7, r8)) : CE (G m_) 135 [.ptr 0 0, .val (.str a1)] [.box [.val (.row (l0_0.map e126)), .val (.int .i64 s0_1), .val (.int .i64 s0_2), .val (.bool s0_3), .val (.int .i64 s0_4), .val (.int .i64 s0_5), .val (.str s0_6), .val (.row (l0_7.map e91))]] [] [.box [.val (.row (r1.map e126)), .val (.int .i64 r2), .val (.int .i64 r3), .val (.bool r4), .val (.int .i64 r5), .val (.int .i64 r6), .val (.str r7), .val (.row (r8.map e91))]] := by
  refine CE.mk ⟨Tryz.f135, _, rfl, rfl, ⟨by kernel_rfl, Nat.le_of_ble_eq_true rfl, Nat.le_of_ble_eq_true rfl⟩, ?_⟩
  rw [spec_l8Take.f] at h
  have h_ := oS h; clear h; obtain ⟨t6, ht, h⟩ := h_
  refine zz ?_
  refine Exists.intro _ (Exists.intro _ (And.intro (spec_l8Sign_ev (h := ht)) ?_))
  refine zz ?_
  refine brN (iteS h) ?_ ?_ <;> (clear h; intro c h)
  ·have h_ := oS h; clear h; obtain ⟨t9, ht, h⟩ := h_
   refine zz ?_
   refine Exists.intro _ (Exists.intro _ (And.intro (spec_l8Bad_ev (h := ht)) ?_))
   cases h
   refine zz ?_
   exact zend
  have h_ := oS h; clear h; obtain ⟨t11, ht, h⟩ := h_
  refine zz ?_
  refine Exists.intro _ (Exists.intro _ (And.intro (spec_l8Next_ev (h := ht)) ?_))
  cases h
  refine zz ?_
  exact zend
end Go.Proofs.YtchhkbkbbglgbaaGreatDoor.TFnOps
