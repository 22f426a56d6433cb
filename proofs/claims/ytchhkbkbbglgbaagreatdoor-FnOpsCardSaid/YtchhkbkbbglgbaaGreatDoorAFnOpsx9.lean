/- The walks of the functions that FnOps reaches, through the abstract machine. -/
import Derived.Test.YtchhkbkbbglgbaaGreatDoorAFnOpsh
import Derived.Test.YtchhkbkbbglgbaaGreatDoorAFnOpsx0
import Derived.Test.YtchhkbkbbglgbaaGreatDoorAFnOpsx7
import Derived.Test.YtchhkbkbbglgbaaGreatDoorAFnOpsx8
import Derived.Test.YtchhkbkbbglgbaaGreatDoorFFnOps
import Derived.Test.YtchhkbkbbglgbaaGreatDoorProg
set_option maxHeartbeats 4000000
set_option maxRecDepth 100000
set_option linter.unusedVariables false
set_option linter.unusedSimpArgs false
namespace Go.Proofs.YtchhkbkbbglgbaaGreatDoor.TFnOps
open Go Go.RowKit Go.Proofs Go.Proofs.YtchhkbkbbglgbaaGreatDoorW.AM Go.Proofs.YtchhkbkbbglgbaaGreatDoor.QFnOps Go.Proofs.YtchhkbkbbglgbaaGreatDoorW.PrintWords Go.Proofs.YtchhkbkbbglgbaaGreatDoorW.Pgs
variable {m_ : Int}
theorem impl_DecText_ev (a0 : Int) (r : ByteArray) (h : impl_DecText.fv a0 = some r) : CE (G m_) 21 [.val (.int .i64 a0)] [] [.val (.str r)] [] := by
  obtain ⟨k, h⟩ := lim_ex h
  refine CE.mk ⟨Tryz.f21, _, rfl, rfl, ⟨by kernel_rfl, Nat.le_of_ble_eq_true rfl, Nat.le_of_ble_eq_true rfl⟩, ?_⟩
  rcases k with _ | k
  · exact (run_zero h).elim
  rw [run_succ, impl_DecText.B] at h
  have h_ := evO h; clear h; obtain ⟨t7, ht, h⟩ := h_
  refine zz ?_
  refine Exists.intro _ (And.intro (impl_DecOk_ev (h := ht)) ?_)
  refine zz ?_
  refine brN (iP h) ?_ ?_ <;> (clear h; intro c h)
  ·replace h := evR h; cases h
   refine zz ?_
   exact zend
  refine zz ?_
  refine cutJ (n := 10) [] (fun fr hp => ∃ kq, kq ≤ k ∧ ∃ (x0 : Int) (x3 : ByteArray), run impl_DecText.B kq (.j0 x0 x3) = some r ∧ (∃ fr0, fr = puts [(0, .one (.val (.int .i64 x0))), (3, .one (.val (.str x3)))] fr0) ∧ hp = (fun _ => none)) ?_ ?_
  ·refine zz ?_
   refine br (iP h) ?_ ?_ <;> (clear h; intro c h)
   ·replace h := evT h
    refine zz ?_
    exact ⟨_, zfuel, _, _, h, leafFr [0, 3] (by kernel_rfl), by kernel_rfl⟩
   replace h := evT h
   refine zz ?_
   exact ⟨_, zfuel, _, _, h, leafFr [0, 3] (by kernel_rfl), by kernel_rfl⟩
  clear h; rintro _ _ ⟨k, hle, x0, x3, h, ⟨fr0, rfl⟩, rfl⟩
  rcases k with _ | k
  · exact (run_zero h).elim
  rw [run_succ, impl_DecText.B] at h
  have h_ := evO h; clear h; obtain ⟨t16, ht, h⟩ := h_
  refine zz ?_
  refine Exists.intro _ (And.intro (orc22 (h := ht)) ?_)
  have h_ := gP h; clear h; obtain ⟨c, h⟩ := h_
  refine zz ?_
  refine br (iP h) ?_ ?_ <;> (clear h; intro c h)
  rotate_left
  ·replace h := evR h; cases h
   refine zz ?_
   exact zend
  have h_ := evO h; clear h; obtain ⟨t25, ht, h⟩ := h_
  refine zz ?_
  refine Exists.intro _ (And.intro (orc22 (h := ht)) ?_)
  have h_ := gP h; clear h; obtain ⟨c, h⟩ := h_
  have h_ := evO h; clear h; obtain ⟨t27, ht, h⟩ := h_
  refine zz ?_
  refine Exists.intro _ (And.intro (orc38 (h := ht)) ?_)
  have h_ := gP h; clear h; obtain ⟨c, h⟩ := h_
  have h_ := gP h; clear h; obtain ⟨c, h⟩ := h_
  replace h := evR h; cases h
  refine zz ?_
  exact zend
theorem impl_OpText_ev (a0_0 a0_1 : Int) (a0_2 r : ByteArray) (h : impl_OpText.fv a0_0 a0_1 a0_2 = some r) : CE (G m_) 9 [.val (.agg [.int .i64 a0_0, .int .i64 a0_1, .str a0_2])] [] [.val (.str r)] [] := by
  obtain ⟨k, h⟩ := lim_ex h
  refine CE.mk ⟨Tryz.f9, _, rfl, rfl, ⟨by kernel_rfl, Nat.le_of_ble_eq_true rfl, Nat.le_of_ble_eq_true rfl⟩, ?_⟩
  rcases k with _ | k
  · exact (run_zero h).elim
  rw [run_succ, impl_OpText.B] at h
  have h_ := evO h; clear h; obtain ⟨t10, ht, h⟩ := h_
  refine zz ?_
  refine Exists.intro _ (And.intro (impl_opName_ev (h := ht)) ?_)
  replace h := evT h
  refine zz ?_
  refine loopJ [16, 1041] (fun kq fr hp => ∃ (x3 y1041s : ByteArray) (y1041p : Nat) (x16_0 x16_1 : Int) (x16_2 : ByteArray), run impl_OpText.B kq (.l0 x3 y1041s y1041p x16_0 x16_1 x16_2) = some r ∧ (∃ fr0, fr = puts [(1, .one (.ptr 16 0)), (3, .one (.val (.str x3))), (14, .one (.ptr 1041 0))] fr0) ∧ hp = (upd 16 (.box [.val (.int .i64 x16_0), .val (.int .i64 x16_1), .val (.str x16_2)]) (upd 1041 (.iter y1041s y1041p) (fun _ => none)))) k ⟨_, zfuel, _, _, _, _, _, _, h, leafFr [1, 3, 14] (by kernel_rfl), by kernel_rfl⟩ ?_
  clear h; rintro k hle _ _ ⟨x3, y1041s, y1041p, x16_0, x16_1, x16_2, h, ⟨fr0, rfl⟩, rfl⟩
  rcases k with _ | k
  · exact (run_zero h).elim
  rw [run_succ, impl_OpText.B] at h
  refine zz ?_
  refine br (iP h) ?_ ?_ <;> (clear h; intro c h)
  rotate_left
  ·refine zr ?_
   replace h := evR h; cases h
   refine zz ?_
   exact zend
  refine zl ?_
  refine zz ?_
  refine br (iP h) ?_ ?_ <;> (clear h; intro c h)
  ·have h_ := evO h; clear h; obtain ⟨t24, ht, h⟩ := h_
   refine zz ?_
   refine Exists.intro _ (And.intro (impl_DecText_ev (h := ht)) ?_)
   have h_ := gP h; clear h; obtain ⟨c, h⟩ := h_
   have h_ := gP h; clear h; obtain ⟨c, h⟩ := h_
   replace h := evT h
   refine zz ?_
   exact ⟨_, zfuel, _, _, _, _, _, _, h, leafFr [1, 3, 14] (by kernel_rfl), by kernel_rfl⟩
  refine zz ?_
  refine br (iP h) ?_ ?_ <;> (clear h; intro c h)
  ·have h_ := evO h; clear h; obtain ⟨t33, ht, h⟩ := h_
   refine zz ?_
   refine Exists.intro _ (And.intro (orc22 (h := ht)) ?_)
   have h_ := gP h; clear h; obtain ⟨c, h⟩ := h_
   have h_ := gP h; clear h; obtain ⟨c, h⟩ := h_
   replace h := evT h
   refine zz ?_
   exact ⟨_, zfuel, _, _, _, _, _, _, h, leafFr [1, 3, 14] (by kernel_rfl), by kernel_rfl⟩
  refine zz ?_
  refine br (iP h) ?_ ?_ <;> (clear h; intro c h)
  rotate_left
  ·replace h := evT h
   refine zz ?_
   exact ⟨_, zfuel, _, _, _, _, _, _, h, leafFr [1, 3, 14] (by kernel_rfl), by kernel_rfl⟩
  have h_ := gP h; clear h; obtain ⟨c, h⟩ := h_
  have h_ := gP h; clear h; obtain ⟨c, h⟩ := h_
  have h_ := gP h; clear h; obtain ⟨c, h⟩ := h_
  replace h := evT h
  refine zz ?_
  exact ⟨_, zfuel, _, _, _, _, _, _, h, leafFr [1, 3, 14] (by kernel_rfl), by kernel_rfl⟩
theorem spec_l1Abs_ev (a0 r : Int) (h : spec_l1Abs.f a0 = some r) : CE (G m_) 40 [.val (.int .i64 a0)] [] [.val (.int .i64 r)] [] := by
  refine CE.mk ⟨Tryz.f40, _, rfl, rfl, ⟨by kernel_rfl, Nat.le_of_ble_eq_true rfl, Nat.le_of_ble_eq_true rfl⟩, ?_⟩
  rw [spec_l1Abs.f] at h
  refine zz ?_
  refine br (iteS h) ?_ ?_ <;> (clear h; intro c h)
  ·cases h
   refine zz ?_
   exact zend
  cases h
  refine zz ?_
  exact zend
theorem spec_l2Digits_ev (a0 : Int) (r : ByteArray) (h : spec_l2Digits.fv a0 = some r) : CE (G m_) 24 [.val (.int .i64 a0)] [] [.val (.str r)] [] := by
  obtain ⟨k, h⟩ := lim_ex h
  refine CE.mk ⟨Tryz.f24, _, rfl, rfl, ⟨by kernel_rfl, Nat.le_of_ble_eq_true rfl, Nat.le_of_ble_eq_true rfl⟩, ?_⟩
  rcases k with _ | k
  · exact (run_zero h).elim
  rw [run_succ, spec_l2Digits.B] at h
  refine zz ?_
  refine br (iP h) ?_ ?_ <;> (clear h; intro c h)
  ·replace h := evR h; cases h
   refine zz ?_
   exact zend
  replace h := evT h
  refine zz ?_
  refine loopJ [] (fun kq fr hp => ∃ (x0 : Int) (x3 : ByteArray), run spec_l2Digits.B kq (.l0 x0 x3) = some r ∧ (∃ fr0, fr = puts [(0, .one (.val (.int .i64 x0))), (3, .one (.val (.str x3)))] fr0) ∧ hp = (fun _ => none)) k ⟨_, zfuel, _, _, h, leafFr [0, 3] (by kernel_rfl), by kernel_rfl⟩ ?_
  clear h; rintro k hle _ _ ⟨x0, x3, h, ⟨fr0, rfl⟩, rfl⟩
  rcases k with _ | k
  · exact (run_zero h).elim
  rw [run_succ, spec_l2Digits.B] at h
  refine zz ?_
  refine br (iP h) ?_ ?_ <;> (clear h; intro c h)
  rotate_left
  ·replace h := evR h; cases h
   refine zz ?_
   exact zend
  refine zz ?_
  refine Exists.intro (List.map (VV.int .u8) ([(((wrap64 (48 + (Int.tmod x0 10)))) % 256)] : List Int)) (And.intro zrow ?_)
  have h_ := gP h; clear h; obtain ⟨c, h⟩ := h_
  replace h := evT h
  refine zz ?_
  exact ⟨_, zfuel, _, _, h, leafFr [0, 3] (by kernel_rfl), by kernel_rfl⟩
theorem spec_DecText_ev (a0 : Int) (r : ByteArray) (h : spec_DecText.fv a0 = some r) : CE (G m_) 23 [.val (.int .i64 a0)] [] [.val (.str r)] [] := by
  obtain ⟨k, h⟩ := lim_ex h
  refine CE.mk ⟨Tryz.f23, _, rfl, rfl, ⟨by kernel_rfl, Nat.le_of_ble_eq_true rfl, Nat.le_of_ble_eq_true rfl⟩, ?_⟩
  rcases k with _ | k
  · exact (run_zero h).elim
  rw [run_succ, spec_DecText.B] at h
  have h_ := evO h; clear h; obtain ⟨t8, ht, h⟩ := h_
  refine zz ?_
  refine Exists.intro _ (And.intro (spec_DecOk_ev (h := ht)) ?_)
  refine zz ?_
  refine brN (iP h) ?_ ?_ <;> (clear h; intro c h)
  ·replace h := evR h; cases h
   refine zz ?_
   exact zend
  have h_ := evO h; clear h; obtain ⟨t11, ht, h⟩ := h_
  refine zz ?_
  refine Exists.intro _ (And.intro (spec_l1Abs_ev (h := ht)) ?_)
  have h_ := evO h; clear h; obtain ⟨t14, ht, h⟩ := h_
  refine zz ?_
  refine Exists.intro _ (And.intro (spec_l2Digits_ev (h := ht)) ?_)
  refine zz ?_
  refine br (iP h) ?_ ?_ <;> (clear h; intro c h)
  rotate_left
  ·refine zz ?_
   refine br (iP h) ?_ ?_ <;> (clear h; intro c h)
   rotate_left
   ·replace h := evR h; cases h
    refine zz ?_
    exact zend
   have h_ := gP h; clear h; obtain ⟨c, h⟩ := h_
   replace h := evR h; cases h
   refine zz ?_
   exact zend
  have h_ := evO h; clear h; obtain ⟨t21, ht, h⟩ := h_
  refine zz ?_
  refine Exists.intro _ (And.intro (spec_l2Digits_ev (h := ht)) ?_)
  have h_ := gP h; clear h; obtain ⟨c, h⟩ := h_
  replace h := evT h
  refine zz ?_
  refine loopJ [] (fun kq fr hp => ∃ (x0 : Int) (x4 x6 : ByteArray), run spec_DecText.B kq (.l0 x0 x4 x6) = some r ∧ (∃ fr0, fr = puts [(0, .one (.val (.int .i64 x0))), (4, .one (.val (.str x4))), (6, .one (.val (.str x6)))] fr0) ∧ hp = (fun _ => none)) k ⟨_, zfuel, _, _, _, h, leafFr [0, 4, 6] (by kernel_rfl), by kernel_rfl⟩ ?_
  clear h; rintro k hle _ _ ⟨x0, x4, x6, h, ⟨fr0, rfl⟩, rfl⟩
  rcases k with _ | k
  · exact (run_zero h).elim
  rw [run_succ, spec_DecText.B] at h
  have h_ := gP h; clear h; obtain ⟨c, h⟩ := h_
  have h_ := gP h; clear h; obtain ⟨c, h⟩ := h_
  refine zz ?_
  refine br (iP h) ?_ ?_ <;> (clear h; intro c h)
  ·have h_ := gP h; clear h; obtain ⟨c, h⟩ := h_
   replace h := evT h
   refine zz ?_
   exact ⟨_, zfuel, _, _, _, h, leafFr [0, 4, 6] (by kernel_rfl), by kernel_rfl⟩
  have h_ := gP h; clear h; obtain ⟨c, h⟩ := h_
  have h_ := gP h; clear h; obtain ⟨c, h⟩ := h_
  refine zz ?_
  refine br (iP h) ?_ ?_ <;> (clear h; intro c h)
  rotate_left
  ·replace h := evR h; cases h
   refine zz ?_
   exact zend
  have h_ := gP h; clear h; obtain ⟨c, h⟩ := h_
  replace h := evR h; cases h
  refine zz ?_
  exact zend
theorem spec_OpText_ev (a0_0 a0_1 : Int) (a0_2 r : ByteArray) (h : spec_OpText.fv a0_0 a0_1 a0_2 = some r) : CE (G m_) 10 [.val (.agg [.int .i64 a0_0, .int .i64 a0_1, .str a0_2])] [] [.val (.str r)] [] := by
  obtain ⟨k, h⟩ := lim_ex h
  refine CE.mk ⟨Tryz.f10, _, rfl, rfl, ⟨by kernel_rfl, Nat.le_of_ble_eq_true rfl, Nat.le_of_ble_eq_true rfl⟩, ?_⟩
  rcases k with _ | k
  · exact (run_zero h).elim
  rw [run_succ, spec_OpText.B] at h
  have h_ := evO h; clear h; obtain ⟨y1_0, hy, h⟩ := h_
  refine zz ?_
  refine Exists.intro (y1_0.map VV.str) (And.intro (by rw [← Option.some.inj hy]; exact zrow) ?_)
  have h_ := evO h; clear h; obtain ⟨t8, ht, h⟩ := h_
  refine zz ?_
  refine Exists.intro _ (And.intro (spec_l1In_ev (h := ht)) ?_)
  refine zz ?_
  refine brN (iP h) ?_ ?_ <;> (clear h; intro c h)
  ·replace h := evR h; cases h
   refine zz ?_
   exact zend
  have h_ := gP h; clear h; obtain ⟨c, h⟩ := h_
  have h_ := gP h; clear h; obtain ⟨c, h⟩ := h_
  refine zz ?_
  refine cutJ (n := 100000) [16] (fun fr hp => ∃ kq, kq ≤ k ∧ ∃ (x4 : ByteArray) (x16_0 x16_1 : Int) (x16_2 : ByteArray), run spec_OpText.B kq (.j0 x4 x16_0 x16_1 x16_2) = some r ∧ (∃ fr0, fr = puts [(1, .one (.ptr 16 0)), (4, .one (.val (.str x4)))] fr0) ∧ hp = (upd 16 (.box [.val (.int .i64 x16_0), .val (.int .i64 x16_1), .val (.str x16_2)]) (fun _ => none))) ?_ ?_
  ·refine zz ?_
   refine br (iP h) ?_ ?_ <;> (clear h; intro c h)
   ·have h_ := gP h; clear h; obtain ⟨c, h⟩ := h_
    have h_ := evO h; clear h; obtain ⟨t23, ht, h⟩ := h_
    refine zz ?_
    refine Exists.intro _ (And.intro (spec_DecText_ev (h := ht)) ?_)
    have h_ := gP h; clear h; obtain ⟨c, h⟩ := h_
    replace h := evT h
    refine zz ?_
    exact ⟨_, zfuel, _, _, _, _, h, leafFr [1, 4] (by kernel_rfl), by kernel_rfl⟩
   refine zz ?_
   refine cutJ (n := 25) [16] (fun fr hp => ∃ kq, kq ≤ k ∧ ∃ (x4 : ByteArray) (x25 : Bool) (x16_0 x16_1 : Int) (x16_2 : ByteArray), run spec_OpText.B kq (.j1 x4 x25 x16_0 x16_1 x16_2) = some r ∧ (∃ fr0, fr = puts [(1, .one (.ptr 16 0)), (4, .one (.val (.str x4))), (25, .one (.val (.bool x25)))] fr0) ∧ hp = (upd 16 (.box [.val (.int .i64 x16_0), .val (.int .i64 x16_1), .val (.str x16_2)]) (fun _ => none))) ?_ ?_
   ·refine zz ?_
    refine br (iP h) ?_ ?_ <;> (clear h; intro c h)
    ·replace h := evT h
     refine zz ?_
     exact ⟨_, zfuel, _, _, _, _, _, h, leafFr [1, 4, 25] (by kernel_rfl), by kernel_rfl⟩
    refine zz ?_
    refine br (iP h) ?_ ?_ <;> (clear h; intro c h)
    ·replace h := evT h
     refine zz ?_
     exact ⟨_, zfuel, _, _, _, _, _, h, leafFr [1, 4, 25] (by kernel_rfl), by kernel_rfl⟩
    refine zz ?_
    refine br (iP h) ?_ ?_ <;> (clear h; intro c h)
    ·replace h := evT h
     refine zz ?_
     exact ⟨_, zfuel, _, _, _, _, _, h, leafFr [1, 4, 25] (by kernel_rfl), by kernel_rfl⟩
    refine zz ?_
    refine br (iP h) ?_ ?_ <;> (clear h; intro c h)
    ·replace h := evT h
     refine zz ?_
     exact ⟨_, zfuel, _, _, _, _, _, h, leafFr [1, 4, 25] (by kernel_rfl), by kernel_rfl⟩
    refine zz ?_
    refine br (iP h) ?_ ?_ <;> (clear h; intro c h)
    ·replace h := evT h
     refine zz ?_
     exact ⟨_, zfuel, _, _, _, _, _, h, leafFr [1, 4, 25] (by kernel_rfl), by kernel_rfl⟩
    refine zz ?_
    refine br (iP h) ?_ ?_ <;> (clear h; intro c h)
    ·replace h := evT h
     refine zz ?_
     exact ⟨_, zfuel, _, _, _, _, _, h, leafFr [1, 4, 25] (by kernel_rfl), by kernel_rfl⟩
    refine zz ?_
    refine br (iP h) ?_ ?_ <;> (clear h; intro c h)
    ·replace h := evT h
     refine zz ?_
     exact ⟨_, zfuel, _, _, _, _, _, h, leafFr [1, 4, 25] (by kernel_rfl), by kernel_rfl⟩
    refine zz ?_
    refine br (iP h) ?_ ?_ <;> (clear h; intro c h)
    ·replace h := evT h
     refine zz ?_
     exact ⟨_, zfuel, _, _, _, _, _, h, leafFr [1, 4, 25] (by kernel_rfl), by kernel_rfl⟩
    refine zz ?_
    refine br (iP h) ?_ ?_ <;> (clear h; intro c h)
    ·replace h := evT h
     refine zz ?_
     exact ⟨_, zfuel, _, _, _, _, _, h, leafFr [1, 4, 25] (by kernel_rfl), by kernel_rfl⟩
    refine zz ?_
    refine br (iP h) ?_ ?_ <;> (clear h; intro c h)
    ·replace h := evT h
     refine zz ?_
     exact ⟨_, zfuel, _, _, _, _, _, h, leafFr [1, 4, 25] (by kernel_rfl), by kernel_rfl⟩
    replace h := evT h
    refine zz ?_
    exact ⟨_, zfuel, _, _, _, _, _, h, leafFr [1, 4, 25] (by kernel_rfl), by kernel_rfl⟩
   clear h; rintro _ _ ⟨k, hle, x4, x25, x16_0, x16_1, x16_2, h, ⟨fr0, rfl⟩, rfl⟩
   rcases k with _ | k
   · exact (run_zero h).elim
   rw [run_succ, spec_OpText.B] at h
   refine zz ?_
   refine br (iP h) ?_ ?_ <;> (clear h; intro c h)
   rotate_left
   ·replace h := evT h
    refine zz ?_
    exact ⟨_, zfuel, _, _, _, _, h, leafFr [1, 4] (by kernel_rfl), by kernel_rfl⟩
   have h_ := gP h; clear h; obtain ⟨c, h⟩ := h_
   have h_ := evO h; clear h; obtain ⟨t41, ht, h⟩ := h_
   refine zz ?_
   refine Exists.intro _ (And.intro (spec_l2Digits_ev (h := ht)) ?_)
   have h_ := gP h; clear h; obtain ⟨c, h⟩ := h_
   replace h := evT h
   refine zz ?_
   exact ⟨_, zfuel, _, _, _, _, h, leafFr [1, 4] (by kernel_rfl), by kernel_rfl⟩
  clear h; rintro _ _ ⟨k, hle, x4, x16_0, x16_1, x16_2, h, ⟨fr0, rfl⟩, rfl⟩
  rcases k with _ | k
  · exact (run_zero h).elim
  rw [run_succ, spec_OpText.B] at h
  refine zz ?_
  refine cutJ (n := 200020) [16] (fun fr hp => ∃ kq, kq ≤ k ∧ ∃ (x4 : ByteArray) (x60 : Bool) (x16_0 x16_1 : Int) (x16_2 : ByteArray), run spec_OpText.B kq (.j2 x4 x60 x16_0 x16_1 x16_2) = some r ∧ (∃ fr0, fr = puts [(1, .one (.ptr 16 0)), (4, .one (.val (.str x4))), (60, .one (.val (.bool x60)))] fr0) ∧ hp = (upd 16 (.box [.val (.int .i64 x16_0), .val (.int .i64 x16_1), .val (.str x16_2)]) (fun _ => none))) ?_ ?_
  ·refine zz ?_
   refine brW (iP h) ?_ ?_ <;> (clear h; intro c h)
   rotate_left
   ·refine zr ?_
    refine zr ?_
    refine zl ?_
    refine zr ?_
    refine zr ?_
    refine zr ?_
    refine zl ?_
    refine zr ?_
    refine zr ?_
    refine zr ?_
    refine zl ?_
    replace h := evT h
    refine zz ?_
    exact ⟨_, zfuel, _, _, _, _, _, h, leafFr [1, 4, 60] (by kernel_rfl), by kernel_rfl⟩
   refine zl ?_
   refine zl ?_
   refine zr ?_
   refine zz ?_
   refine brW (iP h) ?_ ?_ <;> (clear h; intro c h)
   rotate_left
   ·refine zr ?_
    refine zr ?_
    refine zl ?_
    refine zr ?_
    refine zr ?_
    refine zr ?_
    refine zl ?_
    replace h := evT h
    refine zz ?_
    exact ⟨_, zfuel, _, _, _, _, _, h, leafFr [1, 4, 60] (by kernel_rfl), by kernel_rfl⟩
   refine zl ?_
   refine zl ?_
   refine zr ?_
   refine zz ?_
   refine brW (iP h) ?_ ?_ <;> (clear h; intro c h)
   ·refine zl ?_
    refine zl ?_
    refine zr ?_
    replace h := evT h
    refine zz ?_
    exact ⟨_, zfuel, _, _, _, _, _, h, leafFr [1, 4, 60] (by kernel_rfl), by kernel_rfl⟩
   refine zr ?_
   refine zr ?_
   refine zl ?_
   replace h := evT h
   refine zz ?_
   exact ⟨_, zfuel, _, _, _, _, _, h, leafFr [1, 4, 60] (by kernel_rfl), by kernel_rfl⟩
  clear h; rintro _ _ ⟨k, hle, x4, x60, x16_0, x16_1, x16_2, h, ⟨fr0, rfl⟩, rfl⟩
  rcases k with _ | k
  · exact (run_zero h).elim
  rw [run_succ, spec_OpText.B] at h
  refine zz ?_
  refine br (iP h) ?_ ?_ <;> (clear h; intro c h)
  rotate_left
  ·replace h := evR h; cases h
   refine zz ?_
   exact zend
  have h_ := gP h; clear h; obtain ⟨c, h⟩ := h_
  have h_ := gP h; clear h; obtain ⟨c, h⟩ := h_
  have h_ := gP h; clear h; obtain ⟨c, h⟩ := h_
  replace h := evR h; cases h
  refine zz ?_
  exact zend
theorem laws_FnOps_ev (l0 : List Int) (r : Bool) (h : laws_FnOps.fv l0 = some r) : CE (G m_) 3 [.val (.row (l0.map (VV.int .u8)))] [] [.val (.bool r)] [] := by
  obtain ⟨k, h⟩ := lim_ex h
  refine CE.mk ⟨Tryz.f3, _, rfl, rfl, ⟨by kernel_rfl, Nat.le_of_ble_eq_true rfl, Nat.le_of_ble_eq_true rfl⟩, ?_⟩
  rcases k with _ | k
  · exact (run_zero h).elim
  rw [run_succ, laws_FnOps.B] at h
  have h_ := evO h; clear h; obtain ⟨t10, ht, h⟩ := h_
  refine zz ?_
  refine Exists.intro _ (And.intro (laws_big_ev (h := ht)) ?_)
  refine zz ?_
  refine br (iP h) ?_ ?_ <;> (clear h; intro c h)
  ·replace h := evR h; cases h
   refine zz ?_
   exact zend
  have h_ := evO h; clear h; obtain ⟨t13, ht, h⟩ := h_
  refine zz ?_
  refine Exists.intro _ (And.intro (spec_DrawOpsOk_ev (h := ht)) ?_)
  have h_ := evO h; clear h; obtain ⟨t20, ht, h⟩ := h_
  refine zz ?_
  refine Exists.intro _ (And.intro (impl_OpsOk_ev (h := ht)) ?_)
  have h_ := evO h; clear h; obtain ⟨t22, ht, h⟩ := h_
  refine zz ?_
  refine Exists.intro _ (And.intro (spec_DrawOpText_ev (h := ht)) ?_)
  refine zz ?_
  refine cutJ (n := 35) [] (fun fr hp => ∃ kq, kq ≤ k ∧ ∃ (x3 : List S29) (x6 : Bool), run laws_FnOps.B kq (.j0 x3 x6) = some r ∧ (∃ fr0, fr = puts [(3, .one (.val (.row (x3.map e29)))), (6, .one (.val (.bool x6)))] fr0) ∧ hp = (fun _ => none)) ?_ ?_
  ·refine zz ?_
   refine cutJ (n := 200006) [] (fun fr hp => ∃ kq, kq ≤ k ∧ ∃ (x3 : List S29) (x6 x35 : Bool), run laws_FnOps.B kq (.j1 x3 x6 x35) = some r ∧ (∃ fr0, fr = puts [(3, .one (.val (.row (x3.map e29)))), (6, .one (.val (.bool x6))), (35, .one (.val (.bool x35)))] fr0) ∧ hp = (fun _ => none)) ?_ ?_
   ·have h_ := evO h; clear h; obtain ⟨t27, ht, h⟩ := h_
    refine zz ?_
    refine Exists.intro _ (And.intro (spec_OpsOk_ev (h := ht)) ?_)
    refine zz ?_
    refine brX (iP h) ?_ ?_ <;> (clear h; intro c h)
    rotate_left
    ·refine zr ?_
     refine zr ?_
     refine zr ?_
     refine zr ?_
     refine zl ?_
     replace h := evT h
     refine zz ?_
     exact ⟨_, zfuel, _, _, _, h, leafFr [3, 6, 35] (by kernel_rfl), by kernel_rfl⟩
    refine zl ?_
    have h_ := evO h; clear h; obtain ⟨t31, ht, h⟩ := h_
    refine zz ?_
    refine Exists.intro _ (And.intro (impl_OpText_ev (h := ht)) ?_)
    refine zl ?_
    refine zl ?_
    have h_ := evO h; clear h; obtain ⟨t33, ht, h⟩ := h_
    refine zz ?_
    refine Exists.intro _ (And.intro (spec_OpText_ev (h := ht)) ?_)
    refine zl ?_
    refine zr ?_
    replace h := evT h
    refine zz ?_
    exact ⟨_, zfuel, _, _, _, h, leafFr [3, 6, 35] (by kernel_rfl), by kernel_rfl⟩
   clear h; rintro _ _ ⟨k, hle, x3, x6, x35, h, ⟨fr0, rfl⟩, rfl⟩
   rcases k with _ | k
   · exact (run_zero h).elim
   rw [run_succ, laws_FnOps.B] at h
   refine zz ?_
   refine br (iP h) ?_ ?_ <;> (clear h; intro c h)
   ·replace h := evR h; cases h
    refine zz ?_
    exact zend
   replace h := evT h
   refine zz ?_
   exact ⟨_, zfuel, _, _, h, leafFr [3, 6] (by kernel_rfl), by kernel_rfl⟩
  clear h; rintro _ _ ⟨k, hle, x3, x6, h, ⟨fr0, rfl⟩, rfl⟩
  rcases k with _ | k
  · exact (run_zero h).elim
  rw [run_succ, laws_FnOps.B] at h
  replace h := evT h
  refine zz ?_
  refine loopJ [] (fun kq fr hp => ∃ (x3 : List S29) (x6 : Bool) (x8 : Int), run laws_FnOps.B kq (.l0 x3 x6 x8) = some r ∧ (∃ fr0, fr = puts [(3, .one (.val (.row (x3.map e29)))), (6, .one (.val (.bool x6))), (8, .one (.val (.int .i64 x8)))] fr0) ∧ hp = (fun _ => none)) k ⟨_, zfuel, _, _, _, h, leafFr [3, 6, 8] (by kernel_rfl), by kernel_rfl⟩ ?_
  clear h; rintro k hle _ _ ⟨x3, x6, x8, h, ⟨fr0, rfl⟩, rfl⟩
  rcases k with _ | k
  · exact (run_zero h).elim
  rw [run_succ, laws_FnOps.B] at h
  refine zz ?_
  refine cutJ (n := 42) [] (fun fr hp => ∃ kq, kq ≤ k ∧ ∃ (x3 : List S29) (x6 : Bool) (x8 : Int), run laws_FnOps.B kq (.j2 x3 x6 x8) = some r ∧ (∃ fr0, fr = puts [(3, .one (.val (.row (x3.map e29)))), (6, .one (.val (.bool x6))), (8, .one (.val (.int .i64 x8)))] fr0) ∧ hp = (fun _ => none)) ?_ ?_
  ·refine zz ?_
   refine cutJ (n := 200009) [] (fun fr hp => ∃ kq, kq ≤ k ∧ ∃ (x3 : List S29) (x6 : Bool) (x8 : Int) (x42 : Bool), run laws_FnOps.B kq (.j3 x3 x6 x8 x42) = some r ∧ (∃ fr0, fr = puts [(3, .one (.val (.row (x3.map e29)))), (6, .one (.val (.bool x6))), (8, .one (.val (.int .i64 x8))), (42, .one (.val (.bool x42)))] fr0) ∧ hp = (fun _ => none)) ?_ ?_
   ·refine zz ?_
    refine br (iP h) ?_ ?_ <;> (clear h; intro c h)
    ·refine zl ?_
     replace h := evT h
     refine zz ?_
     exact ⟨_, zfuel, _, _, _, _, h, leafFr [3, 6, 8, 42] (by kernel_rfl), by kernel_rfl⟩
    refine zr ?_
    replace h := evT h
    refine zz ?_
    exact ⟨_, zfuel, _, _, _, _, h, leafFr [3, 6, 8, 42] (by kernel_rfl), by kernel_rfl⟩
   clear h; rintro _ _ ⟨k, hle, x3, x6, x8, x42, h, ⟨fr0, rfl⟩, rfl⟩
   rcases k with _ | k
   · exact (run_zero h).elim
   rw [run_succ, laws_FnOps.B] at h
   refine zz ?_
   refine br (iP h) ?_ ?_ <;> (clear h; intro c h)
   ·replace h := evT h
    refine zz ?_
    exact ⟨_, zfuel, _, _, _, h, leafFr [3, 6, 8] (by kernel_rfl), by kernel_rfl⟩
   replace h := evR h; cases h
   refine zz ?_
   exact zend
  clear h; rintro _ _ ⟨k, hle, x3, x6, x8, h, ⟨fr0, rfl⟩, rfl⟩
  rcases k with _ | k
  · exact (run_zero h).elim
  rw [run_succ, laws_FnOps.B] at h
  have h_ := gP h; clear h; obtain ⟨c, h⟩ := h_
  have h_ := gP h; clear h; obtain ⟨c, h⟩ := h_
  have h_ := evO h; clear h; obtain ⟨t49, ht, h⟩ := h_
  refine zz ?_
  refine Exists.intro _ (And.intro (impl_OpText_ev (h := ht)) ?_)
  refine zz ?_
  refine br (iP h) ?_ ?_ <;> (clear h; intro c h)
  ·replace h := evR h; cases h
   refine zz ?_
   exact zend
  replace h := evT h
  refine zz ?_
  exact ⟨_, zfuel, _, _, _, h, leafFr [3, 6, 8] (by kernel_rfl), by kernel_rfl⟩
end Go.Proofs.YtchhkbkbbglgbaaGreatDoor.TFnOps
