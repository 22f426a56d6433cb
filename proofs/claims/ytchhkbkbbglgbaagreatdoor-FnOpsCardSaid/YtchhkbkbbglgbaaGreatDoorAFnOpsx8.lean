/- The walks of the functions that FnOps reaches, through the abstract machine. -/
import Derived.Test.YtchhkbkbbglgbaaGreatDoorAFnOpsh
import Derived.Test.YtchhkbkbbglgbaaGreatDoorAFnOpsx0
import Derived.Test.YtchhkbkbbglgbaaGreatDoorAFnOpsx7
import Derived.Test.YtchhkbkbbglgbaaGreatDoorFFnOps
import Derived.Test.YtchhkbkbbglgbaaGreatDoorProg
set_option maxHeartbeats 4000000
set_option maxRecDepth 100000
set_option linter.unusedVariables false
set_option linter.unusedSimpArgs false
namespace Go.Proofs.YtchhkbkbbglgbaaGreatDoor.TFnOps
open Go Go.RowKit Go.Proofs Go.Proofs.YtchhkbkbbglgbaaGreatDoorW.AM Go.Proofs.YtchhkbkbbglgbaaGreatDoor.QFnOps Go.Proofs.YtchhkbkbbglgbaaGreatDoorW.PrintWords Go.Proofs.YtchhkbkbbglgbaaGreatDoorW.Pgs
variable {m_ : Int}
theorem impl_rexReader_take_ev (s0_0 : ByteArray) (s0_1 : Bool) (a1 : Int) (r1 : Bool) (r2 : ByteArray) (r3 : Bool) (h : impl_rexReader_take.f s0_0 s0_1 a1 = some (r1, r2, r3)) : CE (G m_) 89 [.ptr 0 0, .val (.int .u8 a1)] [.box [.val (.str s0_0), .val (.bool s0_1)]] [.val (.bool r1)] [.box [.val (.str r2), .val (.bool r3)]] := by
  refine CE.mk ⟨Tryz.f89, _, rfl, rfl, ⟨by kernel_rfl, Nat.le_of_ble_eq_true rfl, Nat.le_of_ble_eq_true rfl⟩, ?_⟩
  rw [impl_rexReader_take.f] at h
  have h_ := oS h; clear h; obtain ⟨t9, ht, h⟩ := h_
  refine zz ?_
  refine Exists.intro _ (Exists.intro _ (And.intro (impl_rexReader_next_ev (h := ht)) ?_))
  refine zz ?_
  refine brX (iteS h) ?_ ?_ <;> (clear h; intro c h)
  rotate_left
  ·refine zr ?_
   refine zr ?_
   refine zl ?_
   refine zl ?_
   cases h
   refine zz ?_
   exact zend
  refine zl ?_
  refine zl ?_
  refine zr ?_
  refine zz ?_
  refine brN (iteS h) ?_ ?_ <;> (clear h; intro c h)
  ·cases h
   refine zz ?_
   exact zend
  have h_ := gS h; clear h; obtain ⟨c, h⟩ := h_
  cases h
  refine zz ?_
  exact zend
theorem impl_rexReader_set_ev (s0_0 : ByteArray) (s0_1 : Bool) (r1 r2 : Int) (r3 : ByteArray) (r4 : Bool) (r5 : List S57) (r6 : ByteArray) (r7 : Bool) (h : impl_rexReader_set.fv s0_0 s0_1 = some (r1, r2, r3, r4, r5, r6, r7)) : CE (G m_) 155 [.ptr 0 0] [.box [.val (.str s0_0), .val (.bool s0_1)]] [.val (.agg [.int .i64 r1, .int .i64 r2, .str r3, .bool r4, .row (r5.map e57)])] [.box [.val (.str r6), .val (.bool r7)]] := by
  obtain ⟨k, h⟩ := lim_ex h
  refine CE.mk ⟨Tryz.f155, _, rfl, rfl, ⟨by kernel_rfl, Nat.le_of_ble_eq_true rfl, Nat.le_of_ble_eq_true rfl⟩, ?_⟩
  rcases k with _ | k
  · exact (run_zero h).elim
  rw [run_succ, impl_rexReader_set.B] at h
  have h_ := evO h; clear h; obtain ⟨t15, ht, h⟩ := h_
  refine zz ?_
  refine Exists.intro _ (Exists.intro _ (And.intro (impl_rexReader_take_ev (h := ht)) ?_))
  have h_ := evO h; clear h; obtain ⟨t21, ht, h⟩ := h_
  refine zz ?_
  refine Exists.intro _ (And.intro (orc120 (h := ht)) ?_)
  refine zz ?_
  refine br (iP h) ?_ ?_ <;> (clear h; intro c h)
  ·replace h := evR h; cases h
   refine zz ?_
   exact zend
  have h_ := gP h; clear h; obtain ⟨c, h⟩ := h_
  have h_ := gP h; clear h; obtain ⟨c, h⟩ := h_
  have h_ := gP h; clear h; obtain ⟨c, h⟩ := h_
  have h_ := gP h; clear h; obtain ⟨c, h⟩ := h_
  have h_ := gP h; clear h; obtain ⟨c, h⟩ := h_
  refine zz ?_
  refine Exists.intro (List.map VV.bool (List.replicate 256 false)) (And.intro zrow ?_)
  replace h := evT h
  refine zz ?_
  refine loopJ [0, 16, 531, 4112] (fun kq fr hp => ∃ (x5 : ByteArray) (x6 : List Bool) (x7 : Int) (x1000 : ByteArray) (x1001 : Bool) (x531_0 x531_1 : Int) (x531_2 : ByteArray) (x531_3 : Bool) (g4112 : Nat), run impl_rexReader_set.B kq (.l0 x5 x6 x7 x1000 x1001 x531_0 x531_1 x531_2 x531_3) = some (r1, r2, r3, r4, r5, r6, r7) ∧ (∃ fr0, fr = puts [(0, .one (.ptr 0 0)), (2, .one (.ptr 16 0)), (3, .one (.ptr 531 0)), (5, .one (.val (.str x5))), (6, .one (.ref 4112 g4112)), (7, .one (.val (.int .i64 x7)))] fr0) ∧ hp = (upd 0 (.box [.val (.str x1000), .val (.bool x1001)]) (upd 16 (.box [.val (.int .i64 0), .val (.int .i64 0), .val (.str (⟨#[]⟩ : ByteArray)), .val (.bool false), .nilrow]) (upd 531 (.box [.val (.int .i64 x531_0), .val (.int .i64 x531_1), .val (.str x531_2), .val (.bool x531_3), .val (.row (([] : List S57).map e57))]) (upd 4112 (.own 4 1 (x6.map VV.bool) g4112 false) (fun _ => none)))))) k ⟨_, zfuel, _, _, _, _, _, _, _, _, _, 0, h, leafFr [0, 2, 3, 5, 6, 7] (by kernel_rfl), by kernel_rfl⟩ ?_
  clear h; rintro k hle _ _ ⟨x5, x6, x7, x1000, x1001, x531_0, x531_1, x531_2, x531_3, g4112, h, ⟨fr0, rfl⟩, rfl⟩
  rcases k with _ | k
  · exact (run_zero h).elim
  rw [run_succ, impl_rexReader_set.B] at h
  refine zz ?_
  refine br (iP h) ?_ ?_ <;> (clear h; intro c h)
  ·have h_ := gP h; clear h; obtain ⟨c, h⟩ := h_
   refine zz ?_
   refine cutJ (n := 70) [0, 16, 531, 4112] (fun fr hp => ∃ kq, kq ≤ k ∧ ∃ (x5 : ByteArray) (x6 : List Bool) (x7 x8 x9 : Int) (x1000 : ByteArray) (x1001 : Bool) (x531_0 x531_1 : Int) (x531_2 : ByteArray) (x531_3 : Bool) (g4112 : Nat), run impl_rexReader_set.B kq (.j2 x5 x6 x7 x8 x9 x1000 x1001 x531_0 x531_1 x531_2 x531_3) = some (r1, r2, r3, r4, r5, r6, r7) ∧ (∃ fr0, fr = puts [(0, .one (.ptr 0 0)), (2, .one (.ptr 16 0)), (3, .one (.ptr 531 0)), (5, .one (.val (.str x5))), (6, .one (.ref 4112 g4112)), (7, .one (.val (.int .i64 x7))), (8, .one (.val (.int .i64 x8))), (9, .one (.val (.int .i64 x9)))] fr0) ∧ hp = (upd 0 (.box [.val (.str x1000), .val (.bool x1001)]) (upd 16 (.box [.val (.int .i64 0), .val (.int .i64 0), .val (.str (⟨#[]⟩ : ByteArray)), .val (.bool false), .nilrow]) (upd 531 (.box [.val (.int .i64 x531_0), .val (.int .i64 x531_1), .val (.str x531_2), .val (.bool x531_3), .val (.row (([] : List S57).map e57))]) (upd 4112 (.own 4 1 (x6.map VV.bool) g4112 false) (fun _ => none)))))) ?_ ?_
   ·refine zz ?_
    refine cutJ (n := 200013) [0, 16, 531, 4112] (fun fr hp => ∃ kq, kq ≤ k ∧ ∃ (x5 : ByteArray) (x6 : List Bool) (x7 x8 x9 : Int) (x70 : Bool) (x1000 : ByteArray) (x1001 : Bool) (x531_0 x531_1 : Int) (x531_2 : ByteArray) (x531_3 : Bool) (g4112 : Nat), run impl_rexReader_set.B kq (.j1 x5 x6 x7 x8 x9 x70 x1000 x1001 x531_0 x531_1 x531_2 x531_3) = some (r1, r2, r3, r4, r5, r6, r7) ∧ (∃ fr0, fr = puts [(0, .one (.ptr 0 0)), (2, .one (.ptr 16 0)), (3, .one (.ptr 531 0)), (5, .one (.val (.str x5))), (6, .one (.ref 4112 g4112)), (7, .one (.val (.int .i64 x7))), (8, .one (.val (.int .i64 x8))), (9, .one (.val (.int .i64 x9))), (70, .one (.val (.bool x70)))] fr0) ∧ hp = (upd 0 (.box [.val (.str x1000), .val (.bool x1001)]) (upd 16 (.box [.val (.int .i64 0), .val (.int .i64 0), .val (.str (⟨#[]⟩ : ByteArray)), .val (.bool false), .nilrow]) (upd 531 (.box [.val (.int .i64 x531_0), .val (.int .i64 x531_1), .val (.str x531_2), .val (.bool x531_3), .val (.row (([] : List S57).map e57))]) (upd 4112 (.own 4 1 (x6.map VV.bool) g4112 false) (fun _ => none)))))) ?_ ?_
    ·refine zz ?_
     refine br (iP h) ?_ ?_ <;> (clear h; intro c h)
     rotate_left
     ·refine zr ?_
      refine zr ?_
      refine zr ?_
      refine zr ?_
      refine zr ?_
      replace h := evT h
      refine zz ?_
      exact ⟨_, zfuel, _, _, _, _, _, _, _, _, _, _, _, _, g4112, h, leafFr [0, 2, 3, 5, 6, 7, 8, 9, 70] (by kernel_rfl), by kernel_rfl⟩
     refine zl ?_
     refine zl ?_
     refine zl ?_
     have h_ := gP h; clear h; obtain ⟨c, h⟩ := h_
     have h_ := gP h; clear h; obtain ⟨c, h⟩ := h_
     refine zl ?_
     refine zl ?_
     replace h := evT h
     refine zz ?_
     exact ⟨_, zfuel, _, _, _, _, _, _, _, _, _, _, _, _, g4112, h, leafFr [0, 2, 3, 5, 6, 7, 8, 9, 70] (by kernel_rfl), by kernel_rfl⟩
    clear h; rintro _ _ ⟨k, hle, x5, x6, x7, x8, x9, x70, x1000, x1001, x531_0, x531_1, x531_2, x531_3, g4112, h, ⟨fr0, rfl⟩, rfl⟩
    rcases k with _ | k
    · exact (run_zero h).elim
    rw [run_succ, impl_rexReader_set.B] at h
    refine zz ?_
    refine br (iP h) ?_ ?_ <;> (clear h; intro c h)
    rotate_left
    ·replace h := evT h
     refine zz ?_
     exact ⟨_, zfuel, _, _, _, _, _, _, _, _, _, _, _, g4112, h, leafFr [0, 2, 3, 5, 6, 7, 8, 9] (by kernel_rfl), by kernel_rfl⟩
    have h_ := gP h; clear h; obtain ⟨c, h⟩ := h_
    have h_ := gP h; clear h; obtain ⟨c, h⟩ := h_
    refine zz ?_
    refine brW (iP h) ?_ ?_ <;> (clear h; intro c h)
    ·refine zl ?_
     refine zl ?_
     refine zr ?_
     replace h := evT h
     refine zz ?_
     exact ⟨_, zfuel, _, _, _, _, _, _, _, _, _, _, _, g4112, h, leafFr [0, 2, 3, 5, 6, 7, 8, 9] (by kernel_rfl), by kernel_rfl⟩
    refine zr ?_
    refine zr ?_
    refine zl ?_
    replace h := evT h
    refine zz ?_
    exact ⟨_, zfuel, _, _, _, _, _, _, _, _, _, _, _, g4112, h, leafFr [0, 2, 3, 5, 6, 7, 8, 9] (by kernel_rfl), by kernel_rfl⟩
   clear h; rintro _ _ ⟨k, hle, x5, x6, x7, x8, x9, x1000, x1001, x531_0, x531_1, x531_2, x531_3, g4112, h, ⟨fr0, rfl⟩, rfl⟩
   rcases k with _ | k
   · exact (run_zero h).elim
   rw [run_succ, impl_rexReader_set.B] at h
   replace h := evT h
   refine zz ?_
   refine loopJ [0, 16, 531, 4112] (fun kq fr hp => ∃ (x5 : ByteArray) (x6 : List Bool) (x7 x9 x10 : Int) (x1000 : ByteArray) (x1001 : Bool) (x531_0 x531_1 : Int) (x531_2 : ByteArray) (x531_3 : Bool) (g4112 : Nat), run impl_rexReader_set.B kq (.l1 x5 x6 x7 x9 x10 x1000 x1001 x531_0 x531_1 x531_2 x531_3) = some (r1, r2, r3, r4, r5, r6, r7) ∧ (∃ fr0, fr = puts [(0, .one (.ptr 0 0)), (2, .one (.ptr 16 0)), (3, .one (.ptr 531 0)), (5, .one (.val (.str x5))), (6, .one (.ref 4112 g4112)), (7, .one (.val (.int .i64 x7))), (9, .one (.val (.int .i64 x9))), (10, .one (.val (.int .i64 x10)))] fr0) ∧ hp = (upd 0 (.box [.val (.str x1000), .val (.bool x1001)]) (upd 16 (.box [.val (.int .i64 0), .val (.int .i64 0), .val (.str (⟨#[]⟩ : ByteArray)), .val (.bool false), .nilrow]) (upd 531 (.box [.val (.int .i64 x531_0), .val (.int .i64 x531_1), .val (.str x531_2), .val (.bool x531_3), .val (.row (([] : List S57).map e57))]) (upd 4112 (.own 4 1 (x6.map VV.bool) g4112 false) (fun _ => none)))))) k ⟨_, zfuel, _, _, _, _, _, _, _, _, _, _, _, g4112, h, leafFr [0, 2, 3, 5, 6, 7, 9, 10] (by kernel_rfl), by kernel_rfl⟩ ?_
   clear h; rintro k hle _ _ ⟨x5, x6, x7, x9, x10, x1000, x1001, x531_0, x531_1, x531_2, x531_3, g4112, h, ⟨fr0, rfl⟩, rfl⟩
   rcases k with _ | k
   · exact (run_zero h).elim
   rw [run_succ, impl_rexReader_set.B] at h
   refine zz ?_
   refine br (iP h) ?_ ?_ <;> (clear h; intro c h)
   rotate_left
   ·replace h := evT h
    refine zz ?_
    exact ⟨_, zfuel, _, _, _, _, _, _, _, _, _, g4112, h, leafFr [0, 2, 3, 5, 6, 7] (by kernel_rfl), by kernel_rfl⟩
   have h_ := gP h; clear h; obtain ⟨c, h⟩ := h_
   have h_ := gP h; clear h; obtain ⟨c, h⟩ := h_
   refine zz ?_
   refine Exists.intro (List.map VV.bool (x6.set (x10 : Int).toNat true)) (And.intro zrow ?_)
   replace h := evT h
   refine zz ?_
   exact ⟨_, zfuel, _, _, _, _, _, _, _, _, _, _, _, g4112, h, leafFr [0, 2, 3, 5, 6, 7, 9, 10] (by kernel_rfl), by kernel_rfl⟩
  refine zz ?_
  refine Exists.intro (List.map (VV.int .u8) ([] : List Int)) (And.intro zrow ?_)
  replace h := evT h
  refine zz ?_
  refine loopJ [0, 16, 531, 4112, 10768] (fun kq fr hp => ∃ (x11 : List Int) (x100 : List Bool) (x101 x102 : Int) (x1000 : ByteArray) (x1001 : Bool) (x531_0 x531_1 : Int) (x531_2 : ByteArray) (x531_3 : Bool) (g10768 g4112 : Nat), run impl_rexReader_set.B kq (.l2 x11 x100 x101 x102 x1000 x1001 x531_0 x531_1 x531_2 x531_3) = some (r1, r2, r3, r4, r5, r6, r7) ∧ (∃ fr0, fr = puts [(2, .one (.ptr 16 0)), (3, .one (.ptr 531 0)), (11, .one (.ref 10768 g10768)), (100, .one (.ref 4112 g4112)), (101, .one (.val (.int .i64 x101))), (102, .one (.val (.int .i64 x102)))] fr0) ∧ hp = (upd 0 (.box [.val (.str x1000), .val (.bool x1001)]) (upd 16 (.box [.val (.int .i64 0), .val (.int .i64 0), .val (.str (⟨#[]⟩ : ByteArray)), .val (.bool false), .nilrow]) (upd 531 (.box [.val (.int .i64 x531_0), .val (.int .i64 x531_1), .val (.str x531_2), .val (.bool x531_3), .val (.row (([] : List S57).map e57))]) (upd 4112 (.own 4 1 (x100.map VV.bool) g4112 false) (upd 10768 (.own 5 1 (x11.map (VV.int .u8)) g10768 false) (fun _ => none))))))) k ⟨_, zfuel, _, _, _, _, _, _, _, _, _, _, 0, g4112, h, leafFr [2, 3, 11, 100, 101, 102] (by kernel_rfl), by kernel_rfl⟩ ?_
  clear h; rintro k hle _ _ ⟨x11, x100, x101, x102, x1000, x1001, x531_0, x531_1, x531_2, x531_3, g10768, g4112, h, ⟨fr0, rfl⟩, rfl⟩
  rcases k with _ | k
  · exact (run_zero h).elim
  rw [run_succ, impl_rexReader_set.B] at h
  refine zz ?_
  refine br (iP h) ?_ ?_ <;> (clear h; intro c h)
  rotate_left
  ·replace h := evR h; cases h
   refine zz ?_
   exact zend
  have h_ := gP h; clear h; obtain ⟨c, h⟩ := h_
  have h_ := gP h; clear h; obtain ⟨c, h⟩ := h_
  refine zz ?_
  refine br (iP h) ?_ ?_ <;> (clear h; intro c h)
  rotate_left
  ·replace h := evT h
   refine zz ?_
   exact ⟨_, zfuel, _, _, _, _, _, _, _, _, _, _, g10768, g4112, h, leafFr [2, 3, 11, 100, 101, 102] (by kernel_rfl), by kernel_rfl⟩
  refine zz ?_
  refine Exists.intro (List.map (VV.int .u8) ([((x102) % 256)] : List Int)) (And.intro zrow ?_)
  have h_ := gP h; clear h; obtain ⟨c, h⟩ := h_
  refine zz ?_
  refine Exists.intro (List.map (VV.int .u8) (x11 ++ [((x102) % 256)])) (And.intro zrow ?_)
  replace h := evT h
  refine zz ?_
  exact ⟨_, zfuel, _, _, _, _, _, _, _, _, _, _, (g10768 + 1), g4112, h, leafFr [2, 3, 11, 100, 101, 102] (by kernel_rfl), by kernel_rfl⟩
theorem impl_repeatOf_ev (a0 r : Int) (h : impl_repeatOf.f a0 = some r) : CE (G m_) 140 [.val (.int .u8 a0)] [] [.val (.int .i64 r)] [] := by
  refine CE.mk ⟨Tryz.f140, _, rfl, rfl, ⟨by kernel_rfl, Nat.le_of_ble_eq_true rfl, Nat.le_of_ble_eq_true rfl⟩, ?_⟩
  rw [impl_repeatOf.f] at h
  refine zz ?_
  refine br (iteS h) ?_ ?_ <;> (clear h; intro c h)
  ·cases h
   refine zz ?_
   exact zend
  refine zz ?_
  refine br (iteS h) ?_ ?_ <;> (clear h; intro c h)
  ·cases h
   refine zz ?_
   exact zend
  refine zz ?_
  refine br (iteS h) ?_ ?_ <;> (clear h; intro c h)
  ·cases h
   refine zz ?_
   exact zend
  cases h
  refine zz ?_
  exact zend
theorem impl_rexReader_pattern_all : ∀ n, (∀ (k : Nat) (s0_0 : ByteArray) (s0_1 : Bool) (r1 r2 : Int) (r3 : ByteArray) (r4 : Bool) (r5 : List S57) (r6 : ByteArray) (r7 : Bool) (h : run impl_rexReader_pattern.B k (.impl_rexReader_pattern_f s0_0 s0_1) = some (r1, r2, r3, r4, r5, r6, r7)) (hk : k < n), CE (G m_) 60 [.ptr 0 0] [.box [.val (.str s0_0), .val (.bool s0_1)]] [.val (.agg [.int .i64 r1, .int .i64 r2, .str r3, .bool r4, .row (r5.map e57)])] [.box [.val (.str r6), .val (.bool r7)]]) ∧ (∀ (k : Nat) (s0_0 : ByteArray) (s0_1 : Bool) (r1 r2 : Int) (r3 : ByteArray) (r4 : Bool) (r5 : List S57) (r6 : ByteArray) (r7 : Bool) (h : run impl_rexReader_pattern.B k (.impl_rexReader_part_f s0_0 s0_1) = some (r1, r2, r3, r4, r5, r6, r7)) (hk : k < n), CE (G m_) 88 [.ptr 0 0] [.box [.val (.str s0_0), .val (.bool s0_1)]] [.val (.agg [.int .i64 r1, .int .i64 r2, .str r3, .bool r4, .row (r5.map e57)])] [.box [.val (.str r6), .val (.bool r7)]]) ∧ (∀ (k : Nat) (s0_0 : ByteArray) (s0_1 : Bool) (r1 r2 : Int) (r3 : ByteArray) (r4 : Bool) (r5 : List S57) (r6 : ByteArray) (r7 : Bool) (h : run impl_rexReader_pattern.B k (.impl_rexReader_piece_f s0_0 s0_1) = some (r1, r2, r3, r4, r5, r6, r7)) (hk : k < n), CE (G m_) 117 [.ptr 0 0] [.box [.val (.str s0_0), .val (.bool s0_1)]] [.val (.agg [.int .i64 r1, .int .i64 r2, .str r3, .bool r4, .row (r5.map e57)])] [.box [.val (.str r6), .val (.bool r7)]]) ∧ (∀ (k : Nat) (s0_0 : ByteArray) (s0_1 : Bool) (r1 r2 : Int) (r3 : ByteArray) (r4 : Bool) (r5 : List S57) (r6 : ByteArray) (r7 : Bool) (h : run impl_rexReader_pattern.B k (.impl_rexReader_atom_f s0_0 s0_1) = some (r1, r2, r3, r4, r5, r6, r7)) (hk : k < n), CE (G m_) 139 [.ptr 0 0] [.box [.val (.str s0_0), .val (.bool s0_1)]] [.val (.agg [.int .i64 r1, .int .i64 r2, .str r3, .bool r4, .row (r5.map e57)])] [.box [.val (.str r6), .val (.bool r7)]]) := by
  intro n
  induction n with
  | zero => exact ⟨by intros; omega, by intros; omega, by intros; omega, by intros; omega⟩
  | succ n ih =>
    refine ⟨?_, ?_, ?_, ?_⟩
    · intro k s0_0 s0_1 r1 r2 r3 r4 r5 r6 r7 h hk
      refine CE.mk ⟨Tryz.f60, _, rfl, rfl, ⟨by kernel_rfl, Nat.le_of_ble_eq_true rfl, Nat.le_of_ble_eq_true rfl⟩, ?_⟩
      rcases k with _ | k
      · exact (run_zero h).elim
      rw [run_succ, impl_rexReader_pattern.B] at h
      have h_ := evA h; clear h; obtain ⟨t5, ht, h⟩ := h_
      refine zz ?_
      refine Exists.intro _ (Exists.intro _ (And.intro (ih.2.1 _ (h := ht) (hk := zfuel)) ?_))
      refine zz ?_
      refine Exists.intro (List.map e57 ([(⟨t5.1, t5.2.1, t5.2.2.1, t5.2.2.2.1, t5.2.2.2.2.1⟩ : S57)] : List S57)) (And.intro zrow ?_)
      replace h := evT h
      refine zz ?_
      refine loopJ [0, 16, 530] (fun kq fr hp => ∃ (x3 : List S57) (x1000 : ByteArray) (x1001 : Bool) (g530 : Nat), run impl_rexReader_pattern.B kq (.impl_rexReader_pattern_l0 x3 x1000 x1001) = some (r1, r2, r3, r4, r5, r6, r7) ∧ (∃ fr0, fr = puts [(0, .one (.ptr 0 0)), (2, .one (.ptr 16 0)), (3, .one (.ref 530 g530))] fr0) ∧ hp = (upd 0 (.box [.val (.str x1000), .val (.bool x1001)]) (upd 16 (.box [.val (.int .i64 0), .val (.int .i64 0), .val (.str (⟨#[]⟩ : ByteArray)), .val (.bool false), .nilrow]) (upd 530 (.own 57 5 (x3.map e57) g530 false) (fun _ => none))))) k ⟨_, zfuel, _, _, _, 0, h, leafFr [0, 2, 3] (by kernel_rfl), by kernel_rfl⟩ ?_
      clear h; rintro k hle _ _ ⟨x3, x1000, x1001, g530, h, ⟨fr0, rfl⟩, rfl⟩
      rcases k with _ | k
      · exact (run_zero h).elim
      rw [run_succ, impl_rexReader_pattern.B] at h
      have h_ := evO h; clear h; obtain ⟨t8, ht, h⟩ := h_
      refine zz ?_
      refine Exists.intro _ (Exists.intro _ (And.intro (impl_rexReader_take_ev (h := ht)) ?_))
      refine zz ?_
      refine br (iP h) ?_ ?_ <;> (clear h; intro c h)
      rotate_left
      ·refine zz ?_
       refine br (iP h) ?_ ?_ <;> (clear h; intro c h)
       rotate_left
       ·replace h := evR h; cases h
        refine zz ?_
        exact zend
       have h_ := gP h; clear h; obtain ⟨c, h⟩ := h_
       replace h := evR h; cases h
       refine zz ?_
       exact zend
      have h_ := evA h; clear h; obtain ⟨t11, ht, h⟩ := h_
      refine zz ?_
      refine Exists.intro _ (Exists.intro _ (And.intro (ih.2.1 _ (h := ht) (hk := zfuel)) ?_))
      refine zz ?_
      refine Exists.intro (List.map e57 ([(⟨t11.1, t11.2.1, t11.2.2.1, t11.2.2.2.1, t11.2.2.2.2.1⟩ : S57)] : List S57)) (And.intro zrow ?_)
      have h_ := gP h; clear h; obtain ⟨c, h⟩ := h_
      refine zz ?_
      refine Exists.intro (List.map e57 (x3 ++ [(⟨t11.1, t11.2.1, t11.2.2.1, t11.2.2.2.1, t11.2.2.2.2.1⟩ : S57)])) (And.intro zrow ?_)
      replace h := evT h
      refine zz ?_
      exact ⟨_, zfuel, _, _, _, (g530 + 1), h, leafFr [0, 2, 3] (by kernel_rfl), by kernel_rfl⟩
    · intro k s0_0 s0_1 r1 r2 r3 r4 r5 r6 r7 h hk
      refine CE.mk ⟨Tryz.f88, _, rfl, rfl, ⟨by kernel_rfl, Nat.le_of_ble_eq_true rfl, Nat.le_of_ble_eq_true rfl⟩, ?_⟩
      rcases k with _ | k
      · exact (run_zero h).elim
      rw [run_succ, impl_rexReader_pattern.B] at h
      refine zz ?_
      refine Exists.intro (List.map e57 ([] : List S57)) (And.intro zrow ?_)
      refine zz ?_
      refine cutJ (n := 100000) [0, 16, 528] (fun fr hp => ∃ kq, kq ≤ k ∧ ∃ (x3 : List S57) (x1000 : ByteArray) (x1001 : Bool) (g528 : Nat), run impl_rexReader_pattern.B kq (.impl_rexReader_part_j1 x3 x1000 x1001) = some (r1, r2, r3, r4, r5, r6, r7) ∧ (∃ fr0, fr = puts [(2, .one (.ptr 16 0)), (3, .one (.ref 528 g528))] fr0) ∧ hp = (upd 0 (.box [.val (.str x1000), .val (.bool x1001)]) (upd 16 (.box [.val (.int .i64 0), .val (.int .i64 0), .val (.str (⟨#[]⟩ : ByteArray)), .val (.bool false), .nilrow]) (upd 528 (.own 57 5 (x3.map e57) g528 false) (fun _ => none))))) ?_ ?_
      ·replace h := evT h
       refine zz ?_
       refine loopJ [0, 16, 528] (fun kq fr hp => ∃ (x3 : List S57) (x1000 : ByteArray) (x1001 : Bool) (g528 : Nat), run impl_rexReader_pattern.B kq (.impl_rexReader_part_l0 x3 x1000 x1001) = some (r1, r2, r3, r4, r5, r6, r7) ∧ (∃ fr0, fr = puts [(0, .one (.ptr 0 0)), (2, .one (.ptr 16 0)), (3, .one (.ref 528 g528))] fr0) ∧ hp = (upd 0 (.box [.val (.str x1000), .val (.bool x1001)]) (upd 16 (.box [.val (.int .i64 0), .val (.int .i64 0), .val (.str (⟨#[]⟩ : ByteArray)), .val (.bool false), .nilrow]) (upd 528 (.own 57 5 (x3.map e57) g528 false) (fun _ => none))))) k ⟨_, zfuel, _, _, _, 0, h, leafFr [0, 2, 3] (by kernel_rfl), by kernel_rfl⟩ ?_
       clear h; rintro k hle _ _ ⟨x3, x1000, x1001, g528, h, ⟨fr0, rfl⟩, rfl⟩
       rcases k with _ | k
       · exact (run_zero h).elim
       rw [run_succ, impl_rexReader_pattern.B] at h
       have h_ := evO h; clear h; obtain ⟨t9, ht, h⟩ := h_
       refine zz ?_
       refine Exists.intro _ (Exists.intro _ (And.intro (impl_rexReader_next_ev (h := ht)) ?_))
       refine zz ?_
       refine brX (iP h) ?_ ?_ <;> (clear h; intro c h)
       rotate_left
       ·refine zr ?_
        refine zl ?_
        refine zr ?_
        refine zr ?_
        refine zl ?_
        refine zl ?_
        replace h := evT h
        refine zz ?_
        exact ⟨_, zfuel, _, _, _, g528, h, leafFr [2, 3] (by kernel_rfl), by kernel_rfl⟩
       refine zl ?_
       refine zr ?_
       refine zz ?_
       refine brW (iP h) ?_ ?_ <;> (clear h; intro c h)
       rotate_left
       ·refine zr ?_
        refine zl ?_
        refine zl ?_
        replace h := evT h
        refine zz ?_
        exact ⟨_, zfuel, _, _, _, g528, h, leafFr [2, 3] (by kernel_rfl), by kernel_rfl⟩
       refine zl ?_
       refine zr ?_
       refine zz ?_
       refine br (iP h) ?_ ?_ <;> (clear h; intro c h)
       ·replace h := evT h
        refine zz ?_
        exact ⟨_, zfuel, _, _, _, g528, h, leafFr [2, 3] (by kernel_rfl), by kernel_rfl⟩
       have h_ := evA h; clear h; obtain ⟨t24, ht, h⟩ := h_
       refine zz ?_
       refine Exists.intro _ (Exists.intro _ (And.intro (ih.2.2.1 _ (h := ht) (hk := zfuel)) ?_))
       refine zz ?_
       refine Exists.intro (List.map e57 ([(⟨t24.1, t24.2.1, t24.2.2.1, t24.2.2.2.1, t24.2.2.2.2.1⟩ : S57)] : List S57)) (And.intro zrow ?_)
       have h_ := gP h; clear h; obtain ⟨c, h⟩ := h_
       refine zz ?_
       refine Exists.intro (List.map e57 (x3 ++ [(⟨t24.1, t24.2.1, t24.2.2.1, t24.2.2.2.1, t24.2.2.2.2.1⟩ : S57)])) (And.intro zrow ?_)
       replace h := evT h
       refine zz ?_
       exact ⟨_, zfuel, _, _, _, (g528 + 1), h, leafFr [0, 2, 3] (by kernel_rfl), by kernel_rfl⟩
      clear h; rintro _ _ ⟨k, hle, x3, x1000, x1001, g528, h, ⟨fr0, rfl⟩, rfl⟩
      rcases k with _ | k
      · exact (run_zero h).elim
      rw [run_succ, impl_rexReader_pattern.B] at h
      refine zz ?_
      refine br (iP h) ?_ ?_ <;> (clear h; intro c h)
      ·replace h := evR h; cases h
       refine zz ?_
       exact zend
      refine zz ?_
      refine br (iP h) ?_ ?_ <;> (clear h; intro c h)
      rotate_left
      ·replace h := evR h; cases h
       refine zz ?_
       exact zend
      have h_ := gP h; clear h; obtain ⟨c, h⟩ := h_
      replace h := evR h; cases h
      refine zz ?_
      exact zend
    · intro k s0_0 s0_1 r1 r2 r3 r4 r5 r6 r7 h hk
      refine CE.mk ⟨Tryz.f117, _, rfl, rfl, ⟨by kernel_rfl, Nat.le_of_ble_eq_true rfl, Nat.le_of_ble_eq_true rfl⟩, ?_⟩
      rcases k with _ | k
      · exact (run_zero h).elim
      rw [run_succ, impl_rexReader_pattern.B] at h
      have h_ := evA h; clear h; obtain ⟨t7, ht, h⟩ := h_
      refine zz ?_
      refine Exists.intro _ (Exists.intro _ (And.intro (ih.2.2.2 _ (h := ht) (hk := zfuel)) ?_))
      replace h := evT h
      refine zz ?_
      refine loopJ [0, 16, 530] (fun kq fr hp => ∃ (x1000 : ByteArray) (x1001 : Bool) (x530_0 x530_1 : Int) (x530_2 : ByteArray) (x530_3 : Bool) (x530_4 : List S57), run impl_rexReader_pattern.B kq (.impl_rexReader_piece_l0 x1000 x1001 x530_0 x530_1 x530_2 x530_3 x530_4) = some (r1, r2, r3, r4, r5, r6, r7) ∧ (∃ fr0, fr = puts [(0, .one (.ptr 0 0)), (2, .one (.ptr 16 0)), (3, .one (.ptr 530 0))] fr0) ∧ hp = (upd 0 (.box [.val (.str x1000), .val (.bool x1001)]) (upd 16 (.box [.val (.int .i64 0), .val (.int .i64 0), .val (.str (⟨#[]⟩ : ByteArray)), .val (.bool false), .nilrow]) (upd 530 (.box [.val (.int .i64 x530_0), .val (.int .i64 x530_1), .val (.str x530_2), .val (.bool x530_3), .val (.row (x530_4.map e57))]) (fun _ => none))))) k ⟨_, zfuel, _, _, _, _, _, _, _, h, leafFr [0, 2, 3] (by kernel_rfl), by kernel_rfl⟩ ?_
      clear h; rintro k hle _ _ ⟨x1000, x1001, x530_0, x530_1, x530_2, x530_3, x530_4, h, ⟨fr0, rfl⟩, rfl⟩
      rcases k with _ | k
      · exact (run_zero h).elim
      rw [run_succ, impl_rexReader_pattern.B] at h
      have h_ := evO h; clear h; obtain ⟨t10, ht, h⟩ := h_
      refine zz ?_
      refine Exists.intro _ (Exists.intro _ (And.intro (impl_rexReader_next_ev (h := ht)) ?_))
      refine zz ?_
      refine brX (iP h) ?_ ?_ <;> (clear h; intro c h)
      rotate_left
      ·refine zr ?_
       refine zr ?_
       refine zl ?_
       refine zl ?_
       replace h := evR h; cases h
       refine zz ?_
       exact zend
      refine zl ?_
      have h_ := evO h; clear h; obtain ⟨t17, ht, h⟩ := h_
      refine zz ?_
      refine Exists.intro _ (And.intro (impl_repeatOf_ev (h := ht)) ?_)
      refine zl ?_
      refine zr ?_
      refine zz ?_
      refine br (iP h) ?_ ?_ <;> (clear h; intro c h)
      ·replace h := evR h; cases h
       refine zz ?_
       exact zend
      have h_ := gP h; clear h; obtain ⟨c, h⟩ := h_
      have h_ := evO h; clear h; obtain ⟨t30, ht, h⟩ := h_
      refine zz ?_
      refine Exists.intro _ (And.intro (impl_repeatOf_ev (h := ht)) ?_)
      refine zz ?_
      refine Exists.intro (List.map e57 ([(⟨x530_0, x530_1, x530_2, x530_3, x530_4⟩ : S57)] : List S57)) (And.intro zrow ?_)
      replace h := evT h
      refine zz ?_
      exact ⟨_, zfuel, _, _, _, _, _, _, _, h, leafFr [0, 2, 3] (by kernel_rfl), by kernel_rfl⟩
    · intro k s0_0 s0_1 r1 r2 r3 r4 r5 r6 r7 h hk
      refine CE.mk ⟨Tryz.f139, _, rfl, rfl, ⟨by kernel_rfl, Nat.le_of_ble_eq_true rfl, Nat.le_of_ble_eq_true rfl⟩, ?_⟩
      rcases k with _ | k
      · exact (run_zero h).elim
      rw [run_succ, impl_rexReader_pattern.B] at h
      have h_ := evO h; clear h; obtain ⟨t10, ht, h⟩ := h_
      refine zz ?_
      refine Exists.intro _ (Exists.intro _ (And.intro (impl_rexReader_next_ev (h := ht)) ?_))
      have h_ := gP h; clear h; obtain ⟨c, h⟩ := h_
      refine zz ?_
      refine br (iP h) ?_ ?_ <;> (clear h; intro c h)
      ·have h_ := evA h; clear h; obtain ⟨t25, ht, h⟩ := h_
       refine zz ?_
       refine Exists.intro _ (Exists.intro _ (And.intro (ih.1 _ (h := ht) (hk := zfuel)) ?_))
       have h_ := evO h; clear h; obtain ⟨t27, ht, h⟩ := h_
       refine zz ?_
       refine Exists.intro _ (Exists.intro _ (And.intro (impl_rexReader_take_ev (h := ht)) ?_))
       refine zz ?_
       refine brN (iP h) ?_ ?_ <;> (clear h; intro c h)
       ·replace h := evR h; cases h
        refine zz ?_
        exact zend
       replace h := evR h; cases h
       refine zz ?_
       exact zend
      refine zz ?_
      refine br (iP h) ?_ ?_ <;> (clear h; intro c h)
      ·replace h := evR h; cases h
       refine zz ?_
       exact zend
      refine zz ?_
      refine br (iP h) ?_ ?_ <;> (clear h; intro c h)
      ·replace h := evR h; cases h
       refine zz ?_
       exact zend
      refine zz ?_
      refine br (iP h) ?_ ?_ <;> (clear h; intro c h)
      ·replace h := evR h; cases h
       refine zz ?_
       exact zend
      refine zz ?_
      refine br (iP h) ?_ ?_ <;> (clear h; intro c h)
      ·have h_ := evO h; clear h; obtain ⟨t45, ht, h⟩ := h_
       refine zz ?_
       refine Exists.intro _ (Exists.intro _ (And.intro (impl_rexReader_set_ev (h := ht)) ?_))
       replace h := evR h; cases h
       refine zz ?_
       exact zend
      refine zz ?_
      refine br (iP h) ?_ ?_ <;> (clear h; intro c h)
      ·have h_ := evO h; clear h; obtain ⟨t50, ht, h⟩ := h_
       refine zz ?_
       refine Exists.intro _ (Exists.intro _ (And.intro (impl_rexReader_next_ev (h := ht)) ?_))
       refine zz ?_
       refine brN (iP h) ?_ ?_ <;> (clear h; intro c h)
       ·replace h := evR h; cases h
        refine zz ?_
        exact zend
       have h_ := gP h; clear h; obtain ⟨c, h⟩ := h_
       replace h := evR h; cases h
       refine zz ?_
       exact zend
      refine zz ?_
      refine br (iP h) ?_ ?_ <;> (clear h; intro c h)
      ·refine zl ?_
       replace h := evR h; cases h
       refine zz ?_
       exact zend
      refine zz ?_
      refine br (iP h) ?_ ?_ <;> (clear h; intro c h)
      ·refine zl ?_
       replace h := evR h; cases h
       refine zz ?_
       exact zend
      refine zz ?_
      refine br (iP h) ?_ ?_ <;> (clear h; intro c h)
      ·replace h := evR h; cases h
       refine zz ?_
       exact zend
      replace h := evR h; cases h
      refine zz ?_
      exact zend
theorem impl_rexReader_pattern_ev (s0_0 : ByteArray) (s0_1 : Bool) (r1 r2 : Int) (r3 : ByteArray) (r4 : Bool) (r5 : List S57) (r6 : ByteArray) (r7 : Bool) (h : impl_rexReader_pattern.fv s0_0 s0_1 = some (r1, r2, r3, r4, r5, r6, r7)) : CE (G m_) 60 [.ptr 0 0] [.box [.val (.str s0_0), .val (.bool s0_1)]] [.val (.agg [.int .i64 r1, .int .i64 r2, .str r3, .bool r4, .row (r5.map e57)])] [.box [.val (.str r6), .val (.bool r7)]] := by
  obtain ⟨k, h⟩ := lim_ex h
  exact (impl_rexReader_pattern_all (k + 1)).1 k _ _ _ _ _ _ _ _ _ h (Nat.lt_succ_self k)
theorem impl_rexReader_part_ev (s0_0 : ByteArray) (s0_1 : Bool) (r1 r2 : Int) (r3 : ByteArray) (r4 : Bool) (r5 : List S57) (r6 : ByteArray) (r7 : Bool) (h : impl_rexReader_part.fv s0_0 s0_1 = some (r1, r2, r3, r4, r5, r6, r7)) : CE (G m_) 88 [.ptr 0 0] [.box [.val (.str s0_0), .val (.bool s0_1)]] [.val (.agg [.int .i64 r1, .int .i64 r2, .str r3, .bool r4, .row (r5.map e57)])] [.box [.val (.str r6), .val (.bool r7)]] := by
  obtain ⟨k, h⟩ := lim_ex h
  exact (impl_rexReader_pattern_all (k + 1)).2.1 k _ _ _ _ _ _ _ _ _ h (Nat.lt_succ_self k)
theorem impl_rexReader_piece_ev (s0_0 : ByteArray) (s0_1 : Bool) (r1 r2 : Int) (r3 : ByteArray) (r4 : Bool) (r5 : List S57) (r6 : ByteArray) (r7 : Bool) (h : impl_rexReader_piece.fv s0_0 s0_1 = some (r1, r2, r3, r4, r5, r6, r7)) : CE (G m_) 117 [.ptr 0 0] [.box [.val (.str s0_0), .val (.bool s0_1)]] [.val (.agg [.int .i64 r1, .int .i64 r2, .str r3, .bool r4, .row (r5.map e57)])] [.box [.val (.str r6), .val (.bool r7)]] := by
  obtain ⟨k, h⟩ := lim_ex h
  exact (impl_rexReader_pattern_all (k + 1)).2.2.1 k _ _ _ _ _ _ _ _ _ h (Nat.lt_succ_self k)
theorem impl_rexReader_atom_ev (s0_0 : ByteArray) (s0_1 : Bool) (r1 r2 : Int) (r3 : ByteArray) (r4 : Bool) (r5 : List S57) (r6 : ByteArray) (r7 : Bool) (h : impl_rexReader_atom.fv s0_0 s0_1 = some (r1, r2, r3, r4, r5, r6, r7)) : CE (G m_) 139 [.ptr 0 0] [.box [.val (.str s0_0), .val (.bool s0_1)]] [.val (.agg [.int .i64 r1, .int .i64 r2, .str r3, .bool r4, .row (r5.map e57)])] [.box [.val (.str r6), .val (.bool r7)]] := by
  obtain ⟨k, h⟩ := lim_ex h
  exact (impl_rexReader_pattern_all (k + 1)).2.2.2 k _ _ _ _ _ _ _ _ _ h (Nat.lt_succ_self k)
theorem impl_rexDeep_all : ∀ n, (∀ (k : Nat) (a0_0 a0_1 : Int) (a0_2 : ByteArray) (a0_3 : Bool) (l0_4 : List S57) (r : Int) (h : run impl_rexDeep.B k (.f a0_0 a0_1 a0_2 a0_3 l0_4) = some r) (hk : k < n), CE (G m_) 61 [.val (.agg [.int .i64 a0_0, .int .i64 a0_1, .str a0_2, .bool a0_3, .row (l0_4.map e57)])] [] [.val (.int .i64 r)] []) := by
  intro n
  induction n with
  | zero => exact (by intros; omega)
  | succ n ih =>
    · intro k a0_0 a0_1 a0_2 a0_3 l0_4 r h hk
      refine CE.mk ⟨Tryz.f61, _, rfl, rfl, ⟨by kernel_rfl, Nat.le_of_ble_eq_true rfl, Nat.le_of_ble_eq_true rfl⟩, ?_⟩
      rcases k with _ | k
      · exact (run_zero h).elim
      rw [run_succ, impl_rexDeep.B] at h
      replace h := evT h
      refine zz ?_
      refine loopJ [] (fun kq fr hp => ∃ (x3 : Int) (x7 : List S57) (x8 x9 : Int), run impl_rexDeep.B kq (.l0 x3 x7 x8 x9) = some r ∧ (∃ fr0, fr = puts [(3, .one (.val (.int .i64 x3))), (7, .one (.val (.row (x7.map e57)))), (8, .one (.val (.int .i64 x8))), (9, .one (.val (.int .i64 x9)))] fr0) ∧ hp = (fun _ => none)) k ⟨_, zfuel, _, _, _, _, h, leafFr [3, 7, 8, 9] (by kernel_rfl), by kernel_rfl⟩ ?_
      clear h; rintro k hle _ _ ⟨x3, x7, x8, x9, h, ⟨fr0, rfl⟩, rfl⟩
      rcases k with _ | k
      · exact (run_zero h).elim
      rw [run_succ, impl_rexDeep.B] at h
      refine zz ?_
      refine br (iP h) ?_ ?_ <;> (clear h; intro c h)
      rotate_left
      ·replace h := evR h; cases h
       refine zz ?_
       exact zend
      have h_ := gP h; clear h; obtain ⟨c, h⟩ := h_
      have h_ := gP h; clear h; obtain ⟨c, h⟩ := h_
      have h_ := evA h; clear h; obtain ⟨t15, ht, h⟩ := h_
      refine zz ?_
      refine Exists.intro _ (And.intro (ih _ (h := ht) (hk := zfuel)) ?_)
      replace h := evT h
      refine zz ?_
      exact ⟨_, zfuel, _, _, _, _, h, leafFr [3, 7, 8, 9] (by kernel_rfl), by kernel_rfl⟩
theorem impl_rexDeep_ev (a0_0 a0_1 : Int) (a0_2 : ByteArray) (a0_3 : Bool) (l0_4 : List S57) (r : Int) (h : impl_rexDeep.fv a0_0 a0_1 a0_2 a0_3 l0_4 = some r) : CE (G m_) 61 [.val (.agg [.int .i64 a0_0, .int .i64 a0_1, .str a0_2, .bool a0_3, .row (l0_4.map e57)])] [] [.val (.int .i64 r)] [] := by
  obtain ⟨k, h⟩ := lim_ex h
  exact (impl_rexDeep_all (k + 1)) k _ _ _ _ _ _ h (Nat.lt_succ_self k)
theorem impl_RexParse_ev (a0 : ByteArray) (r1 r2 : Int) (r3 : ByteArray) (r4 : Bool) (r5 : List S57) (r6 : Bool) (h : impl_RexParse.fv a0 = some (r1, r2, r3, r4, r5, r6)) : CE (G m_) 43 [.val (.str a0)] [] [.val (.agg [.int .i64 r1, .int .i64 r2, .str r3, .bool r4, .row (r5.map e57)]), .val (.bool r6)] [] := by
  refine CE.mk ⟨Tryz.f43, _, rfl, rfl, ⟨by kernel_rfl, Nat.le_of_ble_eq_true rfl, Nat.le_of_ble_eq_true rfl⟩, ?_⟩
  rw [impl_RexParse.fv] at h
  refine zz ?_
  refine br (iteS h) ?_ ?_ <;> (clear h; intro c h)
  ·cases h
   refine zz ?_
   exact zend
  have h_ := oS h; clear h; obtain ⟨t14, ht, h⟩ := h_
  refine zz ?_
  refine Exists.intro _ (Exists.intro _ (And.intro (impl_rexReader_pattern_ev (h := ht)) ?_))
  refine zz ?_
  refine brW (iteS h) ?_ ?_ <;> (clear h; intro c h)
  rotate_left
  ·refine zr ?_
   refine zr ?_
   refine zr ?_
   refine zr ?_
   refine zl ?_
   refine zr ?_
   refine zr ?_
   refine zr ?_
   refine zl ?_
   refine zl ?_
   cases h
   refine zz ?_
   exact zend
  refine zl ?_
  refine zl ?_
  refine zl ?_
  refine zl ?_
  refine zr ?_
  refine zz ?_
  refine brX (iteS h) ?_ ?_ <;> (clear h; intro c h)
  rotate_left
  ·refine zr ?_
   refine zr ?_
   refine zl ?_
   refine zl ?_
   cases h
   refine zz ?_
   exact zend
  refine zl ?_
  have h_ := oS h; clear h; obtain ⟨t28, ht, h⟩ := h_
  refine zz ?_
  refine Exists.intro _ (And.intro (impl_rexDeep_ev (h := ht)) ?_)
  refine zl ?_
  refine zr ?_
  refine zz ?_
  refine br (iteS h) ?_ ?_ <;> (clear h; intro c h)
  ·cases h
   refine zz ?_
   exact zend
  cases h
  refine zz ?_
  exact zend
theorem impl_isRex_ev (a0 : ByteArray) (r : Bool) (h : impl_isRex.fv a0 = some r) : CE (G m_) 30 [.val (.str a0)] [] [.val (.bool r)] [] := by
  refine CE.mk ⟨Tryz.f30, _, rfl, rfl, ⟨by kernel_rfl, Nat.le_of_ble_eq_true rfl, Nat.le_of_ble_eq_true rfl⟩, ?_⟩
  rw [impl_isRex.fv] at h
  have h_ := oS h; clear h; obtain ⟨t7, ht, h⟩ := h_
  refine zz ?_
  refine Exists.intro _ (And.intro (impl_RexParse_ev (h := ht)) ?_)
  cases h
  refine zz ?_
  exact zend
theorem impl_calls_ev (r : List ByteArray) (h : impl_calls.f  = some r) : CE (G m_) 32 [] [] [.val (.row (r.map VV.str))] [] := by
  refine CE.mk ⟨Tryz.f32, _, rfl, rfl, ⟨by kernel_rfl, Nat.le_of_ble_eq_true rfl, Nat.le_of_ble_eq_true rfl⟩, ?_⟩
  rw [impl_calls.f] at h
  have h_ := oS h; clear h; obtain ⟨y1_0, hy, h⟩ := h_
  refine zz ?_
  refine Exists.intro (y1_0.map VV.str) (And.intro (by rw [← Option.some.inj hy]; exact zrow) ?_)
  cases h
  refine zz ?_
  exact zend
theorem slices_Index_string_string_ev (l0 : List ByteArray) (a1 : ByteArray) (r : Int) (h : slices_Index_string_string.fv l0 a1 = some r) : CE (G m_) 44 [.val (.row (l0.map VV.str)), .val (.str a1)] [] [.val (.int .i64 r)] [] := by
  obtain ⟨k, h⟩ := lim_ex h
  refine CE.mk ⟨Tryz.f44, _, rfl, rfl, ⟨by kernel_rfl, Nat.le_of_ble_eq_true rfl, Nat.le_of_ble_eq_true rfl⟩, ?_⟩
  rcases k with _ | k
  · exact (run_zero h).elim
  rw [run_succ, slices_Index_string_string.B] at h
  replace h := evT h
  refine zz ?_
  refine loopJ [] (fun kq fr hp => ∃ (x0 : List ByteArray) (x1 : ByteArray) (x7 x8 : Int), run slices_Index_string_string.B kq (.l0 x0 x1 x7 x8) = some r ∧ (∃ fr0, fr = puts [(0, .one (.val (.row (x0.map VV.str)))), (1, .one (.val (.str x1))), (7, .one (.val (.int .i64 x7))), (8, .one (.val (.int .i64 x8)))] fr0) ∧ hp = (fun _ => none)) k ⟨_, zfuel, _, _, _, _, h, leafFr [0, 1, 7, 8] (by kernel_rfl), by kernel_rfl⟩ ?_
  clear h; rintro k hle _ _ ⟨x0, x1, x7, x8, h, ⟨fr0, rfl⟩, rfl⟩
  rcases k with _ | k
  · exact (run_zero h).elim
  rw [run_succ, slices_Index_string_string.B] at h
  refine zz ?_
  refine br (iP h) ?_ ?_ <;> (clear h; intro c h)
  rotate_left
  ·replace h := evR h; cases h
   refine zz ?_
   exact zend
  have h_ := gP h; clear h; obtain ⟨c, h⟩ := h_
  have h_ := gP h; clear h; obtain ⟨c, h⟩ := h_
  refine zz ?_
  refine br (iP h) ?_ ?_ <;> (clear h; intro c h)
  ·replace h := evR h; cases h
   refine zz ?_
   exact zend
  replace h := evT h
  refine zz ?_
  exact ⟨_, zfuel, _, _, _, _, h, leafFr [0, 1, 7, 8] (by kernel_rfl), by kernel_rfl⟩
theorem slices_Contains_string_string_ev (l0 : List ByteArray) (a1 : ByteArray) (r : Bool) (h : slices_Contains_string_string.fv l0 a1 = some r) : CE (G m_) 31 [.val (.row (l0.map VV.str)), .val (.str a1)] [] [.val (.bool r)] [] := by
  refine CE.mk ⟨Tryz.f31, _, rfl, rfl, ⟨by kernel_rfl, Nat.le_of_ble_eq_true rfl, Nat.le_of_ble_eq_true rfl⟩, ?_⟩
  rw [slices_Contains_string_string.fv] at h
  have h_ := oS h; clear h; obtain ⟨t7, ht, h⟩ := h_
  refine zz ?_
  refine Exists.intro _ (And.intro (slices_Index_string_string_ev (h := ht)) ?_)
  cases h
  refine zz ?_
  exact zend
theorem impl_opRight_ev (a0_0 a0_1 : Int) (a0_2 : ByteArray) (a1 a2 a3 : Int) (r : Bool) (h : impl_opRight.fv a0_0 a0_1 a0_2 a1 a2 a3 = some r) : CE (G m_) 16 [.val (.agg [.int .i64 a0_0, .int .i64 a0_1, .str a0_2]), .val (.int .i64 a1), .val (.int .i64 a2), .val (.int .i64 a3)] [] [.val (.bool r)] [] := by
  obtain ⟨k, h⟩ := lim_ex h
  refine CE.mk ⟨Tryz.f16, _, rfl, rfl, ⟨by kernel_rfl, Nat.le_of_ble_eq_true rfl, Nat.le_of_ble_eq_true rfl⟩, ?_⟩
  rcases k with _ | k
  · exact (run_zero h).elim
  rw [run_succ, impl_opRight.B] at h
  have h_ := evO h; clear h; obtain ⟨t14, ht, h⟩ := h_
  refine zz ?_
  refine Exists.intro _ (And.intro (impl_opName_ev (h := ht)) ?_)
  refine zz ?_
  refine cutJ (n := 200002) [16] (fun fr hp => ∃ kq, kq ≤ k ∧ ∃ (x1 x2 x3 : Int) (x54 : Bool) (x16_0 x16_1 : Int) (x16_2 : ByteArray), run impl_opRight.B kq (.j0 x1 x2 x3 x54 x16_0 x16_1 x16_2) = some r ∧ (∃ fr0, fr = puts [(1, .one (.val (.int .i64 x1))), (2, .one (.val (.int .i64 x2))), (3, .one (.val (.int .i64 x3))), (4, .one (.ptr 16 0)), (54, .one (.val (.bool x54)))] fr0) ∧ hp = (upd 16 (.box [.val (.int .i64 x16_0), .val (.int .i64 x16_1), .val (.str x16_2)]) (fun _ => none))) ?_ ?_
  ·refine zz ?_
   refine brW (iP h) ?_ ?_ <;> (clear h; intro c h)
   rotate_left
   ·refine zr ?_
    refine zr ?_
    refine zr ?_
    refine zl ?_
    refine zr ?_
    refine zr ?_
    refine zr ?_
    refine zr ?_
    refine zl ?_
    refine zr ?_
    refine zr ?_
    refine zr ?_
    refine zr ?_
    refine zr ?_
    refine zr ?_
    refine zl ?_
    replace h := evT h
    refine zz ?_
    exact ⟨_, zfuel, _, _, _, _, _, _, _, h, leafFr [1, 2, 3, 4, 54] (by kernel_rfl), by kernel_rfl⟩
   refine zl ?_
   refine zl ?_
   refine zz ?_
   refine br (iP h) ?_ ?_ <;> (clear h; intro c h)
   rotate_left
   ·refine zr ?_
    refine zr ?_
    refine zr ?_
    refine zr ?_
    refine zl ?_
    refine zr ?_
    refine zr ?_
    refine zl ?_
    refine zl ?_
    refine zl ?_
    refine zz ?_
    refine br (iP h) ?_ ?_ <;> (clear h; intro c h)
    rotate_left
    ·refine zr ?_
     refine zr ?_
     refine zl ?_
     refine zr ?_
     refine zr ?_
     refine zl ?_
     refine zl ?_
     refine zl ?_
     refine zz ?_
     refine brW (iP h) ?_ ?_ <;> (clear h; intro c h)
     rotate_left
     ·refine zr ?_
      refine zl ?_
      refine zl ?_
      refine zl ?_
      refine zl ?_
      refine zl ?_
      refine zl ?_
      refine zl ?_
      refine zl ?_
      refine zr ?_
      replace h := evT h
      refine zz ?_
      exact ⟨_, zfuel, _, _, _, _, _, _, _, h, leafFr [1, 2, 3, 4, 54] (by kernel_rfl), by kernel_rfl⟩
     refine zl ?_
     refine zl ?_
     refine zr ?_
     refine zl ?_
     refine zz ?_
     refine br (iP h) ?_ ?_ <;> (clear h; intro c h)
     ·refine zl ?_
      refine zl ?_
      refine zl ?_
      refine zl ?_
      refine zr ?_
      replace h := evT h
      refine zz ?_
      exact ⟨_, zfuel, _, _, _, _, _, _, _, h, leafFr [1, 2, 3, 4, 54] (by kernel_rfl), by kernel_rfl⟩
     refine zr ?_
     refine zr ?_
     refine zl ?_
     refine zr ?_
     refine zr ?_
     replace h := evT h
     refine zz ?_
     exact ⟨_, zfuel, _, _, _, _, _, _, _, h, leafFr [1, 2, 3, 4, 54] (by kernel_rfl), by kernel_rfl⟩
    refine zl ?_
    refine zl ?_
    refine zl ?_
    refine zl ?_
    refine zr ?_
    refine zz ?_
    refine brX (iP h) ?_ ?_ <;> (clear h; intro c h)
    rotate_left
    ·refine zr ?_
     refine zr ?_
     refine zr ?_
     refine zr ?_
     refine zr ?_
     refine zl ?_
     replace h := evT h
     refine zz ?_
     exact ⟨_, zfuel, _, _, _, _, _, _, _, h, leafFr [1, 2, 3, 4, 54] (by kernel_rfl), by kernel_rfl⟩
    refine zl ?_
    refine zl ?_
    refine zz ?_
    refine brW (iP h) ?_ ?_ <;> (clear h; intro c h)
    rotate_left
    ·refine zr ?_
     refine zl ?_
     refine zl ?_
     refine zl ?_
     refine zl ?_
     refine zl ?_
     refine zl ?_
     refine zl ?_
     refine zl ?_
     refine zr ?_
     replace h := evT h
     refine zz ?_
     exact ⟨_, zfuel, _, _, _, _, _, _, _, h, leafFr [1, 2, 3, 4, 54] (by kernel_rfl), by kernel_rfl⟩
    refine zl ?_
    refine zl ?_
    refine zr ?_
    refine zl ?_
    refine zz ?_
    refine br (iP h) ?_ ?_ <;> (clear h; intro c h)
    ·refine zl ?_
     refine zl ?_
     refine zl ?_
     refine zl ?_
     refine zr ?_
     replace h := evT h
     refine zz ?_
     exact ⟨_, zfuel, _, _, _, _, _, _, _, h, leafFr [1, 2, 3, 4, 54] (by kernel_rfl), by kernel_rfl⟩
    refine zr ?_
    refine zr ?_
    refine zl ?_
    refine zr ?_
    refine zr ?_
    replace h := evT h
    refine zz ?_
    exact ⟨_, zfuel, _, _, _, _, _, _, _, h, leafFr [1, 2, 3, 4, 54] (by kernel_rfl), by kernel_rfl⟩
   refine zl ?_
   refine zl ?_
   refine zl ?_
   refine zz ?_
   refine brX (iP h) ?_ ?_ <;> (clear h; intro c h)
   rotate_left
   ·refine zr ?_
    refine zr ?_
    refine zl ?_
    refine zl ?_
    refine zl ?_
    refine zl ?_
    refine zr ?_
    refine zr ?_
    refine zr ?_
    refine zr ?_
    refine zr ?_
    refine zl ?_
    refine zr ?_
    refine zr ?_
    refine zr ?_
    refine zr ?_
    refine zr ?_
    refine zr ?_
    refine zl ?_
    replace h := evT h
    refine zz ?_
    exact ⟨_, zfuel, _, _, _, _, _, _, _, h, leafFr [1, 2, 3, 4, 54] (by kernel_rfl), by kernel_rfl⟩
   refine zl ?_
   refine zl ?_
   refine zl ?_
   refine zr ?_
   refine zl ?_
   refine zl ?_
   refine zr ?_
   refine zz ?_
   refine brX (iP h) ?_ ?_ <;> (clear h; intro c h)
   rotate_left
   ·refine zr ?_
    refine zr ?_
    refine zr ?_
    refine zl ?_
    refine zr ?_
    refine zr ?_
    refine zr ?_
    refine zr ?_
    refine zr ?_
    refine zr ?_
    refine zl ?_
    replace h := evT h
    refine zz ?_
    exact ⟨_, zfuel, _, _, _, _, _, _, _, h, leafFr [1, 2, 3, 4, 54] (by kernel_rfl), by kernel_rfl⟩
   refine zl ?_
   refine zl ?_
   refine zz ?_
   refine br (iP h) ?_ ?_ <;> (clear h; intro c h)
   ·refine zl ?_
    refine zl ?_
    refine zl ?_
    refine zl ?_
    refine zr ?_
    refine zl ?_
    refine zl ?_
    refine zl ?_
    refine zz ?_
    refine brW (iP h) ?_ ?_ <;> (clear h; intro c h)
    rotate_left
    ·refine zr ?_
     refine zl ?_
     refine zl ?_
     refine zl ?_
     refine zl ?_
     refine zl ?_
     refine zl ?_
     refine zl ?_
     refine zl ?_
     refine zr ?_
     replace h := evT h
     refine zz ?_
     exact ⟨_, zfuel, _, _, _, _, _, _, _, h, leafFr [1, 2, 3, 4, 54] (by kernel_rfl), by kernel_rfl⟩
    refine zl ?_
    refine zl ?_
    refine zr ?_
    refine zl ?_
    refine zz ?_
    refine br (iP h) ?_ ?_ <;> (clear h; intro c h)
    ·refine zl ?_
     refine zl ?_
     refine zl ?_
     refine zl ?_
     refine zr ?_
     replace h := evT h
     refine zz ?_
     exact ⟨_, zfuel, _, _, _, _, _, _, _, h, leafFr [1, 2, 3, 4, 54] (by kernel_rfl), by kernel_rfl⟩
    refine zr ?_
    refine zr ?_
    refine zl ?_
    refine zr ?_
    refine zr ?_
    replace h := evT h
    refine zz ?_
    exact ⟨_, zfuel, _, _, _, _, _, _, _, h, leafFr [1, 2, 3, 4, 54] (by kernel_rfl), by kernel_rfl⟩
   refine zr ?_
   refine zr ?_
   refine zl ?_
   refine zr ?_
   refine zr ?_
   refine zl ?_
   refine zl ?_
   refine zl ?_
   refine zz ?_
   refine brW (iP h) ?_ ?_ <;> (clear h; intro c h)
   rotate_left
   ·refine zr ?_
    refine zl ?_
    refine zl ?_
    refine zl ?_
    refine zl ?_
    refine zl ?_
    refine zl ?_
    refine zl ?_
    refine zl ?_
    refine zr ?_
    replace h := evT h
    refine zz ?_
    exact ⟨_, zfuel, _, _, _, _, _, _, _, h, leafFr [1, 2, 3, 4, 54] (by kernel_rfl), by kernel_rfl⟩
   refine zl ?_
   refine zl ?_
   refine zr ?_
   refine zl ?_
   refine zz ?_
   refine br (iP h) ?_ ?_ <;> (clear h; intro c h)
   ·refine zl ?_
    refine zl ?_
    refine zl ?_
    refine zl ?_
    refine zr ?_
    replace h := evT h
    refine zz ?_
    exact ⟨_, zfuel, _, _, _, _, _, _, _, h, leafFr [1, 2, 3, 4, 54] (by kernel_rfl), by kernel_rfl⟩
   refine zr ?_
   refine zr ?_
   refine zl ?_
   refine zr ?_
   refine zr ?_
   replace h := evT h
   refine zz ?_
   exact ⟨_, zfuel, _, _, _, _, _, _, _, h, leafFr [1, 2, 3, 4, 54] (by kernel_rfl), by kernel_rfl⟩
  clear h; rintro _ _ ⟨k, hle, x1, x2, x3, x54, x16_0, x16_1, x16_2, h, ⟨fr0, rfl⟩, rfl⟩
  rcases k with _ | k
  · exact (run_zero h).elim
  rw [run_succ, impl_opRight.B] at h
  refine zz ?_
  refine br (iP h) ?_ ?_ <;> (clear h; intro c h)
  ·replace h := evR h; cases h
   refine zz ?_
   exact zend
  refine zz ?_
  refine br (iP h) ?_ ?_ <;> (clear h; intro c h)
  ·have h_ := evO h; clear h; obtain ⟨t61, ht, h⟩ := h_
   refine zz ?_
   refine Exists.intro _ (And.intro (impl_DecOk_ev (h := ht)) ?_)
   replace h := evR h; cases h
   refine zz ?_
   exact zend
  refine zz ?_
  refine cutJ (n := 62) [16] (fun fr hp => ∃ kq, kq ≤ k ∧ ∃ (x1 x2 : Int) (x3 x56 : Int) (x62 : Bool) (x16_0 x16_1 : Int) (x16_2 : ByteArray), run impl_opRight.B kq (.j1 x1 x2 x3 x56 x62 x16_0 x16_1 x16_2) = some r ∧ (∃ fr0, fr = puts [(1, .one (.val (.int .i64 x1))), (2, .one (.val (.int .i64 x2))), (3, .one (.val (.int .i64 x3))), (4, .one (.ptr 16 0)), (56, .one (.val (.int .i64 x56))), (62, .one (.val (.bool x62)))] fr0) ∧ hp = (upd 16 (.box [.val (.int .i64 x16_0), .val (.int .i64 x16_1), .val (.str x16_2)]) (fun _ => none))) ?_ ?_
  ·refine zz ?_
   refine br (iP h) ?_ ?_ <;> (clear h; intro c h)
   ·replace h := evT h
    refine zz ?_
    exact ⟨_, zfuel, _, _, _, _, _, _, _, _, h, leafFr [1, 2, 3, 4, 56, 62] (by kernel_rfl), by kernel_rfl⟩
   refine zz ?_
   refine br (iP h) ?_ ?_ <;> (clear h; intro c h)
   ·replace h := evT h
    refine zz ?_
    exact ⟨_, zfuel, _, _, _, _, _, _, _, _, h, leafFr [1, 2, 3, 4, 56, 62] (by kernel_rfl), by kernel_rfl⟩
   replace h := evT h
   refine zz ?_
   exact ⟨_, zfuel, _, _, _, _, _, _, _, _, h, leafFr [1, 2, 3, 4, 56, 62] (by kernel_rfl), by kernel_rfl⟩
  clear h; rintro _ _ ⟨k, hle, x1, x2, x3, x56, x62, x16_0, x16_1, x16_2, h, ⟨fr0, rfl⟩, rfl⟩
  rcases k with _ | k
  · exact (run_zero h).elim
  rw [run_succ, impl_opRight.B] at h
  refine zz ?_
  refine br (iP h) ?_ ?_ <;> (clear h; intro c h)
  ·refine zz ?_
   refine br (iP h) ?_ ?_ <;> (clear h; intro c h)
   ·refine zl ?_
    refine zl ?_
    refine zl ?_
    refine zl ?_
    replace h := evR h; cases h
    refine zz ?_
    exact zend
   refine zr ?_
   refine zr ?_
   refine zr ?_
   refine zr ?_
   replace h := evR h; cases h
   refine zz ?_
   exact zend
  refine zz ?_
  refine cutJ (n := 75) [16] (fun fr hp => ∃ kq, kq ≤ k ∧ ∃ (x1 x3 x56 : Int) (x75 : Bool) (x16_0 x16_1 : Int) (x16_2 : ByteArray), run impl_opRight.B kq (.j2 x1 x3 x56 x75 x16_0 x16_1 x16_2) = some r ∧ (∃ fr0, fr = puts [(1, .one (.val (.int .i64 x1))), (3, .one (.val (.int .i64 x3))), (4, .one (.ptr 16 0)), (56, .one (.val (.int .i64 x56))), (75, .one (.val (.bool x75)))] fr0) ∧ hp = (upd 16 (.box [.val (.int .i64 x16_0), .val (.int .i64 x16_1), .val (.str x16_2)]) (fun _ => none))) ?_ ?_
  ·refine zz ?_
   refine br (iP h) ?_ ?_ <;> (clear h; intro c h)
   ·replace h := evT h
    refine zz ?_
    exact ⟨_, zfuel, _, _, _, _, _, _, _, h, leafFr [1, 3, 4, 56, 75] (by kernel_rfl), by kernel_rfl⟩
   refine zz ?_
   refine br (iP h) ?_ ?_ <;> (clear h; intro c h)
   ·replace h := evT h
    refine zz ?_
    exact ⟨_, zfuel, _, _, _, _, _, _, _, h, leafFr [1, 3, 4, 56, 75] (by kernel_rfl), by kernel_rfl⟩
   refine zz ?_
   refine br (iP h) ?_ ?_ <;> (clear h; intro c h)
   ·replace h := evT h
    refine zz ?_
    exact ⟨_, zfuel, _, _, _, _, _, _, _, h, leafFr [1, 3, 4, 56, 75] (by kernel_rfl), by kernel_rfl⟩
   replace h := evT h
   refine zz ?_
   exact ⟨_, zfuel, _, _, _, _, _, _, _, h, leafFr [1, 3, 4, 56, 75] (by kernel_rfl), by kernel_rfl⟩
  clear h; rintro _ _ ⟨k, hle, x1, x3, x56, x75, x16_0, x16_1, x16_2, h, ⟨fr0, rfl⟩, rfl⟩
  rcases k with _ | k
  · exact (run_zero h).elim
  rw [run_succ, impl_opRight.B] at h
  refine zz ?_
  refine br (iP h) ?_ ?_ <;> (clear h; intro c h)
  ·refine zz ?_
   refine br (iP h) ?_ ?_ <;> (clear h; intro c h)
   ·refine zl ?_
    refine zl ?_
    refine zl ?_
    refine zl ?_
    replace h := evR h; cases h
    refine zz ?_
    exact zend
   refine zr ?_
   refine zr ?_
   refine zr ?_
   refine zr ?_
   replace h := evR h; cases h
   refine zz ?_
   exact zend
  refine zz ?_
  refine cutJ (n := 89) [16] (fun fr hp => ∃ kq, kq ≤ k ∧ ∃ (x1 x56 : Int) (x89 : Bool) (x16_0 x16_1 : Int) (x16_2 : ByteArray), run impl_opRight.B kq (.j3 x1 x56 x89 x16_0 x16_1 x16_2) = some r ∧ (∃ fr0, fr = puts [(1, .one (.val (.int .i64 x1))), (4, .one (.ptr 16 0)), (56, .one (.val (.int .i64 x56))), (89, .one (.val (.bool x89)))] fr0) ∧ hp = (upd 16 (.box [.val (.int .i64 x16_0), .val (.int .i64 x16_1), .val (.str x16_2)]) (fun _ => none))) ?_ ?_
  ·refine zz ?_
   refine br (iP h) ?_ ?_ <;> (clear h; intro c h)
   ·replace h := evT h
    refine zz ?_
    exact ⟨_, zfuel, _, _, _, _, _, _, h, leafFr [1, 4, 56, 89] (by kernel_rfl), by kernel_rfl⟩
   replace h := evT h
   refine zz ?_
   exact ⟨_, zfuel, _, _, _, _, _, _, h, leafFr [1, 4, 56, 89] (by kernel_rfl), by kernel_rfl⟩
  clear h; rintro _ _ ⟨k, hle, x1, x56, x89, x16_0, x16_1, x16_2, h, ⟨fr0, rfl⟩, rfl⟩
  rcases k with _ | k
  · exact (run_zero h).elim
  rw [run_succ, impl_opRight.B] at h
  refine zz ?_
  refine br (iP h) ?_ ?_ <;> (clear h; intro c h)
  ·have h_ := evO h; clear h; obtain ⟨t94, ht, h⟩ := h_
   refine zz ?_
   refine Exists.intro _ (And.intro (impl_isRex_ev (h := ht)) ?_)
   replace h := evR h; cases h
   refine zz ?_
   exact zend
  refine zz ?_
  refine br (iP h) ?_ ?_ <;> (clear h; intro c h)
  ·have h_ := evO h; clear h; obtain ⟨t99, ht, h⟩ := h_
   refine zz ?_
   refine Exists.intro _ (And.intro (impl_in_ev (h := ht)) ?_)
   refine zz ?_
   refine br (iP h) ?_ ?_ <;> (clear h; intro c h)
   rotate_left
   ·refine zr ?_
    refine zr ?_
    refine zr ?_
    refine zr ?_
    replace h := evR h; cases h
    refine zz ?_
    exact zend
   have h_ := evO h; clear h; obtain ⟨t101, ht, h⟩ := h_
   refine zz ?_
   refine Exists.intro _ (And.intro (impl_calls_ev (h := ht)) ?_)
   refine zl ?_
   refine zl ?_
   refine zl ?_
   have h_ := evO h; clear h; obtain ⟨t104, ht, h⟩ := h_
   refine zz ?_
   refine Exists.intro _ (And.intro (slices_Contains_string_string_ev (h := ht)) ?_)
   refine zl ?_
   replace h := evR h; cases h
   refine zz ?_
   exact zend
  refine zz ?_
  refine cutJ (n := 106) [16] (fun fr hp => ∃ kq, kq ≤ k ∧ ∃ (x1 x56 : Int) (x106 : Bool) (x16_0 x16_1 : Int) (x16_2 : ByteArray), run impl_opRight.B kq (.j4 x1 x56 x106 x16_0 x16_1 x16_2) = some r ∧ (∃ fr0, fr = puts [(1, .one (.val (.int .i64 x1))), (4, .one (.ptr 16 0)), (56, .one (.val (.int .i64 x56))), (106, .one (.val (.bool x106)))] fr0) ∧ hp = (upd 16 (.box [.val (.int .i64 x16_0), .val (.int .i64 x16_1), .val (.str x16_2)]) (fun _ => none))) ?_ ?_
  ·refine zz ?_
   refine br (iP h) ?_ ?_ <;> (clear h; intro c h)
   ·replace h := evT h
    refine zz ?_
    exact ⟨_, zfuel, _, _, _, _, _, _, h, leafFr [1, 4, 56, 106] (by kernel_rfl), by kernel_rfl⟩
   replace h := evT h
   refine zz ?_
   exact ⟨_, zfuel, _, _, _, _, _, _, h, leafFr [1, 4, 56, 106] (by kernel_rfl), by kernel_rfl⟩
  clear h; rintro _ _ ⟨k, hle, x1, x56, x106, x16_0, x16_1, x16_2, h, ⟨fr0, rfl⟩, rfl⟩
  rcases k with _ | k
  · exact (run_zero h).elim
  rw [run_succ, impl_opRight.B] at h
  refine zz ?_
  refine br (iP h) ?_ ?_ <;> (clear h; intro c h)
  ·have h_ := evO h; clear h; obtain ⟨t113, ht, h⟩ := h_
   refine zz ?_
   refine Exists.intro _ (And.intro (impl_in_ev (h := ht)) ?_)
   replace h := evR h; cases h
   refine zz ?_
   exact zend
  refine zz ?_
  refine br (iP h) ?_ ?_ <;> (clear h; intro c h)
  rotate_left
  ·replace h := evR h; cases h
   refine zz ?_
   exact zend
  have h_ := evO h; clear h; obtain ⟨t118, ht, h⟩ := h_
  refine zz ?_
  refine Exists.intro _ (And.intro (impl_in_ev (h := ht)) ?_)
  replace h := evR h; cases h
  refine zz ?_
  exact zend
theorem impl_OpsOk_1_ev (a0_0 a0_1 : Int) (a0_2 : ByteArray) (l1_0 : List S29) (a2_0 a3_0 : Int) (r : Bool) (h : impl_OpsOk_1.fv a0_0 a0_1 a0_2 l1_0 a2_0 a3_0 = some r) : CE (G m_) 15 [.val (.agg [.int .i64 a0_0, .int .i64 a0_1, .str a0_2]), .ptr 0 0, .ptr 1 0, .ptr 2 0] [.box [.val (.row (l1_0.map e29))], .box [.val (.int .i64 a2_0)], .box [.val (.int .i64 a3_0)]] [.val (.bool r)] [.box [.val (.row (l1_0.map e29))], .box [.val (.int .i64 a2_0)], .box [.val (.int .i64 a3_0)]] := by
  refine CE.mk ⟨Tryz.f15, _, rfl, rfl, ⟨by kernel_rfl, Nat.le_of_ble_eq_true rfl, Nat.le_of_ble_eq_true rfl⟩, ?_⟩
  rw [impl_OpsOk_1.fv] at h
  have h_ := oS h; clear h; obtain ⟨t11, ht, h⟩ := h_
  refine zz ?_
  refine Exists.intro _ (And.intro (impl_opRight_ev (h := ht)) ?_)
  cases h
  refine zz ?_
  exact zend
theorem slices_IndexFunc_impl_Op_impl_Op__impl_OpsOk_1_ev (l0 l1q0_0 : List S29) (a1q1_0 a1q2_0 r : Int) (h : slices_IndexFunc_impl_Op_impl_Op__impl_OpsOk_1.fv l0 l1q0_0 a1q1_0 a1q2_0 = some r) : CE (G m_) 28 [.val (.row (l0.map e29)), .fn 15 [0, 1, 2]] [.box [.val (.row (l1q0_0.map e29))], .box [.val (.int .i64 a1q1_0)], .box [.val (.int .i64 a1q2_0)]] [.val (.int .i64 r)] [.box [.val (.row (l1q0_0.map e29))], .box [.val (.int .i64 a1q1_0)], .box [.val (.int .i64 a1q2_0)]] := by
  obtain ⟨k, h⟩ := lim_ex h
  refine CE.mk ⟨Tryz.f28, _, rfl, rfl, ⟨by kernel_rfl, Nat.le_of_ble_eq_true rfl, Nat.le_of_ble_eq_true rfl⟩, ?_⟩
  rcases k with _ | k
  · exact (run_zero h).elim
  rw [run_succ, slices_IndexFunc_impl_Op_impl_Op__impl_OpsOk_1.B] at h
  replace h := evT h
  refine zz ?_
  refine loopJ [0, 1, 2] (fun kq fr hp => ∃ (x0 : List S29) (x7 x8 : Int), run slices_IndexFunc_impl_Op_impl_Op__impl_OpsOk_1.B kq (.l0 x0 x7 x8 l1q0_0 a1q1_0 a1q2_0) = some r ∧ (∃ fr0, fr = puts [(0, .one (.val (.row (x0.map e29)))), (1, .one (.fn 15 [0, 1, 2])), (7, .one (.val (.int .i64 x7))), (8, .one (.val (.int .i64 x8)))] fr0) ∧ hp = (upd 0 (.box [.val (.row (l1q0_0.map e29))]) (upd 1 (.box [.val (.int .i64 a1q1_0)]) (upd 2 (.box [.val (.int .i64 a1q2_0)]) (fun _ => none))))) k ⟨_, zfuel, _, _, _, h, leafFr [0, 1, 7, 8] (by kernel_rfl), by kernel_rfl⟩ ?_
  clear h; rintro k hle _ _ ⟨x0, x7, x8, h, ⟨fr0, rfl⟩, rfl⟩
  rcases k with _ | k
  · exact (run_zero h).elim
  rw [run_succ, slices_IndexFunc_impl_Op_impl_Op__impl_OpsOk_1.B] at h
  refine zz ?_
  refine br (iP h) ?_ ?_ <;> (clear h; intro c h)
  rotate_left
  ·replace h := evR h; cases h
   refine zz ?_
   exact zend
  have h_ := gP h; clear h; obtain ⟨c, h⟩ := h_
  have h_ := gP h; clear h; obtain ⟨c, h⟩ := h_
  have h_ := evO h; clear h; obtain ⟨t16, ht, h⟩ := h_
  refine zz ?_
  refine Exists.intro _ (Exists.intro _ (And.intro (impl_OpsOk_1_ev (h := ht)) ?_))
  refine zz ?_
  refine br (iP h) ?_ ?_ <;> (clear h; intro c h)
  ·replace h := evR h; cases h
   refine zz ?_
   exact zend
  replace h := evT h
  refine zz ?_
  exact ⟨_, zfuel, _, _, _, h, leafFr [0, 1, 7, 8] (by kernel_rfl), by kernel_rfl⟩
theorem slices_ContainsFunc_impl_Op_impl_Op__impl_OpsOk_1_ev (l0 l1q0_0 : List S29) (a1q1_0 a1q2_0 : Int) (r : Bool) (h : slices_ContainsFunc_impl_Op_impl_Op__impl_OpsOk_1.fv l0 l1q0_0 a1q1_0 a1q2_0 = some r) : CE (G m_) 14 [.val (.row (l0.map e29)), .fn 15 [0, 1, 2]] [.box [.val (.row (l1q0_0.map e29))], .box [.val (.int .i64 a1q1_0)], .box [.val (.int .i64 a1q2_0)]] [.val (.bool r)] [.box [.val (.row (l1q0_0.map e29))], .box [.val (.int .i64 a1q1_0)], .box [.val (.int .i64 a1q2_0)]] := by
  refine CE.mk ⟨Tryz.f14, _, rfl, rfl, ⟨by kernel_rfl, Nat.le_of_ble_eq_true rfl, Nat.le_of_ble_eq_true rfl⟩, ?_⟩
  rw [slices_ContainsFunc_impl_Op_impl_Op__impl_OpsOk_1.fv] at h
  have h_ := oS h; clear h; obtain ⟨t7, ht, h⟩ := h_
  refine zz ?_
  refine Exists.intro _ (Exists.intro _ (And.intro (slices_IndexFunc_impl_Op_impl_Op__impl_OpsOk_1_ev (h := ht)) ?_))
  cases h
  refine zz ?_
  exact zend
theorem impl_OpsOk_ev (l0 : List S29) (a1 a2 : Int) (r : Bool) (h : impl_OpsOk.fv l0 a1 a2 = some r) : CE (G m_) 6 [.val (.row (l0.map e29)), .val (.int .i64 a1), .val (.int .i64 a2)] [] [.val (.bool r)] [] := by
  refine CE.mk ⟨Tryz.f6, _, rfl, rfl, ⟨by kernel_rfl, Nat.le_of_ble_eq_true rfl, Nat.le_of_ble_eq_true rfl⟩, ?_⟩
  rw [impl_OpsOk.fv] at h
  have h_ := oS h; clear h; obtain ⟨t9, ht, h⟩ := h_
  refine zz ?_
  refine Exists.intro _ (And.intro (impl_in_ev (h := ht)) ?_)
  refine zz ?_
  refine brX (iteS h) ?_ ?_ <;> (clear h; intro c h)
  rotate_left
  ·refine zr ?_
   refine zr ?_
   refine zr ?_
   refine zr ?_
   refine zr ?_
   refine zr ?_
   refine zr ?_
   refine zl ?_
   refine zl ?_
   cases h
   refine zz ?_
   exact zend
  refine zl ?_
  refine zl ?_
  refine zl ?_
  refine zl ?_
  have h_ := gS h; clear h; obtain ⟨c, h⟩ := h_
  have h_ := gS h; clear h; obtain ⟨c, h⟩ := h_
  refine zl ?_
  refine zl ?_
  refine zl ?_
  refine zr ?_
  refine zz ?_
  refine brN (iteS h) ?_ ?_ <;> (clear h; intro c h)
  ·cases h
   refine zz ?_
   exact zend
  have h_ := oS h; clear h; obtain ⟨t23, ht, h⟩ := h_
  refine zz ?_
  refine Exists.intro _ (Exists.intro _ (And.intro (slices_ContainsFunc_impl_Op_impl_Op__impl_OpsOk_1_ev (h := ht)) ?_))
  cases h
  refine zz ?_
  exact zend
theorem spec_DrawOpText_ev (l0 : List Int) (r1 r2 : Int) (r3 : ByteArray) (h : spec_DrawOpText.fv l0 = some (r1, r2, r3)) : CE (G m_) 7 [.val (.row (l0.map (VV.int .u8)))] [] [.val (.agg [.int .i64 r1, .int .i64 r2, .str r3])] [] := by
  refine CE.mk ⟨Tryz.f7, _, rfl, rfl, ⟨by kernel_rfl, Nat.le_of_ble_eq_true rfl, Nat.le_of_ble_eq_true rfl⟩, ?_⟩
  rw [spec_DrawOpText.fv] at h
  have h_ := oS h; clear h; obtain ⟨t8, ht, h⟩ := h_
  refine zz ?_
  refine Exists.intro _ (Exists.intro _ (And.intro (spec_l1New_ev (h := ht)) ?_))
  have h_ := oS h; clear h; obtain ⟨t11, ht, h⟩ := h_
  refine zz ?_
  refine Exists.intro _ (Exists.intro _ (And.intro (spec_l13Draw_ev (h := ht)) ?_))
  refine zz ?_
  refine br (iteS h) ?_ ?_ <;> (clear h; intro c h)
  ·cases h
   refine zz ?_
   exact zend
  have h_ := oS h; clear h; obtain ⟨t23, ht, h⟩ := h_
  refine zz ?_
  refine Exists.intro _ (Exists.intro _ (And.intro (spec_l1Below_ev (h := ht)) ?_))
  have h_ := gS h; clear h; obtain ⟨c, h⟩ := h_
  have h_ := gS h; clear h; obtain ⟨c, h⟩ := h_
  cases h
  refine zz ?_
  exact zend
end Go.Proofs.YtchhkbkbbglgbaaGreatDoor.TFnOps
