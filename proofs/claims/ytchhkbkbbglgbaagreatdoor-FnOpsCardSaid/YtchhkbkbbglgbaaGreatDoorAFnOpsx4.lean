/- The walks of the functions that FnOps reaches, through the abstract machine. -/
import Derived.Test.YtchhkbkbbglgbaaGreatDoorAFnOpsh
import Derived.Test.YtchhkbkbbglgbaaGreatDoorAFnOpsx0
import Derived.Test.YtchhkbkbbglgbaaGreatDoorAFnOpsx1
import Derived.Test.YtchhkbkbbglgbaaGreatDoorAFnOpsx3
import Derived.Test.YtchhkbkbbglgbaaGreatDoorFFnOps
import Derived.Test.YtchhkbkbbglgbaaGreatDoorProg
set_option maxHeartbeats 4000000
set_option maxRecDepth 100000
set_option linter.unusedVariables false
set_option linter.unusedSimpArgs false
namespace Go.Proofs.YtchhkbkbbglgbaaGreatDoor.TFnOps
open Go Go.RowKit Go.Proofs Go.Proofs.YtchhkbkbbglgbaaGreatDoorW.AM Go.Proofs.YtchhkbkbbglgbaaGreatDoor.QFnOps Go.Proofs.YtchhkbkbbglgbaaGreatDoorW.PrintWords Go.Proofs.YtchhkbkbbglgbaaGreatDoorW.Pgs
variable {m_ : Int}
theorem spec_l9Node_all : ∀ n, (∀ (k : Nat) (a0_0 a0_1 : Int) (a0_2 : ByteArray) (l0_3 : List S91) (r : Bool) (h : run spec_l9Node.B k (.spec_l9Node_f a0_0 a0_1 a0_2 l0_3) = some r) (hk : k < n), CE (G m_) 100 [.val (.agg [.int .i64 a0_0, .int .i64 a0_1, .str a0_2, .row (l0_3.map e91)])] [] [.val (.bool r)] []) ∧ (∀ (k : Nat) (a0_0 a0_1 : Int) (a0_2 : ByteArray) (l0_3 : List S91) (r : Bool) (h : run spec_l9Node.B k (.spec_l9Kids_f a0_0 a0_1 a0_2 l0_3) = some r) (hk : k < n), CE (G m_) 126 [.val (.agg [.int .i64 a0_0, .int .i64 a0_1, .str a0_2, .row (l0_3.map e91)])] [] [.val (.bool r)] []) ∧ (∀ (k : Nat) (a0_0 a0_1 : Int) (a0_2 : ByteArray) (l0_3 : List S91) (a1 a2 : Int) (r : Bool) (h : run spec_l9Node.B k (.spec_l9Es_f a0_0 a0_1 a0_2 l0_3 a1 a2) = some r) (hk : k < n), CE (G m_) 143 [.val (.agg [.int .i64 a0_0, .int .i64 a0_1, .str a0_2, .row (l0_3.map e91)]), .val (.int .i64 a1), .val (.int .i64 a2)] [] [.val (.bool r)] []) ∧ (∀ (k : Nat) (a0_0 a0_1 : Int) (a0_2 : ByteArray) (l0_3 : List S91) (a1 : Int) (r : Bool) (h : run spec_l9Node.B k (.spec_l9Blocks_f a0_0 a0_1 a0_2 l0_3 a1) = some r) (hk : k < n), CE (G m_) 144 [.val (.agg [.int .i64 a0_0, .int .i64 a0_1, .str a0_2, .row (l0_3.map e91)]), .val (.int .i64 a1)] [] [.val (.bool r)] []) := by
  intro n
  induction n with
  | zero => exact ⟨by intros; omega, by intros; omega, by intros; omega, by intros; omega⟩
  | succ n ih =>
    refine ⟨?_, ?_, ?_, ?_⟩
    · intro k a0_0 a0_1 a0_2 l0_3 r h hk
      refine CE.mk ⟨Tryz.f100, _, rfl, rfl, ⟨by kernel_rfl, Nat.le_of_ble_eq_true rfl, Nat.le_of_ble_eq_true rfl⟩, ?_⟩
      rcases k with _ | k
      · exact (run_zero h).elim
      rw [run_succ, spec_l9Node.B] at h
      refine zz ?_
      refine cutJ (n := 200001) [16] (fun fr hp => ∃ kq, kq ≤ k ∧ ∃ (x21 : Bool) (x16_0 x16_1 : Int) (x16_2 : ByteArray) (x16_3 : List S91), run spec_l9Node.B kq (.spec_l9Node_j0 x21 x16_0 x16_1 x16_2 x16_3) = some r ∧ (∃ fr0, fr = puts [(1, .one (.ptr 16 0)), (21, .one (.val (.bool x21)))] fr0) ∧ hp = (upd 16 (.box [.val (.int .i64 x16_0), .val (.int .i64 x16_1), .val (.str x16_2), .val (.row (x16_3.map e91))]) (fun _ => none))) ?_ ?_
      ·have h_ := evA h; clear h; obtain ⟨t4, ht, h⟩ := h_
       refine zz ?_
       refine Exists.intro _ (And.intro (ih.2.1 _ (h := ht) (hk := zfuel)) ?_)
       refine zz ?_
       refine brX (iP h) ?_ ?_ <;> (clear h; intro c h)
       rotate_left
       ·refine zr ?_
        refine zr ?_
        refine zr ?_
        refine zl ?_
        refine zr ?_
        refine zr ?_
        refine zr ?_
        refine zr ?_
        refine zr ?_
        refine zl ?_
        replace h := evT h
        refine zz ?_
        exact ⟨_, zfuel, _, _, _, _, _, h, leafFr [1, 21] (by kernel_rfl), by kernel_rfl⟩
       refine zl ?_
       refine zl ?_
       have h_ := evO h; clear h; obtain ⟨t9, ht, h⟩ := h_
       refine zz ?_
       refine Exists.intro _ (And.intro (spec_l1In_ev (h := ht)) ?_)
       refine zl ?_
       refine zr ?_
       refine zz ?_
       refine brX (iP h) ?_ ?_ <;> (clear h; intro c h)
       rotate_left
       ·refine zr ?_
        refine zr ?_
        refine zr ?_
        refine zr ?_
        refine zl ?_
        replace h := evT h
        refine zz ?_
        exact ⟨_, zfuel, _, _, _, _, _, h, leafFr [1, 21] (by kernel_rfl), by kernel_rfl⟩
       refine zl ?_
       refine zl ?_
       refine zl ?_
       refine zz ?_
       refine brN (iP h) ?_ ?_ <;> (clear h; intro c h)
       ·refine zl ?_
        refine zl ?_
        refine zl ?_
        refine zl ?_
        refine zr ?_
        replace h := evT h
        refine zz ?_
        exact ⟨_, zfuel, _, _, _, _, _, h, leafFr [1, 21] (by kernel_rfl), by kernel_rfl⟩
       refine zr ?_
       refine zr ?_
       refine zl ?_
       refine zr ?_
       refine zr ?_
       replace h := evT h
       refine zz ?_
       exact ⟨_, zfuel, _, _, _, _, _, h, leafFr [1, 21] (by kernel_rfl), by kernel_rfl⟩
      clear h; rintro _ _ ⟨k, hle, x21, x16_0, x16_1, x16_2, x16_3, h, ⟨fr0, rfl⟩, rfl⟩
      rcases k with _ | k
      · exact (run_zero h).elim
      rw [run_succ, spec_l9Node.B] at h
      refine zz ?_
      refine br (iP h) ?_ ?_ <;> (clear h; intro c h)
      ·replace h := evR h; cases h
       refine zz ?_
       exact zend
      refine zz ?_
      refine br (iP h) ?_ ?_ <;> (clear h; intro c h)
      ·refine zz ?_
       refine br (iP h) ?_ ?_ <;> (clear h; intro c h)
       rotate_left
       ·refine zr ?_
        refine zr ?_
        refine zr ?_
        replace h := evR h; cases h
        refine zz ?_
        exact zend
       refine zl ?_
       refine zl ?_
       have h_ := evO h; clear h; obtain ⟨t32, ht, h⟩ := h_
       refine zz ?_
       refine Exists.intro _ (And.intro (spec_l1In_ev (h := ht)) ?_)
       refine zl ?_
       replace h := evR h; cases h
       refine zz ?_
       exact zend
      refine zz ?_
      refine br (iP h) ?_ ?_ <;> (clear h; intro c h)
      ·have h_ := evO h; clear h; obtain ⟨t38, ht, h⟩ := h_
       refine zz ?_
       refine Exists.intro _ (And.intro (spec_l9Line_ev (h := ht)) ?_)
       replace h := evR h; cases h
       refine zz ?_
       exact zend
      refine zz ?_
      refine br (iP h) ?_ ?_ <;> (clear h; intro c h)
      ·have h_ := evO h; clear h; obtain ⟨t43, ht, h⟩ := h_
       refine zz ?_
       refine Exists.intro _ (And.intro (spec_l9Rex_ev (h := ht)) ?_)
       replace h := evR h; cases h
       refine zz ?_
       exact zend
      refine zz ?_
      refine cutJ (n := 44) [16] (fun fr hp => ∃ kq, kq ≤ k ∧ ∃ (x23 : Int) (x44 : Bool) (x16_0 x16_1 : Int) (x16_2 : ByteArray) (x16_3 : List S91), run spec_l9Node.B kq (.spec_l9Node_j1 x23 x44 x16_0 x16_1 x16_2 x16_3) = some r ∧ (∃ fr0, fr = puts [(1, .one (.ptr 16 0)), (23, .one (.val (.int .i64 x23))), (44, .one (.val (.bool x44)))] fr0) ∧ hp = (upd 16 (.box [.val (.int .i64 x16_0), .val (.int .i64 x16_1), .val (.str x16_2), .val (.row (x16_3.map e91))]) (fun _ => none))) ?_ ?_
      ·refine zz ?_
       refine br (iP h) ?_ ?_ <;> (clear h; intro c h)
       ·replace h := evT h
        refine zz ?_
        exact ⟨_, zfuel, _, _, _, _, _, _, h, leafFr [1, 23, 44] (by kernel_rfl), by kernel_rfl⟩
       refine zz ?_
       refine br (iP h) ?_ ?_ <;> (clear h; intro c h)
       ·replace h := evT h
        refine zz ?_
        exact ⟨_, zfuel, _, _, _, _, _, _, h, leafFr [1, 23, 44] (by kernel_rfl), by kernel_rfl⟩
       replace h := evT h
       refine zz ?_
       exact ⟨_, zfuel, _, _, _, _, _, _, h, leafFr [1, 23, 44] (by kernel_rfl), by kernel_rfl⟩
      clear h; rintro _ _ ⟨k, hle, x23, x44, x16_0, x16_1, x16_2, x16_3, h, ⟨fr0, rfl⟩, rfl⟩
      rcases k with _ | k
      · exact (run_zero h).elim
      rw [run_succ, spec_l9Node.B] at h
      refine zz ?_
      refine br (iP h) ?_ ?_ <;> (clear h; intro c h)
      ·have h_ := evO h; clear h; obtain ⟨t50, ht, h⟩ := h_
       refine zz ?_
       refine Exists.intro _ (And.intro (spec_l9Name_ev (h := ht)) ?_)
       replace h := evR h; cases h
       refine zz ?_
       exact zend
      refine zz ?_
      refine br (iP h) ?_ ?_ <;> (clear h; intro c h)
      rotate_left
      ·replace h := evR h; cases h
       refine zz ?_
       exact zend
      have h_ := evO h; clear h; obtain ⟨t53, ht, h⟩ := h_
      refine zz ?_
      refine Exists.intro _ (And.intro (spec_l7Calls_ev (h := ht)) ?_)
      have h_ := evO h; clear h; obtain ⟨t56, ht, h⟩ := h_
      refine zz ?_
      refine Exists.intro _ (And.intro (spec_l7Within_ev (h := ht)) ?_)
      replace h := evR h; cases h
      refine zz ?_
      exact zend
    · intro k a0_0 a0_1 a0_2 l0_3 r h hk
      refine CE.mk ⟨Tryz.f126, _, rfl, rfl, ⟨by kernel_rfl, Nat.le_of_ble_eq_true rfl, Nat.le_of_ble_eq_true rfl⟩, ?_⟩
      rcases k with _ | k
      · exact (run_zero h).elim
      rw [run_succ, spec_l9Node.B] at h
      refine zz ?_
      refine cutJ (n := 10) [16] (fun fr hp => ∃ kq, kq ≤ k ∧ ∃ (x3 x9 : Int) (x10 : Bool) (x16_0 x16_1 : Int) (x16_2 : ByteArray) (x16_3 : List S91), run spec_l9Node.B kq (.spec_l9Kids_j0 x3 x9 x10 x16_0 x16_1 x16_2 x16_3) = some r ∧ (∃ fr0, fr = puts [(1, .one (.ptr 16 0)), (3, .one (.val (.int .i64 x3))), (9, .one (.val (.int .i64 x9))), (10, .one (.val (.bool x10)))] fr0) ∧ hp = (upd 16 (.box [.val (.int .i64 x16_0), .val (.int .i64 x16_1), .val (.str x16_2), .val (.row (x16_3.map e91))]) (fun _ => none))) ?_ ?_
      ·refine zz ?_
       refine br (iP h) ?_ ?_ <;> (clear h; intro c h)
       ·replace h := evT h
        refine zz ?_
        exact ⟨_, zfuel, _, _, _, _, _, _, _, h, leafFr [1, 3, 9, 10] (by kernel_rfl), by kernel_rfl⟩
       refine zz ?_
       refine br (iP h) ?_ ?_ <;> (clear h; intro c h)
       ·replace h := evT h
        refine zz ?_
        exact ⟨_, zfuel, _, _, _, _, _, _, _, h, leafFr [1, 3, 9, 10] (by kernel_rfl), by kernel_rfl⟩
       refine zz ?_
       refine br (iP h) ?_ ?_ <;> (clear h; intro c h)
       ·replace h := evT h
        refine zz ?_
        exact ⟨_, zfuel, _, _, _, _, _, _, _, h, leafFr [1, 3, 9, 10] (by kernel_rfl), by kernel_rfl⟩
       refine zz ?_
       refine br (iP h) ?_ ?_ <;> (clear h; intro c h)
       ·replace h := evT h
        refine zz ?_
        exact ⟨_, zfuel, _, _, _, _, _, _, _, h, leafFr [1, 3, 9, 10] (by kernel_rfl), by kernel_rfl⟩
       refine zz ?_
       refine br (iP h) ?_ ?_ <;> (clear h; intro c h)
       ·replace h := evT h
        refine zz ?_
        exact ⟨_, zfuel, _, _, _, _, _, _, _, h, leafFr [1, 3, 9, 10] (by kernel_rfl), by kernel_rfl⟩
       replace h := evT h
       refine zz ?_
       exact ⟨_, zfuel, _, _, _, _, _, _, _, h, leafFr [1, 3, 9, 10] (by kernel_rfl), by kernel_rfl⟩
      clear h; rintro _ _ ⟨k, hle, x3, x9, x10, x16_0, x16_1, x16_2, x16_3, h, ⟨fr0, rfl⟩, rfl⟩
      rcases k with _ | k
      · exact (run_zero h).elim
      rw [run_succ, spec_l9Node.B] at h
      refine zz ?_
      refine br (iP h) ?_ ?_ <;> (clear h; intro c h)
      ·refine zz ?_
       refine br (iP h) ?_ ?_ <;> (clear h; intro c h)
       rotate_left
       ·refine zr ?_
        refine zr ?_
        replace h := evR h; cases h
        refine zz ?_
        exact zend
       refine zl ?_
       have h_ := evA h; clear h; obtain ⟨t21, ht, h⟩ := h_
       refine zz ?_
       refine Exists.intro _ (And.intro (ih.2.2.1 _ (h := ht) (hk := zfuel)) ?_)
       refine zl ?_
       replace h := evR h; cases h
       refine zz ?_
       exact zend
      refine zz ?_
      refine cutJ (n := 23) [16] (fun fr hp => ∃ kq, kq ≤ k ∧ ∃ (x3 x9 : Int) (x23 : Bool) (x16_0 x16_1 : Int) (x16_2 : ByteArray) (x16_3 : List S91), run spec_l9Node.B kq (.spec_l9Kids_j1 x3 x9 x23 x16_0 x16_1 x16_2 x16_3) = some r ∧ (∃ fr0, fr = puts [(1, .one (.ptr 16 0)), (3, .one (.val (.int .i64 x3))), (9, .one (.val (.int .i64 x9))), (23, .one (.val (.bool x23)))] fr0) ∧ hp = (upd 16 (.box [.val (.int .i64 x16_0), .val (.int .i64 x16_1), .val (.str x16_2), .val (.row (x16_3.map e91))]) (fun _ => none))) ?_ ?_
      ·refine zz ?_
       refine br (iP h) ?_ ?_ <;> (clear h; intro c h)
       ·replace h := evT h
        refine zz ?_
        exact ⟨_, zfuel, _, _, _, _, _, _, _, h, leafFr [1, 3, 9, 23] (by kernel_rfl), by kernel_rfl⟩
       refine zz ?_
       refine br (iP h) ?_ ?_ <;> (clear h; intro c h)
       ·replace h := evT h
        refine zz ?_
        exact ⟨_, zfuel, _, _, _, _, _, _, _, h, leafFr [1, 3, 9, 23] (by kernel_rfl), by kernel_rfl⟩
       refine zz ?_
       refine br (iP h) ?_ ?_ <;> (clear h; intro c h)
       ·replace h := evT h
        refine zz ?_
        exact ⟨_, zfuel, _, _, _, _, _, _, _, h, leafFr [1, 3, 9, 23] (by kernel_rfl), by kernel_rfl⟩
       refine zz ?_
       refine br (iP h) ?_ ?_ <;> (clear h; intro c h)
       ·replace h := evT h
        refine zz ?_
        exact ⟨_, zfuel, _, _, _, _, _, _, _, h, leafFr [1, 3, 9, 23] (by kernel_rfl), by kernel_rfl⟩
       refine zz ?_
       refine br (iP h) ?_ ?_ <;> (clear h; intro c h)
       ·replace h := evT h
        refine zz ?_
        exact ⟨_, zfuel, _, _, _, _, _, _, _, h, leafFr [1, 3, 9, 23] (by kernel_rfl), by kernel_rfl⟩
       refine zz ?_
       refine br (iP h) ?_ ?_ <;> (clear h; intro c h)
       ·replace h := evT h
        refine zz ?_
        exact ⟨_, zfuel, _, _, _, _, _, _, _, h, leafFr [1, 3, 9, 23] (by kernel_rfl), by kernel_rfl⟩
       refine zz ?_
       refine br (iP h) ?_ ?_ <;> (clear h; intro c h)
       ·replace h := evT h
        refine zz ?_
        exact ⟨_, zfuel, _, _, _, _, _, _, _, h, leafFr [1, 3, 9, 23] (by kernel_rfl), by kernel_rfl⟩
       refine zz ?_
       refine br (iP h) ?_ ?_ <;> (clear h; intro c h)
       ·replace h := evT h
        refine zz ?_
        exact ⟨_, zfuel, _, _, _, _, _, _, _, h, leafFr [1, 3, 9, 23] (by kernel_rfl), by kernel_rfl⟩
       refine zz ?_
       refine br (iP h) ?_ ?_ <;> (clear h; intro c h)
       ·replace h := evT h
        refine zz ?_
        exact ⟨_, zfuel, _, _, _, _, _, _, _, h, leafFr [1, 3, 9, 23] (by kernel_rfl), by kernel_rfl⟩
       refine zz ?_
       refine br (iP h) ?_ ?_ <;> (clear h; intro c h)
       ·replace h := evT h
        refine zz ?_
        exact ⟨_, zfuel, _, _, _, _, _, _, _, h, leafFr [1, 3, 9, 23] (by kernel_rfl), by kernel_rfl⟩
       refine zz ?_
       refine br (iP h) ?_ ?_ <;> (clear h; intro c h)
       ·replace h := evT h
        refine zz ?_
        exact ⟨_, zfuel, _, _, _, _, _, _, _, h, leafFr [1, 3, 9, 23] (by kernel_rfl), by kernel_rfl⟩
       refine zz ?_
       refine br (iP h) ?_ ?_ <;> (clear h; intro c h)
       ·replace h := evT h
        refine zz ?_
        exact ⟨_, zfuel, _, _, _, _, _, _, _, h, leafFr [1, 3, 9, 23] (by kernel_rfl), by kernel_rfl⟩
       refine zz ?_
       refine br (iP h) ?_ ?_ <;> (clear h; intro c h)
       ·replace h := evT h
        refine zz ?_
        exact ⟨_, zfuel, _, _, _, _, _, _, _, h, leafFr [1, 3, 9, 23] (by kernel_rfl), by kernel_rfl⟩
       refine zz ?_
       refine br (iP h) ?_ ?_ <;> (clear h; intro c h)
       ·replace h := evT h
        refine zz ?_
        exact ⟨_, zfuel, _, _, _, _, _, _, _, h, leafFr [1, 3, 9, 23] (by kernel_rfl), by kernel_rfl⟩
       replace h := evT h
       refine zz ?_
       exact ⟨_, zfuel, _, _, _, _, _, _, _, h, leafFr [1, 3, 9, 23] (by kernel_rfl), by kernel_rfl⟩
      clear h; rintro _ _ ⟨k, hle, x3, x9, x23, x16_0, x16_1, x16_2, x16_3, h, ⟨fr0, rfl⟩, rfl⟩
      rcases k with _ | k
      · exact (run_zero h).elim
      rw [run_succ, spec_l9Node.B] at h
      refine zz ?_
      refine br (iP h) ?_ ?_ <;> (clear h; intro c h)
      ·refine zz ?_
       refine br (iP h) ?_ ?_ <;> (clear h; intro c h)
       rotate_left
       ·refine zr ?_
        refine zr ?_
        replace h := evR h; cases h
        refine zz ?_
        exact zend
       refine zl ?_
       have h_ := evA h; clear h; obtain ⟨t43, ht, h⟩ := h_
       refine zz ?_
       refine Exists.intro _ (And.intro (ih.2.2.1 _ (h := ht) (hk := zfuel)) ?_)
       refine zl ?_
       replace h := evR h; cases h
       refine zz ?_
       exact zend
      refine zz ?_
      refine cutJ (n := 45) [16] (fun fr hp => ∃ kq, kq ≤ k ∧ ∃ (x3 x9 : Int) (x45 : Bool) (x16_0 x16_1 : Int) (x16_2 : ByteArray) (x16_3 : List S91), run spec_l9Node.B kq (.spec_l9Kids_j2 x3 x9 x45 x16_0 x16_1 x16_2 x16_3) = some r ∧ (∃ fr0, fr = puts [(1, .one (.ptr 16 0)), (3, .one (.val (.int .i64 x3))), (9, .one (.val (.int .i64 x9))), (45, .one (.val (.bool x45)))] fr0) ∧ hp = (upd 16 (.box [.val (.int .i64 x16_0), .val (.int .i64 x16_1), .val (.str x16_2), .val (.row (x16_3.map e91))]) (fun _ => none))) ?_ ?_
      ·refine zz ?_
       refine br (iP h) ?_ ?_ <;> (clear h; intro c h)
       ·replace h := evT h
        refine zz ?_
        exact ⟨_, zfuel, _, _, _, _, _, _, _, h, leafFr [1, 3, 9, 45] (by kernel_rfl), by kernel_rfl⟩
       replace h := evT h
       refine zz ?_
       exact ⟨_, zfuel, _, _, _, _, _, _, _, h, leafFr [1, 3, 9, 45] (by kernel_rfl), by kernel_rfl⟩
      clear h; rintro _ _ ⟨k, hle, x3, x9, x45, x16_0, x16_1, x16_2, x16_3, h, ⟨fr0, rfl⟩, rfl⟩
      rcases k with _ | k
      · exact (run_zero h).elim
      rw [run_succ, spec_l9Node.B] at h
      refine zz ?_
      refine br (iP h) ?_ ?_ <;> (clear h; intro c h)
      ·refine zz ?_
       refine br (iP h) ?_ ?_ <;> (clear h; intro c h)
       rotate_left
       ·refine zr ?_
        refine zr ?_
        refine zr ?_
        refine zr ?_
        refine zr ?_
        refine zr ?_
        refine zr ?_
        refine zr ?_
        refine zr ?_
        refine zr ?_
        refine zr ?_
        replace h := evR h; cases h
        refine zz ?_
        exact zend
       refine zl ?_
       refine zl ?_
       have h_ := gP h; clear h; obtain ⟨c, h⟩ := h_
       refine zl ?_
       refine zl ?_
       refine zl ?_
       refine zl ?_
       refine zz ?_
       refine brW (iP h) ?_ ?_ <;> (clear h; intro c h)
       rotate_left
       ·refine zr ?_
        refine zr ?_
        refine zr ?_
        refine zr ?_
        refine zr ?_
        refine zl ?_
        refine zl ?_
        refine zl ?_
        refine zl ?_
        refine zl ?_
        have h_ := evA h; clear h; obtain ⟨t68, ht, h⟩ := h_
        refine zz ?_
        refine Exists.intro _ (And.intro (ih.2.2.1 _ (h := ht) (hk := zfuel)) ?_)
        refine zl ?_
        replace h := evR h; cases h
        refine zz ?_
        exact zend
       refine zl ?_
       refine zl ?_
       refine zl ?_
       refine zl ?_
       refine zl ?_
       refine zl ?_
       refine zr ?_
       refine zl ?_
       refine zz ?_
       refine br (iP h) ?_ ?_ <;> (clear h; intro c h)
       rotate_left
       ·refine zr ?_
        refine zr ?_
        replace h := evR h; cases h
        refine zz ?_
        exact zend
       refine zl ?_
       have h_ := evA h; clear h; obtain ⟨t68, ht, h⟩ := h_
       refine zz ?_
       refine Exists.intro _ (And.intro (ih.2.2.1 _ (h := ht) (hk := zfuel)) ?_)
       refine zl ?_
       replace h := evR h; cases h
       refine zz ?_
       exact zend
      refine zz ?_
      refine cutJ (n := 70) [16] (fun fr hp => ∃ kq, kq ≤ k ∧ ∃ (x3 x9 : Int) (x70 : Bool) (x16_0 x16_1 : Int) (x16_2 : ByteArray) (x16_3 : List S91), run spec_l9Node.B kq (.spec_l9Kids_j3 x3 x9 x70 x16_0 x16_1 x16_2 x16_3) = some r ∧ (∃ fr0, fr = puts [(1, .one (.ptr 16 0)), (3, .one (.val (.int .i64 x3))), (9, .one (.val (.int .i64 x9))), (70, .one (.val (.bool x70)))] fr0) ∧ hp = (upd 16 (.box [.val (.int .i64 x16_0), .val (.int .i64 x16_1), .val (.str x16_2), .val (.row (x16_3.map e91))]) (fun _ => none))) ?_ ?_
      ·refine zz ?_
       refine br (iP h) ?_ ?_ <;> (clear h; intro c h)
       ·replace h := evT h
        refine zz ?_
        exact ⟨_, zfuel, _, _, _, _, _, _, _, h, leafFr [1, 3, 9, 70] (by kernel_rfl), by kernel_rfl⟩
       replace h := evT h
       refine zz ?_
       exact ⟨_, zfuel, _, _, _, _, _, _, _, h, leafFr [1, 3, 9, 70] (by kernel_rfl), by kernel_rfl⟩
      clear h; rintro _ _ ⟨k, hle, x3, x9, x70, x16_0, x16_1, x16_2, x16_3, h, ⟨fr0, rfl⟩, rfl⟩
      rcases k with _ | k
      · exact (run_zero h).elim
      rw [run_succ, spec_l9Node.B] at h
      refine zz ?_
      refine br (iP h) ?_ ?_ <;> (clear h; intro c h)
      ·have h_ := evA h; clear h; obtain ⟨t75, ht, h⟩ := h_
       refine zz ?_
       refine Exists.intro _ (And.intro (ih.2.2.1 _ (h := ht) (hk := zfuel)) ?_)
       replace h := evR h; cases h
       refine zz ?_
       exact zend
      refine zz ?_
      refine br (iP h) ?_ ?_ <;> (clear h; intro c h)
      ·have h_ := evO h; clear h; obtain ⟨t79, ht, h⟩ := h_
       refine zz ?_
       refine Exists.intro _ (And.intro (spec_l1In_ev (h := ht)) ?_)
       refine zz ?_
       refine br (iP h) ?_ ?_ <;> (clear h; intro c h)
       rotate_left
       ·refine zr ?_
        refine zr ?_
        refine zr ?_
        refine zr ?_
        refine zr ?_
        replace h := evR h; cases h
        refine zz ?_
        exact zend
       refine zl ?_
       have h_ := evA h; clear h; obtain ⟨t82, ht, h⟩ := h_
       refine zz ?_
       refine Exists.intro _ (And.intro (ih.2.2.1 _ (h := ht) (hk := zfuel)) ?_)
       refine zl ?_
       refine zz ?_
       refine br (iP h) ?_ ?_ <;> (clear h; intro c h)
       rotate_left
       ·refine zr ?_
        refine zr ?_
        replace h := evR h; cases h
        refine zz ?_
        exact zend
       refine zl ?_
       have h_ := evA h; clear h; obtain ⟨t86, ht, h⟩ := h_
       refine zz ?_
       refine Exists.intro _ (And.intro (ih.2.2.2 _ (h := ht) (hk := zfuel)) ?_)
       refine zl ?_
       replace h := evR h; cases h
       refine zz ?_
       exact zend
      refine zz ?_
      refine br (iP h) ?_ ?_ <;> (clear h; intro c h)
      ·refine zz ?_
       refine br (iP h) ?_ ?_ <;> (clear h; intro c h)
       rotate_left
       ·refine zr ?_
        refine zr ?_
        refine zr ?_
        refine zr ?_
        refine zr ?_
        replace h := evR h; cases h
        refine zz ?_
        exact zend
       refine zl ?_
       have h_ := evA h; clear h; obtain ⟨t94, ht, h⟩ := h_
       refine zz ?_
       refine Exists.intro _ (And.intro (ih.2.2.1 _ (h := ht) (hk := zfuel)) ?_)
       refine zl ?_
       refine zz ?_
       refine br (iP h) ?_ ?_ <;> (clear h; intro c h)
       rotate_left
       ·refine zr ?_
        refine zr ?_
        replace h := evR h; cases h
        refine zz ?_
        exact zend
       refine zl ?_
       have h_ := evA h; clear h; obtain ⟨t98, ht, h⟩ := h_
       refine zz ?_
       refine Exists.intro _ (And.intro (ih.2.2.2 _ (h := ht) (hk := zfuel)) ?_)
       refine zl ?_
       replace h := evR h; cases h
       refine zz ?_
       exact zend
      refine zz ?_
      refine br (iP h) ?_ ?_ <;> (clear h; intro c h)
      rotate_left
      ·replace h := evR h; cases h
       refine zz ?_
       exact zend
      replace h := evT h
      refine zz ?_
      refine loopJ [16] (fun kq fr hp => ∃ (x3 x4 : Int) (x16_0 x16_1 : Int) (x16_2 : ByteArray) (x16_3 : List S91), run spec_l9Node.B kq (.spec_l9Kids_l0 x3 x4 x16_0 x16_1 x16_2 x16_3) = some r ∧ (∃ fr0, fr = puts [(1, .one (.ptr 16 0)), (3, .one (.val (.int .i64 x3))), (4, .one (.val (.int .i64 x4)))] fr0) ∧ hp = (upd 16 (.box [.val (.int .i64 x16_0), .val (.int .i64 x16_1), .val (.str x16_2), .val (.row (x16_3.map e91))]) (fun _ => none))) k ⟨_, zfuel, _, _, _, _, _, _, h, leafFr [1, 3, 4] (by kernel_rfl), by kernel_rfl⟩ ?_
      clear h; rintro k hle _ _ ⟨x3, x4, x16_0, x16_1, x16_2, x16_3, h, ⟨fr0, rfl⟩, rfl⟩
      rcases k with _ | k
      · exact (run_zero h).elim
      rw [run_succ, spec_l9Node.B] at h
      refine zz ?_
      refine br (iP h) ?_ ?_ <;> (clear h; intro c h)
      rotate_left
      ·replace h := evR h; cases h
       refine zz ?_
       exact zend
      have h_ := gP h; clear h; obtain ⟨c, h⟩ := h_
      have h_ := gP h; clear h; obtain ⟨c, h⟩ := h_
      have h_ := evO h; clear h; obtain ⟨t113, ht, h⟩ := h_
      refine zz ?_
      refine Exists.intro _ (And.intro (spec_l1In_ev (h := ht)) ?_)
      refine zz ?_
      refine brX (iP h) ?_ ?_ <;> (clear h; intro c h)
      rotate_left
      ·refine zr ?_
       refine zr ?_
       refine zr ?_
       refine zr ?_
       refine zr ?_
       refine zr ?_
       refine zl ?_
       refine zl ?_
       replace h := evR h; cases h
       refine zz ?_
       exact zend
      refine zl ?_
      refine zl ?_
      refine zl ?_
      refine zl ?_
      refine zl ?_
      have h_ := evA h; clear h; obtain ⟨t121, ht, h⟩ := h_
      refine zz ?_
      refine Exists.intro _ (And.intro (ih.1 _ (h := ht) (hk := zfuel)) ?_)
      refine zl ?_
      refine zr ?_
      refine zz ?_
      refine brN (iP h) ?_ ?_ <;> (clear h; intro c h)
      ·replace h := evR h; cases h
       refine zz ?_
       exact zend
      replace h := evT h
      refine zz ?_
      exact ⟨_, zfuel, _, _, _, _, _, _, h, leafFr [1, 3, 4] (by kernel_rfl), by kernel_rfl⟩
    · intro k a0_0 a0_1 a0_2 l0_3 a1 a2 r h hk
      refine CE.mk ⟨Tryz.f143, _, rfl, rfl, ⟨by kernel_rfl, Nat.le_of_ble_eq_true rfl, Nat.le_of_ble_eq_true rfl⟩, ?_⟩
      rcases k with _ | k
      · exact (run_zero h).elim
      rw [run_succ, spec_l9Node.B] at h
      replace h := evT h
      refine zz ?_
      refine loopJ [16] (fun kq fr hp => ∃ (x2 x7 : Int) (x16_0 x16_1 : Int) (x16_2 : ByteArray) (x16_3 : List S91), run spec_l9Node.B kq (.spec_l9Es_l0 x2 x7 x16_0 x16_1 x16_2 x16_3) = some r ∧ (∃ fr0, fr = puts [(2, .one (.val (.int .i64 x2))), (3, .one (.ptr 16 0)), (7, .one (.val (.int .i64 x7)))] fr0) ∧ hp = (upd 16 (.box [.val (.int .i64 x16_0), .val (.int .i64 x16_1), .val (.str x16_2), .val (.row (x16_3.map e91))]) (fun _ => none))) k ⟨_, zfuel, _, _, _, _, _, _, h, leafFr [2, 3, 7] (by kernel_rfl), by kernel_rfl⟩ ?_
      clear h; rintro k hle _ _ ⟨x2, x7, x16_0, x16_1, x16_2, x16_3, h, ⟨fr0, rfl⟩, rfl⟩
      rcases k with _ | k
      · exact (run_zero h).elim
      rw [run_succ, spec_l9Node.B] at h
      refine zz ?_
      refine br (iP h) ?_ ?_ <;> (clear h; intro c h)
      rotate_left
      ·replace h := evR h; cases h
       refine zz ?_
       exact zend
      have h_ := gP h; clear h; obtain ⟨c, h⟩ := h_
      have h_ := gP h; clear h; obtain ⟨c, h⟩ := h_
      have h_ := evO h; clear h; obtain ⟨t20, ht, h⟩ := h_
      refine zz ?_
      refine Exists.intro _ (And.intro (spec_l9IsE_ev (h := ht)) ?_)
      refine zz ?_
      refine brX (iP h) ?_ ?_ <;> (clear h; intro c h)
      rotate_left
      ·refine zr ?_
       refine zr ?_
       refine zr ?_
       refine zr ?_
       refine zr ?_
       refine zr ?_
       refine zl ?_
       refine zl ?_
       replace h := evR h; cases h
       refine zz ?_
       exact zend
      refine zl ?_
      refine zl ?_
      refine zl ?_
      refine zl ?_
      refine zl ?_
      have h_ := evA h; clear h; obtain ⟨t28, ht, h⟩ := h_
      refine zz ?_
      refine Exists.intro _ (And.intro (ih.1 _ (h := ht) (hk := zfuel)) ?_)
      refine zl ?_
      refine zr ?_
      refine zz ?_
      refine brN (iP h) ?_ ?_ <;> (clear h; intro c h)
      ·replace h := evR h; cases h
       refine zz ?_
       exact zend
      replace h := evT h
      refine zz ?_
      exact ⟨_, zfuel, _, _, _, _, _, _, h, leafFr [2, 3, 7] (by kernel_rfl), by kernel_rfl⟩
    · intro k a0_0 a0_1 a0_2 l0_3 a1 r h hk
      refine CE.mk ⟨Tryz.f144, _, rfl, rfl, ⟨by kernel_rfl, Nat.le_of_ble_eq_true rfl, Nat.le_of_ble_eq_true rfl⟩, ?_⟩
      rcases k with _ | k
      · exact (run_zero h).elim
      rw [run_succ, spec_l9Node.B] at h
      replace h := evT h
      refine zz ?_
      refine loopJ [16] (fun kq fr hp => ∃ (x5 x16_0 x16_1 : Int) (x16_2 : ByteArray) (x16_3 : List S91), run spec_l9Node.B kq (.spec_l9Blocks_l0 x5 x16_0 x16_1 x16_2 x16_3) = some r ∧ (∃ fr0, fr = puts [(2, .one (.ptr 16 0)), (5, .one (.val (.int .i64 x5)))] fr0) ∧ hp = (upd 16 (.box [.val (.int .i64 x16_0), .val (.int .i64 x16_1), .val (.str x16_2), .val (.row (x16_3.map e91))]) (fun _ => none))) k ⟨_, zfuel, _, _, _, _, _, h, leafFr [2, 5] (by kernel_rfl), by kernel_rfl⟩ ?_
      clear h; rintro k hle _ _ ⟨x5, x16_0, x16_1, x16_2, x16_3, h, ⟨fr0, rfl⟩, rfl⟩
      rcases k with _ | k
      · exact (run_zero h).elim
      rw [run_succ, spec_l9Node.B] at h
      refine zz ?_
      refine br (iP h) ?_ ?_ <;> (clear h; intro c h)
      rotate_left
      ·replace h := evR h; cases h
       refine zz ?_
       exact zend
      have h_ := gP h; clear h; obtain ⟨c, h⟩ := h_
      refine zz ?_
      refine brX (iP h) ?_ ?_ <;> (clear h; intro c h)
      rotate_left
      ·refine zr ?_
       refine zr ?_
       refine zr ?_
       refine zr ?_
       refine zr ?_
       refine zr ?_
       refine zl ?_
       refine zl ?_
       replace h := evR h; cases h
       refine zz ?_
       exact zend
      refine zl ?_
      refine zl ?_
      refine zl ?_
      refine zl ?_
      refine zl ?_
      have h_ := evA h; clear h; obtain ⟨t27, ht, h⟩ := h_
      refine zz ?_
      refine Exists.intro _ (And.intro (ih.1 _ (h := ht) (hk := zfuel)) ?_)
      refine zl ?_
      refine zr ?_
      refine zz ?_
      refine brN (iP h) ?_ ?_ <;> (clear h; intro c h)
      ·replace h := evR h; cases h
       refine zz ?_
       exact zend
      replace h := evT h
      refine zz ?_
      exact ⟨_, zfuel, _, _, _, _, _, h, leafFr [2, 5] (by kernel_rfl), by kernel_rfl⟩
theorem spec_l9Node_ev (a0_0 a0_1 : Int) (a0_2 : ByteArray) (l0_3 : List S91) (r : Bool) (h : spec_l9Node.fv a0_0 a0_1 a0_2 l0_3 = some r) : CE (G m_) 100 [.val (.agg [.int .i64 a0_0, .int .i64 a0_1, .str a0_2, .row (l0_3.map e91)])] [] [.val (.bool r)] [] := by
  obtain ⟨k, h⟩ := lim_ex h
  exact (spec_l9Node_all (k + 1)).1 k _ _ _ _ _ h (Nat.lt_succ_self k)
theorem spec_l9Kids_ev (a0_0 a0_1 : Int) (a0_2 : ByteArray) (l0_3 : List S91) (r : Bool) (h : spec_l9Kids.fv a0_0 a0_1 a0_2 l0_3 = some r) : CE (G m_) 126 [.val (.agg [.int .i64 a0_0, .int .i64 a0_1, .str a0_2, .row (l0_3.map e91)])] [] [.val (.bool r)] [] := by
  obtain ⟨k, h⟩ := lim_ex h
  exact (spec_l9Node_all (k + 1)).2.1 k _ _ _ _ _ h (Nat.lt_succ_self k)
theorem spec_l9Es_ev (a0_0 a0_1 : Int) (a0_2 : ByteArray) (l0_3 : List S91) (a1 a2 : Int) (r : Bool) (h : spec_l9Es.fv a0_0 a0_1 a0_2 l0_3 a1 a2 = some r) : CE (G m_) 143 [.val (.agg [.int .i64 a0_0, .int .i64 a0_1, .str a0_2, .row (l0_3.map e91)]), .val (.int .i64 a1), .val (.int .i64 a2)] [] [.val (.bool r)] [] := by
  obtain ⟨k, h⟩ := lim_ex h
  exact (spec_l9Node_all (k + 1)).2.2.1 k _ _ _ _ _ _ _ h (Nat.lt_succ_self k)
theorem spec_l9Blocks_ev (a0_0 a0_1 : Int) (a0_2 : ByteArray) (l0_3 : List S91) (a1 : Int) (r : Bool) (h : spec_l9Blocks.fv a0_0 a0_1 a0_2 l0_3 a1 = some r) : CE (G m_) 144 [.val (.agg [.int .i64 a0_0, .int .i64 a0_1, .str a0_2, .row (l0_3.map e91)]), .val (.int .i64 a1)] [] [.val (.bool r)] [] := by
  obtain ⟨k, h⟩ := lim_ex h
  exact (spec_l9Node_all (k + 1)).2.2.2 k _ _ _ _ _ _ h (Nat.lt_succ_self k)
theorem spec_Tidy_ev (l0 : List S93) (r : Bool) (h : spec_Tidy.fv l0 = some r) : CE (G m_) 72 [.val (.row (l0.map e93))] [] [.val (.bool r)] [] := by
  obtain ⟨k, h⟩ := lim_ex h
  refine CE.mk ⟨Tryz.f72, _, rfl, rfl, ⟨by kernel_rfl, Nat.le_of_ble_eq_true rfl, Nat.le_of_ble_eq_true rfl⟩, ?_⟩
  rcases k with _ | k
  · exact (run_zero h).elim
  rw [run_succ, spec_Tidy.B] at h
  replace h := evT h
  refine zz ?_
  refine loopJ [] (fun kq fr hp => ∃ (x0 : List S93) (x3 : Int), run spec_Tidy.B kq (.l0 x0 x3) = some r ∧ (∃ fr0, fr = puts [(0, .one (.val (.row (x0.map e93)))), (3, .one (.val (.int .i64 x3)))] fr0) ∧ hp = (fun _ => none)) k ⟨_, zfuel, _, _, h, leafFr [0, 3] (by kernel_rfl), by kernel_rfl⟩ ?_
  clear h; rintro k hle _ _ ⟨x0, x3, h, ⟨fr0, rfl⟩, rfl⟩
  rcases k with _ | k
  · exact (run_zero h).elim
  rw [run_succ, spec_Tidy.B] at h
  refine zz ?_
  refine br (iP h) ?_ ?_ <;> (clear h; intro c h)
  rotate_left
  ·replace h := evR h; cases h
   refine zz ?_
   exact zend
  have h_ := gP h; clear h; obtain ⟨c, h⟩ := h_
  refine zz ?_
  refine cutJ (n := 200005) [2068] (fun fr hp => ∃ kq, kq ≤ k ∧ ∃ (x0 : List S93) (x3 : Int) (x5 : Bool) (x2068_0 x2068_1 x2068_2 : Int) (x2068_3 : ByteArray) (x2068_4 : List S91) (x2068_5 x2068_6 : Int) (x2068_7 : ByteArray) (x2068_8 : List S91), run spec_Tidy.B kq (.j1 x0 x3 x5 x2068_0 x2068_1 x2068_2 x2068_3 x2068_4 x2068_5 x2068_6 x2068_7 x2068_8) = some r ∧ (∃ fr0, fr = puts [(0, .one (.val (.row (x0.map e93)))), (3, .one (.val (.int .i64 x3))), (4, .one (.ptr 2068 0)), (5, .one (.val (.bool x5)))] fr0) ∧ hp = (upd 2068 (.box [.val (.int .i64 x2068_0), .val (.int .i64 x2068_1), .val (.int .i64 x2068_2), .val (.str x2068_3), .val (.row (x2068_4.map e91)), .val (.int .i64 x2068_5), .val (.int .i64 x2068_6), .val (.str x2068_7), .val (.row (x2068_8.map e91))]) (fun _ => none))) ?_ ?_
  ·refine zz ?_
   refine br (iP h) ?_ ?_ <;> (clear h; intro c h)
   rotate_left
   ·refine zr ?_
    refine zr ?_
    refine zr ?_
    refine zr ?_
    refine zr ?_
    refine zr ?_
    refine zr ?_
    refine zr ?_
    refine zr ?_
    refine zr ?_
    refine zr ?_
    refine zr ?_
    refine zr ?_
    refine zr ?_
    refine zr ?_
    replace h := evT h
    refine zz ?_
    exact ⟨_, zfuel, _, _, _, _, _, _, _, _, _, _, _, _, h, leafFr [0, 3, 4, 5] (by kernel_rfl), by kernel_rfl⟩
   refine zl ?_
   refine zl ?_
   refine zl ?_
   refine zl ?_
   refine zz ?_
   refine br (iP h) ?_ ?_ <;> (clear h; intro c h)
   rotate_left
   ·refine zr ?_
    refine zr ?_
    refine zr ?_
    refine zr ?_
    refine zr ?_
    refine zr ?_
    refine zr ?_
    refine zr ?_
    refine zr ?_
    refine zr ?_
    replace h := evT h
    refine zz ?_
    exact ⟨_, zfuel, _, _, _, _, _, _, _, _, _, _, _, _, h, leafFr [0, 3, 4, 5] (by kernel_rfl), by kernel_rfl⟩
   refine zl ?_
   refine zl ?_
   refine zl ?_
   refine zl ?_
   refine zz ?_
   refine br (iP h) ?_ ?_ <;> (clear h; intro c h)
   ·refine zl ?_
    refine zl ?_
    refine zl ?_
    refine zl ?_
    refine zl ?_
    replace h := evT h
    refine zz ?_
    exact ⟨_, zfuel, _, _, _, _, _, _, _, _, _, _, _, _, h, leafFr [0, 3, 4, 5] (by kernel_rfl), by kernel_rfl⟩
   refine zr ?_
   refine zr ?_
   refine zr ?_
   refine zr ?_
   refine zr ?_
   replace h := evT h
   refine zz ?_
   exact ⟨_, zfuel, _, _, _, _, _, _, _, _, _, _, _, _, h, leafFr [0, 3, 4, 5] (by kernel_rfl), by kernel_rfl⟩
  clear h; rintro _ _ ⟨k, hle, x0, x3, x5, x2068_0, x2068_1, x2068_2, x2068_3, x2068_4, x2068_5, x2068_6, x2068_7, x2068_8, h, ⟨fr0, rfl⟩, rfl⟩
  rcases k with _ | k
  · exact (run_zero h).elim
  rw [run_succ, spec_Tidy.B] at h
  refine zz ?_
  refine cutJ (n := 200006) [2068] (fun fr hp => ∃ kq, kq ≤ k ∧ ∃ (x0 : List S93) (x3 : Int) (x6 : Bool) (x2068_0 x2068_1 x2068_2 : Int) (x2068_3 : ByteArray) (x2068_4 : List S91) (x2068_5 x2068_6 : Int) (x2068_7 : ByteArray) (x2068_8 : List S91), run spec_Tidy.B kq (.j2 x0 x3 x6 x2068_0 x2068_1 x2068_2 x2068_3 x2068_4 x2068_5 x2068_6 x2068_7 x2068_8) = some r ∧ (∃ fr0, fr = puts [(0, .one (.val (.row (x0.map e93)))), (3, .one (.val (.int .i64 x3))), (4, .one (.ptr 2068 0)), (6, .one (.val (.bool x6)))] fr0) ∧ hp = (upd 2068 (.box [.val (.int .i64 x2068_0), .val (.int .i64 x2068_1), .val (.int .i64 x2068_2), .val (.str x2068_3), .val (.row (x2068_4.map e91)), .val (.int .i64 x2068_5), .val (.int .i64 x2068_6), .val (.str x2068_7), .val (.row (x2068_8.map e91))]) (fun _ => none))) ?_ ?_
  ·have h_ := evO h; clear h; obtain ⟨t42, ht, h⟩ := h_
   refine zz ?_
   refine Exists.intro _ (And.intro (spec_l1In_ev (h := ht)) ?_)
   refine zz ?_
   refine br (iP h) ?_ ?_ <;> (clear h; intro c h)
   rotate_left
   ·refine zr ?_
    refine zl ?_
    refine zl ?_
    refine zl ?_
    refine zl ?_
    refine zz ?_
    refine br (iP h) ?_ ?_ <;> (clear h; intro c h)
    rotate_left
    ·refine zr ?_
     refine zr ?_
     refine zr ?_
     refine zl ?_
     refine zr ?_
     refine zl ?_
     refine zr ?_
     refine zr ?_
     refine zr ?_
     refine zl ?_
     refine zr ?_
     refine zl ?_
     refine zr ?_
     refine zr ?_
     refine zr ?_
     refine zr ?_
     refine zl ?_
     refine zr ?_
     refine zr ?_
     replace h := evT h
     refine zz ?_
     exact ⟨_, zfuel, _, _, _, _, _, _, _, _, _, _, _, _, h, leafFr [0, 3, 4, 6] (by kernel_rfl), by kernel_rfl⟩
    refine zl ?_
    refine zl ?_
    refine zl ?_
    have h_ := evO h; clear h; obtain ⟨t54, ht, h⟩ := h_
    refine zz ?_
    refine Exists.intro _ (And.intro (spec_l9IsE_ev (h := ht)) ?_)
    refine zl ?_
    refine zl ?_
    refine zl ?_
    refine zz ?_
    refine br (iP h) ?_ ?_ <;> (clear h; intro c h)
    rotate_left
    ·refine zr ?_
     refine zr ?_
     refine zl ?_
     refine zr ?_
     refine zl ?_
     refine zr ?_
     refine zr ?_
     refine zr ?_
     refine zr ?_
     refine zl ?_
     refine zr ?_
     refine zr ?_
     replace h := evT h
     refine zz ?_
     exact ⟨_, zfuel, _, _, _, _, _, _, _, _, _, _, _, _, h, leafFr [0, 3, 4, 6] (by kernel_rfl), by kernel_rfl⟩
    refine zl ?_
    refine zl ?_
    have h_ := evO h; clear h; obtain ⟨t59, ht, h⟩ := h_
    refine zz ?_
    refine Exists.intro _ (And.intro (spec_l9Node_ev (h := ht)) ?_)
    refine zl ?_
    refine zl ?_
    refine zl ?_
    refine zz ?_
    refine br (iP h) ?_ ?_ <;> (clear h; intro c h)
    rotate_left
    ·refine zr ?_
     refine zr ?_
     refine zr ?_
     refine zl ?_
     refine zr ?_
     refine zr ?_
     replace h := evT h
     refine zz ?_
     exact ⟨_, zfuel, _, _, _, _, _, _, _, _, _, _, _, _, h, leafFr [0, 3, 4, 6] (by kernel_rfl), by kernel_rfl⟩
    refine zl ?_
    refine zl ?_
    have h_ := evO h; clear h; obtain ⟨t64, ht, h⟩ := h_
    refine zz ?_
    refine Exists.intro _ (And.intro (spec_Deep_ev (h := ht)) ?_)
    refine zl ?_
    refine zl ?_
    refine zl ?_
    refine zr ?_
    replace h := evT h
    refine zz ?_
    exact ⟨_, zfuel, _, _, _, _, _, _, _, _, _, _, _, _, h, leafFr [0, 3, 4, 6] (by kernel_rfl), by kernel_rfl⟩
   refine zl ?_
   refine zz ?_
   refine brW (iP h) ?_ ?_ <;> (clear h; intro c h)
   rotate_left
   ·refine zr ?_
    refine zr ?_
    refine zr ?_
    refine zr ?_
    refine zr ?_
    refine zr ?_
    refine zr ?_
    refine zr ?_
    refine zl ?_
    replace h := evT h
    refine zz ?_
    exact ⟨_, zfuel, _, _, _, _, _, _, _, _, _, _, _, _, h, leafFr [0, 3, 4, 6] (by kernel_rfl), by kernel_rfl⟩
   refine zl ?_
   refine zl ?_
   refine zl ?_
   refine zz ?_
   refine br (iP h) ?_ ?_ <;> (clear h; intro c h)
   rotate_left
   ·refine zr ?_
    refine zr ?_
    refine zr ?_
    refine zl ?_
    refine zr ?_
    refine zl ?_
    refine zr ?_
    refine zr ?_
    refine zr ?_
    refine zl ?_
    refine zr ?_
    refine zl ?_
    refine zr ?_
    refine zr ?_
    refine zr ?_
    refine zr ?_
    refine zl ?_
    refine zr ?_
    refine zr ?_
    replace h := evT h
    refine zz ?_
    exact ⟨_, zfuel, _, _, _, _, _, _, _, _, _, _, _, _, h, leafFr [0, 3, 4, 6] (by kernel_rfl), by kernel_rfl⟩
   refine zl ?_
   refine zl ?_
   refine zl ?_
   have h_ := evO h; clear h; obtain ⟨t54, ht, h⟩ := h_
   refine zz ?_
   refine Exists.intro _ (And.intro (spec_l9IsE_ev (h := ht)) ?_)
   refine zl ?_
   refine zl ?_
   refine zl ?_
   refine zz ?_
   refine br (iP h) ?_ ?_ <;> (clear h; intro c h)
   rotate_left
   ·refine zr ?_
    refine zr ?_
    refine zl ?_
    refine zr ?_
    refine zl ?_
    refine zr ?_
    refine zr ?_
    refine zr ?_
    refine zr ?_
    refine zl ?_
    refine zr ?_
    refine zr ?_
    replace h := evT h
    refine zz ?_
    exact ⟨_, zfuel, _, _, _, _, _, _, _, _, _, _, _, _, h, leafFr [0, 3, 4, 6] (by kernel_rfl), by kernel_rfl⟩
   refine zl ?_
   refine zl ?_
   have h_ := evO h; clear h; obtain ⟨t59, ht, h⟩ := h_
   refine zz ?_
   refine Exists.intro _ (And.intro (spec_l9Node_ev (h := ht)) ?_)
   refine zl ?_
   refine zl ?_
   refine zl ?_
   refine zz ?_
   refine br (iP h) ?_ ?_ <;> (clear h; intro c h)
   rotate_left
   ·refine zr ?_
    refine zr ?_
    refine zr ?_
    refine zl ?_
    refine zr ?_
    refine zr ?_
    replace h := evT h
    refine zz ?_
    exact ⟨_, zfuel, _, _, _, _, _, _, _, _, _, _, _, _, h, leafFr [0, 3, 4, 6] (by kernel_rfl), by kernel_rfl⟩
   refine zl ?_
   refine zl ?_
   have h_ := evO h; clear h; obtain ⟨t64, ht, h⟩ := h_
   refine zz ?_
   refine Exists.intro _ (And.intro (spec_Deep_ev (h := ht)) ?_)
   refine zl ?_
   refine zl ?_
   refine zl ?_
   refine zr ?_
   replace h := evT h
   refine zz ?_
   exact ⟨_, zfuel, _, _, _, _, _, _, _, _, _, _, _, _, h, leafFr [0, 3, 4, 6] (by kernel_rfl), by kernel_rfl⟩
  clear h; rintro _ _ ⟨k, hle, x0, x3, x6, x2068_0, x2068_1, x2068_2, x2068_3, x2068_4, x2068_5, x2068_6, x2068_7, x2068_8, h, ⟨fr0, rfl⟩, rfl⟩
  rcases k with _ | k
  · exact (run_zero h).elim
  rw [run_succ, spec_Tidy.B] at h
  refine zz ?_
  refine brX (iP h) ?_ ?_ <;> (clear h; intro c h)
  rotate_left
  ·refine zr ?_
   refine zr ?_
   refine zr ?_
   refine zl ?_
   refine zr ?_
   refine zr ?_
   refine zr ?_
   refine zr ?_
   refine zl ?_
   refine zr ?_
   refine zr ?_
   refine zr ?_
   refine zr ?_
   refine zl ?_
   refine zl ?_
   replace h := evR h; cases h
   refine zz ?_
   exact zend
  refine zl ?_
  refine zl ?_
  refine zl ?_
  refine zr ?_
  refine zz ?_
  refine brX (iP h) ?_ ?_ <;> (clear h; intro c h)
  rotate_left
  ·refine zr ?_
   refine zr ?_
   refine zr ?_
   refine zl ?_
   refine zr ?_
   refine zr ?_
   refine zr ?_
   refine zr ?_
   refine zl ?_
   refine zl ?_
   replace h := evR h; cases h
   refine zz ?_
   exact zend
  refine zl ?_
  refine zl ?_
  have h_ := evO h; clear h; obtain ⟨t79, ht, h⟩ := h_
  refine zz ?_
  refine Exists.intro _ (And.intro (spec_Deep_ev (h := ht)) ?_)
  refine zl ?_
  refine zr ?_
  refine zz ?_
  refine brW (iP h) ?_ ?_ <;> (clear h; intro c h)
  rotate_left
  ·refine zr ?_
   refine zr ?_
   refine zr ?_
   refine zl ?_
   refine zl ?_
   replace h := evR h; cases h
   refine zz ?_
   exact zend
  refine zl ?_
  refine zl ?_
  have h_ := evO h; clear h; obtain ⟨t85, ht, h⟩ := h_
  refine zz ?_
  refine Exists.intro _ (And.intro (spec_l9Node_ev (h := ht)) ?_)
  refine zl ?_
  refine zr ?_
  refine zz ?_
  refine brN (iP h) ?_ ?_ <;> (clear h; intro c h)
  ·replace h := evR h; cases h
   refine zz ?_
   exact zend
  replace h := evT h
  refine zz ?_
  exact ⟨_, zfuel, _, _, h, leafFr [0, 3] (by kernel_rfl), by kernel_rfl⟩
theorem spec_l10Line_all : ∀ n, (∀ (k : Nat) (a0_0 a0_1 : Int) (a0_2 : ByteArray) (l0_3 : List S91) (r : Bool) (h : run spec_l10Line.B k (.f a0_0 a0_1 a0_2 l0_3) = some r) (hk : k < n), CE (G m_) 73 [.val (.agg [.int .i64 a0_0, .int .i64 a0_1, .str a0_2, .row (l0_3.map e91)])] [] [.val (.bool r)] []) := by
  intro n
  induction n with
  | zero => exact (by intros; omega)
  | succ n ih =>
    · intro k a0_0 a0_1 a0_2 l0_3 r h hk
      refine CE.mk ⟨Tryz.f73, _, rfl, rfl, ⟨by kernel_rfl, Nat.le_of_ble_eq_true rfl, Nat.le_of_ble_eq_true rfl⟩, ?_⟩
      rcases k with _ | k
      · exact (run_zero h).elim
      rw [run_succ, spec_l10Line.B] at h
      refine zz ?_
      refine cutJ (n := 26) [16] (fun fr hp => ∃ kq, kq ≤ k ∧ ∃ (x16_0 x16_1 : Int) (x16_2 : ByteArray) (x16_3 : List S91), run spec_l10Line.B kq (.j0 x16_0 x16_1 x16_2 x16_3) = some r ∧ (∃ fr0, fr = puts [(1, .one (.ptr 16 0))] fr0) ∧ hp = (upd 16 (.box [.val (.int .i64 x16_0), .val (.int .i64 x16_1), .val (.str x16_2), .val (.row (x16_3.map e91))]) (fun _ => none))) ?_ ?_
      ·refine zz ?_
       refine cutJ (n := 200001) [16] (fun fr hp => ∃ kq, kq ≤ k ∧ ∃ (x26 : Bool) (x16_0 x16_1 : Int) (x16_2 : ByteArray) (x16_3 : List S91), run spec_l10Line.B kq (.j1 x26 x16_0 x16_1 x16_2 x16_3) = some r ∧ (∃ fr0, fr = puts [(1, .one (.ptr 16 0)), (26, .one (.val (.bool x26)))] fr0) ∧ hp = (upd 16 (.box [.val (.int .i64 x16_0), .val (.int .i64 x16_1), .val (.str x16_2), .val (.row (x16_3.map e91))]) (fun _ => none))) ?_ ?_
       ·refine zz ?_
        refine brW (iP h) ?_ ?_ <;> (clear h; intro c h)
        rotate_left
        ·refine zr ?_
         refine zr ?_
         refine zl ?_
         refine zr ?_
         refine zr ?_
         refine zr ?_
         refine zl ?_
         refine zr ?_
         refine zr ?_
         refine zr ?_
         refine zl ?_
         refine zr ?_
         refine zr ?_
         refine zr ?_
         refine zl ?_
         replace h := evT h
         refine zz ?_
         exact ⟨_, zfuel, _, _, _, _, _, h, leafFr [1, 26] (by kernel_rfl), by kernel_rfl⟩
        refine zl ?_
        refine zl ?_
        refine zr ?_
        refine zz ?_
        refine brW (iP h) ?_ ?_ <;> (clear h; intro c h)
        rotate_left
        ·refine zr ?_
         refine zr ?_
         refine zl ?_
         refine zr ?_
         refine zr ?_
         refine zr ?_
         refine zl ?_
         refine zr ?_
         refine zr ?_
         refine zr ?_
         refine zl ?_
         replace h := evT h
         refine zz ?_
         exact ⟨_, zfuel, _, _, _, _, _, h, leafFr [1, 26] (by kernel_rfl), by kernel_rfl⟩
        refine zl ?_
        refine zl ?_
        refine zr ?_
        refine zz ?_
        refine brW (iP h) ?_ ?_ <;> (clear h; intro c h)
        rotate_left
        ·refine zr ?_
         refine zr ?_
         refine zl ?_
         refine zr ?_
         refine zr ?_
         refine zr ?_
         refine zl ?_
         replace h := evT h
         refine zz ?_
         exact ⟨_, zfuel, _, _, _, _, _, h, leafFr [1, 26] (by kernel_rfl), by kernel_rfl⟩
        refine zl ?_
        refine zl ?_
        refine zr ?_
        refine zz ?_
        refine brW (iP h) ?_ ?_ <;> (clear h; intro c h)
        ·refine zl ?_
         refine zl ?_
         refine zr ?_
         replace h := evT h
         refine zz ?_
         exact ⟨_, zfuel, _, _, _, _, _, h, leafFr [1, 26] (by kernel_rfl), by kernel_rfl⟩
        refine zr ?_
        refine zr ?_
        refine zl ?_
        replace h := evT h
        refine zz ?_
        exact ⟨_, zfuel, _, _, _, _, _, h, leafFr [1, 26] (by kernel_rfl), by kernel_rfl⟩
       clear h; rintro _ _ ⟨k, hle, x26, x16_0, x16_1, x16_2, x16_3, h, ⟨fr0, rfl⟩, rfl⟩
       rcases k with _ | k
       · exact (run_zero h).elim
       rw [run_succ, spec_l10Line.B] at h
       refine zz ?_
       refine br (iP h) ?_ ?_ <;> (clear h; intro c h)
       ·replace h := evR h; cases h
        refine zz ?_
        exact zend
       replace h := evT h
       refine zz ?_
       exact ⟨_, zfuel, _, _, _, _, h, leafFr [1] (by kernel_rfl), by kernel_rfl⟩
      clear h; rintro _ _ ⟨k, hle, x16_0, x16_1, x16_2, x16_3, h, ⟨fr0, rfl⟩, rfl⟩
      rcases k with _ | k
      · exact (run_zero h).elim
      rw [run_succ, spec_l10Line.B] at h
      replace h := evT h
      refine zz ?_
      refine loopJ [16] (fun kq fr hp => ∃ (x3 x16_0 x16_1 : Int) (x16_2 : ByteArray) (x16_3 : List S91), run spec_l10Line.B kq (.l0 x3 x16_0 x16_1 x16_2 x16_3) = some r ∧ (∃ fr0, fr = puts [(1, .one (.ptr 16 0)), (3, .one (.val (.int .i64 x3)))] fr0) ∧ hp = (upd 16 (.box [.val (.int .i64 x16_0), .val (.int .i64 x16_1), .val (.str x16_2), .val (.row (x16_3.map e91))]) (fun _ => none))) k ⟨_, zfuel, _, _, _, _, _, h, leafFr [1, 3] (by kernel_rfl), by kernel_rfl⟩ ?_
      clear h; rintro k hle _ _ ⟨x3, x16_0, x16_1, x16_2, x16_3, h, ⟨fr0, rfl⟩, rfl⟩
      rcases k with _ | k
      · exact (run_zero h).elim
      rw [run_succ, spec_l10Line.B] at h
      refine zz ?_
      refine br (iP h) ?_ ?_ <;> (clear h; intro c h)
      rotate_left
      ·replace h := evR h; cases h
       refine zz ?_
       exact zend
      refine zz ?_
      refine cutJ (n := 49) [16] (fun fr hp => ∃ kq, kq ≤ k ∧ ∃ (x3 x16_0 x16_1 : Int) (x16_2 : ByteArray) (x16_3 : List S91), run spec_l10Line.B kq (.j2 x3 x16_0 x16_1 x16_2 x16_3) = some r ∧ (∃ fr0, fr = puts [(1, .one (.ptr 16 0)), (3, .one (.val (.int .i64 x3)))] fr0) ∧ hp = (upd 16 (.box [.val (.int .i64 x16_0), .val (.int .i64 x16_1), .val (.str x16_2), .val (.row (x16_3.map e91))]) (fun _ => none))) ?_ ?_
      ·refine zz ?_
       refine cutJ (n := 200006) [16] (fun fr hp => ∃ kq, kq ≤ k ∧ ∃ (x3 : Int) (x49 : Bool) (x16_0 x16_1 : Int) (x16_2 : ByteArray) (x16_3 : List S91), run spec_l10Line.B kq (.j3 x3 x49 x16_0 x16_1 x16_2 x16_3) = some r ∧ (∃ fr0, fr = puts [(1, .one (.ptr 16 0)), (3, .one (.val (.int .i64 x3))), (49, .one (.val (.bool x49)))] fr0) ∧ hp = (upd 16 (.box [.val (.int .i64 x16_0), .val (.int .i64 x16_1), .val (.str x16_2), .val (.row (x16_3.map e91))]) (fun _ => none))) ?_ ?_
       ·refine zz ?_
        refine br (iP h) ?_ ?_ <;> (clear h; intro c h)
        rotate_left
        ·refine zr ?_
         refine zr ?_
         refine zr ?_
         refine zr ?_
         refine zr ?_
         refine zr ?_
         refine zr ?_
         refine zr ?_
         refine zr ?_
         refine zr ?_
         replace h := evT h
         refine zz ?_
         exact ⟨_, zfuel, _, _, _, _, _, _, h, leafFr [1, 3, 49] (by kernel_rfl), by kernel_rfl⟩
        refine zl ?_
        refine zl ?_
        refine zz ?_
        refine br (iP h) ?_ ?_ <;> (clear h; intro c h)
        rotate_left
        ·refine zr ?_
         refine zr ?_
         refine zr ?_
         refine zr ?_
         refine zr ?_
         refine zr ?_
         refine zr ?_
         replace h := evT h
         refine zz ?_
         exact ⟨_, zfuel, _, _, _, _, _, _, h, leafFr [1, 3, 49] (by kernel_rfl), by kernel_rfl⟩
        refine zl ?_
        refine zl ?_
        refine zl ?_
        have h_ := gP h; clear h; obtain ⟨c, h⟩ := h_
        refine zl ?_
        refine zl ?_
        refine zl ?_
        refine zl ?_
        replace h := evT h
        refine zz ?_
        exact ⟨_, zfuel, _, _, _, _, _, _, h, leafFr [1, 3, 49] (by kernel_rfl), by kernel_rfl⟩
       clear h; rintro _ _ ⟨k, hle, x3, x49, x16_0, x16_1, x16_2, x16_3, h, ⟨fr0, rfl⟩, rfl⟩
       rcases k with _ | k
       · exact (run_zero h).elim
       rw [run_succ, spec_l10Line.B] at h
       refine zz ?_
       refine br (iP h) ?_ ?_ <;> (clear h; intro c h)
       ·replace h := evT h
        refine zz ?_
        exact ⟨_, zfuel, _, _, _, _, _, h, leafFr [1, 3] (by kernel_rfl), by kernel_rfl⟩
       replace h := evT h
       refine zz ?_
       exact ⟨_, zfuel, _, _, _, _, _, h, leafFr [1, 3] (by kernel_rfl), by kernel_rfl⟩
      clear h; rintro _ _ ⟨k, hle, x3, x16_0, x16_1, x16_2, x16_3, h, ⟨fr0, rfl⟩, rfl⟩
      rcases k with _ | k
      · exact (run_zero h).elim
      rw [run_succ, spec_l10Line.B] at h
      have h_ := gP h; clear h; obtain ⟨c, h⟩ := h_
      have h_ := gP h; clear h; obtain ⟨c, h⟩ := h_
      have h_ := evA h; clear h; obtain ⟨t55, ht, h⟩ := h_
      refine zz ?_
      refine Exists.intro _ (And.intro (ih _ (h := ht) (hk := zfuel)) ?_)
      refine zz ?_
      refine br (iP h) ?_ ?_ <;> (clear h; intro c h)
      ·replace h := evR h; cases h
       refine zz ?_
       exact zend
      replace h := evT h
      refine zz ?_
      exact ⟨_, zfuel, _, _, _, _, _, h, leafFr [1, 3] (by kernel_rfl), by kernel_rfl⟩
theorem spec_l10Line_ev (a0_0 a0_1 : Int) (a0_2 : ByteArray) (l0_3 : List S91) (r : Bool) (h : spec_l10Line.fv a0_0 a0_1 a0_2 l0_3 = some r) : CE (G m_) 73 [.val (.agg [.int .i64 a0_0, .int .i64 a0_1, .str a0_2, .row (l0_3.map e91)])] [] [.val (.bool r)] [] := by
  obtain ⟨k, h⟩ := lim_ex h
  exact (spec_l10Line_all (k + 1)) k _ _ _ _ _ h (Nat.lt_succ_self k)
theorem spec_l10Put_ev (l0 : List ByteArray) (a1 : ByteArray) (r : List ByteArray) (h : spec_l10Put.fv l0 a1 = some r) : CE (G m_) 101 [.val (.row (l0.map VV.str)), .val (.str a1)] [] [.val (.row (r.map VV.str))] [] := by
  obtain ⟨k, h⟩ := lim_ex h
  refine CE.mk ⟨Tryz.f101, _, rfl, rfl, ⟨by kernel_rfl, Nat.le_of_ble_eq_true rfl, Nat.le_of_ble_eq_true rfl⟩, ?_⟩
  rcases k with _ | k
  · exact (run_zero h).elim
  rw [run_succ, spec_l10Put.B] at h
  have h_ := evO h; clear h; obtain ⟨t9, ht, h⟩ := h_
  refine zz ?_
  refine Exists.intro _ (And.intro (spec_l7Within_ev (h := ht)) ?_)
  refine zz ?_
  refine br (iP h) ?_ ?_ <;> (clear h; intro c h)
  ·replace h := evR h; cases h
   refine zz ?_
   exact zend
  refine zz ?_
  refine cutJ (n := 100000) [] (fun fr hp => ∃ kq, kq ≤ k ∧ ∃ (x0 : List ByteArray) (x1 : ByteArray) (x5 : Int), run spec_l10Put.B kq (.j0 x0 x1 x5) = some r ∧ (∃ fr0, fr = puts [(0, .one (.val (.row (x0.map VV.str)))), (1, .one (.val (.str x1))), (5, .one (.val (.int .i64 x5)))] fr0) ∧ hp = (fun _ => none)) ?_ ?_
  ·replace h := evT h
   refine zz ?_
   refine loopJ [] (fun kq fr hp => ∃ (x0 : List ByteArray) (x1 : ByteArray) (x5 : Int), run spec_l10Put.B kq (.l0 x0 x1 x5) = some r ∧ (∃ fr0, fr = puts [(0, .one (.val (.row (x0.map VV.str)))), (1, .one (.val (.str x1))), (5, .one (.val (.int .i64 x5)))] fr0) ∧ hp = (fun _ => none)) k ⟨_, zfuel, _, _, _, h, leafFr [0, 1, 5] (by kernel_rfl), by kernel_rfl⟩ ?_
   clear h; rintro k hle _ _ ⟨x0, x1, x5, h, ⟨fr0, rfl⟩, rfl⟩
   rcases k with _ | k
   · exact (run_zero h).elim
   rw [run_succ, spec_l10Put.B] at h
   refine zz ?_
   refine br (iP h) ?_ ?_ <;> (clear h; intro c h)
   rotate_left
   ·refine zr ?_
    refine zr ?_
    refine zr ?_
    refine zr ?_
    refine zr ?_
    refine zr ?_
    refine zr ?_
    replace h := evT h
    refine zz ?_
    exact ⟨_, zfuel, _, _, _, h, leafFr [0, 1, 5] (by kernel_rfl), by kernel_rfl⟩
   refine zl ?_
   refine zl ?_
   have h_ := gP h; clear h; obtain ⟨c, h⟩ := h_
   refine zl ?_
   refine zl ?_
   refine zl ?_
   refine zl ?_
   refine zz ?_
   refine br (iP h) ?_ ?_ <;> (clear h; intro c h)
   ·replace h := evT h
    refine zz ?_
    exact ⟨_, zfuel, _, _, _, h, leafFr [0, 1, 5] (by kernel_rfl), by kernel_rfl⟩
   replace h := evT h
   refine zz ?_
   exact ⟨_, zfuel, _, _, _, h, leafFr [0, 1, 5] (by kernel_rfl), by kernel_rfl⟩
  clear h; rintro _ _ ⟨k, hle, x0, x1, x5, h, ⟨fr0, rfl⟩, rfl⟩
  rcases k with _ | k
  · exact (run_zero h).elim
  rw [run_succ, spec_l10Put.B] at h
  refine zz ?_
  refine Exists.intro (List.map VV.str ([] : List ByteArray)) (And.intro zrow ?_)
  have h_ := gP h; clear h; obtain ⟨c, h⟩ := h_
  have h_ := gP h; clear h; obtain ⟨c, h⟩ := h_
  refine zz ?_
  refine Exists.intro (List.map VV.str (x0.take (x5 : Int).toNat)) (And.intro zrow ?_)
  have h_ := gP h; clear h; obtain ⟨c, h⟩ := h_
  refine zz ?_
  refine Exists.intro (List.map VV.str (([] : List ByteArray) ++ (x0.take (x5 : Int).toNat))) (And.intro zrow ?_)
  refine zz ?_
  refine Exists.intro (List.map VV.str ([x1] : List ByteArray)) (And.intro zrow ?_)
  have h_ := gP h; clear h; obtain ⟨c, h⟩ := h_
  refine zz ?_
  refine Exists.intro (List.map VV.str ((([] : List ByteArray) ++ (x0.take (x5 : Int).toNat)) ++ [x1])) (And.intro zrow ?_)
  refine zz ?_
  refine Exists.intro (List.map VV.str (x0.drop (x5 : Int).toNat)) (And.intro zrow ?_)
  have h_ := gP h; clear h; obtain ⟨c, h⟩ := h_
  refine zz ?_
  refine Exists.intro (List.map VV.str (((([] : List ByteArray) ++ (x0.take (x5 : Int).toNat)) ++ [x1]) ++ (x0.drop (x5 : Int).toNat))) (And.intro zrow ?_)
  replace h := evR h; cases h
  refine zz ?_
  exact zend
theorem spec_l10Names_all : ∀ n, (∀ (k : Nat) (a0_0 a0_1 : Int) (a0_2 : ByteArray) (l0_3 : List S91) (l1 l2 : List ByteArray) (r1 r2 : List ByteArray) (h : run spec_l10Names.B k (.f a0_0 a0_1 a0_2 l0_3 l1 l2) = some (r1, r2)) (hk : k < n), CE (G m_) 76 [.val (.agg [.int .i64 a0_0, .int .i64 a0_1, .str a0_2, .row (l0_3.map e91)]), .val (.row (l1.map VV.str)), .val (.row (l2.map VV.str))] [] [.val (.row (r1.map VV.str)), .val (.row (r2.map VV.str))] []) := by
  intro n
  induction n with
  | zero => exact (by intros; omega)
  | succ n ih =>
    · intro k a0_0 a0_1 a0_2 l0_3 l1 l2 r1 r2 h hk
      refine CE.mk ⟨Tryz.f76, _, rfl, rfl, ⟨by kernel_rfl, Nat.le_of_ble_eq_true rfl, Nat.le_of_ble_eq_true rfl⟩, ?_⟩
      rcases k with _ | k
      · exact (run_zero h).elim
      rw [run_succ, spec_l10Names.B] at h
      refine zz ?_
      refine cutJ (n := 100000) [16] (fun fr hp => ∃ kq, kq ≤ k ∧ ∃ (x1 x2 : List ByteArray) (x16_0 x16_1 : Int) (x16_2 : ByteArray) (x16_3 : List S91), run spec_l10Names.B kq (.j0 x1 x2 x16_0 x16_1 x16_2 x16_3) = some (r1, r2) ∧ (∃ fr0, fr = puts [(1, .one (.val (.row (x1.map VV.str)))), (2, .one (.val (.row (x2.map VV.str)))), (3, .one (.ptr 16 0))] fr0) ∧ hp = (upd 16 (.box [.val (.int .i64 x16_0), .val (.int .i64 x16_1), .val (.str x16_2), .val (.row (x16_3.map e91))]) (fun _ => none))) ?_ ?_
      ·refine zz ?_
       refine br (iP h) ?_ ?_ <;> (clear h; intro c h)
       ·have h_ := evO h; clear h; obtain ⟨t16, ht, h⟩ := h_
        refine zz ?_
        refine Exists.intro _ (And.intro (spec_l10Put_ev (h := ht)) ?_)
        replace h := evT h
        refine zz ?_
        exact ⟨_, zfuel, _, _, _, _, _, _, h, leafFr [1, 2, 3] (by kernel_rfl), by kernel_rfl⟩
       refine zz ?_
       refine cutJ (n := 17) [16] (fun fr hp => ∃ kq, kq ≤ k ∧ ∃ (x1 x2 : List ByteArray) (x17 : Bool) (x16_0 x16_1 : Int) (x16_2 : ByteArray) (x16_3 : List S91), run spec_l10Names.B kq (.j1 x1 x2 x17 x16_0 x16_1 x16_2 x16_3) = some (r1, r2) ∧ (∃ fr0, fr = puts [(1, .one (.val (.row (x1.map VV.str)))), (2, .one (.val (.row (x2.map VV.str)))), (3, .one (.ptr 16 0)), (17, .one (.val (.bool x17)))] fr0) ∧ hp = (upd 16 (.box [.val (.int .i64 x16_0), .val (.int .i64 x16_1), .val (.str x16_2), .val (.row (x16_3.map e91))]) (fun _ => none))) ?_ ?_
       ·refine zz ?_
        refine br (iP h) ?_ ?_ <;> (clear h; intro c h)
        ·replace h := evT h
         refine zz ?_
         exact ⟨_, zfuel, _, _, _, _, _, _, _, h, leafFr [1, 2, 3, 17] (by kernel_rfl), by kernel_rfl⟩
        replace h := evT h
        refine zz ?_
        exact ⟨_, zfuel, _, _, _, _, _, _, _, h, leafFr [1, 2, 3, 17] (by kernel_rfl), by kernel_rfl⟩
       clear h; rintro _ _ ⟨k, hle, x1, x2, x17, x16_0, x16_1, x16_2, x16_3, h, ⟨fr0, rfl⟩, rfl⟩
       rcases k with _ | k
       · exact (run_zero h).elim
       rw [run_succ, spec_l10Names.B] at h
       refine zz ?_
       refine br (iP h) ?_ ?_ <;> (clear h; intro c h)
       rotate_left
       ·replace h := evT h
        refine zz ?_
        exact ⟨_, zfuel, _, _, _, _, _, _, h, leafFr [1, 2, 3] (by kernel_rfl), by kernel_rfl⟩
       have h_ := evO h; clear h; obtain ⟨t23, ht, h⟩ := h_
       refine zz ?_
       refine Exists.intro _ (And.intro (spec_l10Put_ev (h := ht)) ?_)
       replace h := evT h
       refine zz ?_
       exact ⟨_, zfuel, _, _, _, _, _, _, h, leafFr [1, 2, 3] (by kernel_rfl), by kernel_rfl⟩
      clear h; rintro _ _ ⟨k, hle, x1, x2, x16_0, x16_1, x16_2, x16_3, h, ⟨fr0, rfl⟩, rfl⟩
      rcases k with _ | k
      · exact (run_zero h).elim
      rw [run_succ, spec_l10Names.B] at h
      replace h := evT h
      refine zz ?_
      refine loopJ [16] (fun kq fr hp => ∃ (x1 x2 : List ByteArray) (x8 x16_0 x16_1 : Int) (x16_2 : ByteArray) (x16_3 : List S91), run spec_l10Names.B kq (.l0 x1 x2 x8 x16_0 x16_1 x16_2 x16_3) = some (r1, r2) ∧ (∃ fr0, fr = puts [(1, .one (.val (.row (x1.map VV.str)))), (2, .one (.val (.row (x2.map VV.str)))), (3, .one (.ptr 16 0)), (8, .one (.val (.int .i64 x8)))] fr0) ∧ hp = (upd 16 (.box [.val (.int .i64 x16_0), .val (.int .i64 x16_1), .val (.str x16_2), .val (.row (x16_3.map e91))]) (fun _ => none))) k ⟨_, zfuel, _, _, _, _, _, _, _, h, leafFr [1, 2, 3, 8] (by kernel_rfl), by kernel_rfl⟩ ?_
      clear h; rintro k hle _ _ ⟨x1, x2, x8, x16_0, x16_1, x16_2, x16_3, h, ⟨fr0, rfl⟩, rfl⟩
      rcases k with _ | k
      · exact (run_zero h).elim
      rw [run_succ, spec_l10Names.B] at h
      refine zz ?_
      refine br (iP h) ?_ ?_ <;> (clear h; intro c h)
      rotate_left
      ·replace h := evR h; cases h
       refine zz ?_
       exact zend
      have h_ := gP h; clear h; obtain ⟨c, h⟩ := h_
      have h_ := evA h; clear h; obtain ⟨t39, ht, h⟩ := h_
      refine zz ?_
      refine Exists.intro _ (And.intro (ih _ (h := ht) (hk := zfuel)) ?_)
      replace h := evT h
      refine zz ?_
      exact ⟨_, zfuel, _, _, _, _, _, _, _, h, leafFr [1, 2, 3, 8] (by kernel_rfl), by kernel_rfl⟩
theorem spec_l10Names_ev (a0_0 a0_1 : Int) (a0_2 : ByteArray) (l0_3 : List S91) (l1 l2 : List ByteArray) (r1 r2 : List ByteArray) (h : spec_l10Names.fv a0_0 a0_1 a0_2 l0_3 l1 l2 = some (r1, r2)) : CE (G m_) 76 [.val (.agg [.int .i64 a0_0, .int .i64 a0_1, .str a0_2, .row (l0_3.map e91)]), .val (.row (l1.map VV.str)), .val (.row (l2.map VV.str))] [] [.val (.row (r1.map VV.str)), .val (.row (r2.map VV.str))] [] := by
  obtain ⟨k, h⟩ := lim_ex h
  exact (spec_l10Names_all (k + 1)) k _ _ _ _ _ _ _ _ h (Nat.lt_succ_self k)
end Go.Proofs.YtchhkbkbbglgbaaGreatDoor.TFnOps
