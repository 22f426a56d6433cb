/- The walks of the functions that FnOps reaches, through the abstract machine. -/
import Derived.Test.YtchhkbkbbglgbaaGreatDoorAFnOpsh
import Derived.Test.YtchhkbkbbglgbaaGreatDoorAFnOpsx1
import Derived.Test.YtchhkbkbbglgbaaGreatDoorAFnOpsx4
import Derived.Test.YtchhkbkbbglgbaaGreatDoorAFnOpsx5
import Derived.Test.YtchhkbkbbglgbaaGreatDoorFFnOps
import Derived.Test.YtchhkbkbbglgbaaGreatDoorProg
set_option maxHeartbeats 4000000
set_option maxRecDepth 100000
set_option linter.unusedVariables false
set_option linter.unusedSimpArgs false
namespace Go.Proofs.YtchhkbkbbglgbaaGreatDoor.TFnOps
open Go Go.RowKit Go.Proofs Go.Proofs.YtchhkbkbbglgbaaGreatDoorW.AM Go.Proofs.YtchhkbkbbglgbaaGreatDoor.QFnOps Go.Proofs.YtchhkbkbbglgbaaGreatDoorW.PrintWords Go.Proofs.YtchhkbkbbglgbaaGreatDoorW.Pgs
variable {m_ : Int}
theorem spec_l10Rexes_all : ∀ n, (∀ (k : Nat) (a0_0 a0_1 : Int) (a0_2 : ByteArray) (l0_3 : List S91) (r : Bool) (h : run spec_l10Rexes.B k (.f a0_0 a0_1 a0_2 l0_3) = some r) (hk : k < n), CE (G m_) 75 [.val (.agg [.int .i64 a0_0, .int .i64 a0_1, .str a0_2, .row (l0_3.map e91)])] [] [.val (.bool r)] []) := by
  intro n
  induction n with
  | zero => exact (by intros; omega)
  | succ n ih =>
    · intro k a0_0 a0_1 a0_2 l0_3 r h hk
      refine CE.mk ⟨Tryz.f75, _, rfl, rfl, ⟨by kernel_rfl, Nat.le_of_ble_eq_true rfl, Nat.le_of_ble_eq_true rfl⟩, ?_⟩
      rcases k with _ | k
      · exact (run_zero h).elim
      rw [run_succ, spec_l10Rexes.B] at h
      refine zz ?_
      refine br (iP h) ?_ ?_ <;> (clear h; intro c h)
      ·have h_ := evO h; clear h; obtain ⟨t12, ht, h⟩ := h_
       refine zz ?_
       refine Exists.intro _ (And.intro (spec_RexParse_ev (h := ht)) ?_)
       replace h := evR h; cases h
       refine zz ?_
       exact zend
      refine zz ?_
      refine cutJ (n := 26) [16] (fun fr hp => ∃ kq, kq ≤ k ∧ ∃ (x16_0 x16_1 : Int) (x16_2 : ByteArray) (x16_3 : List S91), run spec_l10Rexes.B kq (.j0 x16_0 x16_1 x16_2 x16_3) = some r ∧ (∃ fr0, fr = puts [(1, .one (.ptr 16 0))] fr0) ∧ hp = (upd 16 (.box [.val (.int .i64 x16_0), .val (.int .i64 x16_1), .val (.str x16_2), .val (.row (x16_3.map e91))]) (fun _ => none))) ?_ ?_
      ·refine zz ?_
       refine cutJ (n := 200004) [16] (fun fr hp => ∃ kq, kq ≤ k ∧ ∃ (x26 : Bool) (x16_0 x16_1 : Int) (x16_2 : ByteArray) (x16_3 : List S91), run spec_l10Rexes.B kq (.j1 x26 x16_0 x16_1 x16_2 x16_3) = some r ∧ (∃ fr0, fr = puts [(1, .one (.ptr 16 0)), (26, .one (.val (.bool x26)))] fr0) ∧ hp = (upd 16 (.box [.val (.int .i64 x16_0), .val (.int .i64 x16_1), .val (.str x16_2), .val (.row (x16_3.map e91))]) (fun _ => none))) ?_ ?_
       ·refine zz ?_
        refine br (iP h) ?_ ?_ <;> (clear h; intro c h)
        rotate_left
        ·refine zr ?_
         refine zr ?_
         refine zr ?_
         refine zr ?_
         refine zr ?_
         refine zr ?_
         replace h := evT h
         refine zz ?_
         exact ⟨_, zfuel, _, _, _, _, _, h, leafFr [1, 26] (by kernel_rfl), by kernel_rfl⟩
        refine zl ?_
        refine zl ?_
        have h_ := gP h; clear h; obtain ⟨c, h⟩ := h_
        refine zl ?_
        refine zl ?_
        refine zl ?_
        refine zl ?_
        replace h := evT h
        refine zz ?_
        exact ⟨_, zfuel, _, _, _, _, _, h, leafFr [1, 26] (by kernel_rfl), by kernel_rfl⟩
       clear h; rintro _ _ ⟨k, hle, x26, x16_0, x16_1, x16_2, x16_3, h, ⟨fr0, rfl⟩, rfl⟩
       rcases k with _ | k
       · exact (run_zero h).elim
       rw [run_succ, spec_l10Rexes.B] at h
       refine zz ?_
       refine br (iP h) ?_ ?_ <;> (clear h; intro c h)
       ·replace h := evR h; cases h
        refine zz ?_
        exact zend
       replace h := evT h
       refine zz ?_
       exact ⟨_, zfuel, _, _, _, _, h, leafFr [1] (by kernel_rfl), by kernel_rfl⟩
      clear h; rintro _ _ ⟨k, hle, x16_0, x16_1, x16_2, x16_3, h, ⟨fr0, rfl⟩, rfl⟩
      rcases k with _ | k
      · exact (run_zero h).elim
      rw [run_succ, spec_l10Rexes.B] at h
      replace h := evT h
      refine zz ?_
      refine loopJ [16] (fun kq fr hp => ∃ (x5 x16_0 x16_1 : Int) (x16_2 : ByteArray) (x16_3 : List S91), run spec_l10Rexes.B kq (.l0 x5 x16_0 x16_1 x16_2 x16_3) = some r ∧ (∃ fr0, fr = puts [(1, .one (.ptr 16 0)), (5, .one (.val (.int .i64 x5)))] fr0) ∧ hp = (upd 16 (.box [.val (.int .i64 x16_0), .val (.int .i64 x16_1), .val (.str x16_2), .val (.row (x16_3.map e91))]) (fun _ => none))) k ⟨_, zfuel, _, _, _, _, _, h, leafFr [1, 5] (by kernel_rfl), by kernel_rfl⟩ ?_
      clear h; rintro k hle _ _ ⟨x5, x16_0, x16_1, x16_2, x16_3, h, ⟨fr0, rfl⟩, rfl⟩
      rcases k with _ | k
      · exact (run_zero h).elim
      rw [run_succ, spec_l10Rexes.B] at h
      refine zz ?_
      refine br (iP h) ?_ ?_ <;> (clear h; intro c h)
      rotate_left
      ·replace h := evR h; cases h
       refine zz ?_
       exact zend
      have h_ := gP h; clear h; obtain ⟨c, h⟩ := h_
      have h_ := evA h; clear h; obtain ⟨t39, ht, h⟩ := h_
      refine zz ?_
      refine Exists.intro _ (And.intro (ih _ (h := ht) (hk := zfuel)) ?_)
      refine zz ?_
      refine brN (iP h) ?_ ?_ <;> (clear h; intro c h)
      ·replace h := evR h; cases h
       refine zz ?_
       exact zend
      replace h := evT h
      refine zz ?_
      exact ⟨_, zfuel, _, _, _, _, _, h, leafFr [1, 5] (by kernel_rfl), by kernel_rfl⟩
theorem spec_l10Rexes_ev (a0_0 a0_1 : Int) (a0_2 : ByteArray) (l0_3 : List S91) (r : Bool) (h : spec_l10Rexes.fv a0_0 a0_1 a0_2 l0_3 = some r) : CE (G m_) 75 [.val (.agg [.int .i64 a0_0, .int .i64 a0_1, .str a0_2, .row (l0_3.map e91)])] [] [.val (.bool r)] [] := by
  obtain ⟨k, h⟩ := lim_ex h
  exact (spec_l10Rexes_all (k + 1)) k _ _ _ _ _ h (Nat.lt_succ_self k)
theorem spec_Check_ev (l0 : List S93) (r : Int) (h : spec_Check.fv l0 = some r) : CE (G m_) 52 [.val (.row (l0.map e93))] [] [.val (.int .i64 r)] [] := by
  obtain ⟨k, h⟩ := lim_ex h
  refine CE.mk ⟨Tryz.f52, _, rfl, rfl, ⟨by kernel_rfl, Nat.le_of_ble_eq_true rfl, Nat.le_of_ble_eq_true rfl⟩, ?_⟩
  rcases k with _ | k
  · exact (run_zero h).elim
  rw [run_succ, spec_Check.B] at h
  have h_ := evO h; clear h; obtain ⟨t10, ht, h⟩ := h_
  refine zz ?_
  refine Exists.intro _ (And.intro (spec_Tidy_ev (h := ht)) ?_)
  refine zz ?_
  refine brN (iP h) ?_ ?_ <;> (clear h; intro c h)
  ·replace h := evR h; cases h
   refine zz ?_
   exact zend
  replace h := evT h
  refine zz ?_
  refine loopJ [] (fun kq fr hp => ∃ (x0 : List S93) (x3 : Int), run spec_Check.B kq (.l0 x0 x3) = some r ∧ (∃ fr0, fr = puts [(0, .one (.val (.row (x0.map e93)))), (3, .one (.val (.int .i64 x3)))] fr0) ∧ hp = (fun _ => none)) k ⟨_, zfuel, _, _, h, leafFr [0, 3] (by kernel_rfl), by kernel_rfl⟩ ?_
  clear h; rintro k hle _ _ ⟨x0, x3, h, ⟨fr0, rfl⟩, rfl⟩
  rcases k with _ | k
  · exact (run_zero h).elim
  rw [run_succ, spec_Check.B] at h
  refine zz ?_
  refine br (iP h) ?_ ?_ <;> (clear h; intro c h)
  ·refine zz ?_
   refine cutJ (n := 200006) [] (fun fr hp => ∃ kq, kq ≤ k ∧ ∃ (x0 : List S93) (x3 : Int) (x35 : Bool), run spec_Check.B kq (.j0 x0 x3 x35) = some r ∧ (∃ fr0, fr = puts [(0, .one (.val (.row (x0.map e93)))), (3, .one (.val (.int .i64 x3))), (35, .one (.val (.bool x35)))] fr0) ∧ hp = (fun _ => none)) ?_ ?_
   ·have h_ := gP h; clear h; obtain ⟨c, h⟩ := h_
    refine zz ?_
    refine br (iP h) ?_ ?_ <;> (clear h; intro c h)
    rotate_left
    ·refine zr ?_
     refine zr ?_
     refine zr ?_
     refine zr ?_
     replace h := evT h
     refine zz ?_
     exact ⟨_, zfuel, _, _, _, h, leafFr [0, 3, 35] (by kernel_rfl), by kernel_rfl⟩
    refine zl ?_
    refine zl ?_
    refine zz ?_
    refine brW (iP h) ?_ ?_ <;> (clear h; intro c h)
    rotate_left
    ·refine zr ?_
     refine zr ?_
     refine zr ?_
     refine zr ?_
     refine zr ?_
     refine zl ?_
     refine zl ?_
     refine zl ?_
     replace h := evT h
     refine zz ?_
     exact ⟨_, zfuel, _, _, _, h, leafFr [0, 3, 35] (by kernel_rfl), by kernel_rfl⟩
    refine zl ?_
    refine zl ?_
    refine zl ?_
    refine zl ?_
    refine zl ?_
    have h_ := evO h; clear h; obtain ⟨t33, ht, h⟩ := h_
    refine zz ?_
    refine Exists.intro _ (And.intro (spec_l10Line_ev (h := ht)) ?_)
    refine zl ?_
    refine zr ?_
    refine zl ?_
    replace h := evT h
    refine zz ?_
    exact ⟨_, zfuel, _, _, _, h, leafFr [0, 3, 35] (by kernel_rfl), by kernel_rfl⟩
   clear h; rintro _ _ ⟨k, hle, x0, x3, x35, h, ⟨fr0, rfl⟩, rfl⟩
   rcases k with _ | k
   · exact (run_zero h).elim
   rw [run_succ, spec_Check.B] at h
   refine zz ?_
   refine br (iP h) ?_ ?_ <;> (clear h; intro c h)
   ·replace h := evR h; cases h
    refine zz ?_
    exact zend
   replace h := evT h
   refine zz ?_
   exact ⟨_, zfuel, _, _, h, leafFr [0, 3] (by kernel_rfl), by kernel_rfl⟩
  have h_ := evO h; clear h; obtain ⟨t38, ht, h⟩ := h_
  refine zz ?_
  refine Exists.intro _ (And.intro (spec_Names_ev (h := ht)) ?_)
  refine zz ?_
  refine cutJ (n := 48) [] (fun fr hp => ∃ kq, kq ≤ k ∧ ∃ (x0 : List S93) (x4 x5 : List ByteArray), run spec_Check.B kq (.j1 x0 x4 x5) = some r ∧ (∃ fr0, fr = puts [(0, .one (.val (.row (x0.map e93)))), (4, .one (.val (.row (x4.map VV.str)))), (5, .one (.val (.row (x5.map VV.str))))] fr0) ∧ hp = (fun _ => none)) ?_ ?_
  ·refine zz ?_
   refine cutJ (n := 200009) [] (fun fr hp => ∃ kq, kq ≤ k ∧ ∃ (x0 : List S93) (x4 x5 : List ByteArray) (x48 : Bool), run spec_Check.B kq (.j2 x0 x4 x5 x48) = some r ∧ (∃ fr0, fr = puts [(0, .one (.val (.row (x0.map e93)))), (4, .one (.val (.row (x4.map VV.str)))), (5, .one (.val (.row (x5.map VV.str)))), (48, .one (.val (.bool x48)))] fr0) ∧ hp = (fun _ => none)) ?_ ?_
   ·refine zz ?_
    refine brW (iP h) ?_ ?_ <;> (clear h; intro c h)
    ·refine zl ?_
     refine zl ?_
     refine zr ?_
     replace h := evT h
     refine zz ?_
     exact ⟨_, zfuel, _, _, _, _, h, leafFr [0, 4, 5, 48] (by kernel_rfl), by kernel_rfl⟩
    refine zr ?_
    refine zr ?_
    refine zl ?_
    replace h := evT h
    refine zz ?_
    exact ⟨_, zfuel, _, _, _, _, h, leafFr [0, 4, 5, 48] (by kernel_rfl), by kernel_rfl⟩
   clear h; rintro _ _ ⟨k, hle, x0, x4, x5, x48, h, ⟨fr0, rfl⟩, rfl⟩
   rcases k with _ | k
   · exact (run_zero h).elim
   rw [run_succ, spec_Check.B] at h
   refine zz ?_
   refine br (iP h) ?_ ?_ <;> (clear h; intro c h)
   ·replace h := evR h; cases h
    refine zz ?_
    exact zend
   replace h := evT h
   refine zz ?_
   exact ⟨_, zfuel, _, _, _, h, leafFr [0, 4, 5] (by kernel_rfl), by kernel_rfl⟩
  clear h; rintro _ _ ⟨k, hle, x0, x4, x5, h, ⟨fr0, rfl⟩, rfl⟩
  rcases k with _ | k
  · exact (run_zero h).elim
  rw [run_succ, spec_Check.B] at h
  replace h := evT h
  refine zz ?_
  refine loopJ [] (fun kq fr hp => ∃ (x0 : List S93) (x4 x5 : List ByteArray) (x6 : Int), run spec_Check.B kq (.l1 x0 x4 x5 x6) = some r ∧ (∃ fr0, fr = puts [(0, .one (.val (.row (x0.map e93)))), (4, .one (.val (.row (x4.map VV.str)))), (5, .one (.val (.row (x5.map VV.str)))), (6, .one (.val (.int .i64 x6)))] fr0) ∧ hp = (fun _ => none)) k ⟨_, zfuel, _, _, _, _, h, leafFr [0, 4, 5, 6] (by kernel_rfl), by kernel_rfl⟩ ?_
  clear h; rintro k hle _ _ ⟨x0, x4, x5, x6, h, ⟨fr0, rfl⟩, rfl⟩
  rcases k with _ | k
  · exact (run_zero h).elim
  rw [run_succ, spec_Check.B] at h
  refine zz ?_
  refine br (iP h) ?_ ?_ <;> (clear h; intro c h)
  ·have h_ := gP h; clear h; obtain ⟨c, h⟩ := h_
   have h_ := evO h; clear h; obtain ⟨t60, ht, h⟩ := h_
   refine zz ?_
   refine Exists.intro _ (And.intro (spec_l7Within_ev (h := ht)) ?_)
   refine zz ?_
   refine br (iP h) ?_ ?_ <;> (clear h; intro c h)
   ·replace h := evR h; cases h
    refine zz ?_
    exact zend
   replace h := evT h
   refine zz ?_
   exact ⟨_, zfuel, _, _, _, _, h, leafFr [0, 4, 5, 6] (by kernel_rfl), by kernel_rfl⟩
  replace h := evT h
  refine zz ?_
  refine loopJ [] (fun kq fr hp => ∃ (x0 : List S93) (x7 : Int), run spec_Check.B kq (.l2 x0 x7) = some r ∧ (∃ fr0, fr = puts [(0, .one (.val (.row (x0.map e93)))), (7, .one (.val (.int .i64 x7)))] fr0) ∧ hp = (fun _ => none)) k ⟨_, zfuel, _, _, h, leafFr [0, 7] (by kernel_rfl), by kernel_rfl⟩ ?_
  clear h; rintro k hle _ _ ⟨x0, x7, h, ⟨fr0, rfl⟩, rfl⟩
  rcases k with _ | k
  · exact (run_zero h).elim
  rw [run_succ, spec_Check.B] at h
  refine zz ?_
  refine br (iP h) ?_ ?_ <;> (clear h; intro c h)
  ·refine zz ?_
   refine cutJ (n := 200019) [] (fun fr hp => ∃ kq, kq ≤ k ∧ ∃ (x0 : List S93) (x7 : Int) (x82 : Bool), run spec_Check.B kq (.j3 x0 x7 x82) = some r ∧ (∃ fr0, fr = puts [(0, .one (.val (.row (x0.map e93)))), (7, .one (.val (.int .i64 x7))), (82, .one (.val (.bool x82)))] fr0) ∧ hp = (fun _ => none)) ?_ ?_
   ·have h_ := gP h; clear h; obtain ⟨c, h⟩ := h_
    have h_ := evO h; clear h; obtain ⟨t72, ht, h⟩ := h_
    refine zz ?_
    refine Exists.intro _ (And.intro (spec_l10Args_ev (h := ht)) ?_)
    refine zz ?_
    refine brX (iP h) ?_ ?_ <;> (clear h; intro c h)
    rotate_left
    ·refine zr ?_
     refine zr ?_
     refine zr ?_
     refine zr ?_
     refine zr ?_
     refine zr ?_
     refine zl ?_
     replace h := evT h
     refine zz ?_
     exact ⟨_, zfuel, _, _, _, h, leafFr [0, 7, 82] (by kernel_rfl), by kernel_rfl⟩
    refine zl ?_
    refine zl ?_
    refine zl ?_
    refine zl ?_
    refine zl ?_
    have h_ := evO h; clear h; obtain ⟨t80, ht, h⟩ := h_
    refine zz ?_
    refine Exists.intro _ (And.intro (spec_l10Args_ev (h := ht)) ?_)
    refine zl ?_
    refine zr ?_
    replace h := evT h
    refine zz ?_
    exact ⟨_, zfuel, _, _, _, h, leafFr [0, 7, 82] (by kernel_rfl), by kernel_rfl⟩
   clear h; rintro _ _ ⟨k, hle, x0, x7, x82, h, ⟨fr0, rfl⟩, rfl⟩
   rcases k with _ | k
   · exact (run_zero h).elim
   rw [run_succ, spec_Check.B] at h
   refine zz ?_
   refine br (iP h) ?_ ?_ <;> (clear h; intro c h)
   ·replace h := evR h; cases h
    refine zz ?_
    exact zend
   replace h := evT h
   refine zz ?_
   exact ⟨_, zfuel, _, _, h, leafFr [0, 7] (by kernel_rfl), by kernel_rfl⟩
  replace h := evT h
  refine zz ?_
  refine loopJ [] (fun kq fr hp => ∃ (x0 : List S93) (x8 : Int), run spec_Check.B kq (.l3 x0 x8) = some r ∧ (∃ fr0, fr = puts [(0, .one (.val (.row (x0.map e93)))), (8, .one (.val (.int .i64 x8)))] fr0) ∧ hp = (fun _ => none)) k ⟨_, zfuel, _, _, h, leafFr [0, 8] (by kernel_rfl), by kernel_rfl⟩ ?_
  clear h; rintro k hle _ _ ⟨x0, x8, h, ⟨fr0, rfl⟩, rfl⟩
  rcases k with _ | k
  · exact (run_zero h).elim
  rw [run_succ, spec_Check.B] at h
  refine zz ?_
  refine br (iP h) ?_ ?_ <;> (clear h; intro c h)
  rotate_left
  ·replace h := evR h; cases h
   refine zz ?_
   exact zend
  refine zz ?_
  refine cutJ (n := 200024) [] (fun fr hp => ∃ kq, kq ≤ k ∧ ∃ (x0 : List S93) (x8 : Int) (x104 : Bool), run spec_Check.B kq (.j4 x0 x8 x104) = some r ∧ (∃ fr0, fr = puts [(0, .one (.val (.row (x0.map e93)))), (8, .one (.val (.int .i64 x8))), (104, .one (.val (.bool x104)))] fr0) ∧ hp = (fun _ => none)) ?_ ?_
  ·have h_ := gP h; clear h; obtain ⟨c, h⟩ := h_
   have h_ := evO h; clear h; obtain ⟨t94, ht, h⟩ := h_
   refine zz ?_
   refine Exists.intro _ (And.intro (spec_l10Rexes_ev (h := ht)) ?_)
   refine zz ?_
   refine brX (iP h) ?_ ?_ <;> (clear h; intro c h)
   rotate_left
   ·refine zr ?_
    refine zr ?_
    refine zr ?_
    refine zr ?_
    refine zr ?_
    refine zr ?_
    refine zl ?_
    replace h := evT h
    refine zz ?_
    exact ⟨_, zfuel, _, _, _, h, leafFr [0, 8, 104] (by kernel_rfl), by kernel_rfl⟩
   refine zl ?_
   refine zl ?_
   refine zl ?_
   refine zl ?_
   refine zl ?_
   have h_ := evO h; clear h; obtain ⟨t102, ht, h⟩ := h_
   refine zz ?_
   refine Exists.intro _ (And.intro (spec_l10Rexes_ev (h := ht)) ?_)
   refine zl ?_
   refine zr ?_
   replace h := evT h
   refine zz ?_
   exact ⟨_, zfuel, _, _, _, h, leafFr [0, 8, 104] (by kernel_rfl), by kernel_rfl⟩
  clear h; rintro _ _ ⟨k, hle, x0, x8, x104, h, ⟨fr0, rfl⟩, rfl⟩
  rcases k with _ | k
  · exact (run_zero h).elim
  rw [run_succ, spec_Check.B] at h
  refine zz ?_
  refine br (iP h) ?_ ?_ <;> (clear h; intro c h)
  ·replace h := evR h; cases h
   refine zz ?_
   exact zend
  replace h := evT h
  refine zz ?_
  exact ⟨_, zfuel, _, _, h, leafFr [0, 8] (by kernel_rfl), by kernel_rfl⟩
theorem spec_l14Put_ev {n0 : Nat} (l0_0 l0_1 : List ByteArray) (l0_2 : List S29) (a1 a2 : Int) (a3 : ByteArray) (r1 : Int) (r2 r3 : List ByteArray) (r4 : List S29) (h : spec_l14Put.f l0_0 l0_1 l0_2 a1 a2 a3 = some (r1, r2, r3, r4)) : CE (G m_) 56 [.ptr 1 0, .val (.int .i64 a1), .val (.int .i64 a2), .val (.str a3)] [.own 29 3 (l0_2.map e29) n0 false, .box [.val (.row (l0_0.map VV.str)), .val (.row (l0_1.map VV.str)), .ref 0 n0]] [.val (.int .i64 r1)] [.own 29 3 (r4.map e29) (n0 + 1) false, .box [.val (.row (r2.map VV.str)), .val (.row (r3.map VV.str)), .ref 0 (n0 + 1)]] := by
  refine CE.mk ⟨Tryz.f56, _, rfl, rfl, ⟨by kernel_rfl, Nat.le_of_ble_eq_true rfl, Nat.le_of_ble_eq_true rfl⟩, ?_⟩
  rw [spec_l14Put.f] at h
  refine zz ?_
  refine Exists.intro (List.map e29 ([(⟨a1, a2, a3⟩ : S29)] : List S29)) (And.intro zrow ?_)
  have h_ := gS h; clear h; obtain ⟨c, h⟩ := h_
  refine zz ?_
  refine Exists.intro (List.map e29 (l0_2 ++ [(⟨a1, a2, a3⟩ : S29)])) (And.intro zrow ?_)
  cases h
  refine zz ?_
  first | refine ⟨trivial, [], [(0, n0 + 1, n0 + 1)], ⟨rfl, ⟨rfl, trivial⟩⟩, _, rfl, _, rfl, ?_⟩ | refine ⟨[], [(0, n0 + 1, n0 + 1)], ⟨rfl, ⟨rfl, trivial⟩⟩, _, rfl, _, rfl, ?_⟩
  repeat' (first | (refine And.intro ?_ ?_) | rfl)
theorem spec_l1Bit_ev (a0 : Bool) (r : Int) (h : spec_l1Bit.f a0 = some r) : CE (G m_) 106 [.val (.bool a0)] [] [.val (.int .i64 r)] [] := by
  refine CE.mk ⟨Tryz.f106, _, rfl, rfl, ⟨by kernel_rfl, Nat.le_of_ble_eq_true rfl, Nat.le_of_ble_eq_true rfl⟩, ?_⟩
  rw [spec_l1Bit.f] at h
  refine zz ?_
  refine br (iteS h) ?_ ?_ <;> (clear h; intro c h)
  ·cases h
   refine zz ?_
   exact zend
  cases h
  refine zz ?_
  exact zend
theorem spec_l12Where_ev (l0 : List ByteArray) (a1 : ByteArray) (r : Int) (h : spec_l12Where.fv l0 a1 = some r) : CE (G m_) 105 [.val (.row (l0.map VV.str)), .val (.str a1)] [] [.val (.int .i64 r)] [] := by
  obtain ⟨k, h⟩ := lim_ex h
  refine CE.mk ⟨Tryz.f105, _, rfl, rfl, ⟨by kernel_rfl, Nat.le_of_ble_eq_true rfl, Nat.le_of_ble_eq_true rfl⟩, ?_⟩
  rcases k with _ | k
  · exact (run_zero h).elim
  rw [run_succ, spec_l12Where.B] at h
  replace h := evT h
  refine zz ?_
  refine loopJ [] (fun kq fr hp => ∃ (x0 : List ByteArray) (x1 : ByteArray) (x5 : Int), run spec_l12Where.B kq (.l0 x0 x1 x5) = some r ∧ (∃ fr0, fr = puts [(0, .one (.val (.row (x0.map VV.str)))), (1, .one (.val (.str x1))), (5, .one (.val (.int .i64 x5)))] fr0) ∧ hp = (fun _ => none)) k ⟨_, zfuel, _, _, _, h, leafFr [0, 1, 5] (by kernel_rfl), by kernel_rfl⟩ ?_
  clear h; rintro k hle _ _ ⟨x0, x1, x5, h, ⟨fr0, rfl⟩, rfl⟩
  rcases k with _ | k
  · exact (run_zero h).elim
  rw [run_succ, spec_l12Where.B] at h
  refine zz ?_
  refine br (iP h) ?_ ?_ <;> (clear h; intro c h)
  rotate_left
  ·replace h := evR h; cases h
   refine zz ?_
   exact zend
  have h_ := gP h; clear h; obtain ⟨c, h⟩ := h_
  refine zz ?_
  refine br (iP h) ?_ ?_ <;> (clear h; intro c h)
  ·replace h := evR h; cases h
   refine zz ?_
   exact zend
  replace h := evT h
  refine zz ?_
  exact ⟨_, zfuel, _, _, _, h, leafFr [0, 1, 5] (by kernel_rfl), by kernel_rfl⟩
theorem spec_l14Last_ev {n0 : Nat} (l0_0 l0_1 : List ByteArray) (l0_2 : List S29) (a1_0 a1_1 : Int) (a1_2 : ByteArray) (l1_3 : List S91) (r1 r2 : List ByteArray) (r3 : List S29) (h : spec_l14Last.fv l0_0 l0_1 l0_2 a1_0 a1_1 a1_2 l1_3 = some (r1, r2, r3)) : CE (G m_) 81 [.ptr 1 0, .val (.agg [.int .i64 a1_0, .int .i64 a1_1, .str a1_2, .row (l1_3.map e91)])] [.own 29 3 (l0_2.map e29) n0 false, .box [.val (.row (l0_0.map VV.str)), .val (.row (l0_1.map VV.str)), .ref 0 n0]] [] [.own 29 3 (r3.map e29) (n0 + 1) false, .box [.val (.row (r1.map VV.str)), .val (.row (r2.map VV.str)), .ref 0 (n0 + 1)]] := by
  refine CE.mk ⟨Tryz.f81, _, rfl, rfl, ⟨by kernel_rfl, Nat.le_of_ble_eq_true rfl, Nat.le_of_ble_eq_true rfl⟩, ?_⟩
  rw [spec_l14Last.fv] at h
  refine zz ?_
  refine br (iteS h) ?_ ?_ <;> (clear h; intro c h)
  ·have h_ := oS h; clear h; obtain ⟨t17, ht, h⟩ := h_
   refine zz ?_
   refine Exists.intro _ (Exists.intro _ (And.intro (spec_l14Put_ev (h := ht)) ?_))
   cases h
   refine zz ?_
   first | refine ⟨trivial, [], [(0, n0 + 1, n0 + 1)], ⟨rfl, ⟨rfl, trivial⟩⟩, _, rfl, _, rfl, ?_⟩ | refine ⟨[], [(0, n0 + 1, n0 + 1)], ⟨rfl, ⟨rfl, trivial⟩⟩, _, rfl, _, rfl, ?_⟩
   repeat' (first | (refine And.intro ?_ ?_) | rfl)
  refine zz ?_
  refine br (iteS h) ?_ ?_ <;> (clear h; intro c h)
  ·have h_ := oS h; clear h; obtain ⟨t23, ht, h⟩ := h_
   refine zz ?_
   refine Exists.intro _ (Exists.intro _ (And.intro (spec_l14Put_ev (h := ht)) ?_))
   cases h
   refine zz ?_
   first | refine ⟨trivial, [], [(0, n0 + 1, n0 + 1)], ⟨rfl, ⟨rfl, trivial⟩⟩, _, rfl, _, rfl, ?_⟩ | refine ⟨[], [(0, n0 + 1, n0 + 1)], ⟨rfl, ⟨rfl, trivial⟩⟩, _, rfl, _, rfl, ?_⟩
   repeat' (first | (refine And.intro ?_ ?_) | rfl)
  refine zz ?_
  refine br (iteS h) ?_ ?_ <;> (clear h; intro c h)
  ·have h_ := oS h; clear h; obtain ⟨t29, ht, h⟩ := h_
   refine zz ?_
   refine Exists.intro _ (Exists.intro _ (And.intro (spec_l14Put_ev (h := ht)) ?_))
   cases h
   refine zz ?_
   first | refine ⟨trivial, [], [(0, n0 + 1, n0 + 1)], ⟨rfl, ⟨rfl, trivial⟩⟩, _, rfl, _, rfl, ?_⟩ | refine ⟨[], [(0, n0 + 1, n0 + 1)], ⟨rfl, ⟨rfl, trivial⟩⟩, _, rfl, _, rfl, ?_⟩
   repeat' (first | (refine And.intro ?_ ?_) | rfl)
  refine zz ?_
  refine br (iteS h) ?_ ?_ <;> (clear h; intro c h)
  ·have h_ := oS h; clear h; obtain ⟨t39, ht, h⟩ := h_
   refine zz ?_
   refine Exists.intro _ (And.intro (spec_l12Where_ev (h := ht)) ?_)
   have h_ := oS h; clear h; obtain ⟨t40, ht, h⟩ := h_
   refine zz ?_
   refine Exists.intro _ (Exists.intro _ (And.intro (spec_l14Put_ev (h := ht)) ?_))
   cases h
   refine zz ?_
   first | refine ⟨trivial, [], [(0, n0 + 1, n0 + 1)], ⟨rfl, ⟨rfl, trivial⟩⟩, _, rfl, _, rfl, ?_⟩ | refine ⟨[], [(0, n0 + 1, n0 + 1)], ⟨rfl, ⟨rfl, trivial⟩⟩, _, rfl, _, rfl, ?_⟩
   repeat' (first | (refine And.intro ?_ ?_) | rfl)
  refine zz ?_
  refine br (iteS h) ?_ ?_ <;> (clear h; intro c h)
  ·have h_ := oS h; clear h; obtain ⟨t50, ht, h⟩ := h_
   refine zz ?_
   refine Exists.intro _ (And.intro (spec_l12Where_ev (h := ht)) ?_)
   have h_ := oS h; clear h; obtain ⟨t51, ht, h⟩ := h_
   refine zz ?_
   refine Exists.intro _ (Exists.intro _ (And.intro (spec_l14Put_ev (h := ht)) ?_))
   cases h
   refine zz ?_
   first | refine ⟨trivial, [], [(0, n0 + 1, n0 + 1)], ⟨rfl, ⟨rfl, trivial⟩⟩, _, rfl, _, rfl, ?_⟩ | refine ⟨[], [(0, n0 + 1, n0 + 1)], ⟨rfl, ⟨rfl, trivial⟩⟩, _, rfl, _, rfl, ?_⟩
   repeat' (first | (refine And.intro ?_ ?_) | rfl)
  refine zz ?_
  refine br (iteS h) ?_ ?_ <;> (clear h; intro c h)
  ·have h_ := oS h; clear h; obtain ⟨t55, ht, h⟩ := h_
   refine zz ?_
   refine Exists.intro _ (Exists.intro _ (And.intro (spec_l14Put_ev (h := ht)) ?_))
   cases h
   refine zz ?_
   first | refine ⟨trivial, [], [(0, n0 + 1, n0 + 1)], ⟨rfl, ⟨rfl, trivial⟩⟩, _, rfl, _, rfl, ?_⟩ | refine ⟨[], [(0, n0 + 1, n0 + 1)], ⟨rfl, ⟨rfl, trivial⟩⟩, _, rfl, _, rfl, ?_⟩
   repeat' (first | (refine And.intro ?_ ?_) | rfl)
  refine zz ?_
  refine br (iteS h) ?_ ?_ <;> (clear h; intro c h)
  ·have h_ := oS h; clear h; obtain ⟨t59, ht, h⟩ := h_
   refine zz ?_
   refine Exists.intro _ (Exists.intro _ (And.intro (spec_l14Put_ev (h := ht)) ?_))
   cases h
   refine zz ?_
   first | refine ⟨trivial, [], [(0, n0 + 1, n0 + 1)], ⟨rfl, ⟨rfl, trivial⟩⟩, _, rfl, _, rfl, ?_⟩ | refine ⟨[], [(0, n0 + 1, n0 + 1)], ⟨rfl, ⟨rfl, trivial⟩⟩, _, rfl, _, rfl, ?_⟩
   repeat' (first | (refine And.intro ?_ ?_) | rfl)
  refine zz ?_
  refine br (iteS h) ?_ ?_ <;> (clear h; intro c h)
  ·have h_ := oS h; clear h; obtain ⟨t63, ht, h⟩ := h_
   refine zz ?_
   refine Exists.intro _ (Exists.intro _ (And.intro (spec_l14Put_ev (h := ht)) ?_))
   cases h
   refine zz ?_
   first | refine ⟨trivial, [], [(0, n0 + 1, n0 + 1)], ⟨rfl, ⟨rfl, trivial⟩⟩, _, rfl, _, rfl, ?_⟩ | refine ⟨[], [(0, n0 + 1, n0 + 1)], ⟨rfl, ⟨rfl, trivial⟩⟩, _, rfl, _, rfl, ?_⟩
   repeat' (first | (refine And.intro ?_ ?_) | rfl)
  refine zz ?_
  refine br (iteS h) ?_ ?_ <;> (clear h; intro c h)
  ·have h_ := oS h; clear h; obtain ⟨t67, ht, h⟩ := h_
   refine zz ?_
   refine Exists.intro _ (Exists.intro _ (And.intro (spec_l14Put_ev (h := ht)) ?_))
   cases h
   refine zz ?_
   first | refine ⟨trivial, [], [(0, n0 + 1, n0 + 1)], ⟨rfl, ⟨rfl, trivial⟩⟩, _, rfl, _, rfl, ?_⟩ | refine ⟨[], [(0, n0 + 1, n0 + 1)], ⟨rfl, ⟨rfl, trivial⟩⟩, _, rfl, _, rfl, ?_⟩
   repeat' (first | (refine And.intro ?_ ?_) | rfl)
  refine zz ?_
  refine br (iteS h) ?_ ?_ <;> (clear h; intro c h)
  ·have h_ := oS h; clear h; obtain ⟨t71, ht, h⟩ := h_
   refine zz ?_
   refine Exists.intro _ (Exists.intro _ (And.intro (spec_l14Put_ev (h := ht)) ?_))
   cases h
   refine zz ?_
   first | refine ⟨trivial, [], [(0, n0 + 1, n0 + 1)], ⟨rfl, ⟨rfl, trivial⟩⟩, _, rfl, _, rfl, ?_⟩ | refine ⟨[], [(0, n0 + 1, n0 + 1)], ⟨rfl, ⟨rfl, trivial⟩⟩, _, rfl, _, rfl, ?_⟩
   repeat' (first | (refine And.intro ?_ ?_) | rfl)
  refine zz ?_
  refine br (iteS h) ?_ ?_ <;> (clear h; intro c h)
  ·have h_ := oS h; clear h; obtain ⟨t80, ht, h⟩ := h_
   refine zz ?_
   refine Exists.intro _ (Exists.intro _ (And.intro (spec_l14Put_ev (h := ht)) ?_))
   cases h
   refine zz ?_
   first | refine ⟨trivial, [], [(0, n0 + 1, n0 + 1)], ⟨rfl, ⟨rfl, trivial⟩⟩, _, rfl, _, rfl, ?_⟩ | refine ⟨[], [(0, n0 + 1, n0 + 1)], ⟨rfl, ⟨rfl, trivial⟩⟩, _, rfl, _, rfl, ?_⟩
   repeat' (first | (refine And.intro ?_ ?_) | rfl)
  have h_ := oS h; clear h; obtain ⟨t11, ht, h⟩ := h_
  refine zz ?_
  refine Exists.intro _ (Exists.intro _ (And.intro (spec_l14Put_ev (h := ht)) ?_))
  cases h
  refine zz ?_
  first | refine ⟨trivial, [], [(0, n0 + 1, n0 + 1)], ⟨rfl, ⟨rfl, trivial⟩⟩, _, rfl, _, rfl, ?_⟩ | refine ⟨[], [(0, n0 + 1, n0 + 1)], ⟨rfl, ⟨rfl, trivial⟩⟩, _, rfl, _, rfl, ?_⟩
  repeat' (first | (refine And.intro ?_ ?_) | rfl)
theorem spec_l14E_all : ∀ n, (∀ (k : Nat) {n0 : Nat} (l0_0 l0_1 : List ByteArray) (l0_2 : List S29) (a1_0 a1_1 : Int) (a1_2 : ByteArray) (l1_3 : List S91) (r1 r2 : List ByteArray) (r3 : List S29) (h : run spec_l14E.B k (.spec_l14E_f l0_0 l0_1 l0_2 a1_0 a1_1 a1_2 l1_3) = some (r1, r2, r3)) (hk : k < n), CE (G m_) 55 [.ptr 1 0, .val (.agg [.int .i64 a1_0, .int .i64 a1_1, .str a1_2, .row (l1_3.map e91)])] [.own 29 3 (l0_2.map e29) n0 false, .box [.val (.row (l0_0.map VV.str)), .val (.row (l0_1.map VV.str)), .ref 0 n0]] [] [.own 29 3 (r3.map e29) (n0 + 1) false, .box [.val (.row (r1.map VV.str)), .val (.row (r2.map VV.str)), .ref 0 (n0 + 1)]]) ∧ (∀ (k : Nat) {n0 : Nat} (l0_0 l0_1 : List ByteArray) (l0_2 : List S29) (a1_0 a1_1 : Int) (a1_2 : ByteArray) (l1_3 : List S91) (r1 r2 : List ByteArray) (r3 : List S29) (h : run spec_l14E.B k (.spec_l14Set_f l0_0 l0_1 l0_2 a1_0 a1_1 a1_2 l1_3) = some (r1, r2, r3)) (hk : k < n), CE (G m_) 78 [.ptr 1 0, .val (.agg [.int .i64 a1_0, .int .i64 a1_1, .str a1_2, .row (l1_3.map e91)])] [.own 29 3 (l0_2.map e29) n0 false, .box [.val (.row (l0_0.map VV.str)), .val (.row (l0_1.map VV.str)), .ref 0 n0]] [] [.own 29 3 (r3.map e29) (n0 + 1) false, .box [.val (.row (r1.map VV.str)), .val (.row (r2.map VV.str)), .ref 0 (n0 + 1)]]) ∧ (∀ (k : Nat) {n0 : Nat} (l0_0 l0_1 : List ByteArray) (l0_2 : List S29) (a1_0 a1_1 : Int) (a1_2 : ByteArray) (l1_3 : List S91) (r1 r2 : List ByteArray) (r3 : List S29) (h : run spec_l14E.B k (.spec_l14And_f l0_0 l0_1 l0_2 a1_0 a1_1 a1_2 l1_3) = some (r1, r2, r3)) (hk : k < n), CE (G m_) 79 [.ptr 1 0, .val (.agg [.int .i64 a1_0, .int .i64 a1_1, .str a1_2, .row (l1_3.map e91)])] [.own 29 3 (l0_2.map e29) n0 false, .box [.val (.row (l0_0.map VV.str)), .val (.row (l0_1.map VV.str)), .ref 0 n0]] [] [.own 29 3 (r3.map e29) (n0 + 1) false, .box [.val (.row (r1.map VV.str)), .val (.row (r2.map VV.str)), .ref 0 (n0 + 1)]]) ∧ (∀ (k : Nat) {n0 : Nat} (l0_0 l0_1 : List ByteArray) (l0_2 : List S29) (a1_0 a1_1 : Int) (a1_2 : ByteArray) (l1_3 : List S91) (r1 r2 : List ByteArray) (r3 : List S29) (h : run spec_l14E.B k (.spec_l14Or_f l0_0 l0_1 l0_2 a1_0 a1_1 a1_2 l1_3) = some (r1, r2, r3)) (hk : k < n), CE (G m_) 80 [.ptr 1 0, .val (.agg [.int .i64 a1_0, .int .i64 a1_1, .str a1_2, .row (l1_3.map e91)])] [.own 29 3 (l0_2.map e29) n0 false, .box [.val (.row (l0_0.map VV.str)), .val (.row (l0_1.map VV.str)), .ref 0 n0]] [] [.own 29 3 (r3.map e29) (n0 + 1) false, .box [.val (.row (r1.map VV.str)), .val (.row (r2.map VV.str)), .ref 0 (n0 + 1)]]) := by
  intro n
  induction n with
  | zero => exact ⟨by intros; omega, by intros; omega, by intros; omega, by intros; omega⟩
  | succ n ih =>
    refine ⟨?_, ?_, ?_, ?_⟩
    · intro k n0 l0_0 l0_1 l0_2 a1_0 a1_1 a1_2 l1_3 r1 r2 r3 h hk
      refine CE.mk ⟨Tryz.f55, _, rfl, rfl, ⟨by kernel_rfl, Nat.le_of_ble_eq_true rfl, Nat.le_of_ble_eq_true rfl⟩, ?_⟩
      rcases k with _ | k
      · exact (run_zero h).elim
      rw [run_succ, spec_l14E.B] at h
      refine zz ?_
      refine cutJ (n := 24) [0, 1, 16] (fun fr hp => ∃ kq, kq ≤ k ∧ ∃ (x6 : Int) (x24 : Bool) (y0 : List S29) (x2000 x2001 : List ByteArray) (x16_0 x16_1 : Int) (x16_2 : ByteArray) (x16_3 : List S91) (g0 : Nat), run spec_l14E.B kq (.spec_l14E_j0 x6 x24 y0 x2000 x2001 x16_0 x16_1 x16_2 x16_3) = some (r1, r2, r3) ∧ (∃ fr0, fr = puts [(0, .one (.ptr 1 0)), (3, .one (.ptr 16 0)), (6, .one (.val (.int .i64 x6))), (24, .one (.val (.bool x24)))] fr0) ∧ hp = (upd 0 (.own 29 3 (y0.map e29) g0 false) (upd 1 (.box [.val (.row (x2000.map VV.str)), .val (.row (x2001.map VV.str)), .ref 0 g0]) (upd 16 (.box [.val (.int .i64 x16_0), .val (.int .i64 x16_1), .val (.str x16_2), .val (.row (x16_3.map e91))]) (fun _ => none))))) ?_ ?_
      ·refine zz ?_
       refine br (iP h) ?_ ?_ <;> (clear h; intro c h)
       ·replace h := evT h
        refine zz ?_
        exact ⟨_, zfuel, _, _, _, _, _, _, _, _, _, n0, h, leafFr [0, 3, 6, 24] (by kernel_rfl), by kernel_rfl⟩
       replace h := evT h
       refine zz ?_
       exact ⟨_, zfuel, _, _, _, _, _, _, _, _, _, n0, h, leafFr [0, 3, 6, 24] (by kernel_rfl), by kernel_rfl⟩
      clear h; rintro _ _ ⟨k, hle, x6, x24, y0, x2000, x2001, x16_0, x16_1, x16_2, x16_3, g0, h, ⟨fr0, rfl⟩, rfl⟩
      rcases k with _ | k
      · exact (run_zero h).elim
      rw [run_succ, spec_l14E.B] at h
      refine zz ?_
      refine br (iP h) ?_ ?_ <;> (clear h; intro c h)
      ·have h_ := evA h; clear h; obtain ⟨t29, ht, h⟩ := h_
       refine zz ?_
       refine Exists.intro _ (Exists.intro _ (And.intro (ih.2.1 _ (h := ht) (hk := zfuel)) ?_))
       replace h := evR h; cases h
       refine zz ?_
       first | refine ⟨trivial, [], [(0, g0 + 1, n0 + 1)], ⟨rfl, ⟨rfl, trivial⟩⟩, _, rfl, _, rfl, ?_⟩ | refine ⟨[], [(0, g0 + 1, n0 + 1)], ⟨rfl, ⟨rfl, trivial⟩⟩, _, rfl, _, rfl, ?_⟩
       repeat' (first | (refine And.intro ?_ ?_) | rfl)
      refine zz ?_
      refine br (iP h) ?_ ?_ <;> (clear h; intro c h)
      ·have h_ := evA h; clear h; obtain ⟨t34, ht, h⟩ := h_
       refine zz ?_
       refine Exists.intro _ (Exists.intro _ (And.intro (ih.2.2.1 _ (h := ht) (hk := zfuel)) ?_))
       replace h := evR h; cases h
       refine zz ?_
       first | refine ⟨trivial, [], [(0, g0 + 1, n0 + 1)], ⟨rfl, ⟨rfl, trivial⟩⟩, _, rfl, _, rfl, ?_⟩ | refine ⟨[], [(0, g0 + 1, n0 + 1)], ⟨rfl, ⟨rfl, trivial⟩⟩, _, rfl, _, rfl, ?_⟩
       repeat' (first | (refine And.intro ?_ ?_) | rfl)
      refine zz ?_
      refine br (iP h) ?_ ?_ <;> (clear h; intro c h)
      ·have h_ := evA h; clear h; obtain ⟨t39, ht, h⟩ := h_
       refine zz ?_
       refine Exists.intro _ (Exists.intro _ (And.intro (ih.2.2.2 _ (h := ht) (hk := zfuel)) ?_))
       replace h := evR h; cases h
       refine zz ?_
       first | refine ⟨trivial, [], [(0, g0 + 1, n0 + 1)], ⟨rfl, ⟨rfl, trivial⟩⟩, _, rfl, _, rfl, ?_⟩ | refine ⟨[], [(0, g0 + 1, n0 + 1)], ⟨rfl, ⟨rfl, trivial⟩⟩, _, rfl, _, rfl, ?_⟩
       repeat' (first | (refine And.intro ?_ ?_) | rfl)
      refine zz ?_
      refine br (iP h) ?_ ?_ <;> (clear h; intro c h)
      ·have h_ := gP h; clear h; obtain ⟨c, h⟩ := h_
       have h_ := evA h; clear h; obtain ⟨t47, ht, h⟩ := h_
       refine zz ?_
       refine Exists.intro _ (Exists.intro _ (And.intro (ih.1 _ (h := ht) (hk := zfuel)) ?_))
       have h_ := gP h; clear h; obtain ⟨c, h⟩ := h_
       have h_ := evO h; clear h; obtain ⟨t54, ht, h⟩ := h_
       refine zz ?_
       refine Exists.intro _ (Exists.intro _ (And.intro (spec_l14Put_ev (h := ht)) ?_))
       replace h := evR h; cases h
       refine zz ?_
       first | refine ⟨trivial, [], [(0, g0 + 1 + 1, n0 + 1)], ⟨rfl, ⟨rfl, trivial⟩⟩, _, rfl, _, rfl, ?_⟩ | refine ⟨[], [(0, g0 + 1 + 1, n0 + 1)], ⟨rfl, ⟨rfl, trivial⟩⟩, _, rfl, _, rfl, ?_⟩
       repeat' (first | (refine And.intro ?_ ?_) | rfl)
      replace h := evT h
      refine zz ?_
      refine loopJ [0, 1, 16] (fun kq fr hp => ∃ (x4 : Int) (y0 : List S29) (x2000 x2001 : List ByteArray) (x16_0 x16_1 : Int) (x16_2 : ByteArray) (x16_3 : List S91) (g0 : Nat), run spec_l14E.B kq (.spec_l14E_l0 x4 y0 x2000 x2001 x16_0 x16_1 x16_2 x16_3) = some (r1, r2, r3) ∧ (∃ fr0, fr = puts [(0, .one (.ptr 1 0)), (3, .one (.ptr 16 0)), (4, .one (.val (.int .i64 x4)))] fr0) ∧ hp = (upd 0 (.own 29 3 (y0.map e29) g0 false) (upd 1 (.box [.val (.row (x2000.map VV.str)), .val (.row (x2001.map VV.str)), .ref 0 g0]) (upd 16 (.box [.val (.int .i64 x16_0), .val (.int .i64 x16_1), .val (.str x16_2), .val (.row (x16_3.map e91))]) (fun _ => none))))) k ⟨_, zfuel, _, _, _, _, _, _, _, _, g0, h, leafFr [0, 3, 4] (by kernel_rfl), by kernel_rfl⟩ ?_
      clear h; rintro k hle _ _ ⟨x4, y0, x2000, x2001, x16_0, x16_1, x16_2, x16_3, g0, h, ⟨fr0, rfl⟩, rfl⟩
      rcases k with _ | k
      · exact (run_zero h).elim
      rw [run_succ, spec_l14E.B] at h
      refine zz ?_
      refine br (iP h) ?_ ?_ <;> (clear h; intro c h)
      rotate_left
      ·have h_ := evO h; clear h; obtain ⟨t23, ht, h⟩ := h_
       refine zz ?_
       refine Exists.intro _ (Exists.intro _ (And.intro (spec_l14Last_ev (h := ht)) ?_))
       replace h := evR h; cases h
       refine zz ?_
       first | refine ⟨trivial, [], [(0, g0 + 1, n0 + 1)], ⟨rfl, ⟨rfl, trivial⟩⟩, _, rfl, _, rfl, ?_⟩ | refine ⟨[], [(0, g0 + 1, n0 + 1)], ⟨rfl, ⟨rfl, trivial⟩⟩, _, rfl, _, rfl, ?_⟩
       repeat' (first | (refine And.intro ?_ ?_) | rfl)
      have h_ := gP h; clear h; obtain ⟨c, h⟩ := h_
      have h_ := evA h; clear h; obtain ⟨t20, ht, h⟩ := h_
      refine zz ?_
      refine Exists.intro _ (Exists.intro _ (And.intro (ih.1 _ (h := ht) (hk := zfuel)) ?_))
      replace h := evT h
      refine zz ?_
      exact ⟨_, zfuel, _, _, _, _, _, _, _, _, (g0 + 1), h, leafFr [0, 3, 4] (by kernel_rfl), by kernel_rfl⟩
    · intro k n0 l0_0 l0_1 l0_2 a1_0 a1_1 a1_2 l1_3 r1 r2 r3 h hk
      refine CE.mk ⟨Tryz.f78, _, rfl, rfl, ⟨by kernel_rfl, Nat.le_of_ble_eq_true rfl, Nat.le_of_ble_eq_true rfl⟩, ?_⟩
      rcases k with _ | k
      · exact (run_zero h).elim
      rw [run_succ, spec_l14E.B] at h
      have h_ := gP h; clear h; obtain ⟨c, h⟩ := h_
      have h_ := evO h; clear h; obtain ⟨t13, ht, h⟩ := h_
      refine zz ?_
      refine Exists.intro _ (And.intro (spec_l1Bit_ev (h := ht)) ?_)
      refine zz ?_
      refine br (iP h) ?_ ?_ <;> (clear h; intro c h)
      ·have h_ := gP h; clear h; obtain ⟨c, h⟩ := h_
       have h_ := evA h; clear h; obtain ⟨t22, ht, h⟩ := h_
       refine zz ?_
       refine Exists.intro _ (Exists.intro _ (And.intro (ih.1 _ (h := ht) (hk := zfuel)) ?_))
       have h_ := evO h; clear h; obtain ⟨t32, ht, h⟩ := h_
       refine zz ?_
       refine Exists.intro _ (And.intro (spec_l12Where_ev (h := ht)) ?_)
       have h_ := evO h; clear h; obtain ⟨t33, ht, h⟩ := h_
       refine zz ?_
       refine Exists.intro _ (Exists.intro _ (And.intro (spec_l14Put_ev (h := ht)) ?_))
       replace h := evR h; cases h
       refine zz ?_
       first | refine ⟨trivial, [], [(0, n0 + 1 + 1, n0 + 1)], ⟨rfl, ⟨rfl, trivial⟩⟩, _, rfl, _, rfl, ?_⟩ | refine ⟨[], [(0, n0 + 1 + 1, n0 + 1)], ⟨rfl, ⟨rfl, trivial⟩⟩, _, rfl, _, rfl, ?_⟩
       repeat' (first | (refine And.intro ?_ ?_) | rfl)
      have h_ := gP h; clear h; obtain ⟨c, h⟩ := h_
      have h_ := evA h; clear h; obtain ⟨t39, ht, h⟩ := h_
      refine zz ?_
      refine Exists.intro _ (Exists.intro _ (And.intro (ih.1 _ (h := ht) (hk := zfuel)) ?_))
      have h_ := gP h; clear h; obtain ⟨c, h⟩ := h_
      have h_ := evA h; clear h; obtain ⟨t45, ht, h⟩ := h_
      refine zz ?_
      refine Exists.intro _ (Exists.intro _ (And.intro (ih.1 _ (h := ht) (hk := zfuel)) ?_))
      have h_ := evO h; clear h; obtain ⟨t55, ht, h⟩ := h_
      refine zz ?_
      refine Exists.intro _ (And.intro (spec_l12Where_ev (h := ht)) ?_)
      have h_ := evO h; clear h; obtain ⟨t56, ht, h⟩ := h_
      refine zz ?_
      refine Exists.intro _ (Exists.intro _ (And.intro (spec_l14Put_ev (h := ht)) ?_))
      replace h := evR h; cases h
      refine zz ?_
      first | refine ⟨trivial, [], [(0, n0 + 1 + 1 + 1, n0 + 1)], ⟨rfl, ⟨rfl, trivial⟩⟩, _, rfl, _, rfl, ?_⟩ | refine ⟨[], [(0, n0 + 1 + 1 + 1, n0 + 1)], ⟨rfl, ⟨rfl, trivial⟩⟩, _, rfl, _, rfl, ?_⟩
      repeat' (first | (refine And.intro ?_ ?_) | rfl)
    · intro k n0 l0_0 l0_1 l0_2 a1_0 a1_1 a1_2 l1_3 r1 r2 r3 h hk
      refine CE.mk ⟨Tryz.f79, _, rfl, rfl, ⟨by kernel_rfl, Nat.le_of_ble_eq_true rfl, Nat.le_of_ble_eq_true rfl⟩, ?_⟩
      rcases k with _ | k
      · exact (run_zero h).elim
      rw [run_succ, spec_l14E.B] at h
      have h_ := gP h; clear h; obtain ⟨c, h⟩ := h_
      have h_ := evA h; clear h; obtain ⟨t11, ht, h⟩ := h_
      refine zz ?_
      refine Exists.intro _ (Exists.intro _ (And.intro (ih.1 _ (h := ht) (hk := zfuel)) ?_))
      have h_ := evO h; clear h; obtain ⟨t13, ht, h⟩ := h_
      refine zz ?_
      refine Exists.intro _ (Exists.intro _ (And.intro (spec_l14Put_ev (h := ht)) ?_))
      have h_ := gP h; clear h; obtain ⟨c, h⟩ := h_
      have h_ := evA h; clear h; obtain ⟨t19, ht, h⟩ := h_
      refine zz ?_
      refine Exists.intro _ (Exists.intro _ (And.intro (ih.1 _ (h := ht) (hk := zfuel)) ?_))
      have h_ := evO h; clear h; obtain ⟨t21, ht, h⟩ := h_
      refine zz ?_
      refine Exists.intro _ (Exists.intro _ (And.intro (spec_l14Put_ev (h := ht)) ?_))
      have h_ := evO h; clear h; obtain ⟨t23, ht, h⟩ := h_
      refine zz ?_
      refine Exists.intro _ (Exists.intro _ (And.intro (spec_l14Put_ev (h := ht)) ?_))
      have h_ := gP h; clear h; obtain ⟨c, h⟩ := h_
      have h_ := gP h; clear h; obtain ⟨c, h⟩ := h_
      have h_ := evO h; clear h; obtain ⟨y6_12, hy, h⟩ := h_
      refine zz ?_
      refine Exists.intro (y6_12.map e29) (And.intro (by rw [← Option.some.inj hy]; exact zrow) ?_)
      have h_ := evO h; clear h; obtain ⟨t37, ht, h⟩ := h_
      refine zz ?_
      refine Exists.intro _ (Exists.intro _ (And.intro (spec_l14Put_ev (h := ht)) ?_))
      have h_ := gP h; clear h; obtain ⟨c, h⟩ := h_
      have h_ := gP h; clear h; obtain ⟨c, h⟩ := h_
      have h_ := evO h; clear h; obtain ⟨y8_12, hy, h⟩ := h_
      refine zz ?_
      refine Exists.intro (y8_12.map e29) (And.intro (by rw [← Option.some.inj hy]; exact zrow) ?_)
      replace h := evR h; cases h
      refine zz ?_
      first | refine ⟨trivial, [], [(0, n0 + 1 + 1 + 1 + 1 + 1 + 1, n0 + 1)], ⟨rfl, ⟨rfl, trivial⟩⟩, _, rfl, _, rfl, ?_⟩ | refine ⟨[], [(0, n0 + 1 + 1 + 1 + 1 + 1 + 1, n0 + 1)], ⟨rfl, ⟨rfl, trivial⟩⟩, _, rfl, _, rfl, ?_⟩
      repeat' (first | (refine And.intro ?_ ?_) | rfl)
    · intro k n0 l0_0 l0_1 l0_2 a1_0 a1_1 a1_2 l1_3 r1 r2 r3 h hk
      refine CE.mk ⟨Tryz.f80, _, rfl, rfl, ⟨by kernel_rfl, Nat.le_of_ble_eq_true rfl, Nat.le_of_ble_eq_true rfl⟩, ?_⟩
      rcases k with _ | k
      · exact (run_zero h).elim
      rw [run_succ, spec_l14E.B] at h
      have h_ := gP h; clear h; obtain ⟨c, h⟩ := h_
      have h_ := evA h; clear h; obtain ⟨t11, ht, h⟩ := h_
      refine zz ?_
      refine Exists.intro _ (Exists.intro _ (And.intro (ih.1 _ (h := ht) (hk := zfuel)) ?_))
      have h_ := evO h; clear h; obtain ⟨t13, ht, h⟩ := h_
      refine zz ?_
      refine Exists.intro _ (Exists.intro _ (And.intro (spec_l14Put_ev (h := ht)) ?_))
      have h_ := evO h; clear h; obtain ⟨t15, ht, h⟩ := h_
      refine zz ?_
      refine Exists.intro _ (Exists.intro _ (And.intro (spec_l14Put_ev (h := ht)) ?_))
      have h_ := evO h; clear h; obtain ⟨t17, ht, h⟩ := h_
      refine zz ?_
      refine Exists.intro _ (Exists.intro _ (And.intro (spec_l14Put_ev (h := ht)) ?_))
      have h_ := gP h; clear h; obtain ⟨c, h⟩ := h_
      have h_ := gP h; clear h; obtain ⟨c, h⟩ := h_
      have h_ := evO h; clear h; obtain ⟨y5_12, hy, h⟩ := h_
      refine zz ?_
      refine Exists.intro (y5_12.map e29) (And.intro (by rw [← Option.some.inj hy]; exact zrow) ?_)
      have h_ := gP h; clear h; obtain ⟨c, h⟩ := h_
      have h_ := evA h; clear h; obtain ⟨t35, ht, h⟩ := h_
      refine zz ?_
      refine Exists.intro _ (Exists.intro _ (And.intro (ih.1 _ (h := ht) (hk := zfuel)) ?_))
      have h_ := evO h; clear h; obtain ⟨t37, ht, h⟩ := h_
      refine zz ?_
      refine Exists.intro _ (Exists.intro _ (And.intro (spec_l14Put_ev (h := ht)) ?_))
      have h_ := gP h; clear h; obtain ⟨c, h⟩ := h_
      have h_ := gP h; clear h; obtain ⟨c, h⟩ := h_
      have h_ := evO h; clear h; obtain ⟨y8_12, hy, h⟩ := h_
      refine zz ?_
      refine Exists.intro (y8_12.map e29) (And.intro (by rw [← Option.some.inj hy]; exact zrow) ?_)
      replace h := evR h; cases h
      refine zz ?_
      first | refine ⟨trivial, [], [(0, n0 + 1 + 1 + 1 + 1 + 1 + 1, n0 + 1)], ⟨rfl, ⟨rfl, trivial⟩⟩, _, rfl, _, rfl, ?_⟩ | refine ⟨[], [(0, n0 + 1 + 1 + 1 + 1 + 1 + 1, n0 + 1)], ⟨rfl, ⟨rfl, trivial⟩⟩, _, rfl, _, rfl, ?_⟩
      repeat' (first | (refine And.intro ?_ ?_) | rfl)
theorem spec_l14E_ev {n0 : Nat} (l0_0 l0_1 : List ByteArray) (l0_2 : List S29) (a1_0 a1_1 : Int) (a1_2 : ByteArray) (l1_3 : List S91) (r1 r2 : List ByteArray) (r3 : List S29) (h : spec_l14E.fv l0_0 l0_1 l0_2 a1_0 a1_1 a1_2 l1_3 = some (r1, r2, r3)) : CE (G m_) 55 [.ptr 1 0, .val (.agg [.int .i64 a1_0, .int .i64 a1_1, .str a1_2, .row (l1_3.map e91)])] [.own 29 3 (l0_2.map e29) n0 false, .box [.val (.row (l0_0.map VV.str)), .val (.row (l0_1.map VV.str)), .ref 0 n0]] [] [.own 29 3 (r3.map e29) (n0 + 1) false, .box [.val (.row (r1.map VV.str)), .val (.row (r2.map VV.str)), .ref 0 (n0 + 1)]] := by
  obtain ⟨k, h⟩ := lim_ex h
  exact (spec_l14E_all (k + 1)).1 k _ _ _ _ _ _ _ _ _ _ h (Nat.lt_succ_self k)
theorem spec_l14Set_ev {n0 : Nat} (l0_0 l0_1 : List ByteArray) (l0_2 : List S29) (a1_0 a1_1 : Int) (a1_2 : ByteArray) (l1_3 : List S91) (r1 r2 : List ByteArray) (r3 : List S29) (h : spec_l14Set.fv l0_0 l0_1 l0_2 a1_0 a1_1 a1_2 l1_3 = some (r1, r2, r3)) : CE (G m_) 78 [.ptr 1 0, .val (.agg [.int .i64 a1_0, .int .i64 a1_1, .str a1_2, .row (l1_3.map e91)])] [.own 29 3 (l0_2.map e29) n0 false, .box [.val (.row (l0_0.map VV.str)), .val (.row (l0_1.map VV.str)), .ref 0 n0]] [] [.own 29 3 (r3.map e29) (n0 + 1) false, .box [.val (.row (r1.map VV.str)), .val (.row (r2.map VV.str)), .ref 0 (n0 + 1)]] := by
  obtain ⟨k, h⟩ := lim_ex h
  exact (spec_l14E_all (k + 1)).2.1 k _ _ _ _ _ _ _ _ _ _ h (Nat.lt_succ_self k)
theorem spec_l14And_ev {n0 : Nat} (l0_0 l0_1 : List ByteArray) (l0_2 : List S29) (a1_0 a1_1 : Int) (a1_2 : ByteArray) (l1_3 : List S91) (r1 r2 : List ByteArray) (r3 : List S29) (h : spec_l14And.fv l0_0 l0_1 l0_2 a1_0 a1_1 a1_2 l1_3 = some (r1, r2, r3)) : CE (G m_) 79 [.ptr 1 0, .val (.agg [.int .i64 a1_0, .int .i64 a1_1, .str a1_2, .row (l1_3.map e91)])] [.own 29 3 (l0_2.map e29) n0 false, .box [.val (.row (l0_0.map VV.str)), .val (.row (l0_1.map VV.str)), .ref 0 n0]] [] [.own 29 3 (r3.map e29) (n0 + 1) false, .box [.val (.row (r1.map VV.str)), .val (.row (r2.map VV.str)), .ref 0 (n0 + 1)]] := by
  obtain ⟨k, h⟩ := lim_ex h
  exact (spec_l14E_all (k + 1)).2.2.1 k _ _ _ _ _ _ _ _ _ _ h (Nat.lt_succ_self k)
theorem spec_l14Or_ev {n0 : Nat} (l0_0 l0_1 : List ByteArray) (l0_2 : List S29) (a1_0 a1_1 : Int) (a1_2 : ByteArray) (l1_3 : List S91) (r1 r2 : List ByteArray) (r3 : List S29) (h : spec_l14Or.fv l0_0 l0_1 l0_2 a1_0 a1_1 a1_2 l1_3 = some (r1, r2, r3)) : CE (G m_) 80 [.ptr 1 0, .val (.agg [.int .i64 a1_0, .int .i64 a1_1, .str a1_2, .row (l1_3.map e91)])] [.own 29 3 (l0_2.map e29) n0 false, .box [.val (.row (l0_0.map VV.str)), .val (.row (l0_1.map VV.str)), .ref 0 n0]] [] [.own 29 3 (r3.map e29) (n0 + 1) false, .box [.val (.row (r1.map VV.str)), .val (.row (r2.map VV.str)), .ref 0 (n0 + 1)]] := by
  obtain ⟨k, h⟩ := lim_ex h
  exact (spec_l14E_all (k + 1)).2.2.2 k _ _ _ _ _ _ _ _ _ _ h (Nat.lt_succ_self k)
theorem spec_l14Print_ev {n0 : Nat} (l0_0 l0_1 : List ByteArray) (l0_2 : List S29) (a1_0 a1_1 : Int) (a1_2 : ByteArray) (l1_3 : List S91) (r1 r2 : List ByteArray) (r3 : List S29) (h : spec_l14Print.fv l0_0 l0_1 l0_2 a1_0 a1_1 a1_2 l1_3 = some (r1, r2, r3)) : CE (G m_) 102 [.ptr 1 0, .val (.agg [.int .i64 a1_0, .int .i64 a1_1, .str a1_2, .row (l1_3.map e91)])] [.own 29 3 (l0_2.map e29) n0 false, .box [.val (.row (l0_0.map VV.str)), .val (.row (l0_1.map VV.str)), .ref 0 n0]] [] [.own 29 3 (r3.map e29) (n0 + 1) false, .box [.val (.row (r1.map VV.str)), .val (.row (r2.map VV.str)), .ref 0 (n0 + 1)]] := by
  obtain ⟨k, h⟩ := lim_ex h
  refine CE.mk ⟨Tryz.f102, _, rfl, rfl, ⟨by kernel_rfl, Nat.le_of_ble_eq_true rfl, Nat.le_of_ble_eq_true rfl⟩, ?_⟩
  rcases k with _ | k
  · exact (run_zero h).elim
  rw [run_succ, spec_l14Print.B] at h
  refine zz ?_
  refine cutJ (n := 8) [0, 1, 16] (fun fr hp => ∃ kq, kq ≤ k ∧ ∃ (y0 : List S29) (x2000 x2001 : List ByteArray) (x16_0 x16_1 : Int) (x16_2 : ByteArray) (x16_3 : List S91) (g0 : Nat), run spec_l14Print.B kq (.j0 y0 x2000 x2001 x16_0 x16_1 x16_2 x16_3) = some (r1, r2, r3) ∧ (∃ fr0, fr = puts [(0, .one (.ptr 1 0)), (3, .one (.ptr 16 0))] fr0) ∧ hp = (upd 0 (.own 29 3 (y0.map e29) g0 false) (upd 1 (.box [.val (.row (x2000.map VV.str)), .val (.row (x2001.map VV.str)), .ref 0 g0]) (upd 16 (.box [.val (.int .i64 x16_0), .val (.int .i64 x16_1), .val (.str x16_2), .val (.row (x16_3.map e91))]) (fun _ => none))))) ?_ ?_
  ·refine zz ?_
   refine br (iP h) ?_ ?_ <;> (clear h; intro c h)
   rotate_left
   ·replace h := evT h
    refine zz ?_
    exact ⟨_, zfuel, _, _, _, _, _, _, _, n0, h, leafFr [0, 3] (by kernel_rfl), by kernel_rfl⟩
   have h_ := evO h; clear h; obtain ⟨t10, ht, h⟩ := h_
   refine zz ?_
   refine Exists.intro _ (Exists.intro _ (And.intro (spec_l14Put_ev (h := ht)) ?_))
   have h_ := evO h; clear h; obtain ⟨t12, ht, h⟩ := h_
   refine zz ?_
   refine Exists.intro _ (Exists.intro _ (And.intro (spec_l14Put_ev (h := ht)) ?_))
   have h_ := evO h; clear h; obtain ⟨t14, ht, h⟩ := h_
   refine zz ?_
   refine Exists.intro _ (Exists.intro _ (And.intro (spec_l14Put_ev (h := ht)) ?_))
   replace h := evT h
   refine zz ?_
   exact ⟨_, zfuel, _, _, _, _, _, _, _, (n0 + 1 + 1 + 1), h, leafFr [0, 3] (by kernel_rfl), by kernel_rfl⟩
  clear h; rintro _ _ ⟨k, hle, y0, x2000, x2001, x16_0, x16_1, x16_2, x16_3, g0, h, ⟨fr0, rfl⟩, rfl⟩
  rcases k with _ | k
  · exact (run_zero h).elim
  rw [run_succ, spec_l14Print.B] at h
  replace h := evT h
  refine zz ?_
  refine loopJ [0, 1, 16] (fun kq fr hp => ∃ (x4 : Int) (y0 : List S29) (x2000 x2001 : List ByteArray) (x16_0 x16_1 : Int) (x16_2 : ByteArray) (x16_3 : List S91) (g0 : Nat), run spec_l14Print.B kq (.l0 x4 y0 x2000 x2001 x16_0 x16_1 x16_2 x16_3) = some (r1, r2, r3) ∧ (∃ fr0, fr = puts [(0, .one (.ptr 1 0)), (3, .one (.ptr 16 0)), (4, .one (.val (.int .i64 x4)))] fr0) ∧ hp = (upd 0 (.own 29 3 (y0.map e29) g0 false) (upd 1 (.box [.val (.row (x2000.map VV.str)), .val (.row (x2001.map VV.str)), .ref 0 g0]) (upd 16 (.box [.val (.int .i64 x16_0), .val (.int .i64 x16_1), .val (.str x16_2), .val (.row (x16_3.map e91))]) (fun _ => none))))) k ⟨_, zfuel, _, _, _, _, _, _, _, _, g0, h, leafFr [0, 3, 4] (by kernel_rfl), by kernel_rfl⟩ ?_
  clear h; rintro k hle _ _ ⟨x4, y0, x2000, x2001, x16_0, x16_1, x16_2, x16_3, g0, h, ⟨fr0, rfl⟩, rfl⟩
  rcases k with _ | k
  · exact (run_zero h).elim
  rw [run_succ, spec_l14Print.B] at h
  refine zz ?_
  refine br (iP h) ?_ ?_ <;> (clear h; intro c h)
  rotate_left
  ·have h_ := evO h; clear h; obtain ⟨t35, ht, h⟩ := h_
   refine zz ?_
   refine Exists.intro _ (Exists.intro _ (And.intro (spec_l14Put_ev (h := ht)) ?_))
   replace h := evR h; cases h
   refine zz ?_
   first | refine ⟨trivial, [], [(0, g0 + 1, n0 + 1)], ⟨rfl, ⟨rfl, trivial⟩⟩, _, rfl, _, rfl, ?_⟩ | refine ⟨[], [(0, g0 + 1, n0 + 1)], ⟨rfl, ⟨rfl, trivial⟩⟩, _, rfl, _, rfl, ?_⟩
   repeat' (first | (refine And.intro ?_ ?_) | rfl)
  have h_ := gP h; clear h; obtain ⟨c, h⟩ := h_
  have h_ := evO h; clear h; obtain ⟨t28, ht, h⟩ := h_
  refine zz ?_
  refine Exists.intro _ (Exists.intro _ (And.intro (spec_l14E_ev (h := ht)) ?_))
  have h_ := evO h; clear h; obtain ⟨t32, ht, h⟩ := h_
  refine zz ?_
  refine Exists.intro _ (And.intro (spec_l1Bit_ev (h := ht)) ?_)
  have h_ := evO h; clear h; obtain ⟨t33, ht, h⟩ := h_
  refine zz ?_
  refine Exists.intro _ (Exists.intro _ (And.intro (spec_l14Put_ev (h := ht)) ?_))
  replace h := evT h
  refine zz ?_
  exact ⟨_, zfuel, _, _, _, _, _, _, _, _, (g0 + 1 + 1), h, leafFr [0, 3, 4] (by kernel_rfl), by kernel_rfl⟩
end Go.Proofs.YtchhkbkbbglgbaaGreatDoor.TFnOps
