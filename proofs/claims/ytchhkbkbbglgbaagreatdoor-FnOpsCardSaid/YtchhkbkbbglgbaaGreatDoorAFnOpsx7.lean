/- The walks of the functions that FnOps reaches, through the abstract machine. -/
import Derived.Test.YtchhkbkbbglgbaaGreatDoorAFnOpsh
import Derived.Test.YtchhkbkbbglgbaaGreatDoorAFnOpsx0
import Derived.Test.YtchhkbkbbglgbaaGreatDoorAFnOpsx1
import Derived.Test.YtchhkbkbbglgbaaGreatDoorAFnOpsx3
import Derived.Test.YtchhkbkbbglgbaaGreatDoorAFnOpsx5
import Derived.Test.YtchhkbkbbglgbaaGreatDoorAFnOpsx6
import Derived.Test.YtchhkbkbbglgbaaGreatDoorFFnOps
import Derived.Test.YtchhkbkbbglgbaaGreatDoorProg
set_option maxHeartbeats 4000000
set_option maxRecDepth 100000
set_option linter.unusedVariables false
set_option linter.unusedSimpArgs false
namespace Go.Proofs.YtchhkbkbbglgbaaGreatDoor.TFnOps
open Go Go.RowKit Go.Proofs Go.Proofs.YtchhkbkbbglgbaaGreatDoorW.AM Go.Proofs.YtchhkbkbbglgbaaGreatDoor.QFnOps Go.Proofs.YtchhkbkbbglgbaaGreatDoorW.PrintWords Go.Proofs.YtchhkbkbbglgbaaGreatDoorW.Pgs
variable {m_ : Int}
theorem spec_l14Block_all : ∀ n, (∀ (k : Nat) {n0 : Nat} (l0_0 l0_1 : List ByteArray) (l0_2 : List S29) (a1_0 a1_1 : Int) (a1_2 : ByteArray) (l1_3 : List S91) (r1 r2 : List ByteArray) (r3 : List S29) (h : run spec_l14Block.B k (.spec_l14Block_f l0_0 l0_1 l0_2 a1_0 a1_1 a1_2 l1_3) = some (r1, r2, r3)) (hk : k < n), CE (G m_) 54 [.ptr 1 0, .val (.agg [.int .i64 a1_0, .int .i64 a1_1, .str a1_2, .row (l1_3.map e91)])] [.own 29 3 (l0_2.map e29) n0 false, .box [.val (.row (l0_0.map VV.str)), .val (.row (l0_1.map VV.str)), .ref 0 n0]] [] [.own 29 3 (r3.map e29) (n0 + 1) false, .box [.val (.row (r1.map VV.str)), .val (.row (r2.map VV.str)), .ref 0 (n0 + 1)]]) ∧ (∀ (k : Nat) {n0 : Nat} (l0_0 l0_1 : List ByteArray) (l0_2 : List S29) (a1_0 a1_1 : Int) (a1_2 : ByteArray) (l1_3 : List S91) (r1 r2 : List ByteArray) (r3 : List S29) (h : run spec_l14Block.B k (.spec_l14Stmt_f l0_0 l0_1 l0_2 a1_0 a1_1 a1_2 l1_3) = some (r1, r2, r3)) (hk : k < n), CE (G m_) 77 [.ptr 1 0, .val (.agg [.int .i64 a1_0, .int .i64 a1_1, .str a1_2, .row (l1_3.map e91)])] [.own 29 3 (l0_2.map e29) n0 false, .box [.val (.row (l0_0.map VV.str)), .val (.row (l0_1.map VV.str)), .ref 0 n0]] [] [.own 29 3 (r3.map e29) (n0 + 1) false, .box [.val (.row (r1.map VV.str)), .val (.row (r2.map VV.str)), .ref 0 (n0 + 1)]]) ∧ (∀ (k : Nat) {n0 : Nat} (l0_0 l0_1 : List ByteArray) (l0_2 : List S29) (a1_0 a1_1 : Int) (a1_2 : ByteArray) (l1_3 : List S91) (r1 r2 : List ByteArray) (r3 : List S29) (h : run spec_l14Block.B k (.spec_l14If_f l0_0 l0_1 l0_2 a1_0 a1_1 a1_2 l1_3) = some (r1, r2, r3)) (hk : k < n), CE (G m_) 103 [.ptr 1 0, .val (.agg [.int .i64 a1_0, .int .i64 a1_1, .str a1_2, .row (l1_3.map e91)])] [.own 29 3 (l0_2.map e29) n0 false, .box [.val (.row (l0_0.map VV.str)), .val (.row (l0_1.map VV.str)), .ref 0 n0]] [] [.own 29 3 (r3.map e29) (n0 + 1) false, .box [.val (.row (r1.map VV.str)), .val (.row (r2.map VV.str)), .ref 0 (n0 + 1)]]) ∧ (∀ (k : Nat) {n0 : Nat} (l0_0 l0_1 : List ByteArray) (l0_2 : List S29) (a1_0 a1_1 : Int) (a1_2 : ByteArray) (l1_3 : List S91) (r1 r2 : List ByteArray) (r3 : List S29) (h : run spec_l14Block.B k (.spec_l14While_f l0_0 l0_1 l0_2 a1_0 a1_1 a1_2 l1_3) = some (r1, r2, r3)) (hk : k < n), CE (G m_) 104 [.ptr 1 0, .val (.agg [.int .i64 a1_0, .int .i64 a1_1, .str a1_2, .row (l1_3.map e91)])] [.own 29 3 (l0_2.map e29) n0 false, .box [.val (.row (l0_0.map VV.str)), .val (.row (l0_1.map VV.str)), .ref 0 n0]] [] [.own 29 3 (r3.map e29) (n0 + 1) false, .box [.val (.row (r1.map VV.str)), .val (.row (r2.map VV.str)), .ref 0 (n0 + 1)]]) := by
  intro n
  induction n with
  | zero => exact ⟨by intros; omega, by intros; omega, by intros; omega, by intros; omega⟩
  | succ n ih =>
    refine ⟨?_, ?_, ?_, ?_⟩
    · intro k n0 l0_0 l0_1 l0_2 a1_0 a1_1 a1_2 l1_3 r1 r2 r3 h hk
      refine CE.mk ⟨Tryz.f54, _, rfl, rfl, ⟨by kernel_rfl, Nat.le_of_ble_eq_true rfl, Nat.le_of_ble_eq_true rfl⟩, ?_⟩
      rcases k with _ | k
      · exact (run_zero h).elim
      rw [run_succ, spec_l14Block.B] at h
      replace h := evT h
      refine zz ?_
      refine loopJ [0, 1, 16] (fun kq fr hp => ∃ (x4 : Int) (y0 : List S29) (x2000 x2001 : List ByteArray) (x16_0 x16_1 : Int) (x16_2 : ByteArray) (x16_3 : List S91) (g0 : Nat), run spec_l14Block.B kq (.spec_l14Block_l0 x4 y0 x2000 x2001 x16_0 x16_1 x16_2 x16_3) = some (r1, r2, r3) ∧ (∃ fr0, fr = puts [(0, .one (.ptr 1 0)), (3, .one (.ptr 16 0)), (4, .one (.val (.int .i64 x4)))] fr0) ∧ hp = (upd 0 (.own 29 3 (y0.map e29) g0 false) (upd 1 (.box [.val (.row (x2000.map VV.str)), .val (.row (x2001.map VV.str)), .ref 0 g0]) (upd 16 (.box [.val (.int .i64 x16_0), .val (.int .i64 x16_1), .val (.str x16_2), .val (.row (x16_3.map e91))]) (fun _ => none))))) k ⟨_, zfuel, _, _, _, _, _, _, _, _, n0, h, leafFr [0, 3, 4] (by kernel_rfl), by kernel_rfl⟩ ?_
      clear h; rintro k hle _ _ ⟨x4, y0, x2000, x2001, x16_0, x16_1, x16_2, x16_3, g0, h, ⟨fr0, rfl⟩, rfl⟩
      rcases k with _ | k
      · exact (run_zero h).elim
      rw [run_succ, spec_l14Block.B] at h
      refine zz ?_
      refine br (iP h) ?_ ?_ <;> (clear h; intro c h)
      rotate_left
      ·replace h := evR h; cases h
       refine zz ?_
       first | refine ⟨trivial, [], [(0, g0, n0 + 1)], ⟨rfl, ⟨rfl, trivial⟩⟩, _, rfl, _, rfl, ?_⟩ | refine ⟨[], [(0, g0, n0 + 1)], ⟨rfl, ⟨rfl, trivial⟩⟩, _, rfl, _, rfl, ?_⟩
       repeat' (first | (refine And.intro ?_ ?_) | rfl)
      have h_ := gP h; clear h; obtain ⟨c, h⟩ := h_
      have h_ := evA h; clear h; obtain ⟨t18, ht, h⟩ := h_
      refine zz ?_
      refine Exists.intro _ (Exists.intro _ (And.intro (ih.2.1 _ (h := ht) (hk := zfuel)) ?_))
      replace h := evT h
      refine zz ?_
      exact ⟨_, zfuel, _, _, _, _, _, _, _, _, (g0 + 1), h, leafFr [0, 3, 4] (by kernel_rfl), by kernel_rfl⟩
    · intro k n0 l0_0 l0_1 l0_2 a1_0 a1_1 a1_2 l1_3 r1 r2 r3 h hk
      refine CE.mk ⟨Tryz.f77, _, rfl, rfl, ⟨by kernel_rfl, Nat.le_of_ble_eq_true rfl, Nat.le_of_ble_eq_true rfl⟩, ?_⟩
      rcases k with _ | k
      · exact (run_zero h).elim
      rw [run_succ, spec_l14Block.B] at h
      refine zz ?_
      refine br (iP h) ?_ ?_ <;> (clear h; intro c h)
      ·have h_ := evA h; clear h; obtain ⟨t18, ht, h⟩ := h_
       refine zz ?_
       refine Exists.intro _ (Exists.intro _ (And.intro (ih.1 _ (h := ht) (hk := zfuel)) ?_))
       replace h := evR h; cases h
       refine zz ?_
       first | refine ⟨trivial, [], [(0, n0 + 1, n0 + 1)], ⟨rfl, ⟨rfl, trivial⟩⟩, _, rfl, _, rfl, ?_⟩ | refine ⟨[], [(0, n0 + 1, n0 + 1)], ⟨rfl, ⟨rfl, trivial⟩⟩, _, rfl, _, rfl, ?_⟩
       repeat' (first | (refine And.intro ?_ ?_) | rfl)
      refine zz ?_
      refine br (iP h) ?_ ?_ <;> (clear h; intro c h)
      ·have h_ := evO h; clear h; obtain ⟨t23, ht, h⟩ := h_
       refine zz ?_
       refine Exists.intro _ (Exists.intro _ (And.intro (spec_l14Print_ev (h := ht)) ?_))
       replace h := evR h; cases h
       refine zz ?_
       first | refine ⟨trivial, [], [(0, n0 + 1, n0 + 1)], ⟨rfl, ⟨rfl, trivial⟩⟩, _, rfl, _, rfl, ?_⟩ | refine ⟨[], [(0, n0 + 1, n0 + 1)], ⟨rfl, ⟨rfl, trivial⟩⟩, _, rfl, _, rfl, ?_⟩
       repeat' (first | (refine And.intro ?_ ?_) | rfl)
      refine zz ?_
      refine br (iP h) ?_ ?_ <;> (clear h; intro c h)
      ·have h_ := evA h; clear h; obtain ⟨t28, ht, h⟩ := h_
       refine zz ?_
       refine Exists.intro _ (Exists.intro _ (And.intro (ih.2.2.1 _ (h := ht) (hk := zfuel)) ?_))
       replace h := evR h; cases h
       refine zz ?_
       first | refine ⟨trivial, [], [(0, n0 + 1, n0 + 1)], ⟨rfl, ⟨rfl, trivial⟩⟩, _, rfl, _, rfl, ?_⟩ | refine ⟨[], [(0, n0 + 1, n0 + 1)], ⟨rfl, ⟨rfl, trivial⟩⟩, _, rfl, _, rfl, ?_⟩
       repeat' (first | (refine And.intro ?_ ?_) | rfl)
      refine zz ?_
      refine br (iP h) ?_ ?_ <;> (clear h; intro c h)
      ·have h_ := evA h; clear h; obtain ⟨t33, ht, h⟩ := h_
       refine zz ?_
       refine Exists.intro _ (Exists.intro _ (And.intro (ih.2.2.2 _ (h := ht) (hk := zfuel)) ?_))
       replace h := evR h; cases h
       refine zz ?_
       first | refine ⟨trivial, [], [(0, n0 + 1, n0 + 1)], ⟨rfl, ⟨rfl, trivial⟩⟩, _, rfl, _, rfl, ?_⟩ | refine ⟨[], [(0, n0 + 1, n0 + 1)], ⟨rfl, ⟨rfl, trivial⟩⟩, _, rfl, _, rfl, ?_⟩
       repeat' (first | (refine And.intro ?_ ?_) | rfl)
      refine zz ?_
      refine br (iP h) ?_ ?_ <;> (clear h; intro c h)
      ·have h_ := evO h; clear h; obtain ⟨t37, ht, h⟩ := h_
       refine zz ?_
       refine Exists.intro _ (Exists.intro _ (And.intro (spec_l14Put_ev (h := ht)) ?_))
       replace h := evR h; cases h
       refine zz ?_
       first | refine ⟨trivial, [], [(0, n0 + 1, n0 + 1)], ⟨rfl, ⟨rfl, trivial⟩⟩, _, rfl, _, rfl, ?_⟩ | refine ⟨[], [(0, n0 + 1, n0 + 1)], ⟨rfl, ⟨rfl, trivial⟩⟩, _, rfl, _, rfl, ?_⟩
       repeat' (first | (refine And.intro ?_ ?_) | rfl)
      refine zz ?_
      refine br (iP h) ?_ ?_ <;> (clear h; intro c h)
      rotate_left
      ·have h_ := gP h; clear h; obtain ⟨c, h⟩ := h_
       have h_ := evO h; clear h; obtain ⟨t11, ht, h⟩ := h_
       refine zz ?_
       refine Exists.intro _ (Exists.intro _ (And.intro (spec_l14E_ev (h := ht)) ?_))
       have h_ := evO h; clear h; obtain ⟨t13, ht, h⟩ := h_
       refine zz ?_
       refine Exists.intro _ (Exists.intro _ (And.intro (spec_l14Put_ev (h := ht)) ?_))
       replace h := evR h; cases h
       refine zz ?_
       first | refine ⟨trivial, [], [(0, n0 + 1 + 1, n0 + 1)], ⟨rfl, ⟨rfl, trivial⟩⟩, _, rfl, _, rfl, ?_⟩ | refine ⟨[], [(0, n0 + 1 + 1, n0 + 1)], ⟨rfl, ⟨rfl, trivial⟩⟩, _, rfl, _, rfl, ?_⟩
       repeat' (first | (refine And.intro ?_ ?_) | rfl)
      have h_ := gP h; clear h; obtain ⟨c, h⟩ := h_
      have h_ := evO h; clear h; obtain ⟨t45, ht, h⟩ := h_
      refine zz ?_
      refine Exists.intro _ (Exists.intro _ (And.intro (spec_l14E_ev (h := ht)) ?_))
      have h_ := evO h; clear h; obtain ⟨t53, ht, h⟩ := h_
      refine zz ?_
      refine Exists.intro _ (And.intro (spec_l12Where_ev (h := ht)) ?_)
      have h_ := evO h; clear h; obtain ⟨t54, ht, h⟩ := h_
      refine zz ?_
      refine Exists.intro _ (Exists.intro _ (And.intro (spec_l14Put_ev (h := ht)) ?_))
      replace h := evR h; cases h
      refine zz ?_
      first | refine ⟨trivial, [], [(0, n0 + 1 + 1, n0 + 1)], ⟨rfl, ⟨rfl, trivial⟩⟩, _, rfl, _, rfl, ?_⟩ | refine ⟨[], [(0, n0 + 1 + 1, n0 + 1)], ⟨rfl, ⟨rfl, trivial⟩⟩, _, rfl, _, rfl, ?_⟩
      repeat' (first | (refine And.intro ?_ ?_) | rfl)
    · intro k n0 l0_0 l0_1 l0_2 a1_0 a1_1 a1_2 l1_3 r1 r2 r3 h hk
      refine CE.mk ⟨Tryz.f103, _, rfl, rfl, ⟨by kernel_rfl, Nat.le_of_ble_eq_true rfl, Nat.le_of_ble_eq_true rfl⟩, ?_⟩
      rcases k with _ | k
      · exact (run_zero h).elim
      rw [run_succ, spec_l14Block.B] at h
      have h_ := gP h; clear h; obtain ⟨c, h⟩ := h_
      have h_ := evO h; clear h; obtain ⟨t11, ht, h⟩ := h_
      refine zz ?_
      refine Exists.intro _ (Exists.intro _ (And.intro (spec_l14E_ev (h := ht)) ?_))
      have h_ := evO h; clear h; obtain ⟨t13, ht, h⟩ := h_
      refine zz ?_
      refine Exists.intro _ (Exists.intro _ (And.intro (spec_l14Put_ev (h := ht)) ?_))
      have h_ := gP h; clear h; obtain ⟨c, h⟩ := h_
      have h_ := evA h; clear h; obtain ⟨t19, ht, h⟩ := h_
      refine zz ?_
      refine Exists.intro _ (Exists.intro _ (And.intro (ih.1 _ (h := ht) (hk := zfuel)) ?_))
      refine zz ?_
      refine br (iP h) ?_ ?_ <;> (clear h; intro c h)
      rotate_left
      ·have h_ := gP h; clear h; obtain ⟨c, h⟩ := h_
       have h_ := gP h; clear h; obtain ⟨c, h⟩ := h_
       have h_ := evO h; clear h; obtain ⟨y9_12, hy, h⟩ := h_
       refine zz ?_
       refine Exists.intro (y9_12.map e29) (And.intro (by rw [← Option.some.inj hy]; exact zrow) ?_)
       replace h := evR h; cases h
       refine zz ?_
       first | refine ⟨trivial, [], [(0, n0 + 1 + 1 + 1, n0 + 1)], ⟨rfl, ⟨rfl, trivial⟩⟩, _, rfl, _, rfl, ?_⟩ | refine ⟨[], [(0, n0 + 1 + 1 + 1, n0 + 1)], ⟨rfl, ⟨rfl, trivial⟩⟩, _, rfl, _, rfl, ?_⟩
       repeat' (first | (refine And.intro ?_ ?_) | rfl)
      have h_ := evO h; clear h; obtain ⟨t25, ht, h⟩ := h_
      refine zz ?_
      refine Exists.intro _ (Exists.intro _ (And.intro (spec_l14Put_ev (h := ht)) ?_))
      have h_ := gP h; clear h; obtain ⟨c, h⟩ := h_
      have h_ := gP h; clear h; obtain ⟨c, h⟩ := h_
      have h_ := evO h; clear h; obtain ⟨y6_12, hy, h⟩ := h_
      refine zz ?_
      refine Exists.intro (y6_12.map e29) (And.intro (by rw [← Option.some.inj hy]; exact zrow) ?_)
      have h_ := gP h; clear h; obtain ⟨c, h⟩ := h_
      have h_ := evA h; clear h; obtain ⟨t43, ht, h⟩ := h_
      refine zz ?_
      refine Exists.intro _ (Exists.intro _ (And.intro (ih.1 _ (h := ht) (hk := zfuel)) ?_))
      have h_ := gP h; clear h; obtain ⟨c, h⟩ := h_
      have h_ := gP h; clear h; obtain ⟨c, h⟩ := h_
      have h_ := evO h; clear h; obtain ⟨y8_12, hy, h⟩ := h_
      refine zz ?_
      refine Exists.intro (y8_12.map e29) (And.intro (by rw [← Option.some.inj hy]; exact zrow) ?_)
      replace h := evR h; cases h
      refine zz ?_
      first | refine ⟨trivial, [], [(0, n0 + 1 + 1 + 1 + 1 + 1, n0 + 1)], ⟨rfl, ⟨rfl, trivial⟩⟩, _, rfl, _, rfl, ?_⟩ | refine ⟨[], [(0, n0 + 1 + 1 + 1 + 1 + 1, n0 + 1)], ⟨rfl, ⟨rfl, trivial⟩⟩, _, rfl, _, rfl, ?_⟩
      repeat' (first | (refine And.intro ?_ ?_) | rfl)
    · intro k n0 l0_0 l0_1 l0_2 a1_0 a1_1 a1_2 l1_3 r1 r2 r3 h hk
      refine CE.mk ⟨Tryz.f104, _, rfl, rfl, ⟨by kernel_rfl, Nat.le_of_ble_eq_true rfl, Nat.le_of_ble_eq_true rfl⟩, ?_⟩
      rcases k with _ | k
      · exact (run_zero h).elim
      rw [run_succ, spec_l14Block.B] at h
      have h_ := gP h; clear h; obtain ⟨c, h⟩ := h_
      have h_ := evO h; clear h; obtain ⟨t16, ht, h⟩ := h_
      refine zz ?_
      refine Exists.intro _ (Exists.intro _ (And.intro (spec_l14E_ev (h := ht)) ?_))
      have h_ := evO h; clear h; obtain ⟨t18, ht, h⟩ := h_
      refine zz ?_
      refine Exists.intro _ (Exists.intro _ (And.intro (spec_l14Put_ev (h := ht)) ?_))
      have h_ := gP h; clear h; obtain ⟨c, h⟩ := h_
      have h_ := evA h; clear h; obtain ⟨t24, ht, h⟩ := h_
      refine zz ?_
      refine Exists.intro _ (Exists.intro _ (And.intro (ih.1 _ (h := ht) (hk := zfuel)) ?_))
      have h_ := evO h; clear h; obtain ⟨t27, ht, h⟩ := h_
      refine zz ?_
      refine Exists.intro _ (Exists.intro _ (And.intro (spec_l14Put_ev (h := ht)) ?_))
      have h_ := gP h; clear h; obtain ⟨c, h⟩ := h_
      have h_ := gP h; clear h; obtain ⟨c, h⟩ := h_
      have h_ := evO h; clear h; obtain ⟨y6_12, hy, h⟩ := h_
      refine zz ?_
      refine Exists.intro (y6_12.map e29) (And.intro (by rw [← Option.some.inj hy]; exact zrow) ?_)
      replace h := evR h; cases h
      refine zz ?_
      first | refine ⟨trivial, [], [(0, n0 + 1 + 1 + 1 + 1, n0 + 1)], ⟨rfl, ⟨rfl, trivial⟩⟩, _, rfl, _, rfl, ?_⟩ | refine ⟨[], [(0, n0 + 1 + 1 + 1 + 1, n0 + 1)], ⟨rfl, ⟨rfl, trivial⟩⟩, _, rfl, _, rfl, ?_⟩
      repeat' (first | (refine And.intro ?_ ?_) | rfl)
theorem spec_l14Block_ev {n0 : Nat} (l0_0 l0_1 : List ByteArray) (l0_2 : List S29) (a1_0 a1_1 : Int) (a1_2 : ByteArray) (l1_3 : List S91) (r1 r2 : List ByteArray) (r3 : List S29) (h : spec_l14Block.fv l0_0 l0_1 l0_2 a1_0 a1_1 a1_2 l1_3 = some (r1, r2, r3)) : CE (G m_) 54 [.ptr 1 0, .val (.agg [.int .i64 a1_0, .int .i64 a1_1, .str a1_2, .row (l1_3.map e91)])] [.own 29 3 (l0_2.map e29) n0 false, .box [.val (.row (l0_0.map VV.str)), .val (.row (l0_1.map VV.str)), .ref 0 n0]] [] [.own 29 3 (r3.map e29) (n0 + 1) false, .box [.val (.row (r1.map VV.str)), .val (.row (r2.map VV.str)), .ref 0 (n0 + 1)]] := by
  obtain ⟨k, h⟩ := lim_ex h
  exact (spec_l14Block_all (k + 1)).1 k _ _ _ _ _ _ _ _ _ _ h (Nat.lt_succ_self k)
theorem spec_l14Stmt_ev {n0 : Nat} (l0_0 l0_1 : List ByteArray) (l0_2 : List S29) (a1_0 a1_1 : Int) (a1_2 : ByteArray) (l1_3 : List S91) (r1 r2 : List ByteArray) (r3 : List S29) (h : spec_l14Stmt.fv l0_0 l0_1 l0_2 a1_0 a1_1 a1_2 l1_3 = some (r1, r2, r3)) : CE (G m_) 77 [.ptr 1 0, .val (.agg [.int .i64 a1_0, .int .i64 a1_1, .str a1_2, .row (l1_3.map e91)])] [.own 29 3 (l0_2.map e29) n0 false, .box [.val (.row (l0_0.map VV.str)), .val (.row (l0_1.map VV.str)), .ref 0 n0]] [] [.own 29 3 (r3.map e29) (n0 + 1) false, .box [.val (.row (r1.map VV.str)), .val (.row (r2.map VV.str)), .ref 0 (n0 + 1)]] := by
  obtain ⟨k, h⟩ := lim_ex h
  exact (spec_l14Block_all (k + 1)).2.1 k _ _ _ _ _ _ _ _ _ _ h (Nat.lt_succ_self k)
theorem spec_l14If_ev {n0 : Nat} (l0_0 l0_1 : List ByteArray) (l0_2 : List S29) (a1_0 a1_1 : Int) (a1_2 : ByteArray) (l1_3 : List S91) (r1 r2 : List ByteArray) (r3 : List S29) (h : spec_l14If.fv l0_0 l0_1 l0_2 a1_0 a1_1 a1_2 l1_3 = some (r1, r2, r3)) : CE (G m_) 103 [.ptr 1 0, .val (.agg [.int .i64 a1_0, .int .i64 a1_1, .str a1_2, .row (l1_3.map e91)])] [.own 29 3 (l0_2.map e29) n0 false, .box [.val (.row (l0_0.map VV.str)), .val (.row (l0_1.map VV.str)), .ref 0 n0]] [] [.own 29 3 (r3.map e29) (n0 + 1) false, .box [.val (.row (r1.map VV.str)), .val (.row (r2.map VV.str)), .ref 0 (n0 + 1)]] := by
  obtain ⟨k, h⟩ := lim_ex h
  exact (spec_l14Block_all (k + 1)).2.2.1 k _ _ _ _ _ _ _ _ _ _ h (Nat.lt_succ_self k)
theorem spec_l14While_ev {n0 : Nat} (l0_0 l0_1 : List ByteArray) (l0_2 : List S29) (a1_0 a1_1 : Int) (a1_2 : ByteArray) (l1_3 : List S91) (r1 r2 : List ByteArray) (r3 : List S29) (h : spec_l14While.fv l0_0 l0_1 l0_2 a1_0 a1_1 a1_2 l1_3 = some (r1, r2, r3)) : CE (G m_) 104 [.ptr 1 0, .val (.agg [.int .i64 a1_0, .int .i64 a1_1, .str a1_2, .row (l1_3.map e91)])] [.own 29 3 (l0_2.map e29) n0 false, .box [.val (.row (l0_0.map VV.str)), .val (.row (l0_1.map VV.str)), .ref 0 n0]] [] [.own 29 3 (r3.map e29) (n0 + 1) false, .box [.val (.row (r1.map VV.str)), .val (.row (r2.map VV.str)), .ref 0 (n0 + 1)]] := by
  obtain ⟨k, h⟩ := lim_ex h
  exact (spec_l14Block_all (k + 1)).2.2.2 k _ _ _ _ _ _ _ _ _ _ h (Nat.lt_succ_self k)
theorem spec_DecOk_ev (a0 : Int) (r : Bool) (h : spec_DecOk.f a0 = some r) : CE (G m_) 34 [.val (.int .i64 a0)] [] [.val (.bool r)] [] := by
  refine CE.mk ⟨Tryz.f34, _, rfl, rfl, ⟨by kernel_rfl, Nat.le_of_ble_eq_true rfl, Nat.le_of_ble_eq_true rfl⟩, ?_⟩
  rw [spec_DecOk.f] at h
  have h_ := oS h; clear h; obtain ⟨t4, ht, h⟩ := h_
  refine zz ?_
  refine Exists.intro _ (And.intro (spec_l1In_ev (h := ht)) ?_)
  cases h
  refine zz ?_
  exact zend
theorem spec_l13Op_ev (a0_0 a0_1 : Int) (a0_2 : ByteArray) (a1 a2 a3 : Int) (r : Bool) (h : spec_l13Op.fv a0_0 a0_1 a0_2 a1 a2 a3 = some r) : CE (G m_) 19 [.val (.agg [.int .i64 a0_0, .int .i64 a0_1, .str a0_2]), .val (.int .i64 a1), .val (.int .i64 a2), .val (.int .i64 a3)] [] [.val (.bool r)] [] := by
  obtain ⟨k, h⟩ := lim_ex h
  refine CE.mk ⟨Tryz.f19, _, rfl, rfl, ⟨by kernel_rfl, Nat.le_of_ble_eq_true rfl, Nat.le_of_ble_eq_true rfl⟩, ?_⟩
  rcases k with _ | k
  · exact (run_zero h).elim
  rw [run_succ, spec_l13Op.B] at h
  refine zz ?_
  refine br (iP h) ?_ ?_ <;> (clear h; intro c h)
  ·have h_ := evO h; clear h; obtain ⟨t17, ht, h⟩ := h_
   refine zz ?_
   refine Exists.intro _ (And.intro (spec_DecOk_ev (h := ht)) ?_)
   refine zz ?_
   refine br (iP h) ?_ ?_ <;> (clear h; intro c h)
   ·refine zl ?_
    refine zl ?_
    refine zl ?_
    replace h := evR h; cases h
    refine zz ?_
    exact zend
   refine zr ?_
   refine zr ?_
   refine zr ?_
   replace h := evR h; cases h
   refine zz ?_
   exact zend
  refine zz ?_
  refine br (iP h) ?_ ?_ <;> (clear h; intro c h)
  ·replace h := evR h; cases h
   refine zz ?_
   exact zend
  refine zz ?_
  refine cutJ (n := 28) [16] (fun fr hp => ∃ kq, kq ≤ k ∧ ∃ (x1 x2 : Int) (x3 x12 : Int) (x28 : Bool) (x16_0 x16_1 : Int) (x16_2 : ByteArray), run spec_l13Op.B kq (.j0 x1 x2 x3 x12 x28 x16_0 x16_1 x16_2) = some r ∧ (∃ fr0, fr = puts [(1, .one (.val (.int .i64 x1))), (2, .one (.val (.int .i64 x2))), (3, .one (.val (.int .i64 x3))), (4, .one (.ptr 16 0)), (12, .one (.val (.int .i64 x12))), (28, .one (.val (.bool x28)))] fr0) ∧ hp = (upd 16 (.box [.val (.int .i64 x16_0), .val (.int .i64 x16_1), .val (.str x16_2)]) (fun _ => none))) ?_ ?_
  ·refine zz ?_
   refine br (iP h) ?_ ?_ <;> (clear h; intro c h)
   ·replace h := evT h
    refine zz ?_
    exact ⟨_, zfuel, _, _, _, _, _, _, _, _, h, leafFr [1, 2, 3, 4, 12, 28] (by kernel_rfl), by kernel_rfl⟩
   refine zz ?_
   refine br (iP h) ?_ ?_ <;> (clear h; intro c h)
   ·replace h := evT h
    refine zz ?_
    exact ⟨_, zfuel, _, _, _, _, _, _, _, _, h, leafFr [1, 2, 3, 4, 12, 28] (by kernel_rfl), by kernel_rfl⟩
   replace h := evT h
   refine zz ?_
   exact ⟨_, zfuel, _, _, _, _, _, _, _, _, h, leafFr [1, 2, 3, 4, 12, 28] (by kernel_rfl), by kernel_rfl⟩
  clear h; rintro _ _ ⟨k, hle, x1, x2, x3, x12, x28, x16_0, x16_1, x16_2, h, ⟨fr0, rfl⟩, rfl⟩
  rcases k with _ | k
  · exact (run_zero h).elim
  rw [run_succ, spec_l13Op.B] at h
  refine zz ?_
  refine br (iP h) ?_ ?_ <;> (clear h; intro c h)
  ·refine zz ?_
   refine br (iP h) ?_ ?_ <;> (clear h; intro c h)
   rotate_left
   ·refine zr ?_
    refine zr ?_
    refine zr ?_
    refine zr ?_
    refine zr ?_
    refine zr ?_
    refine zr ?_
    refine zr ?_
    replace h := evR h; cases h
    refine zz ?_
    exact zend
   refine zl ?_
   refine zl ?_
   refine zl ?_
   refine zl ?_
   refine zz ?_
   refine br (iP h) ?_ ?_ <;> (clear h; intro c h)
   ·refine zl ?_
    refine zl ?_
    refine zl ?_
    replace h := evR h; cases h
    refine zz ?_
    exact zend
   refine zr ?_
   refine zr ?_
   refine zr ?_
   replace h := evR h; cases h
   refine zz ?_
   exact zend
  refine zz ?_
  refine cutJ (n := 46) [16] (fun fr hp => ∃ kq, kq ≤ k ∧ ∃ (x1 x3 x12 : Int) (x46 : Bool) (x16_0 x16_1 : Int) (x16_2 : ByteArray), run spec_l13Op.B kq (.j1 x1 x3 x12 x46 x16_0 x16_1 x16_2) = some r ∧ (∃ fr0, fr = puts [(1, .one (.val (.int .i64 x1))), (3, .one (.val (.int .i64 x3))), (4, .one (.ptr 16 0)), (12, .one (.val (.int .i64 x12))), (46, .one (.val (.bool x46)))] fr0) ∧ hp = (upd 16 (.box [.val (.int .i64 x16_0), .val (.int .i64 x16_1), .val (.str x16_2)]) (fun _ => none))) ?_ ?_
  ·refine zz ?_
   refine br (iP h) ?_ ?_ <;> (clear h; intro c h)
   ·replace h := evT h
    refine zz ?_
    exact ⟨_, zfuel, _, _, _, _, _, _, _, h, leafFr [1, 3, 4, 12, 46] (by kernel_rfl), by kernel_rfl⟩
   refine zz ?_
   refine br (iP h) ?_ ?_ <;> (clear h; intro c h)
   ·replace h := evT h
    refine zz ?_
    exact ⟨_, zfuel, _, _, _, _, _, _, _, h, leafFr [1, 3, 4, 12, 46] (by kernel_rfl), by kernel_rfl⟩
   refine zz ?_
   refine br (iP h) ?_ ?_ <;> (clear h; intro c h)
   ·replace h := evT h
    refine zz ?_
    exact ⟨_, zfuel, _, _, _, _, _, _, _, h, leafFr [1, 3, 4, 12, 46] (by kernel_rfl), by kernel_rfl⟩
   replace h := evT h
   refine zz ?_
   exact ⟨_, zfuel, _, _, _, _, _, _, _, h, leafFr [1, 3, 4, 12, 46] (by kernel_rfl), by kernel_rfl⟩
  clear h; rintro _ _ ⟨k, hle, x1, x3, x12, x46, x16_0, x16_1, x16_2, h, ⟨fr0, rfl⟩, rfl⟩
  rcases k with _ | k
  · exact (run_zero h).elim
  rw [run_succ, spec_l13Op.B] at h
  refine zz ?_
  refine br (iP h) ?_ ?_ <;> (clear h; intro c h)
  ·refine zz ?_
   refine br (iP h) ?_ ?_ <;> (clear h; intro c h)
   rotate_left
   ·refine zr ?_
    refine zr ?_
    refine zr ?_
    refine zr ?_
    refine zr ?_
    refine zr ?_
    refine zr ?_
    refine zr ?_
    replace h := evR h; cases h
    refine zz ?_
    exact zend
   refine zl ?_
   refine zl ?_
   refine zl ?_
   refine zl ?_
   refine zz ?_
   refine br (iP h) ?_ ?_ <;> (clear h; intro c h)
   ·refine zl ?_
    refine zl ?_
    refine zl ?_
    replace h := evR h; cases h
    refine zz ?_
    exact zend
   refine zr ?_
   refine zr ?_
   refine zr ?_
   replace h := evR h; cases h
   refine zz ?_
   exact zend
  refine zz ?_
  refine cutJ (n := 65) [16] (fun fr hp => ∃ kq, kq ≤ k ∧ ∃ (x1 x12 : Int) (x65 : Bool) (x16_0 x16_1 : Int) (x16_2 : ByteArray), run spec_l13Op.B kq (.j2 x1 x12 x65 x16_0 x16_1 x16_2) = some r ∧ (∃ fr0, fr = puts [(1, .one (.val (.int .i64 x1))), (4, .one (.ptr 16 0)), (12, .one (.val (.int .i64 x12))), (65, .one (.val (.bool x65)))] fr0) ∧ hp = (upd 16 (.box [.val (.int .i64 x16_0), .val (.int .i64 x16_1), .val (.str x16_2)]) (fun _ => none))) ?_ ?_
  ·refine zz ?_
   refine br (iP h) ?_ ?_ <;> (clear h; intro c h)
   ·replace h := evT h
    refine zz ?_
    exact ⟨_, zfuel, _, _, _, _, _, _, h, leafFr [1, 4, 12, 65] (by kernel_rfl), by kernel_rfl⟩
   replace h := evT h
   refine zz ?_
   exact ⟨_, zfuel, _, _, _, _, _, _, h, leafFr [1, 4, 12, 65] (by kernel_rfl), by kernel_rfl⟩
  clear h; rintro _ _ ⟨k, hle, x1, x12, x65, x16_0, x16_1, x16_2, h, ⟨fr0, rfl⟩, rfl⟩
  rcases k with _ | k
  · exact (run_zero h).elim
  rw [run_succ, spec_l13Op.B] at h
  refine zz ?_
  refine br (iP h) ?_ ?_ <;> (clear h; intro c h)
  ·have h_ := evO h; clear h; obtain ⟨t71, ht, h⟩ := h_
   refine zz ?_
   refine Exists.intro _ (And.intro (spec_RexParse_ev (h := ht)) ?_)
   refine zz ?_
   refine br (iP h) ?_ ?_ <;> (clear h; intro c h)
   ·refine zl ?_
    refine zl ?_
    refine zl ?_
    replace h := evR h; cases h
    refine zz ?_
    exact zend
   refine zr ?_
   refine zr ?_
   refine zr ?_
   replace h := evR h; cases h
   refine zz ?_
   exact zend
  refine zz ?_
  refine br (iP h) ?_ ?_ <;> (clear h; intro c h)
  ·have h_ := evO h; clear h; obtain ⟨t84, ht, h⟩ := h_
   refine zz ?_
   refine Exists.intro _ (And.intro (spec_l1In_ev (h := ht)) ?_)
   refine zz ?_
   refine br (iP h) ?_ ?_ <;> (clear h; intro c h)
   rotate_left
   ·refine zr ?_
    refine zr ?_
    refine zr ?_
    refine zr ?_
    replace h := evR h; cases h
    refine zz ?_
    exact zend
   have h_ := evO h; clear h; obtain ⟨t86, ht, h⟩ := h_
   refine zz ?_
   refine Exists.intro _ (And.intro (spec_l7Calls_ev (h := ht)) ?_)
   refine zl ?_
   refine zl ?_
   refine zl ?_
   have h_ := evO h; clear h; obtain ⟨t89, ht, h⟩ := h_
   refine zz ?_
   refine Exists.intro _ (And.intro (spec_l7Within_ev (h := ht)) ?_)
   refine zl ?_
   replace h := evR h; cases h
   refine zz ?_
   exact zend
  refine zz ?_
  refine cutJ (n := 91) [16] (fun fr hp => ∃ kq, kq ≤ k ∧ ∃ (x1 x12 : Int) (x91 : Bool) (x16_0 x16_1 : Int) (x16_2 : ByteArray), run spec_l13Op.B kq (.j3 x1 x12 x91 x16_0 x16_1 x16_2) = some r ∧ (∃ fr0, fr = puts [(1, .one (.val (.int .i64 x1))), (4, .one (.ptr 16 0)), (12, .one (.val (.int .i64 x12))), (91, .one (.val (.bool x91)))] fr0) ∧ hp = (upd 16 (.box [.val (.int .i64 x16_0), .val (.int .i64 x16_1), .val (.str x16_2)]) (fun _ => none))) ?_ ?_
  ·refine zz ?_
   refine br (iP h) ?_ ?_ <;> (clear h; intro c h)
   ·replace h := evT h
    refine zz ?_
    exact ⟨_, zfuel, _, _, _, _, _, _, h, leafFr [1, 4, 12, 91] (by kernel_rfl), by kernel_rfl⟩
   replace h := evT h
   refine zz ?_
   exact ⟨_, zfuel, _, _, _, _, _, _, h, leafFr [1, 4, 12, 91] (by kernel_rfl), by kernel_rfl⟩
  clear h; rintro _ _ ⟨k, hle, x1, x12, x91, x16_0, x16_1, x16_2, h, ⟨fr0, rfl⟩, rfl⟩
  rcases k with _ | k
  · exact (run_zero h).elim
  rw [run_succ, spec_l13Op.B] at h
  refine zz ?_
  refine br (iP h) ?_ ?_ <;> (clear h; intro c h)
  ·have h_ := evO h; clear h; obtain ⟨t98, ht, h⟩ := h_
   refine zz ?_
   refine Exists.intro _ (And.intro (spec_l1In_ev (h := ht)) ?_)
   refine zz ?_
   refine br (iP h) ?_ ?_ <;> (clear h; intro c h)
   ·refine zl ?_
    refine zl ?_
    refine zl ?_
    replace h := evR h; cases h
    refine zz ?_
    exact zend
   refine zr ?_
   refine zr ?_
   refine zr ?_
   replace h := evR h; cases h
   refine zz ?_
   exact zend
  refine zz ?_
  refine br (iP h) ?_ ?_ <;> (clear h; intro c h)
  ·have h_ := evO h; clear h; obtain ⟨t108, ht, h⟩ := h_
   refine zz ?_
   refine Exists.intro _ (And.intro (spec_l1In_ev (h := ht)) ?_)
   refine zz ?_
   refine br (iP h) ?_ ?_ <;> (clear h; intro c h)
   ·refine zl ?_
    refine zl ?_
    refine zl ?_
    replace h := evR h; cases h
    refine zz ?_
    exact zend
   refine zr ?_
   refine zr ?_
   refine zr ?_
   replace h := evR h; cases h
   refine zz ?_
   exact zend
  have h_ := evO h; clear h; obtain ⟨t116, ht, h⟩ := h_
  refine zz ?_
  refine Exists.intro _ (And.intro (spec_l1In_ev (h := ht)) ?_)
  refine zz ?_
  refine br (iP h) ?_ ?_ <;> (clear h; intro c h)
  rotate_left
  ·refine zr ?_
   refine zr ?_
   refine zr ?_
   refine zr ?_
   refine zr ?_
   refine zr ?_
   refine zr ?_
   replace h := evR h; cases h
   refine zz ?_
   exact zend
  refine zl ?_
  refine zl ?_
  refine zl ?_
  refine zz ?_
  refine br (iP h) ?_ ?_ <;> (clear h; intro c h)
  ·refine zl ?_
   refine zl ?_
   refine zl ?_
   replace h := evR h; cases h
   refine zz ?_
   exact zend
  refine zr ?_
  refine zr ?_
  refine zr ?_
  replace h := evR h; cases h
  refine zz ?_
  exact zend
theorem spec_OpsOk_ev (l0 : List S29) (a1 a2 : Int) (r : Bool) (h : spec_OpsOk.fv l0 a1 a2 = some r) : CE (G m_) 8 [.val (.row (l0.map e29)), .val (.int .i64 a1), .val (.int .i64 a2)] [] [.val (.bool r)] [] := by
  obtain ⟨k, h⟩ := lim_ex h
  refine CE.mk ⟨Tryz.f8, _, rfl, rfl, ⟨by kernel_rfl, Nat.le_of_ble_eq_true rfl, Nat.le_of_ble_eq_true rfl⟩, ?_⟩
  rcases k with _ | k
  · exact (run_zero h).elim
  rw [run_succ, spec_OpsOk.B] at h
  refine zz ?_
  refine cutJ (n := 200002) [] (fun fr hp => ∃ kq, kq ≤ k ∧ ∃ (x0 : List S29) (x1 x2 x7 : Int) (x22 : Bool), run spec_OpsOk.B kq (.j0 x0 x1 x2 x7 x22) = some r ∧ (∃ fr0, fr = puts [(0, .one (.val (.row (x0.map e29)))), (1, .one (.val (.int .i64 x1))), (2, .one (.val (.int .i64 x2))), (7, .one (.val (.int .i64 x7))), (22, .one (.val (.bool x22)))] fr0) ∧ hp = (fun _ => none)) ?_ ?_
  ·have h_ := evO h; clear h; obtain ⟨t12, ht, h⟩ := h_
   refine zz ?_
   refine Exists.intro _ (And.intro (spec_l1In_ev (h := ht)) ?_)
   refine zz ?_
   refine brX (iP h) ?_ ?_ <;> (clear h; intro c h)
   rotate_left
   ·refine zr ?_
    refine zr ?_
    refine zr ?_
    refine zr ?_
    refine zr ?_
    refine zr ?_
    refine zl ?_
    replace h := evT h
    refine zz ?_
    exact ⟨_, zfuel, _, _, _, _, _, h, leafFr [0, 1, 2, 7, 22] (by kernel_rfl), by kernel_rfl⟩
   refine zl ?_
   refine zl ?_
   refine zl ?_
   have h_ := gP h; clear h; obtain ⟨c, h⟩ := h_
   have h_ := gP h; clear h; obtain ⟨c, h⟩ := h_
   refine zl ?_
   refine zl ?_
   refine zl ?_
   refine zr ?_
   replace h := evT h
   refine zz ?_
   exact ⟨_, zfuel, _, _, _, _, _, h, leafFr [0, 1, 2, 7, 22] (by kernel_rfl), by kernel_rfl⟩
  clear h; rintro _ _ ⟨k, hle, x0, x1, x2, x7, x22, h, ⟨fr0, rfl⟩, rfl⟩
  rcases k with _ | k
  · exact (run_zero h).elim
  rw [run_succ, spec_OpsOk.B] at h
  refine zz ?_
  refine br (iP h) ?_ ?_ <;> (clear h; intro c h)
  ·replace h := evR h; cases h
   refine zz ?_
   exact zend
  replace h := evT h
  refine zz ?_
  refine loopJ [] (fun kq fr hp => ∃ (x0 : List S29) (x1 x2 : Int) (x7 x8 : Int), run spec_OpsOk.B kq (.l0 x0 x1 x2 x7 x8) = some r ∧ (∃ fr0, fr = puts [(0, .one (.val (.row (x0.map e29)))), (1, .one (.val (.int .i64 x1))), (2, .one (.val (.int .i64 x2))), (7, .one (.val (.int .i64 x7))), (8, .one (.val (.int .i64 x8)))] fr0) ∧ hp = (fun _ => none)) k ⟨_, zfuel, _, _, _, _, _, h, leafFr [0, 1, 2, 7, 8] (by kernel_rfl), by kernel_rfl⟩ ?_
  clear h; rintro k hle _ _ ⟨x0, x1, x2, x7, x8, h, ⟨fr0, rfl⟩, rfl⟩
  rcases k with _ | k
  · exact (run_zero h).elim
  rw [run_succ, spec_OpsOk.B] at h
  refine zz ?_
  refine br (iP h) ?_ ?_ <;> (clear h; intro c h)
  rotate_left
  ·replace h := evR h; cases h
   refine zz ?_
   exact zend
  have h_ := gP h; clear h; obtain ⟨c, h⟩ := h_
  have h_ := gP h; clear h; obtain ⟨c, h⟩ := h_
  have h_ := evO h; clear h; obtain ⟨t35, ht, h⟩ := h_
  refine zz ?_
  refine Exists.intro _ (And.intro (spec_l13Op_ev (h := ht)) ?_)
  refine zz ?_
  refine brN (iP h) ?_ ?_ <;> (clear h; intro c h)
  ·replace h := evR h; cases h
   refine zz ?_
   exact zend
  replace h := evT h
  refine zz ?_
  exact ⟨_, zfuel, _, _, _, _, _, h, leafFr [0, 1, 2, 7, 8] (by kernel_rfl), by kernel_rfl⟩
theorem spec_ProgOk_ev (l0_0 l0_1 : List ByteArray) (l0_2 l0_3 : List S29) (r : Bool) (h : spec_ProgOk.fv l0_0 l0_1 l0_2 l0_3 = some r) : CE (G m_) 57 [.val (.agg [.row (l0_0.map VV.str), .row (l0_1.map VV.str), .row (l0_2.map e29), .row (l0_3.map e29)])] [] [.val (.bool r)] [] := by
  obtain ⟨k, h⟩ := lim_ex h
  refine CE.mk ⟨Tryz.f57, _, rfl, rfl, ⟨by kernel_rfl, Nat.le_of_ble_eq_true rfl, Nat.le_of_ble_eq_true rfl⟩, ?_⟩
  rcases k with _ | k
  · exact (run_zero h).elim
  rw [run_succ, spec_ProgOk.B] at h
  replace h := evT h
  refine zz ?_
  refine loopJ [16] (fun kq fr hp => ∃ (x3 : Int) (x16_0 x16_1 : List ByteArray) (x16_2 x16_3 : List S29), run spec_ProgOk.B kq (.l0 x3 x16_0 x16_1 x16_2 x16_3) = some r ∧ (∃ fr0, fr = puts [(1, .one (.ptr 16 0)), (3, .one (.val (.int .i64 x3)))] fr0) ∧ hp = (upd 16 (.box [.val (.row (x16_0.map VV.str)), .val (.row (x16_1.map VV.str)), .val (.row (x16_2.map e29)), .val (.row (x16_3.map e29))]) (fun _ => none))) k ⟨_, zfuel, _, _, _, _, _, h, leafFr [1, 3] (by kernel_rfl), by kernel_rfl⟩ ?_
  clear h; rintro k hle _ _ ⟨x3, x16_0, x16_1, x16_2, x16_3, h, ⟨fr0, rfl⟩, rfl⟩
  rcases k with _ | k
  · exact (run_zero h).elim
  rw [run_succ, spec_ProgOk.B] at h
  refine zz ?_
  refine br (iP h) ?_ ?_ <;> (clear h; intro c h)
  ·refine zz ?_
   refine cutJ (n := 200004) [16] (fun fr hp => ∃ kq, kq ≤ k ∧ ∃ (x3 : Int) (x48 : Bool) (x16_0 x16_1 : List ByteArray) (x16_2 x16_3 : List S29), run spec_ProgOk.B kq (.j0 x3 x48 x16_0 x16_1 x16_2 x16_3) = some r ∧ (∃ fr0, fr = puts [(1, .one (.ptr 16 0)), (3, .one (.val (.int .i64 x3))), (48, .one (.val (.bool x48)))] fr0) ∧ hp = (upd 16 (.box [.val (.row (x16_0.map VV.str)), .val (.row (x16_1.map VV.str)), .val (.row (x16_2.map e29)), .val (.row (x16_3.map e29))]) (fun _ => none))) ?_ ?_
   ·have h_ := gP h; clear h; obtain ⟨c, h⟩ := h_
    have h_ := evO h; clear h; obtain ⟨t19, ht, h⟩ := h_
    refine zz ?_
    refine Exists.intro _ (And.intro (spec_l9Name_ev (h := ht)) ?_)
    refine zz ?_
    refine brX (iP h) ?_ ?_ <;> (clear h; intro c h)
    rotate_left
    ·refine zr ?_
     refine zr ?_
     refine zr ?_
     refine zr ?_
     refine zr ?_
     refine zr ?_
     refine zr ?_
     refine zl ?_
     refine zr ?_
     refine zr ?_
     refine zr ?_
     refine zr ?_
     refine zl ?_
     replace h := evT h
     refine zz ?_
     exact ⟨_, zfuel, _, _, _, _, _, _, h, leafFr [1, 3, 48] (by kernel_rfl), by kernel_rfl⟩
    refine zl ?_
    refine zl ?_
    refine zl ?_
    refine zl ?_
    refine zl ?_
    refine zl ?_
    refine zl ?_
    have h_ := evO h; clear h; obtain ⟨t29, ht, h⟩ := h_
    refine zz ?_
    refine Exists.intro _ (And.intro (spec_l7Within_ev (h := ht)) ?_)
    refine zr ?_
    refine zz ?_
    refine brW (iP h) ?_ ?_ <;> (clear h; intro c h)
    rotate_left
    ·refine zr ?_
     refine zr ?_
     refine zr ?_
     refine zl ?_
     replace h := evT h
     refine zz ?_
     exact ⟨_, zfuel, _, _, _, _, _, _, h, leafFr [1, 3, 48] (by kernel_rfl), by kernel_rfl⟩
    refine zl ?_
    refine zl ?_
    refine zz ?_
    refine br (iP h) ?_ ?_ <;> (clear h; intro c h)
    rotate_left
    ·refine zr ?_
     refine zr ?_
     refine zr ?_
     refine zr ?_
     refine zr ?_
     refine zr ?_
     refine zr ?_
     refine zr ?_
     refine zr ?_
     refine zr ?_
     refine zr ?_
     refine zl ?_
     refine zr ?_
     refine zr ?_
     replace h := evT h
     refine zz ?_
     exact ⟨_, zfuel, _, _, _, _, _, _, h, leafFr [1, 3, 48] (by kernel_rfl), by kernel_rfl⟩
    refine zl ?_
    refine zl ?_
    refine zl ?_
    refine zl ?_
    have h_ := gP h; clear h; obtain ⟨c, h⟩ := h_
    have h_ := gP h; clear h; obtain ⟨c, h⟩ := h_
    refine zl ?_
    refine zl ?_
    refine zl ?_
    refine zl ?_
    refine zl ?_
    refine zl ?_
    refine zl ?_
    refine zl ?_
    refine zl ?_
    refine zr ?_
    replace h := evT h
    refine zz ?_
    exact ⟨_, zfuel, _, _, _, _, _, _, h, leafFr [1, 3, 48] (by kernel_rfl), by kernel_rfl⟩
   clear h; rintro _ _ ⟨k, hle, x3, x48, x16_0, x16_1, x16_2, x16_3, h, ⟨fr0, rfl⟩, rfl⟩
   rcases k with _ | k
   · exact (run_zero h).elim
   rw [run_succ, spec_ProgOk.B] at h
   refine zz ?_
   refine br (iP h) ?_ ?_ <;> (clear h; intro c h)
   ·replace h := evR h; cases h
    refine zz ?_
    exact zend
   replace h := evT h
   refine zz ?_
   exact ⟨_, zfuel, _, _, _, _, _, h, leafFr [1, 3] (by kernel_rfl), by kernel_rfl⟩
  replace h := evT h
  refine zz ?_
  refine loopJ [16] (fun kq fr hp => ∃ (x4 : Int) (x16_0 x16_1 : List ByteArray) (x16_2 x16_3 : List S29), run spec_ProgOk.B kq (.l1 x4 x16_0 x16_1 x16_2 x16_3) = some r ∧ (∃ fr0, fr = puts [(1, .one (.ptr 16 0)), (4, .one (.val (.int .i64 x4)))] fr0) ∧ hp = (upd 16 (.box [.val (.row (x16_0.map VV.str)), .val (.row (x16_1.map VV.str)), .val (.row (x16_2.map e29)), .val (.row (x16_3.map e29))]) (fun _ => none))) k ⟨_, zfuel, _, _, _, _, _, h, leafFr [1, 4] (by kernel_rfl), by kernel_rfl⟩ ?_
  clear h; rintro k hle _ _ ⟨x4, x16_0, x16_1, x16_2, x16_3, h, ⟨fr0, rfl⟩, rfl⟩
  rcases k with _ | k
  · exact (run_zero h).elim
  rw [run_succ, spec_ProgOk.B] at h
  refine zz ?_
  refine br (iP h) ?_ ?_ <;> (clear h; intro c h)
  rotate_left
  ·refine zz ?_
   refine br (iP h) ?_ ?_ <;> (clear h; intro c h)
   rotate_left
   ·refine zr ?_
    refine zr ?_
    refine zr ?_
    refine zr ?_
    refine zr ?_
    refine zr ?_
    refine zr ?_
    refine zr ?_
    refine zr ?_
    refine zr ?_
    refine zr ?_
    refine zr ?_
    refine zr ?_
    refine zr ?_
    replace h := evR h; cases h
    refine zz ?_
    exact zend
   refine zl ?_
   refine zl ?_
   refine zz ?_
   refine br (iP h) ?_ ?_ <;> (clear h; intro c h)
   rotate_left
   ·refine zr ?_
    refine zr ?_
    refine zr ?_
    refine zr ?_
    refine zr ?_
    refine zr ?_
    refine zr ?_
    refine zr ?_
    refine zr ?_
    refine zr ?_
    refine zr ?_
    replace h := evR h; cases h
    refine zz ?_
    exact zend
   refine zl ?_
   refine zl ?_
   refine zl ?_
   refine zl ?_
   have h_ := evO h; clear h; obtain ⟨t98, ht, h⟩ := h_
   refine zz ?_
   refine Exists.intro _ (And.intro (spec_OpsOk_ev (h := ht)) ?_)
   refine zl ?_
   refine zz ?_
   refine br (iP h) ?_ ?_ <;> (clear h; intro c h)
   rotate_left
   ·refine zr ?_
    refine zr ?_
    refine zr ?_
    refine zr ?_
    refine zr ?_
    replace h := evR h; cases h
    refine zz ?_
    exact zend
   refine zl ?_
   refine zl ?_
   refine zl ?_
   refine zl ?_
   have h_ := evO h; clear h; obtain ⟨t105, ht, h⟩ := h_
   refine zz ?_
   refine Exists.intro _ (And.intro (spec_OpsOk_ev (h := ht)) ?_)
   refine zl ?_
   replace h := evR h; cases h
   refine zz ?_
   exact zend
  refine zz ?_
  refine cutJ (n := 200009) [16] (fun fr hp => ∃ kq, kq ≤ k ∧ ∃ (x4 : Int) (x80 : Bool) (x16_0 x16_1 : List ByteArray) (x16_2 x16_3 : List S29), run spec_ProgOk.B kq (.j1 x4 x80 x16_0 x16_1 x16_2 x16_3) = some r ∧ (∃ fr0, fr = puts [(1, .one (.ptr 16 0)), (4, .one (.val (.int .i64 x4))), (80, .one (.val (.bool x80)))] fr0) ∧ hp = (upd 16 (.box [.val (.row (x16_0.map VV.str)), .val (.row (x16_1.map VV.str)), .val (.row (x16_2.map e29)), .val (.row (x16_3.map e29))]) (fun _ => none))) ?_ ?_
  ·have h_ := gP h; clear h; obtain ⟨c, h⟩ := h_
   have h_ := evO h; clear h; obtain ⟨t61, ht, h⟩ := h_
   refine zz ?_
   refine Exists.intro _ (And.intro (spec_l9Name_ev (h := ht)) ?_)
   refine zz ?_
   refine brX (iP h) ?_ ?_ <;> (clear h; intro c h)
   rotate_left
   ·refine zr ?_
    refine zr ?_
    refine zr ?_
    refine zl ?_
    replace h := evT h
    refine zz ?_
    exact ⟨_, zfuel, _, _, _, _, _, _, h, leafFr [1, 4, 80] (by kernel_rfl), by kernel_rfl⟩
   refine zl ?_
   refine zl ?_
   refine zz ?_
   refine br (iP h) ?_ ?_ <;> (clear h; intro c h)
   rotate_left
   ·refine zr ?_
    refine zr ?_
    refine zr ?_
    refine zr ?_
    refine zr ?_
    refine zr ?_
    refine zr ?_
    refine zr ?_
    refine zr ?_
    refine zr ?_
    refine zr ?_
    refine zl ?_
    refine zr ?_
    refine zr ?_
    replace h := evT h
    refine zz ?_
    exact ⟨_, zfuel, _, _, _, _, _, _, h, leafFr [1, 4, 80] (by kernel_rfl), by kernel_rfl⟩
   refine zl ?_
   refine zl ?_
   refine zl ?_
   refine zl ?_
   have h_ := gP h; clear h; obtain ⟨c, h⟩ := h_
   have h_ := gP h; clear h; obtain ⟨c, h⟩ := h_
   refine zl ?_
   refine zl ?_
   refine zl ?_
   refine zl ?_
   refine zl ?_
   refine zl ?_
   refine zl ?_
   refine zl ?_
   refine zl ?_
   refine zr ?_
   replace h := evT h
   refine zz ?_
   exact ⟨_, zfuel, _, _, _, _, _, _, h, leafFr [1, 4, 80] (by kernel_rfl), by kernel_rfl⟩
  clear h; rintro _ _ ⟨k, hle, x4, x80, x16_0, x16_1, x16_2, x16_3, h, ⟨fr0, rfl⟩, rfl⟩
  rcases k with _ | k
  · exact (run_zero h).elim
  rw [run_succ, spec_ProgOk.B] at h
  refine zz ?_
  refine br (iP h) ?_ ?_ <;> (clear h; intro c h)
  ·replace h := evR h; cases h
   refine zz ?_
   exact zend
  replace h := evT h
  refine zz ?_
  exact ⟨_, zfuel, _, _, _, _, _, h, leafFr [1, 4] (by kernel_rfl), by kernel_rfl⟩
theorem spec_Compile_ev (l0 : List S93) (r1 r2 : List ByteArray) (r3 r4 : List S29) (r5 : Int) (h : spec_Compile.fv l0 = some (r1, r2, r3, r4, r5)) : CE (G m_) 41 [.val (.row (l0.map e93))] [] [.val (.agg [.row (r1.map VV.str), .row (r2.map VV.str), .row (r3.map e29), .row (r4.map e29)]), .val (.int .i64 r5)] [] := by
  obtain ⟨k, h⟩ := lim_ex h
  refine CE.mk ⟨Tryz.f41, _, rfl, rfl, ⟨by kernel_rfl, Nat.le_of_ble_eq_true rfl, Nat.le_of_ble_eq_true rfl⟩, ?_⟩
  rcases k with _ | k
  · exact (run_zero h).elim
  rw [run_succ, spec_Compile.B] at h
  have h_ := evO h; clear h; obtain ⟨t14, ht, h⟩ := h_
  refine zz ?_
  refine Exists.intro _ (And.intro (spec_Check_ev (h := ht)) ?_)
  refine zz ?_
  refine brN (iP h) ?_ ?_ <;> (clear h; intro c h)
  ·replace h := evR h; cases h
   refine zz ?_
   exact zend
  have h_ := evO h; clear h; obtain ⟨t21, ht, h⟩ := h_
  refine zz ?_
  refine Exists.intro _ (And.intro (spec_Names_ev (h := ht)) ?_)
  replace h := evT h
  refine zz ?_
  refine loopJ [16, 2579, 2834, 3091, 3346] (fun kq fr hp => ∃ (x0 : List S93) (x5 x6 : List ByteArray) (x9 : Int) (y2834 y3346 : List S29) (x2579_0 x2579_1 : List ByteArray) (x3091_0 x3091_1 : List ByteArray) (g2834 g3346 : Nat), run spec_Compile.B kq (.l0 x0 x5 x6 x9 y2834 y3346 x2579_0 x2579_1 x3091_0 x3091_1) = some (r1, r2, r3, r4, r5) ∧ (∃ fr0, fr = puts [(0, .one (.val (.row (x0.map e93)))), (2, .one (.ptr 16 0)), (5, .one (.val (.row (x5.map VV.str)))), (6, .one (.val (.row (x6.map VV.str)))), (7, .one (.ptr 2579 0)), (8, .one (.ptr 3091 0)), (9, .one (.val (.int .i64 x9)))] fr0) ∧ hp = (upd 16 (.box [.nilrow, .nilrow, .nilrow, .nilrow]) (upd 2579 (.box [.val (.row (x2579_0.map VV.str)), .val (.row (x2579_1.map VV.str)), .ref 2834 g2834]) (upd 2834 (.own 29 3 (y2834.map e29) g2834 false) (upd 3091 (.box [.val (.row (x3091_0.map VV.str)), .val (.row (x3091_1.map VV.str)), .ref 3346 g3346]) (upd 3346 (.own 29 3 (y3346.map e29) g3346 false) (fun _ => none))))))) k ⟨_, zfuel, _, _, _, _, _, _, _, _, _, _, 0, 0, h, leafFr [0, 2, 5, 6, 7, 8, 9] (by kernel_rfl), by kernel_rfl⟩ ?_
  clear h; rintro k hle _ _ ⟨x0, x5, x6, x9, y2834, y3346, x2579_0, x2579_1, x3091_0, x3091_1, g2834, g3346, h, ⟨fr0, rfl⟩, rfl⟩
  rcases k with _ | k
  · exact (run_zero h).elim
  rw [run_succ, spec_Compile.B] at h
  refine zz ?_
  refine br (iP h) ?_ ?_ <;> (clear h; intro c h)
  rotate_left
  ·have h_ := evO h; clear h; obtain ⟨t79, ht, h⟩ := h_
   refine zz ?_
   refine Exists.intro _ (Exists.intro _ (And.intro (spec_l14Put_ev (h := ht)) ?_))
   have h_ := evO h; clear h; obtain ⟨t81, ht, h⟩ := h_
   refine zz ?_
   refine Exists.intro _ (Exists.intro _ (And.intro (spec_l14Put_ev (h := ht)) ?_))
   have h_ := evO h; clear h; obtain ⟨t94, ht, h⟩ := h_
   refine zz ?_
   refine Exists.intro _ (And.intro (spec_ProgOk_ev (h := ht)) ?_)
   refine zz ?_
   refine brN (iP h) ?_ ?_ <;> (clear h; intro c h)
   ·replace h := evR h; cases h
    refine zz ?_
    exact zend
   replace h := evR h; cases h
   refine zz ?_
   exact zend
  have h_ := gP h; clear h; obtain ⟨c, h⟩ := h_
  refine zz ?_
  refine br (iP h) ?_ ?_ <;> (clear h; intro c h)
  ·have h_ := evO h; clear h; obtain ⟨t71, ht, h⟩ := h_
   refine zz ?_
   refine Exists.intro _ (Exists.intro _ (And.intro (spec_l14Block_ev (h := ht)) ?_))
   replace h := evT h
   refine zz ?_
   exact ⟨_, zfuel, _, _, _, _, _, _, _, _, _, _, (g2834 + 1), g3346, h, leafFr [0, 2, 5, 6, 7, 8, 9] (by kernel_rfl), by kernel_rfl⟩
  refine zz ?_
  refine br (iP h) ?_ ?_ <;> (clear h; intro c h)
  ·have h_ := evO h; clear h; obtain ⟨t77, ht, h⟩ := h_
   refine zz ?_
   refine Exists.intro _ (Exists.intro _ (And.intro (spec_l14Block_ev (h := ht)) ?_))
   replace h := evT h
   refine zz ?_
   exact ⟨_, zfuel, _, _, _, _, _, _, _, _, _, _, g2834, (g3346 + 1), h, leafFr [0, 2, 5, 6, 7, 8, 9] (by kernel_rfl), by kernel_rfl⟩
  have h_ := evO h; clear h; obtain ⟨t47, ht, h⟩ := h_
  refine zz ?_
  refine Exists.intro _ (Exists.intro _ (And.intro (spec_l14E_ev (h := ht)) ?_))
  have h_ := evO h; clear h; obtain ⟨t49, ht, h⟩ := h_
  refine zz ?_
  refine Exists.intro _ (Exists.intro _ (And.intro (spec_l14Put_ev (h := ht)) ?_))
  have h_ := evO h; clear h; obtain ⟨t53, ht, h⟩ := h_
  refine zz ?_
  refine Exists.intro _ (Exists.intro _ (And.intro (spec_l14Block_ev (h := ht)) ?_))
  have h_ := gP h; clear h; obtain ⟨c, h⟩ := h_
  have h_ := gP h; clear h; obtain ⟨c, h⟩ := h_
  have h_ := evO h; clear h; obtain ⟨y15_12, hy, h⟩ := h_
  refine zz ?_
  refine Exists.intro (y15_12.map e29) (And.intro (by rw [← Option.some.inj hy]; exact zrow) ?_)
  replace h := evT h
  refine zz ?_
  exact ⟨_, zfuel, _, _, _, _, _, _, _, _, _, _, g2834, (g3346 + 1 + 1 + 1), h, leafFr [0, 2, 5, 6, 7, 8, 9] (by kernel_rfl), by kernel_rfl⟩
theorem spec_l13DrawRight_ev (l0_0 : List Int) (s0_1 s0_2 : Int) (r1 : List S29) (r2 r3 : Int) (r4 : List Int) (r5 r6 : Int) (h : spec_l13DrawRight.fv l0_0 s0_1 s0_2 = some (r1, r2, r3, r4, r5, r6)) : CE (G m_) 25 [.ptr 0 0] [.box [.val (.row (l0_0.map (VV.int .u8))), .val (.int .i64 s0_1), .val (.int .i64 s0_2)]] [.ref 16 0, .val (.int .i64 r2), .val (.int .i64 r3)] [.box [.val (.row (r4.map (VV.int .u8))), .val (.int .i64 r5), .val (.int .i64 r6)], .own 29 3 (r1.map e29) 0 false] := by
  refine CE.mk ⟨Tryz.f25, _, rfl, rfl, ⟨by kernel_rfl, Nat.le_of_ble_eq_true rfl, Nat.le_of_ble_eq_true rfl⟩, ?_⟩
  rw [spec_l13DrawRight.fv] at h
  have h_ := oS h; clear h; obtain ⟨t9, ht, h⟩ := h_
  refine zz ?_
  refine Exists.intro _ (Exists.intro _ (And.intro (spec_l8DrawRight_ev (h := ht)) ?_))
  have h_ := oS h; clear h; obtain ⟨t10, ht, h⟩ := h_
  refine zz ?_
  refine Exists.intro _ (And.intro (spec_Compile_ev (h := ht)) ?_)
  refine zz ?_
  refine Exists.intro (List.map e29 ([] : List S29)) (And.intro zrow ?_)
  have h_ := gS h; clear h; obtain ⟨c, h⟩ := h_
  refine zz ?_
  refine Exists.intro (List.map e29 (([] : List S29) ++ t10.2.2.2.1)) (And.intro zrow ?_)
  cases h
  refine zz ?_
  first | refine ⟨trivial, [1040], [(1040, 0 + 1, 0)], ⟨rfl, ⟨trivial, trivial⟩⟩, _, rfl, _, rfl, ?_⟩ | refine ⟨[1040], [(1040, 0 + 1, 0)], ⟨rfl, ⟨trivial, trivial⟩⟩, _, rfl, _, rfl, ?_⟩
  repeat' (first | (refine And.intro ?_ ?_) | rfl)
theorem spec_l1PickInt_ev (l0_0 : List Int) (s0_1 s0_2 : Int) (l1 : List Int) (r1 : Int) (r2 : List Int) (r3 r4 : Int) (h : spec_l1PickInt.f l0_0 s0_1 s0_2 l1 = some (r1, r2, r3, r4)) : CE (G m_) 26 [.ptr 0 0, .val (.row (l1.map (VV.int .i64)))] [.box [.val (.row (l0_0.map (VV.int .u8))), .val (.int .i64 s0_1), .val (.int .i64 s0_2)]] [.val (.int .i64 r1)] [.box [.val (.row (r2.map (VV.int .u8))), .val (.int .i64 r3), .val (.int .i64 r4)]] := by
  refine CE.mk ⟨Tryz.f26, _, rfl, rfl, ⟨by kernel_rfl, Nat.le_of_ble_eq_true rfl, Nat.le_of_ble_eq_true rfl⟩, ?_⟩
  rw [spec_l1PickInt.f] at h
  have h_ := oS h; clear h; obtain ⟨t9, ht, h⟩ := h_
  refine zz ?_
  refine Exists.intro _ (Exists.intro _ (And.intro (spec_l1Below_ev (h := ht)) ?_))
  have h_ := gS h; clear h; obtain ⟨c, h⟩ := h_
  have h_ := gS h; clear h; obtain ⟨c, h⟩ := h_
  cases h
  refine zz ?_
  exact zend
theorem spec_l13Draw_ev (l0_0 : List Int) (s0_1 s0_2 : Int) (r1 : List S29) (r2 r3 : Int) (r4 : List Int) (r5 r6 : Int) (h : spec_l13Draw.fv l0_0 s0_1 s0_2 = some (r1, r2, r3, r4, r5, r6)) : CE (G m_) 11 [.ptr 0 0] [.box [.val (.row (l0_0.map (VV.int .u8))), .val (.int .i64 s0_1), .val (.int .i64 s0_2)]] [.val (.row (r1.map e29)), .val (.int .i64 r2), .val (.int .i64 r3)] [.box [.val (.row (r4.map (VV.int .u8))), .val (.int .i64 r5), .val (.int .i64 r6)]] := by
  refine CE.mk ⟨Tryz.f11, _, rfl, rfl, ⟨by kernel_rfl, Nat.le_of_ble_eq_true rfl, Nat.le_of_ble_eq_true rfl⟩, ?_⟩
  rw [spec_l13Draw.fv] at h
  have h_ := oS h; clear h; obtain ⟨t11, ht, h⟩ := h_
  refine zz ?_
  refine Exists.intro _ (Exists.intro _ (And.intro (spec_l13DrawRight_ev (h := ht)) ?_))
  refine zz ?_
  refine br (iteS h) ?_ ?_ <;> (clear h; intro c h)
  ·cases h
   refine zz ?_
   exact zend
  have h_ := oS h; clear h; obtain ⟨t24, ht, h⟩ := h_
  refine zz ?_
  refine Exists.intro _ (Exists.intro _ (And.intro (spec_l1Below_ev (h := ht)) ?_))
  have h_ := oS h; clear h; obtain ⟨t26, ht, h⟩ := h_
  refine zz ?_
  refine Exists.intro _ (Exists.intro _ (And.intro (spec_l1Below_ev (h := ht)) ?_))
  refine zz ?_
  refine br (iteS h) ?_ ?_ <;> (clear h; intro c h)
  ·have h_ := oS h; clear h; obtain ⟨t32, ht, h⟩ := h_
   refine zz ?_
   refine Exists.intro _ (Exists.intro _ (And.intro (spec_l1Below_ev (h := ht)) ?_))
   have h_ := gS h; clear h; obtain ⟨c, h⟩ := h_
   have h_ := gS h; clear h; obtain ⟨c, h⟩ := h_
   have h_ := oS h; clear h; obtain ⟨y7_7, hy, h⟩ := h_
   refine zz ?_
   refine Exists.intro (y7_7.map e29) (And.intro (by rw [← Option.some.inj hy]; exact zrow) ?_)
   cases h
   refine zz ?_
   exact zend
  refine zz ?_
  refine br (iteS h) ?_ ?_ <;> (clear h; intro c h)
  ·refine zz ?_
   refine Exists.intro (List.map (VV.int .i64) ([(-1), 0, 1, 2, 3, 99, 1500] : List Int)) (And.intro zrow ?_)
   have h_ := oS h; clear h; obtain ⟨t42, ht, h⟩ := h_
   refine zz ?_
   refine Exists.intro _ (Exists.intro _ (And.intro (spec_l1PickInt_ev (h := ht)) ?_))
   have h_ := gS h; clear h; obtain ⟨c, h⟩ := h_
   have h_ := gS h; clear h; obtain ⟨c, h⟩ := h_
   refine zz ?_
   refine Exists.intro (List.map e29 (t11.1.set (t24.1 : Int).toNat (⟨(rd_T29 t11.1 t24.1).f0, t42.1, (rd_T29 t11.1 t24.1).f2⟩ : S29))) (And.intro zrow ?_)
   cases h
   refine zz ?_
   exact zend
  refine zz ?_
  refine br (iteS h) ?_ ?_ <;> (clear h; intro c h)
  ·refine zz ?_
   refine Exists.intro (List.map VV.str ([(⟨#[]⟩ : ByteArray), (⟨#[97, 40]⟩ : ByteArray), (⟨#[98, 43]⟩ : ByteArray), (⟨#[108, 101, 110, 103, 116, 104]⟩ : ByteArray)] : List ByteArray)) (And.intro zrow ?_)
   have h_ := oS h; clear h; obtain ⟨t51, ht, h⟩ := h_
   refine zz ?_
   refine Exists.intro _ (Exists.intro _ (And.intro (spec_l1Pick_ev (h := ht)) ?_))
   have h_ := gS h; clear h; obtain ⟨c, h⟩ := h_
   have h_ := gS h; clear h; obtain ⟨c, h⟩ := h_
   refine zz ?_
   refine Exists.intro (List.map e29 (t11.1.set (t24.1 : Int).toNat (⟨(rd_T29 t11.1 t24.1).f0, (rd_T29 t11.1 t24.1).f1, t51.1⟩ : S29))) (And.intro zrow ?_)
   cases h
   refine zz ?_
   exact zend
  refine zz ?_
  refine br (iteS h) ?_ ?_ <;> (clear h; intro c h)
  ·have h_ := gS h; clear h; obtain ⟨c, h⟩ := h_
   have h_ := gS h; clear h; obtain ⟨c, h⟩ := h_
   refine zz ?_
   refine Exists.intro (List.map e29 (t11.1.take ((wrap64 ((t11.1.length : Int) - 1)) : Int).toNat)) (And.intro zrow ?_)
   cases h
   refine zz ?_
   exact zend
  refine zz ?_
  refine br (iteS h) ?_ ?_ <;> (clear h; intro c h)
  ·have h_ := oS h; clear h; obtain ⟨t64, ht, h⟩ := h_
   refine zz ?_
   refine Exists.intro _ (Exists.intro _ (And.intro (spec_l1Below_ev (h := ht)) ?_))
   cases h
   refine zz ?_
   exact zend
  refine zz ?_
  refine br (iteS h) ?_ ?_ <;> (clear h; intro c h)
  rotate_left
  ·cases h
   refine zz ?_
   exact zend
  have h_ := oS h; clear h; obtain ⟨t69, ht, h⟩ := h_
  refine zz ?_
  refine Exists.intro _ (Exists.intro _ (And.intro (spec_l1Below_ev (h := ht)) ?_))
  cases h
  refine zz ?_
  exact zend
theorem spec_DrawOpsOk_ev (l0 : List Int) (r1 : List S29) (r2 r3 : Int) (h : spec_DrawOpsOk.fv l0 = some (r1, r2, r3)) : CE (G m_) 5 [.val (.row (l0.map (VV.int .u8)))] [] [.val (.row (r1.map e29)), .val (.int .i64 r2), .val (.int .i64 r3)] [] := by
  refine CE.mk ⟨Tryz.f5, _, rfl, rfl, ⟨by kernel_rfl, Nat.le_of_ble_eq_true rfl, Nat.le_of_ble_eq_true rfl⟩, ?_⟩
  rw [spec_DrawOpsOk.fv] at h
  have h_ := oS h; clear h; obtain ⟨t10, ht, h⟩ := h_
  refine zz ?_
  refine Exists.intro _ (Exists.intro _ (And.intro (spec_l1New_ev (h := ht)) ?_))
  have h_ := oS h; clear h; obtain ⟨t11, ht, h⟩ := h_
  refine zz ?_
  refine Exists.intro _ (Exists.intro _ (And.intro (spec_l13Draw_ev (h := ht)) ?_))
  cases h
  refine zz ?_
  exact zend
theorem impl_in_ev (a0 a1 a2 : Int) (r : Bool) (h : impl_in.f a0 a1 a2 = some r) : CE (G m_) 13 [.val (.int .i64 a0), .val (.int .i64 a1), .val (.int .i64 a2)] [] [.val (.bool r)] [] := by
  refine CE.mk ⟨Tryz.f13, _, rfl, rfl, ⟨by kernel_rfl, Nat.le_of_ble_eq_true rfl, Nat.le_of_ble_eq_true rfl⟩, ?_⟩
  rw [impl_in.f] at h
  refine zz ?_
  refine br (iteS h) ?_ ?_ <;> (clear h; intro c h)
  ·refine zl ?_
   refine zl ?_
   refine zl ?_
   cases h
   refine zz ?_
   exact zend
  refine zr ?_
  refine zr ?_
  refine zr ?_
  cases h
  refine zz ?_
  exact zend
theorem impl_opName_ev (a0 : Int) (r1 r2 : ByteArray) (h : impl_opName.fv a0 = some (r1, r2)) : CE (G m_) 20 [.val (.int .i64 a0)] [] [.val (.str r1), .val (.str r2)] [] := by
  obtain ⟨k, h⟩ := lim_ex h
  refine CE.mk ⟨Tryz.f20, _, rfl, rfl, ⟨by kernel_rfl, Nat.le_of_ble_eq_true rfl, Nat.le_of_ble_eq_true rfl⟩, ?_⟩
  rcases k with _ | k
  · exact (run_zero h).elim
  rw [run_succ, impl_opName.B] at h
  have h_ := evO h; clear h; obtain ⟨y1_0, hy, h⟩ := h_
  refine zz ?_
  refine Exists.intro (y1_0.map VV.str) (And.intro (by rw [← Option.some.inj hy]; exact zrow) ?_)
  have h_ := evO h; clear h; obtain ⟨t11, ht, h⟩ := h_
  refine zz ?_
  refine Exists.intro _ (And.intro (impl_in_ev (h := ht)) ?_)
  refine zz ?_
  refine brN (iP h) ?_ ?_ <;> (clear h; intro c h)
  ·replace h := evR h; cases h
   refine zz ?_
   exact zend
  refine zz ?_
  refine br (iP h) ?_ ?_ <;> (clear h; intro c h)
  ·have h_ := gP h; clear h; obtain ⟨c, h⟩ := h_
   have h_ := gP h; clear h; obtain ⟨c, h⟩ := h_
   replace h := evR h; cases h
   refine zz ?_
   exact zend
  refine zz ?_
  refine cutJ (n := 16) [528] (fun fr hp => ∃ kq, kq ≤ k ∧ ∃ (x0 : Int) (x4 : List ByteArray) (x5 : ByteArray) (x13 : Int) (x16 : Bool) (g528 : Nat), run impl_opName.B kq (.j0 x0 x4 x5 x13 x16) = some (r1, r2) ∧ (∃ fr0, fr = puts [(0, .one (.val (.int .i64 x0))), (4, .one (.ref 528 g528)), (5, .one (.val (.str x5))), (13, .one (.val (.int .i64 x13))), (16, .one (.val (.bool x16)))] fr0) ∧ hp = (upd 528 (.own 9 1 (x4.map VV.str) g528 false) (fun _ => none))) ?_ ?_
  ·refine zz ?_
   refine br (iP h) ?_ ?_ <;> (clear h; intro c h)
   ·replace h := evT h
    refine zz ?_
    exact ⟨_, zfuel, _, _, _, _, _, 0, h, leafFr [0, 4, 5, 13, 16] (by kernel_rfl), by kernel_rfl⟩
   refine zz ?_
   refine br (iP h) ?_ ?_ <;> (clear h; intro c h)
   ·replace h := evT h
    refine zz ?_
    exact ⟨_, zfuel, _, _, _, _, _, 0, h, leafFr [0, 4, 5, 13, 16] (by kernel_rfl), by kernel_rfl⟩
   replace h := evT h
   refine zz ?_
   exact ⟨_, zfuel, _, _, _, _, _, 0, h, leafFr [0, 4, 5, 13, 16] (by kernel_rfl), by kernel_rfl⟩
  clear h; rintro _ _ ⟨k, hle, x0, x4, x5, x13, x16, g528, h, ⟨fr0, rfl⟩, rfl⟩
  rcases k with _ | k
  · exact (run_zero h).elim
  rw [run_succ, impl_opName.B] at h
  refine zz ?_
  refine br (iP h) ?_ ?_ <;> (clear h; intro c h)
  ·have h_ := gP h; clear h; obtain ⟨c, h⟩ := h_
   have h_ := gP h; clear h; obtain ⟨c, h⟩ := h_
   replace h := evR h; cases h
   refine zz ?_
   exact zend
  refine zz ?_
  refine br (iP h) ?_ ?_ <;> (clear h; intro c h)
  ·have h_ := gP h; clear h; obtain ⟨c, h⟩ := h_
   have h_ := gP h; clear h; obtain ⟨c, h⟩ := h_
   replace h := evR h; cases h
   refine zz ?_
   exact zend
  refine zz ?_
  refine br (iP h) ?_ ?_ <;> (clear h; intro c h)
  ·refine zl ?_
   have h_ := gP h; clear h; obtain ⟨c, h⟩ := h_
   have h_ := gP h; clear h; obtain ⟨c, h⟩ := h_
   replace h := evR h; cases h
   refine zz ?_
   exact zend
  refine zz ?_
  refine br (iP h) ?_ ?_ <;> (clear h; intro c h)
  ·refine zl ?_
   have h_ := gP h; clear h; obtain ⟨c, h⟩ := h_
   have h_ := gP h; clear h; obtain ⟨c, h⟩ := h_
   replace h := evR h; cases h
   refine zz ?_
   exact zend
  refine zz ?_
  refine br (iP h) ?_ ?_ <;> (clear h; intro c h)
  ·refine zl ?_
   have h_ := gP h; clear h; obtain ⟨c, h⟩ := h_
   have h_ := gP h; clear h; obtain ⟨c, h⟩ := h_
   replace h := evR h; cases h
   refine zz ?_
   exact zend
  refine zz ?_
  refine br (iP h) ?_ ?_ <;> (clear h; intro c h)
  ·refine zl ?_
   have h_ := gP h; clear h; obtain ⟨c, h⟩ := h_
   have h_ := gP h; clear h; obtain ⟨c, h⟩ := h_
   replace h := evR h; cases h
   refine zz ?_
   exact zend
  refine zz ?_
  refine br (iP h) ?_ ?_ <;> (clear h; intro c h)
  ·refine zl ?_
   have h_ := gP h; clear h; obtain ⟨c, h⟩ := h_
   have h_ := gP h; clear h; obtain ⟨c, h⟩ := h_
   replace h := evR h; cases h
   refine zz ?_
   exact zend
  refine zz ?_
  refine br (iP h) ?_ ?_ <;> (clear h; intro c h)
  ·refine zl ?_
   have h_ := gP h; clear h; obtain ⟨c, h⟩ := h_
   have h_ := gP h; clear h; obtain ⟨c, h⟩ := h_
   replace h := evR h; cases h
   refine zz ?_
   exact zend
  refine zz ?_
  refine br (iP h) ?_ ?_ <;> (clear h; intro c h)
  ·refine zl ?_
   have h_ := gP h; clear h; obtain ⟨c, h⟩ := h_
   have h_ := gP h; clear h; obtain ⟨c, h⟩ := h_
   replace h := evR h; cases h
   refine zz ?_
   exact zend
  refine zz ?_
  refine br (iP h) ?_ ?_ <;> (clear h; intro c h)
  ·refine zl ?_
   have h_ := gP h; clear h; obtain ⟨c, h⟩ := h_
   have h_ := gP h; clear h; obtain ⟨c, h⟩ := h_
   replace h := evR h; cases h
   refine zz ?_
   exact zend
  refine zz ?_
  refine br (iP h) ?_ ?_ <;> (clear h; intro c h)
  ·refine zl ?_
   have h_ := gP h; clear h; obtain ⟨c, h⟩ := h_
   have h_ := gP h; clear h; obtain ⟨c, h⟩ := h_
   replace h := evR h; cases h
   refine zz ?_
   exact zend
  refine zz ?_
  refine br (iP h) ?_ ?_ <;> (clear h; intro c h)
  ·have h_ := gP h; clear h; obtain ⟨c, h⟩ := h_
   have h_ := gP h; clear h; obtain ⟨c, h⟩ := h_
   replace h := evR h; cases h
   refine zz ?_
   exact zend
  have h_ := gP h; clear h; obtain ⟨c, h⟩ := h_
  have h_ := gP h; clear h; obtain ⟨c, h⟩ := h_
  replace h := evR h; cases h
  refine zz ?_
  exact zend
theorem impl_DecOk_ev (a0 : Int) (r : Bool) (h : impl_DecOk.f a0 = some r) : CE (G m_) 29 [.val (.int .i64 a0)] [] [.val (.bool r)] [] := by
  refine CE.mk ⟨Tryz.f29, _, rfl, rfl, ⟨by kernel_rfl, Nat.le_of_ble_eq_true rfl, Nat.le_of_ble_eq_true rfl⟩, ?_⟩
  rw [impl_DecOk.f] at h
  have h_ := oS h; clear h; obtain ⟨t4, ht, h⟩ := h_
  refine zz ?_
  refine Exists.intro _ (And.intro (impl_in_ev (h := ht)) ?_)
  cases h
  refine zz ?_
  exact zend
theorem impl_rexReader_next_ev (s0_0 : ByteArray) (s0_1 : Bool) (r1 : Int) (r2 : Bool) (r3 : ByteArray) (r4 : Bool) (h : impl_rexReader_next.f s0_0 s0_1 = some (r1, r2, r3, r4)) : CE (G m_) 116 [.ptr 0 0] [.box [.val (.str s0_0), .val (.bool s0_1)]] [.val (.int .u8 r1), .val (.bool r2)] [.box [.val (.str r3), .val (.bool r4)]] := by
  refine CE.mk ⟨Tryz.f116, _, rfl, rfl, ⟨by kernel_rfl, Nat.le_of_ble_eq_true rfl, Nat.le_of_ble_eq_true rfl⟩, ?_⟩
  rw [impl_rexReader_next.f] at h
  refine zz ?_
  refine brW (iteS h) ?_ ?_ <;> (clear h; intro c h)
  rotate_left
  ·refine zr ?_
   refine zr ?_
   refine zr ?_
   refine zl ?_
   refine zl ?_
   cases h
   refine zz ?_
   exact zend
  refine zl ?_
  refine zl ?_
  refine zl ?_
  refine zr ?_
  refine zz ?_
  refine br (iteS h) ?_ ?_ <;> (clear h; intro c h)
  ·cases h
   refine zz ?_
   exact zend
  have h_ := gS h; clear h; obtain ⟨c, h⟩ := h_
  cases h
  refine zz ?_
  exact zend
end Go.Proofs.YtchhkbkbbglgbaaGreatDoor.TFnOps
