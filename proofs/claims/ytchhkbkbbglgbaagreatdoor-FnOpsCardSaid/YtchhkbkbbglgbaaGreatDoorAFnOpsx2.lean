/- The walks of the functions that FnOps reaches, through the abstract machine. -/
import Derived.Test.YtchhkbkbbglgbaaGreatDoorAFnOpsh
import Derived.Test.YtchhkbkbbglgbaaGreatDoorAFnOpsx0
import Derived.Test.YtchhkbkbbglgbaaGreatDoorAFnOpsx1
import Derived.Test.YtchhkbkbbglgbaaGreatDoorFFnOps
import Derived.Test.YtchhkbkbbglgbaaGreatDoorProg
set_option maxHeartbeats 4000000
set_option maxRecDepth 100000
set_option linter.unusedVariables false
set_option linter.unusedSimpArgs false
namespace Go.Proofs.YtchhkbkbbglgbaaGreatDoor.TFnOps
open Go Go.RowKit Go.Proofs Go.Proofs.YtchhkbkbbglgbaaGreatDoorW.AM Go.Proofs.YtchhkbkbbglgbaaGreatDoor.QFnOps Go.Proofs.YtchhkbkbbglgbaaGreatDoorW.PrintWords Go.Proofs.YtchhkbkbbglgbaaGreatDoorW.Pgs
variable {m_ : Int}
theorem spec_l8E_all : ∀ n, (∀ (k : Nat) (l0_0 : List S126) (s0_1 s0_2 : Int) (s0_3 : Bool) (s0_4 s0_5 : Int) (s0_6 : ByteArray) (l0_7 : List S91) (r1 r2 : Int) (r3 : ByteArray) (r4 : List S91) (r5 : List S126) (r6 r7 : Int) (r8 : Bool) (r9 r10 : Int) (r11 : ByteArray) (r12 : List S91) (h : run spec_l8E.B k (.spec_l8E_f l0_0 s0_1 s0_2 s0_3 s0_4 s0_5 s0_6 l0_7) = some (r1, r2, r3, r4, r5, r6, r7, r8, r9, r10, r11, r12)) (hk : k < n), CE (G m_) 114 [.ptr 0 0] [.box [.val (.row (l0_0.map e126)), .val (.int .i64 s0_1), .val (.int .i64 s0_2), .val (.bool s0_3), .val (.int .i64 s0_4), .val (.int .i64 s0_5), .val (.str s0_6), .val (.row (l0_7.map e91))]] [.val (.agg [.int .i64 r1, .int .i64 r2, .str r3, .row (r4.map e91)])] [.box [.val (.row (r5.map e126)), .val (.int .i64 r6), .val (.int .i64 r7), .val (.bool r8), .val (.int .i64 r9), .val (.int .i64 r10), .val (.str r11), .val (.row (r12.map e91))]]) ∧ (∀ (k : Nat) (l0_0 : List S126) (s0_1 s0_2 : Int) (s0_3 : Bool) (s0_4 s0_5 : Int) (s0_6 : ByteArray) (l0_7 : List S91) (a1 r1 r2 : Int) (r3 : ByteArray) (r4 : List S91) (r5 : List S126) (r6 r7 : Int) (r8 : Bool) (r9 r10 : Int) (r11 : ByteArray) (r12 : List S91) (h : run spec_l8E.B k (.spec_l8Level_f l0_0 s0_1 s0_2 s0_3 s0_4 s0_5 s0_6 l0_7 a1) = some (r1, r2, r3, r4, r5, r6, r7, r8, r9, r10, r11, r12)) (hk : k < n), CE (G m_) 138 [.ptr 0 0, .val (.int .i64 a1)] [.box [.val (.row (l0_0.map e126)), .val (.int .i64 s0_1), .val (.int .i64 s0_2), .val (.bool s0_3), .val (.int .i64 s0_4), .val (.int .i64 s0_5), .val (.str s0_6), .val (.row (l0_7.map e91))]] [.val (.agg [.int .i64 r1, .int .i64 r2, .str r3, .row (r4.map e91)])] [.box [.val (.row (r5.map e126)), .val (.int .i64 r6), .val (.int .i64 r7), .val (.bool r8), .val (.int .i64 r9), .val (.int .i64 r10), .val (.str r11), .val (.row (r12.map e91))]]) ∧ (∀ (k : Nat) (l0_0 : List S126) (s0_1 s0_2 : Int) (s0_3 : Bool) (s0_4 s0_5 : Int) (s0_6 : ByteArray) (l0_7 : List S91) (r1 r2 : Int) (r3 : ByteArray) (r4 : List S91) (r5 : List S126) (r6 r7 : Int) (r8 : Bool) (r9 r10 : Int) (r11 : ByteArray) (r12 : List S91) (h : run spec_l8E.B k (.spec_l8Compare_f l0_0 s0_1 s0_2 s0_3 s0_4 s0_5 s0_6 l0_7) = some (r1, r2, r3, r4, r5, r6, r7, r8, r9, r10, r11, r12)) (hk : k < n), CE (G m_) 151 [.ptr 0 0] [.box [.val (.row (l0_0.map e126)), .val (.int .i64 s0_1), .val (.int .i64 s0_2), .val (.bool s0_3), .val (.int .i64 s0_4), .val (.int .i64 s0_5), .val (.str s0_6), .val (.row (l0_7.map e91))]] [.val (.agg [.int .i64 r1, .int .i64 r2, .str r3, .row (r4.map e91)])] [.box [.val (.row (r5.map e126)), .val (.int .i64 r6), .val (.int .i64 r7), .val (.bool r8), .val (.int .i64 r9), .val (.int .i64 r10), .val (.str r11), .val (.row (r12.map e91))]]) ∧ (∀ (k : Nat) (l0_0 : List S126) (s0_1 s0_2 : Int) (s0_3 : Bool) (s0_4 s0_5 : Int) (s0_6 : ByteArray) (l0_7 : List S91) (r1 r2 : Int) (r3 : ByteArray) (r4 : List S91) (r5 : List S126) (r6 r7 : Int) (r8 : Bool) (r9 r10 : Int) (r11 : ByteArray) (r12 : List S91) (h : run spec_l8E.B k (.spec_l8Row_f l0_0 s0_1 s0_2 s0_3 s0_4 s0_5 s0_6 l0_7) = some (r1, r2, r3, r4, r5, r6, r7, r8, r9, r10, r11, r12)) (hk : k < n), CE (G m_) 152 [.ptr 0 0] [.box [.val (.row (l0_0.map e126)), .val (.int .i64 s0_1), .val (.int .i64 s0_2), .val (.bool s0_3), .val (.int .i64 s0_4), .val (.int .i64 s0_5), .val (.str s0_6), .val (.row (l0_7.map e91))]] [.val (.agg [.int .i64 r1, .int .i64 r2, .str r3, .row (r4.map e91)])] [.box [.val (.row (r5.map e126)), .val (.int .i64 r6), .val (.int .i64 r7), .val (.bool r8), .val (.int .i64 r9), .val (.int .i64 r10), .val (.str r11), .val (.row (r12.map e91))]]) ∧ (∀ (k : Nat) (l0_0 : List S126) (s0_1 s0_2 : Int) (s0_3 : Bool) (s0_4 s0_5 : Int) (s0_6 : ByteArray) (l0_7 : List S91) (r1 r2 : Int) (r3 : ByteArray) (r4 : List S91) (r5 : List S126) (r6 r7 : Int) (r8 : Bool) (r9 r10 : Int) (r11 : ByteArray) (r12 : List S91) (h : run spec_l8E.B k (.spec_l8Unit_f l0_0 s0_1 s0_2 s0_3 s0_4 s0_5 s0_6 l0_7) = some (r1, r2, r3, r4, r5, r6, r7, r8, r9, r10, r11, r12)) (hk : k < n), CE (G m_) 153 [.ptr 0 0] [.box [.val (.row (l0_0.map e126)), .val (.int .i64 s0_1), .val (.int .i64 s0_2), .val (.bool s0_3), .val (.int .i64 s0_4), .val (.int .i64 s0_5), .val (.str s0_6), .val (.row (l0_7.map e91))]] [.val (.agg [.int .i64 r1, .int .i64 r2, .str r3, .row (r4.map e91)])] [.box [.val (.row (r5.map e126)), .val (.int .i64 r6), .val (.int .i64 r7), .val (.bool r8), .val (.int .i64 r9), .val (.int .i64 r10), .val (.str r11), .val (.row (r12.map e91))]]) ∧ (∀ (k : Nat) (l0_0 : List S126) (s0_1 s0_2 : Int) (s0_3 : Bool) (s0_4 s0_5 : Int) (s0_6 : ByteArray) (l0_7 : List S91) (r1 r2 : Int) (r3 : ByteArray) (r4 : List S91) (r5 : List S126) (r6 r7 : Int) (r8 : Bool) (r9 r10 : Int) (r11 : ByteArray) (r12 : List S91) (h : run spec_l8E.B k (.spec_l8Atom_f l0_0 s0_1 s0_2 s0_3 s0_4 s0_5 s0_6 l0_7) = some (r1, r2, r3, r4, r5, r6, r7, r8, r9, r10, r11, r12)) (hk : k < n), CE (G m_) 158 [.ptr 0 0] [.box [.val (.row (l0_0.map e126)), .val (.int .i64 s0_1), .val (.int .i64 s0_2), .val (.bool s0_3), .val (.int .i64 s0_4), .val (.int .i64 s0_5), .val (.str s0_6), .val (.row (l0_7.map e91))]] [.val (.agg [.int .i64 r1, .int .i64 r2, .str r3, .row (r4.map e91)])] [.box [.val (.row (r5.map e126)), .val (.int .i64 r6), .val (.int .i64 r7), .val (.bool r8), .val (.int .i64 r9), .val (.int .i64 r10), .val (.str r11), .val (.row (r12.map e91))]]) ∧ (∀ (k : Nat) (l0_0 : List S126) (s0_1 s0_2 : Int) (s0_3 : Bool) (s0_4 s0_5 : Int) (s0_6 : ByteArray) (l0_7 : List S91) (r1 r2 : Int) (r3 : ByteArray) (r4 : List S91) (r5 : List S126) (r6 r7 : Int) (r8 : Bool) (r9 r10 : Int) (r11 : ByteArray) (r12 : List S91) (h : run spec_l8E.B k (.spec_l8Named_f l0_0 s0_1 s0_2 s0_3 s0_4 s0_5 s0_6 l0_7) = some (r1, r2, r3, r4, r5, r6, r7, r8, r9, r10, r11, r12)) (hk : k < n), CE (G m_) 137 [.ptr 0 0] [.box [.val (.row (l0_0.map e126)), .val (.int .i64 s0_1), .val (.int .i64 s0_2), .val (.bool s0_3), .val (.int .i64 s0_4), .val (.int .i64 s0_5), .val (.str s0_6), .val (.row (l0_7.map e91))]] [.val (.agg [.int .i64 r1, .int .i64 r2, .str r3, .row (r4.map e91)])] [.box [.val (.row (r5.map e126)), .val (.int .i64 r6), .val (.int .i64 r7), .val (.bool r8), .val (.int .i64 r9), .val (.int .i64 r10), .val (.str r11), .val (.row (r12.map e91))]]) ∧ (∀ (k : Nat) (l0_0 : List S126) (s0_1 s0_2 : Int) (s0_3 : Bool) (s0_4 s0_5 : Int) (s0_6 : ByteArray) (l0_7 : List S91) (a1 : ByteArray) (r1 : List S91) (r2 : List S126) (r3 r4 : Int) (r5 : Bool) (r6 r7 : Int) (r8 : ByteArray) (r9 : List S91) (h : run spec_l8E.B k (.spec_l8Es_f l0_0 s0_1 s0_2 s0_3 s0_4 s0_5 s0_6 l0_7 a1) = some (r1, r2, r3, r4, r5, r6, r7, r8, r9)) (hk : k < n), CE (G m_) 149 [.ptr 0 0, .val (.str a1)] [.box [.val (.row (l0_0.map e126)), .val (.int .i64 s0_1), .val (.int .i64 s0_2), .val (.bool s0_3), .val (.int .i64 s0_4), .val (.int .i64 s0_5), .val (.str s0_6), .val (.row (l0_7.map e91))]] [.val (.row (r1.map e91))] [.box [.val (.row (r2.map e126)), .val (.int .i64 r3), .val (.int .i64 r4), .val (.bool r5), .val (.int .i64 r6), .val (.int .i64 r7), .val (.str r8), .val (.row (r9.map e91))]]) ∧ (∀ (k : Nat) (l0_0 : List S126) (s0_1 s0_2 : Int) (s0_3 : Bool) (s0_4 s0_5 : Int) (s0_6 : ByteArray) (l0_7 : List S91) (a1 r1 r2 : Int) (r3 : ByteArray) (r4 : List S91) (r5 : List S126) (r6 r7 : Int) (r8 : Bool) (r9 r10 : Int) (r11 : ByteArray) (r12 : List S91) (h : run spec_l8E.B k (.spec_l8Left_f l0_0 s0_1 s0_2 s0_3 s0_4 s0_5 s0_6 l0_7 a1) = some (r1, r2, r3, r4, r5, r6, r7, r8, r9, r10, r11, r12)) (hk : k < n), CE (G m_) 154 [.ptr 0 0, .val (.int .i64 a1)] [.box [.val (.row (l0_0.map e126)), .val (.int .i64 s0_1), .val (.int .i64 s0_2), .val (.bool s0_3), .val (.int .i64 s0_4), .val (.int .i64 s0_5), .val (.str s0_6), .val (.row (l0_7.map e91))]] [.val (.agg [.int .i64 r1, .int .i64 r2, .str r3, .row (r4.map e91)])] [.box [.val (.row (r5.map e126)), .val (.int .i64 r6), .val (.int .i64 r7), .val (.bool r8), .val (.int .i64 r9), .val (.int .i64 r10), .val (.str r11), .val (.row (r12.map e91))]]) := by
  intro n
  induction n with
  | zero => exact ⟨by intros; omega, by intros; omega, by intros; omega, by intros; omega, by intros; omega, by intros; omega, by intros; omega, by intros; omega, by intros; omega⟩
  | succ n ih =>
    refine ⟨?_, ?_, ?_, ?_, ?_, ?_, ?_, ?_, ?_⟩
    · intro k l0_0 s0_1 s0_2 s0_3 s0_4 s0_5 s0_6 l0_7 r1 r2 r3 r4 r5 r6 r7 r8 r9 r10 r11 r12 h hk
      refine CE.mk ⟨Tryz.f114, _, rfl, rfl, ⟨by kernel_rfl, Nat.le_of_ble_eq_true rfl, Nat.le_of_ble_eq_true rfl⟩, ?_⟩
      rcases k with _ | k
      · exact (run_zero h).elim
      rw [run_succ, spec_l8E.B] at h
      have h_ := evO h; clear h; obtain ⟨t8, ht, h⟩ := h_
      refine zz ?_
      refine Exists.intro _ (Exists.intro _ (And.intro (spec_l8Now_ev (h := ht)) ?_))
      refine zz ?_
      refine cutJ (n := 24) [0, 16] (fun fr hp => ∃ kq, kq ≤ k ∧ ∃ (x1000 : List S126) (x1001 x1002 : Int) (x1003 : Bool) (x1004 x1005 : Int) (x1006 : ByteArray) (x1007 : List S91), run spec_l8E.B kq (.spec_l8E_j0 x1000 x1001 x1002 x1003 x1004 x1005 x1006 x1007) = some (r1, r2, r3, r4, r5, r6, r7, r8, r9, r10, r11, r12) ∧ (∃ fr0, fr = puts [(0, .one (.ptr 0 0)), (2, .one (.ptr 16 0))] fr0) ∧ hp = (upd 0 (.box [.val (.row (x1000.map e126)), .val (.int .i64 x1001), .val (.int .i64 x1002), .val (.bool x1003), .val (.int .i64 x1004), .val (.int .i64 x1005), .val (.str x1006), .val (.row (x1007.map e91))]) (upd 16 (.box [.val (.int .i64 0), .val (.int .i64 0), .val (.str (⟨#[]⟩ : ByteArray)), .nilrow]) (fun _ => none)))) ?_ ?_
      ·refine zz ?_
       refine cutJ (n := 200002) [0, 16] (fun fr hp => ∃ kq, kq ≤ k ∧ ∃ (x24 : Bool) (x1000 : List S126) (x1001 x1002 : Int) (x1003 : Bool) (x1004 x1005 : Int) (x1006 : ByteArray) (x1007 : List S91), run spec_l8E.B kq (.spec_l8E_j1 x24 x1000 x1001 x1002 x1003 x1004 x1005 x1006 x1007) = some (r1, r2, r3, r4, r5, r6, r7, r8, r9, r10, r11, r12) ∧ (∃ fr0, fr = puts [(0, .one (.ptr 0 0)), (2, .one (.ptr 16 0)), (24, .one (.val (.bool x24)))] fr0) ∧ hp = (upd 0 (.box [.val (.row (x1000.map e126)), .val (.int .i64 x1001), .val (.int .i64 x1002), .val (.bool x1003), .val (.int .i64 x1004), .val (.int .i64 x1005), .val (.str x1006), .val (.row (x1007.map e91))]) (upd 16 (.box [.val (.int .i64 0), .val (.int .i64 0), .val (.str (⟨#[]⟩ : ByteArray)), .nilrow]) (fun _ => none)))) ?_ ?_
       ·refine zz ?_
        refine br (iP h) ?_ ?_ <;> (clear h; intro c h)
        rotate_left
        ·refine zr ?_
         refine zr ?_
         refine zr ?_
         refine zr ?_
         refine zr ?_
         refine zr ?_
         refine zr ?_
         refine zr ?_
         replace h := evT h
         refine zz ?_
         exact ⟨_, zfuel, _, _, _, _, _, _, _, _, _, h, leafFr [0, 2, 24] (by kernel_rfl), by kernel_rfl⟩
        refine zl ?_
        refine zl ?_
        refine zl ?_
        refine zz ?_
        refine br (iP h) ?_ ?_ <;> (clear h; intro c h)
        rotate_left
        ·refine zr ?_
         refine zr ?_
         refine zr ?_
         refine zr ?_
         replace h := evT h
         refine zz ?_
         exact ⟨_, zfuel, _, _, _, _, _, _, _, _, _, h, leafFr [0, 2, 24] (by kernel_rfl), by kernel_rfl⟩
        refine zl ?_
        refine zl ?_
        have h_ := evO h; clear h; obtain ⟨t22, ht, h⟩ := h_
        refine zz ?_
        refine Exists.intro _ (And.intro (spec_Keyword_ev (h := ht)) ?_)
        refine zl ?_
        refine zl ?_
        replace h := evT h
        refine zz ?_
        exact ⟨_, zfuel, _, _, _, _, _, _, _, _, _, h, leafFr [0, 2, 24] (by kernel_rfl), by kernel_rfl⟩
       clear h; rintro _ _ ⟨k, hle, x24, x1000, x1001, x1002, x1003, x1004, x1005, x1006, x1007, h, ⟨fr0, rfl⟩, rfl⟩
       rcases k with _ | k
       · exact (run_zero h).elim
       rw [run_succ, spec_l8E.B] at h
       refine zz ?_
       refine br (iP h) ?_ ?_ <;> (clear h; intro c h)
       rotate_left
       ·replace h := evT h
        refine zz ?_
        exact ⟨_, zfuel, _, _, _, _, _, _, _, _, h, leafFr [0, 2] (by kernel_rfl), by kernel_rfl⟩
       have h_ := evA h; clear h; obtain ⟨t26, ht, h⟩ := h_
       refine zz ?_
       refine Exists.intro _ (Exists.intro _ (And.intro (ih.2.2.2.2.2.2.1 _ (h := ht) (hk := zfuel)) ?_))
       refine zz ?_
       refine cutJ (n := 100000) [0, 16, 1554] (fun fr hp => ∃ kq, kq ≤ k ∧ ∃ (x5 : Int) (x1000 : List S126) (x1001 x1002 : Int) (x1003 : Bool) (x1004 x1005 : Int) (x1006 : ByteArray) (x1007 : List S91) (x1554_0 x1554_1 : Int) (x1554_2 : ByteArray) (x1554_3 : List S91), run spec_l8E.B kq (.spec_l8E_j2 x5 x1000 x1001 x1002 x1003 x1004 x1005 x1006 x1007 x1554_0 x1554_1 x1554_2 x1554_3) = some (r1, r2, r3, r4, r5, r6, r7, r8, r9, r10, r11, r12) ∧ (∃ fr0, fr = puts [(0, .one (.ptr 0 0)), (2, .one (.ptr 16 0)), (4, .one (.ptr 1554 0)), (5, .one (.val (.int .i64 x5)))] fr0) ∧ hp = (upd 0 (.box [.val (.row (x1000.map e126)), .val (.int .i64 x1001), .val (.int .i64 x1002), .val (.bool x1003), .val (.int .i64 x1004), .val (.int .i64 x1005), .val (.str x1006), .val (.row (x1007.map e91))]) (upd 16 (.box [.val (.int .i64 0), .val (.int .i64 0), .val (.str (⟨#[]⟩ : ByteArray)), .nilrow]) (upd 1554 (.box [.val (.int .i64 x1554_0), .val (.int .i64 x1554_1), .val (.str x1554_2), .val (.row (x1554_3.map e91))]) (fun _ => none))))) ?_ ?_
       ·have h_ := evO h; clear h; obtain ⟨t29, ht, h⟩ := h_
        refine zz ?_
        refine Exists.intro _ (Exists.intro _ (And.intro (spec_l8Sign_ev (h := ht)) ?_))
        refine zz ?_
        refine br (iP h) ?_ ?_ <;> (clear h; intro c h)
        ·replace h := evT h
         refine zz ?_
         exact ⟨_, zfuel, _, _, _, _, _, _, _, _, _, _, _, _, _, h, leafFr [0, 2, 4, 5] (by kernel_rfl), by kernel_rfl⟩
        have h_ := evO h; clear h; obtain ⟨t32, ht, h⟩ := h_
        refine zz ?_
        refine Exists.intro _ (Exists.intro _ (And.intro (spec_l8Sign_ev (h := ht)) ?_))
        refine zz ?_
        refine br (iP h) ?_ ?_ <;> (clear h; intro c h)
        ·replace h := evT h
         refine zz ?_
         exact ⟨_, zfuel, _, _, _, _, _, _, _, _, _, _, _, _, _, h, leafFr [0, 2, 4, 5] (by kernel_rfl), by kernel_rfl⟩
        replace h := evT h
        refine zz ?_
        exact ⟨_, zfuel, _, _, _, _, _, _, _, _, _, _, _, _, _, h, leafFr [0, 2, 4, 5] (by kernel_rfl), by kernel_rfl⟩
       clear h; rintro _ _ ⟨k, hle, x5, x1000, x1001, x1002, x1003, x1004, x1005, x1006, x1007, x1554_0, x1554_1, x1554_2, x1554_3, h, ⟨fr0, rfl⟩, rfl⟩
       rcases k with _ | k
       · exact (run_zero h).elim
       rw [run_succ, spec_l8E.B] at h
       refine zz ?_
       refine br (iP h) ?_ ?_ <;> (clear h; intro c h)
       rotate_left
       ·replace h := evT h
        refine zz ?_
        exact ⟨_, zfuel, _, _, _, _, _, _, _, _, h, leafFr [0, 2] (by kernel_rfl), by kernel_rfl⟩
       have h_ := evO h; clear h; obtain ⟨t36, ht, h⟩ := h_
       refine zz ?_
       refine Exists.intro _ (Exists.intro _ (And.intro (spec_l8Next_ev (h := ht)) ?_))
       have h_ := evA h; clear h; obtain ⟨t38, ht, h⟩ := h_
       refine zz ?_
       refine Exists.intro _ (Exists.intro _ (And.intro (ih.1 _ (h := ht) (hk := zfuel)) ?_))
       refine zz ?_
       refine Exists.intro (List.map e91 ([(⟨x1554_0, x1554_1, x1554_2, x1554_3⟩ : S91), (⟨t38.1, t38.2.1, t38.2.2.1, t38.2.2.2.1⟩ : S91)] : List S91)) (And.intro zrow ?_)
       have h_ := evO h; clear h; obtain ⟨t43, ht, h⟩ := h_
       refine zz ?_
       refine Exists.intro _ (Exists.intro _ (And.intro (spec_l8Kids_ev (h := ht)) ?_))
       replace h := evR h; cases h
       refine zz ?_
       exact zend
      clear h; rintro _ _ ⟨k, hle, x1000, x1001, x1002, x1003, x1004, x1005, x1006, x1007, h, ⟨fr0, rfl⟩, rfl⟩
      rcases k with _ | k
      · exact (run_zero h).elim
      rw [run_succ, spec_l8E.B] at h
      have h_ := evA h; clear h; obtain ⟨t52, ht, h⟩ := h_
      refine zz ?_
      refine Exists.intro _ (Exists.intro _ (And.intro (ih.2.1 _ (h := ht) (hk := zfuel)) ?_))
      replace h := evR h; cases h
      refine zz ?_
      exact zend
    · intro k l0_0 s0_1 s0_2 s0_3 s0_4 s0_5 s0_6 l0_7 a1 r1 r2 r3 r4 r5 r6 r7 r8 r9 r10 r11 r12 h hk
      refine CE.mk ⟨Tryz.f138, _, rfl, rfl, ⟨by kernel_rfl, Nat.le_of_ble_eq_true rfl, Nat.le_of_ble_eq_true rfl⟩, ?_⟩
      rcases k with _ | k
      · exact (run_zero h).elim
      rw [run_succ, spec_l8E.B] at h
      refine zz ?_
      refine br (iP h) ?_ ?_ <;> (clear h; intro c h)
      ·have h_ := evA h; clear h; obtain ⟨t9, ht, h⟩ := h_
       refine zz ?_
       refine Exists.intro _ (Exists.intro _ (And.intro (ih.2.2.1 _ (h := ht) (hk := zfuel)) ?_))
       replace h := evR h; cases h
       refine zz ?_
       exact zend
      refine zz ?_
      refine br (iP h) ?_ ?_ <;> (clear h; intro c h)
      ·have h_ := evA h; clear h; obtain ⟨t13, ht, h⟩ := h_
       refine zz ?_
       refine Exists.intro _ (Exists.intro _ (And.intro (ih.2.2.2.1 _ (h := ht) (hk := zfuel)) ?_))
       replace h := evR h; cases h
       refine zz ?_
       exact zend
      refine zz ?_
      refine br (iP h) ?_ ?_ <;> (clear h; intro c h)
      ·have h_ := evA h; clear h; obtain ⟨t17, ht, h⟩ := h_
       refine zz ?_
       refine Exists.intro _ (Exists.intro _ (And.intro (ih.2.2.2.2.1 _ (h := ht) (hk := zfuel)) ?_))
       replace h := evR h; cases h
       refine zz ?_
       exact zend
      have h_ := evA h; clear h; obtain ⟨t20, ht, h⟩ := h_
      refine zz ?_
      refine Exists.intro _ (Exists.intro _ (And.intro (ih.2.2.2.2.2.2.2.2 _ (h := ht) (hk := zfuel)) ?_))
      replace h := evR h; cases h
      refine zz ?_
      exact zend
    · intro k l0_0 s0_1 s0_2 s0_3 s0_4 s0_5 s0_6 l0_7 r1 r2 r3 r4 r5 r6 r7 r8 r9 r10 r11 r12 h hk
      refine CE.mk ⟨Tryz.f151, _, rfl, rfl, ⟨by kernel_rfl, Nat.le_of_ble_eq_true rfl, Nat.le_of_ble_eq_true rfl⟩, ?_⟩
      rcases k with _ | k
      · exact (run_zero h).elim
      rw [run_succ, spec_l8E.B] at h
      refine zz ?_
      refine Exists.intro (List.map VV.str ([(⟨#[60]⟩ : ByteArray), (⟨#[60, 61]⟩ : ByteArray), (⟨#[62]⟩ : ByteArray), (⟨#[62, 61]⟩ : ByteArray), (⟨#[61, 61]⟩ : ByteArray), (⟨#[33, 61]⟩ : ByteArray)] : List ByteArray)) (And.intro zrow ?_)
      have h_ := evA h; clear h; obtain ⟨t9, ht, h⟩ := h_
      refine zz ?_
      refine Exists.intro _ (Exists.intro _ (And.intro (ih.2.1 _ (h := ht) (hk := zfuel)) ?_))
      replace h := evT h
      refine zz ?_
      refine loopJ [0, 16, 528, 1042] (fun kq fr hp => ∃ (x3 : List ByteArray) (x5 : Int) (x1000 : List S126) (x1001 x1002 : Int) (x1003 : Bool) (x1004 x1005 : Int) (x1006 : ByteArray) (x1007 : List S91) (x1042_0 x1042_1 : Int) (x1042_2 : ByteArray) (x1042_3 : List S91) (g528 : Nat), run spec_l8E.B kq (.spec_l8Compare_l0 x3 x5 x1000 x1001 x1002 x1003 x1004 x1005 x1006 x1007 x1042_0 x1042_1 x1042_2 x1042_3) = some (r1, r2, r3, r4, r5, r6, r7, r8, r9, r10, r11, r12) ∧ (∃ fr0, fr = puts [(0, .one (.ptr 0 0)), (2, .one (.ptr 16 0)), (3, .one (.ref 528 g528)), (4, .one (.ptr 1042 0)), (5, .one (.val (.int .i64 x5)))] fr0) ∧ hp = (upd 0 (.box [.val (.row (x1000.map e126)), .val (.int .i64 x1001), .val (.int .i64 x1002), .val (.bool x1003), .val (.int .i64 x1004), .val (.int .i64 x1005), .val (.str x1006), .val (.row (x1007.map e91))]) (upd 16 (.box [.val (.int .i64 0), .val (.int .i64 0), .val (.str (⟨#[]⟩ : ByteArray)), .nilrow]) (upd 528 (.own 9 1 (x3.map VV.str) g528 false) (upd 1042 (.box [.val (.int .i64 x1042_0), .val (.int .i64 x1042_1), .val (.str x1042_2), .val (.row (x1042_3.map e91))]) (fun _ => none)))))) k ⟨_, zfuel, _, _, _, _, _, _, _, _, _, _, _, _, _, _, 0, h, leafFr [0, 2, 3, 4, 5] (by kernel_rfl), by kernel_rfl⟩ ?_
      clear h; rintro k hle _ _ ⟨x3, x5, x1000, x1001, x1002, x1003, x1004, x1005, x1006, x1007, x1042_0, x1042_1, x1042_2, x1042_3, g528, h, ⟨fr0, rfl⟩, rfl⟩
      rcases k with _ | k
      · exact (run_zero h).elim
      rw [run_succ, spec_l8E.B] at h
      refine zz ?_
      refine br (iP h) ?_ ?_ <;> (clear h; intro c h)
      rotate_left
      ·replace h := evR h; cases h
       refine zz ?_
       exact zend
      have h_ := gP h; clear h; obtain ⟨c, h⟩ := h_
      have h_ := evO h; clear h; obtain ⟨t21, ht, h⟩ := h_
      refine zz ?_
      refine Exists.intro _ (Exists.intro _ (And.intro (spec_l8Sign_ev (h := ht)) ?_))
      refine zz ?_
      refine br (iP h) ?_ ?_ <;> (clear h; intro c h)
      rotate_left
      ·replace h := evT h
       refine zz ?_
       exact ⟨_, zfuel, _, _, _, _, _, _, _, _, _, _, _, _, _, _, g528, h, leafFr [0, 2, 3, 4, 5] (by kernel_rfl), by kernel_rfl⟩
      have h_ := evO h; clear h; obtain ⟨t23, ht, h⟩ := h_
      refine zz ?_
      refine Exists.intro _ (Exists.intro _ (And.intro (spec_l8Next_ev (h := ht)) ?_))
      have h_ := evA h; clear h; obtain ⟨t25, ht, h⟩ := h_
      refine zz ?_
      refine Exists.intro _ (Exists.intro _ (And.intro (ih.2.1 _ (h := ht) (hk := zfuel)) ?_))
      refine zz ?_
      refine Exists.intro (List.map e91 ([(⟨x1042_0, x1042_1, x1042_2, x1042_3⟩ : S91), (⟨t25.1, t25.2.1, t25.2.2.1, t25.2.2.2.1⟩ : S91)] : List S91)) (And.intro zrow ?_)
      have h_ := evO h; clear h; obtain ⟨t31, ht, h⟩ := h_
      refine zz ?_
      refine Exists.intro _ (Exists.intro _ (And.intro (spec_l8Kids_ev (h := ht)) ?_))
      replace h := evR h; cases h
      refine zz ?_
      exact zend
    · intro k l0_0 s0_1 s0_2 s0_3 s0_4 s0_5 s0_6 l0_7 r1 r2 r3 r4 r5 r6 r7 r8 r9 r10 r11 r12 h hk
      refine CE.mk ⟨Tryz.f152, _, rfl, rfl, ⟨by kernel_rfl, Nat.le_of_ble_eq_true rfl, Nat.le_of_ble_eq_true rfl⟩, ?_⟩
      rcases k with _ | k
      · exact (run_zero h).elim
      rw [run_succ, spec_l8E.B] at h
      have h_ := evA h; clear h; obtain ⟨t6, ht, h⟩ := h_
      refine zz ?_
      refine Exists.intro _ (Exists.intro _ (And.intro (ih.2.1 _ (h := ht) (hk := zfuel)) ?_))
      replace h := evT h
      refine zz ?_
      refine loopJ [0, 16, 530] (fun kq fr hp => ∃ (x1000 : List S126) (x1001 x1002 : Int) (x1003 : Bool) (x1004 x1005 : Int) (x1006 : ByteArray) (x1007 : List S91) (x530_0 x530_1 : Int) (x530_2 : ByteArray) (x530_3 : List S91), run spec_l8E.B kq (.spec_l8Row_l0 x1000 x1001 x1002 x1003 x1004 x1005 x1006 x1007 x530_0 x530_1 x530_2 x530_3) = some (r1, r2, r3, r4, r5, r6, r7, r8, r9, r10, r11, r12) ∧ (∃ fr0, fr = puts [(0, .one (.ptr 0 0)), (2, .one (.ptr 16 0)), (3, .one (.ptr 530 0))] fr0) ∧ hp = (upd 0 (.box [.val (.row (x1000.map e126)), .val (.int .i64 x1001), .val (.int .i64 x1002), .val (.bool x1003), .val (.int .i64 x1004), .val (.int .i64 x1005), .val (.str x1006), .val (.row (x1007.map e91))]) (upd 16 (.box [.val (.int .i64 0), .val (.int .i64 0), .val (.str (⟨#[]⟩ : ByteArray)), .nilrow]) (upd 530 (.box [.val (.int .i64 x530_0), .val (.int .i64 x530_1), .val (.str x530_2), .val (.row (x530_3.map e91))]) (fun _ => none))))) k ⟨_, zfuel, _, _, _, _, _, _, _, _, _, _, _, _, h, leafFr [0, 2, 3] (by kernel_rfl), by kernel_rfl⟩ ?_
      clear h; rintro k hle _ _ ⟨x1000, x1001, x1002, x1003, x1004, x1005, x1006, x1007, x530_0, x530_1, x530_2, x530_3, h, ⟨fr0, rfl⟩, rfl⟩
      rcases k with _ | k
      · exact (run_zero h).elim
      rw [run_succ, spec_l8E.B] at h
      have h_ := evO h; clear h; obtain ⟨t8, ht, h⟩ := h_
      refine zz ?_
      refine Exists.intro _ (Exists.intro _ (And.intro (spec_l8Begins_ev (h := ht)) ?_))
      refine zz ?_
      refine br (iP h) ?_ ?_ <;> (clear h; intro c h)
      rotate_left
      ·replace h := evR h; cases h
       refine zz ?_
       exact zend
      have h_ := evA h; clear h; obtain ⟨t10, ht, h⟩ := h_
      refine zz ?_
      refine Exists.intro _ (Exists.intro _ (And.intro (ih.2.1 _ (h := ht) (hk := zfuel)) ?_))
      refine zz ?_
      refine Exists.intro (List.map e91 ([(⟨x530_0, x530_1, x530_2, x530_3⟩ : S91), (⟨t10.1, t10.2.1, t10.2.2.1, t10.2.2.2.1⟩ : S91)] : List S91)) (And.intro zrow ?_)
      have h_ := evO h; clear h; obtain ⟨t14, ht, h⟩ := h_
      refine zz ?_
      refine Exists.intro _ (Exists.intro _ (And.intro (spec_l8Kids_ev (h := ht)) ?_))
      replace h := evT h
      refine zz ?_
      exact ⟨_, zfuel, _, _, _, _, _, _, _, _, _, _, _, _, h, leafFr [0, 2, 3] (by kernel_rfl), by kernel_rfl⟩
    · intro k l0_0 s0_1 s0_2 s0_3 s0_4 s0_5 s0_6 l0_7 r1 r2 r3 r4 r5 r6 r7 r8 r9 r10 r11 r12 h hk
      refine CE.mk ⟨Tryz.f153, _, rfl, rfl, ⟨by kernel_rfl, Nat.le_of_ble_eq_true rfl, Nat.le_of_ble_eq_true rfl⟩, ?_⟩
      rcases k with _ | k
      · exact (run_zero h).elim
      rw [run_succ, spec_l8E.B] at h
      refine zz ?_
      refine br (iP h) ?_ ?_ <;> (clear h; intro c h)
      ·have h_ := evA h; clear h; obtain ⟨t9, ht, h⟩ := h_
       refine zz ?_
       refine Exists.intro _ (Exists.intro _ (And.intro (ih.2.2.2.2.2.1 _ (h := ht) (hk := zfuel)) ?_))
       replace h := evR h; cases h
       refine zz ?_
       exact zend
      have h_ := evO h; clear h; obtain ⟨t12, ht, h⟩ := h_
      refine zz ?_
      refine Exists.intro _ (Exists.intro _ (And.intro (spec_l8Sign_ev (h := ht)) ?_))
      refine zz ?_
      refine br (iP h) ?_ ?_ <;> (clear h; intro c h)
      ·have h_ := evO h; clear h; obtain ⟨t14, ht, h⟩ := h_
       refine zz ?_
       refine Exists.intro _ (Exists.intro _ (And.intro (spec_l8Next_ev (h := ht)) ?_))
       have h_ := evA h; clear h; obtain ⟨t16, ht, h⟩ := h_
       refine zz ?_
       refine Exists.intro _ (Exists.intro _ (And.intro (ih.2.2.2.2.1 _ (h := ht) (hk := zfuel)) ?_))
       refine zz ?_
       refine Exists.intro (List.map e91 ([(⟨t16.1, t16.2.1, t16.2.2.1, t16.2.2.2.1⟩ : S91)] : List S91)) (And.intro zrow ?_)
       have h_ := evO h; clear h; obtain ⟨t18, ht, h⟩ := h_
       refine zz ?_
       refine Exists.intro _ (Exists.intro _ (And.intro (spec_l8Kids_ev (h := ht)) ?_))
       replace h := evR h; cases h
       refine zz ?_
       exact zend
      have h_ := evO h; clear h; obtain ⟨t21, ht, h⟩ := h_
      refine zz ?_
      refine Exists.intro _ (Exists.intro _ (And.intro (spec_l8Sign_ev (h := ht)) ?_))
      refine zz ?_
      refine br (iP h) ?_ ?_ <;> (clear h; intro c h)
      rotate_left
      ·have h_ := evA h; clear h; obtain ⟨t29, ht, h⟩ := h_
       refine zz ?_
       refine Exists.intro _ (Exists.intro _ (And.intro (ih.2.2.2.2.2.1 _ (h := ht) (hk := zfuel)) ?_))
       replace h := evR h; cases h
       refine zz ?_
       exact zend
      have h_ := evO h; clear h; obtain ⟨t23, ht, h⟩ := h_
      refine zz ?_
      refine Exists.intro _ (Exists.intro _ (And.intro (spec_l8Next_ev (h := ht)) ?_))
      have h_ := evA h; clear h; obtain ⟨t25, ht, h⟩ := h_
      refine zz ?_
      refine Exists.intro _ (Exists.intro _ (And.intro (ih.2.2.2.2.1 _ (h := ht) (hk := zfuel)) ?_))
      refine zz ?_
      refine Exists.intro (List.map e91 ([(⟨t25.1, t25.2.1, t25.2.2.1, t25.2.2.2.1⟩ : S91)] : List S91)) (And.intro zrow ?_)
      have h_ := evO h; clear h; obtain ⟨t27, ht, h⟩ := h_
      refine zz ?_
      refine Exists.intro _ (Exists.intro _ (And.intro (spec_l8Kids_ev (h := ht)) ?_))
      replace h := evR h; cases h
      refine zz ?_
      exact zend
    · intro k l0_0 s0_1 s0_2 s0_3 s0_4 s0_5 s0_6 l0_7 r1 r2 r3 r4 r5 r6 r7 r8 r9 r10 r11 r12 h hk
      refine CE.mk ⟨Tryz.f158, _, rfl, rfl, ⟨by kernel_rfl, Nat.le_of_ble_eq_true rfl, Nat.le_of_ble_eq_true rfl⟩, ?_⟩
      rcases k with _ | k
      · exact (run_zero h).elim
      rw [run_succ, spec_l8E.B] at h
      refine zz ?_
      refine br (iP h) ?_ ?_ <;> (clear h; intro c h)
      ·replace h := evR h; cases h
       refine zz ?_
       exact zend
      have h_ := evO h; clear h; obtain ⟨t17, ht, h⟩ := h_
      refine zz ?_
      refine Exists.intro _ (Exists.intro _ (And.intro (spec_l8Now_ev (h := ht)) ?_))
      refine zz ?_
      refine br (iP h) ?_ ?_ <;> (clear h; intro c h)
      ·replace h := evR h; cases h
       refine zz ?_
       exact zend
      refine zz ?_
      refine br (iP h) ?_ ?_ <;> (clear h; intro c h)
      ·have h_ := evO h; clear h; obtain ⟨t29, ht, h⟩ := h_
       refine zz ?_
       refine Exists.intro _ (Exists.intro _ (And.intro (spec_l8Next_ev (h := ht)) ?_))
       replace h := evR h; cases h
       refine zz ?_
       exact zend
      refine zz ?_
      refine br (iP h) ?_ ?_ <;> (clear h; intro c h)
      ·have h_ := evO h; clear h; obtain ⟨t36, ht, h⟩ := h_
       refine zz ?_
       refine Exists.intro _ (Exists.intro _ (And.intro (spec_l8Next_ev (h := ht)) ?_))
       replace h := evR h; cases h
       refine zz ?_
       exact zend
      refine zz ?_
      refine br (iP h) ?_ ?_ <;> (clear h; intro c h)
      ·have h_ := evO h; clear h; obtain ⟨t43, ht, h⟩ := h_
       refine zz ?_
       refine Exists.intro _ (Exists.intro _ (And.intro (spec_l8Next_ev (h := ht)) ?_))
       replace h := evR h; cases h
       refine zz ?_
       exact zend
      refine zz ?_
      refine br (iP h) ?_ ?_ <;> (clear h; intro c h)
      ·have h_ := evA h; clear h; obtain ⟨t50, ht, h⟩ := h_
       refine zz ?_
       refine Exists.intro _ (Exists.intro _ (And.intro (ih.2.2.2.2.2.2.1 _ (h := ht) (hk := zfuel)) ?_))
       replace h := evR h; cases h
       refine zz ?_
       exact zend
      have h_ := evO h; clear h; obtain ⟨t52, ht, h⟩ := h_
      refine zz ?_
      refine Exists.intro _ (Exists.intro _ (And.intro (spec_l8Sign_ev (h := ht)) ?_))
      refine zz ?_
      refine br (iP h) ?_ ?_ <;> (clear h; intro c h)
      rotate_left
      ·have h_ := evO h; clear h; obtain ⟨t60, ht, h⟩ := h_
       refine zz ?_
       refine Exists.intro _ (Exists.intro _ (And.intro (spec_l8Take_ev (h := ht)) ?_))
       have h_ := evA h; clear h; obtain ⟨t62, ht, h⟩ := h_
       refine zz ?_
       refine Exists.intro _ (Exists.intro _ (And.intro (ih.1 _ (h := ht) (hk := zfuel)) ?_))
       have h_ := evO h; clear h; obtain ⟨t64, ht, h⟩ := h_
       refine zz ?_
       refine Exists.intro _ (Exists.intro _ (And.intro (spec_l8Take_ev (h := ht)) ?_))
       replace h := evR h; cases h
       refine zz ?_
       exact zend
      have h_ := evO h; clear h; obtain ⟨t54, ht, h⟩ := h_
      refine zz ?_
      refine Exists.intro _ (Exists.intro _ (And.intro (spec_l8Next_ev (h := ht)) ?_))
      have h_ := evA h; clear h; obtain ⟨t56, ht, h⟩ := h_
      refine zz ?_
      refine Exists.intro _ (Exists.intro _ (And.intro (ih.2.2.2.2.2.1 _ (h := ht) (hk := zfuel)) ?_))
      refine zz ?_
      refine Exists.intro (List.map e91 ([(⟨t56.1, t56.2.1, t56.2.2.1, t56.2.2.2.1⟩ : S91)] : List S91)) (And.intro zrow ?_)
      have h_ := evO h; clear h; obtain ⟨t58, ht, h⟩ := h_
      refine zz ?_
      refine Exists.intro _ (Exists.intro _ (And.intro (spec_l8Kids_ev (h := ht)) ?_))
      replace h := evR h; cases h
      refine zz ?_
      exact zend
    · intro k l0_0 s0_1 s0_2 s0_3 s0_4 s0_5 s0_6 l0_7 r1 r2 r3 r4 r5 r6 r7 r8 r9 r10 r11 r12 h hk
      refine CE.mk ⟨Tryz.f137, _, rfl, rfl, ⟨by kernel_rfl, Nat.le_of_ble_eq_true rfl, Nat.le_of_ble_eq_true rfl⟩, ?_⟩
      rcases k with _ | k
      · exact (run_zero h).elim
      rw [run_succ, spec_l8E.B] at h
      have h_ := evO h; clear h; obtain ⟨t8, ht, h⟩ := h_
      refine zz ?_
      refine Exists.intro _ (Exists.intro _ (And.intro (spec_l8Now_ev (h := ht)) ?_))
      refine zz ?_
      refine cutJ (n := 100000) [0, 16] (fun fr hp => ∃ kq, kq ≤ k ∧ ∃ (x1000 : List S126) (x1001 x1002 : Int) (x1003 : Bool) (x1004 x1005 : Int) (x1006 : ByteArray) (x1007 : List S91), run spec_l8E.B kq (.spec_l8Named_j0 x1000 x1001 x1002 x1003 x1004 x1005 x1006 x1007) = some (r1, r2, r3, r4, r5, r6, r7, r8, r9, r10, r11, r12) ∧ (∃ fr0, fr = puts [(0, .one (.ptr 0 0)), (2, .one (.ptr 16 0))] fr0) ∧ hp = (upd 0 (.box [.val (.row (x1000.map e126)), .val (.int .i64 x1001), .val (.int .i64 x1002), .val (.bool x1003), .val (.int .i64 x1004), .val (.int .i64 x1005), .val (.str x1006), .val (.row (x1007.map e91))]) (upd 16 (.box [.val (.int .i64 0), .val (.int .i64 0), .val (.str (⟨#[]⟩ : ByteArray)), .nilrow]) (fun _ => none)))) ?_ ?_
      ·have h_ := evO h; clear h; obtain ⟨t12, ht, h⟩ := h_
       refine zz ?_
       refine Exists.intro _ (Exists.intro _ (And.intro (spec_l8Is_ev (h := ht)) ?_))
       refine zz ?_
       refine br (iP h) ?_ ?_ <;> (clear h; intro c h)
       ·have h_ := evO h; clear h; obtain ⟨t14, ht, h⟩ := h_
        refine zz ?_
        refine Exists.intro _ (Exists.intro _ (And.intro (spec_l8Next_ev (h := ht)) ?_))
        replace h := evR h; cases h
        refine zz ?_
        exact zend
       have h_ := evO h; clear h; obtain ⟨t18, ht, h⟩ := h_
       refine zz ?_
       refine Exists.intro _ (Exists.intro _ (And.intro (spec_l8Is_ev (h := ht)) ?_))
       refine zz ?_
       refine br (iP h) ?_ ?_ <;> (clear h; intro c h)
       ·have h_ := evO h; clear h; obtain ⟨t20, ht, h⟩ := h_
        refine zz ?_
        refine Exists.intro _ (Exists.intro _ (And.intro (spec_l8Next_ev (h := ht)) ?_))
        replace h := evR h; cases h
        refine zz ?_
        exact zend
       refine zz ?_
       refine cutJ (n := 200008) [0, 16] (fun fr hp => ∃ kq, kq ≤ k ∧ ∃ (x3 : ByteArray) (x22 : Bool) (x1000 : List S126) (x1001 x1002 : Int) (x1003 : Bool) (x1004 x1005 : Int) (x1006 : ByteArray) (x1007 : List S91), run spec_l8E.B kq (.spec_l8Named_j1 x3 x22 x1000 x1001 x1002 x1003 x1004 x1005 x1006 x1007) = some (r1, r2, r3, r4, r5, r6, r7, r8, r9, r10, r11, r12) ∧ (∃ fr0, fr = puts [(0, .one (.ptr 0 0)), (2, .one (.ptr 16 0)), (3, .one (.val (.str x3))), (22, .one (.val (.bool x22)))] fr0) ∧ hp = (upd 0 (.box [.val (.row (x1000.map e126)), .val (.int .i64 x1001), .val (.int .i64 x1002), .val (.bool x1003), .val (.int .i64 x1004), .val (.int .i64 x1005), .val (.str x1006), .val (.row (x1007.map e91))]) (upd 16 (.box [.val (.int .i64 0), .val (.int .i64 0), .val (.str (⟨#[]⟩ : ByteArray)), .nilrow]) (fun _ => none)))) ?_ ?_
       ·refine zz ?_
        refine br (iP h) ?_ ?_ <;> (clear h; intro c h)
        rotate_left
        ·refine zr ?_
         refine zr ?_
         refine zr ?_
         replace h := evT h
         refine zz ?_
         exact ⟨_, zfuel, _, _, _, _, _, _, _, _, _, _, h, leafFr [0, 2, 3, 22] (by kernel_rfl), by kernel_rfl⟩
        have h_ := evO h; clear h; obtain ⟨t29, ht, h⟩ := h_
        refine zz ?_
        refine Exists.intro _ (And.intro (spec_l7Calls_ev (h := ht)) ?_)
        refine zl ?_
        refine zl ?_
        have h_ := evO h; clear h; obtain ⟨t31, ht, h⟩ := h_
        refine zz ?_
        refine Exists.intro _ (And.intro (spec_l7Within_ev (h := ht)) ?_)
        refine zl ?_
        replace h := evT h
        refine zz ?_
        exact ⟨_, zfuel, _, _, _, _, _, _, _, _, _, _, h, leafFr [0, 2, 3, 22] (by kernel_rfl), by kernel_rfl⟩
       clear h; rintro _ _ ⟨k, hle, x3, x22, x1000, x1001, x1002, x1003, x1004, x1005, x1006, x1007, h, ⟨fr0, rfl⟩, rfl⟩
       rcases k with _ | k
       · exact (run_zero h).elim
       rw [run_succ, spec_l8E.B] at h
       refine zz ?_
       refine br (iP h) ?_ ?_ <;> (clear h; intro c h)
       rotate_left
       ·replace h := evT h
        refine zz ?_
        exact ⟨_, zfuel, _, _, _, _, _, _, _, _, h, leafFr [0, 2] (by kernel_rfl), by kernel_rfl⟩
       have h_ := evO h; clear h; obtain ⟨t34, ht, h⟩ := h_
       refine zz ?_
       refine Exists.intro _ (Exists.intro _ (And.intro (spec_l8Next_ev (h := ht)) ?_))
       have h_ := evO h; clear h; obtain ⟨t36, ht, h⟩ := h_
       refine zz ?_
       refine Exists.intro _ (Exists.intro _ (And.intro (spec_l8Take_ev (h := ht)) ?_))
       have h_ := evA h; clear h; obtain ⟨t38, ht, h⟩ := h_
       refine zz ?_
       refine Exists.intro _ (Exists.intro _ (And.intro (ih.2.2.2.2.2.2.2.1 _ (h := ht) (hk := zfuel)) ?_))
       have h_ := evO h; clear h; obtain ⟨t40, ht, h⟩ := h_
       refine zz ?_
       refine Exists.intro _ (Exists.intro _ (And.intro (spec_l8Take_ev (h := ht)) ?_))
       replace h := evR h; cases h
       refine zz ?_
       exact zend
      clear h; rintro _ _ ⟨k, hle, x1000, x1001, x1002, x1003, x1004, x1005, x1006, x1007, h, ⟨fr0, rfl⟩, rfl⟩
      rcases k with _ | k
      · exact (run_zero h).elim
      rw [run_succ, spec_l8E.B] at h
      have h_ := evO h; clear h; obtain ⟨t45, ht, h⟩ := h_
      refine zz ?_
      refine Exists.intro _ (Exists.intro _ (And.intro (spec_l8Name_ev (h := ht)) ?_))
      have h_ := evO h; clear h; obtain ⟨t47, ht, h⟩ := h_
      refine zz ?_
      refine Exists.intro _ (Exists.intro _ (And.intro (spec_l8Sign_ev (h := ht)) ?_))
      refine zz ?_
      refine brN (iP h) ?_ ?_ <;> (clear h; intro c h)
      ·replace h := evR h; cases h
       refine zz ?_
       exact zend
      have h_ := evO h; clear h; obtain ⟨t52, ht, h⟩ := h_
      refine zz ?_
      refine Exists.intro _ (Exists.intro _ (And.intro (spec_l8Next_ev (h := ht)) ?_))
      have h_ := evA h; clear h; obtain ⟨t54, ht, h⟩ := h_
      refine zz ?_
      refine Exists.intro _ (Exists.intro _ (And.intro (ih.1 _ (h := ht) (hk := zfuel)) ?_))
      have h_ := evO h; clear h; obtain ⟨t56, ht, h⟩ := h_
      refine zz ?_
      refine Exists.intro _ (Exists.intro _ (And.intro (spec_l8Take_ev (h := ht)) ?_))
      refine zz ?_
      refine Exists.intro (List.map e91 ([(⟨t54.1, t54.2.1, t54.2.2.1, t54.2.2.2.1⟩ : S91)] : List S91)) (And.intro zrow ?_)
      replace h := evR h; cases h
      refine zz ?_
      exact zend
    · intro k l0_0 s0_1 s0_2 s0_3 s0_4 s0_5 s0_6 l0_7 a1 r1 r2 r3 r4 r5 r6 r7 r8 r9 h hk
      refine CE.mk ⟨Tryz.f149, _, rfl, rfl, ⟨by kernel_rfl, Nat.le_of_ble_eq_true rfl, Nat.le_of_ble_eq_true rfl⟩, ?_⟩
      rcases k with _ | k
      · exact (run_zero h).elim
      rw [run_succ, spec_l8E.B] at h
      refine zz ?_
      refine Exists.intro (List.map e91 ([] : List S91)) (And.intro zrow ?_)
      replace h := evT h
      refine zz ?_
      refine loopJ [0, 528] (fun kq fr hp => ∃ (x1 : ByteArray) (x5 : List S91) (x1000 : List S126) (x1001 x1002 : Int) (x1003 : Bool) (x1004 x1005 : Int) (x1006 : ByteArray) (x1007 : List S91) (g528 : Nat), run spec_l8E.B kq (.spec_l8Es_l0 x1 x5 x1000 x1001 x1002 x1003 x1004 x1005 x1006 x1007) = some (r1, r2, r3, r4, r5, r6, r7, r8, r9) ∧ (∃ fr0, fr = puts [(0, .one (.ptr 0 0)), (1, .one (.val (.str x1))), (5, .one (.ref 528 g528))] fr0) ∧ hp = (upd 0 (.box [.val (.row (x1000.map e126)), .val (.int .i64 x1001), .val (.int .i64 x1002), .val (.bool x1003), .val (.int .i64 x1004), .val (.int .i64 x1005), .val (.str x1006), .val (.row (x1007.map e91))]) (upd 528 (.own 91 4 (x5.map e91) g528 false) (fun _ => none)))) k ⟨_, zfuel, _, _, _, _, _, _, _, _, _, _, 0, h, leafFr [0, 1, 5] (by kernel_rfl), by kernel_rfl⟩ ?_
      clear h; rintro k hle _ _ ⟨x1, x5, x1000, x1001, x1002, x1003, x1004, x1005, x1006, x1007, g528, h, ⟨fr0, rfl⟩, rfl⟩
      rcases k with _ | k
      · exact (run_zero h).elim
      rw [run_succ, spec_l8E.B] at h
      refine zz ?_
      refine cutJ (n := 17) [0, 528] (fun fr hp => ∃ kq, kq ≤ k ∧ ∃ (x1 : ByteArray) (x5 : List S91) (x1000 : List S126) (x1001 x1002 : Int) (x1003 : Bool) (x1004 x1005 : Int) (x1006 : ByteArray) (x1007 : List S91) (g528 : Nat), run spec_l8E.B kq (.spec_l8Es_j0 x1 x5 x1000 x1001 x1002 x1003 x1004 x1005 x1006 x1007) = some (r1, r2, r3, r4, r5, r6, r7, r8, r9) ∧ (∃ fr0, fr = puts [(0, .one (.ptr 0 0)), (1, .one (.val (.str x1))), (5, .one (.ref 528 g528))] fr0) ∧ hp = (upd 0 (.box [.val (.row (x1000.map e126)), .val (.int .i64 x1001), .val (.int .i64 x1002), .val (.bool x1003), .val (.int .i64 x1004), .val (.int .i64 x1005), .val (.str x1006), .val (.row (x1007.map e91))]) (upd 528 (.own 91 4 (x5.map e91) g528 false) (fun _ => none)))) ?_ ?_
      ·refine zz ?_
       refine cutJ (n := 200002) [0, 528] (fun fr hp => ∃ kq, kq ≤ k ∧ ∃ (x1 : ByteArray) (x5 : List S91) (x17 : Bool) (x1000 : List S126) (x1001 x1002 : Int) (x1003 : Bool) (x1004 x1005 : Int) (x1006 : ByteArray) (x1007 : List S91) (g528 : Nat), run spec_l8E.B kq (.spec_l8Es_j1 x1 x5 x17 x1000 x1001 x1002 x1003 x1004 x1005 x1006 x1007) = some (r1, r2, r3, r4, r5, r6, r7, r8, r9) ∧ (∃ fr0, fr = puts [(0, .one (.ptr 0 0)), (1, .one (.val (.str x1))), (5, .one (.ref 528 g528)), (17, .one (.val (.bool x17)))] fr0) ∧ hp = (upd 0 (.box [.val (.row (x1000.map e126)), .val (.int .i64 x1001), .val (.int .i64 x1002), .val (.bool x1003), .val (.int .i64 x1004), .val (.int .i64 x1005), .val (.str x1006), .val (.row (x1007.map e91))]) (upd 528 (.own 91 4 (x5.map e91) g528 false) (fun _ => none)))) ?_ ?_
       ·refine zz ?_
        refine br (iP h) ?_ ?_ <;> (clear h; intro c h)
        rotate_left
        ·refine zr ?_
         refine zr ?_
         refine zr ?_
         refine zr ?_
         replace h := evT h
         refine zz ?_
         exact ⟨_, zfuel, _, _, _, _, _, _, _, _, _, _, _, g528, h, leafFr [0, 1, 5, 17] (by kernel_rfl), by kernel_rfl⟩
        refine zl ?_
        refine zl ?_
        have h_ := evO h; clear h; obtain ⟨t15, ht, h⟩ := h_
        refine zz ?_
        refine Exists.intro _ (Exists.intro _ (And.intro (spec_l8Sign_ev (h := ht)) ?_))
        refine zl ?_
        refine zl ?_
        replace h := evT h
        refine zz ?_
        exact ⟨_, zfuel, _, _, _, _, _, _, _, _, _, _, _, g528, h, leafFr [0, 1, 5, 17] (by kernel_rfl), by kernel_rfl⟩
       clear h; rintro _ _ ⟨k, hle, x1, x5, x17, x1000, x1001, x1002, x1003, x1004, x1005, x1006, x1007, g528, h, ⟨fr0, rfl⟩, rfl⟩
       rcases k with _ | k
       · exact (run_zero h).elim
       rw [run_succ, spec_l8E.B] at h
       refine zz ?_
       refine br (iP h) ?_ ?_ <;> (clear h; intro c h)
       ·replace h := evT h
        refine zz ?_
        exact ⟨_, zfuel, _, _, _, _, _, _, _, _, _, _, g528, h, leafFr [0, 1, 5] (by kernel_rfl), by kernel_rfl⟩
       replace h := evR h; cases h
       refine zz ?_
       exact zend
      clear h; rintro _ _ ⟨k, hle, x1, x5, x1000, x1001, x1002, x1003, x1004, x1005, x1006, x1007, g528, h, ⟨fr0, rfl⟩, rfl⟩
      rcases k with _ | k
      · exact (run_zero h).elim
      rw [run_succ, spec_l8E.B] at h
      refine zz ?_
      refine cutJ (n := 20) [0, 528] (fun fr hp => ∃ kq, kq ≤ k ∧ ∃ (x1 : ByteArray) (x5 : List S91) (x1000 : List S126) (x1001 x1002 : Int) (x1003 : Bool) (x1004 x1005 : Int) (x1006 : ByteArray) (x1007 : List S91) (g528 : Nat), run spec_l8E.B kq (.spec_l8Es_j2 x1 x5 x1000 x1001 x1002 x1003 x1004 x1005 x1006 x1007) = some (r1, r2, r3, r4, r5, r6, r7, r8, r9) ∧ (∃ fr0, fr = puts [(0, .one (.ptr 0 0)), (1, .one (.val (.str x1))), (5, .one (.ref 528 g528))] fr0) ∧ hp = (upd 0 (.box [.val (.row (x1000.map e126)), .val (.int .i64 x1001), .val (.int .i64 x1002), .val (.bool x1003), .val (.int .i64 x1004), .val (.int .i64 x1005), .val (.str x1006), .val (.row (x1007.map e91))]) (upd 528 (.own 91 4 (x5.map e91) g528 false) (fun _ => none)))) ?_ ?_
      ·refine zz ?_
       refine br (iP h) ?_ ?_ <;> (clear h; intro c h)
       rotate_left
       ·replace h := evT h
        refine zz ?_
        exact ⟨_, zfuel, _, _, _, _, _, _, _, _, _, _, g528, h, leafFr [0, 1, 5] (by kernel_rfl), by kernel_rfl⟩
       have h_ := evO h; clear h; obtain ⟨t22, ht, h⟩ := h_
       refine zz ?_
       refine Exists.intro _ (Exists.intro _ (And.intro (spec_l8Take_ev (h := ht)) ?_))
       replace h := evT h
       refine zz ?_
       exact ⟨_, zfuel, _, _, _, _, _, _, _, _, _, _, g528, h, leafFr [0, 1, 5] (by kernel_rfl), by kernel_rfl⟩
      clear h; rintro _ _ ⟨k, hle, x1, x5, x1000, x1001, x1002, x1003, x1004, x1005, x1006, x1007, g528, h, ⟨fr0, rfl⟩, rfl⟩
      rcases k with _ | k
      · exact (run_zero h).elim
      rw [run_succ, spec_l8E.B] at h
      have h_ := evA h; clear h; obtain ⟨t25, ht, h⟩ := h_
      refine zz ?_
      refine Exists.intro _ (Exists.intro _ (And.intro (ih.1 _ (h := ht) (hk := zfuel)) ?_))
      refine zz ?_
      refine Exists.intro (List.map e91 ([(⟨t25.1, t25.2.1, t25.2.2.1, t25.2.2.2.1⟩ : S91)] : List S91)) (And.intro zrow ?_)
      have h_ := gP h; clear h; obtain ⟨c, h⟩ := h_
      refine zz ?_
      refine Exists.intro (List.map e91 (x5 ++ [(⟨t25.1, t25.2.1, t25.2.2.1, t25.2.2.2.1⟩ : S91)])) (And.intro zrow ?_)
      replace h := evT h
      refine zz ?_
      exact ⟨_, zfuel, _, _, _, _, _, _, _, _, _, _, (g528 + 1), h, leafFr [0, 1, 5] (by kernel_rfl), by kernel_rfl⟩
    · intro k l0_0 s0_1 s0_2 s0_3 s0_4 s0_5 s0_6 l0_7 a1 r1 r2 r3 r4 r5 r6 r7 r8 r9 r10 r11 r12 h hk
      refine CE.mk ⟨Tryz.f154, _, rfl, rfl, ⟨by kernel_rfl, Nat.le_of_ble_eq_true rfl, Nat.le_of_ble_eq_true rfl⟩, ?_⟩
      rcases k with _ | k
      · exact (run_zero h).elim
      rw [run_succ, spec_l8E.B] at h
      refine zz ?_
      refine Exists.intro (List.map VV.str ([(⟨#[124, 124]⟩ : ByteArray)] : List ByteArray)) (And.intro zrow ?_)
      refine zz ?_
      refine Exists.intro (List.map VV.str ([(⟨#[38, 38]⟩ : ByteArray)] : List ByteArray)) (And.intro zrow ?_)
      refine zz ?_
      refine Exists.intro (List.map VV.str ([(⟨#[126]⟩ : ByteArray), (⟨#[33, 126]⟩ : ByteArray)] : List ByteArray)) (And.intro zrow ?_)
      refine zz ?_
      refine Exists.intro (List.map VV.str ([] : List ByteArray)) (And.intro zrow ?_)
      refine zz ?_
      refine Exists.intro (List.map VV.str ([] : List ByteArray)) (And.intro zrow ?_)
      refine zz ?_
      refine Exists.intro (List.map VV.str ([(⟨#[43]⟩ : ByteArray), (⟨#[45]⟩ : ByteArray)] : List ByteArray)) (And.intro zrow ?_)
      refine zz ?_
      refine Exists.intro (List.map VV.str ([(⟨#[42]⟩ : ByteArray), (⟨#[47]⟩ : ByteArray), (⟨#[37]⟩ : ByteArray)] : List ByteArray)) (And.intro zrow ?_)
      have h_ := evO h; clear h; obtain ⟨y1_7, hy, h⟩ := h_
      refine zz ?_
      refine Exists.intro (y1_7.map (eL VV.str)) (And.intro (by rw [← Option.some.inj hy]; exact zrow) ?_)
      refine zz ?_
      refine Exists.intro (List.map (VV.int .i64) ([25] : List Int)) (And.intro zrow ?_)
      refine zz ?_
      refine Exists.intro (List.map (VV.int .i64) ([24] : List Int)) (And.intro zrow ?_)
      refine zz ?_
      refine Exists.intro (List.map (VV.int .i64) ([21, 21] : List Int)) (And.intro zrow ?_)
      refine zz ?_
      refine Exists.intro (List.map (VV.int .i64) ([] : List Int)) (And.intro zrow ?_)
      refine zz ?_
      refine Exists.intro (List.map (VV.int .i64) ([] : List Int)) (And.intro zrow ?_)
      refine zz ?_
      refine Exists.intro (List.map (VV.int .i64) ([9, 10] : List Int)) (And.intro zrow ?_)
      refine zz ?_
      refine Exists.intro (List.map (VV.int .i64) ([11, 12, 13] : List Int)) (And.intro zrow ?_)
      refine zz ?_
      refine Exists.intro (List.map (eL (VV.int .i64)) ([([25] : List Int), ([24] : List Int), ([21, 21] : List Int), ([] : List Int), ([] : List Int), ([9, 10] : List Int), ([11, 12, 13] : List Int)] : List (List Int))) (And.intro zrow ?_)
      have h_ := evA h; clear h; obtain ⟨t29, ht, h⟩ := h_
      refine zz ?_
      refine Exists.intro _ (Exists.intro _ (And.intro (ih.2.1 _ (h := ht) (hk := zfuel)) ?_))
      replace h := evT h
      refine zz ?_
      refine loopJ [0, 16, 535, 1047, 1556] (fun kq fr hp => ∃ (x1 : Int) (x5 : List (List ByteArray)) (x6 : List (List Int)) (x1000 : List S126) (x1001 x1002 : Int) (x1003 : Bool) (x1004 x1005 : Int) (x1006 : ByteArray) (x1007 : List S91) (x1556_0 x1556_1 : Int) (x1556_2 : ByteArray) (x1556_3 : List S91) (g535 g1047 : Nat), run spec_l8E.B kq (.spec_l8Left_l0 x1 x5 x6 x1000 x1001 x1002 x1003 x1004 x1005 x1006 x1007 x1556_0 x1556_1 x1556_2 x1556_3) = some (r1, r2, r3, r4, r5, r6, r7, r8, r9, r10, r11, r12) ∧ (∃ fr0, fr = puts [(0, .one (.ptr 0 0)), (1, .one (.val (.int .i64 x1))), (4, .one (.ptr 16 0)), (5, .one (.ref 535 g535)), (6, .one (.ref 1047 g1047)), (7, .one (.ptr 1556 0))] fr0) ∧ hp = (upd 0 (.box [.val (.row (x1000.map e126)), .val (.int .i64 x1001), .val (.int .i64 x1002), .val (.bool x1003), .val (.int .i64 x1004), .val (.int .i64 x1005), .val (.str x1006), .val (.row (x1007.map e91))]) (upd 16 (.box [.val (.int .i64 0), .val (.int .i64 0), .val (.str (⟨#[]⟩ : ByteArray)), .nilrow]) (upd 535 (.own 43 1 (x5.map (eL VV.str)) g535 false) (upd 1047 (.own 45 1 (x6.map (eL (VV.int .i64))) g1047 false) (upd 1556 (.box [.val (.int .i64 x1556_0), .val (.int .i64 x1556_1), .val (.str x1556_2), .val (.row (x1556_3.map e91))]) (fun _ => none))))))) k ⟨_, zfuel, _, _, _, _, _, _, _, _, _, _, _, _, _, _, _, 0, 0, h, leafFr [0, 1, 4, 5, 6, 7] (by kernel_rfl), by kernel_rfl⟩ ?_
      clear h; rintro k hle _ _ ⟨x1, x5, x6, x1000, x1001, x1002, x1003, x1004, x1005, x1006, x1007, x1556_0, x1556_1, x1556_2, x1556_3, g535, g1047, h, ⟨fr0, rfl⟩, rfl⟩
      rcases k with _ | k
      · exact (run_zero h).elim
      rw [run_succ, spec_l8E.B] at h
      refine zz ?_
      refine br (iP h) ?_ ?_ <;> (clear h; intro c h)
      rotate_left
      ·replace h := evR h; cases h
       refine zz ?_
       exact zend
      refine zz ?_
      refine cutJ (n := 100002) [0, 16, 535, 1047, 1556] (fun fr hp => ∃ kq, kq ≤ k ∧ ∃ (x1 : Int) (x5 : List (List ByteArray)) (x6 : List (List Int)) (x8 : Int) (x1000 : List S126) (x1001 x1002 : Int) (x1003 : Bool) (x1004 x1005 : Int) (x1006 : ByteArray) (x1007 : List S91) (x1556_0 x1556_1 : Int) (x1556_2 : ByteArray) (x1556_3 : List S91) (g535 g1047 : Nat), run spec_l8E.B kq (.spec_l8Left_j0 x1 x5 x6 x8 x1000 x1001 x1002 x1003 x1004 x1005 x1006 x1007 x1556_0 x1556_1 x1556_2 x1556_3) = some (r1, r2, r3, r4, r5, r6, r7, r8, r9, r10, r11, r12) ∧ (∃ fr0, fr = puts [(0, .one (.ptr 0 0)), (1, .one (.val (.int .i64 x1))), (4, .one (.ptr 16 0)), (5, .one (.ref 535 g535)), (6, .one (.ref 1047 g1047)), (7, .one (.ptr 1556 0)), (8, .one (.val (.int .i64 x8)))] fr0) ∧ hp = (upd 0 (.box [.val (.row (x1000.map e126)), .val (.int .i64 x1001), .val (.int .i64 x1002), .val (.bool x1003), .val (.int .i64 x1004), .val (.int .i64 x1005), .val (.str x1006), .val (.row (x1007.map e91))]) (upd 16 (.box [.val (.int .i64 0), .val (.int .i64 0), .val (.str (⟨#[]⟩ : ByteArray)), .nilrow]) (upd 535 (.own 43 1 (x5.map (eL VV.str)) g535 false) (upd 1047 (.own 45 1 (x6.map (eL (VV.int .i64))) g1047 false) (upd 1556 (.box [.val (.int .i64 x1556_0), .val (.int .i64 x1556_1), .val (.str x1556_2), .val (.row (x1556_3.map e91))]) (fun _ => none))))))) ?_ ?_
      ·replace h := evT h
       refine zz ?_
       refine loopJ [0, 16, 535, 1047, 1556] (fun kq fr hp => ∃ (x1 : Int) (x5 : List (List ByteArray)) (x6 : List (List Int)) (x8 : Int) (x1000 : List S126) (x1001 x1002 : Int) (x1003 : Bool) (x1004 x1005 : Int) (x1006 : ByteArray) (x1007 : List S91) (x1556_0 x1556_1 : Int) (x1556_2 : ByteArray) (x1556_3 : List S91) (g535 g1047 : Nat), run spec_l8E.B kq (.spec_l8Left_l1 x1 x5 x6 x8 x1000 x1001 x1002 x1003 x1004 x1005 x1006 x1007 x1556_0 x1556_1 x1556_2 x1556_3) = some (r1, r2, r3, r4, r5, r6, r7, r8, r9, r10, r11, r12) ∧ (∃ fr0, fr = puts [(0, .one (.ptr 0 0)), (1, .one (.val (.int .i64 x1))), (4, .one (.ptr 16 0)), (5, .one (.ref 535 g535)), (6, .one (.ref 1047 g1047)), (7, .one (.ptr 1556 0)), (8, .one (.val (.int .i64 x8)))] fr0) ∧ hp = (upd 0 (.box [.val (.row (x1000.map e126)), .val (.int .i64 x1001), .val (.int .i64 x1002), .val (.bool x1003), .val (.int .i64 x1004), .val (.int .i64 x1005), .val (.str x1006), .val (.row (x1007.map e91))]) (upd 16 (.box [.val (.int .i64 0), .val (.int .i64 0), .val (.str (⟨#[]⟩ : ByteArray)), .nilrow]) (upd 535 (.own 43 1 (x5.map (eL VV.str)) g535 false) (upd 1047 (.own 45 1 (x6.map (eL (VV.int .i64))) g1047 false) (upd 1556 (.box [.val (.int .i64 x1556_0), .val (.int .i64 x1556_1), .val (.str x1556_2), .val (.row (x1556_3.map e91))]) (fun _ => none))))))) k ⟨_, zfuel, _, _, _, _, _, _, _, _, _, _, _, _, _, _, _, _, g535, g1047, h, leafFr [0, 1, 4, 5, 6, 7, 8] (by kernel_rfl), by kernel_rfl⟩ ?_
       clear h; rintro k hle _ _ ⟨x1, x5, x6, x8, x1000, x1001, x1002, x1003, x1004, x1005, x1006, x1007, x1556_0, x1556_1, x1556_2, x1556_3, g535, g1047, h, ⟨fr0, rfl⟩, rfl⟩
       rcases k with _ | k
       · exact (run_zero h).elim
       rw [run_succ, spec_l8E.B] at h
       have h_ := gP h; clear h; obtain ⟨c, h⟩ := h_
       have h_ := gP h; clear h; obtain ⟨c, h⟩ := h_
       refine zz ?_
       refine br (iP h) ?_ ?_ <;> (clear h; intro c h)
       rotate_left
       ·refine zr ?_
        refine zr ?_
        refine zr ?_
        refine zr ?_
        refine zr ?_
        refine zr ?_
        refine zr ?_
        refine zr ?_
        refine zr ?_
        refine zr ?_
        refine zr ?_
        replace h := evT h
        refine zz ?_
        exact ⟨_, zfuel, _, _, _, _, _, _, _, _, _, _, _, _, _, _, _, _, g535, g1047, h, leafFr [0, 1, 4, 5, 6, 7, 8] (by kernel_rfl), by kernel_rfl⟩
       refine zl ?_
       refine zl ?_
       refine zl ?_
       refine zl ?_
       refine zl ?_
       refine zl ?_
       have h_ := gP h; clear h; obtain ⟨c, h⟩ := h_
       refine zl ?_
       refine zl ?_
       have h_ := evO h; clear h; obtain ⟨t51, ht, h⟩ := h_
       refine zz ?_
       refine Exists.intro _ (Exists.intro _ (And.intro (spec_l8Sign_ev (h := ht)) ?_))
       refine zl ?_
       refine zl ?_
       refine zz ?_
       refine brN (iP h) ?_ ?_ <;> (clear h; intro c h)
       ·replace h := evT h
        refine zz ?_
        exact ⟨_, zfuel, _, _, _, _, _, _, _, _, _, _, _, _, _, _, _, _, g535, g1047, h, leafFr [0, 1, 4, 5, 6, 7, 8] (by kernel_rfl), by kernel_rfl⟩
       replace h := evT h
       refine zz ?_
       exact ⟨_, zfuel, _, _, _, _, _, _, _, _, _, _, _, _, _, _, _, _, g535, g1047, h, leafFr [0, 1, 4, 5, 6, 7, 8] (by kernel_rfl), by kernel_rfl⟩
      clear h; rintro _ _ ⟨k, hle, x1, x5, x6, x8, x1000, x1001, x1002, x1003, x1004, x1005, x1006, x1007, x1556_0, x1556_1, x1556_2, x1556_3, g535, g1047, h, ⟨fr0, rfl⟩, rfl⟩
      rcases k with _ | k
      · exact (run_zero h).elim
      rw [run_succ, spec_l8E.B] at h
      have h_ := gP h; clear h; obtain ⟨c, h⟩ := h_
      have h_ := gP h; clear h; obtain ⟨c, h⟩ := h_
      refine zz ?_
      refine br (iP h) ?_ ?_ <;> (clear h; intro c h)
      ·replace h := evR h; cases h
       refine zz ?_
       exact zend
      have h_ := evO h; clear h; obtain ⟨t65, ht, h⟩ := h_
      refine zz ?_
      refine Exists.intro _ (Exists.intro _ (And.intro (spec_l8Next_ev (h := ht)) ?_))
      have h_ := evA h; clear h; obtain ⟨t69, ht, h⟩ := h_
      refine zz ?_
      refine Exists.intro _ (Exists.intro _ (And.intro (ih.2.1 _ (h := ht) (hk := zfuel)) ?_))
      have h_ := gP h; clear h; obtain ⟨c, h⟩ := h_
      have h_ := gP h; clear h; obtain ⟨c, h⟩ := h_
      have h_ := gP h; clear h; obtain ⟨c, h⟩ := h_
      refine zz ?_
      refine Exists.intro (List.map e91 ([(⟨x1556_0, x1556_1, x1556_2, x1556_3⟩ : S91), (⟨t69.1, t69.2.1, t69.2.2.1, t69.2.2.2.1⟩ : S91)] : List S91)) (And.intro zrow ?_)
      have h_ := evO h; clear h; obtain ⟨t80, ht, h⟩ := h_
      refine zz ?_
      refine Exists.intro _ (Exists.intro _ (And.intro (spec_l8Kids_2_ev (h := ht)) ?_))
      refine zz ?_
      refine cutJ (n := 200013) [0, 16, 535, 1047, 1556] (fun fr hp => ∃ kq, kq ≤ k ∧ ∃ (x1 : Int) (x5 : List (List ByteArray)) (x6 : List (List Int)) (x86 : Bool) (x1000 : List S126) (x1001 x1002 : Int) (x1003 : Bool) (x1004 x1005 : Int) (x1006 : ByteArray) (x1007 : List S91) (x1556_0 x1556_1 : Int) (x1556_2 : ByteArray) (x1556_3 : List S91) (g535 g1047 : Nat), run spec_l8E.B kq (.spec_l8Left_j1 x1 x5 x6 x86 x1000 x1001 x1002 x1003 x1004 x1005 x1006 x1007 x1556_0 x1556_1 x1556_2 x1556_3) = some (r1, r2, r3, r4, r5, r6, r7, r8, r9, r10, r11, r12) ∧ (∃ fr0, fr = puts [(0, .one (.ptr 0 0)), (1, .one (.val (.int .i64 x1))), (4, .one (.ptr 16 0)), (5, .one (.ref 535 g535)), (6, .one (.ref 1047 g1047)), (7, .one (.ptr 1556 0)), (86, .one (.val (.bool x86)))] fr0) ∧ hp = (upd 0 (.box [.val (.row (x1000.map e126)), .val (.int .i64 x1001), .val (.int .i64 x1002), .val (.bool x1003), .val (.int .i64 x1004), .val (.int .i64 x1005), .val (.str x1006), .val (.row (x1007.map e91))]) (upd 16 (.box [.val (.int .i64 0), .val (.int .i64 0), .val (.str (⟨#[]⟩ : ByteArray)), .nilrow]) (upd 535 (.own 43 1 (x5.map (eL VV.str)) g535 false) (upd 1047 (.own 45 1 (x6.map (eL (VV.int .i64))) g1047 false) (upd 1556 (.box [.val (.int .i64 x1556_0), .val (.int .i64 x1556_1), .val (.str x1556_2), .val (.row (x1556_3.map e91))]) (fun _ => none))))))) ?_ ?_
      ·refine zz ?_
       refine br (iP h) ?_ ?_ <;> (clear h; intro c h)
       ·refine zl ?_
        refine zl ?_
        replace h := evT h
        refine zz ?_
        exact ⟨_, zfuel, _, _, _, _, _, _, _, _, _, _, _, _, _, _, _, _, g535, g1047, h, leafFr [0, 1, 4, 5, 6, 7, 86] (by kernel_rfl), by kernel_rfl⟩
       refine zr ?_
       refine zr ?_
       replace h := evT h
       refine zz ?_
       exact ⟨_, zfuel, _, _, _, _, _, _, _, _, _, _, _, _, _, _, _, _, g535, g1047, h, leafFr [0, 1, 4, 5, 6, 7, 86] (by kernel_rfl), by kernel_rfl⟩
      clear h; rintro _ _ ⟨k, hle, x1, x5, x6, x86, x1000, x1001, x1002, x1003, x1004, x1005, x1006, x1007, x1556_0, x1556_1, x1556_2, x1556_3, g535, g1047, h, ⟨fr0, rfl⟩, rfl⟩
      rcases k with _ | k
      · exact (run_zero h).elim
      rw [run_succ, spec_l8E.B] at h
      refine zz ?_
      refine br (iP h) ?_ ?_ <;> (clear h; intro c h)
      rotate_left
      ·replace h := evT h
       refine zz ?_
       exact ⟨_, zfuel, _, _, _, _, _, _, _, _, _, _, _, _, _, _, _, g535, g1047, h, leafFr [0, 1, 4, 5, 6, 7] (by kernel_rfl), by kernel_rfl⟩
      refine zz ?_
      refine Exists.intro (List.map e91 ([(⟨x1556_0, x1556_1, x1556_2, x1556_3⟩ : S91)] : List S91)) (And.intro zrow ?_)
      have h_ := evO h; clear h; obtain ⟨t89, ht, h⟩ := h_
      refine zz ?_
      refine Exists.intro _ (Exists.intro _ (And.intro (spec_l8Kids_ev (h := ht)) ?_))
      replace h := evT h
      refine zz ?_
      exact ⟨_, zfuel, _, _, _, _, _, _, _, _, _, _, _, _, _, _, _, g535, g1047, h, leafFr [0, 1, 4, 5, 6, 7] (by kernel_rfl), by kernel_rfl⟩
theorem spec_l8E_ev (l0_0 : List S126) (s0_1 s0_2 : Int) (s0_3 : Bool) (s0_4 s0_5 : Int) (s0_6 : ByteArray) (l0_7 : List S91) (r1 r2 : Int) (r3 : ByteArray) (r4 : List S91) (r5 : List S126) (r6 r7 : Int) (r8 : Bool) (r9 r10 : Int) (r11 : ByteArray) (r12 : List S91) (h : spec_l8E.fv l0_0 s0_1 s0_2 s0_3 s0_4 s0_5 s0_6 l0_7 = some (r1, r2, r3, r4, r5, r6, r7, r8, r9, r10, r11, r12)) : CE (G m_) 114 [.ptr 0 0] [.box [.val (.row (l0_0.map e126)), .val (.int .i64 s0_1), .val (.int .i64 s0_2), .val (.bool s0_3), .val (.int .i64 s0_4), .val (.int .i64 s0_5), .val (.str s0_6), .val (.row (l0_7.map e91))]] [.val (.agg [.int .i64 r1, .int .i64 r2, .str r3, .row (r4.map e91)])] [.box [.val (.row (r5.map e126)), .val (.int .i64 r6), .val (.int .i64 r7), .val (.bool r8), .val (.int .i64 r9), .val (.int .i64 r10), .val (.str r11), .val (.row (r12.map e91))]] := by
  obtain ⟨k, h⟩ := lim_ex h
  exact (spec_l8E_all (k + 1)).1 k _ _ _ _ _ _ _ _ _ _ _ _ _ _ _ _ _ _ _ _ h (Nat.lt_succ_self k)
theorem spec_l8Level_ev (l0_0 : List S126) (s0_1 s0_2 : Int) (s0_3 : Bool) (s0_4 s0_5 : Int) (s0_6 : ByteArray) (l0_7 : List S91) (a1 r1 r2 : Int) (r3 : ByteArray) (r4 : List S91) (r5 : List S126) (r6 r7 : Int) (r8 : Bool) (r9 r10 : Int) (r11 : ByteArray) (r12 : List S91) (h : spec_l8Level.fv l0_0 s0_1 s0_2 s0_3 s0_4 s0_5 s0_6 l0_7 a1 = some (r1, r2, r3, r4, r5, r6, r7, r8, r9, r10, r11, r12)) : CE (G m_) 138 [.ptr 0 0, .val (.int .i64 a1)] [.box [.val (.row (l0_0.map e126)), .val (.int .i64 s0_1), .val (.int .i64 s0_2), .val (.bool s0_3), .val (.int .i64 s0_4), .val (.int .i64 s0_5), .val (.str s0_6), .val (.row (l0_7.map e91))]] [.val (.agg [.int .i64 r1, .int .i64 r2, .str r3, .row (r4.map e91)])] [.box [.val (.row (r5.map e126)), .val (.int .i64 r6), .val (.int .i64 r7), .val (.bool r8), .val (.int .i64 r9), .val (.int .i64 r10), .val (.str r11), .val (.row (r12.map e91))]] := by
  obtain ⟨k, h⟩ := lim_ex h
  exact (spec_l8E_all (k + 1)).2.1 k _ _ _ _ _ _ _ _ _ _ _ _ _ _ _ _ _ _ _ _ _ h (Nat.lt_succ_self k)
theorem spec_l8Compare_ev (l0_0 : List S126) (s0_1 s0_2 : Int) (s0_3 : Bool) (s0_4 s0_5 : Int) (s0_6 : ByteArray) (l0_7 : List S91) (r1 r2 : Int) (r3 : ByteArray) (r4 : List S91) (r5 : List S126) (r6 r7 : Int) (r8 : Bool) (r9 r10 : Int) (r11 : ByteArray) (r12 : List S91) (h : spec_l8Compare.fv l0_0 s0_1 s0_2 s0_3 s0_4 s0_5 s0_6 l0_7 = some (r1, r2, r3, r4, r5, r6, r7, r8, r9, r10, r11, r12)) : CE (G m_) 151 [.ptr 0 0] [.box [.val (.row (l0_0.map e126)), .val (.int .i64 s0_1), .val (.int .i64 s0_2), .val (.bool s0_3), .val (.int .i64 s0_4), .val (.int .i64 s0_5), .val (.str s0_6), .val (.row (l0_7.map e91))]] [.val (.agg [.int .i64 r1, .int .i64 r2, .str r3, .row (r4.map e91)])] [.box [.val (.row (r5.map e126)), .val (.int .i64 r6), .val (.int .i64 r7), .val (.bool r8), .val (.int .i64 r9), .val (.int .i64 r10), .val (.str r11), .val (.row (r12.map e91))]] := by
  obtain ⟨k, h⟩ := lim_ex h
  exact (spec_l8E_all (k + 1)).2.2.1 k _ _ _ _ _ _ _ _ _ _ _ _ _ _ _ _ _ _ _ _ h (Nat.lt_succ_self k)
theorem spec_l8Row_ev (l0_0 : List S126) (s0_1 s0_2 : Int) (s0_3 : Bool) (s0_4 s0_5 : Int) (s0_6 : ByteArray) (l0_7 : List S91) (r1 r2 : Int) (r3 : ByteArray) (r4 : List S91) (r5 : List S126) (r6 r7 : Int) (r8 : Bool) (r9 r10 : Int) (r11 : ByteArray) (r12 : List S91) (h : spec_l8Row.fv l0_0 s0_1 s0_2 s0_3 s0_4 s0_5 s0_6 l0_7 = some (r1, r2, r3, r4, r5, r6, r7, r8, r9, r10, r11, r12)) : CE (G m_) 152 [.ptr 0 0] [.box [.val (.row (l0_0.map e126)), .val (.int .i64 s0_1), .val (.int .i64 s0_2), .val (.bool s0_3), .val (.int .i64 s0_4), .val (.int .i64 s0_5), .val (.str s0_6), .val (.row (l0_7.map e91))]] [.val (.agg [.int .i64 r1, .int .i64 r2, .str r3, .row (r4.map e91)])] [.box [.val (.row (r5.map e126)), .val (.int .i64 r6), .val (.int .i64 r7), .val (.bool r8), .val (.int .i64 r9), .val (.int .i64 r10), .val (.str r11), .val (.row (r12.map e91))]] := by
  obtain ⟨k, h⟩ := lim_ex h
  exact (spec_l8E_all (k + 1)).2.2.2.1 k _ _ _ _ _ _ _ _ _ _ _ _ _ _ _ _ _ _ _ _ h (Nat.lt_succ_self k)
theorem spec_l8Unit_ev (l0_0 : List S126) (s0_1 s0_2 : Int) (s0_3 : Bool) (s0_4 s0_5 : Int) (s0_6 : ByteArray) (l0_7 : List S91) (r1 r2 : Int) (r3 : ByteArray) (r4 : List S91) (r5 : List S126) (r6 r7 : Int) (r8 : Bool) (r9 r10 : Int) (r11 : ByteArray) (r12 : List S91) (h : spec_l8Unit.fv l0_0 s0_1 s0_2 s0_3 s0_4 s0_5 s0_6 l0_7 = some (r1, r2, r3, r4, r5, r6, r7, r8, r9, r10, r11, r12)) : CE (G m_) 153 [.ptr 0 0] [.box [.val (.row (l0_0.map e126)), .val (.int .i64 s0_1), .val (.int .i64 s0_2), .val (.bool s0_3), .val (.int .i64 s0_4), .val (.int .i64 s0_5), .val (.str s0_6), .val (.row (l0_7.map e91))]] [.val (.agg [.int .i64 r1, .int .i64 r2, .str r3, .row (r4.map e91)])] [.box [.val (.row (r5.map e126)), .val (.int .i64 r6), .val (.int .i64 r7), .val (.bool r8), .val (.int .i64 r9), .val (.int .i64 r10), .val (.str r11), .val (.row (r12.map e91))]] := by
  obtain ⟨k, h⟩ := lim_ex h
  exact (spec_l8E_all (k + 1)).2.2.2.2.1 k _ _ _ _ _ _ _ _ _ _ _ _ _ _ _ _ _ _ _ _ h (Nat.lt_succ_self k)
theorem spec_l8Atom_ev (l0_0 : List S126) (s0_1 s0_2 : Int) (s0_3 : Bool) (s0_4 s0_5 : Int) (s0_6 : ByteArray) (l0_7 : List S91) (r1 r2 : Int) (r3 : ByteArray) (r4 : List S91) (r5 : List S126) (r6 r7 : Int) (r8 : Bool) (r9 r10 : Int) (r11 : ByteArray) (r12 : List S91) (h : spec_l8Atom.fv l0_0 s0_1 s0_2 s0_3 s0_4 s0_5 s0_6 l0_7 = some (r1, r2, r3, r4, r5, r6, r7, r8, r9, r10, r11, r12)) : CE (G m_) 158 [.ptr 0 0] [.box [.val (.row (l0_0.map e126)), .val (.int .i64 s0_1), .val (.int .i64 s0_2), .val (.bool s0_3), .val (.int .i64 s0_4), .val (.int .i64 s0_5), .val (.str s0_6), .val (.row (l0_7.map e91))]] [.val (.agg [.int .i64 r1, .int .i64 r2, .str r3, .row (r4.map e91)])] [.box [.val (.row (r5.map e126)), .val (.int .i64 r6), .val (.int .i64 r7), .val (.bool r8), .val (.int .i64 r9), .val (.int .i64 r10), .val (.str r11), .val (.row (r12.map e91))]] := by
  obtain ⟨k, h⟩ := lim_ex h
  exact (spec_l8E_all (k + 1)).2.2.2.2.2.1 k _ _ _ _ _ _ _ _ _ _ _ _ _ _ _ _ _ _ _ _ h (Nat.lt_succ_self k)
theorem spec_l8Named_ev (l0_0 : List S126) (s0_1 s0_2 : Int) (s0_3 : Bool) (s0_4 s0_5 : Int) (s0_6 : ByteArray) (l0_7 : List S91) (r1 r2 : Int) (r3 : ByteArray) (r4 : List S91) (r5 : List S126) (r6 r7 : Int) (r8 : Bool) (r9 r10 : Int) (r11 : ByteArray) (r12 : List S91) (h : spec_l8Named.fv l0_0 s0_1 s0_2 s0_3 s0_4 s0_5 s0_6 l0_7 = some (r1, r2, r3, r4, r5, r6, r7, r8, r9, r10, r11, r12)) : CE (G m_) 137 [.ptr 0 0] [.box [.val (.row (l0_0.map e126)), .val (.int .i64 s0_1), .val (.int .i64 s0_2), .val (.bool s0_3), .val (.int .i64 s0_4), .val (.int .i64 s0_5), .val (.str s0_6), .val (.row (l0_7.map e91))]] [.val (.agg [.int .i64 r1, .int .i64 r2, .str r3, .row (r4.map e91)])] [.box [.val (.row (r5.map e126)), .val (.int .i64 r6), .val (.int .i64 r7), .val (.bool r8), .val (.int .i64 r9), .val (.int .i64 r10), .val (.str r11), .val (.row (r12.map e91))]] := by
  obtain ⟨k, h⟩ := lim_ex h
  exact (spec_l8E_all (k + 1)).2.2.2.2.2.2.1 k _ _ _ _ _ _ _ _ _ _ _ _ _ _ _ _ _ _ _ _ h (Nat.lt_succ_self k)
theorem spec_l8Es_ev (l0_0 : List S126) (s0_1 s0_2 : Int) (s0_3 : Bool) (s0_4 s0_5 : Int) (s0_6 : ByteArray) (l0_7 : List S91) (a1 : ByteArray) (r1 : List S91) (r2 : List S126) (r3 r4 : Int) (r5 : Bool) (r6 r7 : Int) (r8 : ByteArray) (r9 : List S91) (h : spec_l8Es.fv l0_0 s0_1 s0_2 s0_3 s0_4 s0_5 s0_6 l0_7 a1 = some (r1, r2, r3, r4, r5, r6, r7, r8, r9)) : CE (G m_) 149 [.ptr 0 0, .val (.str a1)] [.box [.val (.row (l0_0.map e126)), .val (.int .i64 s0_1), .val (.int .i64 s0_2), .val (.bool s0_3), .val (.int .i64 s0_4), .val (.int .i64 s0_5), .val (.str s0_6), .val (.row (l0_7.map e91))]] [.val (.row (r1.map e91))] [.box [.val (.row (r2.map e126)), .val (.int .i64 r3), .val (.int .i64 r4), .val (.bool r5), .val (.int .i64 r6), .val (.int .i64 r7), .val (.str r8), .val (.row (r9.map e91))]] := by
  obtain ⟨k, h⟩ := lim_ex h
  exact (spec_l8E_all (k + 1)).2.2.2.2.2.2.2.1 k _ _ _ _ _ _ _ _ _ _ _ _ _ _ _ _ _ _ h (Nat.lt_succ_self k)
theorem spec_l8Left_ev (l0_0 : List S126) (s0_1 s0_2 : Int) (s0_3 : Bool) (s0_4 s0_5 : Int) (s0_6 : ByteArray) (l0_7 : List S91) (a1 r1 r2 : Int) (r3 : ByteArray) (r4 : List S91) (r5 : List S126) (r6 r7 : Int) (r8 : Bool) (r9 r10 : Int) (r11 : ByteArray) (r12 : List S91) (h : spec_l8Left.fv l0_0 s0_1 s0_2 s0_3 s0_4 s0_5 s0_6 l0_7 a1 = some (r1, r2, r3, r4, r5, r6, r7, r8, r9, r10, r11, r12)) : CE (G m_) 154 [.ptr 0 0, .val (.int .i64 a1)] [.box [.val (.row (l0_0.map e126)), .val (.int .i64 s0_1), .val (.int .i64 s0_2), .val (.bool s0_3), .val (.int .i64 s0_4), .val (.int .i64 s0_5), .val (.str s0_6), .val (.row (l0_7.map e91))]] [.val (.agg [.int .i64 r1, .int .i64 r2, .str r3, .row (r4.map e91)])] [.box [.val (.row (r5.map e126)), .val (.int .i64 r6), .val (.int .i64 r7), .val (.bool r8), .val (.int .i64 r9), .val (.int .i64 r10), .val (.str r11), .val (.row (r12.map e91))]] := by
  obtain ⟨k, h⟩ := lim_ex h
  exact (spec_l8E_all (k + 1)).2.2.2.2.2.2.2.2 k _ _ _ _ _ _ _ _ _ _ _ _ _ _ _ _ _ _ _ _ _ h (Nat.lt_succ_self k)
end Go.Proofs.YtchhkbkbbglgbaaGreatDoor.TFnOps
