/- The walks of the functions that FnExactRexParse reaches, through the abstract machine. -/
import Derived.Test.YtccldchklemogaaAFnExactRexParseh
import Derived.Test.YtccldchklemogaaAFnExactRexParsex0
import Derived.Test.YtccldchklemogaaFFnExactRexParse
import Derived.Test.YtccldchklemogaaProg
set_option maxHeartbeats 4000000
set_option maxRecDepth 100000
set_option linter.unusedVariables false
set_option linter.unusedSimpArgs false
namespace Go.Proofs.Ytccldchklemogaa.TFnExactRexParse
open Go Go.RowKit Go.Proofs Go.Proofs.YtccldchklemogaaW.AM Go.Proofs.Ytccldchklemogaa.QFnExactRexParse Go.Proofs.YtccldchklemogaaW.PrintWords Go.Proofs.YtccldchklemogaaW.Pgs
theorem impl_rexReader_set_ev (s0_0 : ByteArray) (s0_1 : Bool) (r1 : Int) (r2 : Int) (r3 : ByteArray) (r4 : Bool) (r5 : List S24) (r6 : ByteArray) (r7 : Bool) (h : impl_rexReader_set.fv s0_0 s0_1 = some (r1, r2, r3, r4, r5, r6, r7)) : CE G 71 [.ptr 0 0] [.box [.val (.str s0_0), .val (.bool s0_1)]] [.sp 16] [.box [.val (.str r6), .val (.bool r7)], .vbox [.val (.int .i64 r1), .val (.int .i64 r2), .val (.str r3), .val (.bool r4), .ref 17 0], .tree 24 5 (r5.map e24) 0] := by
  obtain ⟨k, h⟩ := lim_ex h
  refine CE.mk ⟨Try.f71, _, rfl, rfl, ⟨by kernel_rfl, Nat.le_of_ble_eq_true rfl, Nat.le_of_ble_eq_true rfl⟩, ?_⟩
  rcases k with _ | k
  · exact (run_zero h).elim
  rw [run_succ, impl_rexReader_set.B] at h
  have h_ := evO h; clear h; obtain ⟨t15, ht, h⟩ := h_
  refine zz ?_
  refine Exists.intro _ (Exists.intro _ (And.intro (impl_rexReader_take_ev (h := ht)) ?_))
  have h_ := evO h; clear h; obtain ⟨t21, ht, h⟩ := h_
  refine zz ?_
  refine Exists.intro _ (And.intro (orc78 (h := ht)) ?_)
  refine zz ?_
  refine br (iP h) ?_ ?_ <;> (clear h; intro c h)
  ·replace h := evR h; cases h
   refine zz ?_
   first | refine ⟨trivial, [460800016, 2000040960], [(2000040960, 0, 0)], ⟨rfl, ⟨trivial, trivial⟩⟩, _, rfl, _, rfl, ?_⟩ | refine ⟨[460800016, 2000040960], [(2000040960, 0, 0)], ⟨rfl, ⟨trivial, trivial⟩⟩, _, rfl, _, rfl, ?_⟩
   repeat' (first | (refine And.intro ?_ ?_) | rfl)
  have h_ := gP h; clear h; obtain ⟨c, h⟩ := h_
  have h_ := gP h; clear h; obtain ⟨c, h⟩ := h_
  have h_ := gP h; clear h; obtain ⟨c, h⟩ := h_
  have h_ := gP h; clear h; obtain ⟨c, h⟩ := h_
  have h_ := gP h; clear h; obtain ⟨c, h⟩ := h_
  refine zz ?_
  refine Exists.intro (List.map VV.bool (List.replicate 256 false)) (And.intro zrow ?_)
  replace h := evT h
  refine zz ?_
  refine loopJ (fun kq fr hp => ∃ (x5 : ByteArray) (x6 : List Bool) (x7 : Int) (y2000008224 : List S24) (x1000 : ByteArray) (x1001 : Bool) (x531_0 : Int) (x531_1 : Int) (x531_2 : ByteArray) (x531_3 : Bool) (g4112 : Nat) (g2000008224 : Nat), run impl_rexReader_set.B kq (.l0 x5 x6 x7 y2000008224 x1000 x1001 x531_0 x531_1 x531_2 x531_3) = some (r1, r2, r3, r4, r5, r6, r7) ∧ (∃ fr0, fr = puts [(0, .one (.ptr 0 0)), (2, .one (.ptr 16 0)), (3, .one (.ptr 531 0)), (5, .one (.val (.str x5))), (6, .one (.ref 4112 g4112)), (7, .one (.val (.int .i64 x7)))] fr0) ∧ hp = (upd 0 (.box [.val (.str x1000), .val (.bool x1001)]) (upd 16 (.box [.val (.int .i64 0), .val (.int .i64 0), .val (.str (⟨#[]⟩ : ByteArray)), .val (.bool false), .nilrow]) (upd 531 (.box [.val (.int .i64 x531_0), .val (.int .i64 x531_1), .val (.str x531_2), .val (.bool x531_3), .ref 2000008224 g2000008224]) (upd 4112 (.own 4 1 (x6.map VV.bool) g4112 false) (upd 2000008224 (.tree 24 5 (y2000008224.map e24) g2000008224) (fun _ => none))))))) k ⟨[(0, 0), (16, 16), (531, 531), (4112, 4112), (2000008224, 2000008224)], rfl, _, zfuel, _, _, _, _, _, _, _, _, _, _, 0, 0, h, leafFr [0, 2, 3, 5, 6, 7] (by kernel_rfl), by kernel_rfl⟩ ?_
  clear h; rintro k hle _ _ ⟨x5, x6, x7, y2000008224, x1000, x1001, x531_0, x531_1, x531_2, x531_3, g4112, g2000008224, h, ⟨fr0, rfl⟩, rfl⟩
  rcases k with _ | k
  · exact (run_zero h).elim
  rw [run_succ, impl_rexReader_set.B] at h
  refine zz ?_
  refine br (iP h) ?_ ?_ <;> (clear h; intro c h)
  ·have h_ := gP h; clear h; obtain ⟨c, h⟩ := h_
   refine zz ?_
   refine cutJ (n := 70) (fun fr hp => ∃ kq, kq ≤ k ∧ ∃ (x5 : ByteArray) (x6 : List Bool) (x7 : Int) (x8 : Int) (x9 : Int) (y2000008224 : List S24) (x1000 : ByteArray) (x1001 : Bool) (x531_0 : Int) (x531_1 : Int) (x531_2 : ByteArray) (x531_3 : Bool) (g4112 : Nat) (g2000008224 : Nat), run impl_rexReader_set.B kq (.j2 x5 x6 x7 x8 x9 y2000008224 x1000 x1001 x531_0 x531_1 x531_2 x531_3) = some (r1, r2, r3, r4, r5, r6, r7) ∧ (∃ fr0, fr = puts [(0, .one (.ptr 0 0)), (2, .one (.ptr 16 0)), (3, .one (.ptr 531 0)), (5, .one (.val (.str x5))), (6, .one (.ref 4112 g4112)), (7, .one (.val (.int .i64 x7))), (8, .one (.val (.int .i64 x8))), (9, .one (.val (.int .i64 x9)))] fr0) ∧ hp = (upd 0 (.box [.val (.str x1000), .val (.bool x1001)]) (upd 16 (.box [.val (.int .i64 0), .val (.int .i64 0), .val (.str (⟨#[]⟩ : ByteArray)), .val (.bool false), .nilrow]) (upd 531 (.box [.val (.int .i64 x531_0), .val (.int .i64 x531_1), .val (.str x531_2), .val (.bool x531_3), .ref 2000008224 g2000008224]) (upd 4112 (.own 4 1 (x6.map VV.bool) g4112 false) (upd 2000008224 (.tree 24 5 (y2000008224.map e24) g2000008224) (fun _ => none))))))) ?_ ?_
   ·refine zz ?_
    refine cutJ (n := 200013) (fun fr hp => ∃ kq, kq ≤ k ∧ ∃ (x5 : ByteArray) (x6 : List Bool) (x7 : Int) (x8 : Int) (x9 : Int) (x70 : Bool) (y2000008224 : List S24) (x1000 : ByteArray) (x1001 : Bool) (x531_0 : Int) (x531_1 : Int) (x531_2 : ByteArray) (x531_3 : Bool) (g4112 : Nat) (g2000008224 : Nat), run impl_rexReader_set.B kq (.j1 x5 x6 x7 x8 x9 x70 y2000008224 x1000 x1001 x531_0 x531_1 x531_2 x531_3) = some (r1, r2, r3, r4, r5, r6, r7) ∧ (∃ fr0, fr = puts [(0, .one (.ptr 0 0)), (2, .one (.ptr 16 0)), (3, .one (.ptr 531 0)), (5, .one (.val (.str x5))), (6, .one (.ref 4112 g4112)), (7, .one (.val (.int .i64 x7))), (8, .one (.val (.int .i64 x8))), (9, .one (.val (.int .i64 x9))), (70, .one (.val (.bool x70)))] fr0) ∧ hp = (upd 0 (.box [.val (.str x1000), .val (.bool x1001)]) (upd 16 (.box [.val (.int .i64 0), .val (.int .i64 0), .val (.str (⟨#[]⟩ : ByteArray)), .val (.bool false), .nilrow]) (upd 531 (.box [.val (.int .i64 x531_0), .val (.int .i64 x531_1), .val (.str x531_2), .val (.bool x531_3), .ref 2000008224 g2000008224]) (upd 4112 (.own 4 1 (x6.map VV.bool) g4112 false) (upd 2000008224 (.tree 24 5 (y2000008224.map e24) g2000008224) (fun _ => none))))))) ?_ ?_
    ·refine zz ?_
     refine br (iP h) ?_ ?_ <;> (clear h; intro c h)
     rotate_left
     ·refine zr ?_
      refine zr ?_
      refine zr ?_
      refine zr ?_
      refine zr ?_
      replace h := evT h
      refine zz ?_
      exact ⟨[(0, 0), (16, 16), (531, 531), (4112, 4112), (2000008224, 2000008224)], rfl, _, zfuel, _, _, _, _, _, _, _, _, _, _, _, _, _, g4112, g2000008224, h, leafFr [0, 2, 3, 5, 6, 7, 8, 9, 70] (by kernel_rfl), by kernel_rfl⟩
     refine zl ?_
     refine zl ?_
     refine zl ?_
     have h_ := gP h; clear h; obtain ⟨c, h⟩ := h_
     have h_ := gP h; clear h; obtain ⟨c, h⟩ := h_
     refine zl ?_
     refine zl ?_
     replace h := evT h
     refine zz ?_
     exact ⟨[(0, 0), (16, 16), (531, 531), (4112, 4112), (2000008224, 2000008224)], rfl, _, zfuel, _, _, _, _, _, _, _, _, _, _, _, _, _, g4112, g2000008224, h, leafFr [0, 2, 3, 5, 6, 7, 8, 9, 70] (by kernel_rfl), by kernel_rfl⟩
    clear h; rintro _ _ ⟨k, hle, x5, x6, x7, x8, x9, x70, y2000008224, x1000, x1001, x531_0, x531_1, x531_2, x531_3, g4112, g2000008224, h, ⟨fr0, rfl⟩, rfl⟩
    rcases k with _ | k
    · exact (run_zero h).elim
    rw [run_succ, impl_rexReader_set.B] at h
    refine zz ?_
    refine br (iP h) ?_ ?_ <;> (clear h; intro c h)
    rotate_left
    ·replace h := evT h
     refine zz ?_
     exact ⟨[(0, 0), (16, 16), (531, 531), (4112, 4112), (2000008224, 2000008224)], rfl, _, zfuel, _, _, _, _, _, _, _, _, _, _, _, _, g4112, g2000008224, h, leafFr [0, 2, 3, 5, 6, 7, 8, 9] (by kernel_rfl), by kernel_rfl⟩
    have h_ := gP h; clear h; obtain ⟨c, h⟩ := h_
    have h_ := gP h; clear h; obtain ⟨c, h⟩ := h_
    refine zz ?_
    refine brW (iP h) ?_ ?_ <;> (clear h; intro c h)
    ·refine zl ?_
     refine zl ?_
     refine zr ?_
     replace h := evT h
     refine zz ?_
     exact ⟨[(0, 0), (16, 16), (531, 531), (4112, 4112), (2000008224, 2000008224)], rfl, _, zfuel, _, _, _, _, _, _, _, _, _, _, _, _, g4112, g2000008224, h, leafFr [0, 2, 3, 5, 6, 7, 8, 9] (by kernel_rfl), by kernel_rfl⟩
    refine zr ?_
    refine zr ?_
    refine zl ?_
    replace h := evT h
    refine zz ?_
    exact ⟨[(0, 0), (16, 16), (531, 531), (4112, 4112), (2000008224, 2000008224)], rfl, _, zfuel, _, _, _, _, _, _, _, _, _, _, _, _, g4112, g2000008224, h, leafFr [0, 2, 3, 5, 6, 7, 8, 9] (by kernel_rfl), by kernel_rfl⟩
   clear h; rintro _ _ ⟨k, hle, x5, x6, x7, x8, x9, y2000008224, x1000, x1001, x531_0, x531_1, x531_2, x531_3, g4112, g2000008224, h, ⟨fr0, rfl⟩, rfl⟩
   rcases k with _ | k
   · exact (run_zero h).elim
   rw [run_succ, impl_rexReader_set.B] at h
   replace h := evT h
   refine zz ?_
   refine loopJ (fun kq fr hp => ∃ (x5 : ByteArray) (x6 : List Bool) (x7 : Int) (x9 : Int) (x10 : Int) (y2000008224 : List S24) (x1000 : ByteArray) (x1001 : Bool) (x531_0 : Int) (x531_1 : Int) (x531_2 : ByteArray) (x531_3 : Bool) (g4112 : Nat) (g2000008224 : Nat), run impl_rexReader_set.B kq (.l1 x5 x6 x7 x9 x10 y2000008224 x1000 x1001 x531_0 x531_1 x531_2 x531_3) = some (r1, r2, r3, r4, r5, r6, r7) ∧ (∃ fr0, fr = puts [(0, .one (.ptr 0 0)), (2, .one (.ptr 16 0)), (3, .one (.ptr 531 0)), (5, .one (.val (.str x5))), (6, .one (.ref 4112 g4112)), (7, .one (.val (.int .i64 x7))), (9, .one (.val (.int .i64 x9))), (10, .one (.val (.int .i64 x10)))] fr0) ∧ hp = (upd 0 (.box [.val (.str x1000), .val (.bool x1001)]) (upd 16 (.box [.val (.int .i64 0), .val (.int .i64 0), .val (.str (⟨#[]⟩ : ByteArray)), .val (.bool false), .nilrow]) (upd 531 (.box [.val (.int .i64 x531_0), .val (.int .i64 x531_1), .val (.str x531_2), .val (.bool x531_3), .ref 2000008224 g2000008224]) (upd 4112 (.own 4 1 (x6.map VV.bool) g4112 false) (upd 2000008224 (.tree 24 5 (y2000008224.map e24) g2000008224) (fun _ => none))))))) k ⟨[(0, 0), (16, 16), (531, 531), (4112, 4112), (2000008224, 2000008224)], rfl, _, zfuel, _, _, _, _, _, _, _, _, _, _, _, _, g4112, g2000008224, h, leafFr [0, 2, 3, 5, 6, 7, 9, 10] (by kernel_rfl), by kernel_rfl⟩ ?_
   clear h; rintro k hle _ _ ⟨x5, x6, x7, x9, x10, y2000008224, x1000, x1001, x531_0, x531_1, x531_2, x531_3, g4112, g2000008224, h, ⟨fr0, rfl⟩, rfl⟩
   rcases k with _ | k
   · exact (run_zero h).elim
   rw [run_succ, impl_rexReader_set.B] at h
   refine zz ?_
   refine br (iP h) ?_ ?_ <;> (clear h; intro c h)
   rotate_left
   ·replace h := evT h
    refine zz ?_
    exact ⟨[(0, 0), (16, 16), (531, 531), (4112, 4112), (2000008224, 2000008224)], rfl, _, zfuel, _, _, _, _, _, _, _, _, _, _, g4112, g2000008224, h, leafFr [0, 2, 3, 5, 6, 7] (by kernel_rfl), by kernel_rfl⟩
   have h_ := gP h; clear h; obtain ⟨c, h⟩ := h_
   have h_ := gP h; clear h; obtain ⟨c, h⟩ := h_
   refine zz ?_
   refine Exists.intro (List.map VV.bool (x6.set (x10 : Int).toNat true)) (And.intro zrow ?_)
   replace h := evT h
   refine zz ?_
   exact ⟨[(0, 0), (16, 16), (531, 531), (4112, 4112), (2000008224, 2000008224)], rfl, _, zfuel, _, _, _, _, _, _, _, _, _, _, _, _, g4112, g2000008224, h, leafFr [0, 2, 3, 5, 6, 7, 9, 10] (by kernel_rfl), by kernel_rfl⟩
  refine zz ?_
  refine Exists.intro (List.map (VV.int .u8) ([] : List Int)) (And.intro zrow ?_)
  replace h := evT h
  refine zz ?_
  refine loopJ (fun kq fr hp => ∃ (x11 : List Int) (x100 : List Bool) (x101 : Int) (x102 : Int) (y2000008224 : List S24) (x1000 : ByteArray) (x1001 : Bool) (x531_0 : Int) (x531_1 : Int) (x531_2 : ByteArray) (x531_3 : Bool) (g10768 : Nat) (g4112 : Nat) (g2000008224 : Nat), run impl_rexReader_set.B kq (.l2 x11 x100 x101 x102 y2000008224 x1000 x1001 x531_0 x531_1 x531_2 x531_3) = some (r1, r2, r3, r4, r5, r6, r7) ∧ (∃ fr0, fr = puts [(2, .one (.ptr 16 0)), (3, .one (.ptr 531 0)), (11, .one (.ref 10768 g10768)), (100, .one (.ref 4112 g4112)), (101, .one (.val (.int .i64 x101))), (102, .one (.val (.int .i64 x102)))] fr0) ∧ hp = (upd 0 (.box [.val (.str x1000), .val (.bool x1001)]) (upd 16 (.box [.val (.int .i64 0), .val (.int .i64 0), .val (.str (⟨#[]⟩ : ByteArray)), .val (.bool false), .nilrow]) (upd 531 (.box [.val (.int .i64 x531_0), .val (.int .i64 x531_1), .val (.str x531_2), .val (.bool x531_3), .ref 2000008224 g2000008224]) (upd 4112 (.own 4 1 (x100.map VV.bool) g4112 false) (upd 10768 (.own 5 1 (x11.map (VV.int .u8)) g10768 false) (upd 2000008224 (.tree 24 5 (y2000008224.map e24) g2000008224) (fun _ => none)))))))) k ⟨[(0, 0), (16, 16), (531, 531), (4112, 4112), (10768, 10768), (2000008224, 2000008224)], rfl, _, zfuel, _, _, _, _, _, _, _, _, _, _, _, 0, g4112, g2000008224, h, leafFr [2, 3, 11, 100, 101, 102] (by kernel_rfl), by kernel_rfl⟩ ?_
  clear h; rintro k hle _ _ ⟨x11, x100, x101, x102, y2000008224, x1000, x1001, x531_0, x531_1, x531_2, x531_3, g10768, g4112, g2000008224, h, ⟨fr0, rfl⟩, rfl⟩
  rcases k with _ | k
  · exact (run_zero h).elim
  rw [run_succ, impl_rexReader_set.B] at h
  refine zz ?_
  refine br (iP h) ?_ ?_ <;> (clear h; intro c h)
  rotate_left
  ·replace h := evR h; cases h
   refine zz ?_
   first | refine ⟨trivial, [460800016, 2000008224], [(2000008224, g2000008224, 0)], ⟨rfl, ⟨trivial, trivial⟩⟩, _, rfl, _, rfl, ?_⟩ | refine ⟨[460800016, 2000008224], [(2000008224, g2000008224, 0)], ⟨rfl, ⟨trivial, trivial⟩⟩, _, rfl, _, rfl, ?_⟩
   repeat' (first | (refine And.intro ?_ ?_) | rfl)
  have h_ := gP h; clear h; obtain ⟨c, h⟩ := h_
  have h_ := gP h; clear h; obtain ⟨c, h⟩ := h_
  refine zz ?_
  refine br (iP h) ?_ ?_ <;> (clear h; intro c h)
  rotate_left
  ·replace h := evT h
   refine zz ?_
   exact ⟨[(0, 0), (16, 16), (531, 531), (4112, 4112), (10768, 10768), (2000008224, 2000008224)], rfl, _, zfuel, _, _, _, _, _, _, _, _, _, _, _, g10768, g4112, g2000008224, h, leafFr [2, 3, 11, 100, 101, 102] (by kernel_rfl), by kernel_rfl⟩
  refine zz ?_
  refine Exists.intro (List.map (VV.int .u8) ([((x102) % 256)] : List Int)) (And.intro zrow ?_)
  have h_ := gP h; clear h; obtain ⟨c, h⟩ := h_
  refine zz ?_
  refine Exists.intro (List.map (VV.int .u8) (x11 ++ [((x102) % 256)])) (And.intro zrow ?_)
  replace h := evT h
  refine zz ?_
  exact ⟨[(0, 0), (16, 16), (531, 531), (4112, 4112), (10768, 10768), (2000008224, 2000008224)], rfl, _, zfuel, _, _, _, _, _, _, _, _, _, _, _, (g10768 + 1), g4112, g2000008224, h, leafFr [2, 3, 11, 100, 101, 102] (by kernel_rfl), by kernel_rfl⟩
theorem impl_repeatOf_ev (a0 : Int) (r : Int) (h : impl_repeatOf.f a0 = some r) : CE G 58 [.val (.int .u8 a0)] [] [.val (.int .i64 r)] [] := by
  refine CE.mk ⟨Try.f58, _, rfl, rfl, ⟨by kernel_rfl, Nat.le_of_ble_eq_true rfl, Nat.le_of_ble_eq_true rfl⟩, ?_⟩
  rw [impl_repeatOf.f] at h
  refine zz ?_
  refine br (iteS h) ?_ ?_ <;> (clear h; intro c h)
  ·cases h
   refine zz ?_
   exact zend
  refine zz ?_
  refine br (iteS h) ?_ ?_ <;> (clear h; intro c h)
  ·cases h
   refine zz ?_
   exact zend
  refine zz ?_
  refine br (iteS h) ?_ ?_ <;> (clear h; intro c h)
  ·cases h
   refine zz ?_
   exact zend
  cases h
  refine zz ?_
  exact zend
theorem impl_rexReader_pattern_all : ∀ n, (∀ (k : Nat) (s0_0 : ByteArray) (s0_1 : Bool) (r1 : Int) (r2 : Int) (r3 : ByteArray) (r4 : Bool) (r5 : List S24) (r6 : ByteArray) (r7 : Bool) (h : run impl_rexReader_pattern.B k (.impl_rexReader_pattern_f s0_0 s0_1) = some (r1, r2, r3, r4, r5, r6, r7)) (hk : k < n), CE G 21 [.ptr 0 0] [.box [.val (.str s0_0), .val (.bool s0_1)]] [.sp 16] [.box [.val (.str r6), .val (.bool r7)], .vbox [.val (.int .i64 r1), .val (.int .i64 r2), .val (.str r3), .val (.bool r4), .ref 17 0], .tree 24 5 (r5.map e24) 0]) ∧ (∀ (k : Nat) (s0_0 : ByteArray) (s0_1 : Bool) (r1 : Int) (r2 : Int) (r3 : ByteArray) (r4 : Bool) (r5 : List S24) (r6 : ByteArray) (r7 : Bool) (h : run impl_rexReader_pattern.B k (.impl_rexReader_part_f s0_0 s0_1) = some (r1, r2, r3, r4, r5, r6, r7)) (hk : k < n), CE G 38 [.ptr 0 0] [.box [.val (.str s0_0), .val (.bool s0_1)]] [.sp 16] [.box [.val (.str r6), .val (.bool r7)], .vbox [.val (.int .i64 r1), .val (.int .i64 r2), .val (.str r3), .val (.bool r4), .ref 17 0], .tree 24 5 (r5.map e24) 0]) ∧ (∀ (k : Nat) (s0_0 : ByteArray) (s0_1 : Bool) (r1 : Int) (r2 : Int) (r3 : ByteArray) (r4 : Bool) (r5 : List S24) (r6 : ByteArray) (r7 : Bool) (h : run impl_rexReader_pattern.B k (.impl_rexReader_piece_f s0_0 s0_1) = some (r1, r2, r3, r4, r5, r6, r7)) (hk : k < n), CE G 49 [.ptr 0 0] [.box [.val (.str s0_0), .val (.bool s0_1)]] [.sp 16] [.box [.val (.str r6), .val (.bool r7)], .vbox [.val (.int .i64 r1), .val (.int .i64 r2), .val (.str r3), .val (.bool r4), .ref 17 0], .tree 24 5 (r5.map e24) 0]) ∧ (∀ (k : Nat) (s0_0 : ByteArray) (s0_1 : Bool) (r1 : Int) (r2 : Int) (r3 : ByteArray) (r4 : Bool) (r5 : List S24) (r6 : ByteArray) (r7 : Bool) (h : run impl_rexReader_pattern.B k (.impl_rexReader_atom_f s0_0 s0_1) = some (r1, r2, r3, r4, r5, r6, r7)) (hk : k < n), CE G 57 [.ptr 0 0] [.box [.val (.str s0_0), .val (.bool s0_1)]] [.sp 16] [.box [.val (.str r6), .val (.bool r7)], .vbox [.val (.int .i64 r1), .val (.int .i64 r2), .val (.str r3), .val (.bool r4), .ref 17 0], .tree 24 5 (r5.map e24) 0]) := by
  intro n
  induction n with
  | zero => exact ⟨by intros; omega, by intros; omega, by intros; omega, by intros; omega⟩
  | succ n ih =>
    refine ⟨?_, ?_, ?_, ?_⟩
    · intro k s0_0 s0_1 r1 r2 r3 r4 r5 r6 r7 h hk
      refine CE.mk ⟨Try.f21, _, rfl, rfl, ⟨by kernel_rfl, Nat.le_of_ble_eq_true rfl, Nat.le_of_ble_eq_true rfl⟩, ?_⟩
      rcases k with _ | k
      · exact (run_zero h).elim
      rw [run_succ, impl_rexReader_pattern.B] at h
      have h_ := evA h; clear h; obtain ⟨t5, ht, h⟩ := h_
      refine zz ?_
      refine Exists.intro _ (Exists.intro _ (And.intro (ih.2.1 _ (h := ht) (hk := zfuel)) ?_))
      refine zz ?_
      refine Exists.intro (List.map e24 ([(⟨t5.1, t5.2.1, t5.2.2.1, t5.2.2.2.1, t5.2.2.2.2.1⟩ : S24)] : List S24)) (And.intro zrow ?_)
      replace h := evT h
      refine zz ?_
      refine loopJ (fun kq fr hp => ∃ (x3 : List S24) (x1000 : ByteArray) (x1001 : Bool) (g530 : Nat), run impl_rexReader_pattern.B kq (.impl_rexReader_pattern_l0 x3 x1000 x1001) = some (r1, r2, r3, r4, r5, r6, r7) ∧ (∃ fr0, fr = puts [(0, .one (.ptr 0 0)), (2, .one (.ptr 16 0)), (3, .one (.ref 530 g530))] fr0) ∧ hp = (upd 0 (.box [.val (.str x1000), .val (.bool x1001)]) (upd 16 (.box [.val (.int .i64 0), .val (.int .i64 0), .val (.str (⟨#[]⟩ : ByteArray)), .val (.bool false), .nilrow]) (upd 530 (.tree 24 5 (x3.map e24) g530) (fun _ => none))))) k ⟨[(0, 0), (16, 16), (530, 530)], rfl, _, zfuel, _, _, _, 0, h, leafFr [0, 2, 3] (by kernel_rfl), by kernel_rfl⟩ ?_
      clear h; rintro k hle _ _ ⟨x3, x1000, x1001, g530, h, ⟨fr0, rfl⟩, rfl⟩
      rcases k with _ | k
      · exact (run_zero h).elim
      rw [run_succ, impl_rexReader_pattern.B] at h
      have h_ := evO h; clear h; obtain ⟨t8, ht, h⟩ := h_
      refine zz ?_
      refine Exists.intro _ (Exists.intro _ (And.intro (impl_rexReader_take_ev (h := ht)) ?_))
      refine zz ?_
      refine br (iP h) ?_ ?_ <;> (clear h; intro c h)
      rotate_left
      ·refine zz ?_
       refine br (iP h) ?_ ?_ <;> (clear h; intro c h)
       rotate_left
       ·replace h := evR h; cases h
        refine zz ?_
        first | refine ⟨trivial, [460800016, 530], [(530, g530, 0)], ⟨rfl, ⟨trivial, trivial⟩⟩, _, rfl, _, rfl, ?_⟩ | refine ⟨[460800016, 530], [(530, g530, 0)], ⟨rfl, ⟨trivial, trivial⟩⟩, _, rfl, _, rfl, ?_⟩
        repeat' (first | (refine And.intro ?_ ?_) | rfl)
       have h_ := gP h; clear h; obtain ⟨c, h⟩ := h_
       replace h := evR h; cases h
       refine zz ?_
       first | refine ⟨trivial, [460800016, 2000040992], [(2000040992, 0, 0)], ⟨rfl, ⟨trivial, trivial⟩⟩, _, rfl, _, rfl, ?_⟩ | refine ⟨[460800016, 2000040992], [(2000040992, 0, 0)], ⟨rfl, ⟨trivial, trivial⟩⟩, _, rfl, _, rfl, ?_⟩
       repeat' (first | (refine And.intro ?_ ?_) | rfl)
      have h_ := evA h; clear h; obtain ⟨t11, ht, h⟩ := h_
      refine zz ?_
      refine Exists.intro _ (Exists.intro _ (And.intro (ih.2.1 _ (h := ht) (hk := zfuel)) ?_))
      refine zz ?_
      refine Exists.intro (List.map e24 ([(⟨t11.1, t11.2.1, t11.2.2.1, t11.2.2.2.1, t11.2.2.2.2.1⟩ : S24)] : List S24)) (And.intro zrow ?_)
      have h_ := gP h; clear h; obtain ⟨c, h⟩ := h_
      refine zz ?_
      refine Exists.intro (List.map e24 (x3 ++ [(⟨t11.1, t11.2.1, t11.2.2.1, t11.2.2.2.1, t11.2.2.2.2.1⟩ : S24)])) (And.intro zrow ?_)
      replace h := evT h
      refine zz ?_
      exact ⟨[(0, 0), (16, 16), (530, 530)], rfl, _, zfuel, _, _, _, (g530 + 1), h, leafFr [0, 2, 3] (by kernel_rfl), by kernel_rfl⟩
    · intro k s0_0 s0_1 r1 r2 r3 r4 r5 r6 r7 h hk
      refine CE.mk ⟨Try.f38, _, rfl, rfl, ⟨by kernel_rfl, Nat.le_of_ble_eq_true rfl, Nat.le_of_ble_eq_true rfl⟩, ?_⟩
      rcases k with _ | k
      · exact (run_zero h).elim
      rw [run_succ, impl_rexReader_pattern.B] at h
      refine zz ?_
      refine Exists.intro (List.map e24 ([] : List S24)) (And.intro zrow ?_)
      refine zz ?_
      refine cutJ (n := 100000) (fun fr hp => ∃ kq, kq ≤ k ∧ ∃ (x3 : List S24) (x1000 : ByteArray) (x1001 : Bool) (g528 : Nat), run impl_rexReader_pattern.B kq (.impl_rexReader_part_j1 x3 x1000 x1001) = some (r1, r2, r3, r4, r5, r6, r7) ∧ (∃ fr0, fr = puts [(2, .one (.ptr 16 0)), (3, .one (.ref 528 g528))] fr0) ∧ hp = (upd 0 (.box [.val (.str x1000), .val (.bool x1001)]) (upd 16 (.box [.val (.int .i64 0), .val (.int .i64 0), .val (.str (⟨#[]⟩ : ByteArray)), .val (.bool false), .nilrow]) (upd 528 (.tree 24 5 (x3.map e24) g528) (fun _ => none))))) ?_ ?_
      ·replace h := evT h
       refine zz ?_
       refine loopJ (fun kq fr hp => ∃ (x3 : List S24) (x1000 : ByteArray) (x1001 : Bool) (g528 : Nat), run impl_rexReader_pattern.B kq (.impl_rexReader_part_l0 x3 x1000 x1001) = some (r1, r2, r3, r4, r5, r6, r7) ∧ (∃ fr0, fr = puts [(0, .one (.ptr 0 0)), (2, .one (.ptr 16 0)), (3, .one (.ref 528 g528))] fr0) ∧ hp = (upd 0 (.box [.val (.str x1000), .val (.bool x1001)]) (upd 16 (.box [.val (.int .i64 0), .val (.int .i64 0), .val (.str (⟨#[]⟩ : ByteArray)), .val (.bool false), .nilrow]) (upd 528 (.tree 24 5 (x3.map e24) g528) (fun _ => none))))) k ⟨[(0, 0), (16, 16), (528, 528)], rfl, _, zfuel, _, _, _, 0, h, leafFr [0, 2, 3] (by kernel_rfl), by kernel_rfl⟩ ?_
       clear h; rintro k hle _ _ ⟨x3, x1000, x1001, g528, h, ⟨fr0, rfl⟩, rfl⟩
       rcases k with _ | k
       · exact (run_zero h).elim
       rw [run_succ, impl_rexReader_pattern.B] at h
       have h_ := evO h; clear h; obtain ⟨t9, ht, h⟩ := h_
       refine zz ?_
       refine Exists.intro _ (Exists.intro _ (And.intro (impl_rexReader_next_ev (h := ht)) ?_))
       refine zz ?_
       refine brX (iP h) ?_ ?_ <;> (clear h; intro c h)
       rotate_left
       ·refine zr ?_
        refine zl ?_
        refine zr ?_
        refine zr ?_
        refine zl ?_
        refine zl ?_
        replace h := evT h
        refine zz ?_
        exact ⟨[(0, 0), (16, 16), (528, 528)], rfl, _, zfuel, _, _, _, g528, h, leafFr [2, 3] (by kernel_rfl), by kernel_rfl⟩
       refine zl ?_
       refine zr ?_
       refine zz ?_
       refine brW (iP h) ?_ ?_ <;> (clear h; intro c h)
       rotate_left
       ·refine zr ?_
        refine zl ?_
        refine zl ?_
        replace h := evT h
        refine zz ?_
        exact ⟨[(0, 0), (16, 16), (528, 528)], rfl, _, zfuel, _, _, _, g528, h, leafFr [2, 3] (by kernel_rfl), by kernel_rfl⟩
       refine zl ?_
       refine zr ?_
       refine zz ?_
       refine br (iP h) ?_ ?_ <;> (clear h; intro c h)
       ·replace h := evT h
        refine zz ?_
        exact ⟨[(0, 0), (16, 16), (528, 528)], rfl, _, zfuel, _, _, _, g528, h, leafFr [2, 3] (by kernel_rfl), by kernel_rfl⟩
       have h_ := evA h; clear h; obtain ⟨t24, ht, h⟩ := h_
       refine zz ?_
       refine Exists.intro _ (Exists.intro _ (And.intro (ih.2.2.1 _ (h := ht) (hk := zfuel)) ?_))
       refine zz ?_
       refine Exists.intro (List.map e24 ([(⟨t24.1, t24.2.1, t24.2.2.1, t24.2.2.2.1, t24.2.2.2.2.1⟩ : S24)] : List S24)) (And.intro zrow ?_)
       have h_ := gP h; clear h; obtain ⟨c, h⟩ := h_
       refine zz ?_
       refine Exists.intro (List.map e24 (x3 ++ [(⟨t24.1, t24.2.1, t24.2.2.1, t24.2.2.2.1, t24.2.2.2.2.1⟩ : S24)])) (And.intro zrow ?_)
       replace h := evT h
       refine zz ?_
       exact ⟨[(0, 0), (16, 16), (528, 528)], rfl, _, zfuel, _, _, _, (g528 + 1), h, leafFr [0, 2, 3] (by kernel_rfl), by kernel_rfl⟩
      clear h; rintro _ _ ⟨k, hle, x3, x1000, x1001, g528, h, ⟨fr0, rfl⟩, rfl⟩
      rcases k with _ | k
      · exact (run_zero h).elim
      rw [run_succ, impl_rexReader_pattern.B] at h
      refine zz ?_
      refine br (iP h) ?_ ?_ <;> (clear h; intro c h)
      ·replace h := evR h; cases h
       refine zz ?_
       first | refine ⟨trivial, [460800016, 2000057344], [(2000057344, 0, 0)], ⟨rfl, ⟨trivial, trivial⟩⟩, _, rfl, _, rfl, ?_⟩ | refine ⟨[460800016, 2000057344], [(2000057344, 0, 0)], ⟨rfl, ⟨trivial, trivial⟩⟩, _, rfl, _, rfl, ?_⟩
       repeat' (first | (refine And.intro ?_ ?_) | rfl)
      refine zz ?_
      refine br (iP h) ?_ ?_ <;> (clear h; intro c h)
      rotate_left
      ·replace h := evR h; cases h
       refine zz ?_
       first | refine ⟨trivial, [460800016, 528], [(528, g528, 0)], ⟨rfl, ⟨trivial, trivial⟩⟩, _, rfl, _, rfl, ?_⟩ | refine ⟨[460800016, 528], [(528, g528, 0)], ⟨rfl, ⟨trivial, trivial⟩⟩, _, rfl, _, rfl, ?_⟩
       repeat' (first | (refine And.intro ?_ ?_) | rfl)
      have h_ := gP h; clear h; obtain ⟨c, h⟩ := h_
      replace h := evR h; cases h
      refine zz ?_
      first | refine ⟨trivial, [460800016, 2000073760], [(2000073760, 0, 0)], ⟨rfl, ⟨trivial, trivial⟩⟩, _, rfl, _, rfl, ?_⟩ | refine ⟨[460800016, 2000073760], [(2000073760, 0, 0)], ⟨rfl, ⟨trivial, trivial⟩⟩, _, rfl, _, rfl, ?_⟩
      repeat' (first | (refine And.intro ?_ ?_) | rfl)
    · intro k s0_0 s0_1 r1 r2 r3 r4 r5 r6 r7 h hk
      refine CE.mk ⟨Try.f49, _, rfl, rfl, ⟨by kernel_rfl, Nat.le_of_ble_eq_true rfl, Nat.le_of_ble_eq_true rfl⟩, ?_⟩
      rcases k with _ | k
      · exact (run_zero h).elim
      rw [run_succ, impl_rexReader_pattern.B] at h
      have h_ := evA h; clear h; obtain ⟨t7, ht, h⟩ := h_
      refine zz ?_
      refine Exists.intro _ (Exists.intro _ (And.intro (ih.2.2.2 _ (h := ht) (hk := zfuel)) ?_))
      replace h := evT h
      refine zz ?_
      refine loopJ (fun kq fr hp => ∃ (y1008209 : List S24) (x1000 : ByteArray) (x1001 : Bool) (x530_0 : Int) (x530_1 : Int) (x530_2 : ByteArray) (x530_3 : Bool) (g1008209 : Nat), run impl_rexReader_pattern.B kq (.impl_rexReader_piece_l0 y1008209 x1000 x1001 x530_0 x530_1 x530_2 x530_3) = some (r1, r2, r3, r4, r5, r6, r7) ∧ (∃ fr0, fr = puts [(0, .one (.ptr 0 0)), (2, .one (.ptr 16 0)), (3, .one (.ptr 530 0))] fr0) ∧ hp = (upd 0 (.box [.val (.str x1000), .val (.bool x1001)]) (upd 16 (.box [.val (.int .i64 0), .val (.int .i64 0), .val (.str (⟨#[]⟩ : ByteArray)), .val (.bool false), .nilrow]) (upd 530 (.box [.val (.int .i64 x530_0), .val (.int .i64 x530_1), .val (.str x530_2), .val (.bool x530_3), .ref 1008209 g1008209]) (upd 1008209 (.tree 24 5 (y1008209.map e24) g1008209) (fun _ => none)))))) k ⟨[(0, 0), (16, 16), (530, 530), (1008209, 1008209)], rfl, _, zfuel, _, _, _, _, _, _, _, 0, h, leafFr [0, 2, 3] (by kernel_rfl), by kernel_rfl⟩ ?_
      clear h; rintro k hle _ _ ⟨y1008209, x1000, x1001, x530_0, x530_1, x530_2, x530_3, g1008209, h, ⟨fr0, rfl⟩, rfl⟩
      rcases k with _ | k
      · exact (run_zero h).elim
      rw [run_succ, impl_rexReader_pattern.B] at h
      have h_ := evO h; clear h; obtain ⟨t10, ht, h⟩ := h_
      refine zz ?_
      refine Exists.intro _ (Exists.intro _ (And.intro (impl_rexReader_next_ev (h := ht)) ?_))
      refine zz ?_
      refine brX (iP h) ?_ ?_ <;> (clear h; intro c h)
      rotate_left
      ·refine zr ?_
       refine zr ?_
       refine zl ?_
       refine zl ?_
       replace h := evR h; cases h
       refine zz ?_
       first | refine ⟨trivial, [460800016, 1008209], [(1008209, g1008209, 0)], ⟨rfl, ⟨trivial, trivial⟩⟩, _, rfl, _, rfl, ?_⟩ | refine ⟨[460800016, 1008209], [(1008209, g1008209, 0)], ⟨rfl, ⟨trivial, trivial⟩⟩, _, rfl, _, rfl, ?_⟩
       repeat' (first | (refine And.intro ?_ ?_) | rfl)
      refine zl ?_
      have h_ := evO h; clear h; obtain ⟨t17, ht, h⟩ := h_
      refine zz ?_
      refine Exists.intro _ (And.intro (impl_repeatOf_ev (h := ht)) ?_)
      refine zl ?_
      refine zr ?_
      refine zz ?_
      refine br (iP h) ?_ ?_ <;> (clear h; intro c h)
      ·replace h := evR h; cases h
       refine zz ?_
       first | refine ⟨trivial, [460800016, 1008209], [(1008209, g1008209, 0)], ⟨rfl, ⟨trivial, trivial⟩⟩, _, rfl, _, rfl, ?_⟩ | refine ⟨[460800016, 1008209], [(1008209, g1008209, 0)], ⟨rfl, ⟨trivial, trivial⟩⟩, _, rfl, _, rfl, ?_⟩
       repeat' (first | (refine And.intro ?_ ?_) | rfl)
      have h_ := gP h; clear h; obtain ⟨c, h⟩ := h_
      have h_ := evO h; clear h; obtain ⟨t30, ht, h⟩ := h_
      refine zz ?_
      refine Exists.intro _ (And.intro (impl_repeatOf_ev (h := ht)) ?_)
      refine zz ?_
      refine Exists.intro (List.map e24 ([(⟨x530_0, x530_1, x530_2, x530_3, y1008209⟩ : S24)] : List S24)) (And.intro zrow ?_)
      replace h := evT h
      refine zz ?_
      exact ⟨[(0, 0), (16, 16), (530, 530), (3091, 1008209)], rfl, _, zfuel, _, _, _, _, _, _, _, 0, h, leafFr [0, 2, 3] (by kernel_rfl), by kernel_rfl⟩
    · intro k s0_0 s0_1 r1 r2 r3 r4 r5 r6 r7 h hk
      refine CE.mk ⟨Try.f57, _, rfl, rfl, ⟨by kernel_rfl, Nat.le_of_ble_eq_true rfl, Nat.le_of_ble_eq_true rfl⟩, ?_⟩
      rcases k with _ | k
      · exact (run_zero h).elim
      rw [run_succ, impl_rexReader_pattern.B] at h
      have h_ := evO h; clear h; obtain ⟨t10, ht, h⟩ := h_
      refine zz ?_
      refine Exists.intro _ (Exists.intro _ (And.intro (impl_rexReader_next_ev (h := ht)) ?_))
      have h_ := gP h; clear h; obtain ⟨c, h⟩ := h_
      refine zz ?_
      refine br (iP h) ?_ ?_ <;> (clear h; intro c h)
      ·have h_ := evA h; clear h; obtain ⟨t25, ht, h⟩ := h_
       refine zz ?_
       refine Exists.intro _ (Exists.intro _ (And.intro (ih.1 _ (h := ht) (hk := zfuel)) ?_))
       have h_ := evO h; clear h; obtain ⟨t27, ht, h⟩ := h_
       refine zz ?_
       refine Exists.intro _ (Exists.intro _ (And.intro (impl_rexReader_take_ev (h := ht)) ?_))
       refine zz ?_
       refine brN (iP h) ?_ ?_ <;> (clear h; intro c h)
       ·replace h := evR h; cases h
        refine zz ?_
        first | refine ⟨trivial, [460800016, 1040977], [(1040977, 0, 0)], ⟨rfl, ⟨trivial, trivial⟩⟩, _, rfl, _, rfl, ?_⟩ | refine ⟨[460800016, 1040977], [(1040977, 0, 0)], ⟨rfl, ⟨trivial, trivial⟩⟩, _, rfl, _, rfl, ?_⟩
        repeat' (first | (refine And.intro ?_ ?_) | rfl)
       replace h := evR h; cases h
       refine zz ?_
       first | refine ⟨trivial, [460800016, 1040977], [(1040977, 0, 0)], ⟨rfl, ⟨trivial, trivial⟩⟩, _, rfl, _, rfl, ?_⟩ | refine ⟨[460800016, 1040977], [(1040977, 0, 0)], ⟨rfl, ⟨trivial, trivial⟩⟩, _, rfl, _, rfl, ?_⟩
       repeat' (first | (refine And.intro ?_ ?_) | rfl)
      refine zz ?_
      refine br (iP h) ?_ ?_ <;> (clear h; intro c h)
      ·replace h := evR h; cases h
       refine zz ?_
       first | refine ⟨trivial, [460800016, 2000081920], [(2000081920, 0, 0)], ⟨rfl, ⟨trivial, trivial⟩⟩, _, rfl, _, rfl, ?_⟩ | refine ⟨[460800016, 2000081920], [(2000081920, 0, 0)], ⟨rfl, ⟨trivial, trivial⟩⟩, _, rfl, _, rfl, ?_⟩
       repeat' (first | (refine And.intro ?_ ?_) | rfl)
      refine zz ?_
      refine br (iP h) ?_ ?_ <;> (clear h; intro c h)
      ·replace h := evR h; cases h
       refine zz ?_
       first | refine ⟨trivial, [460800016, 2000098304], [(2000098304, 0, 0)], ⟨rfl, ⟨trivial, trivial⟩⟩, _, rfl, _, rfl, ?_⟩ | refine ⟨[460800016, 2000098304], [(2000098304, 0, 0)], ⟨rfl, ⟨trivial, trivial⟩⟩, _, rfl, _, rfl, ?_⟩
       repeat' (first | (refine And.intro ?_ ?_) | rfl)
      refine zz ?_
      refine br (iP h) ?_ ?_ <;> (clear h; intro c h)
      ·replace h := evR h; cases h
       refine zz ?_
       first | refine ⟨trivial, [460800016, 2000114688], [(2000114688, 0, 0)], ⟨rfl, ⟨trivial, trivial⟩⟩, _, rfl, _, rfl, ?_⟩ | refine ⟨[460800016, 2000114688], [(2000114688, 0, 0)], ⟨rfl, ⟨trivial, trivial⟩⟩, _, rfl, _, rfl, ?_⟩
       repeat' (first | (refine And.intro ?_ ?_) | rfl)
      refine zz ?_
      refine br (iP h) ?_ ?_ <;> (clear h; intro c h)
      ·have h_ := evO h; clear h; obtain ⟨t45, ht, h⟩ := h_
       refine zz ?_
       refine Exists.intro _ (Exists.intro _ (And.intro (impl_rexReader_set_ev (h := ht)) ?_))
       replace h := evR h; cases h
       refine zz ?_
       first | refine ⟨trivial, [460800016, 1131089], [(1131089, 0, 0)], ⟨rfl, ⟨trivial, trivial⟩⟩, _, rfl, _, rfl, ?_⟩ | refine ⟨[460800016, 1131089], [(1131089, 0, 0)], ⟨rfl, ⟨trivial, trivial⟩⟩, _, rfl, _, rfl, ?_⟩
       repeat' (first | (refine And.intro ?_ ?_) | rfl)
      refine zz ?_
      refine br (iP h) ?_ ?_ <;> (clear h; intro c h)
      ·have h_ := evO h; clear h; obtain ⟨t50, ht, h⟩ := h_
       refine zz ?_
       refine Exists.intro _ (Exists.intro _ (And.intro (impl_rexReader_next_ev (h := ht)) ?_))
       refine zz ?_
       refine brN (iP h) ?_ ?_ <;> (clear h; intro c h)
       ·replace h := evR h; cases h
        refine zz ?_
        first | refine ⟨trivial, [460800016, 2000172032], [(2000172032, 0, 0)], ⟨rfl, ⟨trivial, trivial⟩⟩, _, rfl, _, rfl, ?_⟩ | refine ⟨[460800016, 2000172032], [(2000172032, 0, 0)], ⟨rfl, ⟨trivial, trivial⟩⟩, _, rfl, _, rfl, ?_⟩
        repeat' (first | (refine And.intro ?_ ?_) | rfl)
       have h_ := gP h; clear h; obtain ⟨c, h⟩ := h_
       replace h := evR h; cases h
       refine zz ?_
       first | refine ⟨trivial, [460800016, 2000188448], [(2000188448, 0, 0)], ⟨rfl, ⟨trivial, trivial⟩⟩, _, rfl, _, rfl, ?_⟩ | refine ⟨[460800016, 2000188448], [(2000188448, 0, 0)], ⟨rfl, ⟨trivial, trivial⟩⟩, _, rfl, _, rfl, ?_⟩
       repeat' (first | (refine And.intro ?_ ?_) | rfl)
      refine zz ?_
      refine br (iP h) ?_ ?_ <;> (clear h; intro c h)
      ·refine zl ?_
       replace h := evR h; cases h
       refine zz ?_
       first | refine ⟨trivial, [460800016, 2000229376], [(2000229376, 0, 0)], ⟨rfl, ⟨trivial, trivial⟩⟩, _, rfl, _, rfl, ?_⟩ | refine ⟨[460800016, 2000229376], [(2000229376, 0, 0)], ⟨rfl, ⟨trivial, trivial⟩⟩, _, rfl, _, rfl, ?_⟩
       repeat' (first | (refine And.intro ?_ ?_) | rfl)
      refine zz ?_
      refine br (iP h) ?_ ?_ <;> (clear h; intro c h)
      ·refine zl ?_
       replace h := evR h; cases h
       refine zz ?_
       first | refine ⟨trivial, [460800016, 2000229376], [(2000229376, 0, 0)], ⟨rfl, ⟨trivial, trivial⟩⟩, _, rfl, _, rfl, ?_⟩ | refine ⟨[460800016, 2000229376], [(2000229376, 0, 0)], ⟨rfl, ⟨trivial, trivial⟩⟩, _, rfl, _, rfl, ?_⟩
       repeat' (first | (refine And.intro ?_ ?_) | rfl)
      refine zz ?_
      refine br (iP h) ?_ ?_ <;> (clear h; intro c h)
      ·replace h := evR h; cases h
       refine zz ?_
       first | refine ⟨trivial, [460800016, 2000229376], [(2000229376, 0, 0)], ⟨rfl, ⟨trivial, trivial⟩⟩, _, rfl, _, rfl, ?_⟩ | refine ⟨[460800016, 2000229376], [(2000229376, 0, 0)], ⟨rfl, ⟨trivial, trivial⟩⟩, _, rfl, _, rfl, ?_⟩
       repeat' (first | (refine And.intro ?_ ?_) | rfl)
      replace h := evR h; cases h
      refine zz ?_
      first | refine ⟨trivial, [460800016, 2000237600], [(2000237600, 0, 0)], ⟨rfl, ⟨trivial, trivial⟩⟩, _, rfl, _, rfl, ?_⟩ | refine ⟨[460800016, 2000237600], [(2000237600, 0, 0)], ⟨rfl, ⟨trivial, trivial⟩⟩, _, rfl, _, rfl, ?_⟩
      repeat' (first | (refine And.intro ?_ ?_) | rfl)
theorem impl_rexReader_pattern_ev (s0_0 : ByteArray) (s0_1 : Bool) (r1 : Int) (r2 : Int) (r3 : ByteArray) (r4 : Bool) (r5 : List S24) (r6 : ByteArray) (r7 : Bool) (h : impl_rexReader_pattern.fv s0_0 s0_1 = some (r1, r2, r3, r4, r5, r6, r7)) : CE G 21 [.ptr 0 0] [.box [.val (.str s0_0), .val (.bool s0_1)]] [.sp 16] [.box [.val (.str r6), .val (.bool r7)], .vbox [.val (.int .i64 r1), .val (.int .i64 r2), .val (.str r3), .val (.bool r4), .ref 17 0], .tree 24 5 (r5.map e24) 0] := by
  obtain ⟨k, h⟩ := lim_ex h
  exact (impl_rexReader_pattern_all (k + 1)).1 k _ _ _ _ _ _ _ _ _ h (Nat.lt_succ_self k)
theorem impl_rexReader_part_ev (s0_0 : ByteArray) (s0_1 : Bool) (r1 : Int) (r2 : Int) (r3 : ByteArray) (r4 : Bool) (r5 : List S24) (r6 : ByteArray) (r7 : Bool) (h : impl_rexReader_part.fv s0_0 s0_1 = some (r1, r2, r3, r4, r5, r6, r7)) : CE G 38 [.ptr 0 0] [.box [.val (.str s0_0), .val (.bool s0_1)]] [.sp 16] [.box [.val (.str r6), .val (.bool r7)], .vbox [.val (.int .i64 r1), .val (.int .i64 r2), .val (.str r3), .val (.bool r4), .ref 17 0], .tree 24 5 (r5.map e24) 0] := by
  obtain ⟨k, h⟩ := lim_ex h
  exact (impl_rexReader_pattern_all (k + 1)).2.1 k _ _ _ _ _ _ _ _ _ h (Nat.lt_succ_self k)
theorem impl_rexReader_piece_ev (s0_0 : ByteArray) (s0_1 : Bool) (r1 : Int) (r2 : Int) (r3 : ByteArray) (r4 : Bool) (r5 : List S24) (r6 : ByteArray) (r7 : Bool) (h : impl_rexReader_piece.fv s0_0 s0_1 = some (r1, r2, r3, r4, r5, r6, r7)) : CE G 49 [.ptr 0 0] [.box [.val (.str s0_0), .val (.bool s0_1)]] [.sp 16] [.box [.val (.str r6), .val (.bool r7)], .vbox [.val (.int .i64 r1), .val (.int .i64 r2), .val (.str r3), .val (.bool r4), .ref 17 0], .tree 24 5 (r5.map e24) 0] := by
  obtain ⟨k, h⟩ := lim_ex h
  exact (impl_rexReader_pattern_all (k + 1)).2.2.1 k _ _ _ _ _ _ _ _ _ h (Nat.lt_succ_self k)
theorem impl_rexReader_atom_ev (s0_0 : ByteArray) (s0_1 : Bool) (r1 : Int) (r2 : Int) (r3 : ByteArray) (r4 : Bool) (r5 : List S24) (r6 : ByteArray) (r7 : Bool) (h : impl_rexReader_atom.fv s0_0 s0_1 = some (r1, r2, r3, r4, r5, r6, r7)) : CE G 57 [.ptr 0 0] [.box [.val (.str s0_0), .val (.bool s0_1)]] [.sp 16] [.box [.val (.str r6), .val (.bool r7)], .vbox [.val (.int .i64 r1), .val (.int .i64 r2), .val (.str r3), .val (.bool r4), .ref 17 0], .tree 24 5 (r5.map e24) 0] := by
  obtain ⟨k, h⟩ := lim_ex h
  exact (impl_rexReader_pattern_all (k + 1)).2.2.2 k _ _ _ _ _ _ _ _ _ h (Nat.lt_succ_self k)
theorem impl_rexDeep_all : ∀ n, (∀ (k : Nat) (a0_0 : Int) (a0_1 : Int) (a0_2 : ByteArray) (a0_3 : Bool) (l0_4 : List S24) (r : Int) (h : run impl_rexDeep.B k (.f a0_0 a0_1 a0_2 a0_3 l0_4) = some r) (hk : k < n), CE G 22 [.val (.agg [.int .i64 a0_0, .int .i64 a0_1, .str a0_2, .bool a0_3, .row (l0_4.map e24)])] [] [.val (.int .i64 r)] []) := by
  intro n
  induction n with
  | zero => exact (by intros; omega)
  | succ n ih =>
    · intro k a0_0 a0_1 a0_2 a0_3 l0_4 r h hk
      refine CE.mk ⟨Try.f22, _, rfl, rfl, ⟨by kernel_rfl, Nat.le_of_ble_eq_true rfl, Nat.le_of_ble_eq_true rfl⟩, ?_⟩
      rcases k with _ | k
      · exact (run_zero h).elim
      rw [run_succ, impl_rexDeep.B] at h
      replace h := evT h
      refine zz ?_
      refine loopJ (fun kq fr hp => ∃ (x3 : Int) (x7 : List S24) (x8 : Int) (x9 : Int), run impl_rexDeep.B kq (.l0 x3 x7 x8 x9) = some r ∧ (∃ fr0, fr = puts [(3, .one (.val (.int .i64 x3))), (7, .one (.val (.row (x7.map e24)))), (8, .one (.val (.int .i64 x8))), (9, .one (.val (.int .i64 x9)))] fr0) ∧ hp = (fun _ => none)) k ⟨[], rfl, _, zfuel, _, _, _, _, h, leafFr [3, 7, 8, 9] (by kernel_rfl), by kernel_rfl⟩ ?_
      clear h; rintro k hle _ _ ⟨x3, x7, x8, x9, h, ⟨fr0, rfl⟩, rfl⟩
      rcases k with _ | k
      · exact (run_zero h).elim
      rw [run_succ, impl_rexDeep.B] at h
      refine zz ?_
      refine br (iP h) ?_ ?_ <;> (clear h; intro c h)
      rotate_left
      ·replace h := evR h; cases h
       refine zz ?_
       exact zend
      have h_ := gP h; clear h; obtain ⟨c, h⟩ := h_
      have h_ := gP h; clear h; obtain ⟨c, h⟩ := h_
      have h_ := evA h; clear h; obtain ⟨t15, ht, h⟩ := h_
      refine zz ?_
      refine Exists.intro _ (And.intro (ih _ (h := ht) (hk := zfuel)) ?_)
      replace h := evT h
      refine zz ?_
      exact ⟨[], rfl, _, zfuel, _, _, _, _, h, leafFr [3, 7, 8, 9] (by kernel_rfl), by kernel_rfl⟩
theorem impl_rexDeep_ev (a0_0 : Int) (a0_1 : Int) (a0_2 : ByteArray) (a0_3 : Bool) (l0_4 : List S24) (r : Int) (h : impl_rexDeep.fv a0_0 a0_1 a0_2 a0_3 l0_4 = some r) : CE G 22 [.val (.agg [.int .i64 a0_0, .int .i64 a0_1, .str a0_2, .bool a0_3, .row (l0_4.map e24)])] [] [.val (.int .i64 r)] [] := by
  obtain ⟨k, h⟩ := lim_ex h
  exact (impl_rexDeep_all (k + 1)) k _ _ _ _ _ _ h (Nat.lt_succ_self k)
theorem impl_RexParse_ev (a0 : ByteArray) (r1 : Int) (r2 : Int) (r3 : ByteArray) (r4 : Bool) (r5 : List S24) (r6 : Bool) (h : impl_RexParse.fv a0 = some (r1, r2, r3, r4, r5, r6)) : CE G 6 [.val (.str a0)] [] [.sp 16, .val (.bool r6)] [.vbox [.val (.int .i64 r1), .val (.int .i64 r2), .val (.str r3), .val (.bool r4), .ref 17 0], .tree 24 5 (r5.map e24) 0] := by
  refine CE.mk ⟨Try.f6, _, rfl, rfl, ⟨by kernel_rfl, Nat.le_of_ble_eq_true rfl, Nat.le_of_ble_eq_true rfl⟩, ?_⟩
  rw [impl_RexParse.fv] at h
  refine zz ?_
  refine br (iteS h) ?_ ?_ <;> (clear h; intro c h)
  ·cases h
   refine zz ?_
   first | refine ⟨trivial, [460800016, 2000016384], [(2000016384, 0, 0)], ⟨rfl, ⟨trivial, trivial⟩⟩, _, rfl, _, rfl, ?_⟩ | refine ⟨[460800016, 2000016384], [(2000016384, 0, 0)], ⟨rfl, ⟨trivial, trivial⟩⟩, _, rfl, _, rfl, ?_⟩
   repeat' (first | (refine And.intro ?_ ?_) | rfl)
  have h_ := oS h; clear h; obtain ⟨t14, ht, h⟩ := h_
  refine zz ?_
  refine Exists.intro _ (Exists.intro _ (And.intro (impl_rexReader_pattern_ev (h := ht)) ?_))
  refine zz ?_
  refine brW (iteS h) ?_ ?_ <;> (clear h; intro c h)
  rotate_left
  ·refine zr ?_
   refine zr ?_
   refine zr ?_
   refine zr ?_
   refine zl ?_
   refine zr ?_
   refine zr ?_
   refine zr ?_
   refine zl ?_
   refine zl ?_
   cases h
   refine zz ?_
   first | refine ⟨trivial, [460800016, 2000049152], [(2000049152, 0, 0)], ⟨rfl, ⟨trivial, trivial⟩⟩, _, rfl, _, rfl, ?_⟩ | refine ⟨[460800016, 2000049152], [(2000049152, 0, 0)], ⟨rfl, ⟨trivial, trivial⟩⟩, _, rfl, _, rfl, ?_⟩
   repeat' (first | (refine And.intro ?_ ?_) | rfl)
  refine zl ?_
  refine zl ?_
  refine zl ?_
  refine zl ?_
  refine zr ?_
  refine zz ?_
  refine brX (iteS h) ?_ ?_ <;> (clear h; intro c h)
  rotate_left
  ·refine zr ?_
   refine zr ?_
   refine zl ?_
   refine zl ?_
   cases h
   refine zz ?_
   first | refine ⟨trivial, [460800016, 2000049152], [(2000049152, 0, 0)], ⟨rfl, ⟨trivial, trivial⟩⟩, _, rfl, _, rfl, ?_⟩ | refine ⟨[460800016, 2000049152], [(2000049152, 0, 0)], ⟨rfl, ⟨trivial, trivial⟩⟩, _, rfl, _, rfl, ?_⟩
   repeat' (first | (refine And.intro ?_ ?_) | rfl)
  refine zl ?_
  have h_ := oS h; clear h; obtain ⟨t28, ht, h⟩ := h_
  refine zz ?_
  refine Exists.intro _ (Exists.intro _ (And.intro (impl_rexDeep_ev (h := ht)) ?_))
  refine zl ?_
  refine zr ?_
  refine zz ?_
  refine br (iteS h) ?_ ?_ <;> (clear h; intro c h)
  ·cases h
   refine zz ?_
   first | refine ⟨trivial, [460800016, 2000049152], [(2000049152, 0, 0)], ⟨rfl, ⟨trivial, trivial⟩⟩, _, rfl, _, rfl, ?_⟩ | refine ⟨[460800016, 2000049152], [(2000049152, 0, 0)], ⟨rfl, ⟨trivial, trivial⟩⟩, _, rfl, _, rfl, ?_⟩
   repeat' (first | (refine And.intro ?_ ?_) | rfl)
  cases h
  refine zz ?_
  first | refine ⟨trivial, [460800016, 1032785], [(1032785, 0, 0)], ⟨rfl, ⟨trivial, trivial⟩⟩, _, rfl, _, rfl, ?_⟩ | refine ⟨[460800016, 1032785], [(1032785, 0, 0)], ⟨rfl, ⟨trivial, trivial⟩⟩, _, rfl, _, rfl, ?_⟩
  repeat' (first | (refine And.intro ?_ ?_) | rfl)
theorem laws_eqRex_all : ∀ n, (∀ (k : Nat) (a0_0 : Int) (a0_1 : Int) (a0_2 : ByteArray) (a0_3 : Bool) (l0_4 : List S24) (a1_0 : Int) (a1_1 : Int) (a1_2 : ByteArray) (a1_3 : Bool) (l1_4 : List S24) (r : Bool) (h : run laws_eqRex.B k (.laws_eqRex_f a0_0 a0_1 a0_2 a0_3 l0_4 a1_0 a1_1 a1_2 a1_3 l1_4) = some r) (hk : k < n), CE G 7 [.val (.agg [.int .i64 a0_0, .int .i64 a0_1, .str a0_2, .bool a0_3, .row (l0_4.map e24)]), .val (.agg [.int .i64 a1_0, .int .i64 a1_1, .str a1_2, .bool a1_3, .row (l1_4.map e24)])] [] [.val (.bool r)] []) ∧ (∀ (k : Nat) (l0 : List S24) (l1 : List S24) (r : Bool) (h : run laws_eqRex.B k (.laws_eqRexS_f l0 l1) = some r) (hk : k < n), CE G 23 [.val (.row (l0.map e24)), .val (.row (l1.map e24))] [] [.val (.bool r)] []) := by
  intro n
  induction n with
  | zero => exact ⟨by intros; omega, by intros; omega⟩
  | succ n ih =>
    refine ⟨?_, ?_⟩
    · intro k a0_0 a0_1 a0_2 a0_3 l0_4 a1_0 a1_1 a1_2 a1_3 l1_4 r h hk
      refine CE.mk ⟨Try.f7, _, rfl, rfl, ⟨by kernel_rfl, Nat.le_of_ble_eq_true rfl, Nat.le_of_ble_eq_true rfl⟩, ?_⟩
      rcases k with _ | k
      · exact (run_zero h).elim
      rw [run_succ, laws_eqRex.B] at h
      refine zz ?_
      refine brN (iP h) ?_ ?_ <;> (clear h; intro c h)
      ·replace h := evR h; cases h
       refine zz ?_
       exact zend
      refine zz ?_
      refine brN (iP h) ?_ ?_ <;> (clear h; intro c h)
      ·replace h := evR h; cases h
       refine zz ?_
       exact zend
      refine zz ?_
      refine brN (iP h) ?_ ?_ <;> (clear h; intro c h)
      ·replace h := evR h; cases h
       refine zz ?_
       exact zend
      refine zz ?_
      refine brN (iP h) ?_ ?_ <;> (clear h; intro c h)
      ·replace h := evR h; cases h
       refine zz ?_
       exact zend
      have h_ := evA h; clear h; obtain ⟨t29, ht, h⟩ := h_
      refine zz ?_
      refine Exists.intro _ (And.intro (ih.2 _ (h := ht) (hk := zfuel)) ?_)
      refine zz ?_
      refine brN (iP h) ?_ ?_ <;> (clear h; intro c h)
      ·replace h := evR h; cases h
       refine zz ?_
       exact zend
      replace h := evR h; cases h
      refine zz ?_
      exact zend
    · intro k l0 l1 r h hk
      refine CE.mk ⟨Try.f23, _, rfl, rfl, ⟨by kernel_rfl, Nat.le_of_ble_eq_true rfl, Nat.le_of_ble_eq_true rfl⟩, ?_⟩
      rcases k with _ | k
      · exact (run_zero h).elim
      rw [run_succ, laws_eqRex.B] at h
      refine zz ?_
      refine brN (iP h) ?_ ?_ <;> (clear h; intro c h)
      ·replace h := evR h; cases h
       refine zz ?_
       exact zend
      replace h := evT h
      refine zz ?_
      refine loopJ (fun kq fr hp => ∃ (x0 : List S24) (x1 : List S24) (x5 : Int), run laws_eqRex.B kq (.laws_eqRexS_l0 x0 x1 x5) = some r ∧ (∃ fr0, fr = puts [(0, .one (.val (.row (x0.map e24)))), (1, .one (.val (.row (x1.map e24)))), (5, .one (.val (.int .i64 x5)))] fr0) ∧ hp = (fun _ => none)) k ⟨[], rfl, _, zfuel, _, _, _, h, leafFr [0, 1, 5] (by kernel_rfl), by kernel_rfl⟩ ?_
      clear h; rintro k hle _ _ ⟨x0, x1, x5, h, ⟨fr0, rfl⟩, rfl⟩
      rcases k with _ | k
      · exact (run_zero h).elim
      rw [run_succ, laws_eqRex.B] at h
      refine zz ?_
      refine br (iP h) ?_ ?_ <;> (clear h; intro c h)
      rotate_left
      ·replace h := evR h; cases h
       refine zz ?_
       exact zend
      have h_ := gP h; clear h; obtain ⟨c, h⟩ := h_
      have h_ := gP h; clear h; obtain ⟨c, h⟩ := h_
      have h_ := evA h; clear h; obtain ⟨t25, ht, h⟩ := h_
      refine zz ?_
      refine Exists.intro _ (And.intro (ih.1 _ (h := ht) (hk := zfuel)) ?_)
      refine zz ?_
      refine brN (iP h) ?_ ?_ <;> (clear h; intro c h)
      ·replace h := evR h; cases h
       refine zz ?_
       exact zend
      replace h := evT h
      refine zz ?_
      exact ⟨[], rfl, _, zfuel, _, _, _, h, leafFr [0, 1, 5] (by kernel_rfl), by kernel_rfl⟩
theorem laws_eqRex_ev (a0_0 : Int) (a0_1 : Int) (a0_2 : ByteArray) (a0_3 : Bool) (l0_4 : List S24) (a1_0 : Int) (a1_1 : Int) (a1_2 : ByteArray) (a1_3 : Bool) (l1_4 : List S24) (r : Bool) (h : laws_eqRex.fv a0_0 a0_1 a0_2 a0_3 l0_4 a1_0 a1_1 a1_2 a1_3 l1_4 = some r) : CE G 7 [.val (.agg [.int .i64 a0_0, .int .i64 a0_1, .str a0_2, .bool a0_3, .row (l0_4.map e24)]), .val (.agg [.int .i64 a1_0, .int .i64 a1_1, .str a1_2, .bool a1_3, .row (l1_4.map e24)])] [] [.val (.bool r)] [] := by
  obtain ⟨k, h⟩ := lim_ex h
  exact (laws_eqRex_all (k + 1)).1 k _ _ _ _ _ _ _ _ _ _ _ h (Nat.lt_succ_self k)
theorem laws_eqRexS_ev (l0 : List S24) (l1 : List S24) (r : Bool) (h : laws_eqRexS.fv l0 l1 = some r) : CE G 23 [.val (.row (l0.map e24)), .val (.row (l1.map e24))] [] [.val (.bool r)] [] := by
  obtain ⟨k, h⟩ := lim_ex h
  exact (laws_eqRex_all (k + 1)).2 k _ _ _ h (Nat.lt_succ_self k)
theorem laws_markText_ev (a0 : Int) (r : ByteArray) (h : laws_markText.fv a0 = some r) : CE G 33 [.val (.int .i64 a0)] [] [.val (.str r)] [] := by
  obtain ⟨k, h⟩ := lim_ex h
  refine CE.mk ⟨Try.f33, _, rfl, rfl, ⟨by kernel_rfl, Nat.le_of_ble_eq_true rfl, Nat.le_of_ble_eq_true rfl⟩, ?_⟩
  rcases k with _ | k
  · exact (run_zero h).elim
  rw [run_succ, laws_markText.B] at h
  refine zz ?_
  refine br (iP h) ?_ ?_ <;> (clear h; intro c h)
  ·replace h := evR h; cases h
   refine zz ?_
   exact zend
  replace h := evT h
  refine zz ?_
  refine loopJ (fun kq fr hp => ∃ (x0 : Int) (x3 : ByteArray), run laws_markText.B kq (.l0 x0 x3) = some r ∧ (∃ fr0, fr = puts [(0, .one (.val (.int .i64 x0))), (3, .one (.val (.str x3)))] fr0) ∧ hp = (fun _ => none)) k ⟨[], rfl, _, zfuel, _, _, h, leafFr [0, 3] (by kernel_rfl), by kernel_rfl⟩ ?_
  clear h; rintro k hle _ _ ⟨x0, x3, h, ⟨fr0, rfl⟩, rfl⟩
  rcases k with _ | k
  · exact (run_zero h).elim
  rw [run_succ, laws_markText.B] at h
  refine zz ?_
  refine br (iP h) ?_ ?_ <;> (clear h; intro c h)
  rotate_left
  ·have h_ := gP h; clear h; obtain ⟨c, h⟩ := h_
   replace h := evR h; cases h
   refine zz ?_
   exact zend
  refine zz ?_
  refine Exists.intro (List.map (VV.int .u8) ([(((wrap64 (48 + (Int.tmod x0 10)))) % 256)] : List Int)) (And.intro zrow ?_)
  have h_ := gP h; clear h; obtain ⟨c, h⟩ := h_
  replace h := evT h
  refine zz ?_
  exact ⟨[], rfl, _, zfuel, _, _, h, leafFr [0, 3] (by kernel_rfl), by kernel_rfl⟩
theorem laws_markRexS_all : ∀ n, (∀ (k : Nat) {n0 : Nat} (l0 : List S24) (a1 : Int) (r1 : Int) (r2 : List S24) (h : run laws_markRexS.B k (.f l0 a1) = some (r1, r2)) (hk : k < n), CE G 24 [.ref 0 n0, .val (.int .i64 a1)] [.tree 24 5 (l0.map e24) n0] [.val (.int .i64 r1)] [.tree 24 5 (r2.map e24) n0]) := by
  intro n
  induction n with
  | zero => exact (by intros; omega)
  | succ n ih =>
    · intro k n0 l0 a1 r1 r2 h hk
      refine CE.mk ⟨Try.f24, _, rfl, rfl, ⟨by kernel_rfl, Nat.le_of_ble_eq_true rfl, Nat.le_of_ble_eq_true rfl⟩, ?_⟩
      rcases k with _ | k
      · exact (run_zero h).elim
      rw [run_succ, laws_markRexS.B] at h
      replace h := evT h
      refine zz ?_
      refine loopJ (fun kq fr hp => ∃ (x0 : List S24) (x1 : Int) (x5 : Int), run laws_markRexS.B kq (.l0 x0 x1 x5) = some (r1, r2) ∧ (∃ fr0, fr = puts [(0, .one (.ref 0 n0)), (1, .one (.val (.int .i64 x1))), (5, .one (.val (.int .i64 x5)))] fr0) ∧ hp = (upd 0 (.tree 24 5 (x0.map e24) n0) (fun _ => none))) k ⟨[(0, 0)], rfl, _, zfuel, _, _, _, h, leafFr [0, 1, 5] (by kernel_rfl), by kernel_rfl⟩ ?_
      clear h; rintro k hle _ _ ⟨x0, x1, x5, h, ⟨fr0, rfl⟩, rfl⟩
      rcases k with _ | k
      · exact (run_zero h).elim
      rw [run_succ, laws_markRexS.B] at h
      refine zz ?_
      refine br (iP h) ?_ ?_ <;> (clear h; intro c h)
      rotate_left
      ·replace h := evR h; cases h
       refine zz ?_
       first | refine ⟨trivial, [], [], ⟨rfl, trivial⟩, _, rfl, _, rfl, ?_⟩ | refine ⟨[], [], ⟨rfl, trivial⟩, _, rfl, _, rfl, ?_⟩
       repeat' (first | (refine And.intro ?_ ?_) | rfl)
      have h_ := gP h; clear h; obtain ⟨c, h⟩ := h_
      have h_ := evO h; clear h; obtain ⟨y4_5, hy, h⟩ := h_
      refine zz ?_
      refine Exists.intro (y4_5.map e24) (And.intro (by rw [← Option.some.inj hy]; exact zrow) ?_)
      have h_ := gP h; clear h; obtain ⟨c, h⟩ := h_
      have h_ := evO h; clear h; obtain ⟨y6_5, hy, h⟩ := h_
      refine zz ?_
      refine Exists.intro (y6_5.map e24) (And.intro (by rw [← Option.some.inj hy]; exact zrow) ?_)
      have h_ := evO h; clear h; obtain ⟨t29, ht, h⟩ := h_
      refine zz ?_
      refine Exists.intro _ (And.intro (laws_markText_ev (h := ht)) ?_)
      have h_ := gP h; clear h; obtain ⟨c, h⟩ := h_
      have h_ := evO h; clear h; obtain ⟨y8_6, hy, h⟩ := h_
      refine zz ?_
      refine Exists.intro (y8_6.map e24) (And.intro (by rw [← Option.some.inj hy]; exact zrow) ?_)
      have h_ := gP h; clear h; obtain ⟨c, h⟩ := h_
      have h_ := evO h; clear h; obtain ⟨y10_7, hy, h⟩ := h_
      refine zz ?_
      refine Exists.intro (y10_7.map e24) (And.intro (by rw [← Option.some.inj hy]; exact zrow) ?_)
      have h_ := gP h; clear h; obtain ⟨c, h⟩ := h_
      have h_ := evA h; clear h; obtain ⟨t49, ht, h⟩ := h_
      refine zz ?_
      refine Exists.intro _ (Exists.intro _ (And.intro (ih _ (h := ht) (hk := zfuel)) ?_))
      have h_ := evO h; clear h; obtain ⟨y12_6, hy, h⟩ := h_
      refine zz ?_
      refine Exists.intro (y12_6.map e24) (And.intro (by rw [← Option.some.inj hy]; exact zrow) ?_)
      replace h := evT h
      refine zz ?_
      exact ⟨[(0, 0)], rfl, _, zfuel, _, _, _, h, leafFr [0, 1, 5] (by kernel_rfl), by kernel_rfl⟩
theorem laws_markRexS_ev {n0 : Nat} (l0 : List S24) (a1 : Int) (r1 : Int) (r2 : List S24) (h : laws_markRexS.fv l0 a1 = some (r1, r2)) : CE G 24 [.ref 0 n0, .val (.int .i64 a1)] [.tree 24 5 (l0.map e24) n0] [.val (.int .i64 r1)] [.tree 24 5 (r2.map e24) n0] := by
  obtain ⟨k, h⟩ := lim_ex h
  exact (laws_markRexS_all (k + 1)) k _ _ _ _ h (Nat.lt_succ_self k)
theorem laws_markRex_ev {n0 : Nat} (s0_0 : Int) (s0_1 : Int) (s0_2 : ByteArray) (s0_3 : Bool) (l0_4 : List S24) (a1 : Int) (r1 : Int) (r2 : List S24) (h : laws_markRex.fv s0_0 s0_1 s0_2 s0_3 l0_4 a1 = some (r1, r2)) : CE G 8 [.sp 1, .val (.int .i64 a1)] [.tree 24 5 (l0_4.map e24) n0, .vbox [.val (.int .i64 s0_0), .val (.int .i64 s0_1), .val (.str s0_2), .val (.bool s0_3), .ref 0 n0]] [.val (.int .i64 r1)] [.tree 24 5 (r2.map e24) n0, .vbox [.val (.int .i64 s0_0), .val (.int .i64 s0_1), .val (.str s0_2), .val (.bool s0_3), .ref 0 n0]] := by
  refine CE.mk ⟨Try.f8, _, rfl, rfl, ⟨by kernel_rfl, Nat.le_of_ble_eq_true rfl, Nat.le_of_ble_eq_true rfl⟩, ?_⟩
  rw [laws_markRex.fv] at h
  have h_ := oS h; clear h; obtain ⟨t8, ht, h⟩ := h_
  refine zz ?_
  refine Exists.intro _ (Exists.intro _ (And.intro (laws_markRexS_ev (h := ht)) ?_))
  cases h
  refine zz ?_
  first | refine ⟨trivial, [], [], ⟨rfl, trivial⟩, _, rfl, _, rfl, ?_⟩ | refine ⟨[], [], ⟨rfl, trivial⟩, _, rfl, _, rfl, ?_⟩
  repeat' (first | (refine And.intro ?_ ?_) | rfl)
theorem laws_heldRexS_all : ∀ n, (∀ (k : Nat) (l0 : List S24) (a1 : Int) (r : Int) (h : run laws_heldRexS.B k (.f l0 a1) = some r) (hk : k < n), CE G 25 [.val (.row (l0.map e24)), .val (.int .i64 a1)] [] [.val (.int .i64 r)] []) := by
  intro n
  induction n with
  | zero => exact (by intros; omega)
  | succ n ih =>
    · intro k l0 a1 r h hk
      refine CE.mk ⟨Try.f25, _, rfl, rfl, ⟨by kernel_rfl, Nat.le_of_ble_eq_true rfl, Nat.le_of_ble_eq_true rfl⟩, ?_⟩
      rcases k with _ | k
      · exact (run_zero h).elim
      rw [run_succ, laws_heldRexS.B] at h
      replace h := evT h
      refine zz ?_
      refine loopJ (fun kq fr hp => ∃ (x0 : List S24) (x1 : Int) (x5 : Int), run laws_heldRexS.B kq (.l0 x0 x1 x5) = some r ∧ (∃ fr0, fr = puts [(0, .one (.val (.row (x0.map e24)))), (1, .one (.val (.int .i64 x1))), (5, .one (.val (.int .i64 x5)))] fr0) ∧ hp = (fun _ => none)) k ⟨[], rfl, _, zfuel, _, _, _, h, leafFr [0, 1, 5] (by kernel_rfl), by kernel_rfl⟩ ?_
      clear h; rintro k hle _ _ ⟨x0, x1, x5, h, ⟨fr0, rfl⟩, rfl⟩
      rcases k with _ | k
      · exact (run_zero h).elim
      rw [run_succ, laws_heldRexS.B] at h
      refine zz ?_
      refine br (iP h) ?_ ?_ <;> (clear h; intro c h)
      rotate_left
      ·replace h := evR h; cases h
       refine zz ?_
       exact zend
      have h_ := gP h; clear h; obtain ⟨c, h⟩ := h_
      refine zz ?_
      refine brN (iP h) ?_ ?_ <;> (clear h; intro c h)
      ·replace h := evR h; cases h
       refine zz ?_
       exact zend
      refine zz ?_
      refine brN (iP h) ?_ ?_ <;> (clear h; intro c h)
      ·replace h := evR h; cases h
       refine zz ?_
       exact zend
      have h_ := evO h; clear h; obtain ⟨t36, ht, h⟩ := h_
      refine zz ?_
      refine Exists.intro _ (And.intro (laws_markText_ev (h := ht)) ?_)
      refine zz ?_
      refine brN (iP h) ?_ ?_ <;> (clear h; intro c h)
      ·replace h := evR h; cases h
       refine zz ?_
       exact zend
      refine zz ?_
      refine brN (iP h) ?_ ?_ <;> (clear h; intro c h)
      ·replace h := evR h; cases h
       refine zz ?_
       exact zend
      have h_ := evA h; clear h; obtain ⟨t57, ht, h⟩ := h_
      refine zz ?_
      refine Exists.intro _ (And.intro (ih _ (h := ht) (hk := zfuel)) ?_)
      refine zz ?_
      refine br (iP h) ?_ ?_ <;> (clear h; intro c h)
      ·replace h := evR h; cases h
       refine zz ?_
       exact zend
      replace h := evT h
      refine zz ?_
      exact ⟨[], rfl, _, zfuel, _, _, _, h, leafFr [0, 1, 5] (by kernel_rfl), by kernel_rfl⟩
theorem laws_heldRexS_ev (l0 : List S24) (a1 : Int) (r : Int) (h : laws_heldRexS.fv l0 a1 = some r) : CE G 25 [.val (.row (l0.map e24)), .val (.int .i64 a1)] [] [.val (.int .i64 r)] [] := by
  obtain ⟨k, h⟩ := lim_ex h
  exact (laws_heldRexS_all (k + 1)) k _ _ _ h (Nat.lt_succ_self k)
theorem laws_heldRex_ev (a0_0 : Int) (a0_1 : Int) (a0_2 : ByteArray) (a0_3 : Bool) (l0_4 : List S24) (a1 : Int) (r : Int) (h : laws_heldRex.fv a0_0 a0_1 a0_2 a0_3 l0_4 a1 = some r) : CE G 9 [.val (.agg [.int .i64 a0_0, .int .i64 a0_1, .str a0_2, .bool a0_3, .row (l0_4.map e24)]), .val (.int .i64 a1)] [] [.val (.int .i64 r)] [] := by
  refine CE.mk ⟨Try.f9, _, rfl, rfl, ⟨by kernel_rfl, Nat.le_of_ble_eq_true rfl, Nat.le_of_ble_eq_true rfl⟩, ?_⟩
  rw [laws_heldRex.fv] at h
  have h_ := oS h; clear h; obtain ⟨t8, ht, h⟩ := h_
  refine zz ?_
  refine Exists.intro _ (And.intro (laws_heldRexS_ev (h := ht)) ?_)
  refine zz ?_
  refine br (iteS h) ?_ ?_ <;> (clear h; intro c h)
  ·cases h
   refine zz ?_
   exact zend
  cases h
  refine zz ?_
  exact zend
end Go.Proofs.Ytccldchklemogaa.TFnExactRexParse
