/- The walks of the functions that FnExactNames reaches, through the abstract machine. -/
import Derived.Test.YtccldchklemogaaAFnExactNamesh
import Derived.Test.YtccldchklemogaaAFnExactNamesx0
import Derived.Test.YtccldchklemogaaFFnExactNames
import Derived.Test.YtccldchklemogaaProg
set_option maxHeartbeats 4000000
set_option maxRecDepth 100000
set_option linter.unusedVariables false
set_option linter.unusedSimpArgs false
namespace Go.Proofs.Ytccldchklemogaa.TFnExactNames
open Go Go.RowKit Go.Proofs Go.Proofs.YtccldchklemogaaW.AM Go.Proofs.Ytccldchklemogaa.QFnExactNames Go.Proofs.YtccldchklemogaaW.PrintWords Go.Proofs.YtccldchklemogaaW.Pgs
theorem laws_markStringS_ev {n0 : Nat} (l0 : List ByteArray) (a1 : Int) (r1 : Int) (r2 : List ByteArray) (h : laws_markStringS.fv l0 a1 = some (r1, r2)) : CE G 17 [.ref 0 n0, .val (.int .i64 a1)] [.own 9 1 (l0.map VV.str) n0 false] [.val (.int .i64 r1)] [.own 9 1 (r2.map VV.str) n0 false] := by
  obtain ⟨k, h⟩ := lim_ex h
  refine CE.mk ⟨Try.f17, _, rfl, rfl, ⟨by kernel_rfl, Nat.le_of_ble_eq_true rfl, Nat.le_of_ble_eq_true rfl⟩, ?_⟩
  rcases k with _ | k
  · exact (run_zero h).elim
  rw [run_succ, laws_markStringS.B] at h
  replace h := evT h
  refine zz ?_
  refine loopJ (fun kq fr hp => ∃ (x0 : List ByteArray) (x1 : Int) (x5 : Int), run laws_markStringS.B kq (.l0 x0 x1 x5) = some (r1, r2) ∧ (∃ fr0, fr = puts [(0, .one (.ref 0 n0)), (1, .one (.val (.int .i64 x1))), (5, .one (.val (.int .i64 x5)))] fr0) ∧ hp = (upd 0 (.own 9 1 (x0.map VV.str) n0 false) (fun _ => none))) k ⟨[(0, 0)], rfl, _, zfuel, _, _, _, h, leafFr [0, 1, 5] (by kernel_rfl), by kernel_rfl⟩ ?_
  clear h; rintro k hle _ _ ⟨x0, x1, x5, h, ⟨fr0, rfl⟩, rfl⟩
  rcases k with _ | k
  · exact (run_zero h).elim
  rw [run_succ, laws_markStringS.B] at h
  refine zz ?_
  refine br (iP h) ?_ ?_ <;> (clear h; intro c h)
  rotate_left
  ·replace h := evR h; cases h
   refine zz ?_
   first | refine ⟨trivial, [], [], ⟨rfl, trivial⟩, _, rfl, _, rfl, ?_⟩ | refine ⟨[], [], ⟨rfl, trivial⟩, _, rfl, _, rfl, ?_⟩
   repeat' (first | (refine And.intro ?_ ?_) | rfl)
  have h_ := evO h; clear h; obtain ⟨t15, ht, h⟩ := h_
  refine zz ?_
  refine Exists.intro _ (And.intro (laws_markText_ev (h := ht)) ?_)
  have h_ := gP h; clear h; obtain ⟨c, h⟩ := h_
  refine zz ?_
  refine Exists.intro (List.map VV.str (x0.set (x5 : Int).toNat t15)) (And.intro zrow ?_)
  replace h := evT h
  refine zz ?_
  exact ⟨[(0, 0)], rfl, _, zfuel, _, _, _, h, leafFr [0, 1, 5] (by kernel_rfl), by kernel_rfl⟩
theorem laws_heldStringS_ev (l0 : List ByteArray) (a1 : Int) (r : Int) (h : laws_heldStringS.fv l0 a1 = some r) : CE G 18 [.val (.row (l0.map VV.str)), .val (.int .i64 a1)] [] [.val (.int .i64 r)] [] := by
  obtain ⟨k, h⟩ := lim_ex h
  refine CE.mk ⟨Try.f18, _, rfl, rfl, ⟨by kernel_rfl, Nat.le_of_ble_eq_true rfl, Nat.le_of_ble_eq_true rfl⟩, ?_⟩
  rcases k with _ | k
  · exact (run_zero h).elim
  rw [run_succ, laws_heldStringS.B] at h
  replace h := evT h
  refine zz ?_
  refine loopJ (fun kq fr hp => ∃ (x0 : List ByteArray) (x1 : Int) (x5 : Int), run laws_heldStringS.B kq (.l0 x0 x1 x5) = some r ∧ (∃ fr0, fr = puts [(0, .one (.val (.row (x0.map VV.str)))), (1, .one (.val (.int .i64 x1))), (5, .one (.val (.int .i64 x5)))] fr0) ∧ hp = (fun _ => none)) k ⟨[], rfl, _, zfuel, _, _, _, h, leafFr [0, 1, 5] (by kernel_rfl), by kernel_rfl⟩ ?_
  clear h; rintro k hle _ _ ⟨x0, x1, x5, h, ⟨fr0, rfl⟩, rfl⟩
  rcases k with _ | k
  · exact (run_zero h).elim
  rw [run_succ, laws_heldStringS.B] at h
  refine zz ?_
  refine br (iP h) ?_ ?_ <;> (clear h; intro c h)
  rotate_left
  ·replace h := evR h; cases h
   refine zz ?_
   exact zend
  have h_ := gP h; clear h; obtain ⟨c, h⟩ := h_
  have h_ := evO h; clear h; obtain ⟨t17, ht, h⟩ := h_
  refine zz ?_
  refine Exists.intro _ (And.intro (laws_markText_ev (h := ht)) ?_)
  refine zz ?_
  refine brN (iP h) ?_ ?_ <;> (clear h; intro c h)
  ·replace h := evR h; cases h
   refine zz ?_
   exact zend
  replace h := evT h
  refine zz ?_
  exact ⟨[], rfl, _, zfuel, _, _, _, h, leafFr [0, 1, 5] (by kernel_rfl), by kernel_rfl⟩
theorem laws_eqStringS_2_ev (l0 : List ByteArray) (l1 : List ByteArray) (r : Bool) (h : laws_eqStringS_2.fv l0 l1 = some r) : CE G 14 [.val (.row (l0.map VV.str)), .val (.row (l1.map VV.str))] [] [.val (.bool r)] [] := by
  obtain ⟨k, h⟩ := lim_ex h
  refine CE.mk ⟨Try.f14, _, rfl, rfl, ⟨by kernel_rfl, Nat.le_of_ble_eq_true rfl, Nat.le_of_ble_eq_true rfl⟩, ?_⟩
  rcases k with _ | k
  · exact (run_zero h).elim
  rw [run_succ, laws_eqStringS_2.B] at h
  refine zz ?_
  refine brN (iP h) ?_ ?_ <;> (clear h; intro c h)
  ·replace h := evR h; cases h
   refine zz ?_
   exact zend
  replace h := evT h
  refine zz ?_
  refine loopJ (fun kq fr hp => ∃ (x0 : List ByteArray) (x1 : List ByteArray) (x5 : Int), run laws_eqStringS_2.B kq (.l0 x0 x1 x5) = some r ∧ (∃ fr0, fr = puts [(0, .one (.val (.row (x0.map VV.str)))), (1, .one (.val (.row (x1.map VV.str)))), (5, .one (.val (.int .i64 x5)))] fr0) ∧ hp = (fun _ => none)) k ⟨[], rfl, _, zfuel, _, _, _, h, leafFr [0, 1, 5] (by kernel_rfl), by kernel_rfl⟩ ?_
  clear h; rintro k hle _ _ ⟨x0, x1, x5, h, ⟨fr0, rfl⟩, rfl⟩
  rcases k with _ | k
  · exact (run_zero h).elim
  rw [run_succ, laws_eqStringS_2.B] at h
  refine zz ?_
  refine br (iP h) ?_ ?_ <;> (clear h; intro c h)
  rotate_left
  ·replace h := evR h; cases h
   refine zz ?_
   exact zend
  have h_ := gP h; clear h; obtain ⟨c, h⟩ := h_
  have h_ := gP h; clear h; obtain ⟨c, h⟩ := h_
  refine zz ?_
  refine brN (iP h) ?_ ?_ <;> (clear h; intro c h)
  ·replace h := evR h; cases h
   refine zz ?_
   exact zend
  replace h := evT h
  refine zz ?_
  exact ⟨[], rfl, _, zfuel, _, _, _, h, leafFr [0, 1, 5] (by kernel_rfl), by kernel_rfl⟩
theorem laws_FnExactNames_ev (l0 : List S58) (r : Bool) (h : laws_FnExactNames.fv l0 = some r) : CE G 4 [.val (.row (l0.map e58))] [] [.val (.bool r)] [] := by
  obtain ⟨k, h⟩ := lim_ex h
  refine CE.mk ⟨Try.f4, _, rfl, rfl, ⟨by kernel_rfl, Nat.le_of_ble_eq_true rfl, Nat.le_of_ble_eq_true rfl⟩, ?_⟩
  rcases k with _ | k
  · exact (run_zero h).elim
  rw [run_succ, laws_FnExactNames.B] at h
  have h_ := evO h; clear h; obtain ⟨t16, ht, h⟩ := h_
  refine zz ?_
  refine Exists.intro _ (And.intro (laws_szRuleS_ev (h := ht)) ?_)
  refine zz ?_
  refine br (iP h) ?_ ?_ <;> (clear h; intro c h)
  ·replace h := evR h; cases h
   refine zz ?_
   exact zend
  have h_ := evO h; clear h; obtain ⟨t21, ht, h⟩ := h_
  refine zz ?_
  refine Exists.intro _ (Exists.intro _ (And.intro (laws_toRuleS_ev (h := ht)) ?_))
  have h_ := evO h; clear h; obtain ⟨t22, ht, h⟩ := h_
  refine zz ?_
  refine Exists.intro _ (And.intro (spec_Names_ev (h := ht)) ?_)
  have h_ := evO h; clear h; obtain ⟨t26, ht, h⟩ := h_
  refine zz ?_
  refine Exists.intro _ (Exists.intro _ (And.intro (laws_toRuleS_ev (h := ht)) ?_))
  have h_ := evO h; clear h; obtain ⟨t29, ht, h⟩ := h_
  refine zz ?_
  refine Exists.intro _ (Exists.intro _ (And.intro (impl_Names_ev (h := ht)) ?_))
  refine zz ?_
  refine cutJ (n := 41) (fun fr hp => ∃ kq, kq ≤ k ∧ ∃ (x0 : List S58) (x4 : List ByteArray) (x5 : List ByteArray) (x6 : List S64) (x7 : List ByteArray) (x8 : List ByteArray) (g1049168 : Nat) (g1057360 : Nat) (g1057361 : Nat), run laws_FnExactNames.B kq (.j0 x0 x4 x5 x6 x7 x8) = some r ∧ (∃ fr0, fr = puts [(0, .one (.val (.row (x0.map e58)))), (4, .one (.val (.row (x4.map VV.str)))), (5, .one (.val (.row (x5.map VV.str)))), (6, .one (.ref 1049168 g1049168)), (7, .one (.ref 1057360 g1057360)), (8, .one (.ref 1057361 g1057361))] fr0) ∧ hp = (upd 1049168 (.tree 64 9 (x6.map e64) g1049168) (upd 1057360 (.own 9 1 (x7.map VV.str) g1057360 false) (upd 1057361 (.own 9 1 (x8.map VV.str) g1057361 false) (fun _ => none))))) ?_ ?_
  ·refine zz ?_
   refine cutJ (n := 200008) (fun fr hp => ∃ kq, kq ≤ k ∧ ∃ (x0 : List S58) (x4 : List ByteArray) (x5 : List ByteArray) (x6 : List S64) (x7 : List ByteArray) (x8 : List ByteArray) (x41 : Bool) (g1049168 : Nat) (g1057360 : Nat) (g1057361 : Nat), run laws_FnExactNames.B kq (.j1 x0 x4 x5 x6 x7 x8 x41) = some r ∧ (∃ fr0, fr = puts [(0, .one (.val (.row (x0.map e58)))), (4, .one (.val (.row (x4.map VV.str)))), (5, .one (.val (.row (x5.map VV.str)))), (6, .one (.ref 1049168 g1049168)), (7, .one (.ref 1057360 g1057360)), (8, .one (.ref 1057361 g1057361)), (41, .one (.val (.bool x41)))] fr0) ∧ hp = (upd 1049168 (.tree 64 9 (x6.map e64) g1049168) (upd 1057360 (.own 9 1 (x7.map VV.str) g1057360 false) (upd 1057361 (.own 9 1 (x8.map VV.str) g1057361 false) (fun _ => none))))) ?_ ?_
   ·have h_ := evO h; clear h; obtain ⟨t34, ht, h⟩ := h_
    refine zz ?_
    refine Exists.intro _ (Exists.intro _ (And.intro (laws_eqStringS_ev (h := ht)) ?_))
    refine zz ?_
    refine brX (iP h) ?_ ?_ <;> (clear h; intro c h)
    rotate_left
    ·refine zr ?_
     refine zr ?_
     refine zr ?_
     refine zl ?_
     replace h := evT h
     refine zz ?_
     exact ⟨[(1049168, 1049168), (1057360, 1057360), (1057361, 1057361)], rfl, _, zfuel, _, _, _, _, _, _, _, 0, 0, 0, h, leafFr [0, 4, 5, 6, 7, 8, 41] (by kernel_rfl), by kernel_rfl⟩
    refine zl ?_
    refine zl ?_
    have h_ := evO h; clear h; obtain ⟨t39, ht, h⟩ := h_
    refine zz ?_
    refine Exists.intro _ (Exists.intro _ (And.intro (laws_eqStringS_ev (h := ht)) ?_))
    refine zl ?_
    refine zr ?_
    replace h := evT h
    refine zz ?_
    exact ⟨[(1049168, 1049168), (1057360, 1057360), (1057361, 1057361)], rfl, _, zfuel, _, _, _, _, _, _, _, 0, 0, 0, h, leafFr [0, 4, 5, 6, 7, 8, 41] (by kernel_rfl), by kernel_rfl⟩
   clear h; rintro _ _ ⟨k, hle, x0, x4, x5, x6, x7, x8, x41, g1049168, g1057360, g1057361, h, ⟨fr0, rfl⟩, rfl⟩
   rcases k with _ | k
   · exact (run_zero h).elim
   rw [run_succ, laws_FnExactNames.B] at h
   refine zz ?_
   refine br (iP h) ?_ ?_ <;> (clear h; intro c h)
   ·replace h := evR h; cases h
    refine zz ?_
    exact zend
   replace h := evT h
   refine zz ?_
   exact ⟨[(1049168, 1049168), (1057360, 1057360), (1057361, 1057361)], rfl, _, zfuel, _, _, _, _, _, _, g1049168, g1057360, g1057361, h, leafFr [0, 4, 5, 6, 7, 8] (by kernel_rfl), by kernel_rfl⟩
  clear h; rintro _ _ ⟨k, hle, x0, x4, x5, x6, x7, x8, g1049168, g1057360, g1057361, h, ⟨fr0, rfl⟩, rfl⟩
  rcases k with _ | k
  · exact (run_zero h).elim
  rw [run_succ, laws_FnExactNames.B] at h
  have h_ := evO h; clear h; obtain ⟨t44, ht, h⟩ := h_
  refine zz ?_
  refine Exists.intro _ (Exists.intro _ (And.intro (laws_toRuleS_ev (h := ht)) ?_))
  have h_ := evO h; clear h; obtain ⟨t45, ht, h⟩ := h_
  refine zz ?_
  refine Exists.intro _ (Exists.intro _ (And.intro (laws_eqRuleS_ev (h := ht)) ?_))
  refine zz ?_
  refine brN (iP h) ?_ ?_ <;> (clear h; intro c h)
  ·replace h := evR h; cases h
   refine zz ?_
   exact zend
  have h_ := evO h; clear h; obtain ⟨t49, ht, h⟩ := h_
  refine zz ?_
  refine Exists.intro _ (Exists.intro _ (And.intro (laws_markRuleS_ev (h := ht)) ?_))
  refine zz ?_
  refine cutJ (n := 63) (fun fr hp => ∃ kq, kq ≤ k ∧ ∃ (x0 : List S58) (x4 : List ByteArray) (x5 : List ByteArray) (x7 : List ByteArray) (x8 : List ByteArray) (g1057360 : Nat) (g1057361 : Nat), run laws_FnExactNames.B kq (.j2 x0 x4 x5 x7 x8) = some r ∧ (∃ fr0, fr = puts [(0, .one (.val (.row (x0.map e58)))), (4, .one (.val (.row (x4.map VV.str)))), (5, .one (.val (.row (x5.map VV.str)))), (7, .one (.ref 1057360 g1057360)), (8, .one (.ref 1057361 g1057361))] fr0) ∧ hp = (upd 1057360 (.own 9 1 (x7.map VV.str) g1057360 false) (upd 1057361 (.own 9 1 (x8.map VV.str) g1057361 false) (fun _ => none)))) ?_ ?_
  ·refine zz ?_
   refine cutJ (n := 200014) (fun fr hp => ∃ kq, kq ≤ k ∧ ∃ (x0 : List S58) (x4 : List ByteArray) (x5 : List ByteArray) (x7 : List ByteArray) (x8 : List ByteArray) (x63 : Bool) (g1057360 : Nat) (g1057361 : Nat), run laws_FnExactNames.B kq (.j3 x0 x4 x5 x7 x8 x63) = some r ∧ (∃ fr0, fr = puts [(0, .one (.val (.row (x0.map e58)))), (4, .one (.val (.row (x4.map VV.str)))), (5, .one (.val (.row (x5.map VV.str)))), (7, .one (.ref 1057360 g1057360)), (8, .one (.ref 1057361 g1057361)), (63, .one (.val (.bool x63)))] fr0) ∧ hp = (upd 1057360 (.own 9 1 (x7.map VV.str) g1057360 false) (upd 1057361 (.own 9 1 (x8.map VV.str) g1057361 false) (fun _ => none)))) ?_ ?_
   ·refine zz ?_
    refine brW (iP h) ?_ ?_ <;> (clear h; intro c h)
    rotate_left
    ·refine zr ?_
     refine zr ?_
     refine zr ?_
     refine zl ?_
     refine zr ?_
     refine zr ?_
     refine zr ?_
     refine zr ?_
     refine zl ?_
     replace h := evT h
     refine zz ?_
     exact ⟨[(1057360, 1057360), (1057361, 1057361)], rfl, _, zfuel, _, _, _, _, _, _, g1057360, g1057361, h, leafFr [0, 4, 5, 7, 8, 63] (by kernel_rfl), by kernel_rfl⟩
    refine zl ?_
    refine zl ?_
    have h_ := evO h; clear h; obtain ⟨t55, ht, h⟩ := h_
    refine zz ?_
    refine Exists.intro _ (Exists.intro _ (And.intro (laws_eqStringS_ev (h := ht)) ?_))
    refine zl ?_
    refine zr ?_
    refine zz ?_
    refine brX (iP h) ?_ ?_ <;> (clear h; intro c h)
    rotate_left
    ·refine zr ?_
     refine zr ?_
     refine zr ?_
     refine zl ?_
     replace h := evT h
     refine zz ?_
     exact ⟨[(1057360, 1057360), (1057361, 1057361)], rfl, _, zfuel, _, _, _, _, _, _, g1057360, g1057361, h, leafFr [0, 4, 5, 7, 8, 63] (by kernel_rfl), by kernel_rfl⟩
    refine zl ?_
    refine zl ?_
    have h_ := evO h; clear h; obtain ⟨t61, ht, h⟩ := h_
    refine zz ?_
    refine Exists.intro _ (Exists.intro _ (And.intro (laws_eqStringS_ev (h := ht)) ?_))
    refine zl ?_
    refine zr ?_
    replace h := evT h
    refine zz ?_
    exact ⟨[(1057360, 1057360), (1057361, 1057361)], rfl, _, zfuel, _, _, _, _, _, _, g1057360, g1057361, h, leafFr [0, 4, 5, 7, 8, 63] (by kernel_rfl), by kernel_rfl⟩
   clear h; rintro _ _ ⟨k, hle, x0, x4, x5, x7, x8, x63, g1057360, g1057361, h, ⟨fr0, rfl⟩, rfl⟩
   rcases k with _ | k
   · exact (run_zero h).elim
   rw [run_succ, laws_FnExactNames.B] at h
   refine zz ?_
   refine br (iP h) ?_ ?_ <;> (clear h; intro c h)
   ·replace h := evR h; cases h
    refine zz ?_
    exact zend
   replace h := evT h
   refine zz ?_
   exact ⟨[(1057360, 1057360), (1057361, 1057361)], rfl, _, zfuel, _, _, _, _, _, g1057360, g1057361, h, leafFr [0, 4, 5, 7, 8] (by kernel_rfl), by kernel_rfl⟩
  clear h; rintro _ _ ⟨k, hle, x0, x4, x5, x7, x8, g1057360, g1057361, h, ⟨fr0, rfl⟩, rfl⟩
  rcases k with _ | k
  · exact (run_zero h).elim
  rw [run_succ, laws_FnExactNames.B] at h
  have h_ := evO h; clear h; obtain ⟨t66, ht, h⟩ := h_
  refine zz ?_
  refine Exists.intro _ (Exists.intro _ (And.intro (laws_markStringS_ev (h := ht)) ?_))
  have h_ := evO h; clear h; obtain ⟨t69, ht, h⟩ := h_
  refine zz ?_
  refine Exists.intro _ (Exists.intro _ (And.intro (laws_markStringS_ev (h := ht)) ?_))
  have h_ := evO h; clear h; obtain ⟨t72, ht, h⟩ := h_
  refine zz ?_
  refine Exists.intro _ (And.intro (laws_heldStringS_ev (h := ht)) ?_)
  refine zz ?_
  refine br (iP h) ?_ ?_ <;> (clear h; intro c h)
  ·replace h := evR h; cases h
   refine zz ?_
   exact zend
  have h_ := evO h; clear h; obtain ⟨t77, ht, h⟩ := h_
  refine zz ?_
  refine Exists.intro _ (And.intro (laws_heldStringS_ev (h := ht)) ?_)
  refine zz ?_
  refine br (iP h) ?_ ?_ <;> (clear h; intro c h)
  ·replace h := evR h; cases h
   refine zz ?_
   exact zend
  refine zz ?_
  refine brN (iP h) ?_ ?_ <;> (clear h; intro c h)
  ·replace h := evR h; cases h
   refine zz ?_
   exact zend
  have h_ := evO h; clear h; obtain ⟨t85, ht, h⟩ := h_
  refine zz ?_
  refine Exists.intro _ (Exists.intro _ (And.intro (laws_toRuleS_ev (h := ht)) ?_))
  have h_ := evO h; clear h; obtain ⟨t86, ht, h⟩ := h_
  refine zz ?_
  refine Exists.intro _ (Exists.intro _ (And.intro (impl_Names_ev (h := ht)) ?_))
  refine zz ?_
  refine cutJ (n := 98) (fun fr hp => ∃ kq, kq ≤ k ∧ ∃ (x7 : List ByteArray) (x8 : List ByteArray) (x10 : Int) (g1057360 : Nat) (g1057361 : Nat), run laws_FnExactNames.B kq (.j4 x7 x8 x10) = some r ∧ (∃ fr0, fr = puts [(7, .one (.ref 1057360 g1057360)), (8, .one (.ref 1057361 g1057361)), (10, .one (.val (.int .i64 x10)))] fr0) ∧ hp = (upd 1057360 (.own 9 1 (x7.map VV.str) g1057360 true) (upd 1057361 (.own 9 1 (x8.map VV.str) g1057361 true) (fun _ => none)))) ?_ ?_
  ·refine zz ?_
   refine cutJ (n := 200029) (fun fr hp => ∃ kq, kq ≤ k ∧ ∃ (x7 : List ByteArray) (x8 : List ByteArray) (x10 : Int) (x98 : Bool) (g1057360 : Nat) (g1057361 : Nat), run laws_FnExactNames.B kq (.j5 x7 x8 x10 x98) = some r ∧ (∃ fr0, fr = puts [(7, .one (.ref 1057360 g1057360)), (8, .one (.ref 1057361 g1057361)), (10, .one (.val (.int .i64 x10))), (98, .one (.val (.bool x98)))] fr0) ∧ hp = (upd 1057360 (.own 9 1 (x7.map VV.str) g1057360 true) (upd 1057361 (.own 9 1 (x8.map VV.str) g1057361 true) (fun _ => none)))) ?_ ?_
   ·have h_ := evO h; clear h; obtain ⟨t91, ht, h⟩ := h_
    refine zz ?_
    refine Exists.intro _ (Exists.intro _ (And.intro (laws_eqStringS_2_ev (h := ht)) ?_))
    refine zz ?_
    refine brX (iP h) ?_ ?_ <;> (clear h; intro c h)
    rotate_left
    ·refine zr ?_
     refine zr ?_
     refine zr ?_
     refine zl ?_
     replace h := evT h
     refine zz ?_
     exact ⟨[(1057360, 1057360), (1057361, 1057361)], rfl, _, zfuel, _, _, _, _, g1057360, g1057361, h, leafFr [7, 8, 10, 98] (by kernel_rfl), by kernel_rfl⟩
    refine zl ?_
    refine zl ?_
    have h_ := evO h; clear h; obtain ⟨t96, ht, h⟩ := h_
    refine zz ?_
    refine Exists.intro _ (Exists.intro _ (And.intro (laws_eqStringS_2_ev (h := ht)) ?_))
    refine zl ?_
    refine zr ?_
    replace h := evT h
    refine zz ?_
    exact ⟨[(1057360, 1057360), (1057361, 1057361)], rfl, _, zfuel, _, _, _, _, g1057360, g1057361, h, leafFr [7, 8, 10, 98] (by kernel_rfl), by kernel_rfl⟩
   clear h; rintro _ _ ⟨k, hle, x7, x8, x10, x98, g1057360, g1057361, h, ⟨fr0, rfl⟩, rfl⟩
   rcases k with _ | k
   · exact (run_zero h).elim
   rw [run_succ, laws_FnExactNames.B] at h
   refine zz ?_
   refine br (iP h) ?_ ?_ <;> (clear h; intro c h)
   ·replace h := evR h; cases h
    refine zz ?_
    exact zend
   replace h := evT h
   refine zz ?_
   exact ⟨[(1057360, 1057360), (1057361, 1057361)], rfl, _, zfuel, _, _, _, g1057360, g1057361, h, leafFr [7, 8, 10] (by kernel_rfl), by kernel_rfl⟩
  clear h; rintro _ _ ⟨k, hle, x7, x8, x10, g1057360, g1057361, h, ⟨fr0, rfl⟩, rfl⟩
  rcases k with _ | k
  · exact (run_zero h).elim
  rw [run_succ, laws_FnExactNames.B] at h
  have h_ := evO h; clear h; obtain ⟨t101, ht, h⟩ := h_
  refine zz ?_
  refine Exists.intro _ (And.intro (laws_heldStringS_ev (h := ht)) ?_)
  refine zz ?_
  refine br (iP h) ?_ ?_ <;> (clear h; intro c h)
  ·replace h := evR h; cases h
   refine zz ?_
   exact zend
  have h_ := evO h; clear h; obtain ⟨t106, ht, h⟩ := h_
  refine zz ?_
  refine Exists.intro _ (And.intro (laws_heldStringS_ev (h := ht)) ?_)
  refine zz ?_
  refine br (iP h) ?_ ?_ <;> (clear h; intro c h)
  ·replace h := evR h; cases h
   refine zz ?_
   exact zend
  refine zz ?_
  refine brN (iP h) ?_ ?_ <;> (clear h; intro c h)
  ·replace h := evR h; cases h
   refine zz ?_
   exact zend
  replace h := evR h; cases h
  refine zz ?_
  exact zend
end Go.Proofs.Ytccldchklemogaa.TFnExactNames
