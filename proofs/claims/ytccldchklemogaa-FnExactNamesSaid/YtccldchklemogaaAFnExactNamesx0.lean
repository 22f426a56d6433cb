/- The walks of the functions that FnExactNames reaches, through the abstract machine. -/
import Derived.Test.YtccldchklemogaaAFnExactNamesh
import Derived.Test.YtccldchklemogaaFFnExactNames
import Derived.Test.YtccldchklemogaaProg
set_option maxHeartbeats 4000000
set_option maxRecDepth 100000
set_option linter.unusedVariables false
set_option linter.unusedSimpArgs false
namespace Go.Proofs.Ytccldchklemogaa.TFnExactNames
open Go Go.RowKit Go.Proofs Go.Proofs.YtccldchklemogaaW.AM Go.Proofs.Ytccldchklemogaa.QFnExactNames Go.Proofs.YtccldchklemogaaW.PrintWords Go.Proofs.YtccldchklemogaaW.Pgs
theorem laws_szNode_all : ∀ n, (∀ (k : Nat) (a0_0 : Int) (a0_1 : Int) (a0_2 : ByteArray) (l0_3 : List S56) (a1 : Int) (r : Int) (h : run laws_szNode.B k (.laws_szNode_f a0_0 a0_1 a0_2 l0_3 a1) = some r) (hk : k < n), CE G 40 [.val (.agg [.int .i64 a0_0, .int .i64 a0_1, .str a0_2, .row (l0_3.map e56)]), .val (.int .i64 a1)] [] [.val (.int .i64 r)] []) ∧ (∀ (k : Nat) (l0 : List S56) (a1 : Int) (r : Int) (h : run laws_szNode.B k (.laws_szNodeS_f l0 a1) = some r) (hk : k < n), CE G 50 [.val (.row (l0.map e56)), .val (.int .i64 a1)] [] [.val (.int .i64 r)] []) := by
  intro n
  induction n with
  | zero => exact ⟨by intros; omega, by intros; omega⟩
  | succ n ih =>
    refine ⟨?_, ?_⟩
    · intro k a0_0 a0_1 a0_2 l0_3 a1 r h hk
      refine CE.mk ⟨Try.f40, _, rfl, rfl, ⟨by kernel_rfl, Nat.le_of_ble_eq_true rfl, Nat.le_of_ble_eq_true rfl⟩, ?_⟩
      rcases k with _ | k
      · exact (run_zero h).elim
      rw [run_succ, laws_szNode.B] at h
      refine zz ?_
      refine br (iP h) ?_ ?_ <;> (clear h; intro c h)
      ·replace h := evR h; cases h
       refine zz ?_
       exact zend
      have h_ := evA h; clear h; obtain ⟨t15, ht, h⟩ := h_
      refine zz ?_
      refine Exists.intro _ (And.intro (ih.2 _ (h := ht) (hk := zfuel)) ?_)
      refine zz ?_
      refine br (iP h) ?_ ?_ <;> (clear h; intro c h)
      ·replace h := evR h; cases h
       refine zz ?_
       exact zend
      replace h := evR h; cases h
      refine zz ?_
      exact zend
    · intro k l0 a1 r h hk
      refine CE.mk ⟨Try.f50, _, rfl, rfl, ⟨by kernel_rfl, Nat.le_of_ble_eq_true rfl, Nat.le_of_ble_eq_true rfl⟩, ?_⟩
      rcases k with _ | k
      · exact (run_zero h).elim
      rw [run_succ, laws_szNode.B] at h
      refine zz ?_
      refine br (iP h) ?_ ?_ <;> (clear h; intro c h)
      ·replace h := evR h; cases h
       refine zz ?_
       exact zend
      replace h := evT h
      refine zz ?_
      refine loopJ (fun kq fr hp => ∃ (x0 : List S56) (x1 : Int) (x5 : Int), run laws_szNode.B kq (.laws_szNodeS_l0 x0 x1 x5) = some r ∧ (∃ fr0, fr = puts [(0, .one (.val (.row (x0.map e56)))), (1, .one (.val (.int .i64 x1))), (5, .one (.val (.int .i64 x5)))] fr0) ∧ hp = (fun _ => none)) k ⟨[], rfl, _, zfuel, _, _, _, h, leafFr [0, 1, 5] (by kernel_rfl), by kernel_rfl⟩ ?_
      clear h; rintro k hle _ _ ⟨x0, x1, x5, h, ⟨fr0, rfl⟩, rfl⟩
      rcases k with _ | k
      · exact (run_zero h).elim
      rw [run_succ, laws_szNode.B] at h
      refine zz ?_
      refine br (iP h) ?_ ?_ <;> (clear h; intro c h)
      rotate_left
      ·replace h := evR h; cases h
       refine zz ?_
       exact zend
      have h_ := gP h; clear h; obtain ⟨c, h⟩ := h_
      have h_ := evA h; clear h; obtain ⟨t23, ht, h⟩ := h_
      refine zz ?_
      refine Exists.intro _ (And.intro (ih.1 _ (h := ht) (hk := zfuel)) ?_)
      refine zz ?_
      refine br (iP h) ?_ ?_ <;> (clear h; intro c h)
      ·replace h := evR h; cases h
       refine zz ?_
       exact zend
      replace h := evT h
      refine zz ?_
      exact ⟨[], rfl, _, zfuel, _, _, _, h, leafFr [0, 1, 5] (by kernel_rfl), by kernel_rfl⟩
theorem laws_szNode_ev (a0_0 : Int) (a0_1 : Int) (a0_2 : ByteArray) (l0_3 : List S56) (a1 : Int) (r : Int) (h : laws_szNode.fv a0_0 a0_1 a0_2 l0_3 a1 = some r) : CE G 40 [.val (.agg [.int .i64 a0_0, .int .i64 a0_1, .str a0_2, .row (l0_3.map e56)]), .val (.int .i64 a1)] [] [.val (.int .i64 r)] [] := by
  obtain ⟨k, h⟩ := lim_ex h
  exact (laws_szNode_all (k + 1)).1 k _ _ _ _ _ _ h (Nat.lt_succ_self k)
theorem laws_szNodeS_ev (l0 : List S56) (a1 : Int) (r : Int) (h : laws_szNodeS.fv l0 a1 = some r) : CE G 50 [.val (.row (l0.map e56)), .val (.int .i64 a1)] [] [.val (.int .i64 r)] [] := by
  obtain ⟨k, h⟩ := lim_ex h
  exact (laws_szNode_all (k + 1)).2 k _ _ _ h (Nat.lt_succ_self k)
theorem laws_szRule_ev (a0_0 : Int) (a0_1 : Int) (a0_2 : Int) (a0_3 : ByteArray) (l0_4 : List S56) (a0_5 : Int) (a0_6 : Int) (a0_7 : ByteArray) (l0_8 : List S56) (a1 : Int) (r : Int) (h : laws_szRule.fv a0_0 a0_1 a0_2 a0_3 l0_4 a0_5 a0_6 a0_7 l0_8 a1 = some r) : CE G 26 [.val (.agg [.int .i64 a0_0, .int .i64 a0_1, .int .i64 a0_2, .str a0_3, .row (l0_4.map e56), .int .i64 a0_5, .int .i64 a0_6, .str a0_7, .row (l0_8.map e56)]), .val (.int .i64 a1)] [] [.val (.int .i64 r)] [] := by
  refine CE.mk ⟨Try.f26, _, rfl, rfl, ⟨by kernel_rfl, Nat.le_of_ble_eq_true rfl, Nat.le_of_ble_eq_true rfl⟩, ?_⟩
  rw [laws_szRule.fv] at h
  have h_ := oS h; clear h; obtain ⟨t8, ht, h⟩ := h_
  refine zz ?_
  refine Exists.intro _ (And.intro (laws_szNode_ev (h := ht)) ?_)
  refine zz ?_
  refine br (iteS h) ?_ ?_ <;> (clear h; intro c h)
  ·cases h
   refine zz ?_
   exact zend
  have h_ := oS h; clear h; obtain ⟨t14, ht, h⟩ := h_
  refine zz ?_
  refine Exists.intro _ (And.intro (laws_szNode_ev (h := ht)) ?_)
  refine zz ?_
  refine br (iteS h) ?_ ?_ <;> (clear h; intro c h)
  ·cases h
   refine zz ?_
   exact zend
  cases h
  refine zz ?_
  exact zend
theorem laws_szRuleS_ev (l0 : List S58) (a1 : Int) (r : Int) (h : laws_szRuleS.fv l0 a1 = some r) : CE G 10 [.val (.row (l0.map e58)), .val (.int .i64 a1)] [] [.val (.int .i64 r)] [] := by
  obtain ⟨k, h⟩ := lim_ex h
  refine CE.mk ⟨Try.f10, _, rfl, rfl, ⟨by kernel_rfl, Nat.le_of_ble_eq_true rfl, Nat.le_of_ble_eq_true rfl⟩, ?_⟩
  rcases k with _ | k
  · exact (run_zero h).elim
  rw [run_succ, laws_szRuleS.B] at h
  refine zz ?_
  refine br (iP h) ?_ ?_ <;> (clear h; intro c h)
  ·replace h := evR h; cases h
   refine zz ?_
   exact zend
  replace h := evT h
  refine zz ?_
  refine loopJ (fun kq fr hp => ∃ (x0 : List S58) (x1 : Int) (x5 : Int), run laws_szRuleS.B kq (.l0 x0 x1 x5) = some r ∧ (∃ fr0, fr = puts [(0, .one (.val (.row (x0.map e58)))), (1, .one (.val (.int .i64 x1))), (5, .one (.val (.int .i64 x5)))] fr0) ∧ hp = (fun _ => none)) k ⟨[], rfl, _, zfuel, _, _, _, h, leafFr [0, 1, 5] (by kernel_rfl), by kernel_rfl⟩ ?_
  clear h; rintro k hle _ _ ⟨x0, x1, x5, h, ⟨fr0, rfl⟩, rfl⟩
  rcases k with _ | k
  · exact (run_zero h).elim
  rw [run_succ, laws_szRuleS.B] at h
  refine zz ?_
  refine br (iP h) ?_ ?_ <;> (clear h; intro c h)
  rotate_left
  ·replace h := evR h; cases h
   refine zz ?_
   exact zend
  have h_ := gP h; clear h; obtain ⟨c, h⟩ := h_
  have h_ := evO h; clear h; obtain ⟨t23, ht, h⟩ := h_
  refine zz ?_
  refine Exists.intro _ (And.intro (laws_szRule_ev (h := ht)) ?_)
  refine zz ?_
  refine br (iP h) ?_ ?_ <;> (clear h; intro c h)
  ·replace h := evR h; cases h
   refine zz ?_
   exact zend
  replace h := evT h
  refine zz ?_
  exact ⟨[], rfl, _, zfuel, _, _, _, h, leafFr [0, 1, 5] (by kernel_rfl), by kernel_rfl⟩
theorem laws_toNode_all : ∀ n, (∀ (k : Nat) (a0_0 : Int) (a0_1 : Int) (a0_2 : ByteArray) (l0_3 : List S56) (r1 : Int) (r2 : Int) (r3 : ByteArray) (r4 : List S62) (h : run laws_toNode.B k (.laws_toNode_f a0_0 a0_1 a0_2 l0_3) = some (r1, r2, r3, r4)) (hk : k < n), CE G 42 [.val (.agg [.int .i64 a0_0, .int .i64 a0_1, .str a0_2, .row (l0_3.map e56)])] [] [.sp 16] [.vbox [.val (.int .i64 r1), .val (.int .i64 r2), .val (.str r3), .ref 17 0], .tree 62 4 (r4.map e62) 0]) ∧ (∀ (k : Nat) (l0 : List S56) (r : List S62) (h : run laws_toNode.B k (.laws_toNodeS_f l0) = some r) (hk : k < n), CE G 52 [.val (.row (l0.map e56))] [] [.ref 16 0] [.tree 62 4 (r.map e62) 0]) := by
  intro n
  induction n with
  | zero => exact ⟨by intros; omega, by intros; omega⟩
  | succ n ih =>
    refine ⟨?_, ?_⟩
    · intro k a0_0 a0_1 a0_2 l0_3 r1 r2 r3 r4 h hk
      refine CE.mk ⟨Try.f42, _, rfl, rfl, ⟨by kernel_rfl, Nat.le_of_ble_eq_true rfl, Nat.le_of_ble_eq_true rfl⟩, ?_⟩
      rcases k with _ | k
      · exact (run_zero h).elim
      rw [run_succ, laws_toNode.B] at h
      have h_ := evA h; clear h; obtain ⟨t15, ht, h⟩ := h_
      refine zz ?_
      refine Exists.intro _ (Exists.intro _ (And.intro (ih.2 _ (h := ht) (hk := zfuel)) ?_))
      replace h := evR h; cases h
      refine zz ?_
      first | refine ⟨trivial, [460800016, 1040992], [(1040992, 0, 0)], ⟨rfl, ⟨trivial, trivial⟩⟩, _, rfl, _, rfl, ?_⟩ | refine ⟨[460800016, 1040992], [(1040992, 0, 0)], ⟨rfl, ⟨trivial, trivial⟩⟩, _, rfl, _, rfl, ?_⟩
      repeat' (first | (refine And.intro ?_ ?_) | rfl)
    · intro k l0 r h hk
      refine CE.mk ⟨Try.f52, _, rfl, rfl, ⟨by kernel_rfl, Nat.le_of_ble_eq_true rfl, Nat.le_of_ble_eq_true rfl⟩, ?_⟩
      rcases k with _ | k
      · exact (run_zero h).elim
      rw [run_succ, laws_toNode.B] at h
      have h_ := gP h; clear h; obtain ⟨c, h⟩ := h_
      have h_ := gP h; clear h; obtain ⟨c, h⟩ := h_
      refine zz ?_
      refine Exists.intro (List.map e62 (List.replicate ((l0.length : Int) : Int).toNat z62)) (And.intro zrow ?_)
      replace h := evT h
      refine zz ?_
      refine loopJ (fun kq fr hp => ∃ (x0 : List S56) (x3 : List S62) (x4 : Int) (g530 : Nat), run laws_toNode.B kq (.laws_toNodeS_l0 x0 x3 x4) = some r ∧ (∃ fr0, fr = puts [(0, .one (.val (.row (x0.map e56)))), (3, .one (.ref 530 g530)), (4, .one (.val (.int .i64 x4)))] fr0) ∧ hp = (upd 530 (.tree 62 4 (x3.map e62) g530) (fun _ => none))) k ⟨[(530, 530)], rfl, _, zfuel, _, _, _, 0, h, leafFr [0, 3, 4] (by kernel_rfl), by kernel_rfl⟩ ?_
      clear h; rintro k hle _ _ ⟨x0, x3, x4, g530, h, ⟨fr0, rfl⟩, rfl⟩
      rcases k with _ | k
      · exact (run_zero h).elim
      rw [run_succ, laws_toNode.B] at h
      refine zz ?_
      refine br (iP h) ?_ ?_ <;> (clear h; intro c h)
      rotate_left
      ·replace h := evR h; cases h
       refine zz ?_
       first | refine ⟨trivial, [530], [(530, g530, 0)], ⟨rfl, ⟨trivial, trivial⟩⟩, _, rfl, _, rfl, ?_⟩ | refine ⟨[530], [(530, g530, 0)], ⟨rfl, ⟨trivial, trivial⟩⟩, _, rfl, _, rfl, ?_⟩
       repeat' (first | (refine And.intro ?_ ?_) | rfl)
      have h_ := gP h; clear h; obtain ⟨c, h⟩ := h_
      have h_ := evA h; clear h; obtain ⟨t20, ht, h⟩ := h_
      refine zz ?_
      refine Exists.intro _ (Exists.intro _ (And.intro (ih.1 _ (h := ht) (hk := zfuel)) ?_))
      have h_ := gP h; clear h; obtain ⟨c, h⟩ := h_
      refine zz ?_
      refine Exists.intro (List.map e62 (x3.set (x4 : Int).toNat (⟨t20.1, t20.2.1, t20.2.2.1, t20.2.2.2⟩ : S62))) (And.intro zrow ?_)
      replace h := evT h
      refine zz ?_
      exact ⟨[(530, 530)], rfl, _, zfuel, _, _, _, g530, h, leafFr [0, 3, 4] (by kernel_rfl), by kernel_rfl⟩
theorem laws_toNode_ev (a0_0 : Int) (a0_1 : Int) (a0_2 : ByteArray) (l0_3 : List S56) (r1 : Int) (r2 : Int) (r3 : ByteArray) (r4 : List S62) (h : laws_toNode.fv a0_0 a0_1 a0_2 l0_3 = some (r1, r2, r3, r4)) : CE G 42 [.val (.agg [.int .i64 a0_0, .int .i64 a0_1, .str a0_2, .row (l0_3.map e56)])] [] [.sp 16] [.vbox [.val (.int .i64 r1), .val (.int .i64 r2), .val (.str r3), .ref 17 0], .tree 62 4 (r4.map e62) 0] := by
  obtain ⟨k, h⟩ := lim_ex h
  exact (laws_toNode_all (k + 1)).1 k _ _ _ _ _ _ _ _ h (Nat.lt_succ_self k)
theorem laws_toNodeS_ev (l0 : List S56) (r : List S62) (h : laws_toNodeS.fv l0 = some r) : CE G 52 [.val (.row (l0.map e56))] [] [.ref 16 0] [.tree 62 4 (r.map e62) 0] := by
  obtain ⟨k, h⟩ := lim_ex h
  exact (laws_toNode_all (k + 1)).2 k _ _ h (Nat.lt_succ_self k)
theorem laws_toRule_ev (a0_0 : Int) (a0_1 : Int) (a0_2 : Int) (a0_3 : ByteArray) (l0_4 : List S56) (a0_5 : Int) (a0_6 : Int) (a0_7 : ByteArray) (l0_8 : List S56) (r1 : Int) (r2 : Int) (r3 : Int) (r4 : ByteArray) (r5 : List S62) (r6 : Int) (r7 : Int) (r8 : ByteArray) (r9 : List S62) (h : laws_toRule.fv a0_0 a0_1 a0_2 a0_3 l0_4 a0_5 a0_6 a0_7 l0_8 = some (r1, r2, r3, r4, r5, r6, r7, r8, r9)) : CE G 28 [.val (.agg [.int .i64 a0_0, .int .i64 a0_1, .int .i64 a0_2, .str a0_3, .row (l0_4.map e56), .int .i64 a0_5, .int .i64 a0_6, .str a0_7, .row (l0_8.map e56)])] [] [.sp 16] [.vbox [.val (.int .i64 r1), .val (.int .i64 r2), .val (.int .i64 r3), .val (.str r4), .ref 17 0, .val (.int .i64 r6), .val (.int .i64 r7), .val (.str r8), .ref 18 0], .tree 62 4 (r5.map e62) 0, .tree 62 4 (r9.map e62) 0] := by
  refine CE.mk ⟨Try.f28, _, rfl, rfl, ⟨by kernel_rfl, Nat.le_of_ble_eq_true rfl, Nat.le_of_ble_eq_true rfl⟩, ?_⟩
  rw [laws_toRule.fv] at h
  have h_ := oS h; clear h; obtain ⟨t9, ht, h⟩ := h_
  refine zz ?_
  refine Exists.intro _ (Exists.intro _ (And.intro (laws_toNode_ev (h := ht)) ?_))
  have h_ := oS h; clear h; obtain ⟨t13, ht, h⟩ := h_
  refine zz ?_
  refine Exists.intro _ (Exists.intro _ (And.intro (laws_toNode_ev (h := ht)) ?_))
  cases h
  refine zz ?_
  first | refine ⟨trivial, [460800016, 1024609, 1032801], [(1024609, 0, 0), (1032801, 0, 0)], ⟨rfl, ⟨trivial, ⟨trivial, trivial⟩⟩⟩, _, rfl, _, rfl, ?_⟩ | refine ⟨[460800016, 1024609, 1032801], [(1024609, 0, 0), (1032801, 0, 0)], ⟨rfl, ⟨trivial, ⟨trivial, trivial⟩⟩⟩, _, rfl, _, rfl, ?_⟩
  repeat' (first | (refine And.intro ?_ ?_) | rfl)
theorem laws_toRuleS_ev (l0 : List S58) (r : List S64) (h : laws_toRuleS.fv l0 = some r) : CE G 12 [.val (.row (l0.map e58))] [] [.ref 16 0] [.tree 64 9 (r.map e64) 0] := by
  obtain ⟨k, h⟩ := lim_ex h
  refine CE.mk ⟨Try.f12, _, rfl, rfl, ⟨by kernel_rfl, Nat.le_of_ble_eq_true rfl, Nat.le_of_ble_eq_true rfl⟩, ?_⟩
  rcases k with _ | k
  · exact (run_zero h).elim
  rw [run_succ, laws_toRuleS.B] at h
  have h_ := gP h; clear h; obtain ⟨c, h⟩ := h_
  have h_ := gP h; clear h; obtain ⟨c, h⟩ := h_
  refine zz ?_
  refine Exists.intro (List.map e64 (List.replicate ((l0.length : Int) : Int).toNat z64)) (And.intro zrow ?_)
  replace h := evT h
  refine zz ?_
  refine loopJ (fun kq fr hp => ∃ (x0 : List S58) (x3 : List S64) (x4 : Int) (g530 : Nat), run laws_toRuleS.B kq (.l0 x0 x3 x4) = some r ∧ (∃ fr0, fr = puts [(0, .one (.val (.row (x0.map e58)))), (3, .one (.ref 530 g530)), (4, .one (.val (.int .i64 x4)))] fr0) ∧ hp = (upd 530 (.tree 64 9 (x3.map e64) g530) (fun _ => none))) k ⟨[(530, 530)], rfl, _, zfuel, _, _, _, 0, h, leafFr [0, 3, 4] (by kernel_rfl), by kernel_rfl⟩ ?_
  clear h; rintro k hle _ _ ⟨x0, x3, x4, g530, h, ⟨fr0, rfl⟩, rfl⟩
  rcases k with _ | k
  · exact (run_zero h).elim
  rw [run_succ, laws_toRuleS.B] at h
  refine zz ?_
  refine br (iP h) ?_ ?_ <;> (clear h; intro c h)
  rotate_left
  ·replace h := evR h; cases h
   refine zz ?_
   first | refine ⟨trivial, [530], [(530, g530, 0)], ⟨rfl, ⟨trivial, trivial⟩⟩, _, rfl, _, rfl, ?_⟩ | refine ⟨[530], [(530, g530, 0)], ⟨rfl, ⟨trivial, trivial⟩⟩, _, rfl, _, rfl, ?_⟩
   repeat' (first | (refine And.intro ?_ ?_) | rfl)
  have h_ := gP h; clear h; obtain ⟨c, h⟩ := h_
  have h_ := evO h; clear h; obtain ⟨t20, ht, h⟩ := h_
  refine zz ?_
  refine Exists.intro _ (Exists.intro _ (And.intro (laws_toRule_ev (h := ht)) ?_))
  have h_ := gP h; clear h; obtain ⟨c, h⟩ := h_
  refine zz ?_
  refine Exists.intro (List.map e64 (x3.set (x4 : Int).toNat (⟨t20.1, t20.2.1, t20.2.2.1, t20.2.2.2.1, t20.2.2.2.2.1, t20.2.2.2.2.2.1, t20.2.2.2.2.2.2.1, t20.2.2.2.2.2.2.2.1, t20.2.2.2.2.2.2.2.2⟩ : S64))) (And.intro zrow ?_)
  replace h := evT h
  refine zz ?_
  exact ⟨[(530, 530)], rfl, _, zfuel, _, _, _, g530, h, leafFr [0, 3, 4] (by kernel_rfl), by kernel_rfl⟩
theorem spec_l7Within_ev (l0 : List ByteArray) (a1 : ByteArray) (r : Bool) (h : spec_l7Within.fv l0 a1 = some r) : CE G 51 [.val (.row (l0.map VV.str)), .val (.str a1)] [] [.val (.bool r)] [] := by
  obtain ⟨k, h⟩ := lim_ex h
  refine CE.mk ⟨Try.f51, _, rfl, rfl, ⟨by kernel_rfl, Nat.le_of_ble_eq_true rfl, Nat.le_of_ble_eq_true rfl⟩, ?_⟩
  rcases k with _ | k
  · exact (run_zero h).elim
  rw [run_succ, spec_l7Within.B] at h
  replace h := evT h
  refine zz ?_
  refine loopJ (fun kq fr hp => ∃ (x0 : List ByteArray) (x1 : ByteArray) (x5 : Int), run spec_l7Within.B kq (.l0 x0 x1 x5) = some r ∧ (∃ fr0, fr = puts [(0, .one (.val (.row (x0.map VV.str)))), (1, .one (.val (.str x1))), (5, .one (.val (.int .i64 x5)))] fr0) ∧ hp = (fun _ => none)) k ⟨[], rfl, _, zfuel, _, _, _, h, leafFr [0, 1, 5] (by kernel_rfl), by kernel_rfl⟩ ?_
  clear h; rintro k hle _ _ ⟨x0, x1, x5, h, ⟨fr0, rfl⟩, rfl⟩
  rcases k with _ | k
  · exact (run_zero h).elim
  rw [run_succ, spec_l7Within.B] at h
  refine zz ?_
  refine br (iP h) ?_ ?_ <;> (clear h; intro c h)
  rotate_left
  ·replace h := evR h; cases h
   refine zz ?_
   exact zend
  have h_ := gP h; clear h; obtain ⟨c, h⟩ := h_
  refine zz ?_
  refine br (iP h) ?_ ?_ <;> (clear h; intro c h)
  ·replace h := evR h; cases h
   refine zz ?_
   exact zend
  replace h := evT h
  refine zz ?_
  exact ⟨[], rfl, _, zfuel, _, _, _, h, leafFr [0, 1, 5] (by kernel_rfl), by kernel_rfl⟩
theorem spec_l10Put_ev (l0 : List ByteArray) (a1 : ByteArray) (r : List ByteArray) (h : spec_l10Put.fv l0 a1 = some r) : CE G 41 [.val (.row (l0.map VV.str)), .val (.str a1)] [] [.val (.row (r.map VV.str))] [] := by
  obtain ⟨k, h⟩ := lim_ex h
  refine CE.mk ⟨Try.f41, _, rfl, rfl, ⟨by kernel_rfl, Nat.le_of_ble_eq_true rfl, Nat.le_of_ble_eq_true rfl⟩, ?_⟩
  rcases k with _ | k
  · exact (run_zero h).elim
  rw [run_succ, spec_l10Put.B] at h
  have h_ := evO h; clear h; obtain ⟨t9, ht, h⟩ := h_
  refine zz ?_
  refine Exists.intro _ (And.intro (spec_l7Within_ev (h := ht)) ?_)
  refine zz ?_
  refine br (iP h) ?_ ?_ <;> (clear h; intro c h)
  ·replace h := evR h; cases h
   refine zz ?_
   exact zend
  refine zz ?_
  refine cutJ (n := 100000) (fun fr hp => ∃ kq, kq ≤ k ∧ ∃ (x0 : List ByteArray) (x1 : ByteArray) (x5 : Int), run spec_l10Put.B kq (.j0 x0 x1 x5) = some r ∧ (∃ fr0, fr = puts [(0, .one (.val (.row (x0.map VV.str)))), (1, .one (.val (.str x1))), (5, .one (.val (.int .i64 x5)))] fr0) ∧ hp = (fun _ => none)) ?_ ?_
  ·replace h := evT h
   refine zz ?_
   refine loopJ (fun kq fr hp => ∃ (x0 : List ByteArray) (x1 : ByteArray) (x5 : Int), run spec_l10Put.B kq (.l0 x0 x1 x5) = some r ∧ (∃ fr0, fr = puts [(0, .one (.val (.row (x0.map VV.str)))), (1, .one (.val (.str x1))), (5, .one (.val (.int .i64 x5)))] fr0) ∧ hp = (fun _ => none)) k ⟨[], rfl, _, zfuel, _, _, _, h, leafFr [0, 1, 5] (by kernel_rfl), by kernel_rfl⟩ ?_
   clear h; rintro k hle _ _ ⟨x0, x1, x5, h, ⟨fr0, rfl⟩, rfl⟩
   rcases k with _ | k
   · exact (run_zero h).elim
   rw [run_succ, spec_l10Put.B] at h
   refine zz ?_
   refine br (iP h) ?_ ?_ <;> (clear h; intro c h)
   rotate_left
   ·refine zr ?_
    refine zr ?_
    refine zr ?_
    refine zr ?_
    refine zr ?_
    refine zr ?_
    refine zr ?_
    replace h := evT h
    refine zz ?_
    exact ⟨[], rfl, _, zfuel, _, _, _, h, leafFr [0, 1, 5] (by kernel_rfl), by kernel_rfl⟩
   refine zl ?_
   refine zl ?_
   have h_ := gP h; clear h; obtain ⟨c, h⟩ := h_
   refine zl ?_
   refine zl ?_
   refine zl ?_
   refine zl ?_
   refine zz ?_
   refine br (iP h) ?_ ?_ <;> (clear h; intro c h)
   ·replace h := evT h
    refine zz ?_
    exact ⟨[], rfl, _, zfuel, _, _, _, h, leafFr [0, 1, 5] (by kernel_rfl), by kernel_rfl⟩
   replace h := evT h
   refine zz ?_
   exact ⟨[], rfl, _, zfuel, _, _, _, h, leafFr [0, 1, 5] (by kernel_rfl), by kernel_rfl⟩
  clear h; rintro _ _ ⟨k, hle, x0, x1, x5, h, ⟨fr0, rfl⟩, rfl⟩
  rcases k with _ | k
  · exact (run_zero h).elim
  rw [run_succ, spec_l10Put.B] at h
  refine zz ?_
  refine Exists.intro (List.map VV.str ([] : List ByteArray)) (And.intro zrow ?_)
  have h_ := gP h; clear h; obtain ⟨c, h⟩ := h_
  have h_ := gP h; clear h; obtain ⟨c, h⟩ := h_
  refine zz ?_
  refine Exists.intro (List.map VV.str (x0.take (x5 : Int).toNat)) (And.intro zrow ?_)
  have h_ := gP h; clear h; obtain ⟨c, h⟩ := h_
  refine zz ?_
  refine Exists.intro (List.map VV.str (([] : List ByteArray) ++ (x0.take (x5 : Int).toNat))) (And.intro zrow ?_)
  refine zz ?_
  refine Exists.intro (List.map VV.str ([x1] : List ByteArray)) (And.intro zrow ?_)
  have h_ := gP h; clear h; obtain ⟨c, h⟩ := h_
  refine zz ?_
  refine Exists.intro (List.map VV.str ((([] : List ByteArray) ++ (x0.take (x5 : Int).toNat)) ++ [x1])) (And.intro zrow ?_)
  refine zz ?_
  refine Exists.intro (List.map VV.str (x0.drop (x5 : Int).toNat)) (And.intro zrow ?_)
  have h_ := gP h; clear h; obtain ⟨c, h⟩ := h_
  refine zz ?_
  refine Exists.intro (List.map VV.str (((([] : List ByteArray) ++ (x0.take (x5 : Int).toNat)) ++ [x1]) ++ (x0.drop (x5 : Int).toNat))) (And.intro zrow ?_)
  replace h := evR h; cases h
  refine zz ?_
  exact zend
theorem spec_l10Names_all : ∀ n, (∀ (k : Nat) (a0_0 : Int) (a0_1 : Int) (a0_2 : ByteArray) (l0_3 : List S62) (l1 : List ByteArray) (l2 : List ByteArray) (r1 : List ByteArray) (r2 : List ByteArray) (h : run spec_l10Names.B k (.f a0_0 a0_1 a0_2 l0_3 l1 l2) = some (r1, r2)) (hk : k < n), CE G 27 [.val (.agg [.int .i64 a0_0, .int .i64 a0_1, .str a0_2, .row (l0_3.map e62)]), .val (.row (l1.map VV.str)), .val (.row (l2.map VV.str))] [] [.val (.row (r1.map VV.str)), .val (.row (r2.map VV.str))] []) := by
  intro n
  induction n with
  | zero => exact (by intros; omega)
  | succ n ih =>
    · intro k a0_0 a0_1 a0_2 l0_3 l1 l2 r1 r2 h hk
      refine CE.mk ⟨Try.f27, _, rfl, rfl, ⟨by kernel_rfl, Nat.le_of_ble_eq_true rfl, Nat.le_of_ble_eq_true rfl⟩, ?_⟩
      rcases k with _ | k
      · exact (run_zero h).elim
      rw [run_succ, spec_l10Names.B] at h
      refine zz ?_
      refine cutJ (n := 100000) (fun fr hp => ∃ kq, kq ≤ k ∧ ∃ (x1 : List ByteArray) (x2 : List ByteArray) (x16_0 : Int) (x16_1 : Int) (x16_2 : ByteArray) (x16_3 : List S62), run spec_l10Names.B kq (.j0 x1 x2 x16_0 x16_1 x16_2 x16_3) = some (r1, r2) ∧ (∃ fr0, fr = puts [(1, .one (.val (.row (x1.map VV.str)))), (2, .one (.val (.row (x2.map VV.str)))), (3, .one (.ptr 16 0))] fr0) ∧ hp = (upd 16 (.box [.val (.int .i64 x16_0), .val (.int .i64 x16_1), .val (.str x16_2), .val (.row (x16_3.map e62))]) (fun _ => none))) ?_ ?_
      ·refine zz ?_
       refine br (iP h) ?_ ?_ <;> (clear h; intro c h)
       ·have h_ := evO h; clear h; obtain ⟨t16, ht, h⟩ := h_
        refine zz ?_
        refine Exists.intro _ (And.intro (spec_l10Put_ev (h := ht)) ?_)
        replace h := evT h
        refine zz ?_
        exact ⟨[(16, 16)], rfl, _, zfuel, _, _, _, _, _, _, h, leafFr [1, 2, 3] (by kernel_rfl), by kernel_rfl⟩
       refine zz ?_
       refine cutJ (n := 17) (fun fr hp => ∃ kq, kq ≤ k ∧ ∃ (x1 : List ByteArray) (x2 : List ByteArray) (x17 : Bool) (x16_0 : Int) (x16_1 : Int) (x16_2 : ByteArray) (x16_3 : List S62), run spec_l10Names.B kq (.j1 x1 x2 x17 x16_0 x16_1 x16_2 x16_3) = some (r1, r2) ∧ (∃ fr0, fr = puts [(1, .one (.val (.row (x1.map VV.str)))), (2, .one (.val (.row (x2.map VV.str)))), (3, .one (.ptr 16 0)), (17, .one (.val (.bool x17)))] fr0) ∧ hp = (upd 16 (.box [.val (.int .i64 x16_0), .val (.int .i64 x16_1), .val (.str x16_2), .val (.row (x16_3.map e62))]) (fun _ => none))) ?_ ?_
       ·refine zz ?_
        refine br (iP h) ?_ ?_ <;> (clear h; intro c h)
        ·replace h := evT h
         refine zz ?_
         exact ⟨[(16, 16)], rfl, _, zfuel, _, _, _, _, _, _, _, h, leafFr [1, 2, 3, 17] (by kernel_rfl), by kernel_rfl⟩
        replace h := evT h
        refine zz ?_
        exact ⟨[(16, 16)], rfl, _, zfuel, _, _, _, _, _, _, _, h, leafFr [1, 2, 3, 17] (by kernel_rfl), by kernel_rfl⟩
       clear h; rintro _ _ ⟨k, hle, x1, x2, x17, x16_0, x16_1, x16_2, x16_3, h, ⟨fr0, rfl⟩, rfl⟩
       rcases k with _ | k
       · exact (run_zero h).elim
       rw [run_succ, spec_l10Names.B] at h
       refine zz ?_
       refine br (iP h) ?_ ?_ <;> (clear h; intro c h)
       rotate_left
       ·replace h := evT h
        refine zz ?_
        exact ⟨[(16, 16)], rfl, _, zfuel, _, _, _, _, _, _, h, leafFr [1, 2, 3] (by kernel_rfl), by kernel_rfl⟩
       have h_ := evO h; clear h; obtain ⟨t23, ht, h⟩ := h_
       refine zz ?_
       refine Exists.intro _ (And.intro (spec_l10Put_ev (h := ht)) ?_)
       replace h := evT h
       refine zz ?_
       exact ⟨[(16, 16)], rfl, _, zfuel, _, _, _, _, _, _, h, leafFr [1, 2, 3] (by kernel_rfl), by kernel_rfl⟩
      clear h; rintro _ _ ⟨k, hle, x1, x2, x16_0, x16_1, x16_2, x16_3, h, ⟨fr0, rfl⟩, rfl⟩
      rcases k with _ | k
      · exact (run_zero h).elim
      rw [run_succ, spec_l10Names.B] at h
      replace h := evT h
      refine zz ?_
      refine loopJ (fun kq fr hp => ∃ (x1 : List ByteArray) (x2 : List ByteArray) (x8 : Int) (x16_0 : Int) (x16_1 : Int) (x16_2 : ByteArray) (x16_3 : List S62), run spec_l10Names.B kq (.l0 x1 x2 x8 x16_0 x16_1 x16_2 x16_3) = some (r1, r2) ∧ (∃ fr0, fr = puts [(1, .one (.val (.row (x1.map VV.str)))), (2, .one (.val (.row (x2.map VV.str)))), (3, .one (.ptr 16 0)), (8, .one (.val (.int .i64 x8)))] fr0) ∧ hp = (upd 16 (.box [.val (.int .i64 x16_0), .val (.int .i64 x16_1), .val (.str x16_2), .val (.row (x16_3.map e62))]) (fun _ => none))) k ⟨[(16, 16)], rfl, _, zfuel, _, _, _, _, _, _, _, h, leafFr [1, 2, 3, 8] (by kernel_rfl), by kernel_rfl⟩ ?_
      clear h; rintro k hle _ _ ⟨x1, x2, x8, x16_0, x16_1, x16_2, x16_3, h, ⟨fr0, rfl⟩, rfl⟩
      rcases k with _ | k
      · exact (run_zero h).elim
      rw [run_succ, spec_l10Names.B] at h
      refine zz ?_
      refine br (iP h) ?_ ?_ <;> (clear h; intro c h)
      rotate_left
      ·replace h := evR h; cases h
       refine zz ?_
       exact zend
      have h_ := gP h; clear h; obtain ⟨c, h⟩ := h_
      have h_ := evA h; clear h; obtain ⟨t39, ht, h⟩ := h_
      refine zz ?_
      refine Exists.intro _ (And.intro (ih _ (h := ht) (hk := zfuel)) ?_)
      replace h := evT h
      refine zz ?_
      exact ⟨[(16, 16)], rfl, _, zfuel, _, _, _, _, _, _, _, h, leafFr [1, 2, 3, 8] (by kernel_rfl), by kernel_rfl⟩
theorem spec_l10Names_ev (a0_0 : Int) (a0_1 : Int) (a0_2 : ByteArray) (l0_3 : List S62) (l1 : List ByteArray) (l2 : List ByteArray) (r1 : List ByteArray) (r2 : List ByteArray) (h : spec_l10Names.fv a0_0 a0_1 a0_2 l0_3 l1 l2 = some (r1, r2)) : CE G 27 [.val (.agg [.int .i64 a0_0, .int .i64 a0_1, .str a0_2, .row (l0_3.map e62)]), .val (.row (l1.map VV.str)), .val (.row (l2.map VV.str))] [] [.val (.row (r1.map VV.str)), .val (.row (r2.map VV.str))] [] := by
  obtain ⟨k, h⟩ := lim_ex h
  exact (spec_l10Names_all (k + 1)) k _ _ _ _ _ _ _ _ h (Nat.lt_succ_self k)
theorem spec_Names_ev (l0 : List S64) (r1 : List ByteArray) (r2 : List ByteArray) (h : spec_Names.fv l0 = some (r1, r2)) : CE G 11 [.val (.row (l0.map e64))] [] [.val (.row (r1.map VV.str)), .val (.row (r2.map VV.str))] [] := by
  obtain ⟨k, h⟩ := lim_ex h
  refine CE.mk ⟨Try.f11, _, rfl, rfl, ⟨by kernel_rfl, Nat.le_of_ble_eq_true rfl, Nat.le_of_ble_eq_true rfl⟩, ?_⟩
  rcases k with _ | k
  · exact (run_zero h).elim
  rw [run_succ, spec_Names.B] at h
  refine zz ?_
  refine Exists.intro (List.map VV.str ([] : List ByteArray)) (And.intro zrow ?_)
  refine zz ?_
  refine Exists.intro (List.map VV.str ([] : List ByteArray)) (And.intro zrow ?_)
  replace h := evT h
  refine zz ?_
  refine loopJ (fun kq fr hp => ∃ (x0 : List S64) (x4 : List ByteArray) (x5 : List ByteArray) (x6 : Int), run spec_Names.B kq (.l0 x0 x4 x5 x6) = some (r1, r2) ∧ (∃ fr0, fr = puts [(0, .one (.val (.row (x0.map e64)))), (4, .one (.val (.row (x4.map VV.str)))), (5, .one (.val (.row (x5.map VV.str)))), (6, .one (.val (.int .i64 x6)))] fr0) ∧ hp = (fun _ => none)) k ⟨[], rfl, _, zfuel, _, _, _, _, h, leafFr [0, 4, 5, 6] (by kernel_rfl), by kernel_rfl⟩ ?_
  clear h; rintro k hle _ _ ⟨x0, x4, x5, x6, h, ⟨fr0, rfl⟩, rfl⟩
  rcases k with _ | k
  · exact (run_zero h).elim
  rw [run_succ, spec_Names.B] at h
  refine zz ?_
  refine br (iP h) ?_ ?_ <;> (clear h; intro c h)
  rotate_left
  ·replace h := evR h; cases h
   refine zz ?_
   exact zend
  have h_ := gP h; clear h; obtain ⟨c, h⟩ := h_
  have h_ := evO h; clear h; obtain ⟨t23, ht, h⟩ := h_
  refine zz ?_
  refine Exists.intro _ (And.intro (spec_l10Names_ev (h := ht)) ?_)
  have h_ := evO h; clear h; obtain ⟨t34, ht, h⟩ := h_
  refine zz ?_
  refine Exists.intro _ (And.intro (spec_l10Names_ev (h := ht)) ?_)
  replace h := evT h
  refine zz ?_
  exact ⟨[], rfl, _, zfuel, _, _, _, _, h, leafFr [0, 4, 5, 6] (by kernel_rfl), by kernel_rfl⟩
theorem impl_Names_1_ev {n0 : Nat} {n1 : Nat} (a0_0 : Int) (a0_1 : Int) (a0_2 : ByteArray) (l0_3 : List S62) (l1_0 : List ByteArray) (l2_0 : List ByteArray) (r1 : List ByteArray) (r2 : List ByteArray) (h : impl_Names_1.fv a0_0 a0_1 a0_2 l0_3 l1_0 l2_0 = some (r1, r2)) : CE G 30 [.val (.agg [.int .i64 a0_0, .int .i64 a0_1, .str a0_2, .row (l0_3.map e62)]), .ptr 2 0, .ptr 3 0] [.own 9 1 (l1_0.map VV.str) n0 false, .own 9 1 (l2_0.map VV.str) n1 false, .box [.ref 0 n0], .box [.ref 1 n1]] [] [.own 9 1 (r1.map VV.str) (n0 + 1) false, .own 9 1 (r2.map VV.str) (n1 + 1) false, .box [.ref 0 (n0 + 1)], .box [.ref 1 (n1 + 1)]] := by
  obtain ⟨k, h⟩ := lim_ex h
  refine CE.mk ⟨Try.f30, _, rfl, rfl, ⟨by kernel_rfl, Nat.le_of_ble_eq_true rfl, Nat.le_of_ble_eq_true rfl⟩, ?_⟩
  rcases k with _ | k
  · exact (run_zero h).elim
  rw [run_succ, impl_Names_1.B] at h
  refine zz ?_
  refine br (iP h) ?_ ?_ <;> (clear h; intro c h)
  ·refine zz ?_
   refine Exists.intro (List.map VV.str ([a0_2] : List ByteArray)) (And.intro zrow ?_)
   have h_ := gP h; clear h; obtain ⟨c, h⟩ := h_
   refine zz ?_
   refine Exists.intro (List.map VV.str (l1_0 ++ [a0_2])) (And.intro zrow ?_)
   replace h := evR h; cases h
   refine zz ?_
   first | refine ⟨trivial, [], [(0, n0 + 1, n0 + 1), (1, n1, n1 + 1)], ⟨rfl, ⟨rfl, ⟨rfl, trivial⟩⟩⟩, _, rfl, _, rfl, ?_⟩ | refine ⟨[], [(0, n0 + 1, n0 + 1), (1, n1, n1 + 1)], ⟨rfl, ⟨rfl, ⟨rfl, trivial⟩⟩⟩, _, rfl, _, rfl, ?_⟩
   repeat' (first | (refine And.intro ?_ ?_) | rfl)
  refine zz ?_
  refine cutJ (n := 13) (fun fr hp => ∃ kq, kq ≤ k ∧ ∃ (x13 : Bool) (y0 : List ByteArray) (y1 : List ByteArray) (x16_0 : Int) (x16_1 : Int) (x16_2 : ByteArray) (x16_3 : List S62) (g0 : Nat) (g1 : Nat), run impl_Names_1.B kq (.j0 x13 y0 y1 x16_0 x16_1 x16_2 x16_3) = some (r1, r2) ∧ (∃ fr0, fr = puts [(2, .one (.ptr 3 0)), (3, .one (.ptr 16 0)), (13, .one (.val (.bool x13)))] fr0) ∧ hp = (upd 0 (.own 9 1 (y0.map VV.str) g0 false) (upd 1 (.own 9 1 (y1.map VV.str) g1 false) (upd 2 (.box [.ref 0 g0]) (upd 3 (.box [.ref 1 g1]) (upd 16 (.box [.val (.int .i64 x16_0), .val (.int .i64 x16_1), .val (.str x16_2), .val (.row (x16_3.map e62))]) (fun _ => none))))))) ?_ ?_
  ·refine zz ?_
   refine br (iP h) ?_ ?_ <;> (clear h; intro c h)
   ·replace h := evT h
    refine zz ?_
    exact ⟨[(0, 0), (1, 1), (2, 2), (3, 3), (16, 16)], rfl, _, zfuel, _, _, _, _, _, _, _, n0, n1, h, leafFr [2, 3, 13] (by kernel_rfl), by kernel_rfl⟩
   replace h := evT h
   refine zz ?_
   exact ⟨[(0, 0), (1, 1), (2, 2), (3, 3), (16, 16)], rfl, _, zfuel, _, _, _, _, _, _, _, n0, n1, h, leafFr [2, 3, 13] (by kernel_rfl), by kernel_rfl⟩
  clear h; rintro _ _ ⟨k, hle, x13, y0, y1, x16_0, x16_1, x16_2, x16_3, g0, g1, h, ⟨fr0, rfl⟩, rfl⟩
  rcases k with _ | k
  · exact (run_zero h).elim
  rw [run_succ, impl_Names_1.B] at h
  refine zz ?_
  refine br (iP h) ?_ ?_ <;> (clear h; intro c h)
  rotate_left
  ·replace h := evR h; cases h
   refine zz ?_
   first | refine ⟨trivial, [], [(0, g0, n0 + 1), (1, g1, n1 + 1)], ⟨rfl, ⟨rfl, ⟨rfl, trivial⟩⟩⟩, _, rfl, _, rfl, ?_⟩ | refine ⟨[], [(0, g0, n0 + 1), (1, g1, n1 + 1)], ⟨rfl, ⟨rfl, ⟨rfl, trivial⟩⟩⟩, _, rfl, _, rfl, ?_⟩
   repeat' (first | (refine And.intro ?_ ?_) | rfl)
  refine zz ?_
  refine Exists.intro (List.map VV.str ([x16_2] : List ByteArray)) (And.intro zrow ?_)
  have h_ := gP h; clear h; obtain ⟨c, h⟩ := h_
  refine zz ?_
  refine Exists.intro (List.map VV.str (y1 ++ [x16_2])) (And.intro zrow ?_)
  replace h := evR h; cases h
  refine zz ?_
  first | refine ⟨trivial, [], [(0, g0, n0 + 1), (1, g1 + 1, n1 + 1)], ⟨rfl, ⟨rfl, ⟨rfl, trivial⟩⟩⟩, _, rfl, _, rfl, ?_⟩ | refine ⟨[], [(0, g0, n0 + 1), (1, g1 + 1, n1 + 1)], ⟨rfl, ⟨rfl, ⟨rfl, trivial⟩⟩⟩, _, rfl, _, rfl, ?_⟩
  repeat' (first | (refine And.intro ?_ ?_) | rfl)
theorem impl_each__impl_Names_1_all : ∀ n, (∀ (k : Nat) {n0 : Nat} {n1 : Nat} (a0_0 : Int) (a0_1 : Int) (a0_2 : ByteArray) (l0_3 : List S62) (l1q0_0 : List ByteArray) (l1q1_0 : List ByteArray) (r1 : List ByteArray) (r2 : List ByteArray) (h : run impl_each__impl_Names_1.B k (.f a0_0 a0_1 a0_2 l0_3 l1q0_0 l1q1_0) = some (r1, r2)) (hk : k < n), CE G 43 [.val (.agg [.int .i64 a0_0, .int .i64 a0_1, .str a0_2, .row (l0_3.map e62)]), .fn 30 [2, 3]] [.own 9 1 (l1q0_0.map VV.str) n0 false, .own 9 1 (l1q1_0.map VV.str) n1 false, .box [.ref 0 n0], .box [.ref 1 n1]] [] [.own 9 1 (r1.map VV.str) (n0 + 1) false, .own 9 1 (r2.map VV.str) (n1 + 1) false, .box [.ref 0 (n0 + 1)], .box [.ref 1 (n1 + 1)]]) := by
  intro n
  induction n with
  | zero => exact (by intros; omega)
  | succ n ih =>
    · intro k n0 n1 a0_0 a0_1 a0_2 l0_3 l1q0_0 l1q1_0 r1 r2 h hk
      refine CE.mk ⟨Try.f43, _, rfl, rfl, ⟨by kernel_rfl, Nat.le_of_ble_eq_true rfl, Nat.le_of_ble_eq_true rfl⟩, ?_⟩
      rcases k with _ | k
      · exact (run_zero h).elim
      rw [run_succ, impl_each__impl_Names_1.B] at h
      have h_ := evO h; clear h; obtain ⟨t8, ht, h⟩ := h_
      refine zz ?_
      refine Exists.intro _ (Exists.intro _ (And.intro (impl_Names_1_ev (h := ht)) ?_))
      replace h := evT h
      refine zz ?_
      refine loopJ (fun kq fr hp => ∃ (x10 : List S62) (x11 : Int) (x12 : Int) (y0 : List ByteArray) (y1 : List ByteArray) (g0 : Nat) (g1 : Nat), run impl_each__impl_Names_1.B kq (.l0 x10 x11 x12 y0 y1) = some (r1, r2) ∧ (∃ fr0, fr = puts [(1, .one (.fn 30 [2, 3])), (10, .one (.val (.row (x10.map e62)))), (11, .one (.val (.int .i64 x11))), (12, .one (.val (.int .i64 x12)))] fr0) ∧ hp = (upd 0 (.own 9 1 (y0.map VV.str) g0 false) (upd 1 (.own 9 1 (y1.map VV.str) g1 false) (upd 2 (.box [.ref 0 g0]) (upd 3 (.box [.ref 1 g1]) (fun _ => none)))))) k ⟨[(0, 0), (1, 1), (2, 2), (3, 3)], rfl, _, zfuel, _, _, _, _, _, (n0 + 1), (n1 + 1), h, leafFr [1, 10, 11, 12] (by kernel_rfl), by kernel_rfl⟩ ?_
      clear h; rintro k hle _ _ ⟨x10, x11, x12, y0, y1, g0, g1, h, ⟨fr0, rfl⟩, rfl⟩
      rcases k with _ | k
      · exact (run_zero h).elim
      rw [run_succ, impl_each__impl_Names_1.B] at h
      refine zz ?_
      refine br (iP h) ?_ ?_ <;> (clear h; intro c h)
      rotate_left
      ·replace h := evR h; cases h
       refine zz ?_
       first | refine ⟨trivial, [], [(0, g0, n0 + 1), (1, g1, n1 + 1)], ⟨rfl, ⟨rfl, ⟨rfl, trivial⟩⟩⟩, _, rfl, _, rfl, ?_⟩ | refine ⟨[], [(0, g0, n0 + 1), (1, g1, n1 + 1)], ⟨rfl, ⟨rfl, ⟨rfl, trivial⟩⟩⟩, _, rfl, _, rfl, ?_⟩
       repeat' (first | (refine And.intro ?_ ?_) | rfl)
      have h_ := gP h; clear h; obtain ⟨c, h⟩ := h_
      have h_ := gP h; clear h; obtain ⟨c, h⟩ := h_
      have h_ := evA h; clear h; obtain ⟨t18, ht, h⟩ := h_
      refine zz ?_
      refine Exists.intro _ (Exists.intro _ (And.intro (ih _ (h := ht) (hk := zfuel)) ?_))
      replace h := evT h
      refine zz ?_
      exact ⟨[(0, 0), (1, 1), (2, 2), (3, 3)], rfl, _, zfuel, _, _, _, _, _, (g0 + 1), (g1 + 1), h, leafFr [1, 10, 11, 12] (by kernel_rfl), by kernel_rfl⟩
theorem impl_each__impl_Names_1_ev {n0 : Nat} {n1 : Nat} (a0_0 : Int) (a0_1 : Int) (a0_2 : ByteArray) (l0_3 : List S62) (l1q0_0 : List ByteArray) (l1q1_0 : List ByteArray) (r1 : List ByteArray) (r2 : List ByteArray) (h : impl_each__impl_Names_1.fv a0_0 a0_1 a0_2 l0_3 l1q0_0 l1q1_0 = some (r1, r2)) : CE G 43 [.val (.agg [.int .i64 a0_0, .int .i64 a0_1, .str a0_2, .row (l0_3.map e62)]), .fn 30 [2, 3]] [.own 9 1 (l1q0_0.map VV.str) n0 false, .own 9 1 (l1q1_0.map VV.str) n1 false, .box [.ref 0 n0], .box [.ref 1 n1]] [] [.own 9 1 (r1.map VV.str) (n0 + 1) false, .own 9 1 (r2.map VV.str) (n1 + 1) false, .box [.ref 0 (n0 + 1)], .box [.ref 1 (n1 + 1)]] := by
  obtain ⟨k, h⟩ := lim_ex h
  exact (impl_each__impl_Names_1_all (k + 1)) k _ _ _ _ _ _ _ _ h (Nat.lt_succ_self k)
theorem impl_eachNode__impl_Names_1_ev {n0 : Nat} {n1 : Nat} (l0 : List S64) (l1q0_0 : List ByteArray) (l1q1_0 : List ByteArray) (r1 : List ByteArray) (r2 : List ByteArray) (h : impl_eachNode__impl_Names_1.fv l0 l1q0_0 l1q1_0 = some (r1, r2)) : CE G 29 [.val (.row (l0.map e64)), .fn 30 [2, 3]] [.own 9 1 (l1q0_0.map VV.str) n0 false, .own 9 1 (l1q1_0.map VV.str) n1 false, .box [.ref 0 n0], .box [.ref 1 n1]] [] [.own 9 1 (r1.map VV.str) (n0 + 1) false, .own 9 1 (r2.map VV.str) (n1 + 1) false, .box [.ref 0 (n0 + 1)], .box [.ref 1 (n1 + 1)]] := by
  obtain ⟨k, h⟩ := lim_ex h
  refine CE.mk ⟨Try.f29, _, rfl, rfl, ⟨by kernel_rfl, Nat.le_of_ble_eq_true rfl, Nat.le_of_ble_eq_true rfl⟩, ?_⟩
  rcases k with _ | k
  · exact (run_zero h).elim
  rw [run_succ, impl_eachNode__impl_Names_1.B] at h
  replace h := evT h
  refine zz ?_
  refine loopJ (fun kq fr hp => ∃ (x6 : List S64) (x7 : Int) (x8 : Int) (y0 : List ByteArray) (y1 : List ByteArray) (g0 : Nat) (g1 : Nat), run impl_eachNode__impl_Names_1.B kq (.l0 x6 x7 x8 y0 y1) = some (r1, r2) ∧ (∃ fr0, fr = puts [(1, .one (.fn 30 [2, 3])), (6, .one (.val (.row (x6.map e64)))), (7, .one (.val (.int .i64 x7))), (8, .one (.val (.int .i64 x8)))] fr0) ∧ hp = (upd 0 (.own 9 1 (y0.map VV.str) g0 false) (upd 1 (.own 9 1 (y1.map VV.str) g1 false) (upd 2 (.box [.ref 0 g0]) (upd 3 (.box [.ref 1 g1]) (fun _ => none)))))) k ⟨[(0, 0), (1, 1), (2, 2), (3, 3)], rfl, _, zfuel, _, _, _, _, _, n0, n1, h, leafFr [1, 6, 7, 8] (by kernel_rfl), by kernel_rfl⟩ ?_
  clear h; rintro k hle _ _ ⟨x6, x7, x8, y0, y1, g0, g1, h, ⟨fr0, rfl⟩, rfl⟩
  rcases k with _ | k
  · exact (run_zero h).elim
  rw [run_succ, impl_eachNode__impl_Names_1.B] at h
  refine zz ?_
  refine br (iP h) ?_ ?_ <;> (clear h; intro c h)
  rotate_left
  ·replace h := evR h; cases h
   refine zz ?_
   first | refine ⟨trivial, [], [(0, g0, n0 + 1), (1, g1, n1 + 1)], ⟨rfl, ⟨rfl, ⟨rfl, trivial⟩⟩⟩, _, rfl, _, rfl, ?_⟩ | refine ⟨[], [(0, g0, n0 + 1), (1, g1, n1 + 1)], ⟨rfl, ⟨rfl, ⟨rfl, trivial⟩⟩⟩, _, rfl, _, rfl, ?_⟩
   repeat' (first | (refine And.intro ?_ ?_) | rfl)
  have h_ := gP h; clear h; obtain ⟨c, h⟩ := h_
  have h_ := gP h; clear h; obtain ⟨c, h⟩ := h_
  have h_ := evO h; clear h; obtain ⟨t15, ht, h⟩ := h_
  refine zz ?_
  refine Exists.intro _ (Exists.intro _ (And.intro (impl_each__impl_Names_1_ev (h := ht)) ?_))
  have h_ := evO h; clear h; obtain ⟨t19, ht, h⟩ := h_
  refine zz ?_
  refine Exists.intro _ (Exists.intro _ (And.intro (impl_each__impl_Names_1_ev (h := ht)) ?_))
  replace h := evT h
  refine zz ?_
  exact ⟨[(0, 0), (1, 1), (2, 2), (3, 3)], rfl, _, zfuel, _, _, _, _, _, (g0 + 1 + 1), (g1 + 1 + 1), h, leafFr [1, 6, 7, 8] (by kernel_rfl), by kernel_rfl⟩
theorem impl_sorted_ev {n0 : Nat} (l0 : List ByteArray) (r : List ByteArray) (h : impl_sorted.f l0 = some r) : CE G 31 [.ref 0 n0] [.own 9 1 (l0.map VV.str) n0 false] [.ref 0 (n0 + 1)] [.own 9 1 (r.map VV.str) (n0 + 1) false] := by
  refine CE.mk ⟨Try.f31, _, rfl, rfl, ⟨by kernel_rfl, Nat.le_of_ble_eq_true rfl, Nat.le_of_ble_eq_true rfl⟩, ?_⟩
  rw [impl_sorted.f] at h
  have h_ := oS h; clear h; obtain ⟨t4, ht, h⟩ := h_
  refine zz ?_
  refine Exists.intro _ (Exists.intro _ (And.intro (orc44 (h := ht)) ?_))
  have h_ := oS h; clear h; obtain ⟨t6, ht, h⟩ := h_
  refine zz ?_
  refine Exists.intro _ (Exists.intro _ (And.intro (orc45 (h := ht)) ?_))
  cases h
  refine zz ?_
  first | refine ⟨trivial, [], [(0, n0 + 1, n0 + 1)], ⟨rfl, ⟨rfl, trivial⟩⟩, _, rfl, _, rfl, ?_⟩ | refine ⟨[], [(0, n0 + 1, n0 + 1)], ⟨rfl, ⟨rfl, trivial⟩⟩, _, rfl, _, rfl, ?_⟩
  repeat' (first | (refine And.intro ?_ ?_) | rfl)
theorem impl_Names_ev (l0 : List S64) (r1 : List ByteArray) (r2 : List ByteArray) (h : impl_Names.fv l0 = some (r1, r2)) : CE G 13 [.val (.row (l0.map e64))] [] [.ref 16 0, .ref 17 0] [.own 9 1 (r1.map VV.str) 0 false, .own 9 1 (r2.map VV.str) 0 false] := by
  refine CE.mk ⟨Try.f13, _, rfl, rfl, ⟨by kernel_rfl, Nat.le_of_ble_eq_true rfl, Nat.le_of_ble_eq_true rfl⟩, ?_⟩
  rw [impl_Names.fv] at h
  refine zz ?_
  refine Exists.intro (List.map VV.str ([] : List ByteArray)) (And.intro zrow ?_)
  refine zz ?_
  refine Exists.intro (List.map VV.str ([] : List ByteArray)) (And.intro zrow ?_)
  have h_ := oS h; clear h; obtain ⟨t10, ht, h⟩ := h_
  refine zz ?_
  refine Exists.intro _ (Exists.intro _ (And.intro (impl_eachNode__impl_Names_1_ev (h := ht)) ?_))
  have h_ := oS h; clear h; obtain ⟨t12, ht, h⟩ := h_
  refine zz ?_
  refine Exists.intro _ (Exists.intro _ (And.intro (impl_sorted_ev (h := ht)) ?_))
  have h_ := oS h; clear h; obtain ⟨t14, ht, h⟩ := h_
  refine zz ?_
  refine Exists.intro _ (Exists.intro _ (And.intro (impl_sorted_ev (h := ht)) ?_))
  cases h
  refine zz ?_
  first | refine ⟨trivial, [528, 529], [(528, 0 + 1 + 1, 0), (529, 0 + 1 + 1, 0)], ⟨rfl, ⟨trivial, ⟨trivial, trivial⟩⟩⟩, _, rfl, _, rfl, ?_⟩ | refine ⟨[528, 529], [(528, 0 + 1 + 1, 0), (529, 0 + 1 + 1, 0)], ⟨rfl, ⟨trivial, ⟨trivial, trivial⟩⟩⟩, _, rfl, _, rfl, ?_⟩
  repeat' (first | (refine And.intro ?_ ?_) | rfl)
theorem laws_eqStringS_ev {n0 : Nat} (l0 : List ByteArray) (l1 : List ByteArray) (r : Bool) (h : laws_eqStringS.fv l0 l1 = some r) : CE G 14 [.ref 0 n0, .val (.row (l1.map VV.str))] [.own 9 1 (l0.map VV.str) n0 false] [.val (.bool r)] [.own 9 1 (l0.map VV.str) n0 false] := by
  obtain ⟨k, h⟩ := lim_ex h
  refine CE.mk ⟨Try.f14, _, rfl, rfl, ⟨by kernel_rfl, Nat.le_of_ble_eq_true rfl, Nat.le_of_ble_eq_true rfl⟩, ?_⟩
  rcases k with _ | k
  · exact (run_zero h).elim
  rw [run_succ, laws_eqStringS.B] at h
  refine zz ?_
  refine brN (iP h) ?_ ?_ <;> (clear h; intro c h)
  ·replace h := evR h; cases h
   refine zz ?_
   first | refine ⟨trivial, [], [], ⟨rfl, trivial⟩, _, rfl, _, rfl, ?_⟩ | refine ⟨[], [], ⟨rfl, trivial⟩, _, rfl, _, rfl, ?_⟩
   repeat' (first | (refine And.intro ?_ ?_) | rfl)
  replace h := evT h
  refine zz ?_
  refine loopJ (fun kq fr hp => ∃ (x1 : List ByteArray) (x5 : Int), run laws_eqStringS.B kq (.l0 l0 x1 x5) = some r ∧ (∃ fr0, fr = puts [(0, .one (.ref 0 n0)), (1, .one (.val (.row (x1.map VV.str)))), (5, .one (.val (.int .i64 x5)))] fr0) ∧ hp = (upd 0 (.own 9 1 (l0.map VV.str) n0 false) (fun _ => none))) k ⟨[(0, 0)], rfl, _, zfuel, _, _, h, leafFr [0, 1, 5] (by kernel_rfl), by kernel_rfl⟩ ?_
  clear h; rintro k hle _ _ ⟨x1, x5, h, ⟨fr0, rfl⟩, rfl⟩
  rcases k with _ | k
  · exact (run_zero h).elim
  rw [run_succ, laws_eqStringS.B] at h
  refine zz ?_
  refine br (iP h) ?_ ?_ <;> (clear h; intro c h)
  rotate_left
  ·replace h := evR h; cases h
   refine zz ?_
   first | refine ⟨trivial, [], [], ⟨rfl, trivial⟩, _, rfl, _, rfl, ?_⟩ | refine ⟨[], [], ⟨rfl, trivial⟩, _, rfl, _, rfl, ?_⟩
   repeat' (first | (refine And.intro ?_ ?_) | rfl)
  have h_ := gP h; clear h; obtain ⟨c, h⟩ := h_
  have h_ := gP h; clear h; obtain ⟨c, h⟩ := h_
  refine zz ?_
  refine brN (iP h) ?_ ?_ <;> (clear h; intro c h)
  ·replace h := evR h; cases h
   refine zz ?_
   first | refine ⟨trivial, [], [], ⟨rfl, trivial⟩, _, rfl, _, rfl, ?_⟩ | refine ⟨[], [], ⟨rfl, trivial⟩, _, rfl, _, rfl, ?_⟩
   repeat' (first | (refine And.intro ?_ ?_) | rfl)
  replace h := evT h
  refine zz ?_
  exact ⟨[(0, 0)], rfl, _, zfuel, _, _, h, leafFr [0, 1, 5] (by kernel_rfl), by kernel_rfl⟩
theorem laws_eqNode_all : ∀ n, (∀ (k : Nat) (a0_0 : Int) (a0_1 : Int) (a0_2 : ByteArray) (l0_3 : List S62) (a1_0 : Int) (a1_1 : Int) (a1_2 : ByteArray) (l1_3 : List S62) (r : Bool) (h : run laws_eqNode.B k (.laws_eqNode_f a0_0 a0_1 a0_2 l0_3 a1_0 a1_1 a1_2 l1_3) = some r) (hk : k < n), CE G 46 [.val (.agg [.int .i64 a0_0, .int .i64 a0_1, .str a0_2, .row (l0_3.map e62)]), .val (.agg [.int .i64 a1_0, .int .i64 a1_1, .str a1_2, .row (l1_3.map e62)])] [] [.val (.bool r)] []) ∧ (∀ (k : Nat) (l0 : List S62) (l1 : List S62) (r : Bool) (h : run laws_eqNode.B k (.laws_eqNodeS_f l0 l1) = some r) (hk : k < n), CE G 55 [.val (.row (l0.map e62)), .val (.row (l1.map e62))] [] [.val (.bool r)] []) := by
  intro n
  induction n with
  | zero => exact ⟨by intros; omega, by intros; omega⟩
  | succ n ih =>
    refine ⟨?_, ?_⟩
    · intro k a0_0 a0_1 a0_2 l0_3 a1_0 a1_1 a1_2 l1_3 r h hk
      refine CE.mk ⟨Try.f46, _, rfl, rfl, ⟨by kernel_rfl, Nat.le_of_ble_eq_true rfl, Nat.le_of_ble_eq_true rfl⟩, ?_⟩
      rcases k with _ | k
      · exact (run_zero h).elim
      rw [run_succ, laws_eqNode.B] at h
      refine zz ?_
      refine brN (iP h) ?_ ?_ <;> (clear h; intro c h)
      ·replace h := evR h; cases h
       refine zz ?_
       exact zend
      refine zz ?_
      refine brN (iP h) ?_ ?_ <;> (clear h; intro c h)
      ·replace h := evR h; cases h
       refine zz ?_
       exact zend
      refine zz ?_
      refine brN (iP h) ?_ ?_ <;> (clear h; intro c h)
      ·replace h := evR h; cases h
       refine zz ?_
       exact zend
      have h_ := evA h; clear h; obtain ⟨t24, ht, h⟩ := h_
      refine zz ?_
      refine Exists.intro _ (And.intro (ih.2 _ (h := ht) (hk := zfuel)) ?_)
      refine zz ?_
      refine brN (iP h) ?_ ?_ <;> (clear h; intro c h)
      ·replace h := evR h; cases h
       refine zz ?_
       exact zend
      replace h := evR h; cases h
      refine zz ?_
      exact zend
    · intro k l0 l1 r h hk
      refine CE.mk ⟨Try.f55, _, rfl, rfl, ⟨by kernel_rfl, Nat.le_of_ble_eq_true rfl, Nat.le_of_ble_eq_true rfl⟩, ?_⟩
      rcases k with _ | k
      · exact (run_zero h).elim
      rw [run_succ, laws_eqNode.B] at h
      refine zz ?_
      refine brN (iP h) ?_ ?_ <;> (clear h; intro c h)
      ·replace h := evR h; cases h
       refine zz ?_
       exact zend
      replace h := evT h
      refine zz ?_
      refine loopJ (fun kq fr hp => ∃ (x0 : List S62) (x1 : List S62) (x5 : Int), run laws_eqNode.B kq (.laws_eqNodeS_l0 x0 x1 x5) = some r ∧ (∃ fr0, fr = puts [(0, .one (.val (.row (x0.map e62)))), (1, .one (.val (.row (x1.map e62)))), (5, .one (.val (.int .i64 x5)))] fr0) ∧ hp = (fun _ => none)) k ⟨[], rfl, _, zfuel, _, _, _, h, leafFr [0, 1, 5] (by kernel_rfl), by kernel_rfl⟩ ?_
      clear h; rintro k hle _ _ ⟨x0, x1, x5, h, ⟨fr0, rfl⟩, rfl⟩
      rcases k with _ | k
      · exact (run_zero h).elim
      rw [run_succ, laws_eqNode.B] at h
      refine zz ?_
      refine br (iP h) ?_ ?_ <;> (clear h; intro c h)
      rotate_left
      ·replace h := evR h; cases h
       refine zz ?_
       exact zend
      have h_ := gP h; clear h; obtain ⟨c, h⟩ := h_
      have h_ := gP h; clear h; obtain ⟨c, h⟩ := h_
      have h_ := evA h; clear h; obtain ⟨t25, ht, h⟩ := h_
      refine zz ?_
      refine Exists.intro _ (And.intro (ih.1 _ (h := ht) (hk := zfuel)) ?_)
      refine zz ?_
      refine brN (iP h) ?_ ?_ <;> (clear h; intro c h)
      ·replace h := evR h; cases h
       refine zz ?_
       exact zend
      replace h := evT h
      refine zz ?_
      exact ⟨[], rfl, _, zfuel, _, _, _, h, leafFr [0, 1, 5] (by kernel_rfl), by kernel_rfl⟩
theorem laws_eqNode_ev (a0_0 : Int) (a0_1 : Int) (a0_2 : ByteArray) (l0_3 : List S62) (a1_0 : Int) (a1_1 : Int) (a1_2 : ByteArray) (l1_3 : List S62) (r : Bool) (h : laws_eqNode.fv a0_0 a0_1 a0_2 l0_3 a1_0 a1_1 a1_2 l1_3 = some r) : CE G 46 [.val (.agg [.int .i64 a0_0, .int .i64 a0_1, .str a0_2, .row (l0_3.map e62)]), .val (.agg [.int .i64 a1_0, .int .i64 a1_1, .str a1_2, .row (l1_3.map e62)])] [] [.val (.bool r)] [] := by
  obtain ⟨k, h⟩ := lim_ex h
  exact (laws_eqNode_all (k + 1)).1 k _ _ _ _ _ _ _ _ _ h (Nat.lt_succ_self k)
theorem laws_eqNodeS_ev (l0 : List S62) (l1 : List S62) (r : Bool) (h : laws_eqNodeS.fv l0 l1 = some r) : CE G 55 [.val (.row (l0.map e62)), .val (.row (l1.map e62))] [] [.val (.bool r)] [] := by
  obtain ⟨k, h⟩ := lim_ex h
  exact (laws_eqNode_all (k + 1)).2 k _ _ _ h (Nat.lt_succ_self k)
theorem laws_eqRule_ev (a0_0 : Int) (a0_1 : Int) (a0_2 : Int) (a0_3 : ByteArray) (l0_4 : List S62) (a0_5 : Int) (a0_6 : Int) (a0_7 : ByteArray) (l0_8 : List S62) (a1_0 : Int) (a1_1 : Int) (a1_2 : Int) (a1_3 : ByteArray) (l1_4 : List S62) (a1_5 : Int) (a1_6 : Int) (a1_7 : ByteArray) (l1_8 : List S62) (r : Bool) (h : laws_eqRule.fv a0_0 a0_1 a0_2 a0_3 l0_4 a0_5 a0_6 a0_7 l0_8 a1_0 a1_1 a1_2 a1_3 l1_4 a1_5 a1_6 a1_7 l1_8 = some r) : CE G 32 [.val (.agg [.int .i64 a0_0, .int .i64 a0_1, .int .i64 a0_2, .str a0_3, .row (l0_4.map e62), .int .i64 a0_5, .int .i64 a0_6, .str a0_7, .row (l0_8.map e62)]), .val (.agg [.int .i64 a1_0, .int .i64 a1_1, .int .i64 a1_2, .str a1_3, .row (l1_4.map e62), .int .i64 a1_5, .int .i64 a1_6, .str a1_7, .row (l1_8.map e62)])] [] [.val (.bool r)] [] := by
  refine CE.mk ⟨Try.f32, _, rfl, rfl, ⟨by kernel_rfl, Nat.le_of_ble_eq_true rfl, Nat.le_of_ble_eq_true rfl⟩, ?_⟩
  rw [laws_eqRule.fv] at h
  refine zz ?_
  refine brN (iteS h) ?_ ?_ <;> (clear h; intro c h)
  ·cases h
   refine zz ?_
   exact zend
  have h_ := oS h; clear h; obtain ⟨t14, ht, h⟩ := h_
  refine zz ?_
  refine Exists.intro _ (And.intro (laws_eqNode_ev (h := ht)) ?_)
  refine zz ?_
  refine brN (iteS h) ?_ ?_ <;> (clear h; intro c h)
  ·cases h
   refine zz ?_
   exact zend
  have h_ := oS h; clear h; obtain ⟨t20, ht, h⟩ := h_
  refine zz ?_
  refine Exists.intro _ (And.intro (laws_eqNode_ev (h := ht)) ?_)
  refine zz ?_
  refine brN (iteS h) ?_ ?_ <;> (clear h; intro c h)
  ·cases h
   refine zz ?_
   exact zend
  cases h
  refine zz ?_
  exact zend
theorem laws_eqRuleS_ev (l0 : List S64) (l1 : List S64) (r : Bool) (h : laws_eqRuleS.fv l0 l1 = some r) : CE G 15 [.val (.row (l0.map e64)), .val (.row (l1.map e64))] [] [.val (.bool r)] [] := by
  obtain ⟨k, h⟩ := lim_ex h
  refine CE.mk ⟨Try.f15, _, rfl, rfl, ⟨by kernel_rfl, Nat.le_of_ble_eq_true rfl, Nat.le_of_ble_eq_true rfl⟩, ?_⟩
  rcases k with _ | k
  · exact (run_zero h).elim
  rw [run_succ, laws_eqRuleS.B] at h
  refine zz ?_
  refine brN (iP h) ?_ ?_ <;> (clear h; intro c h)
  ·replace h := evR h; cases h
   refine zz ?_
   exact zend
  replace h := evT h
  refine zz ?_
  refine loopJ (fun kq fr hp => ∃ (x0 : List S64) (x1 : List S64) (x5 : Int), run laws_eqRuleS.B kq (.l0 x0 x1 x5) = some r ∧ (∃ fr0, fr = puts [(0, .one (.val (.row (x0.map e64)))), (1, .one (.val (.row (x1.map e64)))), (5, .one (.val (.int .i64 x5)))] fr0) ∧ hp = (fun _ => none)) k ⟨[], rfl, _, zfuel, _, _, _, h, leafFr [0, 1, 5] (by kernel_rfl), by kernel_rfl⟩ ?_
  clear h; rintro k hle _ _ ⟨x0, x1, x5, h, ⟨fr0, rfl⟩, rfl⟩
  rcases k with _ | k
  · exact (run_zero h).elim
  rw [run_succ, laws_eqRuleS.B] at h
  refine zz ?_
  refine br (iP h) ?_ ?_ <;> (clear h; intro c h)
  rotate_left
  ·replace h := evR h; cases h
   refine zz ?_
   exact zend
  have h_ := gP h; clear h; obtain ⟨c, h⟩ := h_
  have h_ := gP h; clear h; obtain ⟨c, h⟩ := h_
  have h_ := evO h; clear h; obtain ⟨t25, ht, h⟩ := h_
  refine zz ?_
  refine Exists.intro _ (And.intro (laws_eqRule_ev (h := ht)) ?_)
  refine zz ?_
  refine brN (iP h) ?_ ?_ <;> (clear h; intro c h)
  ·replace h := evR h; cases h
   refine zz ?_
   exact zend
  replace h := evT h
  refine zz ?_
  exact ⟨[], rfl, _, zfuel, _, _, _, h, leafFr [0, 1, 5] (by kernel_rfl), by kernel_rfl⟩
theorem laws_markText_ev (a0 : Int) (r : ByteArray) (h : laws_markText.fv a0 = some r) : CE G 33 [.val (.int .i64 a0)] [] [.val (.str r)] [] := by
  obtain ⟨k, h⟩ := lim_ex h
  refine CE.mk ⟨Try.f33, _, rfl, rfl, ⟨by kernel_rfl, Nat.le_of_ble_eq_true rfl, Nat.le_of_ble_eq_true rfl⟩, ?_⟩
  rcases k with _ | k
  · exact (run_zero h).elim
  rw [run_succ, laws_markText.B] at h
  refine zz ?_
  refine br (iP h) ?_ ?_ <;> (clear h; intro c h)
  ·replace h := evR h; cases h
   refine zz ?_
   exact zend
  replace h := evT h
  refine zz ?_
  refine loopJ (fun kq fr hp => ∃ (x0 : Int) (x3 : ByteArray), run laws_markText.B kq (.l0 x0 x3) = some r ∧ (∃ fr0, fr = puts [(0, .one (.val (.int .i64 x0))), (3, .one (.val (.str x3)))] fr0) ∧ hp = (fun _ => none)) k ⟨[], rfl, _, zfuel, _, _, h, leafFr [0, 3] (by kernel_rfl), by kernel_rfl⟩ ?_
  clear h; rintro k hle _ _ ⟨x0, x3, h, ⟨fr0, rfl⟩, rfl⟩
  rcases k with _ | k
  · exact (run_zero h).elim
  rw [run_succ, laws_markText.B] at h
  refine zz ?_
  refine br (iP h) ?_ ?_ <;> (clear h; intro c h)
  rotate_left
  ·have h_ := gP h; clear h; obtain ⟨c, h⟩ := h_
   replace h := evR h; cases h
   refine zz ?_
   exact zend
  refine zz ?_
  refine Exists.intro (List.map (VV.int .u8) ([(((wrap64 (48 + (Int.tmod x0 10)))) % 256)] : List Int)) (And.intro zrow ?_)
  have h_ := gP h; clear h; obtain ⟨c, h⟩ := h_
  replace h := evT h
  refine zz ?_
  exact ⟨[], rfl, _, zfuel, _, _, h, leafFr [0, 3] (by kernel_rfl), by kernel_rfl⟩
theorem laws_markNodeS_all : ∀ n, (∀ (k : Nat) {n0 : Nat} (l0 : List S62) (a1 : Int) (r1 : Int) (r2 : List S62) (h : run laws_markNodeS.B k (.f l0 a1) = some (r1, r2)) (hk : k < n), CE G 34 [.ref 0 n0, .val (.int .i64 a1)] [.tree 62 4 (l0.map e62) n0] [.val (.int .i64 r1)] [.tree 62 4 (r2.map e62) n0]) := by
  intro n
  induction n with
  | zero => exact (by intros; omega)
  | succ n ih =>
    · intro k n0 l0 a1 r1 r2 h hk
      refine CE.mk ⟨Try.f34, _, rfl, rfl, ⟨by kernel_rfl, Nat.le_of_ble_eq_true rfl, Nat.le_of_ble_eq_true rfl⟩, ?_⟩
      rcases k with _ | k
      · exact (run_zero h).elim
      rw [run_succ, laws_markNodeS.B] at h
      replace h := evT h
      refine zz ?_
      refine loopJ (fun kq fr hp => ∃ (x0 : List S62) (x1 : Int) (x5 : Int), run laws_markNodeS.B kq (.l0 x0 x1 x5) = some (r1, r2) ∧ (∃ fr0, fr = puts [(0, .one (.ref 0 n0)), (1, .one (.val (.int .i64 x1))), (5, .one (.val (.int .i64 x5)))] fr0) ∧ hp = (upd 0 (.tree 62 4 (x0.map e62) n0) (fun _ => none))) k ⟨[(0, 0)], rfl, _, zfuel, _, _, _, h, leafFr [0, 1, 5] (by kernel_rfl), by kernel_rfl⟩ ?_
      clear h; rintro k hle _ _ ⟨x0, x1, x5, h, ⟨fr0, rfl⟩, rfl⟩
      rcases k with _ | k
      · exact (run_zero h).elim
      rw [run_succ, laws_markNodeS.B] at h
      refine zz ?_
      refine br (iP h) ?_ ?_ <;> (clear h; intro c h)
      rotate_left
      ·replace h := evR h; cases h
       refine zz ?_
       first | refine ⟨trivial, [], [], ⟨rfl, trivial⟩, _, rfl, _, rfl, ?_⟩ | refine ⟨[], [], ⟨rfl, trivial⟩, _, rfl, _, rfl, ?_⟩
       repeat' (first | (refine And.intro ?_ ?_) | rfl)
      have h_ := gP h; clear h; obtain ⟨c, h⟩ := h_
      refine zz ?_
      refine Exists.intro (List.map e62 (x0.set (x5 : Int).toNat (⟨x1, (rd_T62 x0 x5).f1, (rd_T62 x0 x5).f2, (rd_T62 x0 x5).f3⟩ : S62))) (And.intro zrow ?_)
      have h_ := gP h; clear h; obtain ⟨c, h⟩ := h_
      have h_ := evO h; clear h; obtain ⟨y6_5, hy, h⟩ := h_
      refine zz ?_
      refine Exists.intro (y6_5.map e62) (And.intro (by rw [← Option.some.inj hy]; exact zrow) ?_)
      have h_ := evO h; clear h; obtain ⟨t29, ht, h⟩ := h_
      refine zz ?_
      refine Exists.intro _ (And.intro (laws_markText_ev (h := ht)) ?_)
      have h_ := gP h; clear h; obtain ⟨c, h⟩ := h_
      have h_ := evO h; clear h; obtain ⟨y8_6, hy, h⟩ := h_
      refine zz ?_
      refine Exists.intro (y8_6.map e62) (And.intro (by rw [← Option.some.inj hy]; exact zrow) ?_)
      have h_ := gP h; clear h; obtain ⟨c, h⟩ := h_
      have h_ := evA h; clear h; obtain ⟨t40, ht, h⟩ := h_
      refine zz ?_
      refine Exists.intro _ (Exists.intro _ (And.intro (ih _ (h := ht) (hk := zfuel)) ?_))
      have h_ := evO h; clear h; obtain ⟨y10_6, hy, h⟩ := h_
      refine zz ?_
      refine Exists.intro (y10_6.map e62) (And.intro (by rw [← Option.some.inj hy]; exact zrow) ?_)
      replace h := evT h
      refine zz ?_
      exact ⟨[(0, 0)], rfl, _, zfuel, _, _, _, h, leafFr [0, 1, 5] (by kernel_rfl), by kernel_rfl⟩
theorem laws_markNodeS_ev {n0 : Nat} (l0 : List S62) (a1 : Int) (r1 : Int) (r2 : List S62) (h : laws_markNodeS.fv l0 a1 = some (r1, r2)) : CE G 34 [.ref 0 n0, .val (.int .i64 a1)] [.tree 62 4 (l0.map e62) n0] [.val (.int .i64 r1)] [.tree 62 4 (r2.map e62) n0] := by
  obtain ⟨k, h⟩ := lim_ex h
  exact (laws_markNodeS_all (k + 1)) k _ _ _ _ h (Nat.lt_succ_self k)
theorem laws_markRuleS_ev {n0 : Nat} (l0 : List S64) (a1 : Int) (r1 : Int) (r2 : List S64) (h : laws_markRuleS.fv l0 a1 = some (r1, r2)) : CE G 16 [.ref 0 n0, .val (.int .i64 a1)] [.tree 64 9 (l0.map e64) n0] [.val (.int .i64 r1)] [.tree 64 9 (r2.map e64) n0] := by
  obtain ⟨k, h⟩ := lim_ex h
  refine CE.mk ⟨Try.f16, _, rfl, rfl, ⟨by kernel_rfl, Nat.le_of_ble_eq_true rfl, Nat.le_of_ble_eq_true rfl⟩, ?_⟩
  rcases k with _ | k
  · exact (run_zero h).elim
  rw [run_succ, laws_markRuleS.B] at h
  replace h := evT h
  refine zz ?_
  refine loopJ (fun kq fr hp => ∃ (x0 : List S64) (x1 : Int) (x5 : Int), run laws_markRuleS.B kq (.l0 x0 x1 x5) = some (r1, r2) ∧ (∃ fr0, fr = puts [(0, .one (.ref 0 n0)), (1, .one (.val (.int .i64 x1))), (5, .one (.val (.int .i64 x5)))] fr0) ∧ hp = (upd 0 (.tree 64 9 (x0.map e64) n0) (fun _ => none))) k ⟨[(0, 0)], rfl, _, zfuel, _, _, _, h, leafFr [0, 1, 5] (by kernel_rfl), by kernel_rfl⟩ ?_
  clear h; rintro k hle _ _ ⟨x0, x1, x5, h, ⟨fr0, rfl⟩, rfl⟩
  rcases k with _ | k
  · exact (run_zero h).elim
  rw [run_succ, laws_markRuleS.B] at h
  refine zz ?_
  refine br (iP h) ?_ ?_ <;> (clear h; intro c h)
  rotate_left
  ·replace h := evR h; cases h
   refine zz ?_
   first | refine ⟨trivial, [], [], ⟨rfl, trivial⟩, _, rfl, _, rfl, ?_⟩ | refine ⟨[], [], ⟨rfl, trivial⟩, _, rfl, _, rfl, ?_⟩
   repeat' (first | (refine And.intro ?_ ?_) | rfl)
  have h_ := gP h; clear h; obtain ⟨c, h⟩ := h_
  have h_ := evO h; clear h; obtain ⟨y4_5, hy, h⟩ := h_
  refine zz ?_
  refine Exists.intro (y4_5.map e64) (And.intro (by rw [← Option.some.inj hy]; exact zrow) ?_)
  have h_ := gP h; clear h; obtain ⟨c, h⟩ := h_
  have h_ := evO h; clear h; obtain ⟨y6_6, hy, h⟩ := h_
  refine zz ?_
  refine Exists.intro (y6_6.map e64) (And.intro (by rw [← Option.some.inj hy]; exact zrow) ?_)
  have h_ := gP h; clear h; obtain ⟨c, h⟩ := h_
  have h_ := evO h; clear h; obtain ⟨y8_6, hy, h⟩ := h_
  refine zz ?_
  refine Exists.intro (y8_6.map e64) (And.intro (by rw [← Option.some.inj hy]; exact zrow) ?_)
  have h_ := evO h; clear h; obtain ⟨t38, ht, h⟩ := h_
  refine zz ?_
  refine Exists.intro _ (And.intro (laws_markText_ev (h := ht)) ?_)
  have h_ := gP h; clear h; obtain ⟨c, h⟩ := h_
  have h_ := evO h; clear h; obtain ⟨y10_7, hy, h⟩ := h_
  refine zz ?_
  refine Exists.intro (y10_7.map e64) (And.intro (by rw [← Option.some.inj hy]; exact zrow) ?_)
  have h_ := gP h; clear h; obtain ⟨c, h⟩ := h_
  have h_ := evO h; clear h; obtain ⟨t51, ht, h⟩ := h_
  refine zz ?_
  refine Exists.intro _ (Exists.intro _ (And.intro (laws_markNodeS_ev (h := ht)) ?_))
  have h_ := evO h; clear h; obtain ⟨y12_7, hy, h⟩ := h_
  refine zz ?_
  refine Exists.intro (y12_7.map e64) (And.intro (by rw [← Option.some.inj hy]; exact zrow) ?_)
  have h_ := gP h; clear h; obtain ⟨c, h⟩ := h_
  have h_ := evO h; clear h; obtain ⟨y13_6, hy, h⟩ := h_
  refine zz ?_
  refine Exists.intro (y13_6.map e64) (And.intro (by rw [← Option.some.inj hy]; exact zrow) ?_)
  have h_ := gP h; clear h; obtain ⟨c, h⟩ := h_
  have h_ := evO h; clear h; obtain ⟨y15_6, hy, h⟩ := h_
  refine zz ?_
  refine Exists.intro (y15_6.map e64) (And.intro (by rw [← Option.some.inj hy]; exact zrow) ?_)
  have h_ := evO h; clear h; obtain ⟨t71, ht, h⟩ := h_
  refine zz ?_
  refine Exists.intro _ (And.intro (laws_markText_ev (h := ht)) ?_)
  have h_ := gP h; clear h; obtain ⟨c, h⟩ := h_
  have h_ := evO h; clear h; obtain ⟨y17_7, hy, h⟩ := h_
  refine zz ?_
  refine Exists.intro (y17_7.map e64) (And.intro (by rw [← Option.some.inj hy]; exact zrow) ?_)
  have h_ := gP h; clear h; obtain ⟨c, h⟩ := h_
  have h_ := evO h; clear h; obtain ⟨t84, ht, h⟩ := h_
  refine zz ?_
  refine Exists.intro _ (Exists.intro _ (And.intro (laws_markNodeS_ev (h := ht)) ?_))
  have h_ := evO h; clear h; obtain ⟨y19_7, hy, h⟩ := h_
  refine zz ?_
  refine Exists.intro (y19_7.map e64) (And.intro (by rw [← Option.some.inj hy]; exact zrow) ?_)
  replace h := evT h
  refine zz ?_
  exact ⟨[(0, 0)], rfl, _, zfuel, _, _, _, h, leafFr [0, 1, 5] (by kernel_rfl), by kernel_rfl⟩
end Go.Proofs.Ytccldchklemogaa.TFnExactNames
