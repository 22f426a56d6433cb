/- The walks of the functions that FnExactCheck reaches, through the abstract machine. -/
import Derived.Test.YthgglepiopijjaaGreatAFnExactCheckh
import Derived.Test.YthgglepiopijjaaGreatAFnExactCheckx0
import Derived.Test.YthgglepiopijjaaGreatAFnExactCheckx4
import Derived.Test.YthgglepiopijjaaGreatAFnExactCheckx6
import Derived.Test.YthgglepiopijjaaGreatAFnExactCheckx7
import Derived.Test.YthgglepiopijjaaGreatFFnExactCheck
import Derived.Test.YthgglepiopijjaaGreatProg
set_option maxHeartbeats 4000000
set_option maxRecDepth 100000
set_option linter.unusedVariables false
set_option linter.unusedSimpArgs false
namespace Go.Proofs.YthgglepiopijjaaGreat.TFnExactCheck
open Go Go.RowKit Go.Proofs Go.Proofs.YthgglepiopijjaaGreatW.AM Go.Proofs.YthgglepiopijjaaGreat.QFnExactCheck Go.Proofs.YthgglepiopijjaaGreatW.PrintWords Go.Proofs.YthgglepiopijjaaGreatW.Pgs
variable {m_ : Int}
theorem impl_eachNode__impl_anyNode_1_2_ev (l0 : List S40) (a1q1_0 : Bool) (r : Bool) (h : impl_eachNode__impl_anyNode_1_2.fv l0 a1q1_0 = some r) : CE (G m_) 36 [.val (.row (l0.map e40)), .fn 48 [0, 1]] [.box [.fn 26 []], .box [.val (.bool a1q1_0)]] [] [.box [.fn 26 []], .box [.val (.bool r)]] := by
  obtain ⟨k, h⟩ := lim_ex h
  refine CE.mk ⟨Tryz.f36, _, rfl, rfl, ⟨by kernel_rfl, Nat.le_of_ble_eq_true rfl, Nat.le_of_ble_eq_true rfl⟩, ?_⟩
  rcases k with _ | k
  · exact (run_zero h).elim
  rw [run_succ, impl_eachNode__impl_anyNode_1_2.B] at h
  replace h := evT h
  refine zz ?_
  refine loopJ [0, 1] (fun kq fr hp => ∃ (x6 : List S40) (x7 : Int) (x8 : Int) (x2000 : Bool), run impl_eachNode__impl_anyNode_1_2.B kq (.l0 x6 x7 x8 x2000) = some r ∧ (∃ fr0, fr = puts [(1, .one (.fn 48 [0, 1])), (6, .one (.val (.row (x6.map e40)))), (7, .one (.val (.int .i64 x7))), (8, .one (.val (.int .i64 x8)))] fr0) ∧ hp = (upd 0 (.box [.fn 26 []]) (upd 1 (.box [.val (.bool x2000)]) (fun _ => none)))) k ⟨_, zfuel, _, _, _, _, h, leafFr [1, 6, 7, 8] (by kernel_rfl), by kernel_rfl⟩ ?_
  clear h; rintro k hle _ _ ⟨x6, x7, x8, x2000, h, ⟨fr0, rfl⟩, rfl⟩
  rcases k with _ | k
  · exact (run_zero h).elim
  rw [run_succ, impl_eachNode__impl_anyNode_1_2.B] at h
  refine zz ?_
  refine br (iP h) ?_ ?_ <;> (clear h; intro c h)
  rotate_left
  · replace h := evR h; cases h
    refine zz ?_
    first | exact ⟨trivial, [], [], ⟨rfl, trivial⟩, _, rfl, _, rfl, And.intro rfl rfl⟩ | exact ⟨[], [], ⟨rfl, trivial⟩, _, rfl, _, rfl, And.intro rfl rfl⟩
  have h_ := gP h; clear h; obtain ⟨c, h⟩ := h_
  have h_ := gP h; clear h; obtain ⟨c, h⟩ := h_
  have h_ := evO h; clear h; obtain ⟨t15, ht, h⟩ := h_
  refine zz ?_
  refine Exists.intro _ (Exists.intro _ (And.intro (impl_each__impl_anyNode_1_2_ev (h := ht)) ?_))
  have h_ := evO h; clear h; obtain ⟨t19, ht, h⟩ := h_
  refine zz ?_
  refine Exists.intro _ (Exists.intro _ (And.intro (impl_each__impl_anyNode_1_2_ev (h := ht)) ?_))
  replace h := evT h
  refine zz ?_
  exact ⟨_, zfuel, _, _, _, _, h, leafFr [1, 6, 7, 8] (by kernel_rfl), by kernel_rfl⟩
theorem impl_anyNode__impl_rexFault_ev (l0 : List S40) (r : Bool) (h : impl_anyNode__impl_rexFault.fv l0 = some r) : CE (G m_) 23 [.val (.row (l0.map e40)), .fn 26 []] [] [.val (.bool r)] [] := by
  refine CE.mk ⟨Tryz.f23, _, rfl, rfl, ⟨by kernel_rfl, Nat.le_of_ble_eq_true rfl, Nat.le_of_ble_eq_true rfl⟩, ?_⟩
  rw [impl_anyNode__impl_rexFault.fv] at h
  have h_ := oS h; clear h; obtain ⟨t8, ht, h⟩ := h_
  refine zz ?_
  refine Exists.intro _ (Exists.intro _ (And.intro (impl_eachNode__impl_anyNode_1_2_ev (h := ht)) ?_))
  cases h
  refine zz ?_
  first | exact ⟨trivial, [], [], ⟨rfl, trivial⟩, _, rfl, _, rfl, And.intro rfl rfl⟩ | exact ⟨[], [], ⟨rfl, trivial⟩, _, rfl, _, rfl, And.intro rfl rfl⟩
theorem impl_Check_ev (l0 : List S40) (r : Int) (h : impl_Check.fv l0 = some r) : CE (G m_) 7 [.val (.row (l0.map e40))] [] [.val (.int .i64 r)] [] := by
  obtain ⟨k, h⟩ := lim_ex h
  refine CE.mk ⟨Tryz.f7, _, rfl, rfl, ⟨by kernel_rfl, Nat.le_of_ble_eq_true rfl, Nat.le_of_ble_eq_true rfl⟩, ?_⟩
  rcases k with _ | k
  · exact (run_zero h).elim
  rw [run_succ, impl_Check.B] at h
  have h_ := evO h; clear h; obtain ⟨t7, ht, h⟩ := h_
  refine zz ?_
  refine Exists.intro _ (And.intro (impl_Names_ev (h := ht)) ?_)
  have h_ := evO h; clear h; obtain ⟨t12, ht, h⟩ := h_
  refine zz ?_
  refine Exists.intro _ (And.intro (impl_Tidy_ev (h := ht)) ?_)
  refine zz ?_
  refine brN (iP h) ?_ ?_ <;> (clear h; intro c h)
  · replace h := evR h; cases h
    refine zz ?_
    first | exact ⟨trivial, [], [], ⟨rfl, trivial⟩, _, rfl, _, rfl, And.intro rfl rfl⟩ | exact ⟨[], [], ⟨rfl, trivial⟩, _, rfl, _, rfl, And.intro rfl rfl⟩
  have h_ := evO h; clear h; obtain ⟨t16, ht, h⟩ := h_
  refine zz ?_
  refine Exists.intro _ (And.intro (impl_beginFault_ev (h := ht)) ?_)
  refine zz ?_
  refine br (iP h) ?_ ?_ <;> (clear h; intro c h)
  · replace h := evR h; cases h
    refine zz ?_
    first | exact ⟨trivial, [], [], ⟨rfl, trivial⟩, _, rfl, _, rfl, And.intro rfl rfl⟩ | exact ⟨[], [], ⟨rfl, trivial⟩, _, rfl, _, rfl, And.intro rfl rfl⟩
  refine zz ?_
  refine cutJ (n := 200006) [533] (fun fr hp => ∃ kq, kq ≤ k ∧ ∃ (x0 : List S40) (x3 : List ByteArray) (x17 : Bool) (x533_0 : List ByteArray), run impl_Check.B kq (.j0 x0 x3 x17 x533_0) = some r ∧ (∃ fr0, fr = puts [(0, .one (.val (.row (x0.map e40)))), (3, .one (.val (.row (x3.map VV.str)))), (4, .one (.ptr 533 0)), (17, .one (.val (.bool x17)))] fr0) ∧ hp = (upd 533 (.box [.val (.row (x533_0.map VV.str))]) (fun _ => none))) ?_ ?_
  · refine zz ?_
    refine brW (iP h) ?_ ?_ <;> (clear h; intro c h)
    · refine zz ?_
      try (apply Or.inl; refine zK ?_)
      refine zz ?_
      try (apply Or.inl; refine zK ?_)
      refine zz ?_
      try (apply Or.inr; refine zK ?_)
      replace h := evT h
      refine zz ?_
      exact ⟨_, zfuel, _, _, _, _, h, leafFr [0, 3, 4, 17] (by kernel_rfl), by kernel_rfl⟩
    refine zz ?_
    try (apply Or.inr; refine zK ?_)
    refine zz ?_
    try (apply Or.inr; refine zK ?_)
    refine zz ?_
    try (apply Or.inl; refine zK ?_)
    replace h := evT h
    refine zz ?_
    exact ⟨_, zfuel, _, _, _, _, h, leafFr [0, 3, 4, 17] (by kernel_rfl), by kernel_rfl⟩
  clear h; rintro _ _ ⟨k, hle, x0, x3, x17, x533_0, h, ⟨fr0, rfl⟩, rfl⟩
  rcases k with _ | k
  · exact (run_zero h).elim
  rw [run_succ, impl_Check.B] at h
  refine zz ?_
  refine br (iP h) ?_ ?_ <;> (clear h; intro c h)
  · replace h := evR h; cases h
    refine zz ?_
    first | exact ⟨trivial, [], [], ⟨rfl, trivial⟩, _, rfl, _, rfl, And.intro rfl rfl⟩ | exact ⟨[], [], ⟨rfl, trivial⟩, _, rfl, _, rfl, And.intro rfl rfl⟩
  have h_ := evO h; clear h; obtain ⟨t29, ht, h⟩ := h_
  refine zz ?_
  refine Exists.intro _ (Exists.intro _ (And.intro (slices_ContainsFunc_string_string__impl_Check_1_ev (h := ht)) ?_))
  refine zz ?_
  refine br (iP h) ?_ ?_ <;> (clear h; intro c h)
  · replace h := evR h; cases h
    refine zz ?_
    first | exact ⟨trivial, [], [], ⟨rfl, trivial⟩, _, rfl, _, rfl, And.intro rfl rfl⟩ | exact ⟨[], [], ⟨rfl, trivial⟩, _, rfl, _, rfl, And.intro rfl rfl⟩
  have h_ := evO h; clear h; obtain ⟨t32, ht, h⟩ := h_
  refine zz ?_
  refine Exists.intro _ (And.intro (impl_anyNode__impl_Check_2_ev (h := ht)) ?_)
  refine zz ?_
  refine br (iP h) ?_ ?_ <;> (clear h; intro c h)
  · replace h := evR h; cases h
    refine zz ?_
    first | exact ⟨trivial, [], [], ⟨rfl, trivial⟩, _, rfl, _, rfl, And.intro rfl rfl⟩ | exact ⟨[], [], ⟨rfl, trivial⟩, _, rfl, _, rfl, And.intro rfl rfl⟩
  have h_ := evO h; clear h; obtain ⟨t35, ht, h⟩ := h_
  refine zz ?_
  refine Exists.intro _ (And.intro (impl_anyNode__impl_rexFault_ev (h := ht)) ?_)
  refine zz ?_
  refine br (iP h) ?_ ?_ <;> (clear h; intro c h)
  · replace h := evR h; cases h
    refine zz ?_
    first | exact ⟨trivial, [], [], ⟨rfl, trivial⟩, _, rfl, _, rfl, And.intro rfl rfl⟩ | exact ⟨[], [], ⟨rfl, trivial⟩, _, rfl, _, rfl, And.intro rfl rfl⟩
  replace h := evR h; cases h
  refine zz ?_
  first | exact ⟨trivial, [], [], ⟨rfl, trivial⟩, _, rfl, _, rfl, And.intro rfl rfl⟩ | exact ⟨[], [], ⟨rfl, trivial⟩, _, rfl, _, rfl, And.intro rfl rfl⟩
theorem laws_eqNode_all : ∀ n, (∀ (k : Nat) (a0_0 : Int) (a0_1 : Int) (a0_2 : ByteArray) (l0_3 : List S38) (a1_0 : Int) (a1_1 : Int) (a1_2 : ByteArray) (l1_3 : List S38) (r : Bool) (h : run laws_eqNode.B k (.laws_eqNode_f a0_0 a0_1 a0_2 l0_3 a1_0 a1_1 a1_2 l1_3) = some r) (hk : k < n), CE (G m_) 50 [.val (.agg [.int .i64 a0_0, .int .i64 a0_1, .str a0_2, .row (l0_3.map e38)]), .val (.agg [.int .i64 a1_0, .int .i64 a1_1, .str a1_2, .row (l1_3.map e38)])] [] [.val (.bool r)] []) ∧ (∀ (k : Nat) (l0 : List S38) (l1 : List S38) (r : Bool) (h : run laws_eqNode.B k (.laws_eqNodeS_f l0 l1) = some r) (hk : k < n), CE (G m_) 78 [.val (.row (l0.map e38)), .val (.row (l1.map e38))] [] [.val (.bool r)] []) := by
  intro n
  induction n with
  | zero => exact ⟨by intros; omega, by intros; omega⟩
  | succ n ih =>
    refine ⟨?_, ?_⟩
    · intro k a0_0 a0_1 a0_2 l0_3 a1_0 a1_1 a1_2 l1_3 r h hk
      refine CE.mk ⟨Tryz.f50, _, rfl, rfl, ⟨by kernel_rfl, Nat.le_of_ble_eq_true rfl, Nat.le_of_ble_eq_true rfl⟩, ?_⟩
      rcases k with _ | k
      · exact (run_zero h).elim
      rw [run_succ, laws_eqNode.B] at h
      refine zz ?_
      refine brN (iP h) ?_ ?_ <;> (clear h; intro c h)
      · replace h := evR h; cases h
        refine zz ?_
        first | exact ⟨trivial, [], [], ⟨rfl, trivial⟩, _, rfl, _, rfl, And.intro rfl rfl⟩ | exact ⟨[], [], ⟨rfl, trivial⟩, _, rfl, _, rfl, And.intro rfl rfl⟩
      refine zz ?_
      refine brN (iP h) ?_ ?_ <;> (clear h; intro c h)
      · replace h := evR h; cases h
        refine zz ?_
        first | exact ⟨trivial, [], [], ⟨rfl, trivial⟩, _, rfl, _, rfl, And.intro rfl rfl⟩ | exact ⟨[], [], ⟨rfl, trivial⟩, _, rfl, _, rfl, And.intro rfl rfl⟩
      refine zz ?_
      refine brN (iP h) ?_ ?_ <;> (clear h; intro c h)
      · replace h := evR h; cases h
        refine zz ?_
        first | exact ⟨trivial, [], [], ⟨rfl, trivial⟩, _, rfl, _, rfl, And.intro rfl rfl⟩ | exact ⟨[], [], ⟨rfl, trivial⟩, _, rfl, _, rfl, And.intro rfl rfl⟩
      have h_ := evA h; clear h; obtain ⟨t24, ht, h⟩ := h_
      refine zz ?_
      refine Exists.intro _ (And.intro (ih.2 _ (h := ht) (hk := zfuel)) ?_)
      refine zz ?_
      refine brN (iP h) ?_ ?_ <;> (clear h; intro c h)
      · replace h := evR h; cases h
        refine zz ?_
        first | exact ⟨trivial, [], [], ⟨rfl, trivial⟩, _, rfl, _, rfl, And.intro rfl rfl⟩ | exact ⟨[], [], ⟨rfl, trivial⟩, _, rfl, _, rfl, And.intro rfl rfl⟩
      replace h := evR h; cases h
      refine zz ?_
      first | exact ⟨trivial, [], [], ⟨rfl, trivial⟩, _, rfl, _, rfl, And.intro rfl rfl⟩ | exact ⟨[], [], ⟨rfl, trivial⟩, _, rfl, _, rfl, And.intro rfl rfl⟩
    · intro k l0 l1 r h hk
      refine CE.mk ⟨Tryz.f78, _, rfl, rfl, ⟨by kernel_rfl, Nat.le_of_ble_eq_true rfl, Nat.le_of_ble_eq_true rfl⟩, ?_⟩
      rcases k with _ | k
      · exact (run_zero h).elim
      rw [run_succ, laws_eqNode.B] at h
      refine zz ?_
      refine brN (iP h) ?_ ?_ <;> (clear h; intro c h)
      · replace h := evR h; cases h
        refine zz ?_
        first | exact ⟨trivial, [], [], ⟨rfl, trivial⟩, _, rfl, _, rfl, And.intro rfl rfl⟩ | exact ⟨[], [], ⟨rfl, trivial⟩, _, rfl, _, rfl, And.intro rfl rfl⟩
      replace h := evT h
      refine zz ?_
      refine loopJ [] (fun kq fr hp => ∃ (x0 : List S38) (x1 : List S38) (x5 : Int), run laws_eqNode.B kq (.laws_eqNodeS_l0 x0 x1 x5) = some r ∧ (∃ fr0, fr = puts [(0, .one (.val (.row (x0.map e38)))), (1, .one (.val (.row (x1.map e38)))), (5, .one (.val (.int .i64 x5)))] fr0) ∧ hp = (fun _ => none)) k ⟨_, zfuel, _, _, _, h, leafFr [0, 1, 5] (by kernel_rfl), by kernel_rfl⟩ ?_
      clear h; rintro k hle _ _ ⟨x0, x1, x5, h, ⟨fr0, rfl⟩, rfl⟩
      rcases k with _ | k
      · exact (run_zero h).elim
      rw [run_succ, laws_eqNode.B] at h
      refine zz ?_
      refine br (iP h) ?_ ?_ <;> (clear h; intro c h)
      rotate_left
      · replace h := evR h; cases h
        refine zz ?_
        first | exact ⟨trivial, [], [], ⟨rfl, trivial⟩, _, rfl, _, rfl, And.intro rfl rfl⟩ | exact ⟨[], [], ⟨rfl, trivial⟩, _, rfl, _, rfl, And.intro rfl rfl⟩
      have h_ := gP h; clear h; obtain ⟨c, h⟩ := h_
      have h_ := gP h; clear h; obtain ⟨c, h⟩ := h_
      have h_ := evA h; clear h; obtain ⟨t25, ht, h⟩ := h_
      refine zz ?_
      refine Exists.intro _ (And.intro (ih.1 _ (h := ht) (hk := zfuel)) ?_)
      refine zz ?_
      refine brN (iP h) ?_ ?_ <;> (clear h; intro c h)
      · replace h := evR h; cases h
        refine zz ?_
        first | exact ⟨trivial, [], [], ⟨rfl, trivial⟩, _, rfl, _, rfl, And.intro rfl rfl⟩ | exact ⟨[], [], ⟨rfl, trivial⟩, _, rfl, _, rfl, And.intro rfl rfl⟩
      replace h := evT h
      refine zz ?_
      exact ⟨_, zfuel, _, _, _, h, leafFr [0, 1, 5] (by kernel_rfl), by kernel_rfl⟩
theorem laws_eqNode_ev (a0_0 : Int) (a0_1 : Int) (a0_2 : ByteArray) (l0_3 : List S38) (a1_0 : Int) (a1_1 : Int) (a1_2 : ByteArray) (l1_3 : List S38) (r : Bool) (h : laws_eqNode.fv a0_0 a0_1 a0_2 l0_3 a1_0 a1_1 a1_2 l1_3 = some r) : CE (G m_) 50 [.val (.agg [.int .i64 a0_0, .int .i64 a0_1, .str a0_2, .row (l0_3.map e38)]), .val (.agg [.int .i64 a1_0, .int .i64 a1_1, .str a1_2, .row (l1_3.map e38)])] [] [.val (.bool r)] [] := by
  obtain ⟨k, h⟩ := lim_ex h
  exact (laws_eqNode_all (k + 1)).1 k _ _ _ _ _ _ _ _ _ h (Nat.lt_succ_self k)
theorem laws_eqNodeS_ev (l0 : List S38) (l1 : List S38) (r : Bool) (h : laws_eqNodeS.fv l0 l1 = some r) : CE (G m_) 78 [.val (.row (l0.map e38)), .val (.row (l1.map e38))] [] [.val (.bool r)] [] := by
  obtain ⟨k, h⟩ := lim_ex h
  exact (laws_eqNode_all (k + 1)).2 k _ _ _ h (Nat.lt_succ_self k)
theorem laws_eqRule_ev (a0_0 : Int) (a0_1 : Int) (a0_2 : Int) (a0_3 : ByteArray) (l0_4 : List S38) (a0_5 : Int) (a0_6 : Int) (a0_7 : ByteArray) (l0_8 : List S38) (a1_0 : Int) (a1_1 : Int) (a1_2 : Int) (a1_3 : ByteArray) (l1_4 : List S38) (a1_5 : Int) (a1_6 : Int) (a1_7 : ByteArray) (l1_8 : List S38) (r : Bool) (h : laws_eqRule.fv a0_0 a0_1 a0_2 a0_3 l0_4 a0_5 a0_6 a0_7 l0_8 a1_0 a1_1 a1_2 a1_3 l1_4 a1_5 a1_6 a1_7 l1_8 = some r) : CE (G m_) 27 [.val (.agg [.int .i64 a0_0, .int .i64 a0_1, .int .i64 a0_2, .str a0_3, .row (l0_4.map e38), .int .i64 a0_5, .int .i64 a0_6, .str a0_7, .row (l0_8.map e38)]), .val (.agg [.int .i64 a1_0, .int .i64 a1_1, .int .i64 a1_2, .str a1_3, .row (l1_4.map e38), .int .i64 a1_5, .int .i64 a1_6, .str a1_7, .row (l1_8.map e38)])] [] [.val (.bool r)] [] := by
  refine CE.mk ⟨Tryz.f27, _, rfl, rfl, ⟨by kernel_rfl, Nat.le_of_ble_eq_true rfl, Nat.le_of_ble_eq_true rfl⟩, ?_⟩
  rw [laws_eqRule.fv] at h
  refine zz ?_
  refine brN (iteS h) ?_ ?_ <;> (clear h; intro c h)
  · cases h
    refine zz ?_
    first | exact ⟨trivial, [], [], ⟨rfl, trivial⟩, _, rfl, _, rfl, And.intro rfl rfl⟩ | exact ⟨[], [], ⟨rfl, trivial⟩, _, rfl, _, rfl, And.intro rfl rfl⟩
  have h_ := oS h; clear h; obtain ⟨t14, ht, h⟩ := h_
  refine zz ?_
  refine Exists.intro _ (And.intro (laws_eqNode_ev (h := ht)) ?_)
  refine zz ?_
  refine brN (iteS h) ?_ ?_ <;> (clear h; intro c h)
  · cases h
    refine zz ?_
    first | exact ⟨trivial, [], [], ⟨rfl, trivial⟩, _, rfl, _, rfl, And.intro rfl rfl⟩ | exact ⟨[], [], ⟨rfl, trivial⟩, _, rfl, _, rfl, And.intro rfl rfl⟩
  have h_ := oS h; clear h; obtain ⟨t20, ht, h⟩ := h_
  refine zz ?_
  refine Exists.intro _ (And.intro (laws_eqNode_ev (h := ht)) ?_)
  refine zz ?_
  refine brN (iteS h) ?_ ?_ <;> (clear h; intro c h)
  · cases h
    refine zz ?_
    first | exact ⟨trivial, [], [], ⟨rfl, trivial⟩, _, rfl, _, rfl, And.intro rfl rfl⟩ | exact ⟨[], [], ⟨rfl, trivial⟩, _, rfl, _, rfl, And.intro rfl rfl⟩
  cases h
  refine zz ?_
  first | exact ⟨trivial, [], [], ⟨rfl, trivial⟩, _, rfl, _, rfl, And.intro rfl rfl⟩ | exact ⟨[], [], ⟨rfl, trivial⟩, _, rfl, _, rfl, And.intro rfl rfl⟩
theorem laws_eqRuleS_ev (l0 : List S40) (l1 : List S40) (r : Bool) (h : laws_eqRuleS.fv l0 l1 = some r) : CE (G m_) 8 [.val (.row (l0.map e40)), .val (.row (l1.map e40))] [] [.val (.bool r)] [] := by
  obtain ⟨k, h⟩ := lim_ex h
  refine CE.mk ⟨Tryz.f8, _, rfl, rfl, ⟨by kernel_rfl, Nat.le_of_ble_eq_true rfl, Nat.le_of_ble_eq_true rfl⟩, ?_⟩
  rcases k with _ | k
  · exact (run_zero h).elim
  rw [run_succ, laws_eqRuleS.B] at h
  refine zz ?_
  refine brN (iP h) ?_ ?_ <;> (clear h; intro c h)
  · replace h := evR h; cases h
    refine zz ?_
    first | exact ⟨trivial, [], [], ⟨rfl, trivial⟩, _, rfl, _, rfl, And.intro rfl rfl⟩ | exact ⟨[], [], ⟨rfl, trivial⟩, _, rfl, _, rfl, And.intro rfl rfl⟩
  replace h := evT h
  refine zz ?_
  refine loopJ [] (fun kq fr hp => ∃ (x0 : List S40) (x1 : List S40) (x5 : Int), run laws_eqRuleS.B kq (.l0 x0 x1 x5) = some r ∧ (∃ fr0, fr = puts [(0, .one (.val (.row (x0.map e40)))), (1, .one (.val (.row (x1.map e40)))), (5, .one (.val (.int .i64 x5)))] fr0) ∧ hp = (fun _ => none)) k ⟨_, zfuel, _, _, _, h, leafFr [0, 1, 5] (by kernel_rfl), by kernel_rfl⟩ ?_
  clear h; rintro k hle _ _ ⟨x0, x1, x5, h, ⟨fr0, rfl⟩, rfl⟩
  rcases k with _ | k
  · exact (run_zero h).elim
  rw [run_succ, laws_eqRuleS.B] at h
  refine zz ?_
  refine br (iP h) ?_ ?_ <;> (clear h; intro c h)
  rotate_left
  · replace h := evR h; cases h
    refine zz ?_
    first | exact ⟨trivial, [], [], ⟨rfl, trivial⟩, _, rfl, _, rfl, And.intro rfl rfl⟩ | exact ⟨[], [], ⟨rfl, trivial⟩, _, rfl, _, rfl, And.intro rfl rfl⟩
  have h_ := gP h; clear h; obtain ⟨c, h⟩ := h_
  have h_ := gP h; clear h; obtain ⟨c, h⟩ := h_
  have h_ := evO h; clear h; obtain ⟨t25, ht, h⟩ := h_
  refine zz ?_
  refine Exists.intro _ (And.intro (laws_eqRule_ev (h := ht)) ?_)
  refine zz ?_
  refine brN (iP h) ?_ ?_ <;> (clear h; intro c h)
  · replace h := evR h; cases h
    refine zz ?_
    first | exact ⟨trivial, [], [], ⟨rfl, trivial⟩, _, rfl, _, rfl, And.intro rfl rfl⟩ | exact ⟨[], [], ⟨rfl, trivial⟩, _, rfl, _, rfl, And.intro rfl rfl⟩
  replace h := evT h
  refine zz ?_
  exact ⟨_, zfuel, _, _, _, h, leafFr [0, 1, 5] (by kernel_rfl), by kernel_rfl⟩
theorem laws_FnExactCheck_ev (l0 : List S34) (r : Bool) (h : laws_FnExactCheck.fv l0 = some r) : CE (G m_) 3 [.val (.row (l0.map e34))] [] [.val (.bool r)] [] := by
  refine CE.mk ⟨Tryz.f3, _, rfl, rfl, ⟨by kernel_rfl, Nat.le_of_ble_eq_true rfl, Nat.le_of_ble_eq_true rfl⟩, ?_⟩
  rw [laws_FnExactCheck.fv] at h
  have h_ := oS h; clear h; obtain ⟨t9, ht, h⟩ := h_
  refine zz ?_
  refine Exists.intro _ (And.intro (laws_szRuleS_ev (h := ht)) ?_)
  refine zz ?_
  refine br (iteS h) ?_ ?_ <;> (clear h; intro c h)
  · cases h
    refine zz ?_
    first | exact ⟨trivial, [], [], ⟨rfl, trivial⟩, _, rfl, _, rfl, And.intro rfl rfl⟩ | exact ⟨[], [], ⟨rfl, trivial⟩, _, rfl, _, rfl, And.intro rfl rfl⟩
  have h_ := oS h; clear h; obtain ⟨t13, ht, h⟩ := h_
  refine zz ?_
  refine Exists.intro _ (And.intro (laws_toRuleS_ev (h := ht)) ?_)
  have h_ := oS h; clear h; obtain ⟨t14, ht, h⟩ := h_
  refine zz ?_
  refine Exists.intro _ (And.intro (spec_Check_ev (h := ht)) ?_)
  have h_ := oS h; clear h; obtain ⟨t16, ht, h⟩ := h_
  refine zz ?_
  refine Exists.intro _ (And.intro (laws_toRuleS_ev (h := ht)) ?_)
  have h_ := oS h; clear h; obtain ⟨t18, ht, h⟩ := h_
  refine zz ?_
  refine Exists.intro _ (And.intro (impl_Check_ev (h := ht)) ?_)
  refine zz ?_
  refine brN (iteS h) ?_ ?_ <;> (clear h; intro c h)
  · cases h
    refine zz ?_
    first | exact ⟨trivial, [], [], ⟨rfl, trivial⟩, _, rfl, _, rfl, And.intro rfl rfl⟩ | exact ⟨[], [], ⟨rfl, trivial⟩, _, rfl, _, rfl, And.intro rfl rfl⟩
  have h_ := oS h; clear h; obtain ⟨t24, ht, h⟩ := h_
  refine zz ?_
  refine Exists.intro _ (And.intro (laws_toRuleS_ev (h := ht)) ?_)
  have h_ := oS h; clear h; obtain ⟨t25, ht, h⟩ := h_
  refine zz ?_
  refine Exists.intro _ (And.intro (laws_eqRuleS_ev (h := ht)) ?_)
  refine zz ?_
  refine brN (iteS h) ?_ ?_ <;> (clear h; intro c h)
  · cases h
    refine zz ?_
    first | exact ⟨trivial, [], [], ⟨rfl, trivial⟩, _, rfl, _, rfl, And.intro rfl rfl⟩ | exact ⟨[], [], ⟨rfl, trivial⟩, _, rfl, _, rfl, And.intro rfl rfl⟩
  cases h
  refine zz ?_
  first | exact ⟨trivial, [], [], ⟨rfl, trivial⟩, _, rfl, _, rfl, And.intro rfl rfl⟩ | exact ⟨[], [], ⟨rfl, trivial⟩, _, rfl, _, rfl, And.intro rfl rfl⟩
end Go.Proofs.YthgglepiopijjaaGreat.TFnExactCheck
