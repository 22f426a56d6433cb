/- The walks of the functions that FnExactWrite reaches, through the abstract machine. -/
import Derived.Test.YthgglepiopijjaaGreatDoorAFnExactWriteh
import Derived.Test.YthgglepiopijjaaGreatDoorAFnExactWritex3
import Derived.Test.YthgglepiopijjaaGreatDoorAFnExactWritex4
import Derived.Test.YthgglepiopijjaaGreatDoorFFnExactWrite
import Derived.Test.YthgglepiopijjaaGreatDoorProg
set_option maxHeartbeats 4000000
set_option maxRecDepth 100000
set_option linter.unusedVariables false
set_option linter.unusedSimpArgs false
namespace Go.Proofs.YthgglepiopijjaaGreatDoor.TFnExactWrite
open Go Go.RowKit Go.Proofs Go.Proofs.YthgglepiopijjaaGreatDoorW.AM Go.Proofs.YthgglepiopijjaaGreatDoor.QFnExactWrite Go.Proofs.YthgglepiopijjaaGreatDoorW.PrintWords Go.Proofs.YthgglepiopijjaaGreatDoorW.Pgs
variable {m_ : Int}
theorem impl_isBlock_all : ∀ n, (∀ (k : Nat) (a0_0 : Int) (a0_1 : Int) (a0_2 : ByteArray) (l0_3 : List S38) (r : Bool) (h : run impl_isBlock.B k (.impl_isBlock_f a0_0 a0_1 a0_2 l0_3) = some r) (hk : k < n), CE (G m_) 32 [.val (.agg [.int .i64 a0_0, .int .i64 a0_1, .str a0_2, .row (l0_3.map e38)])] [] [.val (.bool r)] []) ∧ (∀ (k : Nat) (l0 : List S38) (r : Bool) (h : run impl_isBlock.B k (.slices_ContainsFunc_impl_Node_impl_Node__impl_isBlock_1_f l0) = some r) (hk : k < n), CE (G m_) 57 [.val (.row (l0.map e38)), .fn 58 []] [] [.val (.bool r)] []) ∧ (∀ (k : Nat) (l0 : List S38) (r : Int) (h : run impl_isBlock.B k (.slices_IndexFunc_impl_Node_impl_Node__impl_isBlock_1_f l0) = some r) (hk : k < n), CE (G m_) 77 [.val (.row (l0.map e38)), .fn 58 []] [] [.val (.int .i64 r)] []) ∧ (∀ (k : Nat) (a0_0 : Int) (a0_1 : Int) (a0_2 : ByteArray) (l0_3 : List S38) (r : Bool) (h : run impl_isBlock.B k (.impl_isBlock_1_f a0_0 a0_1 a0_2 l0_3) = some r) (hk : k < n), CE (G m_) 58 [.val (.agg [.int .i64 a0_0, .int .i64 a0_1, .str a0_2, .row (l0_3.map e38)])] [] [.val (.bool r)] []) ∧ (∀ (k : Nat) (a0_0 : Int) (a0_1 : Int) (a0_2 : ByteArray) (l0_3 : List S38) (r : Bool) (h : run impl_isBlock.B k (.impl_isStatement_f a0_0 a0_1 a0_2 l0_3) = some r) (hk : k < n), CE (G m_) 59 [.val (.agg [.int .i64 a0_0, .int .i64 a0_1, .str a0_2, .row (l0_3.map e38)])] [] [.val (.bool r)] []) := by
  intro n
  induction n with
  | zero => exact ⟨by intros; omega, by intros; omega, by intros; omega, by intros; omega, by intros; omega⟩
  | succ n ih =>
    refine ⟨?_, ?_, ?_, ?_, ?_⟩
    · intro k a0_0 a0_1 a0_2 l0_3 r h hk
      refine CE.mk ⟨Tryz.f32, _, rfl, rfl, ⟨by kernel_rfl, Nat.le_of_ble_eq_true rfl, Nat.le_of_ble_eq_true rfl⟩, ?_⟩
      rcases k with _ | k
      · exact (run_zero h).elim
      rw [run_succ, impl_isBlock.B] at h
      refine zz ?_
      refine br (iP h) ?_ ?_ <;> (clear h; intro c h)
      rotate_left
      · refine zz ?_
        try (apply Or.inr; refine zK ?_)
        refine zz ?_
        try (apply Or.inr; refine zK ?_)
        refine zz ?_
        try (apply Or.inr; refine zK ?_)
        refine zz ?_
        try (apply Or.inr; refine zK ?_)
        refine zz ?_
        try (apply Or.inr; refine zK ?_)
        refine zz ?_
        try (apply Or.inr; refine zK ?_)
        refine zz ?_
        try (apply Or.inr; refine zK ?_)
        replace h := evR h; cases h
        refine zz ?_
        first | exact ⟨trivial, [], [], ⟨rfl, trivial⟩, _, rfl, _, rfl, And.intro rfl rfl⟩ | exact ⟨[], [], ⟨rfl, trivial⟩, _, rfl, _, rfl, And.intro rfl rfl⟩
      refine zz ?_
      try (apply Or.inl; refine zK ?_)
      have h_ := evO h; clear h; obtain ⟨t8, ht, h⟩ := h_
      refine zz ?_
      refine Exists.intro _ (And.intro (impl_plainNode_ev (h := ht)) ?_)
      refine zz ?_
      try (apply Or.inl; refine zK ?_)
      refine zz ?_
      refine br (iP h) ?_ ?_ <;> (clear h; intro c h)
      rotate_left
      · refine zz ?_
        try (apply Or.inr; refine zK ?_)
        refine zz ?_
        try (apply Or.inr; refine zK ?_)
        refine zz ?_
        try (apply Or.inr; refine zK ?_)
        refine zz ?_
        try (apply Or.inr; refine zK ?_)
        replace h := evR h; cases h
        refine zz ?_
        first | exact ⟨trivial, [], [], ⟨rfl, trivial⟩, _, rfl, _, rfl, And.intro rfl rfl⟩ | exact ⟨[], [], ⟨rfl, trivial⟩, _, rfl, _, rfl, And.intro rfl rfl⟩
      refine zz ?_
      try (apply Or.inl; refine zK ?_)
      refine zz ?_
      try (apply Or.inl; refine zK ?_)
      have h_ := evA h; clear h; obtain ⟨t13, ht, h⟩ := h_
      refine zz ?_
      refine Exists.intro _ (And.intro (ih.2.1 _ (h := ht) (hk := zfuel)) ?_)
      refine zz ?_
      try (apply Or.inl; refine zK ?_)
      refine zz ?_
      try (apply Or.inl; refine zK ?_)
      replace h := evR h; cases h
      refine zz ?_
      first | exact ⟨trivial, [], [], ⟨rfl, trivial⟩, _, rfl, _, rfl, And.intro rfl rfl⟩ | exact ⟨[], [], ⟨rfl, trivial⟩, _, rfl, _, rfl, And.intro rfl rfl⟩
    · intro k l0 r h hk
      refine CE.mk ⟨Tryz.f57, _, rfl, rfl, ⟨by kernel_rfl, Nat.le_of_ble_eq_true rfl, Nat.le_of_ble_eq_true rfl⟩, ?_⟩
      rcases k with _ | k
      · exact (run_zero h).elim
      rw [run_succ, impl_isBlock.B] at h
      have h_ := evA h; clear h; obtain ⟨t7, ht, h⟩ := h_
      refine zz ?_
      refine Exists.intro _ (And.intro (ih.2.2.1 _ (h := ht) (hk := zfuel)) ?_)
      replace h := evR h; cases h
      refine zz ?_
      first | exact ⟨trivial, [], [], ⟨rfl, trivial⟩, _, rfl, _, rfl, And.intro rfl rfl⟩ | exact ⟨[], [], ⟨rfl, trivial⟩, _, rfl, _, rfl, And.intro rfl rfl⟩
    · intro k l0 r h hk
      refine CE.mk ⟨Tryz.f77, _, rfl, rfl, ⟨by kernel_rfl, Nat.le_of_ble_eq_true rfl, Nat.le_of_ble_eq_true rfl⟩, ?_⟩
      rcases k with _ | k
      · exact (run_zero h).elim
      rw [run_succ, impl_isBlock.B] at h
      replace h := evT h
      refine zz ?_
      refine loopJ [] (fun kq fr hp => ∃ (x0 : List S38) (x7 : Int) (x8 : Int), run impl_isBlock.B kq (.slices_IndexFunc_impl_Node_impl_Node__impl_isBlock_1_l0 x0 x7 x8) = some r ∧ (∃ fr0, fr = puts [(0, .one (.val (.row (x0.map e38)))), (1, .one (.fn 58 [])), (7, .one (.val (.int .i64 x7))), (8, .one (.val (.int .i64 x8)))] fr0) ∧ hp = (fun _ => none)) k ⟨_, zfuel, _, _, _, h, leafFr [0, 1, 7, 8] (by kernel_rfl), by kernel_rfl⟩ ?_
      clear h; rintro k hle _ _ ⟨x0, x7, x8, h, ⟨fr0, rfl⟩, rfl⟩
      rcases k with _ | k
      · exact (run_zero h).elim
      rw [run_succ, impl_isBlock.B] at h
      refine zz ?_
      refine br (iP h) ?_ ?_ <;> (clear h; intro c h)
      rotate_left
      · replace h := evR h; cases h
        refine zz ?_
        first | exact ⟨trivial, [], [], ⟨rfl, trivial⟩, _, rfl, _, rfl, And.intro rfl rfl⟩ | exact ⟨[], [], ⟨rfl, trivial⟩, _, rfl, _, rfl, And.intro rfl rfl⟩
      have h_ := gP h; clear h; obtain ⟨c, h⟩ := h_
      have h_ := gP h; clear h; obtain ⟨c, h⟩ := h_
      have h_ := evA h; clear h; obtain ⟨t16, ht, h⟩ := h_
      refine zz ?_
      refine Exists.intro _ (And.intro (ih.2.2.2.1 _ (h := ht) (hk := zfuel)) ?_)
      refine zz ?_
      refine br (iP h) ?_ ?_ <;> (clear h; intro c h)
      · replace h := evR h; cases h
        refine zz ?_
        first | exact ⟨trivial, [], [], ⟨rfl, trivial⟩, _, rfl, _, rfl, And.intro rfl rfl⟩ | exact ⟨[], [], ⟨rfl, trivial⟩, _, rfl, _, rfl, And.intro rfl rfl⟩
      replace h := evT h
      refine zz ?_
      exact ⟨_, zfuel, _, _, _, h, leafFr [0, 1, 7, 8] (by kernel_rfl), by kernel_rfl⟩
    · intro k a0_0 a0_1 a0_2 l0_3 r h hk
      refine CE.mk ⟨Tryz.f58, _, rfl, rfl, ⟨by kernel_rfl, Nat.le_of_ble_eq_true rfl, Nat.le_of_ble_eq_true rfl⟩, ?_⟩
      rcases k with _ | k
      · exact (run_zero h).elim
      rw [run_succ, impl_isBlock.B] at h
      have h_ := evA h; clear h; obtain ⟨t4, ht, h⟩ := h_
      refine zz ?_
      refine Exists.intro _ (And.intro (ih.2.2.2.2 _ (h := ht) (hk := zfuel)) ?_)
      replace h := evR h; cases h
      refine zz ?_
      first | exact ⟨trivial, [], [], ⟨rfl, trivial⟩, _, rfl, _, rfl, And.intro rfl rfl⟩ | exact ⟨[], [], ⟨rfl, trivial⟩, _, rfl, _, rfl, And.intro rfl rfl⟩
    · intro k a0_0 a0_1 a0_2 l0_3 r h hk
      refine CE.mk ⟨Tryz.f59, _, rfl, rfl, ⟨by kernel_rfl, Nat.le_of_ble_eq_true rfl, Nat.le_of_ble_eq_true rfl⟩, ?_⟩
      rcases k with _ | k
      · exact (run_zero h).elim
      rw [run_succ, impl_isBlock.B] at h
      refine zz ?_
      refine br (iP h) ?_ ?_ <;> (clear h; intro c h)
      · have h_ := evA h; clear h; obtain ⟨t12, ht, h⟩ := h_
        refine zz ?_
        refine Exists.intro _ (And.intro (ih.1 _ (h := ht) (hk := zfuel)) ?_)
        replace h := evR h; cases h
        refine zz ?_
        first | exact ⟨trivial, [], [], ⟨rfl, trivial⟩, _, rfl, _, rfl, And.intro rfl rfl⟩ | exact ⟨[], [], ⟨rfl, trivial⟩, _, rfl, _, rfl, And.intro rfl rfl⟩
      refine zz ?_
      refine br (iP h) ?_ ?_ <;> (clear h; intro c h)
      · have h_ := evO h; clear h; obtain ⟨t16, ht, h⟩ := h_
        refine zz ?_
        refine Exists.intro _ (And.intro (impl_plainNode_ev (h := ht)) ?_)
        refine zz ?_
        refine br (iP h) ?_ ?_ <;> (clear h; intro c h)
        rotate_left
        · refine zz ?_
          try (apply Or.inr; refine zK ?_)
          refine zz ?_
          try (apply Or.inr; refine zK ?_)
          refine zz ?_
          try (apply Or.inr; refine zK ?_)
          replace h := evR h; cases h
          refine zz ?_
          first | exact ⟨trivial, [], [], ⟨rfl, trivial⟩, _, rfl, _, rfl, And.intro rfl rfl⟩ | exact ⟨[], [], ⟨rfl, trivial⟩, _, rfl, _, rfl, And.intro rfl rfl⟩
        refine zz ?_
        try (apply Or.inl; refine zK ?_)
        refine zz ?_
        try (apply Or.inl; refine zK ?_)
        have h_ := evO h; clear h; obtain ⟨t20, ht, h⟩ := h_
        refine zz ?_
        refine Exists.intro _ (And.intro (impl_allEs_ev (h := ht)) ?_)
        refine zz ?_
        try (apply Or.inl; refine zK ?_)
        replace h := evR h; cases h
        refine zz ?_
        first | exact ⟨trivial, [], [], ⟨rfl, trivial⟩, _, rfl, _, rfl, And.intro rfl rfl⟩ | exact ⟨[], [], ⟨rfl, trivial⟩, _, rfl, _, rfl, And.intro rfl rfl⟩
      refine zz ?_
      refine br (iP h) ?_ ?_ <;> (clear h; intro c h)
      · have h_ := evO h; clear h; obtain ⟨t25, ht, h⟩ := h_
        refine zz ?_
        refine Exists.intro _ (And.intro (impl_plainNode_ev (h := ht)) ?_)
        refine zz ?_
        refine br (iP h) ?_ ?_ <;> (clear h; intro c h)
        rotate_left
        · refine zz ?_
          try (apply Or.inr; refine zK ?_)
          refine zz ?_
          try (apply Or.inr; refine zK ?_)
          refine zz ?_
          try (apply Or.inr; refine zK ?_)
          refine zz ?_
          try (apply Or.inr; refine zK ?_)
          refine zz ?_
          try (apply Or.inr; refine zK ?_)
          refine zz ?_
          try (apply Or.inr; refine zK ?_)
          refine zz ?_
          try (apply Or.inr; refine zK ?_)
          refine zz ?_
          try (apply Or.inr; refine zK ?_)
          refine zz ?_
          try (apply Or.inr; refine zK ?_)
          refine zz ?_
          try (apply Or.inr; refine zK ?_)
          refine zz ?_
          try (apply Or.inr; refine zK ?_)
          refine zz ?_
          try (apply Or.inr; refine zK ?_)
          refine zz ?_
          try (apply Or.inr; refine zK ?_)
          refine zz ?_
          try (apply Or.inr; refine zK ?_)
          refine zz ?_
          try (apply Or.inr; refine zK ?_)
          refine zz ?_
          try (apply Or.inr; refine zK ?_)
          refine zz ?_
          try (apply Or.inr; refine zK ?_)
          refine zz ?_
          try (apply Or.inr; refine zK ?_)
          refine zz ?_
          try (apply Or.inr; refine zK ?_)
          refine zz ?_
          try (apply Or.inr; refine zK ?_)
          refine zz ?_
          try (apply Or.inr; refine zK ?_)
          refine zz ?_
          try (apply Or.inr; refine zK ?_)
          replace h := evR h; cases h
          refine zz ?_
          first | exact ⟨trivial, [], [], ⟨rfl, trivial⟩, _, rfl, _, rfl, And.intro rfl rfl⟩ | exact ⟨[], [], ⟨rfl, trivial⟩, _, rfl, _, rfl, And.intro rfl rfl⟩
        refine zz ?_
        try (apply Or.inl; refine zK ?_)
        have h_ := evO h; clear h; obtain ⟨t28, ht, h⟩ := h_
        refine zz ?_
        refine Exists.intro _ (And.intro (impl_in_ev (h := ht)) ?_)
        refine zz ?_
        try (apply Or.inl; refine zK ?_)
        refine zz ?_
        refine br (iP h) ?_ ?_ <;> (clear h; intro c h)
        rotate_left
        · refine zz ?_
          try (apply Or.inr; refine zK ?_)
          refine zz ?_
          try (apply Or.inr; refine zK ?_)
          refine zz ?_
          try (apply Or.inr; refine zK ?_)
          refine zz ?_
          try (apply Or.inr; refine zK ?_)
          refine zz ?_
          try (apply Or.inr; refine zK ?_)
          refine zz ?_
          try (apply Or.inr; refine zK ?_)
          refine zz ?_
          try (apply Or.inr; refine zK ?_)
          refine zz ?_
          try (apply Or.inr; refine zK ?_)
          refine zz ?_
          try (apply Or.inr; refine zK ?_)
          refine zz ?_
          try (apply Or.inr; refine zK ?_)
          refine zz ?_
          try (apply Or.inr; refine zK ?_)
          refine zz ?_
          try (apply Or.inr; refine zK ?_)
          refine zz ?_
          try (apply Or.inr; refine zK ?_)
          refine zz ?_
          try (apply Or.inr; refine zK ?_)
          refine zz ?_
          try (apply Or.inr; refine zK ?_)
          refine zz ?_
          try (apply Or.inr; refine zK ?_)
          refine zz ?_
          try (apply Or.inr; refine zK ?_)
          refine zz ?_
          try (apply Or.inr; refine zK ?_)
          refine zz ?_
          try (apply Or.inr; refine zK ?_)
          replace h := evR h; cases h
          refine zz ?_
          first | exact ⟨trivial, [], [], ⟨rfl, trivial⟩, _, rfl, _, rfl, And.intro rfl rfl⟩ | exact ⟨[], [], ⟨rfl, trivial⟩, _, rfl, _, rfl, And.intro rfl rfl⟩
        refine zz ?_
        try (apply Or.inl; refine zK ?_)
        refine zz ?_
        try (apply Or.inl; refine zK ?_)
        have h_ := gP h; clear h; obtain ⟨c, h⟩ := h_
        refine zz ?_
        try (apply Or.inl; refine zK ?_)
        refine zz ?_
        try (apply Or.inl; refine zK ?_)
        have h_ := evO h; clear h; obtain ⟨t35, ht, h⟩ := h_
        refine zz ?_
        refine Exists.intro _ (And.intro (impl_isE_ev (h := ht)) ?_)
        refine zz ?_
        try (apply Or.inl; refine zK ?_)
        refine zz ?_
        refine br (iP h) ?_ ?_ <;> (clear h; intro c h)
        rotate_left
        · refine zz ?_
          try (apply Or.inr; refine zK ?_)
          refine zz ?_
          try (apply Or.inr; refine zK ?_)
          refine zz ?_
          try (apply Or.inr; refine zK ?_)
          refine zz ?_
          try (apply Or.inr; refine zK ?_)
          refine zz ?_
          try (apply Or.inr; refine zK ?_)
          refine zz ?_
          try (apply Or.inr; refine zK ?_)
          refine zz ?_
          try (apply Or.inr; refine zK ?_)
          refine zz ?_
          try (apply Or.inr; refine zK ?_)
          refine zz ?_
          try (apply Or.inr; refine zK ?_)
          refine zz ?_
          try (apply Or.inr; refine zK ?_)
          refine zz ?_
          try (apply Or.inr; refine zK ?_)
          refine zz ?_
          try (apply Or.inr; refine zK ?_)
          refine zz ?_
          try (apply Or.inr; refine zK ?_)
          replace h := evR h; cases h
          refine zz ?_
          first | exact ⟨trivial, [], [], ⟨rfl, trivial⟩, _, rfl, _, rfl, And.intro rfl rfl⟩ | exact ⟨[], [], ⟨rfl, trivial⟩, _, rfl, _, rfl, And.intro rfl rfl⟩
        refine zz ?_
        try (apply Or.inl; refine zK ?_)
        refine zz ?_
        try (apply Or.inl; refine zK ?_)
        have h_ := gP h; clear h; obtain ⟨c, h⟩ := h_
        refine zz ?_
        try (apply Or.inl; refine zK ?_)
        refine zz ?_
        try (apply Or.inl; refine zK ?_)
        have h_ := evA h; clear h; obtain ⟨t42, ht, h⟩ := h_
        refine zz ?_
        refine Exists.intro _ (And.intro (ih.1 _ (h := ht) (hk := zfuel)) ?_)
        refine zz ?_
        try (apply Or.inl; refine zK ?_)
        refine zz ?_
        refine br (iP h) ?_ ?_ <;> (clear h; intro c h)
        rotate_left
        · refine zz ?_
          try (apply Or.inr; refine zK ?_)
          refine zz ?_
          try (apply Or.inr; refine zK ?_)
          refine zz ?_
          try (apply Or.inr; refine zK ?_)
          refine zz ?_
          try (apply Or.inr; refine zK ?_)
          refine zz ?_
          try (apply Or.inr; refine zK ?_)
          refine zz ?_
          try (apply Or.inr; refine zK ?_)
          refine zz ?_
          try (apply Or.inr; refine zK ?_)
          replace h := evR h; cases h
          refine zz ?_
          first | exact ⟨trivial, [], [], ⟨rfl, trivial⟩, _, rfl, _, rfl, And.intro rfl rfl⟩ | exact ⟨[], [], ⟨rfl, trivial⟩, _, rfl, _, rfl, And.intro rfl rfl⟩
        refine zz ?_
        try (apply Or.inl; refine zK ?_)
        refine zz ?_
        try (apply Or.inl; refine zK ?_)
        refine zz ?_
        try (apply Or.inl; refine zK ?_)
        refine zz ?_
        try (apply Or.inl; refine zK ?_)
        have h_ := gP h; clear h; obtain ⟨c, h⟩ := h_
        have h_ := gP h; clear h; obtain ⟨c, h⟩ := h_
        refine zz ?_
        try (apply Or.inl; refine zK ?_)
        refine zz ?_
        try (apply Or.inl; refine zK ?_)
        have h_ := evA h; clear h; obtain ⟨t51, ht, h⟩ := h_
        refine zz ?_
        refine Exists.intro _ (And.intro (ih.1 _ (h := ht) (hk := zfuel)) ?_)
        refine zz ?_
        try (apply Or.inl; refine zK ?_)
        replace h := evR h; cases h
        refine zz ?_
        first | exact ⟨trivial, [], [], ⟨rfl, trivial⟩, _, rfl, _, rfl, And.intro rfl rfl⟩ | exact ⟨[], [], ⟨rfl, trivial⟩, _, rfl, _, rfl, And.intro rfl rfl⟩
      refine zz ?_
      refine br (iP h) ?_ ?_ <;> (clear h; intro c h)
      · have h_ := evO h; clear h; obtain ⟨t56, ht, h⟩ := h_
        refine zz ?_
        refine Exists.intro _ (And.intro (impl_plainNode_ev (h := ht)) ?_)
        refine zz ?_
        refine br (iP h) ?_ ?_ <;> (clear h; intro c h)
        rotate_left
        · refine zz ?_
          try (apply Or.inr; refine zK ?_)
          refine zz ?_
          try (apply Or.inr; refine zK ?_)
          refine zz ?_
          try (apply Or.inr; refine zK ?_)
          refine zz ?_
          try (apply Or.inr; refine zK ?_)
          refine zz ?_
          try (apply Or.inr; refine zK ?_)
          refine zz ?_
          try (apply Or.inr; refine zK ?_)
          refine zz ?_
          try (apply Or.inr; refine zK ?_)
          refine zz ?_
          try (apply Or.inr; refine zK ?_)
          refine zz ?_
          try (apply Or.inr; refine zK ?_)
          refine zz ?_
          try (apply Or.inr; refine zK ?_)
          refine zz ?_
          try (apply Or.inr; refine zK ?_)
          refine zz ?_
          try (apply Or.inr; refine zK ?_)
          refine zz ?_
          try (apply Or.inr; refine zK ?_)
          refine zz ?_
          try (apply Or.inr; refine zK ?_)
          replace h := evR h; cases h
          refine zz ?_
          first | exact ⟨trivial, [], [], ⟨rfl, trivial⟩, _, rfl, _, rfl, And.intro rfl rfl⟩ | exact ⟨[], [], ⟨rfl, trivial⟩, _, rfl, _, rfl, And.intro rfl rfl⟩
        refine zz ?_
        try (apply Or.inl; refine zK ?_)
        refine zz ?_
        try (apply Or.inl; refine zK ?_)
        refine zz ?_
        refine br (iP h) ?_ ?_ <;> (clear h; intro c h)
        rotate_left
        · refine zz ?_
          try (apply Or.inr; refine zK ?_)
          refine zz ?_
          try (apply Or.inr; refine zK ?_)
          refine zz ?_
          try (apply Or.inr; refine zK ?_)
          refine zz ?_
          try (apply Or.inr; refine zK ?_)
          refine zz ?_
          try (apply Or.inr; refine zK ?_)
          refine zz ?_
          try (apply Or.inr; refine zK ?_)
          refine zz ?_
          try (apply Or.inr; refine zK ?_)
          refine zz ?_
          try (apply Or.inr; refine zK ?_)
          refine zz ?_
          try (apply Or.inr; refine zK ?_)
          refine zz ?_
          try (apply Or.inr; refine zK ?_)
          refine zz ?_
          try (apply Or.inr; refine zK ?_)
          replace h := evR h; cases h
          refine zz ?_
          first | exact ⟨trivial, [], [], ⟨rfl, trivial⟩, _, rfl, _, rfl, And.intro rfl rfl⟩ | exact ⟨[], [], ⟨rfl, trivial⟩, _, rfl, _, rfl, And.intro rfl rfl⟩
        refine zz ?_
        try (apply Or.inl; refine zK ?_)
        refine zz ?_
        try (apply Or.inl; refine zK ?_)
        have h_ := gP h; clear h; obtain ⟨c, h⟩ := h_
        refine zz ?_
        try (apply Or.inl; refine zK ?_)
        refine zz ?_
        try (apply Or.inl; refine zK ?_)
        have h_ := evO h; clear h; obtain ⟨t66, ht, h⟩ := h_
        refine zz ?_
        refine Exists.intro _ (And.intro (impl_isE_ev (h := ht)) ?_)
        refine zz ?_
        try (apply Or.inl; refine zK ?_)
        refine zz ?_
        refine br (iP h) ?_ ?_ <;> (clear h; intro c h)
        rotate_left
        · refine zz ?_
          try (apply Or.inr; refine zK ?_)
          refine zz ?_
          try (apply Or.inr; refine zK ?_)
          refine zz ?_
          try (apply Or.inr; refine zK ?_)
          refine zz ?_
          try (apply Or.inr; refine zK ?_)
          refine zz ?_
          try (apply Or.inr; refine zK ?_)
          replace h := evR h; cases h
          refine zz ?_
          first | exact ⟨trivial, [], [], ⟨rfl, trivial⟩, _, rfl, _, rfl, And.intro rfl rfl⟩ | exact ⟨[], [], ⟨rfl, trivial⟩, _, rfl, _, rfl, And.intro rfl rfl⟩
        refine zz ?_
        try (apply Or.inl; refine zK ?_)
        refine zz ?_
        try (apply Or.inl; refine zK ?_)
        have h_ := gP h; clear h; obtain ⟨c, h⟩ := h_
        refine zz ?_
        try (apply Or.inl; refine zK ?_)
        refine zz ?_
        try (apply Or.inl; refine zK ?_)
        have h_ := evA h; clear h; obtain ⟨t73, ht, h⟩ := h_
        refine zz ?_
        refine Exists.intro _ (And.intro (ih.1 _ (h := ht) (hk := zfuel)) ?_)
        refine zz ?_
        try (apply Or.inl; refine zK ?_)
        replace h := evR h; cases h
        refine zz ?_
        first | exact ⟨trivial, [], [], ⟨rfl, trivial⟩, _, rfl, _, rfl, And.intro rfl rfl⟩ | exact ⟨[], [], ⟨rfl, trivial⟩, _, rfl, _, rfl, And.intro rfl rfl⟩
      refine zz ?_
      refine br (iP h) ?_ ?_ <;> (clear h; intro c h)
      · have h_ := evO h; clear h; obtain ⟨t78, ht, h⟩ := h_
        refine zz ?_
        refine Exists.intro _ (And.intro (impl_plainNode_ev (h := ht)) ?_)
        refine zz ?_
        refine br (iP h) ?_ ?_ <;> (clear h; intro c h)
        · refine zz ?_
          try (apply Or.inl; refine zK ?_)
          refine zz ?_
          try (apply Or.inl; refine zK ?_)
          replace h := evR h; cases h
          refine zz ?_
          first | exact ⟨trivial, [], [], ⟨rfl, trivial⟩, _, rfl, _, rfl, And.intro rfl rfl⟩ | exact ⟨[], [], ⟨rfl, trivial⟩, _, rfl, _, rfl, And.intro rfl rfl⟩
        refine zz ?_
        try (apply Or.inr; refine zK ?_)
        refine zz ?_
        try (apply Or.inr; refine zK ?_)
        replace h := evR h; cases h
        refine zz ?_
        first | exact ⟨trivial, [], [], ⟨rfl, trivial⟩, _, rfl, _, rfl, And.intro rfl rfl⟩ | exact ⟨[], [], ⟨rfl, trivial⟩, _, rfl, _, rfl, And.intro rfl rfl⟩
      refine zz ?_
      refine br (iP h) ?_ ?_ <;> (clear h; intro c h)
      rotate_left
      · refine zz ?_
        refine br (iP h) ?_ ?_ <;> (clear h; intro c h)
        rotate_left
        · replace h := evR h; cases h
          refine zz ?_
          first | exact ⟨trivial, [], [], ⟨rfl, trivial⟩, _, rfl, _, rfl, And.intro rfl rfl⟩ | exact ⟨[], [], ⟨rfl, trivial⟩, _, rfl, _, rfl, And.intro rfl rfl⟩
        have h_ := evO h; clear h; obtain ⟨t107, ht, h⟩ := h_
        refine zz ?_
        refine Exists.intro _ (And.intro (impl_plainNode_ev (h := ht)) ?_)
        refine zz ?_
        refine br (iP h) ?_ ?_ <;> (clear h; intro c h)
        rotate_left
        · refine zz ?_
          try (apply Or.inr; refine zK ?_)
          refine zz ?_
          try (apply Or.inr; refine zK ?_)
          refine zz ?_
          try (apply Or.inr; refine zK ?_)
          refine zz ?_
          try (apply Or.inr; refine zK ?_)
          refine zz ?_
          try (apply Or.inr; refine zK ?_)
          refine zz ?_
          try (apply Or.inr; refine zK ?_)
          refine zz ?_
          try (apply Or.inr; refine zK ?_)
          refine zz ?_
          try (apply Or.inr; refine zK ?_)
          replace h := evR h; cases h
          refine zz ?_
          first | exact ⟨trivial, [], [], ⟨rfl, trivial⟩, _, rfl, _, rfl, And.intro rfl rfl⟩ | exact ⟨[], [], ⟨rfl, trivial⟩, _, rfl, _, rfl, And.intro rfl rfl⟩
        refine zz ?_
        try (apply Or.inl; refine zK ?_)
        refine zz ?_
        try (apply Or.inl; refine zK ?_)
        refine zz ?_
        refine br (iP h) ?_ ?_ <;> (clear h; intro c h)
        rotate_left
        · refine zz ?_
          try (apply Or.inr; refine zK ?_)
          refine zz ?_
          try (apply Or.inr; refine zK ?_)
          refine zz ?_
          try (apply Or.inr; refine zK ?_)
          refine zz ?_
          try (apply Or.inr; refine zK ?_)
          refine zz ?_
          try (apply Or.inr; refine zK ?_)
          replace h := evR h; cases h
          refine zz ?_
          first | exact ⟨trivial, [], [], ⟨rfl, trivial⟩, _, rfl, _, rfl, And.intro rfl rfl⟩ | exact ⟨[], [], ⟨rfl, trivial⟩, _, rfl, _, rfl, And.intro rfl rfl⟩
        refine zz ?_
        try (apply Or.inl; refine zK ?_)
        refine zz ?_
        try (apply Or.inl; refine zK ?_)
        have h_ := gP h; clear h; obtain ⟨c, h⟩ := h_
        refine zz ?_
        try (apply Or.inl; refine zK ?_)
        refine zz ?_
        try (apply Or.inl; refine zK ?_)
        have h_ := evO h; clear h; obtain ⟨t117, ht, h⟩ := h_
        refine zz ?_
        refine Exists.intro _ (And.intro (impl_isE_ev (h := ht)) ?_)
        refine zz ?_
        try (apply Or.inl; refine zK ?_)
        replace h := evR h; cases h
        refine zz ?_
        first | exact ⟨trivial, [], [], ⟨rfl, trivial⟩, _, rfl, _, rfl, And.intro rfl rfl⟩ | exact ⟨[], [], ⟨rfl, trivial⟩, _, rfl, _, rfl, And.intro rfl rfl⟩
      refine zz ?_
      refine br (iP h) ?_ ?_ <;> (clear h; intro c h)
      rotate_left
      · refine zz ?_
        try (apply Or.inr; refine zK ?_)
        refine zz ?_
        try (apply Or.inr; refine zK ?_)
        refine zz ?_
        try (apply Or.inr; refine zK ?_)
        refine zz ?_
        try (apply Or.inr; refine zK ?_)
        refine zz ?_
        try (apply Or.inr; refine zK ?_)
        refine zz ?_
        try (apply Or.inr; refine zK ?_)
        refine zz ?_
        try (apply Or.inr; refine zK ?_)
        refine zz ?_
        try (apply Or.inr; refine zK ?_)
        refine zz ?_
        try (apply Or.inr; refine zK ?_)
        refine zz ?_
        try (apply Or.inr; refine zK ?_)
        refine zz ?_
        try (apply Or.inr; refine zK ?_)
        refine zz ?_
        try (apply Or.inr; refine zK ?_)
        replace h := evR h; cases h
        refine zz ?_
        first | exact ⟨trivial, [], [], ⟨rfl, trivial⟩, _, rfl, _, rfl, And.intro rfl rfl⟩ | exact ⟨[], [], ⟨rfl, trivial⟩, _, rfl, _, rfl, And.intro rfl rfl⟩
      refine zz ?_
      try (apply Or.inl; refine zK ?_)
      refine zz ?_
      try (apply Or.inl; refine zK ?_)
      have h_ := evO h; clear h; obtain ⟨t91, ht, h⟩ := h_
      refine zz ?_
      refine Exists.intro _ (And.intro (impl_isName_ev (h := ht)) ?_)
      refine zz ?_
      try (apply Or.inl; refine zK ?_)
      refine zz ?_
      refine br (iP h) ?_ ?_ <;> (clear h; intro c h)
      rotate_left
      · refine zz ?_
        try (apply Or.inr; refine zK ?_)
        refine zz ?_
        try (apply Or.inr; refine zK ?_)
        refine zz ?_
        try (apply Or.inr; refine zK ?_)
        refine zz ?_
        try (apply Or.inr; refine zK ?_)
        refine zz ?_
        try (apply Or.inr; refine zK ?_)
        refine zz ?_
        try (apply Or.inr; refine zK ?_)
        refine zz ?_
        try (apply Or.inr; refine zK ?_)
        refine zz ?_
        try (apply Or.inr; refine zK ?_)
        replace h := evR h; cases h
        refine zz ?_
        first | exact ⟨trivial, [], [], ⟨rfl, trivial⟩, _, rfl, _, rfl, And.intro rfl rfl⟩ | exact ⟨[], [], ⟨rfl, trivial⟩, _, rfl, _, rfl, And.intro rfl rfl⟩
      refine zz ?_
      try (apply Or.inl; refine zK ?_)
      refine zz ?_
      try (apply Or.inl; refine zK ?_)
      refine zz ?_
      refine br (iP h) ?_ ?_ <;> (clear h; intro c h)
      rotate_left
      · refine zz ?_
        try (apply Or.inr; refine zK ?_)
        refine zz ?_
        try (apply Or.inr; refine zK ?_)
        refine zz ?_
        try (apply Or.inr; refine zK ?_)
        refine zz ?_
        try (apply Or.inr; refine zK ?_)
        refine zz ?_
        try (apply Or.inr; refine zK ?_)
        replace h := evR h; cases h
        refine zz ?_
        first | exact ⟨trivial, [], [], ⟨rfl, trivial⟩, _, rfl, _, rfl, And.intro rfl rfl⟩ | exact ⟨[], [], ⟨rfl, trivial⟩, _, rfl, _, rfl, And.intro rfl rfl⟩
      refine zz ?_
      try (apply Or.inl; refine zK ?_)
      refine zz ?_
      try (apply Or.inl; refine zK ?_)
      have h_ := gP h; clear h; obtain ⟨c, h⟩ := h_
      refine zz ?_
      try (apply Or.inl; refine zK ?_)
      refine zz ?_
      try (apply Or.inl; refine zK ?_)
      have h_ := evO h; clear h; obtain ⟨t102, ht, h⟩ := h_
      refine zz ?_
      refine Exists.intro _ (And.intro (impl_isE_ev (h := ht)) ?_)
      refine zz ?_
      try (apply Or.inl; refine zK ?_)
      replace h := evR h; cases h
      refine zz ?_
      first | exact ⟨trivial, [], [], ⟨rfl, trivial⟩, _, rfl, _, rfl, And.intro rfl rfl⟩ | exact ⟨[], [], ⟨rfl, trivial⟩, _, rfl, _, rfl, And.intro rfl rfl⟩
theorem impl_isBlock_ev (a0_0 : Int) (a0_1 : Int) (a0_2 : ByteArray) (l0_3 : List S38) (r : Bool) (h : impl_isBlock.fv a0_0 a0_1 a0_2 l0_3 = some r) : CE (G m_) 32 [.val (.agg [.int .i64 a0_0, .int .i64 a0_1, .str a0_2, .row (l0_3.map e38)])] [] [.val (.bool r)] [] := by
  obtain ⟨k, h⟩ := lim_ex h
  exact (impl_isBlock_all (k + 1)).1 k _ _ _ _ _ h (Nat.lt_succ_self k)
theorem slices_ContainsFunc_impl_Node_impl_Node__impl_isBlock_1_ev (l0 : List S38) (r : Bool) (h : slices_ContainsFunc_impl_Node_impl_Node__impl_isBlock_1.fv l0 = some r) : CE (G m_) 57 [.val (.row (l0.map e38)), .fn 58 []] [] [.val (.bool r)] [] := by
  obtain ⟨k, h⟩ := lim_ex h
  exact (impl_isBlock_all (k + 1)).2.1 k _ _ h (Nat.lt_succ_self k)
theorem slices_IndexFunc_impl_Node_impl_Node__impl_isBlock_1_ev (l0 : List S38) (r : Int) (h : slices_IndexFunc_impl_Node_impl_Node__impl_isBlock_1.fv l0 = some r) : CE (G m_) 77 [.val (.row (l0.map e38)), .fn 58 []] [] [.val (.int .i64 r)] [] := by
  obtain ⟨k, h⟩ := lim_ex h
  exact (impl_isBlock_all (k + 1)).2.2.1 k _ _ h (Nat.lt_succ_self k)
theorem impl_isBlock_1_ev (a0_0 : Int) (a0_1 : Int) (a0_2 : ByteArray) (l0_3 : List S38) (r : Bool) (h : impl_isBlock_1.fv a0_0 a0_1 a0_2 l0_3 = some r) : CE (G m_) 58 [.val (.agg [.int .i64 a0_0, .int .i64 a0_1, .str a0_2, .row (l0_3.map e38)])] [] [.val (.bool r)] [] := by
  obtain ⟨k, h⟩ := lim_ex h
  exact (impl_isBlock_all (k + 1)).2.2.2.1 k _ _ _ _ _ h (Nat.lt_succ_self k)
theorem impl_isStatement_ev (a0_0 : Int) (a0_1 : Int) (a0_2 : ByteArray) (l0_3 : List S38) (r : Bool) (h : impl_isStatement.fv a0_0 a0_1 a0_2 l0_3 = some r) : CE (G m_) 59 [.val (.agg [.int .i64 a0_0, .int .i64 a0_1, .str a0_2, .row (l0_3.map e38)])] [] [.val (.bool r)] [] := by
  obtain ⟨k, h⟩ := lim_ex h
  exact (impl_isBlock_all (k + 1)).2.2.2.2 k _ _ _ _ _ h (Nat.lt_succ_self k)
theorem impl_noNode_ev (a0_0 : Int) (a0_1 : Int) (a0_2 : ByteArray) (l0_3 : List S38) (r : Bool) (h : impl_noNode.f a0_0 a0_1 a0_2 l0_3 = some r) : CE (G m_) 33 [.val (.agg [.int .i64 a0_0, .int .i64 a0_1, .str a0_2, .row (l0_3.map e38)])] [] [.val (.bool r)] [] := by
  refine CE.mk ⟨Tryz.f33, _, rfl, rfl, ⟨by kernel_rfl, Nat.le_of_ble_eq_true rfl, Nat.le_of_ble_eq_true rfl⟩, ?_⟩
  rw [impl_noNode.f] at h
  refine zz ?_
  refine br (iteS h) ?_ ?_ <;> (clear h; intro c h)
  rotate_left
  · refine zz ?_
    try (apply Or.inr; refine zK ?_)
    refine zz ?_
    try (apply Or.inr; refine zK ?_)
    refine zz ?_
    try (apply Or.inr; refine zK ?_)
    refine zz ?_
    try (apply Or.inr; refine zK ?_)
    refine zz ?_
    try (apply Or.inr; refine zK ?_)
    refine zz ?_
    try (apply Or.inr; refine zK ?_)
    refine zz ?_
    try (apply Or.inr; refine zK ?_)
    cases h
    refine zz ?_
    first | exact ⟨trivial, [], [], ⟨rfl, trivial⟩, _, rfl, _, rfl, And.intro rfl rfl⟩ | exact ⟨[], [], ⟨rfl, trivial⟩, _, rfl, _, rfl, And.intro rfl rfl⟩
  refine zz ?_
  try (apply Or.inl; refine zK ?_)
  have h_ := oS h; clear h; obtain ⟨t8, ht, h⟩ := h_
  refine zz ?_
  refine Exists.intro _ (And.intro (impl_plainNode_ev (h := ht)) ?_)
  refine zz ?_
  try (apply Or.inl; refine zK ?_)
  refine zz ?_
  refine br (iteS h) ?_ ?_ <;> (clear h; intro c h)
  · refine zz ?_
    try (apply Or.inl; refine zK ?_)
    refine zz ?_
    try (apply Or.inl; refine zK ?_)
    refine zz ?_
    try (apply Or.inl; refine zK ?_)
    refine zz ?_
    try (apply Or.inl; refine zK ?_)
    cases h
    refine zz ?_
    first | exact ⟨trivial, [], [], ⟨rfl, trivial⟩, _, rfl, _, rfl, And.intro rfl rfl⟩ | exact ⟨[], [], ⟨rfl, trivial⟩, _, rfl, _, rfl, And.intro rfl rfl⟩
  refine zz ?_
  try (apply Or.inr; refine zK ?_)
  refine zz ?_
  try (apply Or.inr; refine zK ?_)
  refine zz ?_
  try (apply Or.inr; refine zK ?_)
  refine zz ?_
  try (apply Or.inr; refine zK ?_)
  cases h
  refine zz ?_
  first | exact ⟨trivial, [], [], ⟨rfl, trivial⟩, _, rfl, _, rfl, And.intro rfl rfl⟩ | exact ⟨[], [], ⟨rfl, trivial⟩, _, rfl, _, rfl, And.intro rfl rfl⟩
theorem impl_Tidy_1_ev (a0_0 : Int) (a0_1 : Int) (a0_2 : Int) (a0_3 : ByteArray) (l0_4 : List S38) (a0_5 : Int) (a0_6 : Int) (a0_7 : ByteArray) (l0_8 : List S38) (r : Bool) (h : impl_Tidy_1.fv a0_0 a0_1 a0_2 a0_3 l0_4 a0_5 a0_6 a0_7 l0_8 = some r) : CE (G m_) 30 [.val (.agg [.int .i64 a0_0, .int .i64 a0_1, .int .i64 a0_2, .str a0_3, .row (l0_4.map e38), .int .i64 a0_5, .int .i64 a0_6, .str a0_7, .row (l0_8.map e38)])] [] [.val (.bool r)] [] := by
  obtain ⟨k, h⟩ := lim_ex h
  refine CE.mk ⟨Tryz.f30, _, rfl, rfl, ⟨by kernel_rfl, Nat.le_of_ble_eq_true rfl, Nat.le_of_ble_eq_true rfl⟩, ?_⟩
  rcases k with _ | k
  · exact (run_zero h).elim
  rw [run_succ, impl_Tidy_1.B] at h
  refine zz ?_
  refine cutJ (n := 200001) [16] (fun fr hp => ∃ kq, kq ≤ k ∧ ∃ (x18 : Bool) (x16_0 : Int) (x16_1 : Int) (x16_2 : Int) (x16_3 : ByteArray) (x16_4 : List S38) (x16_5 : Int) (x16_6 : Int) (x16_7 : ByteArray) (x16_8 : List S38), run impl_Tidy_1.B kq (.j0 x18 x16_0 x16_1 x16_2 x16_3 x16_4 x16_5 x16_6 x16_7 x16_8) = some r ∧ (∃ fr0, fr = puts [(1, .one (.ptr 16 0)), (18, .one (.val (.bool x18)))] fr0) ∧ hp = (upd 16 (.box [.val (.int .i64 x16_0), .val (.int .i64 x16_1), .val (.int .i64 x16_2), .val (.str x16_3), .val (.row (x16_4.map e38)), .val (.int .i64 x16_5), .val (.int .i64 x16_6), .val (.str x16_7), .val (.row (x16_8.map e38))]) (fun _ => none))) ?_ ?_
  · have h_ := evO h; clear h; obtain ⟨t5, ht, h⟩ := h_
    refine zz ?_
    refine Exists.intro _ (And.intro (impl_Deep_ev (h := ht)) ?_)
    refine zz ?_
    refine brW (iP h) ?_ ?_ <;> (clear h; intro c h)
    rotate_left
    · refine zz ?_
      try (apply Or.inr; refine zK ?_)
      refine zz ?_
      try (apply Or.inr; refine zK ?_)
      refine zz ?_
      try (apply Or.inr; refine zK ?_)
      refine zz ?_
      try (apply Or.inl; refine zK ?_)
      refine zz ?_
      try (apply Or.inr; refine zK ?_)
      refine zz ?_
      try (apply Or.inr; refine zK ?_)
      refine zz ?_
      try (apply Or.inr; refine zK ?_)
      refine zz ?_
      try (apply Or.inr; refine zK ?_)
      refine zz ?_
      try (apply Or.inl; refine zK ?_)
      replace h := evT h
      refine zz ?_
      exact ⟨_, zfuel, _, _, _, _, _, _, _, _, _, _, h, leafFr [1, 18] (by kernel_rfl), by kernel_rfl⟩
    refine zz ?_
    try (apply Or.inl; refine zK ?_)
    refine zz ?_
    try (apply Or.inl; refine zK ?_)
    have h_ := evO h; clear h; obtain ⟨t10, ht, h⟩ := h_
    refine zz ?_
    refine Exists.intro _ (And.intro (impl_Deep_ev (h := ht)) ?_)
    refine zz ?_
    try (apply Or.inl; refine zK ?_)
    refine zz ?_
    try (apply Or.inr; refine zK ?_)
    refine zz ?_
    refine brW (iP h) ?_ ?_ <;> (clear h; intro c h)
    rotate_left
    · refine zz ?_
      try (apply Or.inr; refine zK ?_)
      refine zz ?_
      try (apply Or.inr; refine zK ?_)
      refine zz ?_
      try (apply Or.inr; refine zK ?_)
      refine zz ?_
      try (apply Or.inl; refine zK ?_)
      replace h := evT h
      refine zz ?_
      exact ⟨_, zfuel, _, _, _, _, _, _, _, _, _, _, h, leafFr [1, 18] (by kernel_rfl), by kernel_rfl⟩
    refine zz ?_
    try (apply Or.inl; refine zK ?_)
    refine zz ?_
    try (apply Or.inl; refine zK ?_)
    have h_ := evO h; clear h; obtain ⟨t16, ht, h⟩ := h_
    refine zz ?_
    refine Exists.intro _ (And.intro (impl_isBlock_ev (h := ht)) ?_)
    refine zz ?_
    try (apply Or.inl; refine zK ?_)
    refine zz ?_
    try (apply Or.inr; refine zK ?_)
    replace h := evT h
    refine zz ?_
    exact ⟨_, zfuel, _, _, _, _, _, _, _, _, _, _, h, leafFr [1, 18] (by kernel_rfl), by kernel_rfl⟩
  clear h; rintro _ _ ⟨k, hle, x18, x16_0, x16_1, x16_2, x16_3, x16_4, x16_5, x16_6, x16_7, x16_8, h, ⟨fr0, rfl⟩, rfl⟩
  rcases k with _ | k
  · exact (run_zero h).elim
  rw [run_succ, impl_Tidy_1.B] at h
  refine zz ?_
  refine br (iP h) ?_ ?_ <;> (clear h; intro c h)
  · replace h := evR h; cases h
    refine zz ?_
    first | exact ⟨trivial, [], [], ⟨rfl, trivial⟩, _, rfl, _, rfl, And.intro rfl rfl⟩ | exact ⟨[], [], ⟨rfl, trivial⟩, _, rfl, _, rfl, And.intro rfl rfl⟩
  refine zz ?_
  refine cutJ (n := 21) [16] (fun fr hp => ∃ kq, kq ≤ k ∧ ∃ (x20 : Int) (x21 : Bool) (x16_0 : Int) (x16_1 : Int) (x16_2 : Int) (x16_3 : ByteArray) (x16_4 : List S38) (x16_5 : Int) (x16_6 : Int) (x16_7 : ByteArray) (x16_8 : List S38), run impl_Tidy_1.B kq (.j1 x20 x21 x16_0 x16_1 x16_2 x16_3 x16_4 x16_5 x16_6 x16_7 x16_8) = some r ∧ (∃ fr0, fr = puts [(1, .one (.ptr 16 0)), (20, .one (.val (.int .i64 x20))), (21, .one (.val (.bool x21)))] fr0) ∧ hp = (upd 16 (.box [.val (.int .i64 x16_0), .val (.int .i64 x16_1), .val (.int .i64 x16_2), .val (.str x16_3), .val (.row (x16_4.map e38)), .val (.int .i64 x16_5), .val (.int .i64 x16_6), .val (.str x16_7), .val (.row (x16_8.map e38))]) (fun _ => none))) ?_ ?_
  · refine zz ?_
    refine br (iP h) ?_ ?_ <;> (clear h; intro c h)
    · replace h := evT h
      refine zz ?_
      exact ⟨_, zfuel, _, _, _, _, _, _, _, _, _, _, _, h, leafFr [1, 20, 21] (by kernel_rfl), by kernel_rfl⟩
    replace h := evT h
    refine zz ?_
    exact ⟨_, zfuel, _, _, _, _, _, _, _, _, _, _, _, h, leafFr [1, 20, 21] (by kernel_rfl), by kernel_rfl⟩
  clear h; rintro _ _ ⟨k, hle, x20, x21, x16_0, x16_1, x16_2, x16_3, x16_4, x16_5, x16_6, x16_7, x16_8, h, ⟨fr0, rfl⟩, rfl⟩
  rcases k with _ | k
  · exact (run_zero h).elim
  rw [run_succ, impl_Tidy_1.B] at h
  refine zz ?_
  refine br (iP h) ?_ ?_ <;> (clear h; intro c h)
  · have h_ := evO h; clear h; obtain ⟨t26, ht, h⟩ := h_
    refine zz ?_
    refine Exists.intro _ (And.intro (impl_noNode_ev (h := ht)) ?_)
    replace h := evR h; cases h
    refine zz ?_
    first | exact ⟨trivial, [], [], ⟨rfl, trivial⟩, _, rfl, _, rfl, And.intro rfl rfl⟩ | exact ⟨[], [], ⟨rfl, trivial⟩, _, rfl, _, rfl, And.intro rfl rfl⟩
  refine zz ?_
  refine br (iP h) ?_ ?_ <;> (clear h; intro c h)
  rotate_left
  · replace h := evR h; cases h
    refine zz ?_
    first | exact ⟨trivial, [], [], ⟨rfl, trivial⟩, _, rfl, _, rfl, And.intro rfl rfl⟩ | exact ⟨[], [], ⟨rfl, trivial⟩, _, rfl, _, rfl, And.intro rfl rfl⟩
  have h_ := evO h; clear h; obtain ⟨t32, ht, h⟩ := h_
  refine zz ?_
  refine Exists.intro _ (And.intro (impl_isE_ev (h := ht)) ?_)
  replace h := evR h; cases h
  refine zz ?_
  first | exact ⟨trivial, [], [], ⟨rfl, trivial⟩, _, rfl, _, rfl, And.intro rfl rfl⟩ | exact ⟨[], [], ⟨rfl, trivial⟩, _, rfl, _, rfl, And.intro rfl rfl⟩
theorem slices_IndexFunc_impl_Rule_impl_Rule__impl_Tidy_1_ev (l0 : List S40) (r : Int) (h : slices_IndexFunc_impl_Rule_impl_Rule__impl_Tidy_1.fv l0 = some r) : CE (G m_) 55 [.val (.row (l0.map e40)), .fn 30 []] [] [.val (.int .i64 r)] [] := by
  obtain ⟨k, h⟩ := lim_ex h
  refine CE.mk ⟨Tryz.f55, _, rfl, rfl, ⟨by kernel_rfl, Nat.le_of_ble_eq_true rfl, Nat.le_of_ble_eq_true rfl⟩, ?_⟩
  rcases k with _ | k
  · exact (run_zero h).elim
  rw [run_succ, slices_IndexFunc_impl_Rule_impl_Rule__impl_Tidy_1.B] at h
  replace h := evT h
  refine zz ?_
  refine loopJ [] (fun kq fr hp => ∃ (x0 : List S40) (x7 : Int) (x8 : Int), run slices_IndexFunc_impl_Rule_impl_Rule__impl_Tidy_1.B kq (.l0 x0 x7 x8) = some r ∧ (∃ fr0, fr = puts [(0, .one (.val (.row (x0.map e40)))), (1, .one (.fn 30 [])), (7, .one (.val (.int .i64 x7))), (8, .one (.val (.int .i64 x8)))] fr0) ∧ hp = (fun _ => none)) k ⟨_, zfuel, _, _, _, h, leafFr [0, 1, 7, 8] (by kernel_rfl), by kernel_rfl⟩ ?_
  clear h; rintro k hle _ _ ⟨x0, x7, x8, h, ⟨fr0, rfl⟩, rfl⟩
  rcases k with _ | k
  · exact (run_zero h).elim
  rw [run_succ, slices_IndexFunc_impl_Rule_impl_Rule__impl_Tidy_1.B] at h
  refine zz ?_
  refine br (iP h) ?_ ?_ <;> (clear h; intro c h)
  rotate_left
  · replace h := evR h; cases h
    refine zz ?_
    first | exact ⟨trivial, [], [], ⟨rfl, trivial⟩, _, rfl, _, rfl, And.intro rfl rfl⟩ | exact ⟨[], [], ⟨rfl, trivial⟩, _, rfl, _, rfl, And.intro rfl rfl⟩
  have h_ := gP h; clear h; obtain ⟨c, h⟩ := h_
  have h_ := gP h; clear h; obtain ⟨c, h⟩ := h_
  have h_ := evO h; clear h; obtain ⟨t16, ht, h⟩ := h_
  refine zz ?_
  refine Exists.intro _ (And.intro (impl_Tidy_1_ev (h := ht)) ?_)
  refine zz ?_
  refine br (iP h) ?_ ?_ <;> (clear h; intro c h)
  · replace h := evR h; cases h
    refine zz ?_
    first | exact ⟨trivial, [], [], ⟨rfl, trivial⟩, _, rfl, _, rfl, And.intro rfl rfl⟩ | exact ⟨[], [], ⟨rfl, trivial⟩, _, rfl, _, rfl, And.intro rfl rfl⟩
  replace h := evT h
  refine zz ?_
  exact ⟨_, zfuel, _, _, _, h, leafFr [0, 1, 7, 8] (by kernel_rfl), by kernel_rfl⟩
theorem slices_ContainsFunc_impl_Rule_impl_Rule__impl_Tidy_1_ev (l0 : List S40) (r : Bool) (h : slices_ContainsFunc_impl_Rule_impl_Rule__impl_Tidy_1.fv l0 = some r) : CE (G m_) 29 [.val (.row (l0.map e40)), .fn 30 []] [] [.val (.bool r)] [] := by
  refine CE.mk ⟨Tryz.f29, _, rfl, rfl, ⟨by kernel_rfl, Nat.le_of_ble_eq_true rfl, Nat.le_of_ble_eq_true rfl⟩, ?_⟩
  rw [slices_ContainsFunc_impl_Rule_impl_Rule__impl_Tidy_1.fv] at h
  have h_ := oS h; clear h; obtain ⟨t7, ht, h⟩ := h_
  refine zz ?_
  refine Exists.intro _ (And.intro (slices_IndexFunc_impl_Rule_impl_Rule__impl_Tidy_1_ev (h := ht)) ?_)
  cases h
  refine zz ?_
  first | exact ⟨trivial, [], [], ⟨rfl, trivial⟩, _, rfl, _, rfl, And.intro rfl rfl⟩ | exact ⟨[], [], ⟨rfl, trivial⟩, _, rfl, _, rfl, And.intro rfl rfl⟩
theorem impl_Tidy_ev (l0 : List S40) (r : Bool) (h : impl_Tidy.fv l0 = some r) : CE (G m_) 14 [.val (.row (l0.map e40))] [] [.val (.bool r)] [] := by
  refine CE.mk ⟨Tryz.f14, _, rfl, rfl, ⟨by kernel_rfl, Nat.le_of_ble_eq_true rfl, Nat.le_of_ble_eq_true rfl⟩, ?_⟩
  rw [impl_Tidy.fv] at h
  have h_ := oS h; clear h; obtain ⟨t4, ht, h⟩ := h_
  refine zz ?_
  refine Exists.intro _ (And.intro (slices_ContainsFunc_impl_Rule_impl_Rule__impl_Tidy_1_ev (h := ht)) ?_)
  cases h
  refine zz ?_
  first | exact ⟨trivial, [], [], ⟨rfl, trivial⟩, _, rfl, _, rfl, And.intro rfl rfl⟩ | exact ⟨[], [], ⟨rfl, trivial⟩, _, rfl, _, rfl, And.intro rfl rfl⟩
theorem impl_DecOk_ev (a0 : Int) (r : Bool) (h : impl_DecOk.f a0 = some r) : CE (G m_) 67 [.val (.int .i64 a0)] [] [.val (.bool r)] [] := by
  refine CE.mk ⟨Tryz.f67, _, rfl, rfl, ⟨by kernel_rfl, Nat.le_of_ble_eq_true rfl, Nat.le_of_ble_eq_true rfl⟩, ?_⟩
  rw [impl_DecOk.f] at h
  have h_ := oS h; clear h; obtain ⟨t4, ht, h⟩ := h_
  refine zz ?_
  refine Exists.intro _ (And.intro (impl_in_ev (h := ht)) ?_)
  cases h
  refine zz ?_
  first | exact ⟨trivial, [], [], ⟨rfl, trivial⟩, _, rfl, _, rfl, And.intro rfl rfl⟩ | exact ⟨[], [], ⟨rfl, trivial⟩, _, rfl, _, rfl, And.intro rfl rfl⟩
theorem impl_DecText_ev (a0 : Int) (r : ByteArray) (h : impl_DecText.fv a0 = some r) : CE (G m_) 35 [.val (.int .i64 a0)] [] [.val (.str r)] [] := by
  obtain ⟨k, h⟩ := lim_ex h
  refine CE.mk ⟨Tryz.f35, _, rfl, rfl, ⟨by kernel_rfl, Nat.le_of_ble_eq_true rfl, Nat.le_of_ble_eq_true rfl⟩, ?_⟩
  rcases k with _ | k
  · exact (run_zero h).elim
  rw [run_succ, impl_DecText.B] at h
  have h_ := evO h; clear h; obtain ⟨t7, ht, h⟩ := h_
  refine zz ?_
  refine Exists.intro _ (And.intro (impl_DecOk_ev (h := ht)) ?_)
  refine zz ?_
  refine brN (iP h) ?_ ?_ <;> (clear h; intro c h)
  · replace h := evR h; cases h
    refine zz ?_
    first | exact ⟨trivial, [], [], ⟨rfl, trivial⟩, _, rfl, _, rfl, And.intro rfl rfl⟩ | exact ⟨[], [], ⟨rfl, trivial⟩, _, rfl, _, rfl, And.intro rfl rfl⟩
  refine zz ?_
  refine cutJ (n := 10) [] (fun fr hp => ∃ kq, kq ≤ k ∧ ∃ (x0 : Int) (x3 : ByteArray), run impl_DecText.B kq (.j0 x0 x3) = some r ∧ (∃ fr0, fr = puts [(0, .one (.val (.int .i64 x0))), (3, .one (.val (.str x3)))] fr0) ∧ hp = (fun _ => none)) ?_ ?_
  · refine zz ?_
    refine br (iP h) ?_ ?_ <;> (clear h; intro c h)
    · replace h := evT h
      refine zz ?_
      exact ⟨_, zfuel, _, _, h, leafFr [0, 3] (by kernel_rfl), by kernel_rfl⟩
    replace h := evT h
    refine zz ?_
    exact ⟨_, zfuel, _, _, h, leafFr [0, 3] (by kernel_rfl), by kernel_rfl⟩
  clear h; rintro _ _ ⟨k, hle, x0, x3, h, ⟨fr0, rfl⟩, rfl⟩
  rcases k with _ | k
  · exact (run_zero h).elim
  rw [run_succ, impl_DecText.B] at h
  have h_ := evO h; clear h; obtain ⟨t16, ht, h⟩ := h_
  refine zz ?_
  refine Exists.intro _ (And.intro (orc68 (h := ht)) ?_)
  have h_ := gP h; clear h; obtain ⟨c, h⟩ := h_
  refine zz ?_
  refine br (iP h) ?_ ?_ <;> (clear h; intro c h)
  rotate_left
  · replace h := evR h; cases h
    refine zz ?_
    first | exact ⟨trivial, [], [], ⟨rfl, trivial⟩, _, rfl, _, rfl, And.intro rfl rfl⟩ | exact ⟨[], [], ⟨rfl, trivial⟩, _, rfl, _, rfl, And.intro rfl rfl⟩
  have h_ := evO h; clear h; obtain ⟨t25, ht, h⟩ := h_
  refine zz ?_
  refine Exists.intro _ (And.intro (orc68 (h := ht)) ?_)
  have h_ := gP h; clear h; obtain ⟨c, h⟩ := h_
  have h_ := evO h; clear h; obtain ⟨t27, ht, h⟩ := h_
  refine zz ?_
  refine Exists.intro _ (And.intro (orc69 (h := ht)) ?_)
  have h_ := gP h; clear h; obtain ⟨c, h⟩ := h_
  have h_ := gP h; clear h; obtain ⟨c, h⟩ := h_
  replace h := evR h; cases h
  refine zz ?_
  first | exact ⟨trivial, [], [], ⟨rfl, trivial⟩, _, rfl, _, rfl, And.intro rfl rfl⟩ | exact ⟨[], [], ⟨rfl, trivial⟩, _, rfl, _, rfl, And.intro rfl rfl⟩
theorem impl_quotedText_ev (a0 : ByteArray) (r : ByteArray) (h : impl_quotedText.fv a0 = some r) : CE (G m_) 36 [.val (.str a0)] [] [.val (.str r)] [] := by
  obtain ⟨k, h⟩ := lim_ex h
  refine CE.mk ⟨Tryz.f36, _, rfl, rfl, ⟨by kernel_rfl, Nat.le_of_ble_eq_true rfl, Nat.le_of_ble_eq_true rfl⟩, ?_⟩
  rcases k with _ | k
  · exact (run_zero h).elim
  rw [run_succ, impl_quotedText.B] at h
  refine zz ?_
  refine Exists.intro (List.map (VV.int .u8) ([34] : List Int)) (And.intro zrow ?_)
  replace h := evT h
  refine zz ?_
  refine loopJ [528] (fun kq fr hp => ∃ (x0 : ByteArray) (x3 : List Int) (x7 : Int) (x8 : Int) (g528 : Nat), run impl_quotedText.B kq (.l0 x0 x3 x7 x8) = some r ∧ (∃ fr0, fr = puts [(0, .one (.val (.str x0))), (3, .one (.ref 528 g528)), (7, .one (.val (.int .i64 x7))), (8, .one (.val (.int .i64 x8)))] fr0) ∧ hp = (upd 528 (.own 5 1 (x3.map (VV.int .u8)) g528 false) (fun _ => none))) k ⟨_, zfuel, _, _, _, _, 0, h, leafFr [0, 3, 7, 8] (by kernel_rfl), by kernel_rfl⟩ ?_
  clear h; rintro k hle _ _ ⟨x0, x3, x7, x8, g528, h, ⟨fr0, rfl⟩, rfl⟩
  rcases k with _ | k
  · exact (run_zero h).elim
  rw [run_succ, impl_quotedText.B] at h
  refine zz ?_
  refine br (iP h) ?_ ?_ <;> (clear h; intro c h)
  rotate_left
  · refine zz ?_
    refine Exists.intro (List.map (VV.int .u8) ([34] : List Int)) (And.intro zrow ?_)
    have h_ := gP h; clear h; obtain ⟨c, h⟩ := h_
    refine zz ?_
    refine Exists.intro (List.map (VV.int .u8) (x3 ++ [34])) (And.intro zrow ?_)
    replace h := evR h; cases h
    refine zz ?_
    first | exact ⟨trivial, [], [], ⟨rfl, trivial⟩, _, rfl, _, rfl, And.intro rfl rfl⟩ | exact ⟨[], [], ⟨rfl, trivial⟩, _, rfl, _, rfl, And.intro rfl rfl⟩
  refine zz ?_
  refine cutJ (n := 20) [528] (fun fr hp => ∃ kq, kq ≤ k ∧ ∃ (x0 : ByteArray) (x3 : List Int) (x4 : Int) (x7 : Int) (x8 : Int) (g528 : Nat), run impl_quotedText.B kq (.j0 x0 x3 x4 x7 x8) = some r ∧ (∃ fr0, fr = puts [(0, .one (.val (.str x0))), (3, .one (.ref 528 g528)), (4, .one (.val (.int .i64 x4))), (7, .one (.val (.int .i64 x7))), (8, .one (.val (.int .i64 x8)))] fr0) ∧ hp = (upd 528 (.own 5 1 (x3.map (VV.int .u8)) g528 false) (fun _ => none))) ?_ ?_
  · refine zz ?_
    refine cutJ (n := 200005) [528] (fun fr hp => ∃ kq, kq ≤ k ∧ ∃ (x0 : ByteArray) (x3 : List Int) (x4 : Int) (x7 : Int) (x8 : Int) (x20 : Bool) (g528 : Nat), run impl_quotedText.B kq (.j1 x0 x3 x4 x7 x8 x20) = some r ∧ (∃ fr0, fr = puts [(0, .one (.val (.str x0))), (3, .one (.ref 528 g528)), (4, .one (.val (.int .i64 x4))), (7, .one (.val (.int .i64 x7))), (8, .one (.val (.int .i64 x8))), (20, .one (.val (.bool x20)))] fr0) ∧ hp = (upd 528 (.own 5 1 (x3.map (VV.int .u8)) g528 false) (fun _ => none))) ?_ ?_
    · have h_ := gP h; clear h; obtain ⟨c, h⟩ := h_
      have h_ := gP h; clear h; obtain ⟨c, h⟩ := h_
      refine zz ?_
      refine brW (iP h) ?_ ?_ <;> (clear h; intro c h)
      · refine zz ?_
        try (apply Or.inl; refine zK ?_)
        refine zz ?_
        try (apply Or.inl; refine zK ?_)
        refine zz ?_
        try (apply Or.inl; refine zK ?_)
        refine zz ?_
        try (apply Or.inr; refine zK ?_)
        replace h := evT h
        refine zz ?_
        exact ⟨_, zfuel, _, _, _, _, _, _, g528, h, leafFr [0, 3, 4, 7, 8, 20] (by kernel_rfl), by kernel_rfl⟩
      refine zz ?_
      try (apply Or.inr; refine zK ?_)
      refine zz ?_
      try (apply Or.inr; refine zK ?_)
      refine zz ?_
      try (apply Or.inr; refine zK ?_)
      refine zz ?_
      try (apply Or.inl; refine zK ?_)
      replace h := evT h
      refine zz ?_
      exact ⟨_, zfuel, _, _, _, _, _, _, g528, h, leafFr [0, 3, 4, 7, 8, 20] (by kernel_rfl), by kernel_rfl⟩
    clear h; rintro _ _ ⟨k, hle, x0, x3, x4, x7, x8, x20, g528, h, ⟨fr0, rfl⟩, rfl⟩
    rcases k with _ | k
    · exact (run_zero h).elim
    rw [run_succ, impl_quotedText.B] at h
    refine zz ?_
    refine br (iP h) ?_ ?_ <;> (clear h; intro c h)
    rotate_left
    · replace h := evT h
      refine zz ?_
      exact ⟨_, zfuel, _, _, _, _, _, g528, h, leafFr [0, 3, 4, 7, 8] (by kernel_rfl), by kernel_rfl⟩
    refine zz ?_
    refine Exists.intro (List.map (VV.int .u8) ([92] : List Int)) (And.intro zrow ?_)
    have h_ := gP h; clear h; obtain ⟨c, h⟩ := h_
    refine zz ?_
    refine Exists.intro (List.map (VV.int .u8) (x3 ++ [92])) (And.intro zrow ?_)
    replace h := evT h
    refine zz ?_
    exact ⟨_, zfuel, _, _, _, _, _, (g528 + 1), h, leafFr [0, 3, 4, 7, 8] (by kernel_rfl), by kernel_rfl⟩
  clear h; rintro _ _ ⟨k, hle, x0, x3, x4, x7, x8, g528, h, ⟨fr0, rfl⟩, rfl⟩
  rcases k with _ | k
  · exact (run_zero h).elim
  rw [run_succ, impl_quotedText.B] at h
  have h_ := gP h; clear h; obtain ⟨c, h⟩ := h_
  have h_ := gP h; clear h; obtain ⟨c, h⟩ := h_
  refine zz ?_
  refine Exists.intro (List.map (VV.int .u8) ([(bt x0 x4)] : List Int)) (And.intro zrow ?_)
  have h_ := gP h; clear h; obtain ⟨c, h⟩ := h_
  refine zz ?_
  refine Exists.intro (List.map (VV.int .u8) (x3 ++ [(bt x0 x4)])) (And.intro zrow ?_)
  replace h := evT h
  refine zz ?_
  exact ⟨_, zfuel, _, _, _, _, (g528 + 1), h, leafFr [0, 3, 7, 8] (by kernel_rfl), by kernel_rfl⟩
theorem impl_signOf_ev (a0 : Int) (r : ByteArray) (h : impl_signOf.f a0 = some r) : CE (G m_) 39 [.val (.int .i64 a0)] [] [.val (.str r)] [] := by
  refine CE.mk ⟨Tryz.f39, _, rfl, rfl, ⟨by kernel_rfl, Nat.le_of_ble_eq_true rfl, Nat.le_of_ble_eq_true rfl⟩, ?_⟩
  rw [impl_signOf.f] at h
  refine zz ?_
  refine br (iteS h) ?_ ?_ <;> (clear h; intro c h)
  · cases h
    refine zz ?_
    first | exact ⟨trivial, [], [], ⟨rfl, trivial⟩, _, rfl, _, rfl, And.intro rfl rfl⟩ | exact ⟨[], [], ⟨rfl, trivial⟩, _, rfl, _, rfl, And.intro rfl rfl⟩
  refine zz ?_
  refine br (iteS h) ?_ ?_ <;> (clear h; intro c h)
  · cases h
    refine zz ?_
    first | exact ⟨trivial, [], [], ⟨rfl, trivial⟩, _, rfl, _, rfl, And.intro rfl rfl⟩ | exact ⟨[], [], ⟨rfl, trivial⟩, _, rfl, _, rfl, And.intro rfl rfl⟩
  refine zz ?_
  refine br (iteS h) ?_ ?_ <;> (clear h; intro c h)
  · cases h
    refine zz ?_
    first | exact ⟨trivial, [], [], ⟨rfl, trivial⟩, _, rfl, _, rfl, And.intro rfl rfl⟩ | exact ⟨[], [], ⟨rfl, trivial⟩, _, rfl, _, rfl, And.intro rfl rfl⟩
  refine zz ?_
  refine br (iteS h) ?_ ?_ <;> (clear h; intro c h)
  · cases h
    refine zz ?_
    first | exact ⟨trivial, [], [], ⟨rfl, trivial⟩, _, rfl, _, rfl, And.intro rfl rfl⟩ | exact ⟨[], [], ⟨rfl, trivial⟩, _, rfl, _, rfl, And.intro rfl rfl⟩
  refine zz ?_
  refine br (iteS h) ?_ ?_ <;> (clear h; intro c h)
  · cases h
    refine zz ?_
    first | exact ⟨trivial, [], [], ⟨rfl, trivial⟩, _, rfl, _, rfl, And.intro rfl rfl⟩ | exact ⟨[], [], ⟨rfl, trivial⟩, _, rfl, _, rfl, And.intro rfl rfl⟩
  refine zz ?_
  refine br (iteS h) ?_ ?_ <;> (clear h; intro c h)
  · cases h
    refine zz ?_
    first | exact ⟨trivial, [], [], ⟨rfl, trivial⟩, _, rfl, _, rfl, And.intro rfl rfl⟩ | exact ⟨[], [], ⟨rfl, trivial⟩, _, rfl, _, rfl, And.intro rfl rfl⟩
  refine zz ?_
  refine br (iteS h) ?_ ?_ <;> (clear h; intro c h)
  · cases h
    refine zz ?_
    first | exact ⟨trivial, [], [], ⟨rfl, trivial⟩, _, rfl, _, rfl, And.intro rfl rfl⟩ | exact ⟨[], [], ⟨rfl, trivial⟩, _, rfl, _, rfl, And.intro rfl rfl⟩
  refine zz ?_
  refine br (iteS h) ?_ ?_ <;> (clear h; intro c h)
  · cases h
    refine zz ?_
    first | exact ⟨trivial, [], [], ⟨rfl, trivial⟩, _, rfl, _, rfl, And.intro rfl rfl⟩ | exact ⟨[], [], ⟨rfl, trivial⟩, _, rfl, _, rfl, And.intro rfl rfl⟩
  refine zz ?_
  refine br (iteS h) ?_ ?_ <;> (clear h; intro c h)
  · cases h
    refine zz ?_
    first | exact ⟨trivial, [], [], ⟨rfl, trivial⟩, _, rfl, _, rfl, And.intro rfl rfl⟩ | exact ⟨[], [], ⟨rfl, trivial⟩, _, rfl, _, rfl, And.intro rfl rfl⟩
  refine zz ?_
  refine br (iteS h) ?_ ?_ <;> (clear h; intro c h)
  · cases h
    refine zz ?_
    first | exact ⟨trivial, [], [], ⟨rfl, trivial⟩, _, rfl, _, rfl, And.intro rfl rfl⟩ | exact ⟨[], [], ⟨rfl, trivial⟩, _, rfl, _, rfl, And.intro rfl rfl⟩
  refine zz ?_
  refine br (iteS h) ?_ ?_ <;> (clear h; intro c h)
  · cases h
    refine zz ?_
    first | exact ⟨trivial, [], [], ⟨rfl, trivial⟩, _, rfl, _, rfl, And.intro rfl rfl⟩ | exact ⟨[], [], ⟨rfl, trivial⟩, _, rfl, _, rfl, And.intro rfl rfl⟩
  refine zz ?_
  refine br (iteS h) ?_ ?_ <;> (clear h; intro c h)
  · cases h
    refine zz ?_
    first | exact ⟨trivial, [], [], ⟨rfl, trivial⟩, _, rfl, _, rfl, And.intro rfl rfl⟩ | exact ⟨[], [], ⟨rfl, trivial⟩, _, rfl, _, rfl, And.intro rfl rfl⟩
  refine zz ?_
  refine br (iteS h) ?_ ?_ <;> (clear h; intro c h)
  · cases h
    refine zz ?_
    first | exact ⟨trivial, [], [], ⟨rfl, trivial⟩, _, rfl, _, rfl, And.intro rfl rfl⟩ | exact ⟨[], [], ⟨rfl, trivial⟩, _, rfl, _, rfl, And.intro rfl rfl⟩
  refine zz ?_
  refine br (iteS h) ?_ ?_ <;> (clear h; intro c h)
  · cases h
    refine zz ?_
    first | exact ⟨trivial, [], [], ⟨rfl, trivial⟩, _, rfl, _, rfl, And.intro rfl rfl⟩ | exact ⟨[], [], ⟨rfl, trivial⟩, _, rfl, _, rfl, And.intro rfl rfl⟩
  refine zz ?_
  refine br (iteS h) ?_ ?_ <;> (clear h; intro c h)
  · cases h
    refine zz ?_
    first | exact ⟨trivial, [], [], ⟨rfl, trivial⟩, _, rfl, _, rfl, And.intro rfl rfl⟩ | exact ⟨[], [], ⟨rfl, trivial⟩, _, rfl, _, rfl, And.intro rfl rfl⟩
  refine zz ?_
  refine br (iteS h) ?_ ?_ <;> (clear h; intro c h)
  · cases h
    refine zz ?_
    first | exact ⟨trivial, [], [], ⟨rfl, trivial⟩, _, rfl, _, rfl, And.intro rfl rfl⟩ | exact ⟨[], [], ⟨rfl, trivial⟩, _, rfl, _, rfl, And.intro rfl rfl⟩
  cases h
  refine zz ?_
  first | exact ⟨trivial, [], [], ⟨rfl, trivial⟩, _, rfl, _, rfl, And.intro rfl rfl⟩ | exact ⟨[], [], ⟨rfl, trivial⟩, _, rfl, _, rfl, And.intro rfl rfl⟩
end Go.Proofs.YthgglepiopijjaaGreatDoor.TFnExactWrite
