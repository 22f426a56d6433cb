/- The walks of the functions that FnExactWrite reaches, through the abstract machine. -/
import Derived.Test.YthgglepiopijjaaGreatDoorAFnExactWriteh
import Derived.Test.YthgglepiopijjaaGreatDoorAFnExactWritex3
import Derived.Test.YthgglepiopijjaaGreatDoorFFnExactWrite
import Derived.Test.YthgglepiopijjaaGreatDoorProg
set_option maxHeartbeats 4000000
set_option maxRecDepth 100000
set_option linter.unusedVariables false
set_option linter.unusedSimpArgs false
namespace Go.Proofs.YthgglepiopijjaaGreatDoor.TFnExactWrite
open Go Go.RowKit Go.Proofs Go.Proofs.YthgglepiopijjaaGreatDoorW.AM Go.Proofs.YthgglepiopijjaaGreatDoor.QFnExactWrite Go.Proofs.YthgglepiopijjaaGreatDoorW.PrintWords Go.Proofs.YthgglepiopijjaaGreatDoorW.Pgs
variable {m_ : Int}
theorem impl_allEs_all : ∀ n, (∀ (k : Nat) (l0 : List S38) (r : Bool) (h : run impl_allEs.B k (.impl_allEs_f l0) = some r) (hk : k < n), CE (G m_) 66 [.val (.row (l0.map e38))] [] [.val (.bool r)] []) ∧ (∀ (k : Nat) (l0 : List S38) (r : Bool) (h : run impl_allEs.B k (.slices_ContainsFunc_impl_Node_impl_Node__impl_allEs_1_f l0) = some r) (hk : k < n), CE (G m_) 57 [.val (.row (l0.map e38)), .fn 82 []] [] [.val (.bool r)] []) ∧ (∀ (k : Nat) (l0 : List S38) (r : Int) (h : run impl_allEs.B k (.slices_IndexFunc_impl_Node_impl_Node__impl_allEs_1_f l0) = some r) (hk : k < n), CE (G m_) 77 [.val (.row (l0.map e38)), .fn 82 []] [] [.val (.int .i64 r)] []) ∧ (∀ (k : Nat) (a0_0 : Int) (a0_1 : Int) (a0_2 : ByteArray) (l0_3 : List S38) (r : Bool) (h : run impl_allEs.B k (.impl_allEs_1_f a0_0 a0_1 a0_2 l0_3) = some r) (hk : k < n), CE (G m_) 82 [.val (.agg [.int .i64 a0_0, .int .i64 a0_1, .str a0_2, .row (l0_3.map e38)])] [] [.val (.bool r)] []) ∧ (∀ (k : Nat) (a0_0 : Int) (a0_1 : Int) (a0_2 : ByteArray) (l0_3 : List S38) (r : Bool) (h : run impl_allEs.B k (.impl_isE_f a0_0 a0_1 a0_2 l0_3) = some r) (hk : k < n), CE (G m_) 34 [.val (.agg [.int .i64 a0_0, .int .i64 a0_1, .str a0_2, .row (l0_3.map e38)])] [] [.val (.bool r)] []) := by
  intro n
  induction n with
  | zero => exact ⟨by intros; omega, by intros; omega, by intros; omega, by intros; omega, by intros; omega⟩
  | succ n ih =>
    refine ⟨?_, ?_, ?_, ?_, ?_⟩
    · intro k l0 r h hk
      refine CE.mk ⟨Tryz.f66, _, rfl, rfl, ⟨by kernel_rfl, Nat.le_of_ble_eq_true rfl, Nat.le_of_ble_eq_true rfl⟩, ?_⟩
      rcases k with _ | k
      · exact (run_zero h).elim
      rw [run_succ, impl_allEs.B] at h
      have h_ := evA h; clear h; obtain ⟨t4, ht, h⟩ := h_
      refine zz ?_
      refine Exists.intro _ (And.intro (ih.2.1 _ (h := ht) (hk := zfuel)) ?_)
      replace h := evR h; cases h
      refine zz ?_
      first | exact ⟨trivial, [], [], ⟨rfl, trivial⟩, _, rfl, _, rfl, And.intro rfl rfl⟩ | exact ⟨[], [], ⟨rfl, trivial⟩, _, rfl, _, rfl, And.intro rfl rfl⟩
    · intro k l0 r h hk
      refine CE.mk ⟨Tryz.f57, _, rfl, rfl, ⟨by kernel_rfl, Nat.le_of_ble_eq_true rfl, Nat.le_of_ble_eq_true rfl⟩, ?_⟩
      rcases k with _ | k
      · exact (run_zero h).elim
      rw [run_succ, impl_allEs.B] at h
      have h_ := evA h; clear h; obtain ⟨t7, ht, h⟩ := h_
      refine zz ?_
      refine Exists.intro _ (And.intro (ih.2.2.1 _ (h := ht) (hk := zfuel)) ?_)
      replace h := evR h; cases h
      refine zz ?_
      first | exact ⟨trivial, [], [], ⟨rfl, trivial⟩, _, rfl, _, rfl, And.intro rfl rfl⟩ | exact ⟨[], [], ⟨rfl, trivial⟩, _, rfl, _, rfl, And.intro rfl rfl⟩
    · intro k l0 r h hk
      refine CE.mk ⟨Tryz.f77, _, rfl, rfl, ⟨by kernel_rfl, Nat.le_of_ble_eq_true rfl, Nat.le_of_ble_eq_true rfl⟩, ?_⟩
      rcases k with _ | k
      · exact (run_zero h).elim
      rw [run_succ, impl_allEs.B] at h
      replace h := evT h
      refine zz ?_
      refine loopJ [] (fun kq fr hp => ∃ (x0 : List S38) (x7 : Int) (x8 : Int), run impl_allEs.B kq (.slices_IndexFunc_impl_Node_impl_Node__impl_allEs_1_l0 x0 x7 x8) = some r ∧ (∃ fr0, fr = puts [(0, .one (.val (.row (x0.map e38)))), (1, .one (.fn 82 [])), (7, .one (.val (.int .i64 x7))), (8, .one (.val (.int .i64 x8)))] fr0) ∧ hp = (fun _ => none)) k ⟨_, zfuel, _, _, _, h, leafFr [0, 1, 7, 8] (by kernel_rfl), by kernel_rfl⟩ ?_
      clear h; rintro k hle _ _ ⟨x0, x7, x8, h, ⟨fr0, rfl⟩, rfl⟩
      rcases k with _ | k
      · exact (run_zero h).elim
      rw [run_succ, impl_allEs.B] at h
      refine zz ?_
      refine br (iP h) ?_ ?_ <;> (clear h; intro c h)
      rotate_left
      · replace h := evR h; cases h
        refine zz ?_
        first | exact ⟨trivial, [], [], ⟨rfl, trivial⟩, _, rfl, _, rfl, And.intro rfl rfl⟩ | exact ⟨[], [], ⟨rfl, trivial⟩, _, rfl, _, rfl, And.intro rfl rfl⟩
      have h_ := gP h; clear h; obtain ⟨c, h⟩ := h_
      have h_ := gP h; clear h; obtain ⟨c, h⟩ := h_
      have h_ := evA h; clear h; obtain ⟨t16, ht, h⟩ := h_
      refine zz ?_
      refine Exists.intro _ (And.intro (ih.2.2.2.1 _ (h := ht) (hk := zfuel)) ?_)
      refine zz ?_
      refine br (iP h) ?_ ?_ <;> (clear h; intro c h)
      · replace h := evR h; cases h
        refine zz ?_
        first | exact ⟨trivial, [], [], ⟨rfl, trivial⟩, _, rfl, _, rfl, And.intro rfl rfl⟩ | exact ⟨[], [], ⟨rfl, trivial⟩, _, rfl, _, rfl, And.intro rfl rfl⟩
      replace h := evT h
      refine zz ?_
      exact ⟨_, zfuel, _, _, _, h, leafFr [0, 1, 7, 8] (by kernel_rfl), by kernel_rfl⟩
    · intro k a0_0 a0_1 a0_2 l0_3 r h hk
      refine CE.mk ⟨Tryz.f82, _, rfl, rfl, ⟨by kernel_rfl, Nat.le_of_ble_eq_true rfl, Nat.le_of_ble_eq_true rfl⟩, ?_⟩
      rcases k with _ | k
      · exact (run_zero h).elim
      rw [run_succ, impl_allEs.B] at h
      have h_ := evA h; clear h; obtain ⟨t4, ht, h⟩ := h_
      refine zz ?_
      refine Exists.intro _ (And.intro (ih.2.2.2.2 _ (h := ht) (hk := zfuel)) ?_)
      replace h := evR h; cases h
      refine zz ?_
      first | exact ⟨trivial, [], [], ⟨rfl, trivial⟩, _, rfl, _, rfl, And.intro rfl rfl⟩ | exact ⟨[], [], ⟨rfl, trivial⟩, _, rfl, _, rfl, And.intro rfl rfl⟩
    · intro k a0_0 a0_1 a0_2 l0_3 r h hk
      refine CE.mk ⟨Tryz.f34, _, rfl, rfl, ⟨by kernel_rfl, Nat.le_of_ble_eq_true rfl, Nat.le_of_ble_eq_true rfl⟩, ?_⟩
      rcases k with _ | k
      · exact (run_zero h).elim
      rw [run_succ, impl_allEs.B] at h
      refine zz ?_
      refine br (iP h) ?_ ?_ <;> (clear h; intro c h)
      · have h_ := evO h; clear h; obtain ⟨t35, ht, h⟩ := h_
        refine zz ?_
        refine Exists.intro _ (And.intro (impl_in_ev (h := ht)) ?_)
        refine zz ?_
        refine br (iP h) ?_ ?_ <;> (clear h; intro c h)
        rotate_left
        · refine zz ?_
          try (apply Or.inr; refine zK ?_)
          refine zz ?_
          try (apply Or.inr; refine zK ?_)
          refine zz ?_
          try (apply Or.inr; refine zK ?_)
          refine zz ?_
          try (apply Or.inr; refine zK ?_)
          refine zz ?_
          try (apply Or.inr; refine zK ?_)
          refine zz ?_
          try (apply Or.inr; refine zK ?_)
          refine zz ?_
          try (apply Or.inr; refine zK ?_)
          refine zz ?_
          try (apply Or.inr; refine zK ?_)
          refine zz ?_
          try (apply Or.inr; refine zK ?_)
          refine zz ?_
          try (apply Or.inr; refine zK ?_)
          replace h := evR h; cases h
          refine zz ?_
          first | exact ⟨trivial, [], [], ⟨rfl, trivial⟩, _, rfl, _, rfl, And.intro rfl rfl⟩ | exact ⟨[], [], ⟨rfl, trivial⟩, _, rfl, _, rfl, And.intro rfl rfl⟩
        refine zz ?_
        try (apply Or.inl; refine zK ?_)
        refine zz ?_
        try (apply Or.inl; refine zK ?_)
        refine zz ?_
        try (apply Or.inl; refine zK ?_)
        refine zz ?_
        refine br (iP h) ?_ ?_ <;> (clear h; intro c h)
        rotate_left
        · refine zz ?_
          try (apply Or.inr; refine zK ?_)
          refine zz ?_
          try (apply Or.inr; refine zK ?_)
          refine zz ?_
          try (apply Or.inr; refine zK ?_)
          refine zz ?_
          try (apply Or.inr; refine zK ?_)
          refine zz ?_
          try (apply Or.inr; refine zK ?_)
          refine zz ?_
          try (apply Or.inr; refine zK ?_)
          replace h := evR h; cases h
          refine zz ?_
          first | exact ⟨trivial, [], [], ⟨rfl, trivial⟩, _, rfl, _, rfl, And.intro rfl rfl⟩ | exact ⟨[], [], ⟨rfl, trivial⟩, _, rfl, _, rfl, And.intro rfl rfl⟩
        refine zz ?_
        try (apply Or.inl; refine zK ?_)
        refine zz ?_
        try (apply Or.inl; refine zK ?_)
        refine zz ?_
        refine br (iP h) ?_ ?_ <;> (clear h; intro c h)
        rotate_left
        · refine zz ?_
          try (apply Or.inr; refine zK ?_)
          refine zz ?_
          try (apply Or.inr; refine zK ?_)
          refine zz ?_
          try (apply Or.inr; refine zK ?_)
          replace h := evR h; cases h
          refine zz ?_
          first | exact ⟨trivial, [], [], ⟨rfl, trivial⟩, _, rfl, _, rfl, And.intro rfl rfl⟩ | exact ⟨[], [], ⟨rfl, trivial⟩, _, rfl, _, rfl, And.intro rfl rfl⟩
        refine zz ?_
        try (apply Or.inl; refine zK ?_)
        refine zz ?_
        try (apply Or.inl; refine zK ?_)
        have h_ := evA h; clear h; obtain ⟨t160, ht, h⟩ := h_
        refine zz ?_
        refine Exists.intro _ (And.intro (ih.1 _ (h := ht) (hk := zfuel)) ?_)
        refine zz ?_
        try (apply Or.inl; refine zK ?_)
        replace h := evR h; cases h
        refine zz ?_
        first | exact ⟨trivial, [], [], ⟨rfl, trivial⟩, _, rfl, _, rfl, And.intro rfl rfl⟩ | exact ⟨[], [], ⟨rfl, trivial⟩, _, rfl, _, rfl, And.intro rfl rfl⟩
      refine zz ?_
      refine br (iP h) ?_ ?_ <;> (clear h; intro c h)
      · refine zz ?_
        refine br (iP h) ?_ ?_ <;> (clear h; intro c h)
        rotate_left
        · refine zz ?_
          try (apply Or.inr; refine zK ?_)
          refine zz ?_
          try (apply Or.inr; refine zK ?_)
          refine zz ?_
          try (apply Or.inr; refine zK ?_)
          refine zz ?_
          try (apply Or.inr; refine zK ?_)
          refine zz ?_
          try (apply Or.inr; refine zK ?_)
          refine zz ?_
          try (apply Or.inr; refine zK ?_)
          refine zz ?_
          try (apply Or.inr; refine zK ?_)
          refine zz ?_
          try (apply Or.inr; refine zK ?_)
          refine zz ?_
          try (apply Or.inr; refine zK ?_)
          refine zz ?_
          try (apply Or.inr; refine zK ?_)
          replace h := evR h; cases h
          refine zz ?_
          first | exact ⟨trivial, [], [], ⟨rfl, trivial⟩, _, rfl, _, rfl, And.intro rfl rfl⟩ | exact ⟨[], [], ⟨rfl, trivial⟩, _, rfl, _, rfl, And.intro rfl rfl⟩
        refine zz ?_
        try (apply Or.inl; refine zK ?_)
        refine zz ?_
        try (apply Or.inl; refine zK ?_)
        have h_ := evO h; clear h; obtain ⟨t53, ht, h⟩ := h_
        refine zz ?_
        refine Exists.intro _ (And.intro (impl_tokenText_ev (h := ht)) ?_)
        refine zz ?_
        try (apply Or.inl; refine zK ?_)
        refine zz ?_
        refine br (iP h) ?_ ?_ <;> (clear h; intro c h)
        rotate_left
        · refine zz ?_
          try (apply Or.inr; refine zK ?_)
          refine zz ?_
          try (apply Or.inr; refine zK ?_)
          refine zz ?_
          try (apply Or.inr; refine zK ?_)
          refine zz ?_
          try (apply Or.inr; refine zK ?_)
          refine zz ?_
          try (apply Or.inr; refine zK ?_)
          refine zz ?_
          try (apply Or.inr; refine zK ?_)
          replace h := evR h; cases h
          refine zz ?_
          first | exact ⟨trivial, [], [], ⟨rfl, trivial⟩, _, rfl, _, rfl, And.intro rfl rfl⟩ | exact ⟨[], [], ⟨rfl, trivial⟩, _, rfl, _, rfl, And.intro rfl rfl⟩
        refine zz ?_
        try (apply Or.inl; refine zK ?_)
        refine zz ?_
        try (apply Or.inl; refine zK ?_)
        refine zz ?_
        refine br (iP h) ?_ ?_ <;> (clear h; intro c h)
        rotate_left
        · refine zz ?_
          try (apply Or.inr; refine zK ?_)
          refine zz ?_
          try (apply Or.inr; refine zK ?_)
          refine zz ?_
          try (apply Or.inr; refine zK ?_)
          replace h := evR h; cases h
          refine zz ?_
          first | exact ⟨trivial, [], [], ⟨rfl, trivial⟩, _, rfl, _, rfl, And.intro rfl rfl⟩ | exact ⟨[], [], ⟨rfl, trivial⟩, _, rfl, _, rfl, And.intro rfl rfl⟩
        refine zz ?_
        try (apply Or.inl; refine zK ?_)
        refine zz ?_
        try (apply Or.inl; refine zK ?_)
        have h_ := evA h; clear h; obtain ⟨t160, ht, h⟩ := h_
        refine zz ?_
        refine Exists.intro _ (And.intro (ih.1 _ (h := ht) (hk := zfuel)) ?_)
        refine zz ?_
        try (apply Or.inl; refine zK ?_)
        replace h := evR h; cases h
        refine zz ?_
        first | exact ⟨trivial, [], [], ⟨rfl, trivial⟩, _, rfl, _, rfl, And.intro rfl rfl⟩ | exact ⟨[], [], ⟨rfl, trivial⟩, _, rfl, _, rfl, And.intro rfl rfl⟩
      refine zz ?_
      refine br (iP h) ?_ ?_ <;> (clear h; intro c h)
      · refine zz ?_
        refine br (iP h) ?_ ?_ <;> (clear h; intro c h)
        rotate_left
        · refine zz ?_
          try (apply Or.inr; refine zK ?_)
          refine zz ?_
          try (apply Or.inr; refine zK ?_)
          refine zz ?_
          try (apply Or.inr; refine zK ?_)
          refine zz ?_
          try (apply Or.inr; refine zK ?_)
          refine zz ?_
          try (apply Or.inr; refine zK ?_)
          refine zz ?_
          try (apply Or.inr; refine zK ?_)
          refine zz ?_
          try (apply Or.inr; refine zK ?_)
          refine zz ?_
          try (apply Or.inr; refine zK ?_)
          refine zz ?_
          try (apply Or.inr; refine zK ?_)
          refine zz ?_
          try (apply Or.inr; refine zK ?_)
          replace h := evR h; cases h
          refine zz ?_
          first | exact ⟨trivial, [], [], ⟨rfl, trivial⟩, _, rfl, _, rfl, And.intro rfl rfl⟩ | exact ⟨[], [], ⟨rfl, trivial⟩, _, rfl, _, rfl, And.intro rfl rfl⟩
        refine zz ?_
        try (apply Or.inl; refine zK ?_)
        refine zz ?_
        try (apply Or.inl; refine zK ?_)
        have h_ := evO h; clear h; obtain ⟨t67, ht, h⟩ := h_
        refine zz ?_
        refine Exists.intro _ (And.intro (impl_tokenRex_ev (h := ht)) ?_)
        refine zz ?_
        try (apply Or.inl; refine zK ?_)
        refine zz ?_
        refine br (iP h) ?_ ?_ <;> (clear h; intro c h)
        rotate_left
        · refine zz ?_
          try (apply Or.inr; refine zK ?_)
          refine zz ?_
          try (apply Or.inr; refine zK ?_)
          refine zz ?_
          try (apply Or.inr; refine zK ?_)
          refine zz ?_
          try (apply Or.inr; refine zK ?_)
          refine zz ?_
          try (apply Or.inr; refine zK ?_)
          refine zz ?_
          try (apply Or.inr; refine zK ?_)
          replace h := evR h; cases h
          refine zz ?_
          first | exact ⟨trivial, [], [], ⟨rfl, trivial⟩, _, rfl, _, rfl, And.intro rfl rfl⟩ | exact ⟨[], [], ⟨rfl, trivial⟩, _, rfl, _, rfl, And.intro rfl rfl⟩
        refine zz ?_
        try (apply Or.inl; refine zK ?_)
        refine zz ?_
        try (apply Or.inl; refine zK ?_)
        refine zz ?_
        refine br (iP h) ?_ ?_ <;> (clear h; intro c h)
        rotate_left
        · refine zz ?_
          try (apply Or.inr; refine zK ?_)
          refine zz ?_
          try (apply Or.inr; refine zK ?_)
          refine zz ?_
          try (apply Or.inr; refine zK ?_)
          replace h := evR h; cases h
          refine zz ?_
          first | exact ⟨trivial, [], [], ⟨rfl, trivial⟩, _, rfl, _, rfl, And.intro rfl rfl⟩ | exact ⟨[], [], ⟨rfl, trivial⟩, _, rfl, _, rfl, And.intro rfl rfl⟩
        refine zz ?_
        try (apply Or.inl; refine zK ?_)
        refine zz ?_
        try (apply Or.inl; refine zK ?_)
        have h_ := evA h; clear h; obtain ⟨t160, ht, h⟩ := h_
        refine zz ?_
        refine Exists.intro _ (And.intro (ih.1 _ (h := ht) (hk := zfuel)) ?_)
        refine zz ?_
        try (apply Or.inl; refine zK ?_)
        replace h := evR h; cases h
        refine zz ?_
        first | exact ⟨trivial, [], [], ⟨rfl, trivial⟩, _, rfl, _, rfl, And.intro rfl rfl⟩ | exact ⟨[], [], ⟨rfl, trivial⟩, _, rfl, _, rfl, And.intro rfl rfl⟩
      refine zz ?_
      refine br (iP h) ?_ ?_ <;> (clear h; intro c h)
      · refine zz ?_
        refine br (iP h) ?_ ?_ <;> (clear h; intro c h)
        rotate_left
        · refine zz ?_
          try (apply Or.inr; refine zK ?_)
          refine zz ?_
          try (apply Or.inr; refine zK ?_)
          refine zz ?_
          try (apply Or.inr; refine zK ?_)
          refine zz ?_
          try (apply Or.inr; refine zK ?_)
          refine zz ?_
          try (apply Or.inr; refine zK ?_)
          refine zz ?_
          try (apply Or.inr; refine zK ?_)
          refine zz ?_
          try (apply Or.inr; refine zK ?_)
          refine zz ?_
          try (apply Or.inr; refine zK ?_)
          refine zz ?_
          try (apply Or.inr; refine zK ?_)
          refine zz ?_
          try (apply Or.inr; refine zK ?_)
          replace h := evR h; cases h
          refine zz ?_
          first | exact ⟨trivial, [], [], ⟨rfl, trivial⟩, _, rfl, _, rfl, And.intro rfl rfl⟩ | exact ⟨[], [], ⟨rfl, trivial⟩, _, rfl, _, rfl, And.intro rfl rfl⟩
        refine zz ?_
        try (apply Or.inl; refine zK ?_)
        refine zz ?_
        try (apply Or.inl; refine zK ?_)
        have h_ := evO h; clear h; obtain ⟨t81, ht, h⟩ := h_
        refine zz ?_
        refine Exists.intro _ (And.intro (impl_isName_ev (h := ht)) ?_)
        refine zz ?_
        try (apply Or.inl; refine zK ?_)
        refine zz ?_
        refine br (iP h) ?_ ?_ <;> (clear h; intro c h)
        rotate_left
        · refine zz ?_
          try (apply Or.inr; refine zK ?_)
          refine zz ?_
          try (apply Or.inr; refine zK ?_)
          refine zz ?_
          try (apply Or.inr; refine zK ?_)
          refine zz ?_
          try (apply Or.inr; refine zK ?_)
          refine zz ?_
          try (apply Or.inr; refine zK ?_)
          refine zz ?_
          try (apply Or.inr; refine zK ?_)
          replace h := evR h; cases h
          refine zz ?_
          first | exact ⟨trivial, [], [], ⟨rfl, trivial⟩, _, rfl, _, rfl, And.intro rfl rfl⟩ | exact ⟨[], [], ⟨rfl, trivial⟩, _, rfl, _, rfl, And.intro rfl rfl⟩
        refine zz ?_
        try (apply Or.inl; refine zK ?_)
        refine zz ?_
        try (apply Or.inl; refine zK ?_)
        refine zz ?_
        refine br (iP h) ?_ ?_ <;> (clear h; intro c h)
        rotate_left
        · refine zz ?_
          try (apply Or.inr; refine zK ?_)
          refine zz ?_
          try (apply Or.inr; refine zK ?_)
          refine zz ?_
          try (apply Or.inr; refine zK ?_)
          replace h := evR h; cases h
          refine zz ?_
          first | exact ⟨trivial, [], [], ⟨rfl, trivial⟩, _, rfl, _, rfl, And.intro rfl rfl⟩ | exact ⟨[], [], ⟨rfl, trivial⟩, _, rfl, _, rfl, And.intro rfl rfl⟩
        refine zz ?_
        try (apply Or.inl; refine zK ?_)
        refine zz ?_
        try (apply Or.inl; refine zK ?_)
        have h_ := evA h; clear h; obtain ⟨t160, ht, h⟩ := h_
        refine zz ?_
        refine Exists.intro _ (And.intro (ih.1 _ (h := ht) (hk := zfuel)) ?_)
        refine zz ?_
        try (apply Or.inl; refine zK ?_)
        replace h := evR h; cases h
        refine zz ?_
        first | exact ⟨trivial, [], [], ⟨rfl, trivial⟩, _, rfl, _, rfl, And.intro rfl rfl⟩ | exact ⟨[], [], ⟨rfl, trivial⟩, _, rfl, _, rfl, And.intro rfl rfl⟩
      refine zz ?_
      refine br (iP h) ?_ ?_ <;> (clear h; intro c h)
      · refine zz ?_
        refine br (iP h) ?_ ?_ <;> (clear h; intro c h)
        rotate_left
        · refine zz ?_
          try (apply Or.inr; refine zK ?_)
          refine zz ?_
          try (apply Or.inr; refine zK ?_)
          refine zz ?_
          try (apply Or.inr; refine zK ?_)
          refine zz ?_
          try (apply Or.inr; refine zK ?_)
          refine zz ?_
          try (apply Or.inr; refine zK ?_)
          refine zz ?_
          try (apply Or.inr; refine zK ?_)
          refine zz ?_
          try (apply Or.inr; refine zK ?_)
          refine zz ?_
          try (apply Or.inr; refine zK ?_)
          refine zz ?_
          try (apply Or.inr; refine zK ?_)
          refine zz ?_
          try (apply Or.inr; refine zK ?_)
          replace h := evR h; cases h
          refine zz ?_
          first | exact ⟨trivial, [], [], ⟨rfl, trivial⟩, _, rfl, _, rfl, And.intro rfl rfl⟩ | exact ⟨[], [], ⟨rfl, trivial⟩, _, rfl, _, rfl, And.intro rfl rfl⟩
        refine zz ?_
        try (apply Or.inl; refine zK ?_)
        refine zz ?_
        try (apply Or.inl; refine zK ?_)
        have h_ := evO h; clear h; obtain ⟨t95, ht, h⟩ := h_
        refine zz ?_
        refine Exists.intro _ (And.intro (impl_isName_ev (h := ht)) ?_)
        refine zz ?_
        try (apply Or.inl; refine zK ?_)
        refine zz ?_
        refine br (iP h) ?_ ?_ <;> (clear h; intro c h)
        rotate_left
        · refine zz ?_
          try (apply Or.inr; refine zK ?_)
          refine zz ?_
          try (apply Or.inr; refine zK ?_)
          refine zz ?_
          try (apply Or.inr; refine zK ?_)
          refine zz ?_
          try (apply Or.inr; refine zK ?_)
          refine zz ?_
          try (apply Or.inr; refine zK ?_)
          refine zz ?_
          try (apply Or.inr; refine zK ?_)
          replace h := evR h; cases h
          refine zz ?_
          first | exact ⟨trivial, [], [], ⟨rfl, trivial⟩, _, rfl, _, rfl, And.intro rfl rfl⟩ | exact ⟨[], [], ⟨rfl, trivial⟩, _, rfl, _, rfl, And.intro rfl rfl⟩
        refine zz ?_
        try (apply Or.inl; refine zK ?_)
        refine zz ?_
        try (apply Or.inl; refine zK ?_)
        refine zz ?_
        refine br (iP h) ?_ ?_ <;> (clear h; intro c h)
        rotate_left
        · refine zz ?_
          try (apply Or.inr; refine zK ?_)
          refine zz ?_
          try (apply Or.inr; refine zK ?_)
          refine zz ?_
          try (apply Or.inr; refine zK ?_)
          replace h := evR h; cases h
          refine zz ?_
          first | exact ⟨trivial, [], [], ⟨rfl, trivial⟩, _, rfl, _, rfl, And.intro rfl rfl⟩ | exact ⟨[], [], ⟨rfl, trivial⟩, _, rfl, _, rfl, And.intro rfl rfl⟩
        refine zz ?_
        try (apply Or.inl; refine zK ?_)
        refine zz ?_
        try (apply Or.inl; refine zK ?_)
        have h_ := evA h; clear h; obtain ⟨t160, ht, h⟩ := h_
        refine zz ?_
        refine Exists.intro _ (And.intro (ih.1 _ (h := ht) (hk := zfuel)) ?_)
        refine zz ?_
        try (apply Or.inl; refine zK ?_)
        replace h := evR h; cases h
        refine zz ?_
        first | exact ⟨trivial, [], [], ⟨rfl, trivial⟩, _, rfl, _, rfl, And.intro rfl rfl⟩ | exact ⟨[], [], ⟨rfl, trivial⟩, _, rfl, _, rfl, And.intro rfl rfl⟩
      refine zz ?_
      refine cutJ (n := 101) [16] (fun fr hp => ∃ kq, kq ≤ k ∧ ∃ (x3 : Int) (x9 : Int) (x101 : Bool) (x16_0 : Int) (x16_1 : Int) (x16_2 : ByteArray) (x16_3 : List S38), run impl_allEs.B kq (.impl_isE_j0 x3 x9 x101 x16_0 x16_1 x16_2 x16_3) = some r ∧ (∃ fr0, fr = puts [(1, .one (.ptr 16 0)), (3, .one (.val (.int .i64 x3))), (9, .one (.val (.int .i64 x9))), (101, .one (.val (.bool x101)))] fr0) ∧ hp = (upd 16 (.box [.val (.int .i64 x16_0), .val (.int .i64 x16_1), .val (.str x16_2), .val (.row (x16_3.map e38))]) (fun _ => none))) ?_ ?_
      · refine zz ?_
        refine br (iP h) ?_ ?_ <;> (clear h; intro c h)
        · replace h := evT h
          refine zz ?_
          exact ⟨_, zfuel, _, _, _, _, _, _, _, h, leafFr [1, 3, 9, 101] (by kernel_rfl), by kernel_rfl⟩
        replace h := evT h
        refine zz ?_
        exact ⟨_, zfuel, _, _, _, _, _, _, _, h, leafFr [1, 3, 9, 101] (by kernel_rfl), by kernel_rfl⟩
      clear h; rintro _ _ ⟨k, hle, x3, x9, x101, x16_0, x16_1, x16_2, x16_3, h, ⟨fr0, rfl⟩, rfl⟩
      rcases k with _ | k
      · exact (run_zero h).elim
      rw [run_succ, impl_allEs.B] at h
      refine zz ?_
      refine br (iP h) ?_ ?_ <;> (clear h; intro c h)
      · have h_ := evO h; clear h; obtain ⟨t105, ht, h⟩ := h_
        refine zz ?_
        refine Exists.intro _ (And.intro (impl_plainNode_ev (h := ht)) ?_)
        refine zz ?_
        refine br (iP h) ?_ ?_ <;> (clear h; intro c h)
        rotate_left
        · refine zz ?_
          try (apply Or.inr; refine zK ?_)
          refine zz ?_
          try (apply Or.inr; refine zK ?_)
          refine zz ?_
          try (apply Or.inr; refine zK ?_)
          refine zz ?_
          try (apply Or.inr; refine zK ?_)
          refine zz ?_
          try (apply Or.inr; refine zK ?_)
          refine zz ?_
          try (apply Or.inr; refine zK ?_)
          replace h := evR h; cases h
          refine zz ?_
          first | exact ⟨trivial, [], [], ⟨rfl, trivial⟩, _, rfl, _, rfl, And.intro rfl rfl⟩ | exact ⟨[], [], ⟨rfl, trivial⟩, _, rfl, _, rfl, And.intro rfl rfl⟩
        refine zz ?_
        try (apply Or.inl; refine zK ?_)
        refine zz ?_
        try (apply Or.inl; refine zK ?_)
        refine zz ?_
        refine br (iP h) ?_ ?_ <;> (clear h; intro c h)
        rotate_left
        · refine zz ?_
          try (apply Or.inr; refine zK ?_)
          refine zz ?_
          try (apply Or.inr; refine zK ?_)
          refine zz ?_
          try (apply Or.inr; refine zK ?_)
          replace h := evR h; cases h
          refine zz ?_
          first | exact ⟨trivial, [], [], ⟨rfl, trivial⟩, _, rfl, _, rfl, And.intro rfl rfl⟩ | exact ⟨[], [], ⟨rfl, trivial⟩, _, rfl, _, rfl, And.intro rfl rfl⟩
        refine zz ?_
        try (apply Or.inl; refine zK ?_)
        refine zz ?_
        try (apply Or.inl; refine zK ?_)
        have h_ := evA h; clear h; obtain ⟨t160, ht, h⟩ := h_
        refine zz ?_
        refine Exists.intro _ (And.intro (ih.1 _ (h := ht) (hk := zfuel)) ?_)
        refine zz ?_
        try (apply Or.inl; refine zK ?_)
        replace h := evR h; cases h
        refine zz ?_
        first | exact ⟨trivial, [], [], ⟨rfl, trivial⟩, _, rfl, _, rfl, And.intro rfl rfl⟩ | exact ⟨[], [], ⟨rfl, trivial⟩, _, rfl, _, rfl, And.intro rfl rfl⟩
      refine zz ?_
      refine cutJ (n := 110) [16] (fun fr hp => ∃ kq, kq ≤ k ∧ ∃ (x3 : Int) (x9 : Int) (x110 : Bool) (x16_0 : Int) (x16_1 : Int) (x16_2 : ByteArray) (x16_3 : List S38), run impl_allEs.B kq (.impl_isE_j1 x3 x9 x110 x16_0 x16_1 x16_2 x16_3) = some r ∧ (∃ fr0, fr = puts [(1, .one (.ptr 16 0)), (3, .one (.val (.int .i64 x3))), (9, .one (.val (.int .i64 x9))), (110, .one (.val (.bool x110)))] fr0) ∧ hp = (upd 16 (.box [.val (.int .i64 x16_0), .val (.int .i64 x16_1), .val (.str x16_2), .val (.row (x16_3.map e38))]) (fun _ => none))) ?_ ?_
      · refine zz ?_
        refine br (iP h) ?_ ?_ <;> (clear h; intro c h)
        · replace h := evT h
          refine zz ?_
          exact ⟨_, zfuel, _, _, _, _, _, _, _, h, leafFr [1, 3, 9, 110] (by kernel_rfl), by kernel_rfl⟩
        refine zz ?_
        refine br (iP h) ?_ ?_ <;> (clear h; intro c h)
        · replace h := evT h
          refine zz ?_
          exact ⟨_, zfuel, _, _, _, _, _, _, _, h, leafFr [1, 3, 9, 110] (by kernel_rfl), by kernel_rfl⟩
        replace h := evT h
        refine zz ?_
        exact ⟨_, zfuel, _, _, _, _, _, _, _, h, leafFr [1, 3, 9, 110] (by kernel_rfl), by kernel_rfl⟩
      clear h; rintro _ _ ⟨k, hle, x3, x9, x110, x16_0, x16_1, x16_2, x16_3, h, ⟨fr0, rfl⟩, rfl⟩
      rcases k with _ | k
      · exact (run_zero h).elim
      rw [run_succ, impl_allEs.B] at h
      refine zz ?_
      refine br (iP h) ?_ ?_ <;> (clear h; intro c h)
      · have h_ := evO h; clear h; obtain ⟨t115, ht, h⟩ := h_
        refine zz ?_
        refine Exists.intro _ (And.intro (impl_plainNode_ev (h := ht)) ?_)
        refine zz ?_
        refine br (iP h) ?_ ?_ <;> (clear h; intro c h)
        rotate_left
        · refine zz ?_
          try (apply Or.inr; refine zK ?_)
          refine zz ?_
          try (apply Or.inr; refine zK ?_)
          refine zz ?_
          try (apply Or.inr; refine zK ?_)
          refine zz ?_
          try (apply Or.inr; refine zK ?_)
          refine zz ?_
          try (apply Or.inr; refine zK ?_)
          refine zz ?_
          try (apply Or.inr; refine zK ?_)
          replace h := evR h; cases h
          refine zz ?_
          first | exact ⟨trivial, [], [], ⟨rfl, trivial⟩, _, rfl, _, rfl, And.intro rfl rfl⟩ | exact ⟨[], [], ⟨rfl, trivial⟩, _, rfl, _, rfl, And.intro rfl rfl⟩
        refine zz ?_
        try (apply Or.inl; refine zK ?_)
        refine zz ?_
        try (apply Or.inl; refine zK ?_)
        refine zz ?_
        refine br (iP h) ?_ ?_ <;> (clear h; intro c h)
        rotate_left
        · refine zz ?_
          try (apply Or.inr; refine zK ?_)
          refine zz ?_
          try (apply Or.inr; refine zK ?_)
          refine zz ?_
          try (apply Or.inr; refine zK ?_)
          replace h := evR h; cases h
          refine zz ?_
          first | exact ⟨trivial, [], [], ⟨rfl, trivial⟩, _, rfl, _, rfl, And.intro rfl rfl⟩ | exact ⟨[], [], ⟨rfl, trivial⟩, _, rfl, _, rfl, And.intro rfl rfl⟩
        refine zz ?_
        try (apply Or.inl; refine zK ?_)
        refine zz ?_
        try (apply Or.inl; refine zK ?_)
        have h_ := evA h; clear h; obtain ⟨t160, ht, h⟩ := h_
        refine zz ?_
        refine Exists.intro _ (And.intro (ih.1 _ (h := ht) (hk := zfuel)) ?_)
        refine zz ?_
        try (apply Or.inl; refine zK ?_)
        replace h := evR h; cases h
        refine zz ?_
        first | exact ⟨trivial, [], [], ⟨rfl, trivial⟩, _, rfl, _, rfl, And.intro rfl rfl⟩ | exact ⟨[], [], ⟨rfl, trivial⟩, _, rfl, _, rfl, And.intro rfl rfl⟩
      refine zz ?_
      refine cutJ (n := 120) [16] (fun fr hp => ∃ kq, kq ≤ k ∧ ∃ (x3 : Int) (x9 : Int) (x120 : Bool) (x16_0 : Int) (x16_1 : Int) (x16_2 : ByteArray) (x16_3 : List S38), run impl_allEs.B kq (.impl_isE_j2 x3 x9 x120 x16_0 x16_1 x16_2 x16_3) = some r ∧ (∃ fr0, fr = puts [(1, .one (.ptr 16 0)), (3, .one (.val (.int .i64 x3))), (9, .one (.val (.int .i64 x9))), (120, .one (.val (.bool x120)))] fr0) ∧ hp = (upd 16 (.box [.val (.int .i64 x16_0), .val (.int .i64 x16_1), .val (.str x16_2), .val (.row (x16_3.map e38))]) (fun _ => none))) ?_ ?_
      · refine zz ?_
        refine br (iP h) ?_ ?_ <;> (clear h; intro c h)
        · replace h := evT h
          refine zz ?_
          exact ⟨_, zfuel, _, _, _, _, _, _, _, h, leafFr [1, 3, 9, 120] (by kernel_rfl), by kernel_rfl⟩
        replace h := evT h
        refine zz ?_
        exact ⟨_, zfuel, _, _, _, _, _, _, _, h, leafFr [1, 3, 9, 120] (by kernel_rfl), by kernel_rfl⟩
      clear h; rintro _ _ ⟨k, hle, x3, x9, x120, x16_0, x16_1, x16_2, x16_3, h, ⟨fr0, rfl⟩, rfl⟩
      rcases k with _ | k
      · exact (run_zero h).elim
      rw [run_succ, impl_allEs.B] at h
      refine zz ?_
      refine br (iP h) ?_ ?_ <;> (clear h; intro c h)
      · have h_ := evO h; clear h; obtain ⟨t124, ht, h⟩ := h_
        refine zz ?_
        refine Exists.intro _ (And.intro (impl_plainNode_ev (h := ht)) ?_)
        refine zz ?_
        refine br (iP h) ?_ ?_ <;> (clear h; intro c h)
        rotate_left
        · refine zz ?_
          try (apply Or.inr; refine zK ?_)
          refine zz ?_
          try (apply Or.inr; refine zK ?_)
          refine zz ?_
          try (apply Or.inr; refine zK ?_)
          refine zz ?_
          try (apply Or.inr; refine zK ?_)
          refine zz ?_
          try (apply Or.inr; refine zK ?_)
          refine zz ?_
          try (apply Or.inr; refine zK ?_)
          refine zz ?_
          try (apply Or.inr; refine zK ?_)
          refine zz ?_
          try (apply Or.inr; refine zK ?_)
          refine zz ?_
          try (apply Or.inr; refine zK ?_)
          refine zz ?_
          try (apply Or.inr; refine zK ?_)
          refine zz ?_
          try (apply Or.inr; refine zK ?_)
          refine zz ?_
          try (apply Or.inr; refine zK ?_)
          refine zz ?_
          try (apply Or.inr; refine zK ?_)
          refine zz ?_
          try (apply Or.inr; refine zK ?_)
          refine zz ?_
          try (apply Or.inr; refine zK ?_)
          replace h := evR h; cases h
          refine zz ?_
          first | exact ⟨trivial, [], [], ⟨rfl, trivial⟩, _, rfl, _, rfl, And.intro rfl rfl⟩ | exact ⟨[], [], ⟨rfl, trivial⟩, _, rfl, _, rfl, And.intro rfl rfl⟩
        refine zz ?_
        try (apply Or.inl; refine zK ?_)
        refine zz ?_
        try (apply Or.inl; refine zK ?_)
        refine zz ?_
        refine br (iP h) ?_ ?_ <;> (clear h; intro c h)
        rotate_left
        · refine zz ?_
          try (apply Or.inr; refine zK ?_)
          refine zz ?_
          try (apply Or.inr; refine zK ?_)
          refine zz ?_
          try (apply Or.inr; refine zK ?_)
          refine zz ?_
          try (apply Or.inr; refine zK ?_)
          refine zz ?_
          try (apply Or.inr; refine zK ?_)
          refine zz ?_
          try (apply Or.inr; refine zK ?_)
          refine zz ?_
          try (apply Or.inr; refine zK ?_)
          refine zz ?_
          try (apply Or.inr; refine zK ?_)
          refine zz ?_
          try (apply Or.inr; refine zK ?_)
          refine zz ?_
          try (apply Or.inr; refine zK ?_)
          refine zz ?_
          try (apply Or.inr; refine zK ?_)
          refine zz ?_
          try (apply Or.inr; refine zK ?_)
          replace h := evR h; cases h
          refine zz ?_
          first | exact ⟨trivial, [], [], ⟨rfl, trivial⟩, _, rfl, _, rfl, And.intro rfl rfl⟩ | exact ⟨[], [], ⟨rfl, trivial⟩, _, rfl, _, rfl, And.intro rfl rfl⟩
        refine zz ?_
        try (apply Or.inl; refine zK ?_)
        refine zz ?_
        try (apply Or.inl; refine zK ?_)
        have h_ := gP h; clear h; obtain ⟨c, h⟩ := h_
        refine zz ?_
        try (apply Or.inl; refine zK ?_)
        refine zz ?_
        try (apply Or.inl; refine zK ?_)
        refine zz ?_
        try (apply Or.inl; refine zK ?_)
        refine zz ?_
        try (apply Or.inl; refine zK ?_)
        refine zz ?_
        refine brW (iP h) ?_ ?_ <;> (clear h; intro c h)
        rotate_left
        · refine zz ?_
          try (apply Or.inr; refine zK ?_)
          refine zz ?_
          try (apply Or.inr; refine zK ?_)
          refine zz ?_
          try (apply Or.inr; refine zK ?_)
          refine zz ?_
          try (apply Or.inr; refine zK ?_)
          refine zz ?_
          try (apply Or.inr; refine zK ?_)
          refine zz ?_
          try (apply Or.inl; refine zK ?_)
          refine zz ?_
          try (apply Or.inl; refine zK ?_)
          refine zz ?_
          try (apply Or.inl; refine zK ?_)
          refine zz ?_
          try (apply Or.inl; refine zK ?_)
          refine zz ?_
          try (apply Or.inl; refine zK ?_)
          refine zz ?_
          try (apply Or.inl; refine zK ?_)
          have h_ := evA h; clear h; obtain ⟨t160, ht, h⟩ := h_
          refine zz ?_
          refine Exists.intro _ (And.intro (ih.1 _ (h := ht) (hk := zfuel)) ?_)
          refine zz ?_
          try (apply Or.inl; refine zK ?_)
          replace h := evR h; cases h
          refine zz ?_
          first | exact ⟨trivial, [], [], ⟨rfl, trivial⟩, _, rfl, _, rfl, And.intro rfl rfl⟩ | exact ⟨[], [], ⟨rfl, trivial⟩, _, rfl, _, rfl, And.intro rfl rfl⟩
        refine zz ?_
        try (apply Or.inl; refine zK ?_)
        refine zz ?_
        try (apply Or.inl; refine zK ?_)
        refine zz ?_
        try (apply Or.inl; refine zK ?_)
        refine zz ?_
        try (apply Or.inl; refine zK ?_)
        refine zz ?_
        try (apply Or.inl; refine zK ?_)
        refine zz ?_
        try (apply Or.inl; refine zK ?_)
        refine zz ?_
        try (apply Or.inr; refine zK ?_)
        refine zz ?_
        try (apply Or.inl; refine zK ?_)
        refine zz ?_
        refine br (iP h) ?_ ?_ <;> (clear h; intro c h)
        rotate_left
        · refine zz ?_
          try (apply Or.inr; refine zK ?_)
          refine zz ?_
          try (apply Or.inr; refine zK ?_)
          refine zz ?_
          try (apply Or.inr; refine zK ?_)
          replace h := evR h; cases h
          refine zz ?_
          first | exact ⟨trivial, [], [], ⟨rfl, trivial⟩, _, rfl, _, rfl, And.intro rfl rfl⟩ | exact ⟨[], [], ⟨rfl, trivial⟩, _, rfl, _, rfl, And.intro rfl rfl⟩
        refine zz ?_
        try (apply Or.inl; refine zK ?_)
        refine zz ?_
        try (apply Or.inl; refine zK ?_)
        have h_ := evA h; clear h; obtain ⟨t160, ht, h⟩ := h_
        refine zz ?_
        refine Exists.intro _ (And.intro (ih.1 _ (h := ht) (hk := zfuel)) ?_)
        refine zz ?_
        try (apply Or.inl; refine zK ?_)
        replace h := evR h; cases h
        refine zz ?_
        first | exact ⟨trivial, [], [], ⟨rfl, trivial⟩, _, rfl, _, rfl, And.intro rfl rfl⟩ | exact ⟨[], [], ⟨rfl, trivial⟩, _, rfl, _, rfl, And.intro rfl rfl⟩
      refine zz ?_
      refine br (iP h) ?_ ?_ <;> (clear h; intro c h)
      · refine zz ?_
        refine br (iP h) ?_ ?_ <;> (clear h; intro c h)
        rotate_left
        · refine zz ?_
          try (apply Or.inr; refine zK ?_)
          refine zz ?_
          try (apply Or.inr; refine zK ?_)
          refine zz ?_
          try (apply Or.inr; refine zK ?_)
          refine zz ?_
          try (apply Or.inr; refine zK ?_)
          refine zz ?_
          try (apply Or.inr; refine zK ?_)
          refine zz ?_
          try (apply Or.inr; refine zK ?_)
          refine zz ?_
          try (apply Or.inr; refine zK ?_)
          refine zz ?_
          try (apply Or.inr; refine zK ?_)
          replace h := evR h; cases h
          refine zz ?_
          first | exact ⟨trivial, [], [], ⟨rfl, trivial⟩, _, rfl, _, rfl, And.intro rfl rfl⟩ | exact ⟨[], [], ⟨rfl, trivial⟩, _, rfl, _, rfl, And.intro rfl rfl⟩
        have h_ := evO h; clear h; obtain ⟨t151, ht, h⟩ := h_
        refine zz ?_
        refine Exists.intro _ (And.intro (impl_calls_ev (h := ht)) ?_)
        refine zz ?_
        try (apply Or.inl; refine zK ?_)
        refine zz ?_
        try (apply Or.inl; refine zK ?_)
        refine zz ?_
        try (apply Or.inl; refine zK ?_)
        have h_ := evO h; clear h; obtain ⟨t154, ht, h⟩ := h_
        refine zz ?_
        refine Exists.intro _ (And.intro (slices_Contains_string_string_ev (h := ht)) ?_)
        refine zz ?_
        try (apply Or.inl; refine zK ?_)
        refine zz ?_
        refine br (iP h) ?_ ?_ <;> (clear h; intro c h)
        rotate_left
        · refine zz ?_
          try (apply Or.inr; refine zK ?_)
          refine zz ?_
          try (apply Or.inr; refine zK ?_)
          refine zz ?_
          try (apply Or.inr; refine zK ?_)
          replace h := evR h; cases h
          refine zz ?_
          first | exact ⟨trivial, [], [], ⟨rfl, trivial⟩, _, rfl, _, rfl, And.intro rfl rfl⟩ | exact ⟨[], [], ⟨rfl, trivial⟩, _, rfl, _, rfl, And.intro rfl rfl⟩
        refine zz ?_
        try (apply Or.inl; refine zK ?_)
        refine zz ?_
        try (apply Or.inl; refine zK ?_)
        have h_ := evA h; clear h; obtain ⟨t160, ht, h⟩ := h_
        refine zz ?_
        refine Exists.intro _ (And.intro (ih.1 _ (h := ht) (hk := zfuel)) ?_)
        refine zz ?_
        try (apply Or.inl; refine zK ?_)
        replace h := evR h; cases h
        refine zz ?_
        first | exact ⟨trivial, [], [], ⟨rfl, trivial⟩, _, rfl, _, rfl, And.intro rfl rfl⟩ | exact ⟨[], [], ⟨rfl, trivial⟩, _, rfl, _, rfl, And.intro rfl rfl⟩
      have h_ := evO h; clear h; obtain ⟨t12, ht, h⟩ := h_
      refine zz ?_
      refine Exists.intro _ (And.intro (impl_in_ev (h := ht)) ?_)
      refine zz ?_
      refine brW (iP h) ?_ ?_ <;> (clear h; intro c h)
      rotate_left
      · refine zz ?_
        try (apply Or.inr; refine zK ?_)
        refine zz ?_
        try (apply Or.inr; refine zK ?_)
        refine zz ?_
        try (apply Or.inl; refine zK ?_)
        refine zz ?_
        try (apply Or.inr; refine zK ?_)
        refine zz ?_
        try (apply Or.inr; refine zK ?_)
        refine zz ?_
        try (apply Or.inr; refine zK ?_)
        refine zz ?_
        try (apply Or.inl; refine zK ?_)
        refine zz ?_
        try (apply Or.inl; refine zK ?_)
        refine zz ?_
        try (apply Or.inl; refine zK ?_)
        have h_ := evO h; clear h; obtain ⟨t25, ht, h⟩ := h_
        refine zz ?_
        refine Exists.intro _ (And.intro (impl_plainNode_ev (h := ht)) ?_)
        refine zz ?_
        try (apply Or.inl; refine zK ?_)
        refine zz ?_
        refine br (iP h) ?_ ?_ <;> (clear h; intro c h)
        rotate_left
        · refine zz ?_
          try (apply Or.inr; refine zK ?_)
          refine zz ?_
          try (apply Or.inr; refine zK ?_)
          refine zz ?_
          try (apply Or.inr; refine zK ?_)
          refine zz ?_
          try (apply Or.inr; refine zK ?_)
          refine zz ?_
          try (apply Or.inr; refine zK ?_)
          refine zz ?_
          try (apply Or.inr; refine zK ?_)
          replace h := evR h; cases h
          refine zz ?_
          first | exact ⟨trivial, [], [], ⟨rfl, trivial⟩, _, rfl, _, rfl, And.intro rfl rfl⟩ | exact ⟨[], [], ⟨rfl, trivial⟩, _, rfl, _, rfl, And.intro rfl rfl⟩
        refine zz ?_
        try (apply Or.inl; refine zK ?_)
        refine zz ?_
        try (apply Or.inl; refine zK ?_)
        refine zz ?_
        refine br (iP h) ?_ ?_ <;> (clear h; intro c h)
        rotate_left
        · refine zz ?_
          try (apply Or.inr; refine zK ?_)
          refine zz ?_
          try (apply Or.inr; refine zK ?_)
          refine zz ?_
          try (apply Or.inr; refine zK ?_)
          replace h := evR h; cases h
          refine zz ?_
          first | exact ⟨trivial, [], [], ⟨rfl, trivial⟩, _, rfl, _, rfl, And.intro rfl rfl⟩ | exact ⟨[], [], ⟨rfl, trivial⟩, _, rfl, _, rfl, And.intro rfl rfl⟩
        refine zz ?_
        try (apply Or.inl; refine zK ?_)
        refine zz ?_
        try (apply Or.inl; refine zK ?_)
        have h_ := evA h; clear h; obtain ⟨t160, ht, h⟩ := h_
        refine zz ?_
        refine Exists.intro _ (And.intro (ih.1 _ (h := ht) (hk := zfuel)) ?_)
        refine zz ?_
        try (apply Or.inl; refine zK ?_)
        replace h := evR h; cases h
        refine zz ?_
        first | exact ⟨trivial, [], [], ⟨rfl, trivial⟩, _, rfl, _, rfl, And.intro rfl rfl⟩ | exact ⟨[], [], ⟨rfl, trivial⟩, _, rfl, _, rfl, And.intro rfl rfl⟩
      refine zz ?_
      try (apply Or.inl; refine zK ?_)
      refine zz ?_
      try (apply Or.inl; refine zK ?_)
      refine zz ?_
      try (apply Or.inr; refine zK ?_)
      refine zz ?_
      refine brW (iP h) ?_ ?_ <;> (clear h; intro c h)
      rotate_left
      · refine zz ?_
        try (apply Or.inr; refine zK ?_)
        refine zz ?_
        try (apply Or.inr; refine zK ?_)
        refine zz ?_
        try (apply Or.inl; refine zK ?_)
        refine zz ?_
        try (apply Or.inl; refine zK ?_)
        refine zz ?_
        try (apply Or.inl; refine zK ?_)
        have h_ := evO h; clear h; obtain ⟨t25, ht, h⟩ := h_
        refine zz ?_
        refine Exists.intro _ (And.intro (impl_plainNode_ev (h := ht)) ?_)
        refine zz ?_
        try (apply Or.inl; refine zK ?_)
        refine zz ?_
        refine br (iP h) ?_ ?_ <;> (clear h; intro c h)
        rotate_left
        · refine zz ?_
          try (apply Or.inr; refine zK ?_)
          refine zz ?_
          try (apply Or.inr; refine zK ?_)
          refine zz ?_
          try (apply Or.inr; refine zK ?_)
          refine zz ?_
          try (apply Or.inr; refine zK ?_)
          refine zz ?_
          try (apply Or.inr; refine zK ?_)
          refine zz ?_
          try (apply Or.inr; refine zK ?_)
          replace h := evR h; cases h
          refine zz ?_
          first | exact ⟨trivial, [], [], ⟨rfl, trivial⟩, _, rfl, _, rfl, And.intro rfl rfl⟩ | exact ⟨[], [], ⟨rfl, trivial⟩, _, rfl, _, rfl, And.intro rfl rfl⟩
        refine zz ?_
        try (apply Or.inl; refine zK ?_)
        refine zz ?_
        try (apply Or.inl; refine zK ?_)
        refine zz ?_
        refine br (iP h) ?_ ?_ <;> (clear h; intro c h)
        rotate_left
        · refine zz ?_
          try (apply Or.inr; refine zK ?_)
          refine zz ?_
          try (apply Or.inr; refine zK ?_)
          refine zz ?_
          try (apply Or.inr; refine zK ?_)
          replace h := evR h; cases h
          refine zz ?_
          first | exact ⟨trivial, [], [], ⟨rfl, trivial⟩, _, rfl, _, rfl, And.intro rfl rfl⟩ | exact ⟨[], [], ⟨rfl, trivial⟩, _, rfl, _, rfl, And.intro rfl rfl⟩
        refine zz ?_
        try (apply Or.inl; refine zK ?_)
        refine zz ?_
        try (apply Or.inl; refine zK ?_)
        have h_ := evA h; clear h; obtain ⟨t160, ht, h⟩ := h_
        refine zz ?_
        refine Exists.intro _ (And.intro (ih.1 _ (h := ht) (hk := zfuel)) ?_)
        refine zz ?_
        try (apply Or.inl; refine zK ?_)
        replace h := evR h; cases h
        refine zz ?_
        first | exact ⟨trivial, [], [], ⟨rfl, trivial⟩, _, rfl, _, rfl, And.intro rfl rfl⟩ | exact ⟨[], [], ⟨rfl, trivial⟩, _, rfl, _, rfl, And.intro rfl rfl⟩
      refine zz ?_
      try (apply Or.inl; refine zK ?_)
      refine zz ?_
      try (apply Or.inl; refine zK ?_)
      refine zz ?_
      try (apply Or.inr; refine zK ?_)
      refine zz ?_
      refine br (iP h) ?_ ?_ <;> (clear h; intro c h)
      rotate_left
      · refine zz ?_
        try (apply Or.inr; refine zK ?_)
        refine zz ?_
        try (apply Or.inr; refine zK ?_)
        refine zz ?_
        try (apply Or.inr; refine zK ?_)
        refine zz ?_
        try (apply Or.inr; refine zK ?_)
        refine zz ?_
        try (apply Or.inr; refine zK ?_)
        refine zz ?_
        try (apply Or.inr; refine zK ?_)
        refine zz ?_
        try (apply Or.inr; refine zK ?_)
        refine zz ?_
        try (apply Or.inr; refine zK ?_)
        refine zz ?_
        try (apply Or.inr; refine zK ?_)
        replace h := evR h; cases h
        refine zz ?_
        first | exact ⟨trivial, [], [], ⟨rfl, trivial⟩, _, rfl, _, rfl, And.intro rfl rfl⟩ | exact ⟨[], [], ⟨rfl, trivial⟩, _, rfl, _, rfl, And.intro rfl rfl⟩
      refine zz ?_
      try (apply Or.inl; refine zK ?_)
      have h_ := evO h; clear h; obtain ⟨t25, ht, h⟩ := h_
      refine zz ?_
      refine Exists.intro _ (And.intro (impl_plainNode_ev (h := ht)) ?_)
      refine zz ?_
      try (apply Or.inl; refine zK ?_)
      refine zz ?_
      refine br (iP h) ?_ ?_ <;> (clear h; intro c h)
      rotate_left
      · refine zz ?_
        try (apply Or.inr; refine zK ?_)
        refine zz ?_
        try (apply Or.inr; refine zK ?_)
        refine zz ?_
        try (apply Or.inr; refine zK ?_)
        refine zz ?_
        try (apply Or.inr; refine zK ?_)
        refine zz ?_
        try (apply Or.inr; refine zK ?_)
        refine zz ?_
        try (apply Or.inr; refine zK ?_)
        replace h := evR h; cases h
        refine zz ?_
        first | exact ⟨trivial, [], [], ⟨rfl, trivial⟩, _, rfl, _, rfl, And.intro rfl rfl⟩ | exact ⟨[], [], ⟨rfl, trivial⟩, _, rfl, _, rfl, And.intro rfl rfl⟩
      refine zz ?_
      try (apply Or.inl; refine zK ?_)
      refine zz ?_
      try (apply Or.inl; refine zK ?_)
      refine zz ?_
      refine br (iP h) ?_ ?_ <;> (clear h; intro c h)
      rotate_left
      · refine zz ?_
        try (apply Or.inr; refine zK ?_)
        refine zz ?_
        try (apply Or.inr; refine zK ?_)
        refine zz ?_
        try (apply Or.inr; refine zK ?_)
        replace h := evR h; cases h
        refine zz ?_
        first | exact ⟨trivial, [], [], ⟨rfl, trivial⟩, _, rfl, _, rfl, And.intro rfl rfl⟩ | exact ⟨[], [], ⟨rfl, trivial⟩, _, rfl, _, rfl, And.intro rfl rfl⟩
      refine zz ?_
      try (apply Or.inl; refine zK ?_)
      refine zz ?_
      try (apply Or.inl; refine zK ?_)
      have h_ := evA h; clear h; obtain ⟨t160, ht, h⟩ := h_
      refine zz ?_
      refine Exists.intro _ (And.intro (ih.1 _ (h := ht) (hk := zfuel)) ?_)
      refine zz ?_
      try (apply Or.inl; refine zK ?_)
      replace h := evR h; cases h
      refine zz ?_
      first | exact ⟨trivial, [], [], ⟨rfl, trivial⟩, _, rfl, _, rfl, And.intro rfl rfl⟩ | exact ⟨[], [], ⟨rfl, trivial⟩, _, rfl, _, rfl, And.intro rfl rfl⟩
theorem impl_allEs_ev (l0 : List S38) (r : Bool) (h : impl_allEs.fv l0 = some r) : CE (G m_) 66 [.val (.row (l0.map e38))] [] [.val (.bool r)] [] := by
  obtain ⟨k, h⟩ := lim_ex h
  exact (impl_allEs_all (k + 1)).1 k _ _ h (Nat.lt_succ_self k)
theorem slices_ContainsFunc_impl_Node_impl_Node__impl_allEs_1_ev (l0 : List S38) (r : Bool) (h : slices_ContainsFunc_impl_Node_impl_Node__impl_allEs_1.fv l0 = some r) : CE (G m_) 57 [.val (.row (l0.map e38)), .fn 82 []] [] [.val (.bool r)] [] := by
  obtain ⟨k, h⟩ := lim_ex h
  exact (impl_allEs_all (k + 1)).2.1 k _ _ h (Nat.lt_succ_self k)
theorem slices_IndexFunc_impl_Node_impl_Node__impl_allEs_1_ev (l0 : List S38) (r : Int) (h : slices_IndexFunc_impl_Node_impl_Node__impl_allEs_1.fv l0 = some r) : CE (G m_) 77 [.val (.row (l0.map e38)), .fn 82 []] [] [.val (.int .i64 r)] [] := by
  obtain ⟨k, h⟩ := lim_ex h
  exact (impl_allEs_all (k + 1)).2.2.1 k _ _ h (Nat.lt_succ_self k)
theorem impl_allEs_1_ev (a0_0 : Int) (a0_1 : Int) (a0_2 : ByteArray) (l0_3 : List S38) (r : Bool) (h : impl_allEs_1.fv a0_0 a0_1 a0_2 l0_3 = some r) : CE (G m_) 82 [.val (.agg [.int .i64 a0_0, .int .i64 a0_1, .str a0_2, .row (l0_3.map e38)])] [] [.val (.bool r)] [] := by
  obtain ⟨k, h⟩ := lim_ex h
  exact (impl_allEs_all (k + 1)).2.2.2.1 k _ _ _ _ _ h (Nat.lt_succ_self k)
theorem impl_isE_ev (a0_0 : Int) (a0_1 : Int) (a0_2 : ByteArray) (l0_3 : List S38) (r : Bool) (h : impl_isE.fv a0_0 a0_1 a0_2 l0_3 = some r) : CE (G m_) 34 [.val (.agg [.int .i64 a0_0, .int .i64 a0_1, .str a0_2, .row (l0_3.map e38)])] [] [.val (.bool r)] [] := by
  obtain ⟨k, h⟩ := lim_ex h
  exact (impl_allEs_all (k + 1)).2.2.2.2 k _ _ _ _ _ h (Nat.lt_succ_self k)
end Go.Proofs.YthgglepiopijjaaGreatDoor.TFnExactWrite
