/- The walks of the functions that FnExactWrite reaches, through the abstract machine. -/
import Derived.Test.YthgglepiopijjaaGreatDoorAFnExactWriteh
import Derived.Test.YthgglepiopijjaaGreatDoorAFnExactWritex0
import Derived.Test.YthgglepiopijjaaGreatDoorAFnExactWritex3
import Derived.Test.YthgglepiopijjaaGreatDoorAFnExactWritex5
import Derived.Test.YthgglepiopijjaaGreatDoorFFnExactWrite
import Derived.Test.YthgglepiopijjaaGreatDoorProg
set_option maxHeartbeats 4000000
set_option maxRecDepth 100000
set_option linter.unusedVariables false
set_option linter.unusedSimpArgs false
namespace Go.Proofs.YthgglepiopijjaaGreatDoor.TFnExactWrite
open Go Go.RowKit Go.Proofs Go.Proofs.YthgglepiopijjaaGreatDoorW.AM Go.Proofs.YthgglepiopijjaaGreatDoor.QFnExactWrite Go.Proofs.YthgglepiopijjaaGreatDoorW.PrintWords Go.Proofs.YthgglepiopijjaaGreatDoorW.Pgs
variable {m_ : Int}
theorem impl_eText_all : ∀ n, (∀ (k : Nat) (a0_0 : Int) (a0_1 : Int) (a0_2 : ByteArray) (l0_3 : List S38) (r : ByteArray) (h : run impl_eText.B k (.impl_eText_f a0_0 a0_1 a0_2 l0_3) = some r) (hk : k < n), CE (G m_) 15 [.val (.agg [.int .i64 a0_0, .int .i64 a0_1, .str a0_2, .row (l0_3.map e38)])] [] [.val (.str r)] []) ∧ (∀ (k : Nat) (l0 : List S38) (r : ByteArray) (h : run impl_eText.B k (.impl_eTexts_f l0) = some r) (hk : k < n), CE (G m_) 38 [.val (.row (l0.map e38))] [] [.val (.str r)] []) := by
  intro n
  induction n with
  | zero => exact ⟨by intros; omega, by intros; omega⟩
  | succ n ih =>
    refine ⟨?_, ?_⟩
    · intro k a0_0 a0_1 a0_2 l0_3 r h hk
      refine CE.mk ⟨Tryz.f15, _, rfl, rfl, ⟨by kernel_rfl, Nat.le_of_ble_eq_true rfl, Nat.le_of_ble_eq_true rfl⟩, ?_⟩
      rcases k with _ | k
      · exact (run_zero h).elim
      rw [run_succ, impl_eText.B] at h
      refine zz ?_
      refine br (iP h) ?_ ?_ <;> (clear h; intro c h)
      · have h_ := evO h; clear h; obtain ⟨t10, ht, h⟩ := h_
        refine zz ?_
        refine Exists.intro _ (And.intro (impl_DecText_ev (h := ht)) ?_)
        replace h := evR h; cases h
        refine zz ?_
        first | exact ⟨trivial, [], [], ⟨rfl, trivial⟩, _, rfl, _, rfl, And.intro rfl rfl⟩ | exact ⟨[], [], ⟨rfl, trivial⟩, _, rfl, _, rfl, And.intro rfl rfl⟩
      refine zz ?_
      refine br (iP h) ?_ ?_ <;> (clear h; intro c h)
      · have h_ := evO h; clear h; obtain ⟨t15, ht, h⟩ := h_
        refine zz ?_
        refine Exists.intro _ (And.intro (impl_quotedText_ev (h := ht)) ?_)
        replace h := evR h; cases h
        refine zz ?_
        first | exact ⟨trivial, [], [], ⟨rfl, trivial⟩, _, rfl, _, rfl, And.intro rfl rfl⟩ | exact ⟨[], [], ⟨rfl, trivial⟩, _, rfl, _, rfl, And.intro rfl rfl⟩
      refine zz ?_
      refine br (iP h) ?_ ?_ <;> (clear h; intro c h)
      · have h_ := evO h; clear h; obtain ⟨t20, ht, h⟩ := h_
        refine zz ?_
        refine Exists.intro _ (And.intro (orc37 (h := ht)) ?_)
        have h_ := gP h; clear h; obtain ⟨c, h⟩ := h_
        have h_ := gP h; clear h; obtain ⟨c, h⟩ := h_
        replace h := evR h; cases h
        refine zz ?_
        first | exact ⟨trivial, [], [], ⟨rfl, trivial⟩, _, rfl, _, rfl, And.intro rfl rfl⟩ | exact ⟨[], [], ⟨rfl, trivial⟩, _, rfl, _, rfl, And.intro rfl rfl⟩
      refine zz ?_
      refine br (iP h) ?_ ?_ <;> (clear h; intro c h)
      rotate_left
      · refine zz ?_
        refine br (iP h) ?_ ?_ <;> (clear h; intro c h)
        · replace h := evR h; cases h
          refine zz ?_
          first | exact ⟨trivial, [], [], ⟨rfl, trivial⟩, _, rfl, _, rfl, And.intro rfl rfl⟩ | exact ⟨[], [], ⟨rfl, trivial⟩, _, rfl, _, rfl, And.intro rfl rfl⟩
        refine zz ?_
        refine br (iP h) ?_ ?_ <;> (clear h; intro c h)
        · replace h := evR h; cases h
          refine zz ?_
          first | exact ⟨trivial, [], [], ⟨rfl, trivial⟩, _, rfl, _, rfl, And.intro rfl rfl⟩ | exact ⟨[], [], ⟨rfl, trivial⟩, _, rfl, _, rfl, And.intro rfl rfl⟩
        refine zz ?_
        refine br (iP h) ?_ ?_ <;> (clear h; intro c h)
        · replace h := evR h; cases h
          refine zz ?_
          first | exact ⟨trivial, [], [], ⟨rfl, trivial⟩, _, rfl, _, rfl, And.intro rfl rfl⟩ | exact ⟨[], [], ⟨rfl, trivial⟩, _, rfl, _, rfl, And.intro rfl rfl⟩
        refine zz ?_
        refine br (iP h) ?_ ?_ <;> (clear h; intro c h)
        · have h_ := gP h; clear h; obtain ⟨c, h⟩ := h_
          have h_ := gP h; clear h; obtain ⟨c, h⟩ := h_
          have h_ := evA h; clear h; obtain ⟨t66, ht, h⟩ := h_
          refine zz ?_
          refine Exists.intro _ (And.intro (ih.1 _ (h := ht) (hk := zfuel)) ?_)
          have h_ := gP h; clear h; obtain ⟨c, h⟩ := h_
          have h_ := gP h; clear h; obtain ⟨c, h⟩ := h_
          replace h := evR h; cases h
          refine zz ?_
          first | exact ⟨trivial, [], [], ⟨rfl, trivial⟩, _, rfl, _, rfl, And.intro rfl rfl⟩ | exact ⟨[], [], ⟨rfl, trivial⟩, _, rfl, _, rfl, And.intro rfl rfl⟩
        refine zz ?_
        refine br (iP h) ?_ ?_ <;> (clear h; intro c h)
        · have h_ := gP h; clear h; obtain ⟨c, h⟩ := h_
          have h_ := evA h; clear h; obtain ⟨t76, ht, h⟩ := h_
          refine zz ?_
          refine Exists.intro _ (And.intro (ih.2 _ (h := ht) (hk := zfuel)) ?_)
          have h_ := gP h; clear h; obtain ⟨c, h⟩ := h_
          have h_ := gP h; clear h; obtain ⟨c, h⟩ := h_
          replace h := evR h; cases h
          refine zz ?_
          first | exact ⟨trivial, [], [], ⟨rfl, trivial⟩, _, rfl, _, rfl, And.intro rfl rfl⟩ | exact ⟨[], [], ⟨rfl, trivial⟩, _, rfl, _, rfl, And.intro rfl rfl⟩
        refine zz ?_
        refine br (iP h) ?_ ?_ <;> (clear h; intro c h)
        · have h_ := gP h; clear h; obtain ⟨c, h⟩ := h_
          have h_ := evA h; clear h; obtain ⟨t85, ht, h⟩ := h_
          refine zz ?_
          refine Exists.intro _ (And.intro (ih.1 _ (h := ht) (hk := zfuel)) ?_)
          have h_ := gP h; clear h; obtain ⟨c, h⟩ := h_
          have h_ := gP h; clear h; obtain ⟨c, h⟩ := h_
          replace h := evR h; cases h
          refine zz ?_
          first | exact ⟨trivial, [], [], ⟨rfl, trivial⟩, _, rfl, _, rfl, And.intro rfl rfl⟩ | exact ⟨[], [], ⟨rfl, trivial⟩, _, rfl, _, rfl, And.intro rfl rfl⟩
        refine zz ?_
        refine br (iP h) ?_ ?_ <;> (clear h; intro c h)
        · have h_ := gP h; clear h; obtain ⟨c, h⟩ := h_
          have h_ := evA h; clear h; obtain ⟨t94, ht, h⟩ := h_
          refine zz ?_
          refine Exists.intro _ (And.intro (ih.1 _ (h := ht) (hk := zfuel)) ?_)
          have h_ := gP h; clear h; obtain ⟨c, h⟩ := h_
          have h_ := gP h; clear h; obtain ⟨c, h⟩ := h_
          replace h := evR h; cases h
          refine zz ?_
          first | exact ⟨trivial, [], [], ⟨rfl, trivial⟩, _, rfl, _, rfl, And.intro rfl rfl⟩ | exact ⟨[], [], ⟨rfl, trivial⟩, _, rfl, _, rfl, And.intro rfl rfl⟩
        have h_ := gP h; clear h; obtain ⟨c, h⟩ := h_
        have h_ := evA h; clear h; obtain ⟨t101, ht, h⟩ := h_
        refine zz ?_
        refine Exists.intro _ (And.intro (ih.1 _ (h := ht) (hk := zfuel)) ?_)
        have h_ := gP h; clear h; obtain ⟨c, h⟩ := h_
        have h_ := evO h; clear h; obtain ⟨t105, ht, h⟩ := h_
        refine zz ?_
        refine Exists.intro _ (And.intro (impl_signOf_ev (h := ht)) ?_)
        have h_ := gP h; clear h; obtain ⟨c, h⟩ := h_
        have h_ := gP h; clear h; obtain ⟨c, h⟩ := h_
        have h_ := evA h; clear h; obtain ⟨t111, ht, h⟩ := h_
        refine zz ?_
        refine Exists.intro _ (And.intro (ih.1 _ (h := ht) (hk := zfuel)) ?_)
        have h_ := gP h; clear h; obtain ⟨c, h⟩ := h_
        have h_ := gP h; clear h; obtain ⟨c, h⟩ := h_
        replace h := evR h; cases h
        refine zz ?_
        first | exact ⟨trivial, [], [], ⟨rfl, trivial⟩, _, rfl, _, rfl, And.intro rfl rfl⟩ | exact ⟨[], [], ⟨rfl, trivial⟩, _, rfl, _, rfl, And.intro rfl rfl⟩
      have h_ := gP h; clear h; obtain ⟨c, h⟩ := h_
      refine zz ?_
      refine cutJ (n := 41) [4628] (fun fr hp => ∃ kq, kq ≤ k ∧ ∃ (x4628_0 : Int) (x4628_1 : Int) (x4628_2 : ByteArray) (x4628_3 : List S38), run impl_eText.B kq (.impl_eText_j0 x4628_0 x4628_1 x4628_2 x4628_3) = some r ∧ (∃ fr0, fr = puts [(3, .one (.ptr 4628 0))] fr0) ∧ hp = (upd 4628 (.box [.val (.int .i64 x4628_0), .val (.int .i64 x4628_1), .val (.str x4628_2), .val (.row (x4628_3.map e38))]) (fun _ => none))) ?_ ?_
      · refine zz ?_
        refine cutJ (n := 200010) [4628] (fun fr hp => ∃ kq, kq ≤ k ∧ ∃ (x41 : Bool) (x4628_0 : Int) (x4628_1 : Int) (x4628_2 : ByteArray) (x4628_3 : List S38), run impl_eText.B kq (.impl_eText_j1 x41 x4628_0 x4628_1 x4628_2 x4628_3) = some r ∧ (∃ fr0, fr = puts [(3, .one (.ptr 4628 0)), (41, .one (.val (.bool x41)))] fr0) ∧ hp = (upd 4628 (.box [.val (.int .i64 x4628_0), .val (.int .i64 x4628_1), .val (.str x4628_2), .val (.row (x4628_3.map e38))]) (fun _ => none))) ?_ ?_
        · refine zz ?_
          refine brW (iP h) ?_ ?_ <;> (clear h; intro c h)
          rotate_left
          · refine zz ?_
            try (apply Or.inr; refine zK ?_)
            refine zz ?_
            try (apply Or.inr; refine zK ?_)
            refine zz ?_
            try (apply Or.inl; refine zK ?_)
            refine zz ?_
            try (apply Or.inr; refine zK ?_)
            refine zz ?_
            try (apply Or.inr; refine zK ?_)
            refine zz ?_
            try (apply Or.inr; refine zK ?_)
            refine zz ?_
            try (apply Or.inl; refine zK ?_)
            replace h := evT h
            refine zz ?_
            exact ⟨_, zfuel, _, _, _, _, _, h, leafFr [3, 41] (by kernel_rfl), by kernel_rfl⟩
          refine zz ?_
          try (apply Or.inl; refine zK ?_)
          refine zz ?_
          try (apply Or.inl; refine zK ?_)
          refine zz ?_
          try (apply Or.inr; refine zK ?_)
          refine zz ?_
          refine brW (iP h) ?_ ?_ <;> (clear h; intro c h)
          · refine zz ?_
            try (apply Or.inl; refine zK ?_)
            refine zz ?_
            try (apply Or.inl; refine zK ?_)
            refine zz ?_
            try (apply Or.inr; refine zK ?_)
            replace h := evT h
            refine zz ?_
            exact ⟨_, zfuel, _, _, _, _, _, h, leafFr [3, 41] (by kernel_rfl), by kernel_rfl⟩
          refine zz ?_
          try (apply Or.inr; refine zK ?_)
          refine zz ?_
          try (apply Or.inr; refine zK ?_)
          refine zz ?_
          try (apply Or.inl; refine zK ?_)
          replace h := evT h
          refine zz ?_
          exact ⟨_, zfuel, _, _, _, _, _, h, leafFr [3, 41] (by kernel_rfl), by kernel_rfl⟩
        clear h; rintro _ _ ⟨k, hle, x41, x4628_0, x4628_1, x4628_2, x4628_3, h, ⟨fr0, rfl⟩, rfl⟩
        rcases k with _ | k
        · exact (run_zero h).elim
        rw [run_succ, impl_eText.B] at h
        refine zz ?_
        refine br (iP h) ?_ ?_ <;> (clear h; intro c h)
        rotate_left
        · replace h := evT h
          refine zz ?_
          exact ⟨_, zfuel, _, _, _, _, h, leafFr [3] (by kernel_rfl), by kernel_rfl⟩
        have h_ := evA h; clear h; obtain ⟨t43, ht, h⟩ := h_
        refine zz ?_
        refine Exists.intro _ (And.intro (ih.1 _ (h := ht) (hk := zfuel)) ?_)
        have h_ := gP h; clear h; obtain ⟨c, h⟩ := h_
        replace h := evR h; cases h
        refine zz ?_
        first | exact ⟨trivial, [], [], ⟨rfl, trivial⟩, _, rfl, _, rfl, And.intro rfl rfl⟩ | exact ⟨[], [], ⟨rfl, trivial⟩, _, rfl, _, rfl, And.intro rfl rfl⟩
      clear h; rintro _ _ ⟨k, hle, x4628_0, x4628_1, x4628_2, x4628_3, h, ⟨fr0, rfl⟩, rfl⟩
      rcases k with _ | k
      · exact (run_zero h).elim
      rw [run_succ, impl_eText.B] at h
      have h_ := evA h; clear h; obtain ⟨t46, ht, h⟩ := h_
      refine zz ?_
      refine Exists.intro _ (And.intro (ih.1 _ (h := ht) (hk := zfuel)) ?_)
      have h_ := gP h; clear h; obtain ⟨c, h⟩ := h_
      have h_ := gP h; clear h; obtain ⟨c, h⟩ := h_
      replace h := evR h; cases h
      refine zz ?_
      first | exact ⟨trivial, [], [], ⟨rfl, trivial⟩, _, rfl, _, rfl, And.intro rfl rfl⟩ | exact ⟨[], [], ⟨rfl, trivial⟩, _, rfl, _, rfl, And.intro rfl rfl⟩
    · intro k l0 r h hk
      refine CE.mk ⟨Tryz.f38, _, rfl, rfl, ⟨by kernel_rfl, Nat.le_of_ble_eq_true rfl, Nat.le_of_ble_eq_true rfl⟩, ?_⟩
      rcases k with _ | k
      · exact (run_zero h).elim
      rw [run_succ, impl_eText.B] at h
      refine zz ?_
      refine Exists.intro (List.map VV.str ([] : List ByteArray)) (And.intro zrow ?_)
      replace h := evT h
      refine zz ?_
      refine loopJ [528] (fun kq fr hp => ∃ (x3 : List ByteArray) (x7 : List S38) (x8 : Int) (x9 : Int) (g528 : Nat), run impl_eText.B kq (.impl_eTexts_l0 x3 x7 x8 x9) = some r ∧ (∃ fr0, fr = puts [(3, .one (.ref 528 g528)), (7, .one (.val (.row (x7.map e38)))), (8, .one (.val (.int .i64 x8))), (9, .one (.val (.int .i64 x9)))] fr0) ∧ hp = (upd 528 (.own 9 1 (x3.map VV.str) g528 false) (fun _ => none))) k ⟨_, zfuel, _, _, _, _, 0, h, leafFr [3, 7, 8, 9] (by kernel_rfl), by kernel_rfl⟩ ?_
      clear h; rintro k hle _ _ ⟨x3, x7, x8, x9, g528, h, ⟨fr0, rfl⟩, rfl⟩
      rcases k with _ | k
      · exact (run_zero h).elim
      rw [run_succ, impl_eText.B] at h
      refine zz ?_
      refine br (iP h) ?_ ?_ <;> (clear h; intro c h)
      rotate_left
      · have h_ := evO h; clear h; obtain ⟨t20, ht, h⟩ := h_
        refine zz ?_
        refine Exists.intro _ (And.intro (orc71 (h := ht)) ?_)
        replace h := evR h; cases h
        refine zz ?_
        first | exact ⟨trivial, [], [], ⟨rfl, trivial⟩, _, rfl, _, rfl, And.intro rfl rfl⟩ | exact ⟨[], [], ⟨rfl, trivial⟩, _, rfl, _, rfl, And.intro rfl rfl⟩
      have h_ := gP h; clear h; obtain ⟨c, h⟩ := h_
      have h_ := gP h; clear h; obtain ⟨c, h⟩ := h_
      have h_ := evA h; clear h; obtain ⟨t15, ht, h⟩ := h_
      refine zz ?_
      refine Exists.intro _ (And.intro (ih.1 _ (h := ht) (hk := zfuel)) ?_)
      refine zz ?_
      refine Exists.intro (List.map VV.str ([t15] : List ByteArray)) (And.intro zrow ?_)
      have h_ := gP h; clear h; obtain ⟨c, h⟩ := h_
      refine zz ?_
      refine Exists.intro (List.map VV.str (x3 ++ [t15])) (And.intro zrow ?_)
      replace h := evT h
      refine zz ?_
      exact ⟨_, zfuel, _, _, _, _, (g528 + 1), h, leafFr [3, 7, 8, 9] (by kernel_rfl), by kernel_rfl⟩
theorem impl_eText_ev (a0_0 : Int) (a0_1 : Int) (a0_2 : ByteArray) (l0_3 : List S38) (r : ByteArray) (h : impl_eText.fv a0_0 a0_1 a0_2 l0_3 = some r) : CE (G m_) 15 [.val (.agg [.int .i64 a0_0, .int .i64 a0_1, .str a0_2, .row (l0_3.map e38)])] [] [.val (.str r)] [] := by
  obtain ⟨k, h⟩ := lim_ex h
  exact (impl_eText_all (k + 1)).1 k _ _ _ _ _ h (Nat.lt_succ_self k)
theorem impl_eTexts_ev (l0 : List S38) (r : ByteArray) (h : impl_eTexts.fv l0 = some r) : CE (G m_) 38 [.val (.row (l0.map e38))] [] [.val (.str r)] [] := by
  obtain ⟨k, h⟩ := lim_ex h
  exact (impl_eText_all (k + 1)).2 k _ _ h (Nat.lt_succ_self k)
theorem impl_blockText_all : ∀ n, (∀ (k : Nat) (a0_0 : Int) (a0_1 : Int) (a0_2 : ByteArray) (l0_3 : List S38) (r : ByteArray) (h : run impl_blockText.B k (.impl_blockText_f a0_0 a0_1 a0_2 l0_3) = some r) (hk : k < n), CE (G m_) 16 [.val (.agg [.int .i64 a0_0, .int .i64 a0_1, .str a0_2, .row (l0_3.map e38)])] [] [.val (.str r)] []) ∧ (∀ (k : Nat) (a0_0 : Int) (a0_1 : Int) (a0_2 : ByteArray) (l0_3 : List S38) (r : ByteArray) (h : run impl_blockText.B k (.impl_statementText_f a0_0 a0_1 a0_2 l0_3) = some r) (hk : k < n), CE (G m_) 40 [.val (.agg [.int .i64 a0_0, .int .i64 a0_1, .str a0_2, .row (l0_3.map e38)])] [] [.val (.str r)] []) := by
  intro n
  induction n with
  | zero => exact ⟨by intros; omega, by intros; omega⟩
  | succ n ih =>
    refine ⟨?_, ?_⟩
    · intro k a0_0 a0_1 a0_2 l0_3 r h hk
      refine CE.mk ⟨Tryz.f16, _, rfl, rfl, ⟨by kernel_rfl, Nat.le_of_ble_eq_true rfl, Nat.le_of_ble_eq_true rfl⟩, ?_⟩
      rcases k with _ | k
      · exact (run_zero h).elim
      rw [run_succ, impl_blockText.B] at h
      replace h := evT h
      refine zz ?_
      refine loopJ [] (fun kq fr hp => ∃ (x3 : ByteArray) (x7 : List S38) (x8 : Int) (x9 : Int), run impl_blockText.B kq (.impl_blockText_l0 x3 x7 x8 x9) = some r ∧ (∃ fr0, fr = puts [(3, .one (.val (.str x3))), (7, .one (.val (.row (x7.map e38)))), (8, .one (.val (.int .i64 x8))), (9, .one (.val (.int .i64 x9)))] fr0) ∧ hp = (fun _ => none)) k ⟨_, zfuel, _, _, _, _, h, leafFr [3, 7, 8, 9] (by kernel_rfl), by kernel_rfl⟩ ?_
      clear h; rintro k hle _ _ ⟨x3, x7, x8, x9, h, ⟨fr0, rfl⟩, rfl⟩
      rcases k with _ | k
      · exact (run_zero h).elim
      rw [run_succ, impl_blockText.B] at h
      refine zz ?_
      refine br (iP h) ?_ ?_ <;> (clear h; intro c h)
      rotate_left
      · have h_ := gP h; clear h; obtain ⟨c, h⟩ := h_
        replace h := evR h; cases h
        refine zz ?_
        first | exact ⟨trivial, [], [], ⟨rfl, trivial⟩, _, rfl, _, rfl, And.intro rfl rfl⟩ | exact ⟨[], [], ⟨rfl, trivial⟩, _, rfl, _, rfl, And.intro rfl rfl⟩
      have h_ := gP h; clear h; obtain ⟨c, h⟩ := h_
      have h_ := gP h; clear h; obtain ⟨c, h⟩ := h_
      have h_ := evA h; clear h; obtain ⟨t15, ht, h⟩ := h_
      refine zz ?_
      refine Exists.intro _ (And.intro (ih.2 _ (h := ht) (hk := zfuel)) ?_)
      have h_ := gP h; clear h; obtain ⟨c, h⟩ := h_
      have h_ := gP h; clear h; obtain ⟨c, h⟩ := h_
      replace h := evT h
      refine zz ?_
      exact ⟨_, zfuel, _, _, _, _, h, leafFr [3, 7, 8, 9] (by kernel_rfl), by kernel_rfl⟩
    · intro k a0_0 a0_1 a0_2 l0_3 r h hk
      refine CE.mk ⟨Tryz.f40, _, rfl, rfl, ⟨by kernel_rfl, Nat.le_of_ble_eq_true rfl, Nat.le_of_ble_eq_true rfl⟩, ?_⟩
      rcases k with _ | k
      · exact (run_zero h).elim
      rw [run_succ, impl_blockText.B] at h
      refine zz ?_
      refine br (iP h) ?_ ?_ <;> (clear h; intro c h)
      · refine zz ?_
        refine br (iP h) ?_ ?_ <;> (clear h; intro c h)
        · replace h := evR h; cases h
          refine zz ?_
          first | exact ⟨trivial, [], [], ⟨rfl, trivial⟩, _, rfl, _, rfl, And.intro rfl rfl⟩ | exact ⟨[], [], ⟨rfl, trivial⟩, _, rfl, _, rfl, And.intro rfl rfl⟩
        have h_ := evO h; clear h; obtain ⟨t14, ht, h⟩ := h_
        refine zz ?_
        refine Exists.intro _ (And.intro (impl_eTexts_ev (h := ht)) ?_)
        have h_ := gP h; clear h; obtain ⟨c, h⟩ := h_
        have h_ := gP h; clear h; obtain ⟨c, h⟩ := h_
        replace h := evR h; cases h
        refine zz ?_
        first | exact ⟨trivial, [], [], ⟨rfl, trivial⟩, _, rfl, _, rfl, And.intro rfl rfl⟩ | exact ⟨[], [], ⟨rfl, trivial⟩, _, rfl, _, rfl, And.intro rfl rfl⟩
      refine zz ?_
      refine br (iP h) ?_ ?_ <;> (clear h; intro c h)
      rotate_left
      · refine zz ?_
        refine br (iP h) ?_ ?_ <;> (clear h; intro c h)
        · have h_ := gP h; clear h; obtain ⟨c, h⟩ := h_
          have h_ := evO h; clear h; obtain ⟨t51, ht, h⟩ := h_
          refine zz ?_
          refine Exists.intro _ (And.intro (impl_eText_ev (h := ht)) ?_)
          have h_ := gP h; clear h; obtain ⟨c, h⟩ := h_
          have h_ := gP h; clear h; obtain ⟨c, h⟩ := h_
          have h_ := gP h; clear h; obtain ⟨c, h⟩ := h_
          have h_ := evA h; clear h; obtain ⟨t58, ht, h⟩ := h_
          refine zz ?_
          refine Exists.intro _ (And.intro (ih.1 _ (h := ht) (hk := zfuel)) ?_)
          have h_ := gP h; clear h; obtain ⟨c, h⟩ := h_
          replace h := evR h; cases h
          refine zz ?_
          first | exact ⟨trivial, [], [], ⟨rfl, trivial⟩, _, rfl, _, rfl, And.intro rfl rfl⟩ | exact ⟨[], [], ⟨rfl, trivial⟩, _, rfl, _, rfl, And.intro rfl rfl⟩
        refine zz ?_
        refine br (iP h) ?_ ?_ <;> (clear h; intro c h)
        · replace h := evR h; cases h
          refine zz ?_
          first | exact ⟨trivial, [], [], ⟨rfl, trivial⟩, _, rfl, _, rfl, And.intro rfl rfl⟩ | exact ⟨[], [], ⟨rfl, trivial⟩, _, rfl, _, rfl, And.intro rfl rfl⟩
        refine zz ?_
        refine br (iP h) ?_ ?_ <;> (clear h; intro c h)
        rotate_left
        · refine zz ?_
          refine br (iP h) ?_ ?_ <;> (clear h; intro c h)
          · have h_ := evA h; clear h; obtain ⟨t78, ht, h⟩ := h_
            refine zz ?_
            refine Exists.intro _ (And.intro (ih.1 _ (h := ht) (hk := zfuel)) ?_)
            replace h := evR h; cases h
            refine zz ?_
            first | exact ⟨trivial, [], [], ⟨rfl, trivial⟩, _, rfl, _, rfl, And.intro rfl rfl⟩ | exact ⟨[], [], ⟨rfl, trivial⟩, _, rfl, _, rfl, And.intro rfl rfl⟩
          have h_ := gP h; clear h; obtain ⟨c, h⟩ := h_
          have h_ := evO h; clear h; obtain ⟨t83, ht, h⟩ := h_
          refine zz ?_
          refine Exists.intro _ (And.intro (impl_eText_ev (h := ht)) ?_)
          have h_ := gP h; clear h; obtain ⟨c, h⟩ := h_
          replace h := evR h; cases h
          refine zz ?_
          first | exact ⟨trivial, [], [], ⟨rfl, trivial⟩, _, rfl, _, rfl, And.intro rfl rfl⟩ | exact ⟨[], [], ⟨rfl, trivial⟩, _, rfl, _, rfl, And.intro rfl rfl⟩
        have h_ := gP h; clear h; obtain ⟨c, h⟩ := h_
        have h_ := gP h; clear h; obtain ⟨c, h⟩ := h_
        have h_ := gP h; clear h; obtain ⟨c, h⟩ := h_
        have h_ := evO h; clear h; obtain ⟨t72, ht, h⟩ := h_
        refine zz ?_
        refine Exists.intro _ (And.intro (impl_eText_ev (h := ht)) ?_)
        have h_ := gP h; clear h; obtain ⟨c, h⟩ := h_
        have h_ := gP h; clear h; obtain ⟨c, h⟩ := h_
        replace h := evR h; cases h
        refine zz ?_
        first | exact ⟨trivial, [], [], ⟨rfl, trivial⟩, _, rfl, _, rfl, And.intro rfl rfl⟩ | exact ⟨[], [], ⟨rfl, trivial⟩, _, rfl, _, rfl, And.intro rfl rfl⟩
      have h_ := gP h; clear h; obtain ⟨c, h⟩ := h_
      have h_ := evO h; clear h; obtain ⟨t23, ht, h⟩ := h_
      refine zz ?_
      refine Exists.intro _ (And.intro (impl_eText_ev (h := ht)) ?_)
      have h_ := gP h; clear h; obtain ⟨c, h⟩ := h_
      have h_ := gP h; clear h; obtain ⟨c, h⟩ := h_
      have h_ := gP h; clear h; obtain ⟨c, h⟩ := h_
      have h_ := evA h; clear h; obtain ⟨t30, ht, h⟩ := h_
      refine zz ?_
      refine Exists.intro _ (And.intro (ih.1 _ (h := ht) (hk := zfuel)) ?_)
      have h_ := gP h; clear h; obtain ⟨c, h⟩ := h_
      refine zz ?_
      refine cutJ (n := 35) [] (fun fr hp => ∃ kq, kq ≤ k ∧ ∃ (x3 : ByteArray), run impl_blockText.B kq (.impl_statementText_j0 x3) = some r ∧ (∃ fr0, fr = puts [(3, .one (.val (.str x3)))] fr0) ∧ hp = (fun _ => none)) ?_ ?_
      · refine zz ?_
        refine br (iP h) ?_ ?_ <;> (clear h; intro c h)
        rotate_left
        · replace h := evT h
          refine zz ?_
          exact ⟨_, zfuel, _, h, leafFr [3] (by kernel_rfl), by kernel_rfl⟩
        have h_ := gP h; clear h; obtain ⟨c, h⟩ := h_
        have h_ := evA h; clear h; obtain ⟨t41, ht, h⟩ := h_
        refine zz ?_
        refine Exists.intro _ (And.intro (ih.1 _ (h := ht) (hk := zfuel)) ?_)
        have h_ := gP h; clear h; obtain ⟨c, h⟩ := h_
        have h_ := gP h; clear h; obtain ⟨c, h⟩ := h_
        replace h := evT h
        refine zz ?_
        exact ⟨_, zfuel, _, h, leafFr [3] (by kernel_rfl), by kernel_rfl⟩
      clear h; rintro _ _ ⟨k, hle, x3, h, ⟨fr0, rfl⟩, rfl⟩
      rcases k with _ | k
      · exact (run_zero h).elim
      rw [run_succ, impl_blockText.B] at h
      replace h := evR h; cases h
      refine zz ?_
      first | exact ⟨trivial, [], [], ⟨rfl, trivial⟩, _, rfl, _, rfl, And.intro rfl rfl⟩ | exact ⟨[], [], ⟨rfl, trivial⟩, _, rfl, _, rfl, And.intro rfl rfl⟩
theorem impl_blockText_ev (a0_0 : Int) (a0_1 : Int) (a0_2 : ByteArray) (l0_3 : List S38) (r : ByteArray) (h : impl_blockText.fv a0_0 a0_1 a0_2 l0_3 = some r) : CE (G m_) 16 [.val (.agg [.int .i64 a0_0, .int .i64 a0_1, .str a0_2, .row (l0_3.map e38)])] [] [.val (.str r)] [] := by
  obtain ⟨k, h⟩ := lim_ex h
  exact (impl_blockText_all (k + 1)).1 k _ _ _ _ _ h (Nat.lt_succ_self k)
theorem impl_statementText_ev (a0_0 : Int) (a0_1 : Int) (a0_2 : ByteArray) (l0_3 : List S38) (r : ByteArray) (h : impl_statementText.fv a0_0 a0_1 a0_2 l0_3 = some r) : CE (G m_) 40 [.val (.agg [.int .i64 a0_0, .int .i64 a0_1, .str a0_2, .row (l0_3.map e38)])] [] [.val (.str r)] [] := by
  obtain ⟨k, h⟩ := lim_ex h
  exact (impl_blockText_all (k + 1)).2 k _ _ _ _ _ h (Nat.lt_succ_self k)
theorem impl_Write_ev (l0 : List S40) (r : ByteArray) (h : impl_Write.fv l0 = some r) : CE (G m_) 7 [.val (.row (l0.map e40))] [] [.val (.str r)] [] := by
  obtain ⟨k, h⟩ := lim_ex h
  refine CE.mk ⟨Tryz.f7, _, rfl, rfl, ⟨by kernel_rfl, Nat.le_of_ble_eq_true rfl, Nat.le_of_ble_eq_true rfl⟩, ?_⟩
  rcases k with _ | k
  · exact (run_zero h).elim
  rw [run_succ, impl_Write.B] at h
  have h_ := evO h; clear h; obtain ⟨t7, ht, h⟩ := h_
  refine zz ?_
  refine Exists.intro _ (And.intro (impl_Tidy_ev (h := ht)) ?_)
  refine zz ?_
  refine brN (iP h) ?_ ?_ <;> (clear h; intro c h)
  · replace h := evR h; cases h
    refine zz ?_
    first | exact ⟨trivial, [], [], ⟨rfl, trivial⟩, _, rfl, _, rfl, And.intro rfl rfl⟩ | exact ⟨[], [], ⟨rfl, trivial⟩, _, rfl, _, rfl, And.intro rfl rfl⟩
  replace h := evT h
  refine zz ?_
  refine loopJ [] (fun kq fr hp => ∃ (x3 : ByteArray) (x9 : List S40) (x10 : Int) (x11 : Int), run impl_Write.B kq (.l0 x3 x9 x10 x11) = some r ∧ (∃ fr0, fr = puts [(3, .one (.val (.str x3))), (9, .one (.val (.row (x9.map e40)))), (10, .one (.val (.int .i64 x10))), (11, .one (.val (.int .i64 x11)))] fr0) ∧ hp = (fun _ => none)) k ⟨_, zfuel, _, _, _, _, h, leafFr [3, 9, 10, 11] (by kernel_rfl), by kernel_rfl⟩ ?_
  clear h; rintro k hle _ _ ⟨x3, x9, x10, x11, h, ⟨fr0, rfl⟩, rfl⟩
  rcases k with _ | k
  · exact (run_zero h).elim
  rw [run_succ, impl_Write.B] at h
  refine zz ?_
  refine br (iP h) ?_ ?_ <;> (clear h; intro c h)
  rotate_left
  · replace h := evR h; cases h
    refine zz ?_
    first | exact ⟨trivial, [], [], ⟨rfl, trivial⟩, _, rfl, _, rfl, And.intro rfl rfl⟩ | exact ⟨[], [], ⟨rfl, trivial⟩, _, rfl, _, rfl, And.intro rfl rfl⟩
  have h_ := gP h; clear h; obtain ⟨c, h⟩ := h_
  have h_ := gP h; clear h; obtain ⟨c, h⟩ := h_
  refine zz ?_
  refine cutJ (n := 100002) [3090] (fun fr hp => ∃ kq, kq ≤ k ∧ ∃ (x3 : ByteArray) (x9 : List S40) (x10 : Int) (x11 : Int) (x3090_0 : Int) (x3090_1 : Int) (x3090_2 : Int) (x3090_3 : ByteArray) (x3090_4 : List S38) (x3090_5 : Int) (x3090_6 : Int) (x3090_7 : ByteArray) (x3090_8 : List S38), run impl_Write.B kq (.j0 x3 x9 x10 x11 x3090_0 x3090_1 x3090_2 x3090_3 x3090_4 x3090_5 x3090_6 x3090_7 x3090_8) = some r ∧ (∃ fr0, fr = puts [(3, .one (.val (.str x3))), (5, .one (.ptr 3090 0)), (9, .one (.val (.row (x9.map e40)))), (10, .one (.val (.int .i64 x10))), (11, .one (.val (.int .i64 x11)))] fr0) ∧ hp = (upd 3090 (.box [.val (.int .i64 x3090_0), .val (.int .i64 x3090_1), .val (.int .i64 x3090_2), .val (.str x3090_3), .val (.row (x3090_4.map e38)), .val (.int .i64 x3090_5), .val (.int .i64 x3090_6), .val (.str x3090_7), .val (.row (x3090_8.map e38))]) (fun _ => none))) ?_ ?_
  · refine zz ?_
    refine br (iP h) ?_ ?_ <;> (clear h; intro c h)
    · have h_ := gP h; clear h; obtain ⟨c, h⟩ := h_
      replace h := evT h
      refine zz ?_
      exact ⟨_, zfuel, _, _, _, _, _, _, _, _, _, _, _, _, _, h, leafFr [3, 5, 9, 10, 11] (by kernel_rfl), by kernel_rfl⟩
    refine zz ?_
    refine br (iP h) ?_ ?_ <;> (clear h; intro c h)
    rotate_left
    · replace h := evT h
      refine zz ?_
      exact ⟨_, zfuel, _, _, _, _, _, _, _, _, _, _, _, _, _, h, leafFr [3, 5, 9, 10, 11] (by kernel_rfl), by kernel_rfl⟩
    have h_ := evO h; clear h; obtain ⟨t26, ht, h⟩ := h_
    refine zz ?_
    refine Exists.intro _ (And.intro (impl_eText_ev (h := ht)) ?_)
    have h_ := gP h; clear h; obtain ⟨c, h⟩ := h_
    have h_ := gP h; clear h; obtain ⟨c, h⟩ := h_
    replace h := evT h
    refine zz ?_
    exact ⟨_, zfuel, _, _, _, _, _, _, _, _, _, _, _, _, _, h, leafFr [3, 5, 9, 10, 11] (by kernel_rfl), by kernel_rfl⟩
  clear h; rintro _ _ ⟨k, hle, x3, x9, x10, x11, x3090_0, x3090_1, x3090_2, x3090_3, x3090_4, x3090_5, x3090_6, x3090_7, x3090_8, h, ⟨fr0, rfl⟩, rfl⟩
  rcases k with _ | k
  · exact (run_zero h).elim
  rw [run_succ, impl_Write.B] at h
  have h_ := evO h; clear h; obtain ⟨t32, ht, h⟩ := h_
  refine zz ?_
  refine Exists.intro _ (And.intro (impl_blockText_ev (h := ht)) ?_)
  have h_ := gP h; clear h; obtain ⟨c, h⟩ := h_
  have h_ := gP h; clear h; obtain ⟨c, h⟩ := h_
  replace h := evT h
  refine zz ?_
  exact ⟨_, zfuel, _, _, _, _, h, leafFr [3, 9, 10, 11] (by kernel_rfl), by kernel_rfl⟩
theorem laws_eqNode_all : ∀ n, (∀ (k : Nat) (a0_0 : Int) (a0_1 : Int) (a0_2 : ByteArray) (l0_3 : List S38) (a1_0 : Int) (a1_1 : Int) (a1_2 : ByteArray) (l1_3 : List S38) (r : Bool) (h : run laws_eqNode.B k (.laws_eqNode_f a0_0 a0_1 a0_2 l0_3 a1_0 a1_1 a1_2 l1_3) = some r) (hk : k < n), CE (G m_) 41 [.val (.agg [.int .i64 a0_0, .int .i64 a0_1, .str a0_2, .row (l0_3.map e38)]), .val (.agg [.int .i64 a1_0, .int .i64 a1_1, .str a1_2, .row (l1_3.map e38)])] [] [.val (.bool r)] []) ∧ (∀ (k : Nat) (l0 : List S38) (l1 : List S38) (r : Bool) (h : run laws_eqNode.B k (.laws_eqNodeS_f l0 l1) = some r) (hk : k < n), CE (G m_) 72 [.val (.row (l0.map e38)), .val (.row (l1.map e38))] [] [.val (.bool r)] []) := by
  intro n
  induction n with
  | zero => exact ⟨by intros; omega, by intros; omega⟩
  | succ n ih =>
    refine ⟨?_, ?_⟩
    · intro k a0_0 a0_1 a0_2 l0_3 a1_0 a1_1 a1_2 l1_3 r h hk
      refine CE.mk ⟨Tryz.f41, _, rfl, rfl, ⟨by kernel_rfl, Nat.le_of_ble_eq_true rfl, Nat.le_of_ble_eq_true rfl⟩, ?_⟩
      rcases k with _ | k
      · exact (run_zero h).elim
      rw [run_succ, laws_eqNode.B] at h
      refine zz ?_
      refine brN (iP h) ?_ ?_ <;> (clear h; intro c h)
      · replace h := evR h; cases h
        refine zz ?_
        first | exact ⟨trivial, [], [], ⟨rfl, trivial⟩, _, rfl, _, rfl, And.intro rfl rfl⟩ | exact ⟨[], [], ⟨rfl, trivial⟩, _, rfl, _, rfl, And.intro rfl rfl⟩
      refine zz ?_
      refine brN (iP h) ?_ ?_ <;> (clear h; intro c h)
      · replace h := evR h; cases h
        refine zz ?_
        first | exact ⟨trivial, [], [], ⟨rfl, trivial⟩, _, rfl, _, rfl, And.intro rfl rfl⟩ | exact ⟨[], [], ⟨rfl, trivial⟩, _, rfl, _, rfl, And.intro rfl rfl⟩
      refine zz ?_
      refine brN (iP h) ?_ ?_ <;> (clear h; intro c h)
      · replace h := evR h; cases h
        refine zz ?_
        first | exact ⟨trivial, [], [], ⟨rfl, trivial⟩, _, rfl, _, rfl, And.intro rfl rfl⟩ | exact ⟨[], [], ⟨rfl, trivial⟩, _, rfl, _, rfl, And.intro rfl rfl⟩
      have h_ := evA h; clear h; obtain ⟨t24, ht, h⟩ := h_
      refine zz ?_
      refine Exists.intro _ (And.intro (ih.2 _ (h := ht) (hk := zfuel)) ?_)
      refine zz ?_
      refine brN (iP h) ?_ ?_ <;> (clear h; intro c h)
      · replace h := evR h; cases h
        refine zz ?_
        first | exact ⟨trivial, [], [], ⟨rfl, trivial⟩, _, rfl, _, rfl, And.intro rfl rfl⟩ | exact ⟨[], [], ⟨rfl, trivial⟩, _, rfl, _, rfl, And.intro rfl rfl⟩
      replace h := evR h; cases h
      refine zz ?_
      first | exact ⟨trivial, [], [], ⟨rfl, trivial⟩, _, rfl, _, rfl, And.intro rfl rfl⟩ | exact ⟨[], [], ⟨rfl, trivial⟩, _, rfl, _, rfl, And.intro rfl rfl⟩
    · intro k l0 l1 r h hk
      refine CE.mk ⟨Tryz.f72, _, rfl, rfl, ⟨by kernel_rfl, Nat.le_of_ble_eq_true rfl, Nat.le_of_ble_eq_true rfl⟩, ?_⟩
      rcases k with _ | k
      · exact (run_zero h).elim
      rw [run_succ, laws_eqNode.B] at h
      refine zz ?_
      refine brN (iP h) ?_ ?_ <;> (clear h; intro c h)
      · replace h := evR h; cases h
        refine zz ?_
        first | exact ⟨trivial, [], [], ⟨rfl, trivial⟩, _, rfl, _, rfl, And.intro rfl rfl⟩ | exact ⟨[], [], ⟨rfl, trivial⟩, _, rfl, _, rfl, And.intro rfl rfl⟩
      replace h := evT h
      refine zz ?_
      refine loopJ [] (fun kq fr hp => ∃ (x0 : List S38) (x1 : List S38) (x5 : Int), run laws_eqNode.B kq (.laws_eqNodeS_l0 x0 x1 x5) = some r ∧ (∃ fr0, fr = puts [(0, .one (.val (.row (x0.map e38)))), (1, .one (.val (.row (x1.map e38)))), (5, .one (.val (.int .i64 x5)))] fr0) ∧ hp = (fun _ => none)) k ⟨_, zfuel, _, _, _, h, leafFr [0, 1, 5] (by kernel_rfl), by kernel_rfl⟩ ?_
      clear h; rintro k hle _ _ ⟨x0, x1, x5, h, ⟨fr0, rfl⟩, rfl⟩
      rcases k with _ | k
      · exact (run_zero h).elim
      rw [run_succ, laws_eqNode.B] at h
      refine zz ?_
      refine br (iP h) ?_ ?_ <;> (clear h; intro c h)
      rotate_left
      · replace h := evR h; cases h
        refine zz ?_
        first | exact ⟨trivial, [], [], ⟨rfl, trivial⟩, _, rfl, _, rfl, And.intro rfl rfl⟩ | exact ⟨[], [], ⟨rfl, trivial⟩, _, rfl, _, rfl, And.intro rfl rfl⟩
      have h_ := gP h; clear h; obtain ⟨c, h⟩ := h_
      have h_ := gP h; clear h; obtain ⟨c, h⟩ := h_
      have h_ := evA h; clear h; obtain ⟨t25, ht, h⟩ := h_
      refine zz ?_
      refine Exists.intro _ (And.intro (ih.1 _ (h := ht) (hk := zfuel)) ?_)
      refine zz ?_
      refine brN (iP h) ?_ ?_ <;> (clear h; intro c h)
      · replace h := evR h; cases h
        refine zz ?_
        first | exact ⟨trivial, [], [], ⟨rfl, trivial⟩, _, rfl, _, rfl, And.intro rfl rfl⟩ | exact ⟨[], [], ⟨rfl, trivial⟩, _, rfl, _, rfl, And.intro rfl rfl⟩
      replace h := evT h
      refine zz ?_
      exact ⟨_, zfuel, _, _, _, h, leafFr [0, 1, 5] (by kernel_rfl), by kernel_rfl⟩
theorem laws_eqNode_ev (a0_0 : Int) (a0_1 : Int) (a0_2 : ByteArray) (l0_3 : List S38) (a1_0 : Int) (a1_1 : Int) (a1_2 : ByteArray) (l1_3 : List S38) (r : Bool) (h : laws_eqNode.fv a0_0 a0_1 a0_2 l0_3 a1_0 a1_1 a1_2 l1_3 = some r) : CE (G m_) 41 [.val (.agg [.int .i64 a0_0, .int .i64 a0_1, .str a0_2, .row (l0_3.map e38)]), .val (.agg [.int .i64 a1_0, .int .i64 a1_1, .str a1_2, .row (l1_3.map e38)])] [] [.val (.bool r)] [] := by
  obtain ⟨k, h⟩ := lim_ex h
  exact (laws_eqNode_all (k + 1)).1 k _ _ _ _ _ _ _ _ _ h (Nat.lt_succ_self k)
theorem laws_eqNodeS_ev (l0 : List S38) (l1 : List S38) (r : Bool) (h : laws_eqNodeS.fv l0 l1 = some r) : CE (G m_) 72 [.val (.row (l0.map e38)), .val (.row (l1.map e38))] [] [.val (.bool r)] [] := by
  obtain ⟨k, h⟩ := lim_ex h
  exact (laws_eqNode_all (k + 1)).2 k _ _ _ h (Nat.lt_succ_self k)
theorem laws_eqRule_ev (a0_0 : Int) (a0_1 : Int) (a0_2 : Int) (a0_3 : ByteArray) (l0_4 : List S38) (a0_5 : Int) (a0_6 : Int) (a0_7 : ByteArray) (l0_8 : List S38) (a1_0 : Int) (a1_1 : Int) (a1_2 : Int) (a1_3 : ByteArray) (l1_4 : List S38) (a1_5 : Int) (a1_6 : Int) (a1_7 : ByteArray) (l1_8 : List S38) (r : Bool) (h : laws_eqRule.fv a0_0 a0_1 a0_2 a0_3 l0_4 a0_5 a0_6 a0_7 l0_8 a1_0 a1_1 a1_2 a1_3 l1_4 a1_5 a1_6 a1_7 l1_8 = some r) : CE (G m_) 17 [.val (.agg [.int .i64 a0_0, .int .i64 a0_1, .int .i64 a0_2, .str a0_3, .row (l0_4.map e38), .int .i64 a0_5, .int .i64 a0_6, .str a0_7, .row (l0_8.map e38)]), .val (.agg [.int .i64 a1_0, .int .i64 a1_1, .int .i64 a1_2, .str a1_3, .row (l1_4.map e38), .int .i64 a1_5, .int .i64 a1_6, .str a1_7, .row (l1_8.map e38)])] [] [.val (.bool r)] [] := by
  refine CE.mk ⟨Tryz.f17, _, rfl, rfl, ⟨by kernel_rfl, Nat.le_of_ble_eq_true rfl, Nat.le_of_ble_eq_true rfl⟩, ?_⟩
  rw [laws_eqRule.fv] at h
  refine zz ?_
  refine brN (iteS h) ?_ ?_ <;> (clear h; intro c h)
  · cases h
    refine zz ?_
    first | exact ⟨trivial, [], [], ⟨rfl, trivial⟩, _, rfl, _, rfl, And.intro rfl rfl⟩ | exact ⟨[], [], ⟨rfl, trivial⟩, _, rfl, _, rfl, And.intro rfl rfl⟩
  have h_ := oS h; clear h; obtain ⟨t14, ht, h⟩ := h_
  refine zz ?_
  refine Exists.intro _ (And.intro (laws_eqNode_ev (h := ht)) ?_)
  refine zz ?_
  refine brN (iteS h) ?_ ?_ <;> (clear h; intro c h)
  · cases h
    refine zz ?_
    first | exact ⟨trivial, [], [], ⟨rfl, trivial⟩, _, rfl, _, rfl, And.intro rfl rfl⟩ | exact ⟨[], [], ⟨rfl, trivial⟩, _, rfl, _, rfl, And.intro rfl rfl⟩
  have h_ := oS h; clear h; obtain ⟨t20, ht, h⟩ := h_
  refine zz ?_
  refine Exists.intro _ (And.intro (laws_eqNode_ev (h := ht)) ?_)
  refine zz ?_
  refine brN (iteS h) ?_ ?_ <;> (clear h; intro c h)
  · cases h
    refine zz ?_
    first | exact ⟨trivial, [], [], ⟨rfl, trivial⟩, _, rfl, _, rfl, And.intro rfl rfl⟩ | exact ⟨[], [], ⟨rfl, trivial⟩, _, rfl, _, rfl, And.intro rfl rfl⟩
  cases h
  refine zz ?_
  first | exact ⟨trivial, [], [], ⟨rfl, trivial⟩, _, rfl, _, rfl, And.intro rfl rfl⟩ | exact ⟨[], [], ⟨rfl, trivial⟩, _, rfl, _, rfl, And.intro rfl rfl⟩
theorem laws_eqRuleS_ev (l0 : List S40) (l1 : List S40) (r : Bool) (h : laws_eqRuleS.fv l0 l1 = some r) : CE (G m_) 8 [.val (.row (l0.map e40)), .val (.row (l1.map e40))] [] [.val (.bool r)] [] := by
  obtain ⟨k, h⟩ := lim_ex h
  refine CE.mk ⟨Tryz.f8, _, rfl, rfl, ⟨by kernel_rfl, Nat.le_of_ble_eq_true rfl, Nat.le_of_ble_eq_true rfl⟩, ?_⟩
  rcases k with _ | k
  · exact (run_zero h).elim
  rw [run_succ, laws_eqRuleS.B] at h
  refine zz ?_
  refine brN (iP h) ?_ ?_ <;> (clear h; intro c h)
  · replace h := evR h; cases h
    refine zz ?_
    first | exact ⟨trivial, [], [], ⟨rfl, trivial⟩, _, rfl, _, rfl, And.intro rfl rfl⟩ | exact ⟨[], [], ⟨rfl, trivial⟩, _, rfl, _, rfl, And.intro rfl rfl⟩
  replace h := evT h
  refine zz ?_
  refine loopJ [] (fun kq fr hp => ∃ (x0 : List S40) (x1 : List S40) (x5 : Int), run laws_eqRuleS.B kq (.l0 x0 x1 x5) = some r ∧ (∃ fr0, fr = puts [(0, .one (.val (.row (x0.map e40)))), (1, .one (.val (.row (x1.map e40)))), (5, .one (.val (.int .i64 x5)))] fr0) ∧ hp = (fun _ => none)) k ⟨_, zfuel, _, _, _, h, leafFr [0, 1, 5] (by kernel_rfl), by kernel_rfl⟩ ?_
  clear h; rintro k hle _ _ ⟨x0, x1, x5, h, ⟨fr0, rfl⟩, rfl⟩
  rcases k with _ | k
  · exact (run_zero h).elim
  rw [run_succ, laws_eqRuleS.B] at h
  refine zz ?_
  refine br (iP h) ?_ ?_ <;> (clear h; intro c h)
  rotate_left
  · replace h := evR h; cases h
    refine zz ?_
    first | exact ⟨trivial, [], [], ⟨rfl, trivial⟩, _, rfl, _, rfl, And.intro rfl rfl⟩ | exact ⟨[], [], ⟨rfl, trivial⟩, _, rfl, _, rfl, And.intro rfl rfl⟩
  have h_ := gP h; clear h; obtain ⟨c, h⟩ := h_
  have h_ := gP h; clear h; obtain ⟨c, h⟩ := h_
  have h_ := evO h; clear h; obtain ⟨t25, ht, h⟩ := h_
  refine zz ?_
  refine Exists.intro _ (And.intro (laws_eqRule_ev (h := ht)) ?_)
  refine zz ?_
  refine brN (iP h) ?_ ?_ <;> (clear h; intro c h)
  · replace h := evR h; cases h
    refine zz ?_
    first | exact ⟨trivial, [], [], ⟨rfl, trivial⟩, _, rfl, _, rfl, And.intro rfl rfl⟩ | exact ⟨[], [], ⟨rfl, trivial⟩, _, rfl, _, rfl, And.intro rfl rfl⟩
  replace h := evT h
  refine zz ?_
  exact ⟨_, zfuel, _, _, _, h, leafFr [0, 1, 5] (by kernel_rfl), by kernel_rfl⟩
theorem laws_FnExactWrite_ev (l0 : List S34) (r : Bool) (h : laws_FnExactWrite.fv l0 = some r) : CE (G m_) 3 [.val (.row (l0.map e34))] [] [.val (.bool r)] [] := by
  refine CE.mk ⟨Tryz.f3, _, rfl, rfl, ⟨by kernel_rfl, Nat.le_of_ble_eq_true rfl, Nat.le_of_ble_eq_true rfl⟩, ?_⟩
  rw [laws_FnExactWrite.fv] at h
  have h_ := oS h; clear h; obtain ⟨t9, ht, h⟩ := h_
  refine zz ?_
  refine Exists.intro _ (And.intro (laws_szRuleS_ev (h := ht)) ?_)
  refine zz ?_
  refine br (iteS h) ?_ ?_ <;> (clear h; intro c h)
  · cases h
    refine zz ?_
    first | exact ⟨trivial, [], [], ⟨rfl, trivial⟩, _, rfl, _, rfl, And.intro rfl rfl⟩ | exact ⟨[], [], ⟨rfl, trivial⟩, _, rfl, _, rfl, And.intro rfl rfl⟩
  have h_ := oS h; clear h; obtain ⟨t13, ht, h⟩ := h_
  refine zz ?_
  refine Exists.intro _ (And.intro (laws_toRuleS_ev (h := ht)) ?_)
  have h_ := oS h; clear h; obtain ⟨t14, ht, h⟩ := h_
  refine zz ?_
  refine Exists.intro _ (And.intro (spec_Write_ev (h := ht)) ?_)
  have h_ := oS h; clear h; obtain ⟨t16, ht, h⟩ := h_
  refine zz ?_
  refine Exists.intro _ (And.intro (laws_toRuleS_ev (h := ht)) ?_)
  have h_ := oS h; clear h; obtain ⟨t18, ht, h⟩ := h_
  refine zz ?_
  refine Exists.intro _ (And.intro (impl_Write_ev (h := ht)) ?_)
  refine zz ?_
  refine brN (iteS h) ?_ ?_ <;> (clear h; intro c h)
  · cases h
    refine zz ?_
    first | exact ⟨trivial, [], [], ⟨rfl, trivial⟩, _, rfl, _, rfl, And.intro rfl rfl⟩ | exact ⟨[], [], ⟨rfl, trivial⟩, _, rfl, _, rfl, And.intro rfl rfl⟩
  have h_ := oS h; clear h; obtain ⟨t24, ht, h⟩ := h_
  refine zz ?_
  refine Exists.intro _ (And.intro (laws_toRuleS_ev (h := ht)) ?_)
  have h_ := oS h; clear h; obtain ⟨t25, ht, h⟩ := h_
  refine zz ?_
  refine Exists.intro _ (And.intro (laws_eqRuleS_ev (h := ht)) ?_)
  refine zz ?_
  refine brN (iteS h) ?_ ?_ <;> (clear h; intro c h)
  · cases h
    refine zz ?_
    first | exact ⟨trivial, [], [], ⟨rfl, trivial⟩, _, rfl, _, rfl, And.intro rfl rfl⟩ | exact ⟨[], [], ⟨rfl, trivial⟩, _, rfl, _, rfl, And.intro rfl rfl⟩
  cases h
  refine zz ?_
  first | exact ⟨trivial, [], [], ⟨rfl, trivial⟩, _, rfl, _, rfl, And.intro rfl rfl⟩ | exact ⟨[], [], ⟨rfl, trivial⟩, _, rfl, _, rfl, And.intro rfl rfl⟩
end Go.Proofs.YthgglepiopijjaaGreatDoor.TFnExactWrite
