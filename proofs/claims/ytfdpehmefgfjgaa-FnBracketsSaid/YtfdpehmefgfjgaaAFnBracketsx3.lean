/- The walks of the functions that FnBrackets reaches, through the abstract machine. -/
import Derived.Test.YtfdpehmefgfjgaaAFnBracketsh
import Derived.Test.YtfdpehmefgfjgaaAFnBracketsx2
import Derived.Test.YtfdpehmefgfjgaaFFnBrackets
import Derived.Test.YtfdpehmefgfjgaaProg
set_option maxHeartbeats 4000000
set_option maxRecDepth 100000
set_option linter.unusedVariables false
set_option linter.unusedSimpArgs false
namespace Go.Proofs.Ytfdpehmefgfjgaa.TFnBrackets
open Go Go.RowKit Go.Proofs Go.Proofs.YtfdpehmefgfjgaaW.AM Go.Proofs.Ytfdpehmefgfjgaa.QFnBrackets Go.Proofs.YtfdpehmefgfjgaaW.PrintWords Go.Proofs.YtfdpehmefgfjgaaW.Pgs
variable {m_ : Int}
theorem impl_rexRight_all : ∀ n, (∀ (k : Nat) (a0_0 : Int) (a0_1 : Int) (a0_2 : ByteArray) (a0_3 : Bool) (l0_4 : List S26) (a1 : Int) (r : Bool) (h : run impl_rexRight.B k (.impl_rexRight_f a0_0 a0_1 a0_2 a0_3 l0_4 a1) = some r) (hk : k < n), CE (G m_) 54 [.val (.agg [.int .i64 a0_0, .int .i64 a0_1, .str a0_2, .bool a0_3, .row (l0_4.map e26)]), .val (.int .i64 a1)] [] [.val (.bool r)] []) ∧ (∀ (k : Nat) (l0 : List S26) (a1q0_0 : Int) (r : Bool) (h : run impl_rexRight.B k (.slices_ContainsFunc_impl_Rex_impl_Rex__impl_rexRight_1_f l0 a1q0_0) = some r) (hk : k < n), CE (G m_) 95 [.val (.row (l0.map e26)), .fn 96 [0]] [.box [.val (.int .i64 a1q0_0)]] [.val (.bool r)] [.box [.val (.int .i64 a1q0_0)]]) ∧ (∀ (k : Nat) (l0 : List S26) (a1q0_0 : Int) (r : Int) (h : run impl_rexRight.B k (.slices_IndexFunc_impl_Rex_impl_Rex__impl_rexRight_1_f l0 a1q0_0) = some r) (hk : k < n), CE (G m_) 119 [.val (.row (l0.map e26)), .fn 96 [0]] [.box [.val (.int .i64 a1q0_0)]] [.val (.int .i64 r)] [.box [.val (.int .i64 a1q0_0)]]) ∧ (∀ (k : Nat) (a0_0 : Int) (a0_1 : Int) (a0_2 : ByteArray) (a0_3 : Bool) (l0_4 : List S26) (a1_0 : Int) (r : Bool) (h : run impl_rexRight.B k (.impl_rexRight_1_f a0_0 a0_1 a0_2 a0_3 l0_4 a1_0) = some r) (hk : k < n), CE (G m_) 96 [.val (.agg [.int .i64 a0_0, .int .i64 a0_1, .str a0_2, .bool a0_3, .row (l0_4.map e26)]), .ptr 0 0] [.box [.val (.int .i64 a1_0)]] [.val (.bool r)] [.box [.val (.int .i64 a1_0)]]) := by
  intro n
  induction n with
  | zero => exact ⟨by intros; omega, by intros; omega, by intros; omega, by intros; omega⟩
  | succ n ih =>
    refine ⟨?_, ?_, ?_, ?_⟩
    · intro k a0_0 a0_1 a0_2 a0_3 l0_4 a1 r h hk
      refine CE.mk ⟨Try.f54, _, rfl, rfl, ⟨by kernel_rfl, Nat.le_of_ble_eq_true rfl, Nat.le_of_ble_eq_true rfl⟩, ?_⟩
      rcases k with _ | k
      · exact (run_zero h).elim
      rw [run_succ, impl_rexRight.B] at h
      refine zz ?_
      refine cutJ (n := 31) [16, 17] (fun fr hp => ∃ kq, kq ≤ k ∧ ∃ (x16_0 : Int) (x16_1 : Int) (x16_2 : ByteArray) (x16_3 : Bool) (x16_4 : List S26) (x17_0 : Int), run impl_rexRight.B kq (.impl_rexRight_j0 x16_0 x16_1 x16_2 x16_3 x16_4 x17_0) = some r ∧ (∃ fr0, fr = puts [(2, .one (.ptr 16 0)), (3, .one (.ptr 17 0))] fr0) ∧ hp = (upd 16 (.box [.val (.int .i64 x16_0), .val (.int .i64 x16_1), .val (.str x16_2), .val (.bool x16_3), .val (.row (x16_4.map e26))]) (upd 17 (.box [.val (.int .i64 x17_0)]) (fun _ => none)))) ?_ ?_
      · refine zz ?_
        refine cutJ (n := 200001) [16, 17] (fun fr hp => ∃ kq, kq ≤ k ∧ ∃ (x31 : Bool) (x16_0 : Int) (x16_1 : Int) (x16_2 : ByteArray) (x16_3 : Bool) (x16_4 : List S26) (x17_0 : Int), run impl_rexRight.B kq (.impl_rexRight_j1 x31 x16_0 x16_1 x16_2 x16_3 x16_4 x17_0) = some r ∧ (∃ fr0, fr = puts [(2, .one (.ptr 16 0)), (3, .one (.ptr 17 0)), (31, .one (.val (.bool x31)))] fr0) ∧ hp = (upd 16 (.box [.val (.int .i64 x16_0), .val (.int .i64 x16_1), .val (.str x16_2), .val (.bool x16_3), .val (.row (x16_4.map e26))]) (upd 17 (.box [.val (.int .i64 x17_0)]) (fun _ => none)))) ?_ ?_
        · refine zz ?_
          refine brW (iP h) ?_ ?_ <;> (clear h; intro c h)
          rotate_left
          · refine zz ?_
            try (apply Or.inr; refine And.intro (by first | rfl | exact zboolK) ?_)
            refine zz ?_
            try (apply Or.inr; refine And.intro (by first | rfl | exact zboolK) ?_)
            refine zz ?_
            try (apply Or.inr; refine And.intro (by first | rfl | exact zboolK) ?_)
            refine zz ?_
            try (apply Or.inr; refine And.intro (by first | rfl | exact zboolK) ?_)
            refine zz ?_
            try (apply Or.inl; refine And.intro (by first | rfl | exact zboolK) ?_)
            refine zz ?_
            try (apply Or.inr; refine And.intro (by first | rfl | exact zboolK) ?_)
            refine zz ?_
            try (apply Or.inr; refine And.intro (by first | rfl | exact zboolK) ?_)
            refine zz ?_
            try (apply Or.inr; refine And.intro (by first | rfl | exact zboolK) ?_)
            refine zz ?_
            try (apply Or.inr; refine And.intro (by first | rfl | exact zboolK) ?_)
            refine zz ?_
            try (apply Or.inr; refine And.intro (by first | rfl | exact zboolK) ?_)
            refine zz ?_
            try (apply Or.inl; refine And.intro (by first | rfl | exact zboolK) ?_)
            replace h := evT h
            refine zz ?_
            exact ⟨_, zfuel, _, _, _, _, _, _, _, h, leafFr [2, 3, 31] (by kernel_rfl), by kernel_rfl⟩
          refine zz ?_
          try (apply Or.inl; refine And.intro (by first | rfl | exact zboolK) ?_)
          refine zz ?_
          try (apply Or.inl; refine And.intro (by first | rfl | exact zboolK) ?_)
          refine zz ?_
          try (apply Or.inl; refine And.intro (by first | rfl | exact zboolK) ?_)
          refine zz ?_
          refine brN (iP h) ?_ ?_ <;> (clear h; intro c h)
          rotate_left
          · refine zz ?_
            try (apply Or.inr; refine And.intro (by first | rfl | exact zboolK) ?_)
            refine zz ?_
            try (apply Or.inr; refine And.intro (by first | rfl | exact zboolK) ?_)
            refine zz ?_
            try (apply Or.inl; refine And.intro (by first | rfl | exact zboolK) ?_)
            refine zz ?_
            try (apply Or.inr; refine And.intro (by first | rfl | exact zboolK) ?_)
            refine zz ?_
            try (apply Or.inr; refine And.intro (by first | rfl | exact zboolK) ?_)
            refine zz ?_
            try (apply Or.inl; refine And.intro (by first | rfl | exact zboolK) ?_)
            refine zz ?_
            try (apply Or.inl; refine And.intro (by first | rfl | exact zboolK) ?_)
            refine zz ?_
            try (apply Or.inl; refine And.intro (by first | rfl | exact zboolK) ?_)
            refine zz ?_
            try (apply Or.inl; refine And.intro (by first | rfl | exact zboolK) ?_)
            refine zz ?_
            refine brN (iP h) ?_ ?_ <;> (clear h; intro c h)
            rotate_left
            · refine zz ?_
              try (apply Or.inr; refine And.intro (by first | rfl | exact zboolK) ?_)
              refine zz ?_
              try (apply Or.inr; refine And.intro (by first | rfl | exact zboolK) ?_)
              refine zz ?_
              try (apply Or.inr; refine And.intro (by first | rfl | exact zboolK) ?_)
              refine zz ?_
              try (apply Or.inr; refine And.intro (by first | rfl | exact zboolK) ?_)
              refine zz ?_
              try (apply Or.inl; refine And.intro (by first | rfl | exact zboolK) ?_)
              refine zz ?_
              try (apply Or.inr; refine And.intro (by first | rfl | exact zboolK) ?_)
              refine zz ?_
              try (apply Or.inr; refine And.intro (by first | rfl | exact zboolK) ?_)
              replace h := evT h
              refine zz ?_
              exact ⟨_, zfuel, _, _, _, _, _, _, _, h, leafFr [2, 3, 31] (by kernel_rfl), by kernel_rfl⟩
            refine zz ?_
            try (apply Or.inl; refine And.intro (by first | rfl | exact zboolK) ?_)
            refine zz ?_
            try (apply Or.inl; refine And.intro (by first | rfl | exact zboolK) ?_)
            refine zz ?_
            try (apply Or.inl; refine And.intro (by first | rfl | exact zboolK) ?_)
            refine zz ?_
            refine brX (iP h) ?_ ?_ <;> (clear h; intro c h)
            · refine zz ?_
              try (apply Or.inl; refine And.intro (by first | rfl | exact zboolK) ?_)
              refine zz ?_
              try (apply Or.inl; refine And.intro (by first | rfl | exact zboolK) ?_)
              refine zz ?_
              try (apply Or.inr; refine And.intro (by first | rfl | exact zboolK) ?_)
              refine zz ?_
              try (apply Or.inl; refine And.intro (by first | rfl | exact zboolK) ?_)
              refine zz ?_
              try (apply Or.inl; refine And.intro (by first | rfl | exact zboolK) ?_)
              refine zz ?_
              try (apply Or.inr; refine And.intro (by first | rfl | exact zboolK) ?_)
              replace h := evT h
              refine zz ?_
              exact ⟨_, zfuel, _, _, _, _, _, _, _, h, leafFr [2, 3, 31] (by kernel_rfl), by kernel_rfl⟩
            refine zz ?_
            try (apply Or.inr; refine And.intro (by first | rfl | exact zboolK) ?_)
            refine zz ?_
            try (apply Or.inl; refine And.intro (by first | rfl | exact zboolK) ?_)
            refine zz ?_
            try (apply Or.inl; refine And.intro (by first | rfl | exact zboolK) ?_)
            refine zz ?_
            try (apply Or.inl; refine And.intro (by first | rfl | exact zboolK) ?_)
            refine zz ?_
            try (apply Or.inl; refine And.intro (by first | rfl | exact zboolK) ?_)
            refine zz ?_
            try (apply Or.inr; refine And.intro (by first | rfl | exact zboolK) ?_)
            replace h := evT h
            refine zz ?_
            exact ⟨_, zfuel, _, _, _, _, _, _, _, h, leafFr [2, 3, 31] (by kernel_rfl), by kernel_rfl⟩
          refine zz ?_
          try (apply Or.inl; refine And.intro (by first | rfl | exact zboolK) ?_)
          refine zz ?_
          try (apply Or.inl; refine And.intro (by first | rfl | exact zboolK) ?_)
          refine zz ?_
          try (apply Or.inl; refine And.intro (by first | rfl | exact zboolK) ?_)
          refine zz ?_
          try (apply Or.inl; refine And.intro (by first | rfl | exact zboolK) ?_)
          refine zz ?_
          try (apply Or.inr; refine And.intro (by first | rfl | exact zboolK) ?_)
          refine zz ?_
          refine brX (iP h) ?_ ?_ <;> (clear h; intro c h)
          rotate_left
          · refine zz ?_
            try (apply Or.inr; refine And.intro (by first | rfl | exact zboolK) ?_)
            refine zz ?_
            try (apply Or.inr; refine And.intro (by first | rfl | exact zboolK) ?_)
            refine zz ?_
            try (apply Or.inr; refine And.intro (by first | rfl | exact zboolK) ?_)
            refine zz ?_
            try (apply Or.inr; refine And.intro (by first | rfl | exact zboolK) ?_)
            refine zz ?_
            try (apply Or.inl; refine And.intro (by first | rfl | exact zboolK) ?_)
            replace h := evT h
            refine zz ?_
            exact ⟨_, zfuel, _, _, _, _, _, _, _, h, leafFr [2, 3, 31] (by kernel_rfl), by kernel_rfl⟩
          refine zz ?_
          try (apply Or.inl; refine And.intro (by first | rfl | exact zboolK) ?_)
          refine zz ?_
          try (apply Or.inl; refine And.intro (by first | rfl | exact zboolK) ?_)
          refine zz ?_
          try (apply Or.inl; refine And.intro (by first | rfl | exact zboolK) ?_)
          refine zz ?_
          refine brN (iP h) ?_ ?_ <;> (clear h; intro c h)
          rotate_left
          · refine zz ?_
            try (apply Or.inr; refine And.intro (by first | rfl | exact zboolK) ?_)
            refine zz ?_
            try (apply Or.inr; refine And.intro (by first | rfl | exact zboolK) ?_)
            refine zz ?_
            try (apply Or.inr; refine And.intro (by first | rfl | exact zboolK) ?_)
            refine zz ?_
            try (apply Or.inr; refine And.intro (by first | rfl | exact zboolK) ?_)
            refine zz ?_
            try (apply Or.inl; refine And.intro (by first | rfl | exact zboolK) ?_)
            refine zz ?_
            try (apply Or.inr; refine And.intro (by first | rfl | exact zboolK) ?_)
            refine zz ?_
            try (apply Or.inr; refine And.intro (by first | rfl | exact zboolK) ?_)
            replace h := evT h
            refine zz ?_
            exact ⟨_, zfuel, _, _, _, _, _, _, _, h, leafFr [2, 3, 31] (by kernel_rfl), by kernel_rfl⟩
          refine zz ?_
          try (apply Or.inl; refine And.intro (by first | rfl | exact zboolK) ?_)
          refine zz ?_
          try (apply Or.inl; refine And.intro (by first | rfl | exact zboolK) ?_)
          refine zz ?_
          try (apply Or.inl; refine And.intro (by first | rfl | exact zboolK) ?_)
          refine zz ?_
          refine brX (iP h) ?_ ?_ <;> (clear h; intro c h)
          · refine zz ?_
            try (apply Or.inl; refine And.intro (by first | rfl | exact zboolK) ?_)
            refine zz ?_
            try (apply Or.inl; refine And.intro (by first | rfl | exact zboolK) ?_)
            refine zz ?_
            try (apply Or.inr; refine And.intro (by first | rfl | exact zboolK) ?_)
            refine zz ?_
            try (apply Or.inl; refine And.intro (by first | rfl | exact zboolK) ?_)
            refine zz ?_
            try (apply Or.inl; refine And.intro (by first | rfl | exact zboolK) ?_)
            refine zz ?_
            try (apply Or.inr; refine And.intro (by first | rfl | exact zboolK) ?_)
            replace h := evT h
            refine zz ?_
            exact ⟨_, zfuel, _, _, _, _, _, _, _, h, leafFr [2, 3, 31] (by kernel_rfl), by kernel_rfl⟩
          refine zz ?_
          try (apply Or.inr; refine And.intro (by first | rfl | exact zboolK) ?_)
          refine zz ?_
          try (apply Or.inl; refine And.intro (by first | rfl | exact zboolK) ?_)
          refine zz ?_
          try (apply Or.inl; refine And.intro (by first | rfl | exact zboolK) ?_)
          refine zz ?_
          try (apply Or.inl; refine And.intro (by first | rfl | exact zboolK) ?_)
          refine zz ?_
          try (apply Or.inl; refine And.intro (by first | rfl | exact zboolK) ?_)
          refine zz ?_
          try (apply Or.inr; refine And.intro (by first | rfl | exact zboolK) ?_)
          replace h := evT h
          refine zz ?_
          exact ⟨_, zfuel, _, _, _, _, _, _, _, h, leafFr [2, 3, 31] (by kernel_rfl), by kernel_rfl⟩
        clear h; rintro _ _ ⟨k, hle, x31, x16_0, x16_1, x16_2, x16_3, x16_4, x17_0, h, ⟨fr0, rfl⟩, rfl⟩
        rcases k with _ | k
        · exact (run_zero h).elim
        rw [run_succ, impl_rexRight.B] at h
        refine zz ?_
        refine br (iP h) ?_ ?_ <;> (clear h; intro c h)
        · replace h := evR h; cases h
          refine zz ?_
          first | exact ⟨trivial, [], [], ⟨rfl, trivial⟩, _, rfl, _, rfl, And.intro rfl rfl⟩ | exact ⟨[], [], ⟨rfl, trivial⟩, _, rfl, _, rfl, And.intro rfl rfl⟩
        replace h := evT h
        refine zz ?_
        exact ⟨_, zfuel, _, _, _, _, _, _, h, leafFr [2, 3] (by kernel_rfl), by kernel_rfl⟩
      clear h; rintro _ _ ⟨k, hle, x16_0, x16_1, x16_2, x16_3, x16_4, x17_0, h, ⟨fr0, rfl⟩, rfl⟩
      rcases k with _ | k
      · exact (run_zero h).elim
      rw [run_succ, impl_rexRight.B] at h
      refine zz ?_
      refine cutJ (n := 100000) [16, 17] (fun fr hp => ∃ kq, kq ≤ k ∧ ∃ (x5 : Bool) (x16_0 : Int) (x16_1 : Int) (x16_2 : ByteArray) (x16_3 : Bool) (x16_4 : List S26) (x17_0 : Int), run impl_rexRight.B kq (.impl_rexRight_j2 x5 x16_0 x16_1 x16_2 x16_3 x16_4 x17_0) = some r ∧ (∃ fr0, fr = puts [(2, .one (.ptr 16 0)), (3, .one (.ptr 17 0)), (5, .one (.val (.bool x5)))] fr0) ∧ hp = (upd 16 (.box [.val (.int .i64 x16_0), .val (.int .i64 x16_1), .val (.str x16_2), .val (.bool x16_3), .val (.row (x16_4.map e26))]) (upd 17 (.box [.val (.int .i64 x17_0)]) (fun _ => none)))) ?_ ?_
      · refine zz ?_
        refine br (iP h) ?_ ?_ <;> (clear h; intro c h)
        · have h_ := evO h; clear h; obtain ⟨t38, ht, h⟩ := h_
          refine zz ?_
          refine Exists.intro _ (And.intro (impl_in_ev (h := ht)) ?_)
          refine zz ?_
          refine br (iP h) ?_ ?_ <;> (clear h; intro c h)
          · refine zz ?_
            try (apply Or.inl; refine And.intro (by first | rfl | exact zboolK) ?_)
            refine zz ?_
            try (apply Or.inl; refine And.intro (by first | rfl | exact zboolK) ?_)
            refine zz ?_
            try (apply Or.inl; refine And.intro (by first | rfl | exact zboolK) ?_)
            refine zz ?_
            try (apply Or.inl; refine And.intro (by first | rfl | exact zboolK) ?_)
            replace h := evT h
            refine zz ?_
            exact ⟨_, zfuel, _, _, _, _, _, _, _, h, leafFr [2, 3, 5] (by kernel_rfl), by kernel_rfl⟩
          refine zz ?_
          try (apply Or.inr; refine And.intro (by first | rfl | exact zboolK) ?_)
          refine zz ?_
          try (apply Or.inr; refine And.intro (by first | rfl | exact zboolK) ?_)
          refine zz ?_
          try (apply Or.inr; refine And.intro (by first | rfl | exact zboolK) ?_)
          refine zz ?_
          try (apply Or.inr; refine And.intro (by first | rfl | exact zboolK) ?_)
          replace h := evT h
          refine zz ?_
          exact ⟨_, zfuel, _, _, _, _, _, _, _, h, leafFr [2, 3, 5] (by kernel_rfl), by kernel_rfl⟩
        refine zz ?_
        refine cutJ (n := 45) [16, 17] (fun fr hp => ∃ kq, kq ≤ k ∧ ∃ (x5 : Bool) (x33 : Int) (x45 : Bool) (x16_0 : Int) (x16_1 : Int) (x16_2 : ByteArray) (x16_3 : Bool) (x16_4 : List S26) (x17_0 : Int), run impl_rexRight.B kq (.impl_rexRight_j3 x5 x33 x45 x16_0 x16_1 x16_2 x16_3 x16_4 x17_0) = some r ∧ (∃ fr0, fr = puts [(2, .one (.ptr 16 0)), (3, .one (.ptr 17 0)), (5, .one (.val (.bool x5))), (33, .one (.val (.int .i64 x33))), (45, .one (.val (.bool x45)))] fr0) ∧ hp = (upd 16 (.box [.val (.int .i64 x16_0), .val (.int .i64 x16_1), .val (.str x16_2), .val (.bool x16_3), .val (.row (x16_4.map e26))]) (upd 17 (.box [.val (.int .i64 x17_0)]) (fun _ => none)))) ?_ ?_
        · refine zz ?_
          refine br (iP h) ?_ ?_ <;> (clear h; intro c h)
          · replace h := evT h
            refine zz ?_
            exact ⟨_, zfuel, _, _, _, _, _, _, _, _, _, h, leafFr [2, 3, 5, 33, 45] (by kernel_rfl), by kernel_rfl⟩
          refine zz ?_
          refine br (iP h) ?_ ?_ <;> (clear h; intro c h)
          · replace h := evT h
            refine zz ?_
            exact ⟨_, zfuel, _, _, _, _, _, _, _, _, _, h, leafFr [2, 3, 5, 33, 45] (by kernel_rfl), by kernel_rfl⟩
          refine zz ?_
          refine br (iP h) ?_ ?_ <;> (clear h; intro c h)
          · replace h := evT h
            refine zz ?_
            exact ⟨_, zfuel, _, _, _, _, _, _, _, _, _, h, leafFr [2, 3, 5, 33, 45] (by kernel_rfl), by kernel_rfl⟩
          replace h := evT h
          refine zz ?_
          exact ⟨_, zfuel, _, _, _, _, _, _, _, _, _, h, leafFr [2, 3, 5, 33, 45] (by kernel_rfl), by kernel_rfl⟩
        clear h; rintro _ _ ⟨k, hle, x5, x33, x45, x16_0, x16_1, x16_2, x16_3, x16_4, x17_0, h, ⟨fr0, rfl⟩, rfl⟩
        rcases k with _ | k
        · exact (run_zero h).elim
        rw [run_succ, impl_rexRight.B] at h
        refine zz ?_
        refine br (iP h) ?_ ?_ <;> (clear h; intro c h)
        · replace h := evT h
          refine zz ?_
          exact ⟨_, zfuel, _, _, _, _, _, _, _, h, leafFr [2, 3, 5] (by kernel_rfl), by kernel_rfl⟩
        refine zz ?_
        refine br (iP h) ?_ ?_ <;> (clear h; intro c h)
        · have h_ := evO h; clear h; obtain ⟨t57, ht, h⟩ := h_
          refine zz ?_
          refine Exists.intro _ (And.intro (impl_setRight_ev (h := ht)) ?_)
          refine zz ?_
          refine br (iP h) ?_ ?_ <;> (clear h; intro c h)
          · refine zz ?_
            try (apply Or.inl; refine And.intro (by first | rfl | exact zboolK) ?_)
            refine zz ?_
            try (apply Or.inl; refine And.intro (by first | rfl | exact zboolK) ?_)
            refine zz ?_
            try (apply Or.inl; refine And.intro (by first | rfl | exact zboolK) ?_)
            refine zz ?_
            try (apply Or.inl; refine And.intro (by first | rfl | exact zboolK) ?_)
            replace h := evT h
            refine zz ?_
            exact ⟨_, zfuel, _, _, _, _, _, _, _, h, leafFr [2, 3, 5] (by kernel_rfl), by kernel_rfl⟩
          refine zz ?_
          try (apply Or.inr; refine And.intro (by first | rfl | exact zboolK) ?_)
          refine zz ?_
          try (apply Or.inr; refine And.intro (by first | rfl | exact zboolK) ?_)
          refine zz ?_
          try (apply Or.inr; refine And.intro (by first | rfl | exact zboolK) ?_)
          refine zz ?_
          try (apply Or.inr; refine And.intro (by first | rfl | exact zboolK) ?_)
          replace h := evT h
          refine zz ?_
          exact ⟨_, zfuel, _, _, _, _, _, _, _, h, leafFr [2, 3, 5] (by kernel_rfl), by kernel_rfl⟩
        refine zz ?_
        refine cutJ (n := 64) [16, 17] (fun fr hp => ∃ kq, kq ≤ k ∧ ∃ (x5 : Bool) (x33 : Int) (x64 : Bool) (x16_0 : Int) (x16_1 : Int) (x16_2 : ByteArray) (x16_3 : Bool) (x16_4 : List S26) (x17_0 : Int), run impl_rexRight.B kq (.impl_rexRight_j4 x5 x33 x64 x16_0 x16_1 x16_2 x16_3 x16_4 x17_0) = some r ∧ (∃ fr0, fr = puts [(2, .one (.ptr 16 0)), (3, .one (.ptr 17 0)), (5, .one (.val (.bool x5))), (33, .one (.val (.int .i64 x33))), (64, .one (.val (.bool x64)))] fr0) ∧ hp = (upd 16 (.box [.val (.int .i64 x16_0), .val (.int .i64 x16_1), .val (.str x16_2), .val (.bool x16_3), .val (.row (x16_4.map e26))]) (upd 17 (.box [.val (.int .i64 x17_0)]) (fun _ => none)))) ?_ ?_
        · refine zz ?_
          refine br (iP h) ?_ ?_ <;> (clear h; intro c h)
          · replace h := evT h
            refine zz ?_
            exact ⟨_, zfuel, _, _, _, _, _, _, _, _, _, h, leafFr [2, 3, 5, 33, 64] (by kernel_rfl), by kernel_rfl⟩
          replace h := evT h
          refine zz ?_
          exact ⟨_, zfuel, _, _, _, _, _, _, _, _, _, h, leafFr [2, 3, 5, 33, 64] (by kernel_rfl), by kernel_rfl⟩
        clear h; rintro _ _ ⟨k, hle, x5, x33, x64, x16_0, x16_1, x16_2, x16_3, x16_4, x17_0, h, ⟨fr0, rfl⟩, rfl⟩
        rcases k with _ | k
        · exact (run_zero h).elim
        rw [run_succ, impl_rexRight.B] at h
        refine zz ?_
        refine br (iP h) ?_ ?_ <;> (clear h; intro c h)
        · replace h := evT h
          refine zz ?_
          exact ⟨_, zfuel, _, _, _, _, _, _, _, h, leafFr [2, 3, 5] (by kernel_rfl), by kernel_rfl⟩
        refine zz ?_
        refine cutJ (n := 71) [16, 17] (fun fr hp => ∃ kq, kq ≤ k ∧ ∃ (x5 : Bool) (x71 : Bool) (x16_0 : Int) (x16_1 : Int) (x16_2 : ByteArray) (x16_3 : Bool) (x16_4 : List S26) (x17_0 : Int), run impl_rexRight.B kq (.impl_rexRight_j5 x5 x71 x16_0 x16_1 x16_2 x16_3 x16_4 x17_0) = some r ∧ (∃ fr0, fr = puts [(2, .one (.ptr 16 0)), (3, .one (.ptr 17 0)), (5, .one (.val (.bool x5))), (71, .one (.val (.bool x71)))] fr0) ∧ hp = (upd 16 (.box [.val (.int .i64 x16_0), .val (.int .i64 x16_1), .val (.str x16_2), .val (.bool x16_3), .val (.row (x16_4.map e26))]) (upd 17 (.box [.val (.int .i64 x17_0)]) (fun _ => none)))) ?_ ?_
        · refine zz ?_
          refine br (iP h) ?_ ?_ <;> (clear h; intro c h)
          · replace h := evT h
            refine zz ?_
            exact ⟨_, zfuel, _, _, _, _, _, _, _, _, h, leafFr [2, 3, 5, 71] (by kernel_rfl), by kernel_rfl⟩
          refine zz ?_
          refine br (iP h) ?_ ?_ <;> (clear h; intro c h)
          · replace h := evT h
            refine zz ?_
            exact ⟨_, zfuel, _, _, _, _, _, _, _, _, h, leafFr [2, 3, 5, 71] (by kernel_rfl), by kernel_rfl⟩
          replace h := evT h
          refine zz ?_
          exact ⟨_, zfuel, _, _, _, _, _, _, _, _, h, leafFr [2, 3, 5, 71] (by kernel_rfl), by kernel_rfl⟩
        clear h; rintro _ _ ⟨k, hle, x5, x71, x16_0, x16_1, x16_2, x16_3, x16_4, x17_0, h, ⟨fr0, rfl⟩, rfl⟩
        rcases k with _ | k
        · exact (run_zero h).elim
        rw [run_succ, impl_rexRight.B] at h
        refine zz ?_
        refine br (iP h) ?_ ?_ <;> (clear h; intro c h)
        · replace h := evT h
          refine zz ?_
          exact ⟨_, zfuel, _, _, _, _, _, _, _, h, leafFr [2, 3, 5] (by kernel_rfl), by kernel_rfl⟩
        replace h := evT h
        refine zz ?_
        exact ⟨_, zfuel, _, _, _, _, _, _, _, h, leafFr [2, 3, 5] (by kernel_rfl), by kernel_rfl⟩
      clear h; rintro _ _ ⟨k, hle, x5, x16_0, x16_1, x16_2, x16_3, x16_4, x17_0, h, ⟨fr0, rfl⟩, rfl⟩
      rcases k with _ | k
      · exact (run_zero h).elim
      rw [run_succ, impl_rexRight.B] at h
      refine zz ?_
      refine br (iP h) ?_ ?_ <;> (clear h; intro c h)
      rotate_left
      · refine zz ?_
        try (apply Or.inr; refine And.intro (by first | rfl | exact zboolK) ?_)
        refine zz ?_
        try (apply Or.inr; refine And.intro (by first | rfl | exact zboolK) ?_)
        refine zz ?_
        try (apply Or.inr; refine And.intro (by first | rfl | exact zboolK) ?_)
        refine zz ?_
        try (apply Or.inr; refine And.intro (by first | rfl | exact zboolK) ?_)
        refine zz ?_
        try (apply Or.inr; refine And.intro (by first | rfl | exact zboolK) ?_)
        replace h := evR h; cases h
        refine zz ?_
        first | exact ⟨trivial, [], [], ⟨rfl, trivial⟩, _, rfl, _, rfl, And.intro rfl rfl⟩ | exact ⟨[], [], ⟨rfl, trivial⟩, _, rfl, _, rfl, And.intro rfl rfl⟩
      refine zz ?_
      try (apply Or.inl; refine And.intro (by first | rfl | exact zboolK) ?_)
      refine zz ?_
      try (apply Or.inl; refine And.intro (by first | rfl | exact zboolK) ?_)
      refine zz ?_
      try (apply Or.inl; refine And.intro (by first | rfl | exact zboolK) ?_)
      have h_ := evA h; clear h; obtain ⟨t84, ht, h⟩ := h_
      refine zz ?_
      refine Exists.intro _ (Exists.intro _ (And.intro (ih.2.1 _ (h := ht) (hk := zfuel)) ?_))
      refine zz ?_
      try (apply Or.inl; refine And.intro (by first | rfl | exact zboolK) ?_)
      refine zz ?_
      try (apply Or.inl; refine And.intro (by first | rfl | exact zboolK) ?_)
      replace h := evR h; cases h
      refine zz ?_
      first | exact ⟨trivial, [], [], ⟨rfl, trivial⟩, _, rfl, _, rfl, And.intro rfl rfl⟩ | exact ⟨[], [], ⟨rfl, trivial⟩, _, rfl, _, rfl, And.intro rfl rfl⟩
    · intro k l0 a1q0_0 r h hk
      refine CE.mk ⟨Try.f95, _, rfl, rfl, ⟨by kernel_rfl, Nat.le_of_ble_eq_true rfl, Nat.le_of_ble_eq_true rfl⟩, ?_⟩
      rcases k with _ | k
      · exact (run_zero h).elim
      rw [run_succ, impl_rexRight.B] at h
      have h_ := evA h; clear h; obtain ⟨t7, ht, h⟩ := h_
      refine zz ?_
      refine Exists.intro _ (Exists.intro _ (And.intro (ih.2.2.1 _ (h := ht) (hk := zfuel)) ?_))
      replace h := evR h; cases h
      refine zz ?_
      first | exact ⟨trivial, [], [], ⟨rfl, trivial⟩, _, rfl, _, rfl, And.intro rfl rfl⟩ | exact ⟨[], [], ⟨rfl, trivial⟩, _, rfl, _, rfl, And.intro rfl rfl⟩
    · intro k l0 a1q0_0 r h hk
      refine CE.mk ⟨Try.f119, _, rfl, rfl, ⟨by kernel_rfl, Nat.le_of_ble_eq_true rfl, Nat.le_of_ble_eq_true rfl⟩, ?_⟩
      rcases k with _ | k
      · exact (run_zero h).elim
      rw [run_succ, impl_rexRight.B] at h
      replace h := evT h
      refine zz ?_
      refine loopJ [0] (fun kq fr hp => ∃ (x0 : List S26) (x7 : Int) (x8 : Int), run impl_rexRight.B kq (.slices_IndexFunc_impl_Rex_impl_Rex__impl_rexRight_1_l0 x0 x7 x8 a1q0_0) = some r ∧ (∃ fr0, fr = puts [(0, .one (.val (.row (x0.map e26)))), (1, .one (.fn 96 [0])), (7, .one (.val (.int .i64 x7))), (8, .one (.val (.int .i64 x8)))] fr0) ∧ hp = (upd 0 (.box [.val (.int .i64 a1q0_0)]) (fun _ => none))) k ⟨_, zfuel, _, _, _, h, leafFr [0, 1, 7, 8] (by kernel_rfl), by kernel_rfl⟩ ?_
      clear h; rintro k hle _ _ ⟨x0, x7, x8, h, ⟨fr0, rfl⟩, rfl⟩
      rcases k with _ | k
      · exact (run_zero h).elim
      rw [run_succ, impl_rexRight.B] at h
      refine zz ?_
      refine br (iP h) ?_ ?_ <;> (clear h; intro c h)
      rotate_left
      · replace h := evR h; cases h
        refine zz ?_
        first | exact ⟨trivial, [], [], ⟨rfl, trivial⟩, _, rfl, _, rfl, And.intro rfl rfl⟩ | exact ⟨[], [], ⟨rfl, trivial⟩, _, rfl, _, rfl, And.intro rfl rfl⟩
      have h_ := gP h; clear h; obtain ⟨c, h⟩ := h_
      have h_ := gP h; clear h; obtain ⟨c, h⟩ := h_
      have h_ := evA h; clear h; obtain ⟨t16, ht, h⟩ := h_
      refine zz ?_
      refine Exists.intro _ (Exists.intro _ (And.intro (ih.2.2.2 _ (h := ht) (hk := zfuel)) ?_))
      refine zz ?_
      refine br (iP h) ?_ ?_ <;> (clear h; intro c h)
      · replace h := evR h; cases h
        refine zz ?_
        first | exact ⟨trivial, [], [], ⟨rfl, trivial⟩, _, rfl, _, rfl, And.intro rfl rfl⟩ | exact ⟨[], [], ⟨rfl, trivial⟩, _, rfl, _, rfl, And.intro rfl rfl⟩
      replace h := evT h
      refine zz ?_
      exact ⟨_, zfuel, _, _, _, h, leafFr [0, 1, 7, 8] (by kernel_rfl), by kernel_rfl⟩
    · intro k a0_0 a0_1 a0_2 a0_3 l0_4 a1_0 r h hk
      refine CE.mk ⟨Try.f96, _, rfl, rfl, ⟨by kernel_rfl, Nat.le_of_ble_eq_true rfl, Nat.le_of_ble_eq_true rfl⟩, ?_⟩
      rcases k with _ | k
      · exact (run_zero h).elim
      rw [run_succ, impl_rexRight.B] at h
      have h_ := evA h; clear h; obtain ⟨t7, ht, h⟩ := h_
      refine zz ?_
      refine Exists.intro _ (And.intro (ih.1 _ (h := ht) (hk := zfuel)) ?_)
      replace h := evR h; cases h
      refine zz ?_
      first | exact ⟨trivial, [], [], ⟨rfl, trivial⟩, _, rfl, _, rfl, And.intro rfl rfl⟩ | exact ⟨[], [], ⟨rfl, trivial⟩, _, rfl, _, rfl, And.intro rfl rfl⟩
theorem impl_rexRight_ev (a0_0 : Int) (a0_1 : Int) (a0_2 : ByteArray) (a0_3 : Bool) (l0_4 : List S26) (a1 : Int) (r : Bool) (h : impl_rexRight.fv a0_0 a0_1 a0_2 a0_3 l0_4 a1 = some r) : CE (G m_) 54 [.val (.agg [.int .i64 a0_0, .int .i64 a0_1, .str a0_2, .bool a0_3, .row (l0_4.map e26)]), .val (.int .i64 a1)] [] [.val (.bool r)] [] := by
  obtain ⟨k, h⟩ := lim_ex h
  exact (impl_rexRight_all (k + 1)).1 k _ _ _ _ _ _ _ h (Nat.lt_succ_self k)
theorem slices_ContainsFunc_impl_Rex_impl_Rex__impl_rexRight_1_ev (l0 : List S26) (a1q0_0 : Int) (r : Bool) (h : slices_ContainsFunc_impl_Rex_impl_Rex__impl_rexRight_1.fv l0 a1q0_0 = some r) : CE (G m_) 95 [.val (.row (l0.map e26)), .fn 96 [0]] [.box [.val (.int .i64 a1q0_0)]] [.val (.bool r)] [.box [.val (.int .i64 a1q0_0)]] := by
  obtain ⟨k, h⟩ := lim_ex h
  exact (impl_rexRight_all (k + 1)).2.1 k _ _ _ h (Nat.lt_succ_self k)
theorem slices_IndexFunc_impl_Rex_impl_Rex__impl_rexRight_1_ev (l0 : List S26) (a1q0_0 : Int) (r : Int) (h : slices_IndexFunc_impl_Rex_impl_Rex__impl_rexRight_1.fv l0 a1q0_0 = some r) : CE (G m_) 119 [.val (.row (l0.map e26)), .fn 96 [0]] [.box [.val (.int .i64 a1q0_0)]] [.val (.int .i64 r)] [.box [.val (.int .i64 a1q0_0)]] := by
  obtain ⟨k, h⟩ := lim_ex h
  exact (impl_rexRight_all (k + 1)).2.2.1 k _ _ _ h (Nat.lt_succ_self k)
theorem impl_rexRight_1_ev (a0_0 : Int) (a0_1 : Int) (a0_2 : ByteArray) (a0_3 : Bool) (l0_4 : List S26) (a1_0 : Int) (r : Bool) (h : impl_rexRight_1.fv a0_0 a0_1 a0_2 a0_3 l0_4 a1_0 = some r) : CE (G m_) 96 [.val (.agg [.int .i64 a0_0, .int .i64 a0_1, .str a0_2, .bool a0_3, .row (l0_4.map e26)]), .ptr 0 0] [.box [.val (.int .i64 a1_0)]] [.val (.bool r)] [.box [.val (.int .i64 a1_0)]] := by
  obtain ⟨k, h⟩ := lim_ex h
  exact (impl_rexRight_all (k + 1)).2.2.2 k _ _ _ _ _ _ _ h (Nat.lt_succ_self k)
theorem impl_RexOk_ev (a0_0 : Int) (a0_1 : Int) (a0_2 : ByteArray) (a0_3 : Bool) (l0_4 : List S26) (r : Bool) (h : impl_RexOk.fv a0_0 a0_1 a0_2 a0_3 l0_4 = some r) : CE (G m_) 14 [.val (.agg [.int .i64 a0_0, .int .i64 a0_1, .str a0_2, .bool a0_3, .row (l0_4.map e26)])] [] [.val (.bool r)] [] := by
  refine CE.mk ⟨Try.f14, _, rfl, rfl, ⟨by kernel_rfl, Nat.le_of_ble_eq_true rfl, Nat.le_of_ble_eq_true rfl⟩, ?_⟩
  rw [impl_RexOk.fv] at h
  have h_ := oS h; clear h; obtain ⟨t4, ht, h⟩ := h_
  refine zz ?_
  refine Exists.intro _ (And.intro (impl_rexRight_ev (h := ht)) ?_)
  cases h
  refine zz ?_
  first | exact ⟨trivial, [], [], ⟨rfl, trivial⟩, _, rfl, _, rfl, And.intro rfl rfl⟩ | exact ⟨[], [], ⟨rfl, trivial⟩, _, rfl, _, rfl, And.intro rfl rfl⟩
theorem impl_placesOf_all : ∀ n, (∀ (k : Nat) {n0 : Nat} (l0 : List S82) (a1_0 : Int) (a1_1 : Int) (a1_2 : ByteArray) (a1_3 : Bool) (l1_4 : List S26) (r : List S82) (h : run impl_placesOf.B k (.impl_placesOf_f l0 a1_0 a1_1 a1_2 a1_3 l1_4) = some r) (hk : k < n), CE (G m_) 53 [.ref 0 n0, .val (.agg [.int .i64 a1_0, .int .i64 a1_1, .str a1_2, .bool a1_3, .row (l1_4.map e26)])] [.own 82 6 (l0.map e82) n0 false] [.ref 0 (n0 + 1)] [.own 82 6 (r.map e82) (n0 + 1) false]) ∧ (∀ (k : Nat) {n0 : Nat} (l0 : List S82) (l1 : List S26) (r : List S82) (h : run impl_placesOf.B k (.impl_orPlaces_f l0 l1) = some r) (hk : k < n), CE (G m_) 93 [.ref 0 n0, .val (.row (l1.map e26))] [.own 82 6 (l0.map e82) n0 false] [.ref 0 (n0 + 1)] [.own 82 6 (r.map e82) (n0 + 1) false]) := by
  intro n
  induction n with
  | zero => exact ⟨by intros; omega, by intros; omega⟩
  | succ n ih =>
    refine ⟨?_, ?_⟩
    · intro k n0 l0 a1_0 a1_1 a1_2 a1_3 l1_4 r h hk
      refine CE.mk ⟨Try.f53, _, rfl, rfl, ⟨by kernel_rfl, Nat.le_of_ble_eq_true rfl, Nat.le_of_ble_eq_true rfl⟩, ?_⟩
      rcases k with _ | k
      · exact (run_zero h).elim
      rw [run_succ, impl_placesOf.B] at h
      refine zz ?_
      refine br (iP h) ?_ ?_ <;> (clear h; intro c h)
      · refine zz ?_
        refine Exists.intro (List.map e82 ([(⟨1, a1_1, (⟨#[]⟩ : ByteArray), false, 0, 0⟩ : S82)] : List S82)) (And.intro zrow ?_)
        have h_ := gP h; clear h; obtain ⟨c, h⟩ := h_
        refine zz ?_
        refine Exists.intro (List.map e82 (l0 ++ [(⟨1, a1_1, (⟨#[]⟩ : ByteArray), false, 0, 0⟩ : S82)])) (And.intro zrow ?_)
        replace h := evR h; cases h
        refine zz ?_
        first | refine ⟨trivial, [], [(0, n0 + 1, n0 + 1)], ⟨rfl, ⟨rfl, trivial⟩⟩, _, rfl, _, rfl, ?_⟩ | refine ⟨[], [(0, n0 + 1, n0 + 1)], ⟨rfl, ⟨rfl, trivial⟩⟩, _, rfl, _, rfl, ?_⟩
        repeat' (first | (refine And.intro ?_ ?_) | rfl)
      refine zz ?_
      refine br (iP h) ?_ ?_ <;> (clear h; intro c h)
      · refine zz ?_
        refine Exists.intro (List.map e82 ([(⟨2, 0, (⟨#[]⟩ : ByteArray), false, 0, 0⟩ : S82)] : List S82)) (And.intro zrow ?_)
        have h_ := gP h; clear h; obtain ⟨c, h⟩ := h_
        refine zz ?_
        refine Exists.intro (List.map e82 (l0 ++ [(⟨2, 0, (⟨#[]⟩ : ByteArray), false, 0, 0⟩ : S82)])) (And.intro zrow ?_)
        replace h := evR h; cases h
        refine zz ?_
        first | refine ⟨trivial, [], [(0, n0 + 1, n0 + 1)], ⟨rfl, ⟨rfl, trivial⟩⟩, _, rfl, _, rfl, ?_⟩ | refine ⟨[], [(0, n0 + 1, n0 + 1)], ⟨rfl, ⟨rfl, trivial⟩⟩, _, rfl, _, rfl, ?_⟩
        repeat' (first | (refine And.intro ?_ ?_) | rfl)
      refine zz ?_
      refine br (iP h) ?_ ?_ <;> (clear h; intro c h)
      · refine zz ?_
        refine Exists.intro (List.map e82 ([(⟨3, 0, a1_2, a1_3, 0, 0⟩ : S82)] : List S82)) (And.intro zrow ?_)
        have h_ := gP h; clear h; obtain ⟨c, h⟩ := h_
        refine zz ?_
        refine Exists.intro (List.map e82 (l0 ++ [(⟨3, 0, a1_2, a1_3, 0, 0⟩ : S82)])) (And.intro zrow ?_)
        replace h := evR h; cases h
        refine zz ?_
        first | refine ⟨trivial, [], [(0, n0 + 1, n0 + 1)], ⟨rfl, ⟨rfl, trivial⟩⟩, _, rfl, _, rfl, ?_⟩ | refine ⟨[], [(0, n0 + 1, n0 + 1)], ⟨rfl, ⟨rfl, trivial⟩⟩, _, rfl, _, rfl, ?_⟩
        repeat' (first | (refine And.intro ?_ ?_) | rfl)
      refine zz ?_
      refine br (iP h) ?_ ?_ <;> (clear h; intro c h)
      · refine zz ?_
        refine Exists.intro (List.map e82 ([(⟨4, 0, (⟨#[]⟩ : ByteArray), false, 0, 0⟩ : S82)] : List S82)) (And.intro zrow ?_)
        have h_ := gP h; clear h; obtain ⟨c, h⟩ := h_
        refine zz ?_
        refine Exists.intro (List.map e82 (l0 ++ [(⟨4, 0, (⟨#[]⟩ : ByteArray), false, 0, 0⟩ : S82)])) (And.intro zrow ?_)
        replace h := evR h; cases h
        refine zz ?_
        first | refine ⟨trivial, [], [(0, n0 + 1, n0 + 1)], ⟨rfl, ⟨rfl, trivial⟩⟩, _, rfl, _, rfl, ?_⟩ | refine ⟨[], [(0, n0 + 1, n0 + 1)], ⟨rfl, ⟨rfl, trivial⟩⟩, _, rfl, _, rfl, ?_⟩
        repeat' (first | (refine And.intro ?_ ?_) | rfl)
      refine zz ?_
      refine br (iP h) ?_ ?_ <;> (clear h; intro c h)
      · refine zz ?_
        refine Exists.intro (List.map e82 ([(⟨5, 0, (⟨#[]⟩ : ByteArray), false, 0, 0⟩ : S82)] : List S82)) (And.intro zrow ?_)
        have h_ := gP h; clear h; obtain ⟨c, h⟩ := h_
        refine zz ?_
        refine Exists.intro (List.map e82 (l0 ++ [(⟨5, 0, (⟨#[]⟩ : ByteArray), false, 0, 0⟩ : S82)])) (And.intro zrow ?_)
        replace h := evR h; cases h
        refine zz ?_
        first | refine ⟨trivial, [], [(0, n0 + 1, n0 + 1)], ⟨rfl, ⟨rfl, trivial⟩⟩, _, rfl, _, rfl, ?_⟩ | refine ⟨[], [(0, n0 + 1, n0 + 1)], ⟨rfl, ⟨rfl, trivial⟩⟩, _, rfl, _, rfl, ?_⟩
        repeat' (first | (refine And.intro ?_ ?_) | rfl)
      refine zz ?_
      refine br (iP h) ?_ ?_ <;> (clear h; intro c h)
      rotate_left
      · refine zz ?_
        refine br (iP h) ?_ ?_ <;> (clear h; intro c h)
        · have h_ := evA h; clear h; obtain ⟨t66, ht, h⟩ := h_
          refine zz ?_
          refine Exists.intro _ (Exists.intro _ (And.intro (ih.2 _ (h := ht) (hk := zfuel)) ?_))
          replace h := evR h; cases h
          refine zz ?_
          first | refine ⟨trivial, [], [(0, n0 + 1, n0 + 1)], ⟨rfl, ⟨rfl, trivial⟩⟩, _, rfl, _, rfl, ?_⟩ | refine ⟨[], [(0, n0 + 1, n0 + 1)], ⟨rfl, ⟨rfl, trivial⟩⟩, _, rfl, _, rfl, ?_⟩
          repeat' (first | (refine And.intro ?_ ?_) | rfl)
        refine zz ?_
        refine br (iP h) ?_ ?_ <;> (clear h; intro c h)
        · refine zz ?_
          refine Exists.intro (List.map e82 ([(⟨7, 0, (⟨#[]⟩ : ByteArray), false, (wrap64 ((l0.length : Int) + 1)), 0⟩ : S82)] : List S82)) (And.intro zrow ?_)
          have h_ := gP h; clear h; obtain ⟨c, h⟩ := h_
          refine zz ?_
          refine Exists.intro (List.map e82 (l0 ++ [(⟨7, 0, (⟨#[]⟩ : ByteArray), false, (wrap64 ((l0.length : Int) + 1)), 0⟩ : S82)])) (And.intro zrow ?_)
          have h_ := gP h; clear h; obtain ⟨c, h⟩ := h_
          have h_ := evA h; clear h; obtain ⟨t79, ht, h⟩ := h_
          refine zz ?_
          refine Exists.intro _ (Exists.intro _ (And.intro (ih.1 _ (h := ht) (hk := zfuel)) ?_))
          refine zz ?_
          refine Exists.intro (List.map e82 ([(⟨6, 0, (⟨#[]⟩ : ByteArray), false, (l0.length : Int), 0⟩ : S82)] : List S82)) (And.intro zrow ?_)
          have h_ := gP h; clear h; obtain ⟨c, h⟩ := h_
          refine zz ?_
          refine Exists.intro (List.map e82 (t79 ++ [(⟨6, 0, (⟨#[]⟩ : ByteArray), false, (l0.length : Int), 0⟩ : S82)])) (And.intro zrow ?_)
          have h_ := gP h; clear h; obtain ⟨c, h⟩ := h_
          have h_ := evO h; clear h; obtain ⟨y24_6, hy, h⟩ := h_
          refine zz ?_
          refine Exists.intro (y24_6.map e82) (And.intro (by rw [← Option.some.inj hy]; exact zrow) ?_)
          replace h := evR h; cases h
          refine zz ?_
          first | refine ⟨trivial, [], [(0, n0 + 1 + 1 + 1, n0 + 1)], ⟨rfl, ⟨rfl, trivial⟩⟩, _, rfl, _, rfl, ?_⟩ | refine ⟨[], [(0, n0 + 1 + 1 + 1, n0 + 1)], ⟨rfl, ⟨rfl, trivial⟩⟩, _, rfl, _, rfl, ?_⟩
          repeat' (first | (refine And.intro ?_ ?_) | rfl)
        refine zz ?_
        refine br (iP h) ?_ ?_ <;> (clear h; intro c h)
        · have h_ := gP h; clear h; obtain ⟨c, h⟩ := h_
          have h_ := evA h; clear h; obtain ⟨t98, ht, h⟩ := h_
          refine zz ?_
          refine Exists.intro _ (Exists.intro _ (And.intro (ih.1 _ (h := ht) (hk := zfuel)) ?_))
          refine zz ?_
          refine Exists.intro (List.map e82 ([(⟨7, 0, (⟨#[]⟩ : ByteArray), false, (l0.length : Int), (wrap64 ((t98.length : Int) + 1))⟩ : S82)] : List S82)) (And.intro zrow ?_)
          have h_ := gP h; clear h; obtain ⟨c, h⟩ := h_
          refine zz ?_
          refine Exists.intro (List.map e82 (t98 ++ [(⟨7, 0, (⟨#[]⟩ : ByteArray), false, (l0.length : Int), (wrap64 ((t98.length : Int) + 1))⟩ : S82)])) (And.intro zrow ?_)
          replace h := evR h; cases h
          refine zz ?_
          first | refine ⟨trivial, [], [(0, n0 + 1 + 1, n0 + 1)], ⟨rfl, ⟨rfl, trivial⟩⟩, _, rfl, _, rfl, ?_⟩ | refine ⟨[], [(0, n0 + 1 + 1, n0 + 1)], ⟨rfl, ⟨rfl, trivial⟩⟩, _, rfl, _, rfl, ?_⟩
          repeat' (first | (refine And.intro ?_ ?_) | rfl)
        refine zz ?_
        refine br (iP h) ?_ ?_ <;> (clear h; intro c h)
        rotate_left
        · replace h := evR h; cases h
          refine zz ?_
          first | refine ⟨trivial, [], [(0, n0, n0 + 1)], ⟨rfl, ⟨rfl, trivial⟩⟩, _, rfl, _, rfl, ?_⟩ | refine ⟨[], [(0, n0, n0 + 1)], ⟨rfl, ⟨rfl, trivial⟩⟩, _, rfl, _, rfl, ?_⟩
          repeat' (first | (refine And.intro ?_ ?_) | rfl)
        refine zz ?_
        refine Exists.intro (List.map e82 ([(⟨7, 0, (⟨#[]⟩ : ByteArray), false, (wrap64 ((l0.length : Int) + 1)), 0⟩ : S82)] : List S82)) (And.intro zrow ?_)
        have h_ := gP h; clear h; obtain ⟨c, h⟩ := h_
        refine zz ?_
        refine Exists.intro (List.map e82 (l0 ++ [(⟨7, 0, (⟨#[]⟩ : ByteArray), false, (wrap64 ((l0.length : Int) + 1)), 0⟩ : S82)])) (And.intro zrow ?_)
        have h_ := gP h; clear h; obtain ⟨c, h⟩ := h_
        have h_ := evA h; clear h; obtain ⟨t119, ht, h⟩ := h_
        refine zz ?_
        refine Exists.intro _ (Exists.intro _ (And.intro (ih.1 _ (h := ht) (hk := zfuel)) ?_))
        have h_ := gP h; clear h; obtain ⟨c, h⟩ := h_
        have h_ := evO h; clear h; obtain ⟨y30_6, hy, h⟩ := h_
        refine zz ?_
        refine Exists.intro (y30_6.map e82) (And.intro (by rw [← Option.some.inj hy]; exact zrow) ?_)
        replace h := evR h; cases h
        refine zz ?_
        first | refine ⟨trivial, [], [(0, n0 + 1 + 1, n0 + 1)], ⟨rfl, ⟨rfl, trivial⟩⟩, _, rfl, _, rfl, ?_⟩ | refine ⟨[], [(0, n0 + 1 + 1, n0 + 1)], ⟨rfl, ⟨rfl, trivial⟩⟩, _, rfl, _, rfl, ?_⟩
        repeat' (first | (refine And.intro ?_ ?_) | rfl)
      replace h := evT h
      refine zz ?_
      refine loopJ [0] (fun kq fr hp => ∃ (x0 : List S82) (x51 : List S26) (x52 : Int) (x53 : Int) (g0 : Nat), run impl_placesOf.B kq (.impl_placesOf_l0 x0 x51 x52 x53) = some r ∧ (∃ fr0, fr = puts [(0, .one (.ref 0 g0)), (51, .one (.val (.row (x51.map e26)))), (52, .one (.val (.int .i64 x52))), (53, .one (.val (.int .i64 x53)))] fr0) ∧ hp = (upd 0 (.own 82 6 (x0.map e82) g0 false) (fun _ => none))) k ⟨_, zfuel, _, _, _, _, n0, h, leafFr [0, 51, 52, 53] (by kernel_rfl), by kernel_rfl⟩ ?_
      clear h; rintro k hle _ _ ⟨x0, x51, x52, x53, g0, h, ⟨fr0, rfl⟩, rfl⟩
      rcases k with _ | k
      · exact (run_zero h).elim
      rw [run_succ, impl_placesOf.B] at h
      refine zz ?_
      refine br (iP h) ?_ ?_ <;> (clear h; intro c h)
      rotate_left
      · replace h := evR h; cases h
        refine zz ?_
        first | refine ⟨trivial, [], [(0, g0, n0 + 1)], ⟨rfl, ⟨rfl, trivial⟩⟩, _, rfl, _, rfl, ?_⟩ | refine ⟨[], [(0, g0, n0 + 1)], ⟨rfl, ⟨rfl, trivial⟩⟩, _, rfl, _, rfl, ?_⟩
        repeat' (first | (refine And.intro ?_ ?_) | rfl)
      have h_ := gP h; clear h; obtain ⟨c, h⟩ := h_
      have h_ := gP h; clear h; obtain ⟨c, h⟩ := h_
      have h_ := evA h; clear h; obtain ⟨t59, ht, h⟩ := h_
      refine zz ?_
      refine Exists.intro _ (Exists.intro _ (And.intro (ih.1 _ (h := ht) (hk := zfuel)) ?_))
      replace h := evT h
      refine zz ?_
      exact ⟨_, zfuel, _, _, _, _, (g0 + 1), h, leafFr [0, 51, 52, 53] (by kernel_rfl), by kernel_rfl⟩
    · intro k n0 l0 l1 r h hk
      refine CE.mk ⟨Try.f93, _, rfl, rfl, ⟨by kernel_rfl, Nat.le_of_ble_eq_true rfl, Nat.le_of_ble_eq_true rfl⟩, ?_⟩
      rcases k with _ | k
      · exact (run_zero h).elim
      rw [run_succ, impl_placesOf.B] at h
      refine zz ?_
      refine Exists.intro (List.map (VV.int .i64) ([] : List Int)) (And.intro zrow ?_)
      have h_ := gP h; clear h; obtain ⟨c, h⟩ := h_
      have h_ := gP h; clear h; obtain ⟨c, h⟩ := h_
      refine zz ?_
      refine Exists.intro (List.map e26 (l1.take ((wrap64 ((l1.length : Int) - 1)) : Int).toNat)) (And.intro zrow ?_)
      replace h := evT h
      refine zz ?_
      refine loopJ [0, 528] (fun kq fr hp => ∃ (x0 : List S82) (x1 : List S26) (x5 : List Int) (x16 : List S26) (x17 : Int) (x18 : Int) (g0 : Nat) (g528 : Nat), run impl_placesOf.B kq (.impl_orPlaces_l0 x0 x1 x5 x16 x17 x18) = some r ∧ (∃ fr0, fr = puts [(0, .one (.ref 0 g0)), (1, .one (.val (.row (x1.map e26)))), (5, .one (.ref 528 g528)), (16, .one (.val (.row (x16.map e26)))), (17, .one (.val (.int .i64 x17))), (18, .one (.val (.int .i64 x18)))] fr0) ∧ hp = (upd 0 (.own 82 6 (x0.map e82) g0 false) (upd 528 (.own 3 1 (x5.map (VV.int .i64)) g528 false) (fun _ => none)))) k ⟨_, zfuel, _, _, _, _, _, _, n0, 0, h, leafFr [0, 1, 5, 16, 17, 18] (by kernel_rfl), by kernel_rfl⟩ ?_
      clear h; rintro k hle _ _ ⟨x0, x1, x5, x16, x17, x18, g0, g528, h, ⟨fr0, rfl⟩, rfl⟩
      rcases k with _ | k
      · exact (run_zero h).elim
      rw [run_succ, impl_placesOf.B] at h
      refine zz ?_
      refine br (iP h) ?_ ?_ <;> (clear h; intro c h)
      · have h_ := gP h; clear h; obtain ⟨c, h⟩ := h_
        have h_ := gP h; clear h; obtain ⟨c, h⟩ := h_
        refine zz ?_
        refine Exists.intro (List.map e82 ([(⟨7, 0, (⟨#[]⟩ : ByteArray), false, (wrap64 ((x0.length : Int) + 1)), 0⟩ : S82)] : List S82)) (And.intro zrow ?_)
        have h_ := gP h; clear h; obtain ⟨c, h⟩ := h_
        refine zz ?_
        refine Exists.intro (List.map e82 (x0 ++ [(⟨7, 0, (⟨#[]⟩ : ByteArray), false, (wrap64 ((x0.length : Int) + 1)), 0⟩ : S82)])) (And.intro zrow ?_)
        have h_ := evA h; clear h; obtain ⟨t31, ht, h⟩ := h_
        refine zz ?_
        refine Exists.intro _ (Exists.intro _ (And.intro (ih.1 _ (h := ht) (hk := zfuel)) ?_))
        refine zz ?_
        refine Exists.intro (List.map (VV.int .i64) ([(t31.length : Int)] : List Int)) (And.intro zrow ?_)
        have h_ := gP h; clear h; obtain ⟨c, h⟩ := h_
        refine zz ?_
        refine Exists.intro (List.map (VV.int .i64) (x5 ++ [(t31.length : Int)])) (And.intro zrow ?_)
        refine zz ?_
        refine Exists.intro (List.map e82 ([(⟨6, 0, (⟨#[]⟩ : ByteArray), false, 0, 0⟩ : S82)] : List S82)) (And.intro zrow ?_)
        have h_ := gP h; clear h; obtain ⟨c, h⟩ := h_
        refine zz ?_
        refine Exists.intro (List.map e82 (t31 ++ [(⟨6, 0, (⟨#[]⟩ : ByteArray), false, 0, 0⟩ : S82)])) (And.intro zrow ?_)
        have h_ := gP h; clear h; obtain ⟨c, h⟩ := h_
        have h_ := evO h; clear h; obtain ⟨y9_6, hy, h⟩ := h_
        refine zz ?_
        refine Exists.intro (y9_6.map e82) (And.intro (by rw [← Option.some.inj hy]; exact zrow) ?_)
        replace h := evT h
        refine zz ?_
        exact ⟨_, zfuel, _, _, _, _, _, _, (g0 + 1 + 1 + 1), (g528 + 1), h, leafFr [0, 1, 5, 16, 17, 18] (by kernel_rfl), by kernel_rfl⟩
      have h_ := gP h; clear h; obtain ⟨c, h⟩ := h_
      have h_ := gP h; clear h; obtain ⟨c, h⟩ := h_
      have h_ := evA h; clear h; obtain ⟨t55, ht, h⟩ := h_
      refine zz ?_
      refine Exists.intro _ (Exists.intro _ (And.intro (ih.1 _ (h := ht) (hk := zfuel)) ?_))
      replace h := evT h
      refine zz ?_
      refine loopJ [0, 528] (fun kq fr hp => ∃ (x0 : List S82) (x56 : List Int) (x57 : Int) (x58 : Int) (g0 : Nat) (g528 : Nat), run impl_placesOf.B kq (.impl_orPlaces_l1 x0 x56 x57 x58) = some r ∧ (∃ fr0, fr = puts [(0, .one (.ref 0 g0)), (56, .one (.ref 528 g528)), (57, .one (.val (.int .i64 x57))), (58, .one (.val (.int .i64 x58)))] fr0) ∧ hp = (upd 0 (.own 82 6 (x0.map e82) g0 false) (upd 528 (.own 3 1 (x56.map (VV.int .i64)) g528 false) (fun _ => none)))) k ⟨_, zfuel, _, _, _, _, (g0 + 1), g528, h, leafFr [0, 56, 57, 58] (by kernel_rfl), by kernel_rfl⟩ ?_
      clear h; rintro k hle _ _ ⟨x0, x56, x57, x58, g0, g528, h, ⟨fr0, rfl⟩, rfl⟩
      rcases k with _ | k
      · exact (run_zero h).elim
      rw [run_succ, impl_placesOf.B] at h
      refine zz ?_
      refine br (iP h) ?_ ?_ <;> (clear h; intro c h)
      rotate_left
      · replace h := evR h; cases h
        refine zz ?_
        first | refine ⟨trivial, [], [(0, g0, n0 + 1)], ⟨rfl, ⟨rfl, trivial⟩⟩, _, rfl, _, rfl, ?_⟩ | refine ⟨[], [(0, g0, n0 + 1)], ⟨rfl, ⟨rfl, trivial⟩⟩, _, rfl, _, rfl, ?_⟩
        repeat' (first | (refine And.intro ?_ ?_) | rfl)
      have h_ := gP h; clear h; obtain ⟨c, h⟩ := h_
      have h_ := gP h; clear h; obtain ⟨c, h⟩ := h_
      have h_ := gP h; clear h; obtain ⟨c, h⟩ := h_
      have h_ := gP h; clear h; obtain ⟨c, h⟩ := h_
      have h_ := evO h; clear h; obtain ⟨y15_6, hy, h⟩ := h_
      refine zz ?_
      refine Exists.intro (y15_6.map e82) (And.intro (by rw [← Option.some.inj hy]; exact zrow) ?_)
      replace h := evT h
      refine zz ?_
      exact ⟨_, zfuel, _, _, _, _, g0, g528, h, leafFr [0, 56, 57, 58] (by kernel_rfl), by kernel_rfl⟩
theorem impl_placesOf_ev {n0 : Nat} (l0 : List S82) (a1_0 : Int) (a1_1 : Int) (a1_2 : ByteArray) (a1_3 : Bool) (l1_4 : List S26) (r : List S82) (h : impl_placesOf.fv l0 a1_0 a1_1 a1_2 a1_3 l1_4 = some r) : CE (G m_) 53 [.ref 0 n0, .val (.agg [.int .i64 a1_0, .int .i64 a1_1, .str a1_2, .bool a1_3, .row (l1_4.map e26)])] [.own 82 6 (l0.map e82) n0 false] [.ref 0 (n0 + 1)] [.own 82 6 (r.map e82) (n0 + 1) false] := by
  obtain ⟨k, h⟩ := lim_ex h
  exact (impl_placesOf_all (k + 1)).1 k _ _ _ _ _ _ _ h (Nat.lt_succ_self k)
theorem impl_orPlaces_ev {n0 : Nat} (l0 : List S82) (l1 : List S26) (r : List S82) (h : impl_orPlaces.fv l0 l1 = some r) : CE (G m_) 93 [.ref 0 n0, .val (.row (l1.map e26))] [.own 82 6 (l0.map e82) n0 false] [.ref 0 (n0 + 1)] [.own 82 6 (r.map e82) (n0 + 1) false] := by
  obtain ⟨k, h⟩ := lim_ex h
  exact (impl_placesOf_all (k + 1)).2 k _ _ _ h (Nat.lt_succ_self k)
theorem impl_NfaOf_ev (a0_0 : Int) (a0_1 : Int) (a0_2 : ByteArray) (a0_3 : Bool) (l0_4 : List S26) (r : List S82) (h : impl_NfaOf.fv a0_0 a0_1 a0_2 a0_3 l0_4 = some r) : CE (G m_) 13 [.val (.agg [.int .i64 a0_0, .int .i64 a0_1, .str a0_2, .bool a0_3, .row (l0_4.map e26)])] [] [.val (.row (r.map e82))] [] := by
  refine CE.mk ⟨Try.f13, _, rfl, rfl, ⟨by kernel_rfl, Nat.le_of_ble_eq_true rfl, Nat.le_of_ble_eq_true rfl⟩, ?_⟩
  rw [impl_NfaOf.fv] at h
  have h_ := oS h; clear h; obtain ⟨t4, ht, h⟩ := h_
  refine zz ?_
  refine Exists.intro _ (And.intro (impl_RexOk_ev (h := ht)) ?_)
  refine zz ?_
  refine brN (iteS h) ?_ ?_ <;> (clear h; intro c h)
  · cases h
    refine zz ?_
    first | exact ⟨trivial, [], [], ⟨rfl, trivial⟩, _, rfl, _, rfl, And.intro rfl rfl⟩ | exact ⟨[], [], ⟨rfl, trivial⟩, _, rfl, _, rfl, And.intro rfl rfl⟩
  have h_ := oS h; clear h; obtain ⟨t7, ht, h⟩ := h_
  refine zz ?_
  refine Exists.intro _ (Exists.intro _ (And.intro (impl_placesOf_ev (h := ht)) ?_))
  refine zz ?_
  refine Exists.intro (List.map e82 ([(⟨8, 0, (⟨#[]⟩ : ByteArray), false, 0, 0⟩ : S82)] : List S82)) (And.intro zrow ?_)
  have h_ := gS h; clear h; obtain ⟨c, h⟩ := h_
  refine zz ?_
  refine Exists.intro (List.map e82 (t7 ++ [(⟨8, 0, (⟨#[]⟩ : ByteArray), false, 0, 0⟩ : S82)])) (And.intro zrow ?_)
  cases h
  refine zz ?_
  first | exact ⟨trivial, [], [], ⟨rfl, trivial⟩, _, rfl, _, rfl, And.intro rfl rfl⟩ | exact ⟨[], [], ⟨rfl, trivial⟩, _, rfl, _, rfl, And.intro rfl rfl⟩
end Go.Proofs.Ytfdpehmefgfjgaa.TFnBrackets
