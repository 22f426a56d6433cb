/- The walks of the functions that FnExactOpsOk reaches, through the abstract machine. -/
import Derived.Test.YteegedceandnkaaAFnExactOpsOkh
import Derived.Test.YteegedceandnkaaAFnExactOpsOkx2
import Derived.Test.YteegedceandnkaaFFnExactOpsOk
import Derived.Test.YteegedceandnkaaProg
set_option maxHeartbeats 4000000
set_option maxRecDepth 100000
set_option linter.unusedVariables false
set_option linter.unusedSimpArgs false
namespace Go.Proofs.Yteegedceandnkaa.TFnExactOpsOk
open Go Go.RowKit Go.Proofs Go.Proofs.YteegedceandnkaaW.AM Go.Proofs.Yteegedceandnkaa.QFnExactOpsOk Go.Proofs.YteegedceandnkaaW.PrintWords Go.Proofs.YteegedceandnkaaW.Pgs
theorem impl_rexReader_pattern_all : ∀ n, (∀ (k : Nat) (s0_0 : ByteArray) (s0_1 : Bool) (r1 : Int) (r2 : Int) (r3 : ByteArray) (r4 : Bool) (r5 : List S59) (r6 : ByteArray) (r7 : Bool) (h : run impl_rexReader_pattern.B k (.impl_rexReader_pattern_f s0_0 s0_1) = some (r1, r2, r3, r4, r5, r6, r7)) (hk : k < n), CE G 54 [.ptr 0 0] [.box [.val (.str s0_0), .val (.bool s0_1)]] [.val (.agg [.int .i64 r1, .int .i64 r2, .str r3, .bool r4, .row (r5.map e59)])] [.box [.val (.str r6), .val (.bool r7)]]) ∧ (∀ (k : Nat) (s0_0 : ByteArray) (s0_1 : Bool) (r1 : Int) (r2 : Int) (r3 : ByteArray) (r4 : Bool) (r5 : List S59) (r6 : ByteArray) (r7 : Bool) (h : run impl_rexReader_pattern.B k (.impl_rexReader_part_f s0_0 s0_1) = some (r1, r2, r3, r4, r5, r6, r7)) (hk : k < n), CE G 58 [.ptr 0 0] [.box [.val (.str s0_0), .val (.bool s0_1)]] [.val (.agg [.int .i64 r1, .int .i64 r2, .str r3, .bool r4, .row (r5.map e59)])] [.box [.val (.str r6), .val (.bool r7)]]) ∧ (∀ (k : Nat) (s0_0 : ByteArray) (s0_1 : Bool) (r1 : Int) (r2 : Int) (r3 : ByteArray) (r4 : Bool) (r5 : List S59) (r6 : ByteArray) (r7 : Bool) (h : run impl_rexReader_pattern.B k (.impl_rexReader_piece_f s0_0 s0_1) = some (r1, r2, r3, r4, r5, r6, r7)) (hk : k < n), CE G 62 [.ptr 0 0] [.box [.val (.str s0_0), .val (.bool s0_1)]] [.val (.agg [.int .i64 r1, .int .i64 r2, .str r3, .bool r4, .row (r5.map e59)])] [.box [.val (.str r6), .val (.bool r7)]]) ∧ (∀ (k : Nat) (s0_0 : ByteArray) (s0_1 : Bool) (r1 : Int) (r2 : Int) (r3 : ByteArray) (r4 : Bool) (r5 : List S59) (r6 : ByteArray) (r7 : Bool) (h : run impl_rexReader_pattern.B k (.impl_rexReader_atom_f s0_0 s0_1) = some (r1, r2, r3, r4, r5, r6, r7)) (hk : k < n), CE G 64 [.ptr 0 0] [.box [.val (.str s0_0), .val (.bool s0_1)]] [.val (.agg [.int .i64 r1, .int .i64 r2, .str r3, .bool r4, .row (r5.map e59)])] [.box [.val (.str r6), .val (.bool r7)]]) := by
  intro n
  induction n with
  | zero => exact ⟨by intros; omega, by intros; omega, by intros; omega, by intros; omega⟩
  | succ n ih =>
    refine ⟨?_, ?_, ?_, ?_⟩
    · intro k s0_0 s0_1 r1 r2 r3 r4 r5 r6 r7 h hk
      refine CE.mk ⟨Try.f54, _, rfl, rfl, ⟨by kernel_rfl, Nat.le_of_ble_eq_true rfl, Nat.le_of_ble_eq_true rfl⟩, ?_⟩
      rcases k with _ | k
      · exact (run_zero h).elim
      rw [run_succ, impl_rexReader_pattern.B] at h
      have h_ := evA h; clear h; obtain ⟨t5, ht, h⟩ := h_
      refine zz ?_
      refine Exists.intro _ (Exists.intro _ (And.intro (ih.2.1 _ (h := ht) (hk := zfuel)) ?_))
      refine zz ?_
      refine Exists.intro (List.map e59 ([(⟨t5.1, t5.2.1, t5.2.2.1, t5.2.2.2.1, t5.2.2.2.2.1⟩ : S59)] : List S59)) (And.intro zrow ?_)
      replace h := evT h
      refine zz ?_
      refine loopJ [0, 16, 530] (fun kq fr hp => ∃ (x3 : List S59) (x1000 : ByteArray) (x1001 : Bool) (g530 : Nat), run impl_rexReader_pattern.B kq (.impl_rexReader_pattern_l0 x3 x1000 x1001) = some (r1, r2, r3, r4, r5, r6, r7) ∧ (∃ fr0, fr = puts [(0, .one (.ptr 0 0)), (2, .one (.ptr 16 0)), (3, .one (.ref 530 g530))] fr0) ∧ hp = (upd 0 (.box [.val (.str x1000), .val (.bool x1001)]) (upd 16 (.box [.val (.int .i64 0), .val (.int .i64 0), .val (.str (⟨#[]⟩ : ByteArray)), .val (.bool false), .nilrow]) (upd 530 (.own 59 5 (x3.map e59) g530 false) (fun _ => none))))) k ⟨_, zfuel, _, _, _, 0, h, leafFr [0, 2, 3] (by kernel_rfl), by kernel_rfl⟩ ?_
      clear h; rintro k hle _ _ ⟨x3, x1000, x1001, g530, h, ⟨fr0, rfl⟩, rfl⟩
      rcases k with _ | k
      · exact (run_zero h).elim
      rw [run_succ, impl_rexReader_pattern.B] at h
      have h_ := evO h; clear h; obtain ⟨t8, ht, h⟩ := h_
      refine zz ?_
      refine Exists.intro _ (Exists.intro _ (And.intro (impl_rexReader_take_ev (h := ht)) ?_))
      refine zz ?_
      refine br (iP h) ?_ ?_ <;> (clear h; intro c h)
      rotate_left
      · refine zz ?_
        refine br (iP h) ?_ ?_ <;> (clear h; intro c h)
        rotate_left
        · replace h := evR h; cases h
          refine zz ?_
          exact ⟨trivial, _, rfl, ⟨_, rfl, rfl⟩, rfl, rfl⟩
        have h_ := gP h; clear h; obtain ⟨c, h⟩ := h_
        replace h := evR h; cases h
        refine zz ?_
        exact ⟨trivial, _, rfl, ⟨_, rfl, rfl⟩, rfl, rfl⟩
      have h_ := evA h; clear h; obtain ⟨t11, ht, h⟩ := h_
      refine zz ?_
      refine Exists.intro _ (Exists.intro _ (And.intro (ih.2.1 _ (h := ht) (hk := zfuel)) ?_))
      refine zz ?_
      refine Exists.intro (List.map e59 ([(⟨t11.1, t11.2.1, t11.2.2.1, t11.2.2.2.1, t11.2.2.2.2.1⟩ : S59)] : List S59)) (And.intro zrow ?_)
      have h_ := gP h; clear h; obtain ⟨c, h⟩ := h_
      refine zz ?_
      refine Exists.intro (List.map e59 (x3 ++ [(⟨t11.1, t11.2.1, t11.2.2.1, t11.2.2.2.1, t11.2.2.2.2.1⟩ : S59)])) (And.intro zrow ?_)
      replace h := evT h
      refine zz ?_
      exact ⟨_, zfuel, _, _, _, (g530 + 1), h, leafFr [0, 2, 3] (by kernel_rfl), by kernel_rfl⟩
    · intro k s0_0 s0_1 r1 r2 r3 r4 r5 r6 r7 h hk
      refine CE.mk ⟨Try.f58, _, rfl, rfl, ⟨by kernel_rfl, Nat.le_of_ble_eq_true rfl, Nat.le_of_ble_eq_true rfl⟩, ?_⟩
      rcases k with _ | k
      · exact (run_zero h).elim
      rw [run_succ, impl_rexReader_pattern.B] at h
      refine zz ?_
      refine Exists.intro (List.map e59 ([] : List S59)) (And.intro zrow ?_)
      refine zz ?_
      refine cutJ (n := 100000) [0, 16, 528] (fun fr hp => ∃ kq, kq ≤ k ∧ ∃ (x3 : List S59) (x1000 : ByteArray) (x1001 : Bool) (g528 : Nat), run impl_rexReader_pattern.B kq (.impl_rexReader_part_j1 x3 x1000 x1001) = some (r1, r2, r3, r4, r5, r6, r7) ∧ (∃ fr0, fr = puts [(2, .one (.ptr 16 0)), (3, .one (.ref 528 g528))] fr0) ∧ hp = (upd 0 (.box [.val (.str x1000), .val (.bool x1001)]) (upd 16 (.box [.val (.int .i64 0), .val (.int .i64 0), .val (.str (⟨#[]⟩ : ByteArray)), .val (.bool false), .nilrow]) (upd 528 (.own 59 5 (x3.map e59) g528 false) (fun _ => none))))) ?_ ?_
      · replace h := evT h
        refine zz ?_
        refine loopJ [0, 16, 528] (fun kq fr hp => ∃ (x3 : List S59) (x1000 : ByteArray) (x1001 : Bool) (g528 : Nat), run impl_rexReader_pattern.B kq (.impl_rexReader_part_l0 x3 x1000 x1001) = some (r1, r2, r3, r4, r5, r6, r7) ∧ (∃ fr0, fr = puts [(0, .one (.ptr 0 0)), (2, .one (.ptr 16 0)), (3, .one (.ref 528 g528))] fr0) ∧ hp = (upd 0 (.box [.val (.str x1000), .val (.bool x1001)]) (upd 16 (.box [.val (.int .i64 0), .val (.int .i64 0), .val (.str (⟨#[]⟩ : ByteArray)), .val (.bool false), .nilrow]) (upd 528 (.own 59 5 (x3.map e59) g528 false) (fun _ => none))))) k ⟨_, zfuel, _, _, _, 0, h, leafFr [0, 2, 3] (by kernel_rfl), by kernel_rfl⟩ ?_
        clear h; rintro k hle _ _ ⟨x3, x1000, x1001, g528, h, ⟨fr0, rfl⟩, rfl⟩
        rcases k with _ | k
        · exact (run_zero h).elim
        rw [run_succ, impl_rexReader_pattern.B] at h
        have h_ := evO h; clear h; obtain ⟨t9, ht, h⟩ := h_
        refine zz ?_
        refine Exists.intro _ (Exists.intro _ (And.intro (impl_rexReader_next_ev (h := ht)) ?_))
        refine zz ?_
        refine brX (iP h) ?_ ?_ <;> (clear h; intro c h)
        rotate_left
        · refine zz ?_
          try (apply Or.inr; refine And.intro (by first | rfl | exact zbool) ?_)
          refine zz ?_
          try (apply Or.inl; refine And.intro (by first | rfl | exact zbool) ?_)
          refine zz ?_
          try (apply Or.inr; refine And.intro (by first | rfl | exact zbool) ?_)
          refine zz ?_
          try (apply Or.inr; refine And.intro (by first | rfl | exact zbool) ?_)
          refine zz ?_
          try (apply Or.inl; refine And.intro (by first | rfl | exact zbool) ?_)
          refine zz ?_
          try (apply Or.inl; refine And.intro (by first | rfl | exact zbool) ?_)
          replace h := evT h
          refine zz ?_
          exact ⟨_, zfuel, _, _, _, g528, h, leafFr [2, 3] (by kernel_rfl), by kernel_rfl⟩
        refine zz ?_
        try (apply Or.inl; refine And.intro (by first | rfl | exact zbool) ?_)
        refine zz ?_
        try (apply Or.inr; refine And.intro (by first | rfl | exact zbool) ?_)
        refine zz ?_
        refine brW (iP h) ?_ ?_ <;> (clear h; intro c h)
        rotate_left
        · refine zz ?_
          try (apply Or.inr; refine And.intro (by first | rfl | exact zbool) ?_)
          refine zz ?_
          try (apply Or.inl; refine And.intro (by first | rfl | exact zbool) ?_)
          refine zz ?_
          try (apply Or.inl; refine And.intro (by first | rfl | exact zbool) ?_)
          replace h := evT h
          refine zz ?_
          exact ⟨_, zfuel, _, _, _, g528, h, leafFr [2, 3] (by kernel_rfl), by kernel_rfl⟩
        refine zz ?_
        try (apply Or.inl; refine And.intro (by first | rfl | exact zbool) ?_)
        refine zz ?_
        try (apply Or.inr; refine And.intro (by first | rfl | exact zbool) ?_)
        refine zz ?_
        refine br (iP h) ?_ ?_ <;> (clear h; intro c h)
        · replace h := evT h
          refine zz ?_
          exact ⟨_, zfuel, _, _, _, g528, h, leafFr [2, 3] (by kernel_rfl), by kernel_rfl⟩
        have h_ := evA h; clear h; obtain ⟨t24, ht, h⟩ := h_
        refine zz ?_
        refine Exists.intro _ (Exists.intro _ (And.intro (ih.2.2.1 _ (h := ht) (hk := zfuel)) ?_))
        refine zz ?_
        refine Exists.intro (List.map e59 ([(⟨t24.1, t24.2.1, t24.2.2.1, t24.2.2.2.1, t24.2.2.2.2.1⟩ : S59)] : List S59)) (And.intro zrow ?_)
        have h_ := gP h; clear h; obtain ⟨c, h⟩ := h_
        refine zz ?_
        refine Exists.intro (List.map e59 (x3 ++ [(⟨t24.1, t24.2.1, t24.2.2.1, t24.2.2.2.1, t24.2.2.2.2.1⟩ : S59)])) (And.intro zrow ?_)
        replace h := evT h
        refine zz ?_
        exact ⟨_, zfuel, _, _, _, (g528 + 1), h, leafFr [0, 2, 3] (by kernel_rfl), by kernel_rfl⟩
      clear h; rintro _ _ ⟨k, hle, x3, x1000, x1001, g528, h, ⟨fr0, rfl⟩, rfl⟩
      rcases k with _ | k
      · exact (run_zero h).elim
      rw [run_succ, impl_rexReader_pattern.B] at h
      refine zz ?_
      refine br (iP h) ?_ ?_ <;> (clear h; intro c h)
      · replace h := evR h; cases h
        refine zz ?_
        exact ⟨trivial, _, rfl, ⟨_, rfl, rfl⟩, rfl, rfl⟩
      refine zz ?_
      refine br (iP h) ?_ ?_ <;> (clear h; intro c h)
      rotate_left
      · replace h := evR h; cases h
        refine zz ?_
        exact ⟨trivial, _, rfl, ⟨_, rfl, rfl⟩, rfl, rfl⟩
      have h_ := gP h; clear h; obtain ⟨c, h⟩ := h_
      replace h := evR h; cases h
      refine zz ?_
      exact ⟨trivial, _, rfl, ⟨_, rfl, rfl⟩, rfl, rfl⟩
    · intro k s0_0 s0_1 r1 r2 r3 r4 r5 r6 r7 h hk
      refine CE.mk ⟨Try.f62, _, rfl, rfl, ⟨by kernel_rfl, Nat.le_of_ble_eq_true rfl, Nat.le_of_ble_eq_true rfl⟩, ?_⟩
      rcases k with _ | k
      · exact (run_zero h).elim
      rw [run_succ, impl_rexReader_pattern.B] at h
      have h_ := evA h; clear h; obtain ⟨t7, ht, h⟩ := h_
      refine zz ?_
      refine Exists.intro _ (Exists.intro _ (And.intro (ih.2.2.2 _ (h := ht) (hk := zfuel)) ?_))
      replace h := evT h
      refine zz ?_
      refine loopJ [0, 16, 530] (fun kq fr hp => ∃ (x1000 : ByteArray) (x1001 : Bool) (x530_0 : Int) (x530_1 : Int) (x530_2 : ByteArray) (x530_3 : Bool) (x530_4 : List S59), run impl_rexReader_pattern.B kq (.impl_rexReader_piece_l0 x1000 x1001 x530_0 x530_1 x530_2 x530_3 x530_4) = some (r1, r2, r3, r4, r5, r6, r7) ∧ (∃ fr0, fr = puts [(0, .one (.ptr 0 0)), (2, .one (.ptr 16 0)), (3, .one (.ptr 530 0))] fr0) ∧ hp = (upd 0 (.box [.val (.str x1000), .val (.bool x1001)]) (upd 16 (.box [.val (.int .i64 0), .val (.int .i64 0), .val (.str (⟨#[]⟩ : ByteArray)), .val (.bool false), .nilrow]) (upd 530 (.box [.val (.int .i64 x530_0), .val (.int .i64 x530_1), .val (.str x530_2), .val (.bool x530_3), .val (.row (x530_4.map e59))]) (fun _ => none))))) k ⟨_, zfuel, _, _, _, _, _, _, _, h, leafFr [0, 2, 3] (by kernel_rfl), by kernel_rfl⟩ ?_
      clear h; rintro k hle _ _ ⟨x1000, x1001, x530_0, x530_1, x530_2, x530_3, x530_4, h, ⟨fr0, rfl⟩, rfl⟩
      rcases k with _ | k
      · exact (run_zero h).elim
      rw [run_succ, impl_rexReader_pattern.B] at h
      have h_ := evO h; clear h; obtain ⟨t10, ht, h⟩ := h_
      refine zz ?_
      refine Exists.intro _ (Exists.intro _ (And.intro (impl_rexReader_next_ev (h := ht)) ?_))
      refine zz ?_
      refine brX (iP h) ?_ ?_ <;> (clear h; intro c h)
      rotate_left
      · refine zz ?_
        try (apply Or.inr; refine And.intro (by first | rfl | exact zbool) ?_)
        refine zz ?_
        try (apply Or.inr; refine And.intro (by first | rfl | exact zbool) ?_)
        refine zz ?_
        try (apply Or.inl; refine And.intro (by first | rfl | exact zbool) ?_)
        refine zz ?_
        try (apply Or.inl; refine And.intro (by first | rfl | exact zbool) ?_)
        replace h := evR h; cases h
        refine zz ?_
        exact ⟨trivial, _, rfl, ⟨_, rfl, rfl⟩, rfl, rfl⟩
      refine zz ?_
      try (apply Or.inl; refine And.intro (by first | rfl | exact zbool) ?_)
      have h_ := evO h; clear h; obtain ⟨t17, ht, h⟩ := h_
      refine zz ?_
      refine Exists.intro _ (And.intro (impl_repeatOf_ev (h := ht)) ?_)
      refine zz ?_
      try (apply Or.inl; refine And.intro (by first | rfl | exact zbool) ?_)
      refine zz ?_
      try (apply Or.inr; refine And.intro (by first | rfl | exact zbool) ?_)
      refine zz ?_
      refine br (iP h) ?_ ?_ <;> (clear h; intro c h)
      · replace h := evR h; cases h
        refine zz ?_
        exact ⟨trivial, _, rfl, ⟨_, rfl, rfl⟩, rfl, rfl⟩
      have h_ := gP h; clear h; obtain ⟨c, h⟩ := h_
      have h_ := evO h; clear h; obtain ⟨t30, ht, h⟩ := h_
      refine zz ?_
      refine Exists.intro _ (And.intro (impl_repeatOf_ev (h := ht)) ?_)
      refine zz ?_
      refine Exists.intro (List.map e59 ([(⟨x530_0, x530_1, x530_2, x530_3, x530_4⟩ : S59)] : List S59)) (And.intro zrow ?_)
      replace h := evT h
      refine zz ?_
      exact ⟨_, zfuel, _, _, _, _, _, _, _, h, leafFr [0, 2, 3] (by kernel_rfl), by kernel_rfl⟩
    · intro k s0_0 s0_1 r1 r2 r3 r4 r5 r6 r7 h hk
      refine CE.mk ⟨Try.f64, _, rfl, rfl, ⟨by kernel_rfl, Nat.le_of_ble_eq_true rfl, Nat.le_of_ble_eq_true rfl⟩, ?_⟩
      rcases k with _ | k
      · exact (run_zero h).elim
      rw [run_succ, impl_rexReader_pattern.B] at h
      have h_ := evO h; clear h; obtain ⟨t10, ht, h⟩ := h_
      refine zz ?_
      refine Exists.intro _ (Exists.intro _ (And.intro (impl_rexReader_next_ev (h := ht)) ?_))
      have h_ := gP h; clear h; obtain ⟨c, h⟩ := h_
      refine zz ?_
      refine br (iP h) ?_ ?_ <;> (clear h; intro c h)
      · have h_ := evA h; clear h; obtain ⟨t25, ht, h⟩ := h_
        refine zz ?_
        refine Exists.intro _ (Exists.intro _ (And.intro (ih.1 _ (h := ht) (hk := zfuel)) ?_))
        have h_ := evO h; clear h; obtain ⟨t27, ht, h⟩ := h_
        refine zz ?_
        refine Exists.intro _ (Exists.intro _ (And.intro (impl_rexReader_take_ev (h := ht)) ?_))
        refine zz ?_
        refine brN (iP h) ?_ ?_ <;> (clear h; intro c h)
        · replace h := evR h; cases h
          refine zz ?_
          exact ⟨trivial, _, rfl, ⟨_, rfl, rfl⟩, rfl, rfl⟩
        replace h := evR h; cases h
        refine zz ?_
        exact ⟨trivial, _, rfl, ⟨_, rfl, rfl⟩, rfl, rfl⟩
      refine zz ?_
      refine br (iP h) ?_ ?_ <;> (clear h; intro c h)
      · replace h := evR h; cases h
        refine zz ?_
        exact ⟨trivial, _, rfl, ⟨_, rfl, rfl⟩, rfl, rfl⟩
      refine zz ?_
      refine br (iP h) ?_ ?_ <;> (clear h; intro c h)
      · replace h := evR h; cases h
        refine zz ?_
        exact ⟨trivial, _, rfl, ⟨_, rfl, rfl⟩, rfl, rfl⟩
      refine zz ?_
      refine br (iP h) ?_ ?_ <;> (clear h; intro c h)
      · replace h := evR h; cases h
        refine zz ?_
        exact ⟨trivial, _, rfl, ⟨_, rfl, rfl⟩, rfl, rfl⟩
      refine zz ?_
      refine br (iP h) ?_ ?_ <;> (clear h; intro c h)
      · have h_ := evO h; clear h; obtain ⟨t45, ht, h⟩ := h_
        refine zz ?_
        refine Exists.intro _ (Exists.intro _ (And.intro (impl_rexReader_set_ev (h := ht)) ?_))
        replace h := evR h; cases h
        refine zz ?_
        exact ⟨trivial, _, rfl, ⟨_, rfl, rfl⟩, rfl, rfl⟩
      refine zz ?_
      refine br (iP h) ?_ ?_ <;> (clear h; intro c h)
      · have h_ := evO h; clear h; obtain ⟨t50, ht, h⟩ := h_
        refine zz ?_
        refine Exists.intro _ (Exists.intro _ (And.intro (impl_rexReader_next_ev (h := ht)) ?_))
        refine zz ?_
        refine brN (iP h) ?_ ?_ <;> (clear h; intro c h)
        · replace h := evR h; cases h
          refine zz ?_
          exact ⟨trivial, _, rfl, ⟨_, rfl, rfl⟩, rfl, rfl⟩
        have h_ := gP h; clear h; obtain ⟨c, h⟩ := h_
        replace h := evR h; cases h
        refine zz ?_
        exact ⟨trivial, _, rfl, ⟨_, rfl, rfl⟩, rfl, rfl⟩
      refine zz ?_
      refine br (iP h) ?_ ?_ <;> (clear h; intro c h)
      · refine zz ?_
        try (apply Or.inl; refine And.intro (by first | rfl | exact zbool) ?_)
        replace h := evR h; cases h
        refine zz ?_
        exact ⟨trivial, _, rfl, ⟨_, rfl, rfl⟩, rfl, rfl⟩
      refine zz ?_
      refine br (iP h) ?_ ?_ <;> (clear h; intro c h)
      · refine zz ?_
        try (apply Or.inl; refine And.intro (by first | rfl | exact zbool) ?_)
        replace h := evR h; cases h
        refine zz ?_
        exact ⟨trivial, _, rfl, ⟨_, rfl, rfl⟩, rfl, rfl⟩
      refine zz ?_
      refine br (iP h) ?_ ?_ <;> (clear h; intro c h)
      · replace h := evR h; cases h
        refine zz ?_
        exact ⟨trivial, _, rfl, ⟨_, rfl, rfl⟩, rfl, rfl⟩
      replace h := evR h; cases h
      refine zz ?_
      exact ⟨trivial, _, rfl, ⟨_, rfl, rfl⟩, rfl, rfl⟩
theorem impl_rexReader_pattern_ev (s0_0 : ByteArray) (s0_1 : Bool) (r1 : Int) (r2 : Int) (r3 : ByteArray) (r4 : Bool) (r5 : List S59) (r6 : ByteArray) (r7 : Bool) (h : impl_rexReader_pattern.fv s0_0 s0_1 = some (r1, r2, r3, r4, r5, r6, r7)) : CE G 54 [.ptr 0 0] [.box [.val (.str s0_0), .val (.bool s0_1)]] [.val (.agg [.int .i64 r1, .int .i64 r2, .str r3, .bool r4, .row (r5.map e59)])] [.box [.val (.str r6), .val (.bool r7)]] := by
  obtain ⟨k, h⟩ := lim_ex h
  exact (impl_rexReader_pattern_all (k + 1)).1 k _ _ _ _ _ _ _ _ _ h (Nat.lt_succ_self k)
theorem impl_rexReader_part_ev (s0_0 : ByteArray) (s0_1 : Bool) (r1 : Int) (r2 : Int) (r3 : ByteArray) (r4 : Bool) (r5 : List S59) (r6 : ByteArray) (r7 : Bool) (h : impl_rexReader_part.fv s0_0 s0_1 = some (r1, r2, r3, r4, r5, r6, r7)) : CE G 58 [.ptr 0 0] [.box [.val (.str s0_0), .val (.bool s0_1)]] [.val (.agg [.int .i64 r1, .int .i64 r2, .str r3, .bool r4, .row (r5.map e59)])] [.box [.val (.str r6), .val (.bool r7)]] := by
  obtain ⟨k, h⟩ := lim_ex h
  exact (impl_rexReader_pattern_all (k + 1)).2.1 k _ _ _ _ _ _ _ _ _ h (Nat.lt_succ_self k)
theorem impl_rexReader_piece_ev (s0_0 : ByteArray) (s0_1 : Bool) (r1 : Int) (r2 : Int) (r3 : ByteArray) (r4 : Bool) (r5 : List S59) (r6 : ByteArray) (r7 : Bool) (h : impl_rexReader_piece.fv s0_0 s0_1 = some (r1, r2, r3, r4, r5, r6, r7)) : CE G 62 [.ptr 0 0] [.box [.val (.str s0_0), .val (.bool s0_1)]] [.val (.agg [.int .i64 r1, .int .i64 r2, .str r3, .bool r4, .row (r5.map e59)])] [.box [.val (.str r6), .val (.bool r7)]] := by
  obtain ⟨k, h⟩ := lim_ex h
  exact (impl_rexReader_pattern_all (k + 1)).2.2.1 k _ _ _ _ _ _ _ _ _ h (Nat.lt_succ_self k)
theorem impl_rexReader_atom_ev (s0_0 : ByteArray) (s0_1 : Bool) (r1 : Int) (r2 : Int) (r3 : ByteArray) (r4 : Bool) (r5 : List S59) (r6 : ByteArray) (r7 : Bool) (h : impl_rexReader_atom.fv s0_0 s0_1 = some (r1, r2, r3, r4, r5, r6, r7)) : CE G 64 [.ptr 0 0] [.box [.val (.str s0_0), .val (.bool s0_1)]] [.val (.agg [.int .i64 r1, .int .i64 r2, .str r3, .bool r4, .row (r5.map e59)])] [.box [.val (.str r6), .val (.bool r7)]] := by
  obtain ⟨k, h⟩ := lim_ex h
  exact (impl_rexReader_pattern_all (k + 1)).2.2.2 k _ _ _ _ _ _ _ _ _ h (Nat.lt_succ_self k)
theorem impl_rexDeep_all : ∀ n, (∀ (k : Nat) (a0_0 : Int) (a0_1 : Int) (a0_2 : ByteArray) (a0_3 : Bool) (l0_4 : List S59) (r : Int) (h : run impl_rexDeep.B k (.f a0_0 a0_1 a0_2 a0_3 l0_4) = some r) (hk : k < n), CE G 55 [.val (.agg [.int .i64 a0_0, .int .i64 a0_1, .str a0_2, .bool a0_3, .row (l0_4.map e59)])] [] [.val (.int .i64 r)] []) := by
  intro n
  induction n with
  | zero => exact (by intros; omega)
  | succ n ih =>
    · intro k a0_0 a0_1 a0_2 a0_3 l0_4 r h hk
      refine CE.mk ⟨Try.f55, _, rfl, rfl, ⟨by kernel_rfl, Nat.le_of_ble_eq_true rfl, Nat.le_of_ble_eq_true rfl⟩, ?_⟩
      rcases k with _ | k
      · exact (run_zero h).elim
      rw [run_succ, impl_rexDeep.B] at h
      replace h := evT h
      refine zz ?_
      refine loopJ [] (fun kq fr hp => ∃ (x3 : Int) (x7 : List S59) (x8 : Int) (x9 : Int), run impl_rexDeep.B kq (.l0 x3 x7 x8 x9) = some r ∧ (∃ fr0, fr = puts [(3, .one (.val (.int .i64 x3))), (7, .one (.val (.row (x7.map e59)))), (8, .one (.val (.int .i64 x8))), (9, .one (.val (.int .i64 x9)))] fr0) ∧ hp = (fun _ => none)) k ⟨_, zfuel, _, _, _, _, h, leafFr [3, 7, 8, 9] (by kernel_rfl), by kernel_rfl⟩ ?_
      clear h; rintro k hle _ _ ⟨x3, x7, x8, x9, h, ⟨fr0, rfl⟩, rfl⟩
      rcases k with _ | k
      · exact (run_zero h).elim
      rw [run_succ, impl_rexDeep.B] at h
      refine zz ?_
      refine br (iP h) ?_ ?_ <;> (clear h; intro c h)
      rotate_left
      · replace h := evR h; cases h
        refine zz ?_
        exact ⟨trivial, _, rfl, ⟨_, rfl, rfl⟩, rfl, rfl⟩
      have h_ := gP h; clear h; obtain ⟨c, h⟩ := h_
      have h_ := gP h; clear h; obtain ⟨c, h⟩ := h_
      have h_ := evA h; clear h; obtain ⟨t15, ht, h⟩ := h_
      refine zz ?_
      refine Exists.intro _ (And.intro (ih _ (h := ht) (hk := zfuel)) ?_)
      replace h := evT h
      refine zz ?_
      exact ⟨_, zfuel, _, _, _, _, h, leafFr [3, 7, 8, 9] (by kernel_rfl), by kernel_rfl⟩
theorem impl_rexDeep_ev (a0_0 : Int) (a0_1 : Int) (a0_2 : ByteArray) (a0_3 : Bool) (l0_4 : List S59) (r : Int) (h : impl_rexDeep.fv a0_0 a0_1 a0_2 a0_3 l0_4 = some r) : CE G 55 [.val (.agg [.int .i64 a0_0, .int .i64 a0_1, .str a0_2, .bool a0_3, .row (l0_4.map e59)])] [] [.val (.int .i64 r)] [] := by
  obtain ⟨k, h⟩ := lim_ex h
  exact (impl_rexDeep_all (k + 1)) k _ _ _ _ _ _ h (Nat.lt_succ_self k)
theorem impl_RexParse_ev (a0 : ByteArray) (r1 : Int) (r2 : Int) (r3 : ByteArray) (r4 : Bool) (r5 : List S59) (r6 : Bool) (h : impl_RexParse.fv a0 = some (r1, r2, r3, r4, r5, r6)) : CE G 48 [.val (.str a0)] [] [.val (.agg [.int .i64 r1, .int .i64 r2, .str r3, .bool r4, .row (r5.map e59)]), .val (.bool r6)] [] := by
  refine CE.mk ⟨Try.f48, _, rfl, rfl, ⟨by kernel_rfl, Nat.le_of_ble_eq_true rfl, Nat.le_of_ble_eq_true rfl⟩, ?_⟩
  rw [impl_RexParse.fv] at h
  refine zz ?_
  refine br (iteS h) ?_ ?_ <;> (clear h; intro c h)
  · cases h
    refine zz ?_
    exact ⟨trivial, _, rfl, ⟨_, rfl, ⟨_, rfl, rfl⟩⟩, rfl, rfl⟩
  have h_ := oS h; clear h; obtain ⟨t14, ht, h⟩ := h_
  refine zz ?_
  refine Exists.intro _ (Exists.intro _ (And.intro (impl_rexReader_pattern_ev (h := ht)) ?_))
  refine zz ?_
  refine brW (iteS h) ?_ ?_ <;> (clear h; intro c h)
  rotate_left
  · refine zz ?_
    try (apply Or.inr; refine And.intro (by first | rfl | exact zbool) ?_)
    refine zz ?_
    try (apply Or.inr; refine And.intro (by first | rfl | exact zbool) ?_)
    refine zz ?_
    try (apply Or.inr; refine And.intro (by first | rfl | exact zbool) ?_)
    refine zz ?_
    try (apply Or.inr; refine And.intro (by first | rfl | exact zbool) ?_)
    refine zz ?_
    try (apply Or.inl; refine And.intro (by first | rfl | exact zbool) ?_)
    refine zz ?_
    try (apply Or.inr; refine And.intro (by first | rfl | exact zbool) ?_)
    refine zz ?_
    try (apply Or.inr; refine And.intro (by first | rfl | exact zbool) ?_)
    refine zz ?_
    try (apply Or.inr; refine And.intro (by first | rfl | exact zbool) ?_)
    refine zz ?_
    try (apply Or.inl; refine And.intro (by first | rfl | exact zbool) ?_)
    refine zz ?_
    try (apply Or.inl; refine And.intro (by first | rfl | exact zbool) ?_)
    cases h
    refine zz ?_
    exact ⟨trivial, _, rfl, ⟨_, rfl, ⟨_, rfl, rfl⟩⟩, rfl, rfl⟩
  refine zz ?_
  try (apply Or.inl; refine And.intro (by first | rfl | exact zbool) ?_)
  refine zz ?_
  try (apply Or.inl; refine And.intro (by first | rfl | exact zbool) ?_)
  refine zz ?_
  try (apply Or.inl; refine And.intro (by first | rfl | exact zbool) ?_)
  refine zz ?_
  try (apply Or.inl; refine And.intro (by first | rfl | exact zbool) ?_)
  refine zz ?_
  try (apply Or.inr; refine And.intro (by first | rfl | exact zbool) ?_)
  refine zz ?_
  refine brX (iteS h) ?_ ?_ <;> (clear h; intro c h)
  rotate_left
  · refine zz ?_
    try (apply Or.inr; refine And.intro (by first | rfl | exact zbool) ?_)
    refine zz ?_
    try (apply Or.inr; refine And.intro (by first | rfl | exact zbool) ?_)
    refine zz ?_
    try (apply Or.inl; refine And.intro (by first | rfl | exact zbool) ?_)
    refine zz ?_
    try (apply Or.inl; refine And.intro (by first | rfl | exact zbool) ?_)
    cases h
    refine zz ?_
    exact ⟨trivial, _, rfl, ⟨_, rfl, ⟨_, rfl, rfl⟩⟩, rfl, rfl⟩
  refine zz ?_
  try (apply Or.inl; refine And.intro (by first | rfl | exact zbool) ?_)
  have h_ := oS h; clear h; obtain ⟨t28, ht, h⟩ := h_
  refine zz ?_
  refine Exists.intro _ (And.intro (impl_rexDeep_ev (h := ht)) ?_)
  refine zz ?_
  try (apply Or.inl; refine And.intro (by first | rfl | exact zbool) ?_)
  refine zz ?_
  try (apply Or.inr; refine And.intro (by first | rfl | exact zbool) ?_)
  refine zz ?_
  refine br (iteS h) ?_ ?_ <;> (clear h; intro c h)
  · cases h
    refine zz ?_
    exact ⟨trivial, _, rfl, ⟨_, rfl, ⟨_, rfl, rfl⟩⟩, rfl, rfl⟩
  cases h
  refine zz ?_
  exact ⟨trivial, _, rfl, ⟨_, rfl, ⟨_, rfl, rfl⟩⟩, rfl, rfl⟩
theorem impl_isRex_ev (a0 : ByteArray) (r : Bool) (h : impl_isRex.fv a0 = some r) : CE G 39 [.val (.str a0)] [] [.val (.bool r)] [] := by
  refine CE.mk ⟨Try.f39, _, rfl, rfl, ⟨by kernel_rfl, Nat.le_of_ble_eq_true rfl, Nat.le_of_ble_eq_true rfl⟩, ?_⟩
  rw [impl_isRex.fv] at h
  have h_ := oS h; clear h; obtain ⟨t7, ht, h⟩ := h_
  refine zz ?_
  refine Exists.intro _ (And.intro (impl_RexParse_ev (h := ht)) ?_)
  cases h
  refine zz ?_
  exact ⟨trivial, _, rfl, ⟨_, rfl, rfl⟩, rfl, rfl⟩
theorem impl_calls_ev (r : List ByteArray) (h : impl_calls.f  = some r) : CE G 40 [] [] [.val (.row (r.map VV.str))] [] := by
  refine CE.mk ⟨Try.f40, _, rfl, rfl, ⟨by kernel_rfl, Nat.le_of_ble_eq_true rfl, Nat.le_of_ble_eq_true rfl⟩, ?_⟩
  rw [impl_calls.f] at h
  have h_ := oS h; clear h; obtain ⟨y1_0, hy, h⟩ := h_
  refine zz ?_
  refine Exists.intro (y1_0.map VV.str) (And.intro (by rw [← Option.some.inj hy]; rfl) ?_)
  cases h
  refine zz ?_
  exact ⟨trivial, _, rfl, ⟨_, rfl, rfl⟩, rfl, rfl⟩
theorem slices_Index_string_string_ev (l0 : List ByteArray) (a1 : ByteArray) (r : Int) (h : slices_Index_string_string.fv l0 a1 = some r) : CE G 45 [.val (.row (l0.map VV.str)), .val (.str a1)] [] [.val (.int .i64 r)] [] := by
  obtain ⟨k, h⟩ := lim_ex h
  refine CE.mk ⟨Try.f45, _, rfl, rfl, ⟨by kernel_rfl, Nat.le_of_ble_eq_true rfl, Nat.le_of_ble_eq_true rfl⟩, ?_⟩
  rcases k with _ | k
  · exact (run_zero h).elim
  rw [run_succ, slices_Index_string_string.B] at h
  replace h := evT h
  refine zz ?_
  refine loopJ [] (fun kq fr hp => ∃ (x0 : List ByteArray) (x1 : ByteArray) (x7 : Int) (x8 : Int), run slices_Index_string_string.B kq (.l0 x0 x1 x7 x8) = some r ∧ (∃ fr0, fr = puts [(0, .one (.val (.row (x0.map VV.str)))), (1, .one (.val (.str x1))), (7, .one (.val (.int .i64 x7))), (8, .one (.val (.int .i64 x8)))] fr0) ∧ hp = (fun _ => none)) k ⟨_, zfuel, _, _, _, _, h, leafFr [0, 1, 7, 8] (by kernel_rfl), by kernel_rfl⟩ ?_
  clear h; rintro k hle _ _ ⟨x0, x1, x7, x8, h, ⟨fr0, rfl⟩, rfl⟩
  rcases k with _ | k
  · exact (run_zero h).elim
  rw [run_succ, slices_Index_string_string.B] at h
  refine zz ?_
  refine br (iP h) ?_ ?_ <;> (clear h; intro c h)
  rotate_left
  · replace h := evR h; cases h
    refine zz ?_
    exact ⟨trivial, _, rfl, ⟨_, rfl, rfl⟩, rfl, rfl⟩
  have h_ := gP h; clear h; obtain ⟨c, h⟩ := h_
  have h_ := gP h; clear h; obtain ⟨c, h⟩ := h_
  refine zz ?_
  refine br (iP h) ?_ ?_ <;> (clear h; intro c h)
  · replace h := evR h; cases h
    refine zz ?_
    exact ⟨trivial, _, rfl, ⟨_, rfl, rfl⟩, rfl, rfl⟩
  replace h := evT h
  refine zz ?_
  exact ⟨_, zfuel, _, _, _, _, h, leafFr [0, 1, 7, 8] (by kernel_rfl), by kernel_rfl⟩
theorem slices_Contains_string_string_ev (l0 : List ByteArray) (a1 : ByteArray) (r : Bool) (h : slices_Contains_string_string.fv l0 a1 = some r) : CE G 31 [.val (.row (l0.map VV.str)), .val (.str a1)] [] [.val (.bool r)] [] := by
  refine CE.mk ⟨Try.f31, _, rfl, rfl, ⟨by kernel_rfl, Nat.le_of_ble_eq_true rfl, Nat.le_of_ble_eq_true rfl⟩, ?_⟩
  rw [slices_Contains_string_string.fv] at h
  have h_ := oS h; clear h; obtain ⟨t7, ht, h⟩ := h_
  refine zz ?_
  refine Exists.intro _ (And.intro (slices_Index_string_string_ev (h := ht)) ?_)
  cases h
  refine zz ?_
  exact ⟨trivial, _, rfl, ⟨_, rfl, rfl⟩, rfl, rfl⟩
end Go.Proofs.Yteegedceandnkaa.TFnExactOpsOk
