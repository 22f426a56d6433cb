/- The walks of the functions that FnExactProgOk reaches, through the abstract machine. -/
import Derived.Test.YteegedceandnkaaAFnExactProgOkh
import Derived.Test.YteegedceandnkaaAFnExactProgOkx0
import Derived.Test.YteegedceandnkaaAFnExactProgOkx1
import Derived.Test.YteegedceandnkaaFFnExactProgOk
import Derived.Test.YteegedceandnkaaProg
set_option maxHeartbeats 4000000
set_option maxRecDepth 100000
set_option linter.unusedVariables false
set_option linter.unusedSimpArgs false
namespace Go.Proofs.Yteegedceandnkaa.TFnExactProgOk
open Go Go.RowKit Go.Proofs Go.Proofs.YteegedceandnkaaW.AM Go.Proofs.Yteegedceandnkaa.QFnExactProgOk Go.Proofs.YteegedceandnkaaW.PrintWords Go.Proofs.YteegedceandnkaaW.Pgs
theorem spec_l13Op_ev (a0_0 : Int) (a0_1 : Int) (a0_2 : ByteArray) (a1 : Int) (a2 : Int) (a3 : Int) (r : Bool) (h : spec_l13Op.fv a0_0 a0_1 a0_2 a1 a2 a3 = some r) : CE G 17 [.val (.agg [.int .i64 a0_0, .int .i64 a0_1, .str a0_2]), .val (.int .i64 a1), .val (.int .i64 a2), .val (.int .i64 a3)] [] [.val (.bool r)] [] := by
  obtain ⟨k, h⟩ := lim_ex h
  refine CE.mk ⟨Try.f17, _, rfl, rfl, ⟨by kernel_rfl, Nat.le_of_ble_eq_true rfl, Nat.le_of_ble_eq_true rfl⟩, ?_⟩
  rcases k with _ | k
  · exact (run_zero h).elim
  rw [run_succ, spec_l13Op.B] at h
  refine zz ?_
  refine br (iP h) ?_ ?_ <;> (clear h; intro c h)
  · have h_ := evO h; clear h; obtain ⟨t17, ht, h⟩ := h_
    refine zz ?_
    refine Exists.intro _ (And.intro (spec_DecOk_ev (h := ht)) ?_)
    refine zz ?_
    refine br (iP h) ?_ ?_ <;> (clear h; intro c h)
    · refine zz ?_
      try (apply Or.inl; refine And.intro (by first | rfl | exact zbool) ?_)
      refine zz ?_
      try (apply Or.inl; refine And.intro (by first | rfl | exact zbool) ?_)
      refine zz ?_
      try (apply Or.inl; refine And.intro (by first | rfl | exact zbool) ?_)
      replace h := evR h; cases h
      refine zz ?_
      first | exact ⟨trivial, _, rfl, ⟨_, rfl, rfl⟩, rfl, rfl⟩ | exact ⟨_, rfl, ⟨_, rfl, rfl⟩, rfl, rfl⟩
    refine zz ?_
    try (apply Or.inr; refine And.intro (by first | rfl | exact zbool) ?_)
    refine zz ?_
    try (apply Or.inr; refine And.intro (by first | rfl | exact zbool) ?_)
    refine zz ?_
    try (apply Or.inr; refine And.intro (by first | rfl | exact zbool) ?_)
    replace h := evR h; cases h
    refine zz ?_
    first | exact ⟨trivial, _, rfl, ⟨_, rfl, rfl⟩, rfl, rfl⟩ | exact ⟨_, rfl, ⟨_, rfl, rfl⟩, rfl, rfl⟩
  refine zz ?_
  refine br (iP h) ?_ ?_ <;> (clear h; intro c h)
  · replace h := evR h; cases h
    refine zz ?_
    first | exact ⟨trivial, _, rfl, ⟨_, rfl, rfl⟩, rfl, rfl⟩ | exact ⟨_, rfl, ⟨_, rfl, rfl⟩, rfl, rfl⟩
  refine zz ?_
  refine cutJ (n := 28) [16] (fun fr hp => ∃ kq, kq ≤ k ∧ ∃ (x1 : Int) (x2 : Int) (x3 : Int) (x12 : Int) (x28 : Bool) (x16_0 : Int) (x16_1 : Int) (x16_2 : ByteArray), run spec_l13Op.B kq (.j0 x1 x2 x3 x12 x28 x16_0 x16_1 x16_2) = some r ∧ (∃ fr0, fr = puts [(1, .one (.val (.int .i64 x1))), (2, .one (.val (.int .i64 x2))), (3, .one (.val (.int .i64 x3))), (4, .one (.ptr 16 0)), (12, .one (.val (.int .i64 x12))), (28, .one (.val (.bool x28)))] fr0) ∧ hp = (upd 16 (.box [.val (.int .i64 x16_0), .val (.int .i64 x16_1), .val (.str x16_2)]) (fun _ => none))) ?_ ?_
  · refine zz ?_
    refine br (iP h) ?_ ?_ <;> (clear h; intro c h)
    · replace h := evT h
      refine zz ?_
      exact ⟨_, zfuel, _, _, _, _, _, _, _, _, h, leafFr [1, 2, 3, 4, 12, 28] (by kernel_rfl), by kernel_rfl⟩
    refine zz ?_
    refine br (iP h) ?_ ?_ <;> (clear h; intro c h)
    · replace h := evT h
      refine zz ?_
      exact ⟨_, zfuel, _, _, _, _, _, _, _, _, h, leafFr [1, 2, 3, 4, 12, 28] (by kernel_rfl), by kernel_rfl⟩
    replace h := evT h
    refine zz ?_
    exact ⟨_, zfuel, _, _, _, _, _, _, _, _, h, leafFr [1, 2, 3, 4, 12, 28] (by kernel_rfl), by kernel_rfl⟩
  clear h; rintro _ _ ⟨k, hle, x1, x2, x3, x12, x28, x16_0, x16_1, x16_2, h, ⟨fr0, rfl⟩, rfl⟩
  rcases k with _ | k
  · exact (run_zero h).elim
  rw [run_succ, spec_l13Op.B] at h
  refine zz ?_
  refine br (iP h) ?_ ?_ <;> (clear h; intro c h)
  · refine zz ?_
    refine br (iP h) ?_ ?_ <;> (clear h; intro c h)
    rotate_left
    · refine zz ?_
      try (apply Or.inr; refine And.intro (by first | rfl | exact zbool) ?_)
      refine zz ?_
      try (apply Or.inr; refine And.intro (by first | rfl | exact zbool) ?_)
      refine zz ?_
      try (apply Or.inr; refine And.intro (by first | rfl | exact zbool) ?_)
      refine zz ?_
      try (apply Or.inr; refine And.intro (by first | rfl | exact zbool) ?_)
      refine zz ?_
      try (apply Or.inr; refine And.intro (by first | rfl | exact zbool) ?_)
      refine zz ?_
      try (apply Or.inr; refine And.intro (by first | rfl | exact zbool) ?_)
      refine zz ?_
      try (apply Or.inr; refine And.intro (by first | rfl | exact zbool) ?_)
      refine zz ?_
      try (apply Or.inr; refine And.intro (by first | rfl | exact zbool) ?_)
      replace h := evR h; cases h
      refine zz ?_
      first | exact ⟨trivial, _, rfl, ⟨_, rfl, rfl⟩, rfl, rfl⟩ | exact ⟨_, rfl, ⟨_, rfl, rfl⟩, rfl, rfl⟩
    refine zz ?_
    try (apply Or.inl; refine And.intro (by first | rfl | exact zbool) ?_)
    refine zz ?_
    try (apply Or.inl; refine And.intro (by first | rfl | exact zbool) ?_)
    refine zz ?_
    try (apply Or.inl; refine And.intro (by first | rfl | exact zbool) ?_)
    refine zz ?_
    try (apply Or.inl; refine And.intro (by first | rfl | exact zbool) ?_)
    refine zz ?_
    refine br (iP h) ?_ ?_ <;> (clear h; intro c h)
    · refine zz ?_
      try (apply Or.inl; refine And.intro (by first | rfl | exact zbool) ?_)
      refine zz ?_
      try (apply Or.inl; refine And.intro (by first | rfl | exact zbool) ?_)
      refine zz ?_
      try (apply Or.inl; refine And.intro (by first | rfl | exact zbool) ?_)
      replace h := evR h; cases h
      refine zz ?_
      first | exact ⟨trivial, _, rfl, ⟨_, rfl, rfl⟩, rfl, rfl⟩ | exact ⟨_, rfl, ⟨_, rfl, rfl⟩, rfl, rfl⟩
    refine zz ?_
    try (apply Or.inr; refine And.intro (by first | rfl | exact zbool) ?_)
    refine zz ?_
    try (apply Or.inr; refine And.intro (by first | rfl | exact zbool) ?_)
    refine zz ?_
    try (apply Or.inr; refine And.intro (by first | rfl | exact zbool) ?_)
    replace h := evR h; cases h
    refine zz ?_
    first | exact ⟨trivial, _, rfl, ⟨_, rfl, rfl⟩, rfl, rfl⟩ | exact ⟨_, rfl, ⟨_, rfl, rfl⟩, rfl, rfl⟩
  refine zz ?_
  refine cutJ (n := 46) [16] (fun fr hp => ∃ kq, kq ≤ k ∧ ∃ (x1 : Int) (x3 : Int) (x12 : Int) (x46 : Bool) (x16_0 : Int) (x16_1 : Int) (x16_2 : ByteArray), run spec_l13Op.B kq (.j1 x1 x3 x12 x46 x16_0 x16_1 x16_2) = some r ∧ (∃ fr0, fr = puts [(1, .one (.val (.int .i64 x1))), (3, .one (.val (.int .i64 x3))), (4, .one (.ptr 16 0)), (12, .one (.val (.int .i64 x12))), (46, .one (.val (.bool x46)))] fr0) ∧ hp = (upd 16 (.box [.val (.int .i64 x16_0), .val (.int .i64 x16_1), .val (.str x16_2)]) (fun _ => none))) ?_ ?_
  · refine zz ?_
    refine br (iP h) ?_ ?_ <;> (clear h; intro c h)
    · replace h := evT h
      refine zz ?_
      exact ⟨_, zfuel, _, _, _, _, _, _, _, h, leafFr [1, 3, 4, 12, 46] (by kernel_rfl), by kernel_rfl⟩
    refine zz ?_
    refine br (iP h) ?_ ?_ <;> (clear h; intro c h)
    · replace h := evT h
      refine zz ?_
      exact ⟨_, zfuel, _, _, _, _, _, _, _, h, leafFr [1, 3, 4, 12, 46] (by kernel_rfl), by kernel_rfl⟩
    refine zz ?_
    refine br (iP h) ?_ ?_ <;> (clear h; intro c h)
    · replace h := evT h
      refine zz ?_
      exact ⟨_, zfuel, _, _, _, _, _, _, _, h, leafFr [1, 3, 4, 12, 46] (by kernel_rfl), by kernel_rfl⟩
    replace h := evT h
    refine zz ?_
    exact ⟨_, zfuel, _, _, _, _, _, _, _, h, leafFr [1, 3, 4, 12, 46] (by kernel_rfl), by kernel_rfl⟩
  clear h; rintro _ _ ⟨k, hle, x1, x3, x12, x46, x16_0, x16_1, x16_2, h, ⟨fr0, rfl⟩, rfl⟩
  rcases k with _ | k
  · exact (run_zero h).elim
  rw [run_succ, spec_l13Op.B] at h
  refine zz ?_
  refine br (iP h) ?_ ?_ <;> (clear h; intro c h)
  · refine zz ?_
    refine br (iP h) ?_ ?_ <;> (clear h; intro c h)
    rotate_left
    · refine zz ?_
      try (apply Or.inr; refine And.intro (by first | rfl | exact zbool) ?_)
      refine zz ?_
      try (apply Or.inr; refine And.intro (by first | rfl | exact zbool) ?_)
      refine zz ?_
      try (apply Or.inr; refine And.intro (by first | rfl | exact zbool) ?_)
      refine zz ?_
      try (apply Or.inr; refine And.intro (by first | rfl | exact zbool) ?_)
      refine zz ?_
      try (apply Or.inr; refine And.intro (by first | rfl | exact zbool) ?_)
      refine zz ?_
      try (apply Or.inr; refine And.intro (by first | rfl | exact zbool) ?_)
      refine zz ?_
      try (apply Or.inr; refine And.intro (by first | rfl | exact zbool) ?_)
      refine zz ?_
      try (apply Or.inr; refine And.intro (by first | rfl | exact zbool) ?_)
      replace h := evR h; cases h
      refine zz ?_
      first | exact ⟨trivial, _, rfl, ⟨_, rfl, rfl⟩, rfl, rfl⟩ | exact ⟨_, rfl, ⟨_, rfl, rfl⟩, rfl, rfl⟩
    refine zz ?_
    try (apply Or.inl; refine And.intro (by first | rfl | exact zbool) ?_)
    refine zz ?_
    try (apply Or.inl; refine And.intro (by first | rfl | exact zbool) ?_)
    refine zz ?_
    try (apply Or.inl; refine And.intro (by first | rfl | exact zbool) ?_)
    refine zz ?_
    try (apply Or.inl; refine And.intro (by first | rfl | exact zbool) ?_)
    refine zz ?_
    refine br (iP h) ?_ ?_ <;> (clear h; intro c h)
    · refine zz ?_
      try (apply Or.inl; refine And.intro (by first | rfl | exact zbool) ?_)
      refine zz ?_
      try (apply Or.inl; refine And.intro (by first | rfl | exact zbool) ?_)
      refine zz ?_
      try (apply Or.inl; refine And.intro (by first | rfl | exact zbool) ?_)
      replace h := evR h; cases h
      refine zz ?_
      first | exact ⟨trivial, _, rfl, ⟨_, rfl, rfl⟩, rfl, rfl⟩ | exact ⟨_, rfl, ⟨_, rfl, rfl⟩, rfl, rfl⟩
    refine zz ?_
    try (apply Or.inr; refine And.intro (by first | rfl | exact zbool) ?_)
    refine zz ?_
    try (apply Or.inr; refine And.intro (by first | rfl | exact zbool) ?_)
    refine zz ?_
    try (apply Or.inr; refine And.intro (by first | rfl | exact zbool) ?_)
    replace h := evR h; cases h
    refine zz ?_
    first | exact ⟨trivial, _, rfl, ⟨_, rfl, rfl⟩, rfl, rfl⟩ | exact ⟨_, rfl, ⟨_, rfl, rfl⟩, rfl, rfl⟩
  refine zz ?_
  refine cutJ (n := 65) [16] (fun fr hp => ∃ kq, kq ≤ k ∧ ∃ (x1 : Int) (x12 : Int) (x65 : Bool) (x16_0 : Int) (x16_1 : Int) (x16_2 : ByteArray), run spec_l13Op.B kq (.j2 x1 x12 x65 x16_0 x16_1 x16_2) = some r ∧ (∃ fr0, fr = puts [(1, .one (.val (.int .i64 x1))), (4, .one (.ptr 16 0)), (12, .one (.val (.int .i64 x12))), (65, .one (.val (.bool x65)))] fr0) ∧ hp = (upd 16 (.box [.val (.int .i64 x16_0), .val (.int .i64 x16_1), .val (.str x16_2)]) (fun _ => none))) ?_ ?_
  · refine zz ?_
    refine br (iP h) ?_ ?_ <;> (clear h; intro c h)
    · replace h := evT h
      refine zz ?_
      exact ⟨_, zfuel, _, _, _, _, _, _, h, leafFr [1, 4, 12, 65] (by kernel_rfl), by kernel_rfl⟩
    replace h := evT h
    refine zz ?_
    exact ⟨_, zfuel, _, _, _, _, _, _, h, leafFr [1, 4, 12, 65] (by kernel_rfl), by kernel_rfl⟩
  clear h; rintro _ _ ⟨k, hle, x1, x12, x65, x16_0, x16_1, x16_2, h, ⟨fr0, rfl⟩, rfl⟩
  rcases k with _ | k
  · exact (run_zero h).elim
  rw [run_succ, spec_l13Op.B] at h
  refine zz ?_
  refine br (iP h) ?_ ?_ <;> (clear h; intro c h)
  · have h_ := evO h; clear h; obtain ⟨t71, ht, h⟩ := h_
    refine zz ?_
    refine Exists.intro _ (And.intro (spec_RexParse_ev (h := ht)) ?_)
    refine zz ?_
    refine br (iP h) ?_ ?_ <;> (clear h; intro c h)
    · refine zz ?_
      try (apply Or.inl; refine And.intro (by first | rfl | exact zbool) ?_)
      refine zz ?_
      try (apply Or.inl; refine And.intro (by first | rfl | exact zbool) ?_)
      refine zz ?_
      try (apply Or.inl; refine And.intro (by first | rfl | exact zbool) ?_)
      replace h := evR h; cases h
      refine zz ?_
      first | exact ⟨trivial, _, rfl, ⟨_, rfl, rfl⟩, rfl, rfl⟩ | exact ⟨_, rfl, ⟨_, rfl, rfl⟩, rfl, rfl⟩
    refine zz ?_
    try (apply Or.inr; refine And.intro (by first | rfl | exact zbool) ?_)
    refine zz ?_
    try (apply Or.inr; refine And.intro (by first | rfl | exact zbool) ?_)
    refine zz ?_
    try (apply Or.inr; refine And.intro (by first | rfl | exact zbool) ?_)
    replace h := evR h; cases h
    refine zz ?_
    first | exact ⟨trivial, _, rfl, ⟨_, rfl, rfl⟩, rfl, rfl⟩ | exact ⟨_, rfl, ⟨_, rfl, rfl⟩, rfl, rfl⟩
  refine zz ?_
  refine br (iP h) ?_ ?_ <;> (clear h; intro c h)
  · have h_ := evO h; clear h; obtain ⟨t84, ht, h⟩ := h_
    refine zz ?_
    refine Exists.intro _ (And.intro (spec_l1In_ev (h := ht)) ?_)
    refine zz ?_
    refine br (iP h) ?_ ?_ <;> (clear h; intro c h)
    rotate_left
    · refine zz ?_
      try (apply Or.inr; refine And.intro (by first | rfl | exact zbool) ?_)
      refine zz ?_
      try (apply Or.inr; refine And.intro (by first | rfl | exact zbool) ?_)
      refine zz ?_
      try (apply Or.inr; refine And.intro (by first | rfl | exact zbool) ?_)
      refine zz ?_
      try (apply Or.inr; refine And.intro (by first | rfl | exact zbool) ?_)
      replace h := evR h; cases h
      refine zz ?_
      first | exact ⟨trivial, _, rfl, ⟨_, rfl, rfl⟩, rfl, rfl⟩ | exact ⟨_, rfl, ⟨_, rfl, rfl⟩, rfl, rfl⟩
    have h_ := evO h; clear h; obtain ⟨t86, ht, h⟩ := h_
    refine zz ?_
    refine Exists.intro _ (And.intro (spec_l7Calls_ev (h := ht)) ?_)
    refine zz ?_
    try (apply Or.inl; refine And.intro (by first | rfl | exact zbool) ?_)
    refine zz ?_
    try (apply Or.inl; refine And.intro (by first | rfl | exact zbool) ?_)
    refine zz ?_
    try (apply Or.inl; refine And.intro (by first | rfl | exact zbool) ?_)
    have h_ := evO h; clear h; obtain ⟨t89, ht, h⟩ := h_
    refine zz ?_
    refine Exists.intro _ (And.intro (spec_l7Within_ev (h := ht)) ?_)
    refine zz ?_
    try (apply Or.inl; refine And.intro (by first | rfl | exact zbool) ?_)
    replace h := evR h; cases h
    refine zz ?_
    first | exact ⟨trivial, _, rfl, ⟨_, rfl, rfl⟩, rfl, rfl⟩ | exact ⟨_, rfl, ⟨_, rfl, rfl⟩, rfl, rfl⟩
  refine zz ?_
  refine cutJ (n := 91) [16] (fun fr hp => ∃ kq, kq ≤ k ∧ ∃ (x1 : Int) (x12 : Int) (x91 : Bool) (x16_0 : Int) (x16_1 : Int) (x16_2 : ByteArray), run spec_l13Op.B kq (.j3 x1 x12 x91 x16_0 x16_1 x16_2) = some r ∧ (∃ fr0, fr = puts [(1, .one (.val (.int .i64 x1))), (4, .one (.ptr 16 0)), (12, .one (.val (.int .i64 x12))), (91, .one (.val (.bool x91)))] fr0) ∧ hp = (upd 16 (.box [.val (.int .i64 x16_0), .val (.int .i64 x16_1), .val (.str x16_2)]) (fun _ => none))) ?_ ?_
  · refine zz ?_
    refine br (iP h) ?_ ?_ <;> (clear h; intro c h)
    · replace h := evT h
      refine zz ?_
      exact ⟨_, zfuel, _, _, _, _, _, _, h, leafFr [1, 4, 12, 91] (by kernel_rfl), by kernel_rfl⟩
    replace h := evT h
    refine zz ?_
    exact ⟨_, zfuel, _, _, _, _, _, _, h, leafFr [1, 4, 12, 91] (by kernel_rfl), by kernel_rfl⟩
  clear h; rintro _ _ ⟨k, hle, x1, x12, x91, x16_0, x16_1, x16_2, h, ⟨fr0, rfl⟩, rfl⟩
  rcases k with _ | k
  · exact (run_zero h).elim
  rw [run_succ, spec_l13Op.B] at h
  refine zz ?_
  refine br (iP h) ?_ ?_ <;> (clear h; intro c h)
  · have h_ := evO h; clear h; obtain ⟨t98, ht, h⟩ := h_
    refine zz ?_
    refine Exists.intro _ (And.intro (spec_l1In_ev (h := ht)) ?_)
    refine zz ?_
    refine br (iP h) ?_ ?_ <;> (clear h; intro c h)
    · refine zz ?_
      try (apply Or.inl; refine And.intro (by first | rfl | exact zbool) ?_)
      refine zz ?_
      try (apply Or.inl; refine And.intro (by first | rfl | exact zbool) ?_)
      refine zz ?_
      try (apply Or.inl; refine And.intro (by first | rfl | exact zbool) ?_)
      replace h := evR h; cases h
      refine zz ?_
      first | exact ⟨trivial, _, rfl, ⟨_, rfl, rfl⟩, rfl, rfl⟩ | exact ⟨_, rfl, ⟨_, rfl, rfl⟩, rfl, rfl⟩
    refine zz ?_
    try (apply Or.inr; refine And.intro (by first | rfl | exact zbool) ?_)
    refine zz ?_
    try (apply Or.inr; refine And.intro (by first | rfl | exact zbool) ?_)
    refine zz ?_
    try (apply Or.inr; refine And.intro (by first | rfl | exact zbool) ?_)
    replace h := evR h; cases h
    refine zz ?_
    first | exact ⟨trivial, _, rfl, ⟨_, rfl, rfl⟩, rfl, rfl⟩ | exact ⟨_, rfl, ⟨_, rfl, rfl⟩, rfl, rfl⟩
  refine zz ?_
  refine br (iP h) ?_ ?_ <;> (clear h; intro c h)
  · have h_ := evO h; clear h; obtain ⟨t108, ht, h⟩ := h_
    refine zz ?_
    refine Exists.intro _ (And.intro (spec_l1In_ev (h := ht)) ?_)
    refine zz ?_
    refine br (iP h) ?_ ?_ <;> (clear h; intro c h)
    · refine zz ?_
      try (apply Or.inl; refine And.intro (by first | rfl | exact zbool) ?_)
      refine zz ?_
      try (apply Or.inl; refine And.intro (by first | rfl | exact zbool) ?_)
      refine zz ?_
      try (apply Or.inl; refine And.intro (by first | rfl | exact zbool) ?_)
      replace h := evR h; cases h
      refine zz ?_
      first | exact ⟨trivial, _, rfl, ⟨_, rfl, rfl⟩, rfl, rfl⟩ | exact ⟨_, rfl, ⟨_, rfl, rfl⟩, rfl, rfl⟩
    refine zz ?_
    try (apply Or.inr; refine And.intro (by first | rfl | exact zbool) ?_)
    refine zz ?_
    try (apply Or.inr; refine And.intro (by first | rfl | exact zbool) ?_)
    refine zz ?_
    try (apply Or.inr; refine And.intro (by first | rfl | exact zbool) ?_)
    replace h := evR h; cases h
    refine zz ?_
    first | exact ⟨trivial, _, rfl, ⟨_, rfl, rfl⟩, rfl, rfl⟩ | exact ⟨_, rfl, ⟨_, rfl, rfl⟩, rfl, rfl⟩
  have h_ := evO h; clear h; obtain ⟨t116, ht, h⟩ := h_
  refine zz ?_
  refine Exists.intro _ (And.intro (spec_l1In_ev (h := ht)) ?_)
  refine zz ?_
  refine br (iP h) ?_ ?_ <;> (clear h; intro c h)
  rotate_left
  · refine zz ?_
    try (apply Or.inr; refine And.intro (by first | rfl | exact zbool) ?_)
    refine zz ?_
    try (apply Or.inr; refine And.intro (by first | rfl | exact zbool) ?_)
    refine zz ?_
    try (apply Or.inr; refine And.intro (by first | rfl | exact zbool) ?_)
    refine zz ?_
    try (apply Or.inr; refine And.intro (by first | rfl | exact zbool) ?_)
    refine zz ?_
    try (apply Or.inr; refine And.intro (by first | rfl | exact zbool) ?_)
    refine zz ?_
    try (apply Or.inr; refine And.intro (by first | rfl | exact zbool) ?_)
    refine zz ?_
    try (apply Or.inr; refine And.intro (by first | rfl | exact zbool) ?_)
    replace h := evR h; cases h
    refine zz ?_
    first | exact ⟨trivial, _, rfl, ⟨_, rfl, rfl⟩, rfl, rfl⟩ | exact ⟨_, rfl, ⟨_, rfl, rfl⟩, rfl, rfl⟩
  refine zz ?_
  try (apply Or.inl; refine And.intro (by first | rfl | exact zbool) ?_)
  refine zz ?_
  try (apply Or.inl; refine And.intro (by first | rfl | exact zbool) ?_)
  refine zz ?_
  try (apply Or.inl; refine And.intro (by first | rfl | exact zbool) ?_)
  refine zz ?_
  refine br (iP h) ?_ ?_ <;> (clear h; intro c h)
  · refine zz ?_
    try (apply Or.inl; refine And.intro (by first | rfl | exact zbool) ?_)
    refine zz ?_
    try (apply Or.inl; refine And.intro (by first | rfl | exact zbool) ?_)
    refine zz ?_
    try (apply Or.inl; refine And.intro (by first | rfl | exact zbool) ?_)
    replace h := evR h; cases h
    refine zz ?_
    first | exact ⟨trivial, _, rfl, ⟨_, rfl, rfl⟩, rfl, rfl⟩ | exact ⟨_, rfl, ⟨_, rfl, rfl⟩, rfl, rfl⟩
  refine zz ?_
  try (apply Or.inr; refine And.intro (by first | rfl | exact zbool) ?_)
  refine zz ?_
  try (apply Or.inr; refine And.intro (by first | rfl | exact zbool) ?_)
  refine zz ?_
  try (apply Or.inr; refine And.intro (by first | rfl | exact zbool) ?_)
  replace h := evR h; cases h
  refine zz ?_
  first | exact ⟨trivial, _, rfl, ⟨_, rfl, rfl⟩, rfl, rfl⟩ | exact ⟨_, rfl, ⟨_, rfl, rfl⟩, rfl, rfl⟩
theorem spec_OpsOk_ev (l0 : List S43) (a1 : Int) (a2 : Int) (r : Bool) (h : spec_OpsOk.fv l0 a1 a2 = some r) : CE G 6 [.val (.row (l0.map e43)), .val (.int .i64 a1), .val (.int .i64 a2)] [] [.val (.bool r)] [] := by
  obtain ⟨k, h⟩ := lim_ex h
  refine CE.mk ⟨Try.f6, _, rfl, rfl, ⟨by kernel_rfl, Nat.le_of_ble_eq_true rfl, Nat.le_of_ble_eq_true rfl⟩, ?_⟩
  rcases k with _ | k
  · exact (run_zero h).elim
  rw [run_succ, spec_OpsOk.B] at h
  refine zz ?_
  refine cutJ (n := 200002) [] (fun fr hp => ∃ kq, kq ≤ k ∧ ∃ (x0 : List S43) (x1 : Int) (x2 : Int) (x7 : Int) (x22 : Bool), run spec_OpsOk.B kq (.j0 x0 x1 x2 x7 x22) = some r ∧ (∃ fr0, fr = puts [(0, .one (.val (.row (x0.map e43)))), (1, .one (.val (.int .i64 x1))), (2, .one (.val (.int .i64 x2))), (7, .one (.val (.int .i64 x7))), (22, .one (.val (.bool x22)))] fr0) ∧ hp = (fun _ => none)) ?_ ?_
  · have h_ := evO h; clear h; obtain ⟨t12, ht, h⟩ := h_
    refine zz ?_
    refine Exists.intro _ (And.intro (spec_l1In_ev (h := ht)) ?_)
    refine zz ?_
    refine brX (iP h) ?_ ?_ <;> (clear h; intro c h)
    rotate_left
    · refine zz ?_
      try (apply Or.inr; refine And.intro (by first | rfl | exact zbool) ?_)
      refine zz ?_
      try (apply Or.inr; refine And.intro (by first | rfl | exact zbool) ?_)
      refine zz ?_
      try (apply Or.inr; refine And.intro (by first | rfl | exact zbool) ?_)
      refine zz ?_
      try (apply Or.inr; refine And.intro (by first | rfl | exact zbool) ?_)
      refine zz ?_
      try (apply Or.inr; refine And.intro (by first | rfl | exact zbool) ?_)
      refine zz ?_
      try (apply Or.inr; refine And.intro (by first | rfl | exact zbool) ?_)
      refine zz ?_
      try (apply Or.inl; refine And.intro (by first | rfl | exact zbool) ?_)
      replace h := evT h
      refine zz ?_
      exact ⟨_, zfuel, _, _, _, _, _, h, leafFr [0, 1, 2, 7, 22] (by kernel_rfl), by kernel_rfl⟩
    refine zz ?_
    try (apply Or.inl; refine And.intro (by first | rfl | exact zbool) ?_)
    refine zz ?_
    try (apply Or.inl; refine And.intro (by first | rfl | exact zbool) ?_)
    refine zz ?_
    try (apply Or.inl; refine And.intro (by first | rfl | exact zbool) ?_)
    have h_ := gP h; clear h; obtain ⟨c, h⟩ := h_
    have h_ := gP h; clear h; obtain ⟨c, h⟩ := h_
    refine zz ?_
    try (apply Or.inl; refine And.intro (by first | rfl | exact zbool) ?_)
    refine zz ?_
    try (apply Or.inl; refine And.intro (by first | rfl | exact zbool) ?_)
    refine zz ?_
    try (apply Or.inl; refine And.intro (by first | rfl | exact zbool) ?_)
    refine zz ?_
    try (apply Or.inr; refine And.intro (by first | rfl | exact zbool) ?_)
    replace h := evT h
    refine zz ?_
    exact ⟨_, zfuel, _, _, _, _, _, h, leafFr [0, 1, 2, 7, 22] (by kernel_rfl), by kernel_rfl⟩
  clear h; rintro _ _ ⟨k, hle, x0, x1, x2, x7, x22, h, ⟨fr0, rfl⟩, rfl⟩
  rcases k with _ | k
  · exact (run_zero h).elim
  rw [run_succ, spec_OpsOk.B] at h
  refine zz ?_
  refine br (iP h) ?_ ?_ <;> (clear h; intro c h)
  · replace h := evR h; cases h
    refine zz ?_
    first | exact ⟨trivial, _, rfl, ⟨_, rfl, rfl⟩, rfl, rfl⟩ | exact ⟨_, rfl, ⟨_, rfl, rfl⟩, rfl, rfl⟩
  replace h := evT h
  refine zz ?_
  refine loopJ [] (fun kq fr hp => ∃ (x0 : List S43) (x1 : Int) (x2 : Int) (x7 : Int) (x8 : Int), run spec_OpsOk.B kq (.l0 x0 x1 x2 x7 x8) = some r ∧ (∃ fr0, fr = puts [(0, .one (.val (.row (x0.map e43)))), (1, .one (.val (.int .i64 x1))), (2, .one (.val (.int .i64 x2))), (7, .one (.val (.int .i64 x7))), (8, .one (.val (.int .i64 x8)))] fr0) ∧ hp = (fun _ => none)) k ⟨_, zfuel, _, _, _, _, _, h, leafFr [0, 1, 2, 7, 8] (by kernel_rfl), by kernel_rfl⟩ ?_
  clear h; rintro k hle _ _ ⟨x0, x1, x2, x7, x8, h, ⟨fr0, rfl⟩, rfl⟩
  rcases k with _ | k
  · exact (run_zero h).elim
  rw [run_succ, spec_OpsOk.B] at h
  refine zz ?_
  refine br (iP h) ?_ ?_ <;> (clear h; intro c h)
  rotate_left
  · replace h := evR h; cases h
    refine zz ?_
    first | exact ⟨trivial, _, rfl, ⟨_, rfl, rfl⟩, rfl, rfl⟩ | exact ⟨_, rfl, ⟨_, rfl, rfl⟩, rfl, rfl⟩
  have h_ := gP h; clear h; obtain ⟨c, h⟩ := h_
  have h_ := gP h; clear h; obtain ⟨c, h⟩ := h_
  have h_ := evO h; clear h; obtain ⟨t35, ht, h⟩ := h_
  refine zz ?_
  refine Exists.intro _ (And.intro (spec_l13Op_ev (h := ht)) ?_)
  refine zz ?_
  refine brN (iP h) ?_ ?_ <;> (clear h; intro c h)
  · replace h := evR h; cases h
    refine zz ?_
    first | exact ⟨trivial, _, rfl, ⟨_, rfl, rfl⟩, rfl, rfl⟩ | exact ⟨_, rfl, ⟨_, rfl, rfl⟩, rfl, rfl⟩
  replace h := evT h
  refine zz ?_
  exact ⟨_, zfuel, _, _, _, _, _, h, leafFr [0, 1, 2, 7, 8] (by kernel_rfl), by kernel_rfl⟩
theorem spec_ProgOk_ev (l0_0 : List ByteArray) (l0_1 : List ByteArray) (l0_2 : List S43) (l0_3 : List S43) (r : Bool) (h : spec_ProgOk.fv l0_0 l0_1 l0_2 l0_3 = some r) : CE G 11 [.val (.agg [.row (l0_0.map VV.str), .row (l0_1.map VV.str), .row (l0_2.map e43), .row (l0_3.map e43)])] [] [.val (.bool r)] [] := by
  obtain ⟨k, h⟩ := lim_ex h
  refine CE.mk ⟨Try.f11, _, rfl, rfl, ⟨by kernel_rfl, Nat.le_of_ble_eq_true rfl, Nat.le_of_ble_eq_true rfl⟩, ?_⟩
  rcases k with _ | k
  · exact (run_zero h).elim
  rw [run_succ, spec_ProgOk.B] at h
  replace h := evT h
  refine zz ?_
  refine loopJ [16] (fun kq fr hp => ∃ (x3 : Int) (x16_0 : List ByteArray) (x16_1 : List ByteArray) (x16_2 : List S43) (x16_3 : List S43), run spec_ProgOk.B kq (.l0 x3 x16_0 x16_1 x16_2 x16_3) = some r ∧ (∃ fr0, fr = puts [(1, .one (.ptr 16 0)), (3, .one (.val (.int .i64 x3)))] fr0) ∧ hp = (upd 16 (.box [.val (.row (x16_0.map VV.str)), .val (.row (x16_1.map VV.str)), .val (.row (x16_2.map e43)), .val (.row (x16_3.map e43))]) (fun _ => none))) k ⟨_, zfuel, _, _, _, _, _, h, leafFr [1, 3] (by kernel_rfl), by kernel_rfl⟩ ?_
  clear h; rintro k hle _ _ ⟨x3, x16_0, x16_1, x16_2, x16_3, h, ⟨fr0, rfl⟩, rfl⟩
  rcases k with _ | k
  · exact (run_zero h).elim
  rw [run_succ, spec_ProgOk.B] at h
  refine zz ?_
  refine br (iP h) ?_ ?_ <;> (clear h; intro c h)
  · refine zz ?_
    refine cutJ (n := 200004) [16] (fun fr hp => ∃ kq, kq ≤ k ∧ ∃ (x3 : Int) (x48 : Bool) (x16_0 : List ByteArray) (x16_1 : List ByteArray) (x16_2 : List S43) (x16_3 : List S43), run spec_ProgOk.B kq (.j0 x3 x48 x16_0 x16_1 x16_2 x16_3) = some r ∧ (∃ fr0, fr = puts [(1, .one (.ptr 16 0)), (3, .one (.val (.int .i64 x3))), (48, .one (.val (.bool x48)))] fr0) ∧ hp = (upd 16 (.box [.val (.row (x16_0.map VV.str)), .val (.row (x16_1.map VV.str)), .val (.row (x16_2.map e43)), .val (.row (x16_3.map e43))]) (fun _ => none))) ?_ ?_
    · have h_ := gP h; clear h; obtain ⟨c, h⟩ := h_
      have h_ := evO h; clear h; obtain ⟨t19, ht, h⟩ := h_
      refine zz ?_
      refine Exists.intro _ (And.intro (spec_l9Name_ev (h := ht)) ?_)
      refine zz ?_
      refine brX (iP h) ?_ ?_ <;> (clear h; intro c h)
      rotate_left
      · refine zz ?_
        try (apply Or.inr; refine And.intro (by first | rfl | exact zbool) ?_)
        refine zz ?_
        try (apply Or.inr; refine And.intro (by first | rfl | exact zbool) ?_)
        refine zz ?_
        try (apply Or.inr; refine And.intro (by first | rfl | exact zbool) ?_)
        refine zz ?_
        try (apply Or.inr; refine And.intro (by first | rfl | exact zbool) ?_)
        refine zz ?_
        try (apply Or.inr; refine And.intro (by first | rfl | exact zbool) ?_)
        refine zz ?_
        try (apply Or.inr; refine And.intro (by first | rfl | exact zbool) ?_)
        refine zz ?_
        try (apply Or.inr; refine And.intro (by first | rfl | exact zbool) ?_)
        refine zz ?_
        try (apply Or.inl; refine And.intro (by first | rfl | exact zbool) ?_)
        refine zz ?_
        try (apply Or.inr; refine And.intro (by first | rfl | exact zbool) ?_)
        refine zz ?_
        try (apply Or.inr; refine And.intro (by first | rfl | exact zbool) ?_)
        refine zz ?_
        try (apply Or.inr; refine And.intro (by first | rfl | exact zbool) ?_)
        refine zz ?_
        try (apply Or.inr; refine And.intro (by first | rfl | exact zbool) ?_)
        refine zz ?_
        try (apply Or.inl; refine And.intro (by first | rfl | exact zbool) ?_)
        replace h := evT h
        refine zz ?_
        exact ⟨_, zfuel, _, _, _, _, _, _, h, leafFr [1, 3, 48] (by kernel_rfl), by kernel_rfl⟩
      refine zz ?_
      try (apply Or.inl; refine And.intro (by first | rfl | exact zbool) ?_)
      refine zz ?_
      try (apply Or.inl; refine And.intro (by first | rfl | exact zbool) ?_)
      refine zz ?_
      try (apply Or.inl; refine And.intro (by first | rfl | exact zbool) ?_)
      refine zz ?_
      try (apply Or.inl; refine And.intro (by first | rfl | exact zbool) ?_)
      refine zz ?_
      try (apply Or.inl; refine And.intro (by first | rfl | exact zbool) ?_)
      refine zz ?_
      try (apply Or.inl; refine And.intro (by first | rfl | exact zbool) ?_)
      refine zz ?_
      try (apply Or.inl; refine And.intro (by first | rfl | exact zbool) ?_)
      have h_ := evO h; clear h; obtain ⟨t29, ht, h⟩ := h_
      refine zz ?_
      refine Exists.intro _ (And.intro (spec_l7Within_ev (h := ht)) ?_)
      refine zz ?_
      try (apply Or.inr; refine And.intro (by first | rfl | exact zbool) ?_)
      refine zz ?_
      refine brW (iP h) ?_ ?_ <;> (clear h; intro c h)
      rotate_left
      · refine zz ?_
        try (apply Or.inr; refine And.intro (by first | rfl | exact zbool) ?_)
        refine zz ?_
        try (apply Or.inr; refine And.intro (by first | rfl | exact zbool) ?_)
        refine zz ?_
        try (apply Or.inr; refine And.intro (by first | rfl | exact zbool) ?_)
        refine zz ?_
        try (apply Or.inl; refine And.intro (by first | rfl | exact zbool) ?_)
        replace h := evT h
        refine zz ?_
        exact ⟨_, zfuel, _, _, _, _, _, _, h, leafFr [1, 3, 48] (by kernel_rfl), by kernel_rfl⟩
      refine zz ?_
      try (apply Or.inl; refine And.intro (by first | rfl | exact zbool) ?_)
      refine zz ?_
      try (apply Or.inl; refine And.intro (by first | rfl | exact zbool) ?_)
      refine zz ?_
      refine br (iP h) ?_ ?_ <;> (clear h; intro c h)
      rotate_left
      · refine zz ?_
        try (apply Or.inr; refine And.intro (by first | rfl | exact zbool) ?_)
        refine zz ?_
        try (apply Or.inr; refine And.intro (by first | rfl | exact zbool) ?_)
        refine zz ?_
        try (apply Or.inr; refine And.intro (by first | rfl | exact zbool) ?_)
        refine zz ?_
        try (apply Or.inr; refine And.intro (by first | rfl | exact zbool) ?_)
        refine zz ?_
        try (apply Or.inr; refine And.intro (by first | rfl | exact zbool) ?_)
        refine zz ?_
        try (apply Or.inr; refine And.intro (by first | rfl | exact zbool) ?_)
        refine zz ?_
        try (apply Or.inr; refine And.intro (by first | rfl | exact zbool) ?_)
        refine zz ?_
        try (apply Or.inr; refine And.intro (by first | rfl | exact zbool) ?_)
        refine zz ?_
        try (apply Or.inr; refine And.intro (by first | rfl | exact zbool) ?_)
        refine zz ?_
        try (apply Or.inr; refine And.intro (by first | rfl | exact zbool) ?_)
        refine zz ?_
        try (apply Or.inr; refine And.intro (by first | rfl | exact zbool) ?_)
        refine zz ?_
        try (apply Or.inl; refine And.intro (by first | rfl | exact zbool) ?_)
        refine zz ?_
        try (apply Or.inr; refine And.intro (by first | rfl | exact zbool) ?_)
        refine zz ?_
        try (apply Or.inr; refine And.intro (by first | rfl | exact zbool) ?_)
        replace h := evT h
        refine zz ?_
        exact ⟨_, zfuel, _, _, _, _, _, _, h, leafFr [1, 3, 48] (by kernel_rfl), by kernel_rfl⟩
      refine zz ?_
      try (apply Or.inl; refine And.intro (by first | rfl | exact zbool) ?_)
      refine zz ?_
      try (apply Or.inl; refine And.intro (by first | rfl | exact zbool) ?_)
      refine zz ?_
      try (apply Or.inl; refine And.intro (by first | rfl | exact zbool) ?_)
      refine zz ?_
      try (apply Or.inl; refine And.intro (by first | rfl | exact zbool) ?_)
      have h_ := gP h; clear h; obtain ⟨c, h⟩ := h_
      have h_ := gP h; clear h; obtain ⟨c, h⟩ := h_
      refine zz ?_
      try (apply Or.inl; refine And.intro (by first | rfl | exact zbool) ?_)
      refine zz ?_
      try (apply Or.inl; refine And.intro (by first | rfl | exact zbool) ?_)
      refine zz ?_
      try (apply Or.inl; refine And.intro (by first | rfl | exact zbool) ?_)
      refine zz ?_
      try (apply Or.inl; refine And.intro (by first | rfl | exact zbool) ?_)
      refine zz ?_
      try (apply Or.inl; refine And.intro (by first | rfl | exact zbool) ?_)
      refine zz ?_
      try (apply Or.inl; refine And.intro (by first | rfl | exact zbool) ?_)
      refine zz ?_
      try (apply Or.inl; refine And.intro (by first | rfl | exact zbool) ?_)
      refine zz ?_
      try (apply Or.inl; refine And.intro (by first | rfl | exact zbool) ?_)
      refine zz ?_
      try (apply Or.inl; refine And.intro (by first | rfl | exact zbool) ?_)
      refine zz ?_
      try (apply Or.inr; refine And.intro (by first | rfl | exact zbool) ?_)
      replace h := evT h
      refine zz ?_
      exact ⟨_, zfuel, _, _, _, _, _, _, h, leafFr [1, 3, 48] (by kernel_rfl), by kernel_rfl⟩
    clear h; rintro _ _ ⟨k, hle, x3, x48, x16_0, x16_1, x16_2, x16_3, h, ⟨fr0, rfl⟩, rfl⟩
    rcases k with _ | k
    · exact (run_zero h).elim
    rw [run_succ, spec_ProgOk.B] at h
    refine zz ?_
    refine br (iP h) ?_ ?_ <;> (clear h; intro c h)
    · replace h := evR h; cases h
      refine zz ?_
      first | exact ⟨trivial, _, rfl, ⟨_, rfl, rfl⟩, rfl, rfl⟩ | exact ⟨_, rfl, ⟨_, rfl, rfl⟩, rfl, rfl⟩
    replace h := evT h
    refine zz ?_
    exact ⟨_, zfuel, _, _, _, _, _, h, leafFr [1, 3] (by kernel_rfl), by kernel_rfl⟩
  replace h := evT h
  refine zz ?_
  refine loopJ [16] (fun kq fr hp => ∃ (x4 : Int) (x16_0 : List ByteArray) (x16_1 : List ByteArray) (x16_2 : List S43) (x16_3 : List S43), run spec_ProgOk.B kq (.l1 x4 x16_0 x16_1 x16_2 x16_3) = some r ∧ (∃ fr0, fr = puts [(1, .one (.ptr 16 0)), (4, .one (.val (.int .i64 x4)))] fr0) ∧ hp = (upd 16 (.box [.val (.row (x16_0.map VV.str)), .val (.row (x16_1.map VV.str)), .val (.row (x16_2.map e43)), .val (.row (x16_3.map e43))]) (fun _ => none))) k ⟨_, zfuel, _, _, _, _, _, h, leafFr [1, 4] (by kernel_rfl), by kernel_rfl⟩ ?_
  clear h; rintro k hle _ _ ⟨x4, x16_0, x16_1, x16_2, x16_3, h, ⟨fr0, rfl⟩, rfl⟩
  rcases k with _ | k
  · exact (run_zero h).elim
  rw [run_succ, spec_ProgOk.B] at h
  refine zz ?_
  refine br (iP h) ?_ ?_ <;> (clear h; intro c h)
  rotate_left
  · refine zz ?_
    refine br (iP h) ?_ ?_ <;> (clear h; intro c h)
    rotate_left
    · refine zz ?_
      try (apply Or.inr; refine And.intro (by first | rfl | exact zbool) ?_)
      refine zz ?_
      try (apply Or.inr; refine And.intro (by first | rfl | exact zbool) ?_)
      refine zz ?_
      try (apply Or.inr; refine And.intro (by first | rfl | exact zbool) ?_)
      refine zz ?_
      try (apply Or.inr; refine And.intro (by first | rfl | exact zbool) ?_)
      refine zz ?_
      try (apply Or.inr; refine And.intro (by first | rfl | exact zbool) ?_)
      refine zz ?_
      try (apply Or.inr; refine And.intro (by first | rfl | exact zbool) ?_)
      refine zz ?_
      try (apply Or.inr; refine And.intro (by first | rfl | exact zbool) ?_)
      refine zz ?_
      try (apply Or.inr; refine And.intro (by first | rfl | exact zbool) ?_)
      refine zz ?_
      try (apply Or.inr; refine And.intro (by first | rfl | exact zbool) ?_)
      refine zz ?_
      try (apply Or.inr; refine And.intro (by first | rfl | exact zbool) ?_)
      refine zz ?_
      try (apply Or.inr; refine And.intro (by first | rfl | exact zbool) ?_)
      refine zz ?_
      try (apply Or.inr; refine And.intro (by first | rfl | exact zbool) ?_)
      refine zz ?_
      try (apply Or.inr; refine And.intro (by first | rfl | exact zbool) ?_)
      refine zz ?_
      try (apply Or.inr; refine And.intro (by first | rfl | exact zbool) ?_)
      replace h := evR h; cases h
      refine zz ?_
      first | exact ⟨trivial, _, rfl, ⟨_, rfl, rfl⟩, rfl, rfl⟩ | exact ⟨_, rfl, ⟨_, rfl, rfl⟩, rfl, rfl⟩
    refine zz ?_
    try (apply Or.inl; refine And.intro (by first | rfl | exact zbool) ?_)
    refine zz ?_
    try (apply Or.inl; refine And.intro (by first | rfl | exact zbool) ?_)
    refine zz ?_
    refine br (iP h) ?_ ?_ <;> (clear h; intro c h)
    rotate_left
    · refine zz ?_
      try (apply Or.inr; refine And.intro (by first | rfl | exact zbool) ?_)
      refine zz ?_
      try (apply Or.inr; refine And.intro (by first | rfl | exact zbool) ?_)
      refine zz ?_
      try (apply Or.inr; refine And.intro (by first | rfl | exact zbool) ?_)
      refine zz ?_
      try (apply Or.inr; refine And.intro (by first | rfl | exact zbool) ?_)
      refine zz ?_
      try (apply Or.inr; refine And.intro (by first | rfl | exact zbool) ?_)
      refine zz ?_
      try (apply Or.inr; refine And.intro (by first | rfl | exact zbool) ?_)
      refine zz ?_
      try (apply Or.inr; refine And.intro (by first | rfl | exact zbool) ?_)
      refine zz ?_
      try (apply Or.inr; refine And.intro (by first | rfl | exact zbool) ?_)
      refine zz ?_
      try (apply Or.inr; refine And.intro (by first | rfl | exact zbool) ?_)
      refine zz ?_
      try (apply Or.inr; refine And.intro (by first | rfl | exact zbool) ?_)
      refine zz ?_
      try (apply Or.inr; refine And.intro (by first | rfl | exact zbool) ?_)
      replace h := evR h; cases h
      refine zz ?_
      first | exact ⟨trivial, _, rfl, ⟨_, rfl, rfl⟩, rfl, rfl⟩ | exact ⟨_, rfl, ⟨_, rfl, rfl⟩, rfl, rfl⟩
    refine zz ?_
    try (apply Or.inl; refine And.intro (by first | rfl | exact zbool) ?_)
    refine zz ?_
    try (apply Or.inl; refine And.intro (by first | rfl | exact zbool) ?_)
    refine zz ?_
    try (apply Or.inl; refine And.intro (by first | rfl | exact zbool) ?_)
    refine zz ?_
    try (apply Or.inl; refine And.intro (by first | rfl | exact zbool) ?_)
    have h_ := evO h; clear h; obtain ⟨t98, ht, h⟩ := h_
    refine zz ?_
    refine Exists.intro _ (And.intro (spec_OpsOk_ev (h := ht)) ?_)
    refine zz ?_
    try (apply Or.inl; refine And.intro (by first | rfl | exact zbool) ?_)
    refine zz ?_
    refine br (iP h) ?_ ?_ <;> (clear h; intro c h)
    rotate_left
    · refine zz ?_
      try (apply Or.inr; refine And.intro (by first | rfl | exact zbool) ?_)
      refine zz ?_
      try (apply Or.inr; refine And.intro (by first | rfl | exact zbool) ?_)
      refine zz ?_
      try (apply Or.inr; refine And.intro (by first | rfl | exact zbool) ?_)
      refine zz ?_
      try (apply Or.inr; refine And.intro (by first | rfl | exact zbool) ?_)
      refine zz ?_
      try (apply Or.inr; refine And.intro (by first | rfl | exact zbool) ?_)
      replace h := evR h; cases h
      refine zz ?_
      first | exact ⟨trivial, _, rfl, ⟨_, rfl, rfl⟩, rfl, rfl⟩ | exact ⟨_, rfl, ⟨_, rfl, rfl⟩, rfl, rfl⟩
    refine zz ?_
    try (apply Or.inl; refine And.intro (by first | rfl | exact zbool) ?_)
    refine zz ?_
    try (apply Or.inl; refine And.intro (by first | rfl | exact zbool) ?_)
    refine zz ?_
    try (apply Or.inl; refine And.intro (by first | rfl | exact zbool) ?_)
    refine zz ?_
    try (apply Or.inl; refine And.intro (by first | rfl | exact zbool) ?_)
    have h_ := evO h; clear h; obtain ⟨t105, ht, h⟩ := h_
    refine zz ?_
    refine Exists.intro _ (And.intro (spec_OpsOk_ev (h := ht)) ?_)
    refine zz ?_
    try (apply Or.inl; refine And.intro (by first | rfl | exact zbool) ?_)
    replace h := evR h; cases h
    refine zz ?_
    first | exact ⟨trivial, _, rfl, ⟨_, rfl, rfl⟩, rfl, rfl⟩ | exact ⟨_, rfl, ⟨_, rfl, rfl⟩, rfl, rfl⟩
  refine zz ?_
  refine cutJ (n := 200009) [16] (fun fr hp => ∃ kq, kq ≤ k ∧ ∃ (x4 : Int) (x80 : Bool) (x16_0 : List ByteArray) (x16_1 : List ByteArray) (x16_2 : List S43) (x16_3 : List S43), run spec_ProgOk.B kq (.j1 x4 x80 x16_0 x16_1 x16_2 x16_3) = some r ∧ (∃ fr0, fr = puts [(1, .one (.ptr 16 0)), (4, .one (.val (.int .i64 x4))), (80, .one (.val (.bool x80)))] fr0) ∧ hp = (upd 16 (.box [.val (.row (x16_0.map VV.str)), .val (.row (x16_1.map VV.str)), .val (.row (x16_2.map e43)), .val (.row (x16_3.map e43))]) (fun _ => none))) ?_ ?_
  · have h_ := gP h; clear h; obtain ⟨c, h⟩ := h_
    have h_ := evO h; clear h; obtain ⟨t61, ht, h⟩ := h_
    refine zz ?_
    refine Exists.intro _ (And.intro (spec_l9Name_ev (h := ht)) ?_)
    refine zz ?_
    refine brX (iP h) ?_ ?_ <;> (clear h; intro c h)
    rotate_left
    · refine zz ?_
      try (apply Or.inr; refine And.intro (by first | rfl | exact zbool) ?_)
      refine zz ?_
      try (apply Or.inr; refine And.intro (by first | rfl | exact zbool) ?_)
      refine zz ?_
      try (apply Or.inr; refine And.intro (by first | rfl | exact zbool) ?_)
      refine zz ?_
      try (apply Or.inl; refine And.intro (by first | rfl | exact zbool) ?_)
      replace h := evT h
      refine zz ?_
      exact ⟨_, zfuel, _, _, _, _, _, _, h, leafFr [1, 4, 80] (by kernel_rfl), by kernel_rfl⟩
    refine zz ?_
    try (apply Or.inl; refine And.intro (by first | rfl | exact zbool) ?_)
    refine zz ?_
    try (apply Or.inl; refine And.intro (by first | rfl | exact zbool) ?_)
    refine zz ?_
    refine br (iP h) ?_ ?_ <;> (clear h; intro c h)
    rotate_left
    · refine zz ?_
      try (apply Or.inr; refine And.intro (by first | rfl | exact zbool) ?_)
      refine zz ?_
      try (apply Or.inr; refine And.intro (by first | rfl | exact zbool) ?_)
      refine zz ?_
      try (apply Or.inr; refine And.intro (by first | rfl | exact zbool) ?_)
      refine zz ?_
      try (apply Or.inr; refine And.intro (by first | rfl | exact zbool) ?_)
      refine zz ?_
      try (apply Or.inr; refine And.intro (by first | rfl | exact zbool) ?_)
      refine zz ?_
      try (apply Or.inr; refine And.intro (by first | rfl | exact zbool) ?_)
      refine zz ?_
      try (apply Or.inr; refine And.intro (by first | rfl | exact zbool) ?_)
      refine zz ?_
      try (apply Or.inr; refine And.intro (by first | rfl | exact zbool) ?_)
      refine zz ?_
      try (apply Or.inr; refine And.intro (by first | rfl | exact zbool) ?_)
      refine zz ?_
      try (apply Or.inr; refine And.intro (by first | rfl | exact zbool) ?_)
      refine zz ?_
      try (apply Or.inr; refine And.intro (by first | rfl | exact zbool) ?_)
      refine zz ?_
      try (apply Or.inl; refine And.intro (by first | rfl | exact zbool) ?_)
      refine zz ?_
      try (apply Or.inr; refine And.intro (by first | rfl | exact zbool) ?_)
      refine zz ?_
      try (apply Or.inr; refine And.intro (by first | rfl | exact zbool) ?_)
      replace h := evT h
      refine zz ?_
      exact ⟨_, zfuel, _, _, _, _, _, _, h, leafFr [1, 4, 80] (by kernel_rfl), by kernel_rfl⟩
    refine zz ?_
    try (apply Or.inl; refine And.intro (by first | rfl | exact zbool) ?_)
    refine zz ?_
    try (apply Or.inl; refine And.intro (by first | rfl | exact zbool) ?_)
    refine zz ?_
    try (apply Or.inl; refine And.intro (by first | rfl | exact zbool) ?_)
    refine zz ?_
    try (apply Or.inl; refine And.intro (by first | rfl | exact zbool) ?_)
    have h_ := gP h; clear h; obtain ⟨c, h⟩ := h_
    have h_ := gP h; clear h; obtain ⟨c, h⟩ := h_
    refine zz ?_
    try (apply Or.inl; refine And.intro (by first | rfl | exact zbool) ?_)
    refine zz ?_
    try (apply Or.inl; refine And.intro (by first | rfl | exact zbool) ?_)
    refine zz ?_
    try (apply Or.inl; refine And.intro (by first | rfl | exact zbool) ?_)
    refine zz ?_
    try (apply Or.inl; refine And.intro (by first | rfl | exact zbool) ?_)
    refine zz ?_
    try (apply Or.inl; refine And.intro (by first | rfl | exact zbool) ?_)
    refine zz ?_
    try (apply Or.inl; refine And.intro (by first | rfl | exact zbool) ?_)
    refine zz ?_
    try (apply Or.inl; refine And.intro (by first | rfl | exact zbool) ?_)
    refine zz ?_
    try (apply Or.inl; refine And.intro (by first | rfl | exact zbool) ?_)
    refine zz ?_
    try (apply Or.inl; refine And.intro (by first | rfl | exact zbool) ?_)
    refine zz ?_
    try (apply Or.inr; refine And.intro (by first | rfl | exact zbool) ?_)
    replace h := evT h
    refine zz ?_
    exact ⟨_, zfuel, _, _, _, _, _, _, h, leafFr [1, 4, 80] (by kernel_rfl), by kernel_rfl⟩
  clear h; rintro _ _ ⟨k, hle, x4, x80, x16_0, x16_1, x16_2, x16_3, h, ⟨fr0, rfl⟩, rfl⟩
  rcases k with _ | k
  · exact (run_zero h).elim
  rw [run_succ, spec_ProgOk.B] at h
  refine zz ?_
  refine br (iP h) ?_ ?_ <;> (clear h; intro c h)
  · replace h := evR h; cases h
    refine zz ?_
    first | exact ⟨trivial, _, rfl, ⟨_, rfl, rfl⟩, rfl, rfl⟩ | exact ⟨_, rfl, ⟨_, rfl, rfl⟩, rfl, rfl⟩
  replace h := evT h
  refine zz ?_
  exact ⟨_, zfuel, _, _, _, _, _, h, leafFr [1, 4] (by kernel_rfl), by kernel_rfl⟩
theorem impl_in_ev (a0 : Int) (a1 : Int) (a2 : Int) (r : Bool) (h : impl_in.f a0 a1 a2 = some r) : CE G 19 [.val (.int .i64 a0), .val (.int .i64 a1), .val (.int .i64 a2)] [] [.val (.bool r)] [] := by
  refine CE.mk ⟨Try.f19, _, rfl, rfl, ⟨by kernel_rfl, Nat.le_of_ble_eq_true rfl, Nat.le_of_ble_eq_true rfl⟩, ?_⟩
  rw [impl_in.f] at h
  refine zz ?_
  refine br (iteS h) ?_ ?_ <;> (clear h; intro c h)
  · refine zz ?_
    try (apply Or.inl; refine And.intro (by first | rfl | exact zbool) ?_)
    refine zz ?_
    try (apply Or.inl; refine And.intro (by first | rfl | exact zbool) ?_)
    refine zz ?_
    try (apply Or.inl; refine And.intro (by first | rfl | exact zbool) ?_)
    cases h
    refine zz ?_
    first | exact ⟨trivial, _, rfl, ⟨_, rfl, rfl⟩, rfl, rfl⟩ | exact ⟨_, rfl, ⟨_, rfl, rfl⟩, rfl, rfl⟩
  refine zz ?_
  try (apply Or.inr; refine And.intro (by first | rfl | exact zbool) ?_)
  refine zz ?_
  try (apply Or.inr; refine And.intro (by first | rfl | exact zbool) ?_)
  refine zz ?_
  try (apply Or.inr; refine And.intro (by first | rfl | exact zbool) ?_)
  cases h
  refine zz ?_
  first | exact ⟨trivial, _, rfl, ⟨_, rfl, rfl⟩, rfl, rfl⟩ | exact ⟨_, rfl, ⟨_, rfl, rfl⟩, rfl, rfl⟩
theorem impl_isLetter_ev (a0 : Int) (r : Bool) (h : impl_isLetter.f a0 = some r) : CE G 56 [.val (.int .u8 a0)] [] [.val (.bool r)] [] := by
  refine CE.mk ⟨Try.f56, _, rfl, rfl, ⟨by kernel_rfl, Nat.le_of_ble_eq_true rfl, Nat.le_of_ble_eq_true rfl⟩, ?_⟩
  rw [impl_isLetter.f] at h
  refine zz ?_
  refine br (iteS h) ?_ ?_ <;> (clear h; intro c h)
  rotate_left
  · refine zz ?_
    try (apply Or.inr; refine And.intro (by first | rfl | exact zbool) ?_)
    refine zz ?_
    try (apply Or.inr; refine And.intro (by first | rfl | exact zbool) ?_)
    refine zz ?_
    try (apply Or.inl; refine And.intro (by first | rfl | exact zbool) ?_)
    refine zz ?_
    try (apply Or.inl; refine And.intro (by first | rfl | exact zbool) ?_)
    refine zz ?_
    try (apply Or.inl; refine And.intro (by first | rfl | exact zbool) ?_)
    refine zz ?_
    refine br (iteS h) ?_ ?_ <;> (clear h; intro c h)
    · refine zz ?_
      try (apply Or.inl; refine And.intro (by first | rfl | exact zbool) ?_)
      refine zz ?_
      try (apply Or.inl; refine And.intro (by first | rfl | exact zbool) ?_)
      refine zz ?_
      try (apply Or.inl; refine And.intro (by first | rfl | exact zbool) ?_)
      refine zz ?_
      try (apply Or.inr; refine And.intro (by first | rfl | exact zbool) ?_)
      cases h
      refine zz ?_
      first | exact ⟨trivial, _, rfl, ⟨_, rfl, rfl⟩, rfl, rfl⟩ | exact ⟨_, rfl, ⟨_, rfl, rfl⟩, rfl, rfl⟩
    refine zz ?_
    try (apply Or.inr; refine And.intro (by first | rfl | exact zbool) ?_)
    refine zz ?_
    try (apply Or.inl; refine And.intro (by first | rfl | exact zbool) ?_)
    refine zz ?_
    try (apply Or.inr; refine And.intro (by first | rfl | exact zbool) ?_)
    refine zz ?_
    try (apply Or.inr; refine And.intro (by first | rfl | exact zbool) ?_)
    cases h
    refine zz ?_
    first | exact ⟨trivial, _, rfl, ⟨_, rfl, rfl⟩, rfl, rfl⟩ | exact ⟨_, rfl, ⟨_, rfl, rfl⟩, rfl, rfl⟩
  refine zz ?_
  try (apply Or.inl; refine And.intro (by first | rfl | exact zbool) ?_)
  refine zz ?_
  try (apply Or.inl; refine And.intro (by first | rfl | exact zbool) ?_)
  refine zz ?_
  refine brW (iteS h) ?_ ?_ <;> (clear h; intro c h)
  rotate_left
  · refine zz ?_
    try (apply Or.inr; refine And.intro (by first | rfl | exact zbool) ?_)
    refine zz ?_
    try (apply Or.inr; refine And.intro (by first | rfl | exact zbool) ?_)
    refine zz ?_
    try (apply Or.inr; refine And.intro (by first | rfl | exact zbool) ?_)
    refine zz ?_
    try (apply Or.inl; refine And.intro (by first | rfl | exact zbool) ?_)
    cases h
    refine zz ?_
    first | exact ⟨trivial, _, rfl, ⟨_, rfl, rfl⟩, rfl, rfl⟩ | exact ⟨_, rfl, ⟨_, rfl, rfl⟩, rfl, rfl⟩
  refine zz ?_
  try (apply Or.inl; refine And.intro (by first | rfl | exact zbool) ?_)
  refine zz ?_
  try (apply Or.inl; refine And.intro (by first | rfl | exact zbool) ?_)
  refine zz ?_
  refine br (iteS h) ?_ ?_ <;> (clear h; intro c h)
  · refine zz ?_
    try (apply Or.inl; refine And.intro (by first | rfl | exact zbool) ?_)
    refine zz ?_
    try (apply Or.inl; refine And.intro (by first | rfl | exact zbool) ?_)
    refine zz ?_
    try (apply Or.inl; refine And.intro (by first | rfl | exact zbool) ?_)
    refine zz ?_
    try (apply Or.inr; refine And.intro (by first | rfl | exact zbool) ?_)
    cases h
    refine zz ?_
    first | exact ⟨trivial, _, rfl, ⟨_, rfl, rfl⟩, rfl, rfl⟩ | exact ⟨_, rfl, ⟨_, rfl, rfl⟩, rfl, rfl⟩
  refine zz ?_
  try (apply Or.inr; refine And.intro (by first | rfl | exact zbool) ?_)
  refine zz ?_
  try (apply Or.inl; refine And.intro (by first | rfl | exact zbool) ?_)
  refine zz ?_
  try (apply Or.inr; refine And.intro (by first | rfl | exact zbool) ?_)
  refine zz ?_
  try (apply Or.inr; refine And.intro (by first | rfl | exact zbool) ?_)
  cases h
  refine zz ?_
  first | exact ⟨trivial, _, rfl, ⟨_, rfl, rfl⟩, rfl, rfl⟩ | exact ⟨_, rfl, ⟨_, rfl, rfl⟩, rfl, rfl⟩
theorem impl_lettersAt_ev (a0 : ByteArray) (a1 : Int) (r : Int) (h : impl_lettersAt.fv a0 a1 = some r) : CE G 49 [.val (.str a0), .val (.int .i64 a1)] [] [.val (.int .i64 r)] [] := by
  obtain ⟨k, h⟩ := lim_ex h
  refine CE.mk ⟨Try.f49, _, rfl, rfl, ⟨by kernel_rfl, Nat.le_of_ble_eq_true rfl, Nat.le_of_ble_eq_true rfl⟩, ?_⟩
  rcases k with _ | k
  · exact (run_zero h).elim
  rw [run_succ, impl_lettersAt.B] at h
  replace h := evT h
  refine zz ?_
  refine loopJ [] (fun kq fr hp => ∃ (x0 : ByteArray) (x1 : Int) (x5 : Int), run impl_lettersAt.B kq (.l0 x0 x1 x5) = some r ∧ (∃ fr0, fr = puts [(0, .one (.val (.str x0))), (1, .one (.val (.int .i64 x1))), (5, .one (.val (.int .i64 x5)))] fr0) ∧ hp = (fun _ => none)) k ⟨_, zfuel, _, _, _, h, leafFr [0, 1, 5] (by kernel_rfl), by kernel_rfl⟩ ?_
  clear h; rintro k hle _ _ ⟨x0, x1, x5, h, ⟨fr0, rfl⟩, rfl⟩
  rcases k with _ | k
  · exact (run_zero h).elim
  rw [run_succ, impl_lettersAt.B] at h
  refine zz ?_
  refine br (iP h) ?_ ?_ <;> (clear h; intro c h)
  rotate_left
  · refine zz ?_
    try (apply Or.inr; refine And.intro (by first | rfl | exact zbool) ?_)
    refine zz ?_
    try (apply Or.inr; refine And.intro (by first | rfl | exact zbool) ?_)
    refine zz ?_
    try (apply Or.inr; refine And.intro (by first | rfl | exact zbool) ?_)
    refine zz ?_
    try (apply Or.inr; refine And.intro (by first | rfl | exact zbool) ?_)
    refine zz ?_
    try (apply Or.inr; refine And.intro (by first | rfl | exact zbool) ?_)
    refine zz ?_
    try (apply Or.inr; refine And.intro (by first | rfl | exact zbool) ?_)
    refine zz ?_
    try (apply Or.inr; refine And.intro (by first | rfl | exact zbool) ?_)
    replace h := evR h; cases h
    refine zz ?_
    first | exact ⟨trivial, _, rfl, ⟨_, rfl, rfl⟩, rfl, rfl⟩ | exact ⟨_, rfl, ⟨_, rfl, rfl⟩, rfl, rfl⟩
  refine zz ?_
  try (apply Or.inl; refine And.intro (by first | rfl | exact zbool) ?_)
  refine zz ?_
  try (apply Or.inl; refine And.intro (by first | rfl | exact zbool) ?_)
  refine zz ?_
  try (apply Or.inl; refine And.intro (by first | rfl | exact zbool) ?_)
  refine zz ?_
  try (apply Or.inl; refine And.intro (by first | rfl | exact zbool) ?_)
  have h_ := gP h; clear h; obtain ⟨c, h⟩ := h_
  refine zz ?_
  try (apply Or.inl; refine And.intro (by first | rfl | exact zbool) ?_)
  have h_ := evO h; clear h; obtain ⟨t18, ht, h⟩ := h_
  refine zz ?_
  refine Exists.intro _ (And.intro (impl_isLetter_ev (h := ht)) ?_)
  refine zz ?_
  try (apply Or.inl; refine And.intro (by first | rfl | exact zbool) ?_)
  refine zz ?_
  refine br (iP h) ?_ ?_ <;> (clear h; intro c h)
  · replace h := evT h
    refine zz ?_
    exact ⟨_, zfuel, _, _, _, h, leafFr [0, 1, 5] (by kernel_rfl), by kernel_rfl⟩
  replace h := evR h; cases h
  refine zz ?_
  first | exact ⟨trivial, _, rfl, ⟨_, rfl, rfl⟩, rfl, rfl⟩ | exact ⟨_, rfl, ⟨_, rfl, rfl⟩, rfl, rfl⟩
theorem impl_calls_ev (r : List ByteArray) (h : impl_calls.f  = some r) : CE G 40 [] [] [.val (.row (r.map VV.str))] [] := by
  refine CE.mk ⟨Try.f40, _, rfl, rfl, ⟨by kernel_rfl, Nat.le_of_ble_eq_true rfl, Nat.le_of_ble_eq_true rfl⟩, ?_⟩
  rw [impl_calls.f] at h
  have h_ := oS h; clear h; obtain ⟨y1_0, hy, h⟩ := h_
  refine zz ?_
  refine Exists.intro (y1_0.map VV.str) (And.intro (by rw [← Option.some.inj hy]; rfl) ?_)
  cases h
  refine zz ?_
  first | exact ⟨trivial, _, rfl, ⟨_, rfl, rfl⟩, rfl, rfl⟩ | exact ⟨_, rfl, ⟨_, rfl, rfl⟩, rfl, rfl⟩
theorem slices_Index_string_string_ev (l0 : List ByteArray) (a1 : ByteArray) (r : Int) (h : slices_Index_string_string.fv l0 a1 = some r) : CE G 45 [.val (.row (l0.map VV.str)), .val (.str a1)] [] [.val (.int .i64 r)] [] := by
  obtain ⟨k, h⟩ := lim_ex h
  refine CE.mk ⟨Try.f45, _, rfl, rfl, ⟨by kernel_rfl, Nat.le_of_ble_eq_true rfl, Nat.le_of_ble_eq_true rfl⟩, ?_⟩
  rcases k with _ | k
  · exact (run_zero h).elim
  rw [run_succ, slices_Index_string_string.B] at h
  replace h := evT h
  refine zz ?_
  refine loopJ [] (fun kq fr hp => ∃ (x0 : List ByteArray) (x1 : ByteArray) (x7 : Int) (x8 : Int), run slices_Index_string_string.B kq (.l0 x0 x1 x7 x8) = some r ∧ (∃ fr0, fr = puts [(0, .one (.val (.row (x0.map VV.str)))), (1, .one (.val (.str x1))), (7, .one (.val (.int .i64 x7))), (8, .one (.val (.int .i64 x8)))] fr0) ∧ hp = (fun _ => none)) k ⟨_, zfuel, _, _, _, _, h, leafFr [0, 1, 7, 8] (by kernel_rfl), by kernel_rfl⟩ ?_
  clear h; rintro k hle _ _ ⟨x0, x1, x7, x8, h, ⟨fr0, rfl⟩, rfl⟩
  rcases k with _ | k
  · exact (run_zero h).elim
  rw [run_succ, slices_Index_string_string.B] at h
  refine zz ?_
  refine br (iP h) ?_ ?_ <;> (clear h; intro c h)
  rotate_left
  · replace h := evR h; cases h
    refine zz ?_
    first | exact ⟨trivial, _, rfl, ⟨_, rfl, rfl⟩, rfl, rfl⟩ | exact ⟨_, rfl, ⟨_, rfl, rfl⟩, rfl, rfl⟩
  have h_ := gP h; clear h; obtain ⟨c, h⟩ := h_
  have h_ := gP h; clear h; obtain ⟨c, h⟩ := h_
  refine zz ?_
  refine br (iP h) ?_ ?_ <;> (clear h; intro c h)
  · replace h := evR h; cases h
    refine zz ?_
    first | exact ⟨trivial, _, rfl, ⟨_, rfl, rfl⟩, rfl, rfl⟩ | exact ⟨_, rfl, ⟨_, rfl, rfl⟩, rfl, rfl⟩
  replace h := evT h
  refine zz ?_
  exact ⟨_, zfuel, _, _, _, _, h, leafFr [0, 1, 7, 8] (by kernel_rfl), by kernel_rfl⟩
theorem slices_Contains_string_string_ev (l0 : List ByteArray) (a1 : ByteArray) (r : Bool) (h : slices_Contains_string_string.fv l0 a1 = some r) : CE G 31 [.val (.row (l0.map VV.str)), .val (.str a1)] [] [.val (.bool r)] [] := by
  refine CE.mk ⟨Try.f31, _, rfl, rfl, ⟨by kernel_rfl, Nat.le_of_ble_eq_true rfl, Nat.le_of_ble_eq_true rfl⟩, ?_⟩
  rw [slices_Contains_string_string.fv] at h
  have h_ := oS h; clear h; obtain ⟨t7, ht, h⟩ := h_
  refine zz ?_
  refine Exists.intro _ (And.intro (slices_Index_string_string_ev (h := ht)) ?_)
  cases h
  refine zz ?_
  first | exact ⟨trivial, _, rfl, ⟨_, rfl, rfl⟩, rfl, rfl⟩ | exact ⟨_, rfl, ⟨_, rfl, rfl⟩, rfl, rfl⟩
theorem impl_Keyword_ev (a0 : ByteArray) (r : Bool) (h : impl_Keyword.fv a0 = some r) : CE G 50 [.val (.str a0)] [] [.val (.bool r)] [] := by
  obtain ⟨k, h⟩ := lim_ex h
  refine CE.mk ⟨Try.f50, _, rfl, rfl, ⟨by kernel_rfl, Nat.le_of_ble_eq_true rfl, Nat.le_of_ble_eq_true rfl⟩, ?_⟩
  rcases k with _ | k
  · exact (run_zero h).elim
  rw [run_succ, impl_Keyword.B] at h
  refine zz ?_
  refine cutJ (n := 4) [] (fun fr hp => ∃ kq, kq ≤ k ∧ ∃ (x0 : ByteArray) (x4 : Bool), run impl_Keyword.B kq (.j0 x0 x4) = some r ∧ (∃ fr0, fr = puts [(0, .one (.val (.str x0))), (4, .one (.val (.bool x4)))] fr0) ∧ hp = (fun _ => none)) ?_ ?_
  · refine zz ?_
    refine br (iP h) ?_ ?_ <;> (clear h; intro c h)
    · replace h := evT h
      refine zz ?_
      exact ⟨_, zfuel, _, _, h, leafFr [0, 4] (by kernel_rfl), by kernel_rfl⟩
    refine zz ?_
    refine br (iP h) ?_ ?_ <;> (clear h; intro c h)
    · replace h := evT h
      refine zz ?_
      exact ⟨_, zfuel, _, _, h, leafFr [0, 4] (by kernel_rfl), by kernel_rfl⟩
    refine zz ?_
    refine br (iP h) ?_ ?_ <;> (clear h; intro c h)
    · replace h := evT h
      refine zz ?_
      exact ⟨_, zfuel, _, _, h, leafFr [0, 4] (by kernel_rfl), by kernel_rfl⟩
    refine zz ?_
    refine br (iP h) ?_ ?_ <;> (clear h; intro c h)
    · replace h := evT h
      refine zz ?_
      exact ⟨_, zfuel, _, _, h, leafFr [0, 4] (by kernel_rfl), by kernel_rfl⟩
    refine zz ?_
    refine br (iP h) ?_ ?_ <;> (clear h; intro c h)
    · replace h := evT h
      refine zz ?_
      exact ⟨_, zfuel, _, _, h, leafFr [0, 4] (by kernel_rfl), by kernel_rfl⟩
    refine zz ?_
    refine br (iP h) ?_ ?_ <;> (clear h; intro c h)
    · replace h := evT h
      refine zz ?_
      exact ⟨_, zfuel, _, _, h, leafFr [0, 4] (by kernel_rfl), by kernel_rfl⟩
    refine zz ?_
    refine br (iP h) ?_ ?_ <;> (clear h; intro c h)
    · replace h := evT h
      refine zz ?_
      exact ⟨_, zfuel, _, _, h, leafFr [0, 4] (by kernel_rfl), by kernel_rfl⟩
    refine zz ?_
    refine br (iP h) ?_ ?_ <;> (clear h; intro c h)
    · replace h := evT h
      refine zz ?_
      exact ⟨_, zfuel, _, _, h, leafFr [0, 4] (by kernel_rfl), by kernel_rfl⟩
    replace h := evT h
    refine zz ?_
    exact ⟨_, zfuel, _, _, h, leafFr [0, 4] (by kernel_rfl), by kernel_rfl⟩
  clear h; rintro _ _ ⟨k, hle, x0, x4, h, ⟨fr0, rfl⟩, rfl⟩
  rcases k with _ | k
  · exact (run_zero h).elim
  rw [run_succ, impl_Keyword.B] at h
  refine zz ?_
  refine br (iP h) ?_ ?_ <;> (clear h; intro c h)
  · replace h := evR h; cases h
    refine zz ?_
    first | exact ⟨trivial, _, rfl, ⟨_, rfl, rfl⟩, rfl, rfl⟩ | exact ⟨_, rfl, ⟨_, rfl, rfl⟩, rfl, rfl⟩
  have h_ := evO h; clear h; obtain ⟨t14, ht, h⟩ := h_
  refine zz ?_
  refine Exists.intro _ (And.intro (impl_calls_ev (h := ht)) ?_)
  have h_ := evO h; clear h; obtain ⟨t16, ht, h⟩ := h_
  refine zz ?_
  refine Exists.intro _ (And.intro (slices_Contains_string_string_ev (h := ht)) ?_)
  replace h := evR h; cases h
  refine zz ?_
  first | exact ⟨trivial, _, rfl, ⟨_, rfl, rfl⟩, rfl, rfl⟩ | exact ⟨_, rfl, ⟨_, rfl, rfl⟩, rfl, rfl⟩
end Go.Proofs.Yteegedceandnkaa.TFnExactProgOk
