/- The walks of the functions that FnExactProgOk reaches, through the abstract machine. -/
import Derived.Test.YteegedceandnkaaAFnExactProgOkh
import Derived.Test.YteegedceandnkaaAFnExactProgOkx2
import Derived.Test.YteegedceandnkaaAFnExactProgOkx3
import Derived.Test.YteegedceandnkaaFFnExactProgOk
import Derived.Test.YteegedceandnkaaProg
set_option maxHeartbeats 4000000
set_option maxRecDepth 100000
set_option linter.unusedVariables false
set_option linter.unusedSimpArgs false
namespace Go.Proofs.Yteegedceandnkaa.TFnExactProgOk
open Go Go.RowKit Go.Proofs Go.Proofs.YteegedceandnkaaW.AM Go.Proofs.Yteegedceandnkaa.QFnExactProgOk Go.Proofs.YteegedceandnkaaW.PrintWords Go.Proofs.YteegedceandnkaaW.Pgs
theorem impl_rexDeep_all : ∀ n, (∀ (k : Nat) (a0_0 : Int) (a0_1 : Int) (a0_2 : ByteArray) (a0_3 : Bool) (l0_4 : List S59) (r : Int) (h : run impl_rexDeep.B k (.f a0_0 a0_1 a0_2 a0_3 l0_4) = some r) (hk : k < n), CE G 55 [.val (.agg [.int .i64 a0_0, .int .i64 a0_1, .str a0_2, .bool a0_3, .row (l0_4.map e59)])] [] [.val (.int .i64 r)] []) := by
  intro n
  induction n with
  | zero => exact (by intros; omega)
  | succ n ih =>
    · intro k a0_0 a0_1 a0_2 a0_3 l0_4 r h hk
      refine CE.mk ⟨Try.f55, _, rfl, rfl, ⟨by kernel_rfl, Nat.le_of_ble_eq_true rfl, Nat.le_of_ble_eq_true rfl⟩, ?_⟩
      rcases k with _ | k
      · exact (run_zero h).elim
      rw [run_succ, impl_rexDeep.B] at h
      replace h := evT h
      refine zz ?_
      refine loopJ [] (fun kq fr hp => ∃ (x3 : Int) (x7 : List S59) (x8 : Int) (x9 : Int), run impl_rexDeep.B kq (.l0 x3 x7 x8 x9) = some r ∧ (∃ fr0, fr = puts [(3, .one (.val (.int .i64 x3))), (7, .one (.val (.row (x7.map e59)))), (8, .one (.val (.int .i64 x8))), (9, .one (.val (.int .i64 x9)))] fr0) ∧ hp = (fun _ => none)) k ⟨_, zfuel, _, _, _, _, h, leafFr [3, 7, 8, 9] (by kernel_rfl), by kernel_rfl⟩ ?_
      clear h; rintro k hle _ _ ⟨x3, x7, x8, x9, h, ⟨fr0, rfl⟩, rfl⟩
      rcases k with _ | k
      · exact (run_zero h).elim
      rw [run_succ, impl_rexDeep.B] at h
      refine zz ?_
      refine br (iP h) ?_ ?_ <;> (clear h; intro c h)
      rotate_left
      · replace h := evR h; cases h
        refine zz ?_
        first | exact ⟨trivial, _, rfl, ⟨_, rfl, rfl⟩, rfl, rfl⟩ | exact ⟨_, rfl, ⟨_, rfl, rfl⟩, rfl, rfl⟩
      have h_ := gP h; clear h; obtain ⟨c, h⟩ := h_
      have h_ := gP h; clear h; obtain ⟨c, h⟩ := h_
      have h_ := evA h; clear h; obtain ⟨t15, ht, h⟩ := h_
      refine zz ?_
      refine Exists.intro _ (And.intro (ih _ (h := ht) (hk := zfuel)) ?_)
      replace h := evT h
      refine zz ?_
      exact ⟨_, zfuel, _, _, _, _, h, leafFr [3, 7, 8, 9] (by kernel_rfl), by kernel_rfl⟩
theorem impl_rexDeep_ev (a0_0 : Int) (a0_1 : Int) (a0_2 : ByteArray) (a0_3 : Bool) (l0_4 : List S59) (r : Int) (h : impl_rexDeep.fv a0_0 a0_1 a0_2 a0_3 l0_4 = some r) : CE G 55 [.val (.agg [.int .i64 a0_0, .int .i64 a0_1, .str a0_2, .bool a0_3, .row (l0_4.map e59)])] [] [.val (.int .i64 r)] [] := by
  obtain ⟨k, h⟩ := lim_ex h
  exact (impl_rexDeep_all (k + 1)) k _ _ _ _ _ _ h (Nat.lt_succ_self k)
theorem impl_RexParse_ev (a0 : ByteArray) (r1 : Int) (r2 : Int) (r3 : ByteArray) (r4 : Bool) (r5 : List S59) (r6 : Bool) (h : impl_RexParse.fv a0 = some (r1, r2, r3, r4, r5, r6)) : CE G 48 [.val (.str a0)] [] [.val (.agg [.int .i64 r1, .int .i64 r2, .str r3, .bool r4, .row (r5.map e59)]), .val (.bool r6)] [] := by
  refine CE.mk ⟨Try.f48, _, rfl, rfl, ⟨by kernel_rfl, Nat.le_of_ble_eq_true rfl, Nat.le_of_ble_eq_true rfl⟩, ?_⟩
  rw [impl_RexParse.fv] at h
  refine zz ?_
  refine br (iteS h) ?_ ?_ <;> (clear h; intro c h)
  · cases h
    refine zz ?_
    first | exact ⟨trivial, _, rfl, ⟨_, rfl, ⟨_, rfl, rfl⟩⟩, rfl, rfl⟩ | exact ⟨_, rfl, ⟨_, rfl, ⟨_, rfl, rfl⟩⟩, rfl, rfl⟩
  have h_ := oS h; clear h; obtain ⟨t14, ht, h⟩ := h_
  refine zz ?_
  refine Exists.intro _ (Exists.intro _ (And.intro (impl_rexReader_pattern_ev (h := ht)) ?_))
  refine zz ?_
  refine brW (iteS h) ?_ ?_ <;> (clear h; intro c h)
  rotate_left
  · refine zz ?_
    try (apply Or.inr; refine And.intro (by first | rfl | exact zbool) ?_)
    refine zz ?_
    try (apply Or.inr; refine And.intro (by first | rfl | exact zbool) ?_)
    refine zz ?_
    try (apply Or.inr; refine And.intro (by first | rfl | exact zbool) ?_)
    refine zz ?_
    try (apply Or.inr; refine And.intro (by first | rfl | exact zbool) ?_)
    refine zz ?_
    try (apply Or.inl; refine And.intro (by first | rfl | exact zbool) ?_)
    refine zz ?_
    try (apply Or.inr; refine And.intro (by first | rfl | exact zbool) ?_)
    refine zz ?_
    try (apply Or.inr; refine And.intro (by first | rfl | exact zbool) ?_)
    refine zz ?_
    try (apply Or.inr; refine And.intro (by first | rfl | exact zbool) ?_)
    refine zz ?_
    try (apply Or.inl; refine And.intro (by first | rfl | exact zbool) ?_)
    refine zz ?_
    try (apply Or.inl; refine And.intro (by first | rfl | exact zbool) ?_)
    cases h
    refine zz ?_
    first | exact ⟨trivial, _, rfl, ⟨_, rfl, ⟨_, rfl, rfl⟩⟩, rfl, rfl⟩ | exact ⟨_, rfl, ⟨_, rfl, ⟨_, rfl, rfl⟩⟩, rfl, rfl⟩
  refine zz ?_
  try (apply Or.inl; refine And.intro (by first | rfl | exact zbool) ?_)
  refine zz ?_
  try (apply Or.inl; refine And.intro (by first | rfl | exact zbool) ?_)
  refine zz ?_
  try (apply Or.inl; refine And.intro (by first | rfl | exact zbool) ?_)
  refine zz ?_
  try (apply Or.inl; refine And.intro (by first | rfl | exact zbool) ?_)
  refine zz ?_
  try (apply Or.inr; refine And.intro (by first | rfl | exact zbool) ?_)
  refine zz ?_
  refine brX (iteS h) ?_ ?_ <;> (clear h; intro c h)
  rotate_left
  · refine zz ?_
    try (apply Or.inr; refine And.intro (by first | rfl | exact zbool) ?_)
    refine zz ?_
    try (apply Or.inr; refine And.intro (by first | rfl | exact zbool) ?_)
    refine zz ?_
    try (apply Or.inl; refine And.intro (by first | rfl | exact zbool) ?_)
    refine zz ?_
    try (apply Or.inl; refine And.intro (by first | rfl | exact zbool) ?_)
    cases h
    refine zz ?_
    first | exact ⟨trivial, _, rfl, ⟨_, rfl, ⟨_, rfl, rfl⟩⟩, rfl, rfl⟩ | exact ⟨_, rfl, ⟨_, rfl, ⟨_, rfl, rfl⟩⟩, rfl, rfl⟩
  refine zz ?_
  try (apply Or.inl; refine And.intro (by first | rfl | exact zbool) ?_)
  have h_ := oS h; clear h; obtain ⟨t28, ht, h⟩ := h_
  refine zz ?_
  refine Exists.intro _ (And.intro (impl_rexDeep_ev (h := ht)) ?_)
  refine zz ?_
  try (apply Or.inl; refine And.intro (by first | rfl | exact zbool) ?_)
  refine zz ?_
  try (apply Or.inr; refine And.intro (by first | rfl | exact zbool) ?_)
  refine zz ?_
  refine br (iteS h) ?_ ?_ <;> (clear h; intro c h)
  · cases h
    refine zz ?_
    first | exact ⟨trivial, _, rfl, ⟨_, rfl, ⟨_, rfl, rfl⟩⟩, rfl, rfl⟩ | exact ⟨_, rfl, ⟨_, rfl, ⟨_, rfl, rfl⟩⟩, rfl, rfl⟩
  cases h
  refine zz ?_
  first | exact ⟨trivial, _, rfl, ⟨_, rfl, ⟨_, rfl, rfl⟩⟩, rfl, rfl⟩ | exact ⟨_, rfl, ⟨_, rfl, ⟨_, rfl, rfl⟩⟩, rfl, rfl⟩
theorem impl_isRex_ev (a0 : ByteArray) (r : Bool) (h : impl_isRex.fv a0 = some r) : CE G 39 [.val (.str a0)] [] [.val (.bool r)] [] := by
  refine CE.mk ⟨Try.f39, _, rfl, rfl, ⟨by kernel_rfl, Nat.le_of_ble_eq_true rfl, Nat.le_of_ble_eq_true rfl⟩, ?_⟩
  rw [impl_isRex.fv] at h
  have h_ := oS h; clear h; obtain ⟨t7, ht, h⟩ := h_
  refine zz ?_
  refine Exists.intro _ (And.intro (impl_RexParse_ev (h := ht)) ?_)
  cases h
  refine zz ?_
  first | exact ⟨trivial, _, rfl, ⟨_, rfl, rfl⟩, rfl, rfl⟩ | exact ⟨_, rfl, ⟨_, rfl, rfl⟩, rfl, rfl⟩
theorem impl_opRight_ev (a0_0 : Int) (a0_1 : Int) (a0_2 : ByteArray) (a1 : Int) (a2 : Int) (a3 : Int) (r : Bool) (h : impl_opRight.fv a0_0 a0_1 a0_2 a1 a2 a3 = some r) : CE G 22 [.val (.agg [.int .i64 a0_0, .int .i64 a0_1, .str a0_2]), .val (.int .i64 a1), .val (.int .i64 a2), .val (.int .i64 a3)] [] [.val (.bool r)] [] := by
  obtain ⟨k, h⟩ := lim_ex h
  refine CE.mk ⟨Try.f22, _, rfl, rfl, ⟨by kernel_rfl, Nat.le_of_ble_eq_true rfl, Nat.le_of_ble_eq_true rfl⟩, ?_⟩
  rcases k with _ | k
  · exact (run_zero h).elim
  rw [run_succ, impl_opRight.B] at h
  have h_ := evO h; clear h; obtain ⟨t14, ht, h⟩ := h_
  refine zz ?_
  refine Exists.intro _ (And.intro (impl_opName_ev (h := ht)) ?_)
  refine zz ?_
  refine cutJ (n := 200002) [16] (fun fr hp => ∃ kq, kq ≤ k ∧ ∃ (x1 : Int) (x2 : Int) (x3 : Int) (x54 : Bool) (x16_0 : Int) (x16_1 : Int) (x16_2 : ByteArray), run impl_opRight.B kq (.j0 x1 x2 x3 x54 x16_0 x16_1 x16_2) = some r ∧ (∃ fr0, fr = puts [(1, .one (.val (.int .i64 x1))), (2, .one (.val (.int .i64 x2))), (3, .one (.val (.int .i64 x3))), (4, .one (.ptr 16 0)), (54, .one (.val (.bool x54)))] fr0) ∧ hp = (upd 16 (.box [.val (.int .i64 x16_0), .val (.int .i64 x16_1), .val (.str x16_2)]) (fun _ => none))) ?_ ?_
  · refine zz ?_
    refine brW (iP h) ?_ ?_ <;> (clear h; intro c h)
    rotate_left
    · refine zz ?_
      try (apply Or.inr; refine And.intro (by first | rfl | exact zbool) ?_)
      refine zz ?_
      try (apply Or.inr; refine And.intro (by first | rfl | exact zbool) ?_)
      refine zz ?_
      try (apply Or.inr; refine And.intro (by first | rfl | exact zbool) ?_)
      refine zz ?_
      try (apply Or.inl; refine And.intro (by first | rfl | exact zbool) ?_)
      refine zz ?_
      try (apply Or.inr; refine And.intro (by first | rfl | exact zbool) ?_)
      refine zz ?_
      try (apply Or.inr; refine And.intro (by first | rfl | exact zbool) ?_)
      refine zz ?_
      try (apply Or.inr; refine And.intro (by first | rfl | exact zbool) ?_)
      refine zz ?_
      try (apply Or.inr; refine And.intro (by first | rfl | exact zbool) ?_)
      refine zz ?_
      try (apply Or.inl; refine And.intro (by first | rfl | exact zbool) ?_)
      refine zz ?_
      try (apply Or.inr; refine And.intro (by first | rfl | exact zbool) ?_)
      refine zz ?_
      try (apply Or.inr; refine And.intro (by first | rfl | exact zbool) ?_)
      refine zz ?_
      try (apply Or.inr; refine And.intro (by first | rfl | exact zbool) ?_)
      refine zz ?_
      try (apply Or.inr; refine And.intro (by first | rfl | exact zbool) ?_)
      refine zz ?_
      try (apply Or.inr; refine And.intro (by first | rfl | exact zbool) ?_)
      refine zz ?_
      try (apply Or.inr; refine And.intro (by first | rfl | exact zbool) ?_)
      refine zz ?_
      try (apply Or.inl; refine And.intro (by first | rfl | exact zbool) ?_)
      replace h := evT h
      refine zz ?_
      exact ⟨_, zfuel, _, _, _, _, _, _, _, h, leafFr [1, 2, 3, 4, 54] (by kernel_rfl), by kernel_rfl⟩
    refine zz ?_
    try (apply Or.inl; refine And.intro (by first | rfl | exact zbool) ?_)
    refine zz ?_
    try (apply Or.inl; refine And.intro (by first | rfl | exact zbool) ?_)
    refine zz ?_
    refine br (iP h) ?_ ?_ <;> (clear h; intro c h)
    rotate_left
    · refine zz ?_
      try (apply Or.inr; refine And.intro (by first | rfl | exact zbool) ?_)
      refine zz ?_
      try (apply Or.inr; refine And.intro (by first | rfl | exact zbool) ?_)
      refine zz ?_
      try (apply Or.inr; refine And.intro (by first | rfl | exact zbool) ?_)
      refine zz ?_
      try (apply Or.inr; refine And.intro (by first | rfl | exact zbool) ?_)
      refine zz ?_
      try (apply Or.inl; refine And.intro (by first | rfl | exact zbool) ?_)
      refine zz ?_
      try (apply Or.inr; refine And.intro (by first | rfl | exact zbool) ?_)
      refine zz ?_
      try (apply Or.inr; refine And.intro (by first | rfl | exact zbool) ?_)
      refine zz ?_
      try (apply Or.inl; refine And.intro (by first | rfl | exact zbool) ?_)
      refine zz ?_
      try (apply Or.inl; refine And.intro (by first | rfl | exact zbool) ?_)
      refine zz ?_
      try (apply Or.inl; refine And.intro (by first | rfl | exact zbool) ?_)
      refine zz ?_
      refine br (iP h) ?_ ?_ <;> (clear h; intro c h)
      rotate_left
      · refine zz ?_
        try (apply Or.inr; refine And.intro (by first | rfl | exact zbool) ?_)
        refine zz ?_
        try (apply Or.inr; refine And.intro (by first | rfl | exact zbool) ?_)
        refine zz ?_
        try (apply Or.inl; refine And.intro (by first | rfl | exact zbool) ?_)
        refine zz ?_
        try (apply Or.inr; refine And.intro (by first | rfl | exact zbool) ?_)
        refine zz ?_
        try (apply Or.inr; refine And.intro (by first | rfl | exact zbool) ?_)
        refine zz ?_
        try (apply Or.inl; refine And.intro (by first | rfl | exact zbool) ?_)
        refine zz ?_
        try (apply Or.inl; refine And.intro (by first | rfl | exact zbool) ?_)
        refine zz ?_
        try (apply Or.inl; refine And.intro (by first | rfl | exact zbool) ?_)
        refine zz ?_
        refine brW (iP h) ?_ ?_ <;> (clear h; intro c h)
        rotate_left
        · refine zz ?_
          try (apply Or.inr; refine And.intro (by first | rfl | exact zbool) ?_)
          refine zz ?_
          try (apply Or.inl; refine And.intro (by first | rfl | exact zbool) ?_)
          refine zz ?_
          try (apply Or.inl; refine And.intro (by first | rfl | exact zbool) ?_)
          refine zz ?_
          try (apply Or.inl; refine And.intro (by first | rfl | exact zbool) ?_)
          refine zz ?_
          try (apply Or.inl; refine And.intro (by first | rfl | exact zbool) ?_)
          refine zz ?_
          try (apply Or.inl; refine And.intro (by first | rfl | exact zbool) ?_)
          refine zz ?_
          try (apply Or.inl; refine And.intro (by first | rfl | exact zbool) ?_)
          refine zz ?_
          try (apply Or.inl; refine And.intro (by first | rfl | exact zbool) ?_)
          refine zz ?_
          try (apply Or.inl; refine And.intro (by first | rfl | exact zbool) ?_)
          refine zz ?_
          try (apply Or.inr; refine And.intro (by first | rfl | exact zbool) ?_)
          replace h := evT h
          refine zz ?_
          exact ⟨_, zfuel, _, _, _, _, _, _, _, h, leafFr [1, 2, 3, 4, 54] (by kernel_rfl), by kernel_rfl⟩
        refine zz ?_
        try (apply Or.inl; refine And.intro (by first | rfl | exact zbool) ?_)
        refine zz ?_
        try (apply Or.inl; refine And.intro (by first | rfl | exact zbool) ?_)
        refine zz ?_
        try (apply Or.inr; refine And.intro (by first | rfl | exact zbool) ?_)
        refine zz ?_
        try (apply Or.inl; refine And.intro (by first | rfl | exact zbool) ?_)
        refine zz ?_
        refine br (iP h) ?_ ?_ <;> (clear h; intro c h)
        · refine zz ?_
          try (apply Or.inl; refine And.intro (by first | rfl | exact zbool) ?_)
          refine zz ?_
          try (apply Or.inl; refine And.intro (by first | rfl | exact zbool) ?_)
          refine zz ?_
          try (apply Or.inl; refine And.intro (by first | rfl | exact zbool) ?_)
          refine zz ?_
          try (apply Or.inl; refine And.intro (by first | rfl | exact zbool) ?_)
          refine zz ?_
          try (apply Or.inr; refine And.intro (by first | rfl | exact zbool) ?_)
          replace h := evT h
          refine zz ?_
          exact ⟨_, zfuel, _, _, _, _, _, _, _, h, leafFr [1, 2, 3, 4, 54] (by kernel_rfl), by kernel_rfl⟩
        refine zz ?_
        try (apply Or.inr; refine And.intro (by first | rfl | exact zbool) ?_)
        refine zz ?_
        try (apply Or.inr; refine And.intro (by first | rfl | exact zbool) ?_)
        refine zz ?_
        try (apply Or.inl; refine And.intro (by first | rfl | exact zbool) ?_)
        refine zz ?_
        try (apply Or.inr; refine And.intro (by first | rfl | exact zbool) ?_)
        refine zz ?_
        try (apply Or.inr; refine And.intro (by first | rfl | exact zbool) ?_)
        replace h := evT h
        refine zz ?_
        exact ⟨_, zfuel, _, _, _, _, _, _, _, h, leafFr [1, 2, 3, 4, 54] (by kernel_rfl), by kernel_rfl⟩
      refine zz ?_
      try (apply Or.inl; refine And.intro (by first | rfl | exact zbool) ?_)
      refine zz ?_
      try (apply Or.inl; refine And.intro (by first | rfl | exact zbool) ?_)
      refine zz ?_
      try (apply Or.inl; refine And.intro (by first | rfl | exact zbool) ?_)
      refine zz ?_
      try (apply Or.inl; refine And.intro (by first | rfl | exact zbool) ?_)
      refine zz ?_
      try (apply Or.inr; refine And.intro (by first | rfl | exact zbool) ?_)
      refine zz ?_
      refine brX (iP h) ?_ ?_ <;> (clear h; intro c h)
      rotate_left
      · refine zz ?_
        try (apply Or.inr; refine And.intro (by first | rfl | exact zbool) ?_)
        refine zz ?_
        try (apply Or.inr; refine And.intro (by first | rfl | exact zbool) ?_)
        refine zz ?_
        try (apply Or.inr; refine And.intro (by first | rfl | exact zbool) ?_)
        refine zz ?_
        try (apply Or.inr; refine And.intro (by first | rfl | exact zbool) ?_)
        refine zz ?_
        try (apply Or.inr; refine And.intro (by first | rfl | exact zbool) ?_)
        refine zz ?_
        try (apply Or.inl; refine And.intro (by first | rfl | exact zbool) ?_)
        replace h := evT h
        refine zz ?_
        exact ⟨_, zfuel, _, _, _, _, _, _, _, h, leafFr [1, 2, 3, 4, 54] (by kernel_rfl), by kernel_rfl⟩
      refine zz ?_
      try (apply Or.inl; refine And.intro (by first | rfl | exact zbool) ?_)
      refine zz ?_
      try (apply Or.inl; refine And.intro (by first | rfl | exact zbool) ?_)
      refine zz ?_
      refine brW (iP h) ?_ ?_ <;> (clear h; intro c h)
      rotate_left
      · refine zz ?_
        try (apply Or.inr; refine And.intro (by first | rfl | exact zbool) ?_)
        refine zz ?_
        try (apply Or.inl; refine And.intro (by first | rfl | exact zbool) ?_)
        refine zz ?_
        try (apply Or.inl; refine And.intro (by first | rfl | exact zbool) ?_)
        refine zz ?_
        try (apply Or.inl; refine And.intro (by first | rfl | exact zbool) ?_)
        refine zz ?_
        try (apply Or.inl; refine And.intro (by first | rfl | exact zbool) ?_)
        refine zz ?_
        try (apply Or.inl; refine And.intro (by first | rfl | exact zbool) ?_)
        refine zz ?_
        try (apply Or.inl; refine And.intro (by first | rfl | exact zbool) ?_)
        refine zz ?_
        try (apply Or.inl; refine And.intro (by first | rfl | exact zbool) ?_)
        refine zz ?_
        try (apply Or.inl; refine And.intro (by first | rfl | exact zbool) ?_)
        refine zz ?_
        try (apply Or.inr; refine And.intro (by first | rfl | exact zbool) ?_)
        replace h := evT h
        refine zz ?_
        exact ⟨_, zfuel, _, _, _, _, _, _, _, h, leafFr [1, 2, 3, 4, 54] (by kernel_rfl), by kernel_rfl⟩
      refine zz ?_
      try (apply Or.inl; refine And.intro (by first | rfl | exact zbool) ?_)
      refine zz ?_
      try (apply Or.inl; refine And.intro (by first | rfl | exact zbool) ?_)
      refine zz ?_
      try (apply Or.inr; refine And.intro (by first | rfl | exact zbool) ?_)
      refine zz ?_
      try (apply Or.inl; refine And.intro (by first | rfl | exact zbool) ?_)
      refine zz ?_
      refine br (iP h) ?_ ?_ <;> (clear h; intro c h)
      · refine zz ?_
        try (apply Or.inl; refine And.intro (by first | rfl | exact zbool) ?_)
        refine zz ?_
        try (apply Or.inl; refine And.intro (by first | rfl | exact zbool) ?_)
        refine zz ?_
        try (apply Or.inl; refine And.intro (by first | rfl | exact zbool) ?_)
        refine zz ?_
        try (apply Or.inl; refine And.intro (by first | rfl | exact zbool) ?_)
        refine zz ?_
        try (apply Or.inr; refine And.intro (by first | rfl | exact zbool) ?_)
        replace h := evT h
        refine zz ?_
        exact ⟨_, zfuel, _, _, _, _, _, _, _, h, leafFr [1, 2, 3, 4, 54] (by kernel_rfl), by kernel_rfl⟩
      refine zz ?_
      try (apply Or.inr; refine And.intro (by first | rfl | exact zbool) ?_)
      refine zz ?_
      try (apply Or.inr; refine And.intro (by first | rfl | exact zbool) ?_)
      refine zz ?_
      try (apply Or.inl; refine And.intro (by first | rfl | exact zbool) ?_)
      refine zz ?_
      try (apply Or.inr; refine And.intro (by first | rfl | exact zbool) ?_)
      refine zz ?_
      try (apply Or.inr; refine And.intro (by first | rfl | exact zbool) ?_)
      replace h := evT h
      refine zz ?_
      exact ⟨_, zfuel, _, _, _, _, _, _, _, h, leafFr [1, 2, 3, 4, 54] (by kernel_rfl), by kernel_rfl⟩
    refine zz ?_
    try (apply Or.inl; refine And.intro (by first | rfl | exact zbool) ?_)
    refine zz ?_
    try (apply Or.inl; refine And.intro (by first | rfl | exact zbool) ?_)
    refine zz ?_
    try (apply Or.inl; refine And.intro (by first | rfl | exact zbool) ?_)
    refine zz ?_
    refine brX (iP h) ?_ ?_ <;> (clear h; intro c h)
    rotate_left
    · refine zz ?_
      try (apply Or.inr; refine And.intro (by first | rfl | exact zbool) ?_)
      refine zz ?_
      try (apply Or.inr; refine And.intro (by first | rfl | exact zbool) ?_)
      refine zz ?_
      try (apply Or.inl; refine And.intro (by first | rfl | exact zbool) ?_)
      refine zz ?_
      try (apply Or.inl; refine And.intro (by first | rfl | exact zbool) ?_)
      refine zz ?_
      try (apply Or.inl; refine And.intro (by first | rfl | exact zbool) ?_)
      refine zz ?_
      try (apply Or.inl; refine And.intro (by first | rfl | exact zbool) ?_)
      refine zz ?_
      try (apply Or.inr; refine And.intro (by first | rfl | exact zbool) ?_)
      refine zz ?_
      try (apply Or.inr; refine And.intro (by first | rfl | exact zbool) ?_)
      refine zz ?_
      try (apply Or.inr; refine And.intro (by first | rfl | exact zbool) ?_)
      refine zz ?_
      try (apply Or.inr; refine And.intro (by first | rfl | exact zbool) ?_)
      refine zz ?_
      try (apply Or.inr; refine And.intro (by first | rfl | exact zbool) ?_)
      refine zz ?_
      try (apply Or.inl; refine And.intro (by first | rfl | exact zbool) ?_)
      refine zz ?_
      try (apply Or.inr; refine And.intro (by first | rfl | exact zbool) ?_)
      refine zz ?_
      try (apply Or.inr; refine And.intro (by first | rfl | exact zbool) ?_)
      refine zz ?_
      try (apply Or.inr; refine And.intro (by first | rfl | exact zbool) ?_)
      refine zz ?_
      try (apply Or.inr; refine And.intro (by first | rfl | exact zbool) ?_)
      refine zz ?_
      try (apply Or.inr; refine And.intro (by first | rfl | exact zbool) ?_)
      refine zz ?_
      try (apply Or.inr; refine And.intro (by first | rfl | exact zbool) ?_)
      refine zz ?_
      try (apply Or.inl; refine And.intro (by first | rfl | exact zbool) ?_)
      replace h := evT h
      refine zz ?_
      exact ⟨_, zfuel, _, _, _, _, _, _, _, h, leafFr [1, 2, 3, 4, 54] (by kernel_rfl), by kernel_rfl⟩
    refine zz ?_
    try (apply Or.inl; refine And.intro (by first | rfl | exact zbool) ?_)
    refine zz ?_
    try (apply Or.inl; refine And.intro (by first | rfl | exact zbool) ?_)
    refine zz ?_
    try (apply Or.inl; refine And.intro (by first | rfl | exact zbool) ?_)
    refine zz ?_
    try (apply Or.inr; refine And.intro (by first | rfl | exact zbool) ?_)
    refine zz ?_
    try (apply Or.inl; refine And.intro (by first | rfl | exact zbool) ?_)
    refine zz ?_
    try (apply Or.inl; refine And.intro (by first | rfl | exact zbool) ?_)
    refine zz ?_
    try (apply Or.inr; refine And.intro (by first | rfl | exact zbool) ?_)
    refine zz ?_
    refine brX (iP h) ?_ ?_ <;> (clear h; intro c h)
    rotate_left
    · refine zz ?_
      try (apply Or.inr; refine And.intro (by first | rfl | exact zbool) ?_)
      refine zz ?_
      try (apply Or.inr; refine And.intro (by first | rfl | exact zbool) ?_)
      refine zz ?_
      try (apply Or.inr; refine And.intro (by first | rfl | exact zbool) ?_)
      refine zz ?_
      try (apply Or.inl; refine And.intro (by first | rfl | exact zbool) ?_)
      refine zz ?_
      try (apply Or.inr; refine And.intro (by first | rfl | exact zbool) ?_)
      refine zz ?_
      try (apply Or.inr; refine And.intro (by first | rfl | exact zbool) ?_)
      refine zz ?_
      try (apply Or.inr; refine And.intro (by first | rfl | exact zbool) ?_)
      refine zz ?_
      try (apply Or.inr; refine And.intro (by first | rfl | exact zbool) ?_)
      refine zz ?_
      try (apply Or.inr; refine And.intro (by first | rfl | exact zbool) ?_)
      refine zz ?_
      try (apply Or.inr; refine And.intro (by first | rfl | exact zbool) ?_)
      refine zz ?_
      try (apply Or.inl; refine And.intro (by first | rfl | exact zbool) ?_)
      replace h := evT h
      refine zz ?_
      exact ⟨_, zfuel, _, _, _, _, _, _, _, h, leafFr [1, 2, 3, 4, 54] (by kernel_rfl), by kernel_rfl⟩
    refine zz ?_
    try (apply Or.inl; refine And.intro (by first | rfl | exact zbool) ?_)
    refine zz ?_
    try (apply Or.inl; refine And.intro (by first | rfl | exact zbool) ?_)
    refine zz ?_
    refine br (iP h) ?_ ?_ <;> (clear h; intro c h)
    · refine zz ?_
      try (apply Or.inl; refine And.intro (by first | rfl | exact zbool) ?_)
      refine zz ?_
      try (apply Or.inl; refine And.intro (by first | rfl | exact zbool) ?_)
      refine zz ?_
      try (apply Or.inl; refine And.intro (by first | rfl | exact zbool) ?_)
      refine zz ?_
      try (apply Or.inl; refine And.intro (by first | rfl | exact zbool) ?_)
      refine zz ?_
      try (apply Or.inr; refine And.intro (by first | rfl | exact zbool) ?_)
      refine zz ?_
      try (apply Or.inl; refine And.intro (by first | rfl | exact zbool) ?_)
      refine zz ?_
      try (apply Or.inl; refine And.intro (by first | rfl | exact zbool) ?_)
      refine zz ?_
      try (apply Or.inl; refine And.intro (by first | rfl | exact zbool) ?_)
      refine zz ?_
      refine brW (iP h) ?_ ?_ <;> (clear h; intro c h)
      rotate_left
      · refine zz ?_
        try (apply Or.inr; refine And.intro (by first | rfl | exact zbool) ?_)
        refine zz ?_
        try (apply Or.inl; refine And.intro (by first | rfl | exact zbool) ?_)
        refine zz ?_
        try (apply Or.inl; refine And.intro (by first | rfl | exact zbool) ?_)
        refine zz ?_
        try (apply Or.inl; refine And.intro (by first | rfl | exact zbool) ?_)
        refine zz ?_
        try (apply Or.inl; refine And.intro (by first | rfl | exact zbool) ?_)
        refine zz ?_
        try (apply Or.inl; refine And.intro (by first | rfl | exact zbool) ?_)
        refine zz ?_
        try (apply Or.inl; refine And.intro (by first | rfl | exact zbool) ?_)
        refine zz ?_
        try (apply Or.inl; refine And.intro (by first | rfl | exact zbool) ?_)
        refine zz ?_
        try (apply Or.inl; refine And.intro (by first | rfl | exact zbool) ?_)
        refine zz ?_
        try (apply Or.inr; refine And.intro (by first | rfl | exact zbool) ?_)
        replace h := evT h
        refine zz ?_
        exact ⟨_, zfuel, _, _, _, _, _, _, _, h, leafFr [1, 2, 3, 4, 54] (by kernel_rfl), by kernel_rfl⟩
      refine zz ?_
      try (apply Or.inl; refine And.intro (by first | rfl | exact zbool) ?_)
      refine zz ?_
      try (apply Or.inl; refine And.intro (by first | rfl | exact zbool) ?_)
      refine zz ?_
      try (apply Or.inr; refine And.intro (by first | rfl | exact zbool) ?_)
      refine zz ?_
      try (apply Or.inl; refine And.intro (by first | rfl | exact zbool) ?_)
      refine zz ?_
      refine br (iP h) ?_ ?_ <;> (clear h; intro c h)
      · refine zz ?_
        try (apply Or.inl; refine And.intro (by first | rfl | exact zbool) ?_)
        refine zz ?_
        try (apply Or.inl; refine And.intro (by first | rfl | exact zbool) ?_)
        refine zz ?_
        try (apply Or.inl; refine And.intro (by first | rfl | exact zbool) ?_)
        refine zz ?_
        try (apply Or.inl; refine And.intro (by first | rfl | exact zbool) ?_)
        refine zz ?_
        try (apply Or.inr; refine And.intro (by first | rfl | exact zbool) ?_)
        replace h := evT h
        refine zz ?_
        exact ⟨_, zfuel, _, _, _, _, _, _, _, h, leafFr [1, 2, 3, 4, 54] (by kernel_rfl), by kernel_rfl⟩
      refine zz ?_
      try (apply Or.inr; refine And.intro (by first | rfl | exact zbool) ?_)
      refine zz ?_
      try (apply Or.inr; refine And.intro (by first | rfl | exact zbool) ?_)
      refine zz ?_
      try (apply Or.inl; refine And.intro (by first | rfl | exact zbool) ?_)
      refine zz ?_
      try (apply Or.inr; refine And.intro (by first | rfl | exact zbool) ?_)
      refine zz ?_
      try (apply Or.inr; refine And.intro (by first | rfl | exact zbool) ?_)
      replace h := evT h
      refine zz ?_
      exact ⟨_, zfuel, _, _, _, _, _, _, _, h, leafFr [1, 2, 3, 4, 54] (by kernel_rfl), by kernel_rfl⟩
    refine zz ?_
    try (apply Or.inr; refine And.intro (by first | rfl | exact zbool) ?_)
    refine zz ?_
    try (apply Or.inr; refine And.intro (by first | rfl | exact zbool) ?_)
    refine zz ?_
    try (apply Or.inl; refine And.intro (by first | rfl | exact zbool) ?_)
    refine zz ?_
    try (apply Or.inr; refine And.intro (by first | rfl | exact zbool) ?_)
    refine zz ?_
    try (apply Or.inr; refine And.intro (by first | rfl | exact zbool) ?_)
    refine zz ?_
    try (apply Or.inl; refine And.intro (by first | rfl | exact zbool) ?_)
    refine zz ?_
    try (apply Or.inl; refine And.intro (by first | rfl | exact zbool) ?_)
    refine zz ?_
    try (apply Or.inl; refine And.intro (by first | rfl | exact zbool) ?_)
    refine zz ?_
    refine brW (iP h) ?_ ?_ <;> (clear h; intro c h)
    rotate_left
    · refine zz ?_
      try (apply Or.inr; refine And.intro (by first | rfl | exact zbool) ?_)
      refine zz ?_
      try (apply Or.inl; refine And.intro (by first | rfl | exact zbool) ?_)
      refine zz ?_
      try (apply Or.inl; refine And.intro (by first | rfl | exact zbool) ?_)
      refine zz ?_
      try (apply Or.inl; refine And.intro (by first | rfl | exact zbool) ?_)
      refine zz ?_
      try (apply Or.inl; refine And.intro (by first | rfl | exact zbool) ?_)
      refine zz ?_
      try (apply Or.inl; refine And.intro (by first | rfl | exact zbool) ?_)
      refine zz ?_
      try (apply Or.inl; refine And.intro (by first | rfl | exact zbool) ?_)
      refine zz ?_
      try (apply Or.inl; refine And.intro (by first | rfl | exact zbool) ?_)
      refine zz ?_
      try (apply Or.inl; refine And.intro (by first | rfl | exact zbool) ?_)
      refine zz ?_
      try (apply Or.inr; refine And.intro (by first | rfl | exact zbool) ?_)
      replace h := evT h
      refine zz ?_
      exact ⟨_, zfuel, _, _, _, _, _, _, _, h, leafFr [1, 2, 3, 4, 54] (by kernel_rfl), by kernel_rfl⟩
    refine zz ?_
    try (apply Or.inl; refine And.intro (by first | rfl | exact zbool) ?_)
    refine zz ?_
    try (apply Or.inl; refine And.intro (by first | rfl | exact zbool) ?_)
    refine zz ?_
    try (apply Or.inr; refine And.intro (by first | rfl | exact zbool) ?_)
    refine zz ?_
    try (apply Or.inl; refine And.intro (by first | rfl | exact zbool) ?_)
    refine zz ?_
    refine br (iP h) ?_ ?_ <;> (clear h; intro c h)
    · refine zz ?_
      try (apply Or.inl; refine And.intro (by first | rfl | exact zbool) ?_)
      refine zz ?_
      try (apply Or.inl; refine And.intro (by first | rfl | exact zbool) ?_)
      refine zz ?_
      try (apply Or.inl; refine And.intro (by first | rfl | exact zbool) ?_)
      refine zz ?_
      try (apply Or.inl; refine And.intro (by first | rfl | exact zbool) ?_)
      refine zz ?_
      try (apply Or.inr; refine And.intro (by first | rfl | exact zbool) ?_)
      replace h := evT h
      refine zz ?_
      exact ⟨_, zfuel, _, _, _, _, _, _, _, h, leafFr [1, 2, 3, 4, 54] (by kernel_rfl), by kernel_rfl⟩
    refine zz ?_
    try (apply Or.inr; refine And.intro (by first | rfl | exact zbool) ?_)
    refine zz ?_
    try (apply Or.inr; refine And.intro (by first | rfl | exact zbool) ?_)
    refine zz ?_
    try (apply Or.inl; refine And.intro (by first | rfl | exact zbool) ?_)
    refine zz ?_
    try (apply Or.inr; refine And.intro (by first | rfl | exact zbool) ?_)
    refine zz ?_
    try (apply Or.inr; refine And.intro (by first | rfl | exact zbool) ?_)
    replace h := evT h
    refine zz ?_
    exact ⟨_, zfuel, _, _, _, _, _, _, _, h, leafFr [1, 2, 3, 4, 54] (by kernel_rfl), by kernel_rfl⟩
  clear h; rintro _ _ ⟨k, hle, x1, x2, x3, x54, x16_0, x16_1, x16_2, h, ⟨fr0, rfl⟩, rfl⟩
  rcases k with _ | k
  · exact (run_zero h).elim
  rw [run_succ, impl_opRight.B] at h
  refine zz ?_
  refine br (iP h) ?_ ?_ <;> (clear h; intro c h)
  · replace h := evR h; cases h
    refine zz ?_
    first | exact ⟨trivial, _, rfl, ⟨_, rfl, rfl⟩, rfl, rfl⟩ | exact ⟨_, rfl, ⟨_, rfl, rfl⟩, rfl, rfl⟩
  refine zz ?_
  refine br (iP h) ?_ ?_ <;> (clear h; intro c h)
  · have h_ := evO h; clear h; obtain ⟨t61, ht, h⟩ := h_
    refine zz ?_
    refine Exists.intro _ (And.intro (impl_DecOk_ev (h := ht)) ?_)
    replace h := evR h; cases h
    refine zz ?_
    first | exact ⟨trivial, _, rfl, ⟨_, rfl, rfl⟩, rfl, rfl⟩ | exact ⟨_, rfl, ⟨_, rfl, rfl⟩, rfl, rfl⟩
  refine zz ?_
  refine cutJ (n := 62) [16] (fun fr hp => ∃ kq, kq ≤ k ∧ ∃ (x1 : Int) (x2 : Int) (x3 : Int) (x56 : Int) (x62 : Bool) (x16_0 : Int) (x16_1 : Int) (x16_2 : ByteArray), run impl_opRight.B kq (.j1 x1 x2 x3 x56 x62 x16_0 x16_1 x16_2) = some r ∧ (∃ fr0, fr = puts [(1, .one (.val (.int .i64 x1))), (2, .one (.val (.int .i64 x2))), (3, .one (.val (.int .i64 x3))), (4, .one (.ptr 16 0)), (56, .one (.val (.int .i64 x56))), (62, .one (.val (.bool x62)))] fr0) ∧ hp = (upd 16 (.box [.val (.int .i64 x16_0), .val (.int .i64 x16_1), .val (.str x16_2)]) (fun _ => none))) ?_ ?_
  · refine zz ?_
    refine br (iP h) ?_ ?_ <;> (clear h; intro c h)
    · replace h := evT h
      refine zz ?_
      exact ⟨_, zfuel, _, _, _, _, _, _, _, _, h, leafFr [1, 2, 3, 4, 56, 62] (by kernel_rfl), by kernel_rfl⟩
    refine zz ?_
    refine br (iP h) ?_ ?_ <;> (clear h; intro c h)
    · replace h := evT h
      refine zz ?_
      exact ⟨_, zfuel, _, _, _, _, _, _, _, _, h, leafFr [1, 2, 3, 4, 56, 62] (by kernel_rfl), by kernel_rfl⟩
    replace h := evT h
    refine zz ?_
    exact ⟨_, zfuel, _, _, _, _, _, _, _, _, h, leafFr [1, 2, 3, 4, 56, 62] (by kernel_rfl), by kernel_rfl⟩
  clear h; rintro _ _ ⟨k, hle, x1, x2, x3, x56, x62, x16_0, x16_1, x16_2, h, ⟨fr0, rfl⟩, rfl⟩
  rcases k with _ | k
  · exact (run_zero h).elim
  rw [run_succ, impl_opRight.B] at h
  refine zz ?_
  refine br (iP h) ?_ ?_ <;> (clear h; intro c h)
  · refine zz ?_
    refine br (iP h) ?_ ?_ <;> (clear h; intro c h)
    · refine zz ?_
      try (apply Or.inl; refine And.intro (by first | rfl | exact zbool) ?_)
      refine zz ?_
      try (apply Or.inl; refine And.intro (by first | rfl | exact zbool) ?_)
      refine zz ?_
      try (apply Or.inl; refine And.intro (by first | rfl | exact zbool) ?_)
      refine zz ?_
      try (apply Or.inl; refine And.intro (by first | rfl | exact zbool) ?_)
      replace h := evR h; cases h
      refine zz ?_
      first | exact ⟨trivial, _, rfl, ⟨_, rfl, rfl⟩, rfl, rfl⟩ | exact ⟨_, rfl, ⟨_, rfl, rfl⟩, rfl, rfl⟩
    refine zz ?_
    try (apply Or.inr; refine And.intro (by first | rfl | exact zbool) ?_)
    refine zz ?_
    try (apply Or.inr; refine And.intro (by first | rfl | exact zbool) ?_)
    refine zz ?_
    try (apply Or.inr; refine And.intro (by first | rfl | exact zbool) ?_)
    refine zz ?_
    try (apply Or.inr; refine And.intro (by first | rfl | exact zbool) ?_)
    replace h := evR h; cases h
    refine zz ?_
    first | exact ⟨trivial, _, rfl, ⟨_, rfl, rfl⟩, rfl, rfl⟩ | exact ⟨_, rfl, ⟨_, rfl, rfl⟩, rfl, rfl⟩
  refine zz ?_
  refine cutJ (n := 75) [16] (fun fr hp => ∃ kq, kq ≤ k ∧ ∃ (x1 : Int) (x3 : Int) (x56 : Int) (x75 : Bool) (x16_0 : Int) (x16_1 : Int) (x16_2 : ByteArray), run impl_opRight.B kq (.j2 x1 x3 x56 x75 x16_0 x16_1 x16_2) = some r ∧ (∃ fr0, fr = puts [(1, .one (.val (.int .i64 x1))), (3, .one (.val (.int .i64 x3))), (4, .one (.ptr 16 0)), (56, .one (.val (.int .i64 x56))), (75, .one (.val (.bool x75)))] fr0) ∧ hp = (upd 16 (.box [.val (.int .i64 x16_0), .val (.int .i64 x16_1), .val (.str x16_2)]) (fun _ => none))) ?_ ?_
  · refine zz ?_
    refine br (iP h) ?_ ?_ <;> (clear h; intro c h)
    · replace h := evT h
      refine zz ?_
      exact ⟨_, zfuel, _, _, _, _, _, _, _, h, leafFr [1, 3, 4, 56, 75] (by kernel_rfl), by kernel_rfl⟩
    refine zz ?_
    refine br (iP h) ?_ ?_ <;> (clear h; intro c h)
    · replace h := evT h
      refine zz ?_
      exact ⟨_, zfuel, _, _, _, _, _, _, _, h, leafFr [1, 3, 4, 56, 75] (by kernel_rfl), by kernel_rfl⟩
    refine zz ?_
    refine br (iP h) ?_ ?_ <;> (clear h; intro c h)
    · replace h := evT h
      refine zz ?_
      exact ⟨_, zfuel, _, _, _, _, _, _, _, h, leafFr [1, 3, 4, 56, 75] (by kernel_rfl), by kernel_rfl⟩
    replace h := evT h
    refine zz ?_
    exact ⟨_, zfuel, _, _, _, _, _, _, _, h, leafFr [1, 3, 4, 56, 75] (by kernel_rfl), by kernel_rfl⟩
  clear h; rintro _ _ ⟨k, hle, x1, x3, x56, x75, x16_0, x16_1, x16_2, h, ⟨fr0, rfl⟩, rfl⟩
  rcases k with _ | k
  · exact (run_zero h).elim
  rw [run_succ, impl_opRight.B] at h
  refine zz ?_
  refine br (iP h) ?_ ?_ <;> (clear h; intro c h)
  · refine zz ?_
    refine br (iP h) ?_ ?_ <;> (clear h; intro c h)
    · refine zz ?_
      try (apply Or.inl; refine And.intro (by first | rfl | exact zbool) ?_)
      refine zz ?_
      try (apply Or.inl; refine And.intro (by first | rfl | exact zbool) ?_)
      refine zz ?_
      try (apply Or.inl; refine And.intro (by first | rfl | exact zbool) ?_)
      refine zz ?_
      try (apply Or.inl; refine And.intro (by first | rfl | exact zbool) ?_)
      replace h := evR h; cases h
      refine zz ?_
      first | exact ⟨trivial, _, rfl, ⟨_, rfl, rfl⟩, rfl, rfl⟩ | exact ⟨_, rfl, ⟨_, rfl, rfl⟩, rfl, rfl⟩
    refine zz ?_
    try (apply Or.inr; refine And.intro (by first | rfl | exact zbool) ?_)
    refine zz ?_
    try (apply Or.inr; refine And.intro (by first | rfl | exact zbool) ?_)
    refine zz ?_
    try (apply Or.inr; refine And.intro (by first | rfl | exact zbool) ?_)
    refine zz ?_
    try (apply Or.inr; refine And.intro (by first | rfl | exact zbool) ?_)
    replace h := evR h; cases h
    refine zz ?_
    first | exact ⟨trivial, _, rfl, ⟨_, rfl, rfl⟩, rfl, rfl⟩ | exact ⟨_, rfl, ⟨_, rfl, rfl⟩, rfl, rfl⟩
  refine zz ?_
  refine cutJ (n := 89) [16] (fun fr hp => ∃ kq, kq ≤ k ∧ ∃ (x1 : Int) (x56 : Int) (x89 : Bool) (x16_0 : Int) (x16_1 : Int) (x16_2 : ByteArray), run impl_opRight.B kq (.j3 x1 x56 x89 x16_0 x16_1 x16_2) = some r ∧ (∃ fr0, fr = puts [(1, .one (.val (.int .i64 x1))), (4, .one (.ptr 16 0)), (56, .one (.val (.int .i64 x56))), (89, .one (.val (.bool x89)))] fr0) ∧ hp = (upd 16 (.box [.val (.int .i64 x16_0), .val (.int .i64 x16_1), .val (.str x16_2)]) (fun _ => none))) ?_ ?_
  · refine zz ?_
    refine br (iP h) ?_ ?_ <;> (clear h; intro c h)
    · replace h := evT h
      refine zz ?_
      exact ⟨_, zfuel, _, _, _, _, _, _, h, leafFr [1, 4, 56, 89] (by kernel_rfl), by kernel_rfl⟩
    replace h := evT h
    refine zz ?_
    exact ⟨_, zfuel, _, _, _, _, _, _, h, leafFr [1, 4, 56, 89] (by kernel_rfl), by kernel_rfl⟩
  clear h; rintro _ _ ⟨k, hle, x1, x56, x89, x16_0, x16_1, x16_2, h, ⟨fr0, rfl⟩, rfl⟩
  rcases k with _ | k
  · exact (run_zero h).elim
  rw [run_succ, impl_opRight.B] at h
  refine zz ?_
  refine br (iP h) ?_ ?_ <;> (clear h; intro c h)
  · have h_ := evO h; clear h; obtain ⟨t94, ht, h⟩ := h_
    refine zz ?_
    refine Exists.intro _ (And.intro (impl_isRex_ev (h := ht)) ?_)
    replace h := evR h; cases h
    refine zz ?_
    first | exact ⟨trivial, _, rfl, ⟨_, rfl, rfl⟩, rfl, rfl⟩ | exact ⟨_, rfl, ⟨_, rfl, rfl⟩, rfl, rfl⟩
  refine zz ?_
  refine br (iP h) ?_ ?_ <;> (clear h; intro c h)
  · have h_ := evO h; clear h; obtain ⟨t99, ht, h⟩ := h_
    refine zz ?_
    refine Exists.intro _ (And.intro (impl_in_ev (h := ht)) ?_)
    refine zz ?_
    refine br (iP h) ?_ ?_ <;> (clear h; intro c h)
    rotate_left
    · refine zz ?_
      try (apply Or.inr; refine And.intro (by first | rfl | exact zbool) ?_)
      refine zz ?_
      try (apply Or.inr; refine And.intro (by first | rfl | exact zbool) ?_)
      refine zz ?_
      try (apply Or.inr; refine And.intro (by first | rfl | exact zbool) ?_)
      refine zz ?_
      try (apply Or.inr; refine And.intro (by first | rfl | exact zbool) ?_)
      replace h := evR h; cases h
      refine zz ?_
      first | exact ⟨trivial, _, rfl, ⟨_, rfl, rfl⟩, rfl, rfl⟩ | exact ⟨_, rfl, ⟨_, rfl, rfl⟩, rfl, rfl⟩
    have h_ := evO h; clear h; obtain ⟨t101, ht, h⟩ := h_
    refine zz ?_
    refine Exists.intro _ (And.intro (impl_calls_ev (h := ht)) ?_)
    refine zz ?_
    try (apply Or.inl; refine And.intro (by first | rfl | exact zbool) ?_)
    refine zz ?_
    try (apply Or.inl; refine And.intro (by first | rfl | exact zbool) ?_)
    refine zz ?_
    try (apply Or.inl; refine And.intro (by first | rfl | exact zbool) ?_)
    have h_ := evO h; clear h; obtain ⟨t104, ht, h⟩ := h_
    refine zz ?_
    refine Exists.intro _ (And.intro (slices_Contains_string_string_ev (h := ht)) ?_)
    refine zz ?_
    try (apply Or.inl; refine And.intro (by first | rfl | exact zbool) ?_)
    replace h := evR h; cases h
    refine zz ?_
    first | exact ⟨trivial, _, rfl, ⟨_, rfl, rfl⟩, rfl, rfl⟩ | exact ⟨_, rfl, ⟨_, rfl, rfl⟩, rfl, rfl⟩
  refine zz ?_
  refine cutJ (n := 106) [16] (fun fr hp => ∃ kq, kq ≤ k ∧ ∃ (x1 : Int) (x56 : Int) (x106 : Bool) (x16_0 : Int) (x16_1 : Int) (x16_2 : ByteArray), run impl_opRight.B kq (.j4 x1 x56 x106 x16_0 x16_1 x16_2) = some r ∧ (∃ fr0, fr = puts [(1, .one (.val (.int .i64 x1))), (4, .one (.ptr 16 0)), (56, .one (.val (.int .i64 x56))), (106, .one (.val (.bool x106)))] fr0) ∧ hp = (upd 16 (.box [.val (.int .i64 x16_0), .val (.int .i64 x16_1), .val (.str x16_2)]) (fun _ => none))) ?_ ?_
  · refine zz ?_
    refine br (iP h) ?_ ?_ <;> (clear h; intro c h)
    · replace h := evT h
      refine zz ?_
      exact ⟨_, zfuel, _, _, _, _, _, _, h, leafFr [1, 4, 56, 106] (by kernel_rfl), by kernel_rfl⟩
    replace h := evT h
    refine zz ?_
    exact ⟨_, zfuel, _, _, _, _, _, _, h, leafFr [1, 4, 56, 106] (by kernel_rfl), by kernel_rfl⟩
  clear h; rintro _ _ ⟨k, hle, x1, x56, x106, x16_0, x16_1, x16_2, h, ⟨fr0, rfl⟩, rfl⟩
  rcases k with _ | k
  · exact (run_zero h).elim
  rw [run_succ, impl_opRight.B] at h
  refine zz ?_
  refine br (iP h) ?_ ?_ <;> (clear h; intro c h)
  · have h_ := evO h; clear h; obtain ⟨t113, ht, h⟩ := h_
    refine zz ?_
    refine Exists.intro _ (And.intro (impl_in_ev (h := ht)) ?_)
    replace h := evR h; cases h
    refine zz ?_
    first | exact ⟨trivial, _, rfl, ⟨_, rfl, rfl⟩, rfl, rfl⟩ | exact ⟨_, rfl, ⟨_, rfl, rfl⟩, rfl, rfl⟩
  refine zz ?_
  refine br (iP h) ?_ ?_ <;> (clear h; intro c h)
  rotate_left
  · replace h := evR h; cases h
    refine zz ?_
    first | exact ⟨trivial, _, rfl, ⟨_, rfl, rfl⟩, rfl, rfl⟩ | exact ⟨_, rfl, ⟨_, rfl, rfl⟩, rfl, rfl⟩
  have h_ := evO h; clear h; obtain ⟨t118, ht, h⟩ := h_
  refine zz ?_
  refine Exists.intro _ (And.intro (impl_in_ev (h := ht)) ?_)
  replace h := evR h; cases h
  refine zz ?_
  first | exact ⟨trivial, _, rfl, ⟨_, rfl, rfl⟩, rfl, rfl⟩ | exact ⟨_, rfl, ⟨_, rfl, rfl⟩, rfl, rfl⟩
theorem impl_OpsOk_1_ev (a0_0 : Int) (a0_1 : Int) (a0_2 : ByteArray) (l1_0 : List S43) (a2_0 : Int) (a3_0 : Int) (r : Bool) (h : impl_OpsOk_1.fv a0_0 a0_1 a0_2 l1_0 a2_0 a3_0 = some r) : CE G 21 [.val (.agg [.int .i64 a0_0, .int .i64 a0_1, .str a0_2]), .ptr 0 0, .ptr 1 0, .ptr 2 0] [.box [.val (.row (l1_0.map e43))], .box [.val (.int .i64 a2_0)], .box [.val (.int .i64 a3_0)]] [.val (.bool r)] [.box [.val (.row (l1_0.map e43))], .box [.val (.int .i64 a2_0)], .box [.val (.int .i64 a3_0)]] := by
  refine CE.mk ⟨Try.f21, _, rfl, rfl, ⟨by kernel_rfl, Nat.le_of_ble_eq_true rfl, Nat.le_of_ble_eq_true rfl⟩, ?_⟩
  rw [impl_OpsOk_1.fv] at h
  have h_ := oS h; clear h; obtain ⟨t11, ht, h⟩ := h_
  refine zz ?_
  refine Exists.intro _ (And.intro (impl_opRight_ev (h := ht)) ?_)
  cases h
  refine zz ?_
  first | exact ⟨trivial, _, rfl, ⟨_, rfl, rfl⟩, rfl, rfl⟩ | exact ⟨_, rfl, ⟨_, rfl, rfl⟩, rfl, rfl⟩
theorem slices_IndexFunc_impl_Op_impl_Op__impl_OpsOk_1_ev (l0 : List S43) (l1q0_0 : List S43) (a1q1_0 : Int) (a1q2_0 : Int) (r : Int) (h : slices_IndexFunc_impl_Op_impl_Op__impl_OpsOk_1.fv l0 l1q0_0 a1q1_0 a1q2_0 = some r) : CE G 36 [.val (.row (l0.map e43)), .fn 21 [0, 1, 2]] [.box [.val (.row (l1q0_0.map e43))], .box [.val (.int .i64 a1q1_0)], .box [.val (.int .i64 a1q2_0)]] [.val (.int .i64 r)] [.box [.val (.row (l1q0_0.map e43))], .box [.val (.int .i64 a1q1_0)], .box [.val (.int .i64 a1q2_0)]] := by
  obtain ⟨k, h⟩ := lim_ex h
  refine CE.mk ⟨Try.f36, _, rfl, rfl, ⟨by kernel_rfl, Nat.le_of_ble_eq_true rfl, Nat.le_of_ble_eq_true rfl⟩, ?_⟩
  rcases k with _ | k
  · exact (run_zero h).elim
  rw [run_succ, slices_IndexFunc_impl_Op_impl_Op__impl_OpsOk_1.B] at h
  replace h := evT h
  refine zz ?_
  refine loopJ [0, 1, 2] (fun kq fr hp => ∃ (x0 : List S43) (x7 : Int) (x8 : Int), run slices_IndexFunc_impl_Op_impl_Op__impl_OpsOk_1.B kq (.l0 x0 x7 x8 l1q0_0 a1q1_0 a1q2_0) = some r ∧ (∃ fr0, fr = puts [(0, .one (.val (.row (x0.map e43)))), (1, .one (.fn 21 [0, 1, 2])), (7, .one (.val (.int .i64 x7))), (8, .one (.val (.int .i64 x8)))] fr0) ∧ hp = (upd 0 (.box [.val (.row (l1q0_0.map e43))]) (upd 1 (.box [.val (.int .i64 a1q1_0)]) (upd 2 (.box [.val (.int .i64 a1q2_0)]) (fun _ => none))))) k ⟨_, zfuel, _, _, _, h, leafFr [0, 1, 7, 8] (by kernel_rfl), by kernel_rfl⟩ ?_
  clear h; rintro k hle _ _ ⟨x0, x7, x8, h, ⟨fr0, rfl⟩, rfl⟩
  rcases k with _ | k
  · exact (run_zero h).elim
  rw [run_succ, slices_IndexFunc_impl_Op_impl_Op__impl_OpsOk_1.B] at h
  refine zz ?_
  refine br (iP h) ?_ ?_ <;> (clear h; intro c h)
  rotate_left
  · replace h := evR h; cases h
    refine zz ?_
    first | exact ⟨trivial, _, rfl, ⟨_, rfl, rfl⟩, rfl, rfl⟩ | exact ⟨_, rfl, ⟨_, rfl, rfl⟩, rfl, rfl⟩
  have h_ := gP h; clear h; obtain ⟨c, h⟩ := h_
  have h_ := gP h; clear h; obtain ⟨c, h⟩ := h_
  have h_ := evO h; clear h; obtain ⟨t16, ht, h⟩ := h_
  refine zz ?_
  refine Exists.intro _ (Exists.intro _ (And.intro (impl_OpsOk_1_ev (h := ht)) ?_))
  refine zz ?_
  refine br (iP h) ?_ ?_ <;> (clear h; intro c h)
  · replace h := evR h; cases h
    refine zz ?_
    first | exact ⟨trivial, _, rfl, ⟨_, rfl, rfl⟩, rfl, rfl⟩ | exact ⟨_, rfl, ⟨_, rfl, rfl⟩, rfl, rfl⟩
  replace h := evT h
  refine zz ?_
  exact ⟨_, zfuel, _, _, _, h, leafFr [0, 1, 7, 8] (by kernel_rfl), by kernel_rfl⟩
theorem slices_ContainsFunc_impl_Op_impl_Op__impl_OpsOk_1_ev (l0 : List S43) (l1q0_0 : List S43) (a1q1_0 : Int) (a1q2_0 : Int) (r : Bool) (h : slices_ContainsFunc_impl_Op_impl_Op__impl_OpsOk_1.fv l0 l1q0_0 a1q1_0 a1q2_0 = some r) : CE G 20 [.val (.row (l0.map e43)), .fn 21 [0, 1, 2]] [.box [.val (.row (l1q0_0.map e43))], .box [.val (.int .i64 a1q1_0)], .box [.val (.int .i64 a1q2_0)]] [.val (.bool r)] [.box [.val (.row (l1q0_0.map e43))], .box [.val (.int .i64 a1q1_0)], .box [.val (.int .i64 a1q2_0)]] := by
  refine CE.mk ⟨Try.f20, _, rfl, rfl, ⟨by kernel_rfl, Nat.le_of_ble_eq_true rfl, Nat.le_of_ble_eq_true rfl⟩, ?_⟩
  rw [slices_ContainsFunc_impl_Op_impl_Op__impl_OpsOk_1.fv] at h
  have h_ := oS h; clear h; obtain ⟨t7, ht, h⟩ := h_
  refine zz ?_
  refine Exists.intro _ (Exists.intro _ (And.intro (slices_IndexFunc_impl_Op_impl_Op__impl_OpsOk_1_ev (h := ht)) ?_))
  cases h
  refine zz ?_
  first | exact ⟨trivial, _, rfl, ⟨_, rfl, rfl⟩, rfl, rfl⟩ | exact ⟨_, rfl, ⟨_, rfl, rfl⟩, rfl, rfl⟩
theorem impl_OpsOk_ev (l0 : List S43) (a1 : Int) (a2 : Int) (r : Bool) (h : impl_OpsOk.fv l0 a1 a2 = some r) : CE G 8 [.val (.row (l0.map e43)), .val (.int .i64 a1), .val (.int .i64 a2)] [] [.val (.bool r)] [] := by
  refine CE.mk ⟨Try.f8, _, rfl, rfl, ⟨by kernel_rfl, Nat.le_of_ble_eq_true rfl, Nat.le_of_ble_eq_true rfl⟩, ?_⟩
  rw [impl_OpsOk.fv] at h
  have h_ := oS h; clear h; obtain ⟨t9, ht, h⟩ := h_
  refine zz ?_
  refine Exists.intro _ (And.intro (impl_in_ev (h := ht)) ?_)
  refine zz ?_
  refine brX (iteS h) ?_ ?_ <;> (clear h; intro c h)
  rotate_left
  · refine zz ?_
    try (apply Or.inr; refine And.intro (by first | rfl | exact zbool) ?_)
    refine zz ?_
    try (apply Or.inr; refine And.intro (by first | rfl | exact zbool) ?_)
    refine zz ?_
    try (apply Or.inr; refine And.intro (by first | rfl | exact zbool) ?_)
    refine zz ?_
    try (apply Or.inr; refine And.intro (by first | rfl | exact zbool) ?_)
    refine zz ?_
    try (apply Or.inr; refine And.intro (by first | rfl | exact zbool) ?_)
    refine zz ?_
    try (apply Or.inr; refine And.intro (by first | rfl | exact zbool) ?_)
    refine zz ?_
    try (apply Or.inr; refine And.intro (by first | rfl | exact zbool) ?_)
    refine zz ?_
    try (apply Or.inl; refine And.intro (by first | rfl | exact zbool) ?_)
    refine zz ?_
    try (apply Or.inl; refine And.intro (by first | rfl | exact zbool) ?_)
    cases h
    refine zz ?_
    first | exact ⟨trivial, _, rfl, ⟨_, rfl, rfl⟩, rfl, rfl⟩ | exact ⟨_, rfl, ⟨_, rfl, rfl⟩, rfl, rfl⟩
  refine zz ?_
  try (apply Or.inl; refine And.intro (by first | rfl | exact zbool) ?_)
  refine zz ?_
  try (apply Or.inl; refine And.intro (by first | rfl | exact zbool) ?_)
  refine zz ?_
  try (apply Or.inl; refine And.intro (by first | rfl | exact zbool) ?_)
  refine zz ?_
  try (apply Or.inl; refine And.intro (by first | rfl | exact zbool) ?_)
  have h_ := gS h; clear h; obtain ⟨c, h⟩ := h_
  have h_ := gS h; clear h; obtain ⟨c, h⟩ := h_
  refine zz ?_
  try (apply Or.inl; refine And.intro (by first | rfl | exact zbool) ?_)
  refine zz ?_
  try (apply Or.inl; refine And.intro (by first | rfl | exact zbool) ?_)
  refine zz ?_
  try (apply Or.inl; refine And.intro (by first | rfl | exact zbool) ?_)
  refine zz ?_
  try (apply Or.inr; refine And.intro (by first | rfl | exact zbool) ?_)
  refine zz ?_
  refine brN (iteS h) ?_ ?_ <;> (clear h; intro c h)
  · cases h
    refine zz ?_
    first | exact ⟨trivial, _, rfl, ⟨_, rfl, rfl⟩, rfl, rfl⟩ | exact ⟨_, rfl, ⟨_, rfl, rfl⟩, rfl, rfl⟩
  have h_ := oS h; clear h; obtain ⟨t23, ht, h⟩ := h_
  refine zz ?_
  refine Exists.intro _ (Exists.intro _ (And.intro (slices_ContainsFunc_impl_Op_impl_Op__impl_OpsOk_1_ev (h := ht)) ?_))
  cases h
  refine zz ?_
  first | exact ⟨trivial, _, rfl, ⟨_, rfl, rfl⟩, rfl, rfl⟩ | exact ⟨_, rfl, ⟨_, rfl, rfl⟩, rfl, rfl⟩
theorem impl_ProgOk_ev (l0_0 : List ByteArray) (l0_1 : List ByteArray) (l0_2 : List S43) (l0_3 : List S43) (r : Bool) (h : impl_ProgOk.fv l0_0 l0_1 l0_2 l0_3 = some r) : CE G 13 [.val (.agg [.row (l0_0.map VV.str), .row (l0_1.map VV.str), .row (l0_2.map e43), .row (l0_3.map e43)])] [] [.val (.bool r)] [] := by
  obtain ⟨k, h⟩ := lim_ex h
  refine CE.mk ⟨Try.f13, _, rfl, rfl, ⟨by kernel_rfl, Nat.le_of_ble_eq_true rfl, Nat.le_of_ble_eq_true rfl⟩, ?_⟩
  rcases k with _ | k
  · exact (run_zero h).elim
  rw [run_succ, impl_ProgOk.B] at h
  refine zz ?_
  refine cutJ (n := 200001) [16] (fun fr hp => ∃ kq, kq ≤ k ∧ ∃ (x18 : Bool) (x16_0 : List ByteArray) (x16_1 : List ByteArray) (x16_2 : List S43) (x16_3 : List S43), run impl_ProgOk.B kq (.j0 x18 x16_0 x16_1 x16_2 x16_3) = some r ∧ (∃ fr0, fr = puts [(1, .one (.ptr 16 0)), (18, .one (.val (.bool x18)))] fr0) ∧ hp = (upd 16 (.box [.val (.row (x16_0.map VV.str)), .val (.row (x16_1.map VV.str)), .val (.row (x16_2.map e43)), .val (.row (x16_3.map e43))]) (fun _ => none))) ?_ ?_
  · have h_ := evO h; clear h; obtain ⟨t5, ht, h⟩ := h_
    refine zz ?_
    refine Exists.intro _ (And.intro (impl_namesOk_ev (h := ht)) ?_)
    refine zz ?_
    refine brX (iP h) ?_ ?_ <;> (clear h; intro c h)
    rotate_left
    · refine zz ?_
      try (apply Or.inr; refine And.intro (by first | rfl | exact zbool) ?_)
      refine zz ?_
      try (apply Or.inr; refine And.intro (by first | rfl | exact zbool) ?_)
      refine zz ?_
      try (apply Or.inr; refine And.intro (by first | rfl | exact zbool) ?_)
      refine zz ?_
      try (apply Or.inl; refine And.intro (by first | rfl | exact zbool) ?_)
      refine zz ?_
      try (apply Or.inr; refine And.intro (by first | rfl | exact zbool) ?_)
      refine zz ?_
      try (apply Or.inr; refine And.intro (by first | rfl | exact zbool) ?_)
      refine zz ?_
      try (apply Or.inr; refine And.intro (by first | rfl | exact zbool) ?_)
      refine zz ?_
      try (apply Or.inr; refine And.intro (by first | rfl | exact zbool) ?_)
      refine zz ?_
      try (apply Or.inl; refine And.intro (by first | rfl | exact zbool) ?_)
      replace h := evT h
      refine zz ?_
      exact ⟨_, zfuel, _, _, _, _, _, h, leafFr [1, 18] (by kernel_rfl), by kernel_rfl⟩
    refine zz ?_
    try (apply Or.inl; refine And.intro (by first | rfl | exact zbool) ?_)
    refine zz ?_
    try (apply Or.inl; refine And.intro (by first | rfl | exact zbool) ?_)
    have h_ := evO h; clear h; obtain ⟨t10, ht, h⟩ := h_
    refine zz ?_
    refine Exists.intro _ (And.intro (impl_namesOk_ev (h := ht)) ?_)
    refine zz ?_
    try (apply Or.inl; refine And.intro (by first | rfl | exact zbool) ?_)
    refine zz ?_
    try (apply Or.inr; refine And.intro (by first | rfl | exact zbool) ?_)
    refine zz ?_
    refine brX (iP h) ?_ ?_ <;> (clear h; intro c h)
    rotate_left
    · refine zz ?_
      try (apply Or.inr; refine And.intro (by first | rfl | exact zbool) ?_)
      refine zz ?_
      try (apply Or.inr; refine And.intro (by first | rfl | exact zbool) ?_)
      refine zz ?_
      try (apply Or.inr; refine And.intro (by first | rfl | exact zbool) ?_)
      refine zz ?_
      try (apply Or.inl; refine And.intro (by first | rfl | exact zbool) ?_)
      replace h := evT h
      refine zz ?_
      exact ⟨_, zfuel, _, _, _, _, _, h, leafFr [1, 18] (by kernel_rfl), by kernel_rfl⟩
    refine zz ?_
    try (apply Or.inl; refine And.intro (by first | rfl | exact zbool) ?_)
    refine zz ?_
    try (apply Or.inl; refine And.intro (by first | rfl | exact zbool) ?_)
    refine zz ?_
    try (apply Or.inl; refine And.intro (by first | rfl | exact zbool) ?_)
    have h_ := evO h; clear h; obtain ⟨t17, ht, h⟩ := h_
    refine zz ?_
    refine Exists.intro _ (Exists.intro _ (And.intro (slices_ContainsFunc_string_string__impl_ProgOk_1_ev (h := ht)) ?_))
    refine zz ?_
    try (apply Or.inr; refine And.intro (by first | rfl | exact zbool) ?_)
    replace h := evT h
    refine zz ?_
    exact ⟨_, zfuel, _, _, _, _, _, h, leafFr [1, 18] (by kernel_rfl), by kernel_rfl⟩
  clear h; rintro _ _ ⟨k, hle, x18, x16_0, x16_1, x16_2, x16_3, h, ⟨fr0, rfl⟩, rfl⟩
  rcases k with _ | k
  · exact (run_zero h).elim
  rw [run_succ, impl_ProgOk.B] at h
  refine zz ?_
  refine br (iP h) ?_ ?_ <;> (clear h; intro c h)
  · replace h := evR h; cases h
    refine zz ?_
    first | exact ⟨trivial, _, rfl, ⟨_, rfl, rfl⟩, rfl, rfl⟩ | exact ⟨_, rfl, ⟨_, rfl, rfl⟩, rfl, rfl⟩
  have h_ := evO h; clear h; obtain ⟨t27, ht, h⟩ := h_
  refine zz ?_
  refine Exists.intro _ (And.intro (impl_OpsOk_ev (h := ht)) ?_)
  refine zz ?_
  refine br (iP h) ?_ ?_ <;> (clear h; intro c h)
  rotate_left
  · refine zz ?_
    try (apply Or.inr; refine And.intro (by first | rfl | exact zbool) ?_)
    refine zz ?_
    try (apply Or.inr; refine And.intro (by first | rfl | exact zbool) ?_)
    refine zz ?_
    try (apply Or.inr; refine And.intro (by first | rfl | exact zbool) ?_)
    refine zz ?_
    try (apply Or.inr; refine And.intro (by first | rfl | exact zbool) ?_)
    refine zz ?_
    try (apply Or.inr; refine And.intro (by first | rfl | exact zbool) ?_)
    refine zz ?_
    try (apply Or.inr; refine And.intro (by first | rfl | exact zbool) ?_)
    refine zz ?_
    try (apply Or.inr; refine And.intro (by first | rfl | exact zbool) ?_)
    refine zz ?_
    try (apply Or.inr; refine And.intro (by first | rfl | exact zbool) ?_)
    refine zz ?_
    try (apply Or.inr; refine And.intro (by first | rfl | exact zbool) ?_)
    replace h := evR h; cases h
    refine zz ?_
    first | exact ⟨trivial, _, rfl, ⟨_, rfl, rfl⟩, rfl, rfl⟩ | exact ⟨_, rfl, ⟨_, rfl, rfl⟩, rfl, rfl⟩
  refine zz ?_
  try (apply Or.inl; refine And.intro (by first | rfl | exact zbool) ?_)
  refine zz ?_
  try (apply Or.inl; refine And.intro (by first | rfl | exact zbool) ?_)
  refine zz ?_
  try (apply Or.inl; refine And.intro (by first | rfl | exact zbool) ?_)
  refine zz ?_
  try (apply Or.inl; refine And.intro (by first | rfl | exact zbool) ?_)
  refine zz ?_
  try (apply Or.inl; refine And.intro (by first | rfl | exact zbool) ?_)
  refine zz ?_
  try (apply Or.inl; refine And.intro (by first | rfl | exact zbool) ?_)
  refine zz ?_
  try (apply Or.inl; refine And.intro (by first | rfl | exact zbool) ?_)
  refine zz ?_
  try (apply Or.inl; refine And.intro (by first | rfl | exact zbool) ?_)
  have h_ := evO h; clear h; obtain ⟨t37, ht, h⟩ := h_
  refine zz ?_
  refine Exists.intro _ (And.intro (impl_OpsOk_ev (h := ht)) ?_)
  refine zz ?_
  try (apply Or.inl; refine And.intro (by first | rfl | exact zbool) ?_)
  replace h := evR h; cases h
  refine zz ?_
  first | exact ⟨trivial, _, rfl, ⟨_, rfl, rfl⟩, rfl, rfl⟩ | exact ⟨_, rfl, ⟨_, rfl, rfl⟩, rfl, rfl⟩
theorem laws_eqStringS_ev (l0 : List ByteArray) (l1 : List ByteArray) (r : Bool) (h : laws_eqStringS.fv l0 l1 = some r) : CE G 32 [.val (.row (l0.map VV.str)), .val (.row (l1.map VV.str))] [] [.val (.bool r)] [] := by
  obtain ⟨k, h⟩ := lim_ex h
  refine CE.mk ⟨Try.f32, _, rfl, rfl, ⟨by kernel_rfl, Nat.le_of_ble_eq_true rfl, Nat.le_of_ble_eq_true rfl⟩, ?_⟩
  rcases k with _ | k
  · exact (run_zero h).elim
  rw [run_succ, laws_eqStringS.B] at h
  refine zz ?_
  refine brN (iP h) ?_ ?_ <;> (clear h; intro c h)
  · replace h := evR h; cases h
    refine zz ?_
    first | exact ⟨trivial, _, rfl, ⟨_, rfl, rfl⟩, rfl, rfl⟩ | exact ⟨_, rfl, ⟨_, rfl, rfl⟩, rfl, rfl⟩
  replace h := evT h
  refine zz ?_
  refine loopJ [] (fun kq fr hp => ∃ (x0 : List ByteArray) (x1 : List ByteArray) (x5 : Int), run laws_eqStringS.B kq (.l0 x0 x1 x5) = some r ∧ (∃ fr0, fr = puts [(0, .one (.val (.row (x0.map VV.str)))), (1, .one (.val (.row (x1.map VV.str)))), (5, .one (.val (.int .i64 x5)))] fr0) ∧ hp = (fun _ => none)) k ⟨_, zfuel, _, _, _, h, leafFr [0, 1, 5] (by kernel_rfl), by kernel_rfl⟩ ?_
  clear h; rintro k hle _ _ ⟨x0, x1, x5, h, ⟨fr0, rfl⟩, rfl⟩
  rcases k with _ | k
  · exact (run_zero h).elim
  rw [run_succ, laws_eqStringS.B] at h
  refine zz ?_
  refine br (iP h) ?_ ?_ <;> (clear h; intro c h)
  rotate_left
  · replace h := evR h; cases h
    refine zz ?_
    first | exact ⟨trivial, _, rfl, ⟨_, rfl, rfl⟩, rfl, rfl⟩ | exact ⟨_, rfl, ⟨_, rfl, rfl⟩, rfl, rfl⟩
  have h_ := gP h; clear h; obtain ⟨c, h⟩ := h_
  have h_ := gP h; clear h; obtain ⟨c, h⟩ := h_
  refine zz ?_
  refine brN (iP h) ?_ ?_ <;> (clear h; intro c h)
  · replace h := evR h; cases h
    refine zz ?_
    first | exact ⟨trivial, _, rfl, ⟨_, rfl, rfl⟩, rfl, rfl⟩ | exact ⟨_, rfl, ⟨_, rfl, rfl⟩, rfl, rfl⟩
  replace h := evT h
  refine zz ?_
  exact ⟨_, zfuel, _, _, _, h, leafFr [0, 1, 5] (by kernel_rfl), by kernel_rfl⟩
theorem laws_eqOp_ev (a0_0 : Int) (a0_1 : Int) (a0_2 : ByteArray) (a1_0 : Int) (a1_1 : Int) (a1_2 : ByteArray) (r : Bool) (h : laws_eqOp.f a0_0 a0_1 a0_2 a1_0 a1_1 a1_2 = some r) : CE G 23 [.val (.agg [.int .i64 a0_0, .int .i64 a0_1, .str a0_2]), .val (.agg [.int .i64 a1_0, .int .i64 a1_1, .str a1_2])] [] [.val (.bool r)] [] := by
  refine CE.mk ⟨Try.f23, _, rfl, rfl, ⟨by kernel_rfl, Nat.le_of_ble_eq_true rfl, Nat.le_of_ble_eq_true rfl⟩, ?_⟩
  rw [laws_eqOp.f] at h
  refine zz ?_
  refine brN (iteS h) ?_ ?_ <;> (clear h; intro c h)
  · cases h
    refine zz ?_
    first | exact ⟨trivial, _, rfl, ⟨_, rfl, rfl⟩, rfl, rfl⟩ | exact ⟨_, rfl, ⟨_, rfl, rfl⟩, rfl, rfl⟩
  refine zz ?_
  refine brN (iteS h) ?_ ?_ <;> (clear h; intro c h)
  · cases h
    refine zz ?_
    first | exact ⟨trivial, _, rfl, ⟨_, rfl, rfl⟩, rfl, rfl⟩ | exact ⟨_, rfl, ⟨_, rfl, rfl⟩, rfl, rfl⟩
  refine zz ?_
  refine brN (iteS h) ?_ ?_ <;> (clear h; intro c h)
  · cases h
    refine zz ?_
    first | exact ⟨trivial, _, rfl, ⟨_, rfl, rfl⟩, rfl, rfl⟩ | exact ⟨_, rfl, ⟨_, rfl, rfl⟩, rfl, rfl⟩
  cases h
  refine zz ?_
  first | exact ⟨trivial, _, rfl, ⟨_, rfl, rfl⟩, rfl, rfl⟩ | exact ⟨_, rfl, ⟨_, rfl, rfl⟩, rfl, rfl⟩
end Go.Proofs.Yteegedceandnkaa.TFnExactProgOk
