/- The walks of the functions that FnBrackets reaches, through the abstract machine. -/
import Derived.Test.YtfdpehmefgfjgaaAFnBracketsh
import Derived.Test.YtfdpehmefgfjgaaAFnBracketsx0
import Derived.Test.YtfdpehmefgfjgaaFFnBrackets
import Derived.Test.YtfdpehmefgfjgaaProg
set_option maxHeartbeats 4000000
set_option maxRecDepth 100000
set_option linter.unusedVariables false
set_option linter.unusedSimpArgs false
namespace Go.Proofs.Ytfdpehmefgfjgaa.TFnBrackets
open Go Go.RowKit Go.Proofs Go.Proofs.YtfdpehmefgfjgaaW.AM Go.Proofs.Ytfdpehmefgfjgaa.QFnBrackets Go.Proofs.YtfdpehmefgfjgaaW.PrintWords Go.Proofs.YtfdpehmefgfjgaaW.Pgs
variable {m_ : Int}
theorem impl_RexParse_ev (a0 : ByteArray) (r1 : Int) (r2 : Int) (r3 : ByteArray) (r4 : Bool) (r5 : List S26) (r6 : Bool) (h : impl_RexParse.fv a0 = some (r1, r2, r3, r4, r5, r6)) : CE (G m_) 18 [.val (.str a0)] [] [.val (.agg [.int .i64 r1, .int .i64 r2, .str r3, .bool r4, .row (r5.map e26)]), .val (.bool r6)] [] := by
  refine CE.mk ⟨Try.f18, _, rfl, rfl, ⟨by kernel_rfl, Nat.le_of_ble_eq_true rfl, Nat.le_of_ble_eq_true rfl⟩, ?_⟩
  rw [impl_RexParse.fv] at h
  refine zz ?_
  refine br (iteS h) ?_ ?_ <;> (clear h; intro c h)
  · cases h
    refine zz ?_
    first | exact ⟨trivial, [], [], ⟨rfl, trivial⟩, _, rfl, _, rfl, And.intro rfl rfl⟩ | exact ⟨[], [], ⟨rfl, trivial⟩, _, rfl, _, rfl, And.intro rfl rfl⟩
  have h_ := oS h; clear h; obtain ⟨t14, ht, h⟩ := h_
  refine zz ?_
  refine Exists.intro _ (Exists.intro _ (And.intro (impl_rexReader_pattern_ev (h := ht)) ?_))
  refine zz ?_
  refine brW (iteS h) ?_ ?_ <;> (clear h; intro c h)
  rotate_left
  · refine zz ?_
    try (apply Or.inr; refine And.intro (by first | rfl | exact zboolK) ?_)
    refine zz ?_
    try (apply Or.inr; refine And.intro (by first | rfl | exact zboolK) ?_)
    refine zz ?_
    try (apply Or.inr; refine And.intro (by first | rfl | exact zboolK) ?_)
    refine zz ?_
    try (apply Or.inr; refine And.intro (by first | rfl | exact zboolK) ?_)
    refine zz ?_
    try (apply Or.inl; refine And.intro (by first | rfl | exact zboolK) ?_)
    refine zz ?_
    try (apply Or.inr; refine And.intro (by first | rfl | exact zboolK) ?_)
    refine zz ?_
    try (apply Or.inr; refine And.intro (by first | rfl | exact zboolK) ?_)
    refine zz ?_
    try (apply Or.inr; refine And.intro (by first | rfl | exact zboolK) ?_)
    refine zz ?_
    try (apply Or.inl; refine And.intro (by first | rfl | exact zboolK) ?_)
    refine zz ?_
    try (apply Or.inl; refine And.intro (by first | rfl | exact zboolK) ?_)
    cases h
    refine zz ?_
    first | exact ⟨trivial, [], [], ⟨rfl, trivial⟩, _, rfl, _, rfl, And.intro rfl rfl⟩ | exact ⟨[], [], ⟨rfl, trivial⟩, _, rfl, _, rfl, And.intro rfl rfl⟩
  refine zz ?_
  try (apply Or.inl; refine And.intro (by first | rfl | exact zboolK) ?_)
  refine zz ?_
  try (apply Or.inl; refine And.intro (by first | rfl | exact zboolK) ?_)
  refine zz ?_
  try (apply Or.inl; refine And.intro (by first | rfl | exact zboolK) ?_)
  refine zz ?_
  try (apply Or.inl; refine And.intro (by first | rfl | exact zboolK) ?_)
  refine zz ?_
  try (apply Or.inr; refine And.intro (by first | rfl | exact zboolK) ?_)
  refine zz ?_
  refine brX (iteS h) ?_ ?_ <;> (clear h; intro c h)
  rotate_left
  · refine zz ?_
    try (apply Or.inr; refine And.intro (by first | rfl | exact zboolK) ?_)
    refine zz ?_
    try (apply Or.inr; refine And.intro (by first | rfl | exact zboolK) ?_)
    refine zz ?_
    try (apply Or.inl; refine And.intro (by first | rfl | exact zboolK) ?_)
    refine zz ?_
    try (apply Or.inl; refine And.intro (by first | rfl | exact zboolK) ?_)
    cases h
    refine zz ?_
    first | exact ⟨trivial, [], [], ⟨rfl, trivial⟩, _, rfl, _, rfl, And.intro rfl rfl⟩ | exact ⟨[], [], ⟨rfl, trivial⟩, _, rfl, _, rfl, And.intro rfl rfl⟩
  refine zz ?_
  try (apply Or.inl; refine And.intro (by first | rfl | exact zboolK) ?_)
  have h_ := oS h; clear h; obtain ⟨t28, ht, h⟩ := h_
  refine zz ?_
  refine Exists.intro _ (And.intro (impl_rexDeep_ev (h := ht)) ?_)
  refine zz ?_
  try (apply Or.inl; refine And.intro (by first | rfl | exact zboolK) ?_)
  refine zz ?_
  try (apply Or.inr; refine And.intro (by first | rfl | exact zboolK) ?_)
  refine zz ?_
  refine br (iteS h) ?_ ?_ <;> (clear h; intro c h)
  · cases h
    refine zz ?_
    first | exact ⟨trivial, [], [], ⟨rfl, trivial⟩, _, rfl, _, rfl, And.intro rfl rfl⟩ | exact ⟨[], [], ⟨rfl, trivial⟩, _, rfl, _, rfl, And.intro rfl rfl⟩
  cases h
  refine zz ?_
  first | exact ⟨trivial, [], [], ⟨rfl, trivial⟩, _, rfl, _, rfl, And.intro rfl rfl⟩ | exact ⟨[], [], ⟨rfl, trivial⟩, _, rfl, _, rfl, And.intro rfl rfl⟩
theorem spec_l3Now_ev (s0_0 : ByteArray) (s0_1 : Int) (s0_2 : Bool) (a1 : Int) (r1 : Bool) (r2 : ByteArray) (r3 : Int) (r4 : Bool) (h : spec_l3Now.f s0_0 s0_1 s0_2 a1 = some (r1, r2, r3, r4)) : CE (G m_) 100 [.ptr 0 0, .val (.int .u8 a1)] [.box [.val (.str s0_0), .val (.int .i64 s0_1), .val (.bool s0_2)]] [.val (.bool r1)] [.box [.val (.str r2), .val (.int .i64 r3), .val (.bool r4)]] := by
  refine CE.mk ⟨Try.f100, _, rfl, rfl, ⟨by kernel_rfl, Nat.le_of_ble_eq_true rfl, Nat.le_of_ble_eq_true rfl⟩, ?_⟩
  rw [spec_l3Now.f] at h
  refine zz ?_
  refine brN (iteS h) ?_ ?_ <;> (clear h; intro c h)
  rotate_left
  · refine zz ?_
    try (apply Or.inr; refine And.intro (by first | rfl | exact zboolK) ?_)
    refine zz ?_
    try (apply Or.inr; refine And.intro (by first | rfl | exact zboolK) ?_)
    refine zz ?_
    try (apply Or.inr; refine And.intro (by first | rfl | exact zboolK) ?_)
    refine zz ?_
    try (apply Or.inr; refine And.intro (by first | rfl | exact zboolK) ?_)
    refine zz ?_
    try (apply Or.inr; refine And.intro (by first | rfl | exact zboolK) ?_)
    refine zz ?_
    try (apply Or.inr; refine And.intro (by first | rfl | exact zboolK) ?_)
    refine zz ?_
    try (apply Or.inr; refine And.intro (by first | rfl | exact zboolK) ?_)
    refine zz ?_
    try (apply Or.inr; refine And.intro (by first | rfl | exact zboolK) ?_)
    refine zz ?_
    try (apply Or.inr; refine And.intro (by first | rfl | exact zboolK) ?_)
    refine zz ?_
    try (apply Or.inr; refine And.intro (by first | rfl | exact zboolK) ?_)
    refine zz ?_
    try (apply Or.inr; refine And.intro (by first | rfl | exact zboolK) ?_)
    refine zz ?_
    try (apply Or.inr; refine And.intro (by first | rfl | exact zboolK) ?_)
    refine zz ?_
    try (apply Or.inr; refine And.intro (by first | rfl | exact zboolK) ?_)
    refine zz ?_
    try (apply Or.inr; refine And.intro (by first | rfl | exact zboolK) ?_)
    refine zz ?_
    try (apply Or.inr; refine And.intro (by first | rfl | exact zboolK) ?_)
    refine zz ?_
    try (apply Or.inr; refine And.intro (by first | rfl | exact zboolK) ?_)
    refine zz ?_
    try (apply Or.inr; refine And.intro (by first | rfl | exact zboolK) ?_)
    refine zz ?_
    try (apply Or.inr; refine And.intro (by first | rfl | exact zboolK) ?_)
    refine zz ?_
    try (apply Or.inr; refine And.intro (by first | rfl | exact zboolK) ?_)
    refine zz ?_
    try (apply Or.inr; refine And.intro (by first | rfl | exact zboolK) ?_)
    refine zz ?_
    try (apply Or.inr; refine And.intro (by first | rfl | exact zboolK) ?_)
    refine zz ?_
    try (apply Or.inr; refine And.intro (by first | rfl | exact zboolK) ?_)
    cases h
    refine zz ?_
    first | exact ⟨trivial, [], [], ⟨rfl, trivial⟩, _, rfl, _, rfl, And.intro rfl rfl⟩ | exact ⟨[], [], ⟨rfl, trivial⟩, _, rfl, _, rfl, And.intro rfl rfl⟩
  refine zz ?_
  try (apply Or.inl; refine And.intro (by first | rfl | exact zboolK) ?_)
  refine zz ?_
  try (apply Or.inl; refine And.intro (by first | rfl | exact zboolK) ?_)
  refine zz ?_
  try (apply Or.inl; refine And.intro (by first | rfl | exact zboolK) ?_)
  refine zz ?_
  try (apply Or.inl; refine And.intro (by first | rfl | exact zboolK) ?_)
  refine zz ?_
  try (apply Or.inl; refine And.intro (by first | rfl | exact zboolK) ?_)
  refine zz ?_
  try (apply Or.inl; refine And.intro (by first | rfl | exact zboolK) ?_)
  refine zz ?_
  try (apply Or.inl; refine And.intro (by first | rfl | exact zboolK) ?_)
  refine zz ?_
  try (apply Or.inl; refine And.intro (by first | rfl | exact zboolK) ?_)
  refine zz ?_
  try (apply Or.inl; refine And.intro (by first | rfl | exact zboolK) ?_)
  refine zz ?_
  try (apply Or.inl; refine And.intro (by first | rfl | exact zboolK) ?_)
  refine zz ?_
  refine br (iteS h) ?_ ?_ <;> (clear h; intro c h)
  rotate_left
  · refine zz ?_
    try (apply Or.inr; refine And.intro (by first | rfl | exact zboolK) ?_)
    refine zz ?_
    try (apply Or.inr; refine And.intro (by first | rfl | exact zboolK) ?_)
    refine zz ?_
    try (apply Or.inr; refine And.intro (by first | rfl | exact zboolK) ?_)
    refine zz ?_
    try (apply Or.inr; refine And.intro (by first | rfl | exact zboolK) ?_)
    refine zz ?_
    try (apply Or.inr; refine And.intro (by first | rfl | exact zboolK) ?_)
    refine zz ?_
    try (apply Or.inr; refine And.intro (by first | rfl | exact zboolK) ?_)
    refine zz ?_
    try (apply Or.inr; refine And.intro (by first | rfl | exact zboolK) ?_)
    refine zz ?_
    try (apply Or.inr; refine And.intro (by first | rfl | exact zboolK) ?_)
    refine zz ?_
    try (apply Or.inr; refine And.intro (by first | rfl | exact zboolK) ?_)
    refine zz ?_
    try (apply Or.inr; refine And.intro (by first | rfl | exact zboolK) ?_)
    refine zz ?_
    try (apply Or.inr; refine And.intro (by first | rfl | exact zboolK) ?_)
    cases h
    refine zz ?_
    first | exact ⟨trivial, [], [], ⟨rfl, trivial⟩, _, rfl, _, rfl, And.intro rfl rfl⟩ | exact ⟨[], [], ⟨rfl, trivial⟩, _, rfl, _, rfl, And.intro rfl rfl⟩
  refine zz ?_
  try (apply Or.inl; refine And.intro (by first | rfl | exact zboolK) ?_)
  refine zz ?_
  try (apply Or.inl; refine And.intro (by first | rfl | exact zboolK) ?_)
  refine zz ?_
  try (apply Or.inl; refine And.intro (by first | rfl | exact zboolK) ?_)
  refine zz ?_
  try (apply Or.inl; refine And.intro (by first | rfl | exact zboolK) ?_)
  refine zz ?_
  try (apply Or.inl; refine And.intro (by first | rfl | exact zboolK) ?_)
  refine zz ?_
  try (apply Or.inl; refine And.intro (by first | rfl | exact zboolK) ?_)
  refine zz ?_
  try (apply Or.inl; refine And.intro (by first | rfl | exact zboolK) ?_)
  refine zz ?_
  try (apply Or.inl; refine And.intro (by first | rfl | exact zboolK) ?_)
  have h_ := gS h; clear h; obtain ⟨c, h⟩ := h_
  refine zz ?_
  try (apply Or.inl; refine And.intro (by first | rfl | exact zboolK) ?_)
  refine zz ?_
  try (apply Or.inl; refine And.intro (by first | rfl | exact zboolK) ?_)
  refine zz ?_
  try (apply Or.inl; refine And.intro (by first | rfl | exact zboolK) ?_)
  cases h
  refine zz ?_
  first | exact ⟨trivial, [], [], ⟨rfl, trivial⟩, _, rfl, _, rfl, And.intro rfl rfl⟩ | exact ⟨[], [], ⟨rfl, trivial⟩, _, rfl, _, rfl, And.intro rfl rfl⟩
theorem spec_l3Set_ev (s0_0 : ByteArray) (s0_1 : Int) (s0_2 : Bool) (r1 : Int) (r2 : Int) (r3 : ByteArray) (r4 : Bool) (r5 : List S26) (r6 : ByteArray) (r7 : Int) (r8 : Bool) (h : spec_l3Set.fv s0_0 s0_1 s0_2 = some (r1, r2, r3, r4, r5, r6, r7, r8)) : CE (G m_) 162 [.ptr 0 0] [.box [.val (.str s0_0), .val (.int .i64 s0_1), .val (.bool s0_2)]] [.val (.agg [.int .i64 r1, .int .i64 r2, .str r3, .bool r4, .row (r5.map e26)])] [.box [.val (.str r6), .val (.int .i64 r7), .val (.bool r8)]] := by
  obtain ⟨k, h⟩ := lim_ex h
  refine CE.mk ⟨Try.f162, _, rfl, rfl, ⟨by kernel_rfl, Nat.le_of_ble_eq_true rfl, Nat.le_of_ble_eq_true rfl⟩, ?_⟩
  rcases k with _ | k
  · exact (run_zero h).elim
  rw [run_succ, spec_l3Set.B] at h
  refine zz ?_
  refine cutJ (n := 13) [0, 16, 529] (fun fr hp => ∃ kq, kq ≤ k ∧ ∃ (x1000 : ByteArray) (x1001 : Int) (x1002 : Bool) (x529_0 : Int) (x529_1 : Int) (x529_2 : ByteArray) (x529_3 : Bool), run spec_l3Set.B kq (.j0 x1000 x1001 x1002 x529_0 x529_1 x529_2 x529_3) = some (r1, r2, r3, r4, r5, r6, r7, r8) ∧ (∃ fr0, fr = puts [(0, .one (.ptr 0 0)), (2, .one (.ptr 16 0)), (3, .one (.ptr 529 0))] fr0) ∧ hp = (upd 0 (.box [.val (.str x1000), .val (.int .i64 x1001), .val (.bool x1002)]) (upd 16 (.box [.val (.int .i64 0), .val (.int .i64 0), .val (.str (⟨#[]⟩ : ByteArray)), .val (.bool false), .nilrow]) (upd 529 (.box [.val (.int .i64 x529_0), .val (.int .i64 x529_1), .val (.str x529_2), .val (.bool x529_3), .val (.row (([] : List S26).map e26))]) (fun _ => none))))) ?_ ?_
  · have h_ := evO h; clear h; obtain ⟨t13, ht, h⟩ := h_
    refine zz ?_
    refine Exists.intro _ (Exists.intro _ (And.intro (spec_l3Now_ev (h := ht)) ?_))
    refine zz ?_
    refine br (iP h) ?_ ?_ <;> (clear h; intro c h)
    · replace h := evT h
      refine zz ?_
      exact ⟨_, zfuel, _, _, _, _, _, _, _, h, leafFr [0, 2, 3] (by kernel_rfl), by kernel_rfl⟩
    replace h := evT h
    refine zz ?_
    exact ⟨_, zfuel, _, _, _, _, _, _, _, h, leafFr [0, 2, 3] (by kernel_rfl), by kernel_rfl⟩
  clear h; rintro _ _ ⟨k, hle, x1000, x1001, x1002, x529_0, x529_1, x529_2, x529_3, h, ⟨fr0, rfl⟩, rfl⟩
  rcases k with _ | k
  · exact (run_zero h).elim
  rw [run_succ, spec_l3Set.B] at h
  have h_ := gP h; clear h; obtain ⟨c, h⟩ := h_
  refine zz ?_
  refine Exists.intro (List.map VV.bool (List.replicate 256 false)) (And.intro zrow ?_)
  replace h := evT h
  refine zz ?_
  refine loopJ [0, 16, 529, 2576] (fun kq fr hp => ∃ (x4 : List Bool) (x5 : Int) (x1000 : ByteArray) (x1001 : Int) (x1002 : Bool) (x529_0 : Int) (x529_1 : Int) (x529_2 : ByteArray) (x529_3 : Bool) (g2576 : Nat), run spec_l3Set.B kq (.l0 x4 x5 x1000 x1001 x1002 x529_0 x529_1 x529_2 x529_3) = some (r1, r2, r3, r4, r5, r6, r7, r8) ∧ (∃ fr0, fr = puts [(0, .one (.ptr 0 0)), (2, .one (.ptr 16 0)), (3, .one (.ptr 529 0)), (4, .one (.ref 2576 g2576)), (5, .one (.val (.int .i64 x5)))] fr0) ∧ hp = (upd 0 (.box [.val (.str x1000), .val (.int .i64 x1001), .val (.bool x1002)]) (upd 16 (.box [.val (.int .i64 0), .val (.int .i64 0), .val (.str (⟨#[]⟩ : ByteArray)), .val (.bool false), .nilrow]) (upd 529 (.box [.val (.int .i64 x529_0), .val (.int .i64 x529_1), .val (.str x529_2), .val (.bool x529_3), .val (.row (([] : List S26).map e26))]) (upd 2576 (.own 4 1 (x4.map VV.bool) g2576 false) (fun _ => none)))))) k ⟨_, zfuel, _, _, _, _, _, _, _, _, _, 0, h, leafFr [0, 2, 3, 4, 5] (by kernel_rfl), by kernel_rfl⟩ ?_
  clear h; rintro k hle _ _ ⟨x4, x5, x1000, x1001, x1002, x529_0, x529_1, x529_2, x529_3, g2576, h, ⟨fr0, rfl⟩, rfl⟩
  rcases k with _ | k
  · exact (run_zero h).elim
  rw [run_succ, spec_l3Set.B] at h
  refine zz ?_
  refine cutJ (n := 200007) [0, 16, 529, 2576] (fun fr hp => ∃ kq, kq ≤ k ∧ ∃ (x4 : List Bool) (x5 : Int) (x44 : Bool) (x1000 : ByteArray) (x1001 : Int) (x1002 : Bool) (x529_0 : Int) (x529_1 : Int) (x529_2 : ByteArray) (x529_3 : Bool) (g2576 : Nat), run spec_l3Set.B kq (.j2 x4 x5 x44 x1000 x1001 x1002 x529_0 x529_1 x529_2 x529_3) = some (r1, r2, r3, r4, r5, r6, r7, r8) ∧ (∃ fr0, fr = puts [(0, .one (.ptr 0 0)), (2, .one (.ptr 16 0)), (3, .one (.ptr 529 0)), (4, .one (.ref 2576 g2576)), (5, .one (.val (.int .i64 x5))), (44, .one (.val (.bool x44)))] fr0) ∧ hp = (upd 0 (.box [.val (.str x1000), .val (.int .i64 x1001), .val (.bool x1002)]) (upd 16 (.box [.val (.int .i64 0), .val (.int .i64 0), .val (.str (⟨#[]⟩ : ByteArray)), .val (.bool false), .nilrow]) (upd 529 (.box [.val (.int .i64 x529_0), .val (.int .i64 x529_1), .val (.str x529_2), .val (.bool x529_3), .val (.row (([] : List S26).map e26))]) (upd 2576 (.own 4 1 (x4.map VV.bool) g2576 false) (fun _ => none)))))) ?_ ?_
  · refine zz ?_
    refine br (iP h) ?_ ?_ <;> (clear h; intro c h)
    rotate_left
    · refine zz ?_
      try (apply Or.inr; refine And.intro (by first | rfl | exact zboolK) ?_)
      refine zz ?_
      try (apply Or.inr; refine And.intro (by first | rfl | exact zboolK) ?_)
      refine zz ?_
      try (apply Or.inr; refine And.intro (by first | rfl | exact zboolK) ?_)
      refine zz ?_
      try (apply Or.inr; refine And.intro (by first | rfl | exact zboolK) ?_)
      refine zz ?_
      try (apply Or.inr; refine And.intro (by first | rfl | exact zboolK) ?_)
      refine zz ?_
      try (apply Or.inr; refine And.intro (by first | rfl | exact zboolK) ?_)
      refine zz ?_
      try (apply Or.inr; refine And.intro (by first | rfl | exact zboolK) ?_)
      refine zz ?_
      try (apply Or.inr; refine And.intro (by first | rfl | exact zboolK) ?_)
      refine zz ?_
      try (apply Or.inr; refine And.intro (by first | rfl | exact zboolK) ?_)
      refine zz ?_
      try (apply Or.inr; refine And.intro (by first | rfl | exact zboolK) ?_)
      replace h := evT h
      refine zz ?_
      exact ⟨_, zfuel, _, _, _, _, _, _, _, _, _, _, g2576, h, leafFr [0, 2, 3, 4, 5, 44] (by kernel_rfl), by kernel_rfl⟩
    refine zz ?_
    try (apply Or.inl; refine And.intro (by first | rfl | exact zboolK) ?_)
    refine zz ?_
    try (apply Or.inl; refine And.intro (by first | rfl | exact zboolK) ?_)
    refine zz ?_
    try (apply Or.inl; refine And.intro (by first | rfl | exact zboolK) ?_)
    refine zz ?_
    try (apply Or.inl; refine And.intro (by first | rfl | exact zboolK) ?_)
    refine zz ?_
    try (apply Or.inl; refine And.intro (by first | rfl | exact zboolK) ?_)
    refine zz ?_
    try (apply Or.inl; refine And.intro (by first | rfl | exact zboolK) ?_)
    refine zz ?_
    try (apply Or.inl; refine And.intro (by first | rfl | exact zboolK) ?_)
    refine zz ?_
    try (apply Or.inl; refine And.intro (by first | rfl | exact zboolK) ?_)
    have h_ := gP h; clear h; obtain ⟨c, h⟩ := h_
    refine zz ?_
    try (apply Or.inl; refine And.intro (by first | rfl | exact zboolK) ?_)
    refine zz ?_
    try (apply Or.inl; refine And.intro (by first | rfl | exact zboolK) ?_)
    replace h := evT h
    refine zz ?_
    exact ⟨_, zfuel, _, _, _, _, _, _, _, _, _, _, g2576, h, leafFr [0, 2, 3, 4, 5, 44] (by kernel_rfl), by kernel_rfl⟩
  clear h; rintro _ _ ⟨k, hle, x4, x5, x44, x1000, x1001, x1002, x529_0, x529_1, x529_2, x529_3, g2576, h, ⟨fr0, rfl⟩, rfl⟩
  rcases k with _ | k
  · exact (run_zero h).elim
  rw [run_succ, spec_l3Set.B] at h
  refine zz ?_
  refine br (iP h) ?_ ?_ <;> (clear h; intro c h)
  rotate_left
  · refine zz ?_
    refine cutJ (n := 148) [0, 16, 529, 2576] (fun fr hp => ∃ kq, kq ≤ k ∧ ∃ (x4 : List Bool) (x1000 : ByteArray) (x1001 : Int) (x1002 : Bool) (x529_0 : Int) (x529_1 : Int) (x529_2 : ByteArray) (x529_3 : Bool) (g2576 : Nat), run spec_l3Set.B kq (.j8 x4 x1000 x1001 x1002 x529_0 x529_1 x529_2 x529_3) = some (r1, r2, r3, r4, r5, r6, r7, r8) ∧ (∃ fr0, fr = puts [(0, .one (.ptr 0 0)), (2, .one (.ptr 16 0)), (3, .one (.ptr 529 0)), (4, .one (.ref 2576 g2576))] fr0) ∧ hp = (upd 0 (.box [.val (.str x1000), .val (.int .i64 x1001), .val (.bool x1002)]) (upd 16 (.box [.val (.int .i64 0), .val (.int .i64 0), .val (.str (⟨#[]⟩ : ByteArray)), .val (.bool false), .nilrow]) (upd 529 (.box [.val (.int .i64 x529_0), .val (.int .i64 x529_1), .val (.str x529_2), .val (.bool x529_3), .val (.row (([] : List S26).map e26))]) (upd 2576 (.own 4 1 (x4.map VV.bool) g2576 false) (fun _ => none)))))) ?_ ?_
    · refine zz ?_
      refine cutJ (n := 200021) [0, 16, 529, 2576] (fun fr hp => ∃ kq, kq ≤ k ∧ ∃ (x4 : List Bool) (x148 : Bool) (x1000 : ByteArray) (x1001 : Int) (x1002 : Bool) (x529_0 : Int) (x529_1 : Int) (x529_2 : ByteArray) (x529_3 : Bool) (g2576 : Nat), run spec_l3Set.B kq (.j7 x4 x148 x1000 x1001 x1002 x529_0 x529_1 x529_2 x529_3) = some (r1, r2, r3, r4, r5, r6, r7, r8) ∧ (∃ fr0, fr = puts [(0, .one (.ptr 0 0)), (2, .one (.ptr 16 0)), (3, .one (.ptr 529 0)), (4, .one (.ref 2576 g2576)), (148, .one (.val (.bool x148)))] fr0) ∧ hp = (upd 0 (.box [.val (.str x1000), .val (.int .i64 x1001), .val (.bool x1002)]) (upd 16 (.box [.val (.int .i64 0), .val (.int .i64 0), .val (.str (⟨#[]⟩ : ByteArray)), .val (.bool false), .nilrow]) (upd 529 (.box [.val (.int .i64 x529_0), .val (.int .i64 x529_1), .val (.str x529_2), .val (.bool x529_3), .val (.row (([] : List S26).map e26))]) (upd 2576 (.own 4 1 (x4.map VV.bool) g2576 false) (fun _ => none)))))) ?_ ?_
      · refine zz ?_
        refine brW (iP h) ?_ ?_ <;> (clear h; intro c h)
        · refine zz ?_
          try (apply Or.inl; refine And.intro (by first | rfl | exact zboolK) ?_)
          refine zz ?_
          try (apply Or.inr; refine And.intro (by first | rfl | exact zboolK) ?_)
          replace h := evT h
          refine zz ?_
          exact ⟨_, zfuel, _, _, _, _, _, _, _, _, _, g2576, h, leafFr [0, 2, 3, 4, 148] (by kernel_rfl), by kernel_rfl⟩
        refine zz ?_
        try (apply Or.inr; refine And.intro (by first | rfl | exact zboolK) ?_)
        refine zz ?_
        try (apply Or.inl; refine And.intro (by first | rfl | exact zboolK) ?_)
        replace h := evT h
        refine zz ?_
        exact ⟨_, zfuel, _, _, _, _, _, _, _, _, _, g2576, h, leafFr [0, 2, 3, 4, 148] (by kernel_rfl), by kernel_rfl⟩
      clear h; rintro _ _ ⟨k, hle, x4, x148, x1000, x1001, x1002, x529_0, x529_1, x529_2, x529_3, g2576, h, ⟨fr0, rfl⟩, rfl⟩
      rcases k with _ | k
      · exact (run_zero h).elim
      rw [run_succ, spec_l3Set.B] at h
      refine zz ?_
      refine br (iP h) ?_ ?_ <;> (clear h; intro c h)
      · replace h := evT h
        refine zz ?_
        exact ⟨_, zfuel, _, _, _, _, _, _, _, _, g2576, h, leafFr [0, 2, 3, 4] (by kernel_rfl), by kernel_rfl⟩
      replace h := evT h
      refine zz ?_
      exact ⟨_, zfuel, _, _, _, _, _, _, _, _, g2576, h, leafFr [0, 2, 3, 4] (by kernel_rfl), by kernel_rfl⟩
    clear h; rintro _ _ ⟨k, hle, x4, x1000, x1001, x1002, x529_0, x529_1, x529_2, x529_3, g2576, h, ⟨fr0, rfl⟩, rfl⟩
    rcases k with _ | k
    · exact (run_zero h).elim
    rw [run_succ, spec_l3Set.B] at h
    refine zz ?_
    refine Exists.intro (List.map (VV.int .u8) ([] : List Int)) (And.intro zrow ?_)
    replace h := evT h
    refine zz ?_
    refine loopJ [0, 16, 529, 2576, 12304] (fun kq fr hp => ∃ (x4 : List Bool) (x9 : List Int) (x10 : Int) (x1000 : ByteArray) (x1001 : Int) (x1002 : Bool) (x529_0 : Int) (x529_1 : Int) (x529_2 : ByteArray) (x529_3 : Bool) (g2576 : Nat) (g12304 : Nat), run spec_l3Set.B kq (.l2 x4 x9 x10 x1000 x1001 x1002 x529_0 x529_1 x529_2 x529_3) = some (r1, r2, r3, r4, r5, r6, r7, r8) ∧ (∃ fr0, fr = puts [(2, .one (.ptr 16 0)), (3, .one (.ptr 529 0)), (4, .one (.ref 2576 g2576)), (9, .one (.ref 12304 g12304)), (10, .one (.val (.int .i64 x10)))] fr0) ∧ hp = (upd 0 (.box [.val (.str x1000), .val (.int .i64 x1001), .val (.bool x1002)]) (upd 16 (.box [.val (.int .i64 0), .val (.int .i64 0), .val (.str (⟨#[]⟩ : ByteArray)), .val (.bool false), .nilrow]) (upd 529 (.box [.val (.int .i64 x529_0), .val (.int .i64 x529_1), .val (.str x529_2), .val (.bool x529_3), .val (.row (([] : List S26).map e26))]) (upd 2576 (.own 4 1 (x4.map VV.bool) g2576 false) (upd 12304 (.own 5 1 (x9.map (VV.int .u8)) g12304 false) (fun _ => none))))))) k ⟨_, zfuel, _, _, _, _, _, _, _, _, _, _, g2576, 0, h, leafFr [2, 3, 4, 9, 10] (by kernel_rfl), by kernel_rfl⟩ ?_
    clear h; rintro k hle _ _ ⟨x4, x9, x10, x1000, x1001, x1002, x529_0, x529_1, x529_2, x529_3, g2576, g12304, h, ⟨fr0, rfl⟩, rfl⟩
    rcases k with _ | k
    · exact (run_zero h).elim
    rw [run_succ, spec_l3Set.B] at h
    refine zz ?_
    refine br (iP h) ?_ ?_ <;> (clear h; intro c h)
    rotate_left
    · replace h := evR h; cases h
      refine zz ?_
      first | exact ⟨trivial, [], [], ⟨rfl, trivial⟩, _, rfl, _, rfl, And.intro rfl rfl⟩ | exact ⟨[], [], ⟨rfl, trivial⟩, _, rfl, _, rfl, And.intro rfl rfl⟩
    have h_ := gP h; clear h; obtain ⟨c, h⟩ := h_
    have h_ := gP h; clear h; obtain ⟨c, h⟩ := h_
    refine zz ?_
    refine br (iP h) ?_ ?_ <;> (clear h; intro c h)
    rotate_left
    · replace h := evT h
      refine zz ?_
      exact ⟨_, zfuel, _, _, _, _, _, _, _, _, _, _, g2576, g12304, h, leafFr [2, 3, 4, 9, 10] (by kernel_rfl), by kernel_rfl⟩
    refine zz ?_
    refine Exists.intro (List.map (VV.int .u8) ([((x10) % 256)] : List Int)) (And.intro zrow ?_)
    have h_ := gP h; clear h; obtain ⟨c, h⟩ := h_
    refine zz ?_
    refine Exists.intro (List.map (VV.int .u8) (x9 ++ [((x10) % 256)])) (And.intro zrow ?_)
    replace h := evT h
    refine zz ?_
    exact ⟨_, zfuel, _, _, _, _, _, _, _, _, _, _, g2576, (g12304 + 1), h, leafFr [2, 3, 4, 9, 10] (by kernel_rfl), by kernel_rfl⟩
  have h_ := gP h; clear h; obtain ⟨c, h⟩ := h_
  have h_ := gP h; clear h; obtain ⟨c, h⟩ := h_
  refine zz ?_
  refine cutJ (n := 98) [0, 16, 529, 2576] (fun fr hp => ∃ kq, kq ≤ k ∧ ∃ (x4 : List Bool) (x5 : Int) (x6 : Int) (x7 : Int) (x1000 : ByteArray) (x1001 : Int) (x1002 : Bool) (x529_0 : Int) (x529_1 : Int) (x529_2 : ByteArray) (x529_3 : Bool) (g2576 : Nat), run spec_l3Set.B kq (.j4 x4 x5 x6 x7 x1000 x1001 x1002 x529_0 x529_1 x529_2 x529_3) = some (r1, r2, r3, r4, r5, r6, r7, r8) ∧ (∃ fr0, fr = puts [(0, .one (.ptr 0 0)), (2, .one (.ptr 16 0)), (3, .one (.ptr 529 0)), (4, .one (.ref 2576 g2576)), (5, .one (.val (.int .i64 x5))), (6, .one (.val (.int .i64 x6))), (7, .one (.val (.int .i64 x7)))] fr0) ∧ hp = (upd 0 (.box [.val (.str x1000), .val (.int .i64 x1001), .val (.bool x1002)]) (upd 16 (.box [.val (.int .i64 0), .val (.int .i64 0), .val (.str (⟨#[]⟩ : ByteArray)), .val (.bool false), .nilrow]) (upd 529 (.box [.val (.int .i64 x529_0), .val (.int .i64 x529_1), .val (.str x529_2), .val (.bool x529_3), .val (.row (([] : List S26).map e26))]) (upd 2576 (.own 4 1 (x4.map VV.bool) g2576 false) (fun _ => none)))))) ?_ ?_
  · refine zz ?_
    refine cutJ (n := 200011) [0, 16, 529, 2576] (fun fr hp => ∃ kq, kq ≤ k ∧ ∃ (x4 : List Bool) (x5 : Int) (x6 : Int) (x7 : Int) (x98 : Bool) (x1000 : ByteArray) (x1001 : Int) (x1002 : Bool) (x529_0 : Int) (x529_1 : Int) (x529_2 : ByteArray) (x529_3 : Bool) (g2576 : Nat), run spec_l3Set.B kq (.j3 x4 x5 x6 x7 x98 x1000 x1001 x1002 x529_0 x529_1 x529_2 x529_3) = some (r1, r2, r3, r4, r5, r6, r7, r8) ∧ (∃ fr0, fr = puts [(0, .one (.ptr 0 0)), (2, .one (.ptr 16 0)), (3, .one (.ptr 529 0)), (4, .one (.ref 2576 g2576)), (5, .one (.val (.int .i64 x5))), (6, .one (.val (.int .i64 x6))), (7, .one (.val (.int .i64 x7))), (98, .one (.val (.bool x98)))] fr0) ∧ hp = (upd 0 (.box [.val (.str x1000), .val (.int .i64 x1001), .val (.bool x1002)]) (upd 16 (.box [.val (.int .i64 0), .val (.int .i64 0), .val (.str (⟨#[]⟩ : ByteArray)), .val (.bool false), .nilrow]) (upd 529 (.box [.val (.int .i64 x529_0), .val (.int .i64 x529_1), .val (.str x529_2), .val (.bool x529_3), .val (.row (([] : List S26).map e26))]) (upd 2576 (.own 4 1 (x4.map VV.bool) g2576 false) (fun _ => none)))))) ?_ ?_
    · refine zz ?_
      refine br (iP h) ?_ ?_ <;> (clear h; intro c h)
      rotate_left
      · refine zz ?_
        try (apply Or.inr; refine And.intro (by first | rfl | exact zboolK) ?_)
        refine zz ?_
        try (apply Or.inr; refine And.intro (by first | rfl | exact zboolK) ?_)
        refine zz ?_
        try (apply Or.inr; refine And.intro (by first | rfl | exact zboolK) ?_)
        refine zz ?_
        try (apply Or.inr; refine And.intro (by first | rfl | exact zboolK) ?_)
        refine zz ?_
        try (apply Or.inr; refine And.intro (by first | rfl | exact zboolK) ?_)
        refine zz ?_
        try (apply Or.inr; refine And.intro (by first | rfl | exact zboolK) ?_)
        refine zz ?_
        try (apply Or.inr; refine And.intro (by first | rfl | exact zboolK) ?_)
        refine zz ?_
        try (apply Or.inr; refine And.intro (by first | rfl | exact zboolK) ?_)
        refine zz ?_
        try (apply Or.inr; refine And.intro (by first | rfl | exact zboolK) ?_)
        refine zz ?_
        try (apply Or.inr; refine And.intro (by first | rfl | exact zboolK) ?_)
        refine zz ?_
        try (apply Or.inr; refine And.intro (by first | rfl | exact zboolK) ?_)
        refine zz ?_
        try (apply Or.inr; refine And.intro (by first | rfl | exact zboolK) ?_)
        refine zz ?_
        try (apply Or.inr; refine And.intro (by first | rfl | exact zboolK) ?_)
        refine zz ?_
        try (apply Or.inr; refine And.intro (by first | rfl | exact zboolK) ?_)
        refine zz ?_
        try (apply Or.inr; refine And.intro (by first | rfl | exact zboolK) ?_)
        refine zz ?_
        try (apply Or.inr; refine And.intro (by first | rfl | exact zboolK) ?_)
        refine zz ?_
        try (apply Or.inr; refine And.intro (by first | rfl | exact zboolK) ?_)
        refine zz ?_
        try (apply Or.inr; refine And.intro (by first | rfl | exact zboolK) ?_)
        refine zz ?_
        try (apply Or.inr; refine And.intro (by first | rfl | exact zboolK) ?_)
        refine zz ?_
        try (apply Or.inr; refine And.intro (by first | rfl | exact zboolK) ?_)
        refine zz ?_
        try (apply Or.inr; refine And.intro (by first | rfl | exact zboolK) ?_)
        refine zz ?_
        try (apply Or.inr; refine And.intro (by first | rfl | exact zboolK) ?_)
        replace h := evT h
        refine zz ?_
        exact ⟨_, zfuel, _, _, _, _, _, _, _, _, _, _, _, _, g2576, h, leafFr [0, 2, 3, 4, 5, 6, 7, 98] (by kernel_rfl), by kernel_rfl⟩
      refine zz ?_
      try (apply Or.inl; refine And.intro (by first | rfl | exact zboolK) ?_)
      refine zz ?_
      try (apply Or.inl; refine And.intro (by first | rfl | exact zboolK) ?_)
      refine zz ?_
      try (apply Or.inl; refine And.intro (by first | rfl | exact zboolK) ?_)
      refine zz ?_
      try (apply Or.inl; refine And.intro (by first | rfl | exact zboolK) ?_)
      refine zz ?_
      try (apply Or.inl; refine And.intro (by first | rfl | exact zboolK) ?_)
      refine zz ?_
      try (apply Or.inl; refine And.intro (by first | rfl | exact zboolK) ?_)
      refine zz ?_
      try (apply Or.inl; refine And.intro (by first | rfl | exact zboolK) ?_)
      refine zz ?_
      try (apply Or.inl; refine And.intro (by first | rfl | exact zboolK) ?_)
      have h_ := gP h; clear h; obtain ⟨c, h⟩ := h_
      have h_ := gP h; clear h; obtain ⟨c, h⟩ := h_
      refine zz ?_
      try (apply Or.inl; refine And.intro (by first | rfl | exact zboolK) ?_)
      refine zz ?_
      try (apply Or.inl; refine And.intro (by first | rfl | exact zboolK) ?_)
      refine zz ?_
      refine br (iP h) ?_ ?_ <;> (clear h; intro c h)
      rotate_left
      · refine zz ?_
        try (apply Or.inr; refine And.intro (by first | rfl | exact zboolK) ?_)
        refine zz ?_
        try (apply Or.inr; refine And.intro (by first | rfl | exact zboolK) ?_)
        refine zz ?_
        try (apply Or.inr; refine And.intro (by first | rfl | exact zboolK) ?_)
        refine zz ?_
        try (apply Or.inr; refine And.intro (by first | rfl | exact zboolK) ?_)
        refine zz ?_
        try (apply Or.inr; refine And.intro (by first | rfl | exact zboolK) ?_)
        refine zz ?_
        try (apply Or.inr; refine And.intro (by first | rfl | exact zboolK) ?_)
        refine zz ?_
        try (apply Or.inr; refine And.intro (by first | rfl | exact zboolK) ?_)
        refine zz ?_
        try (apply Or.inr; refine And.intro (by first | rfl | exact zboolK) ?_)
        refine zz ?_
        try (apply Or.inr; refine And.intro (by first | rfl | exact zboolK) ?_)
        refine zz ?_
        try (apply Or.inr; refine And.intro (by first | rfl | exact zboolK) ?_)
        refine zz ?_
        try (apply Or.inr; refine And.intro (by first | rfl | exact zboolK) ?_)
        replace h := evT h
        refine zz ?_
        exact ⟨_, zfuel, _, _, _, _, _, _, _, _, _, _, _, _, g2576, h, leafFr [0, 2, 3, 4, 5, 6, 7, 98] (by kernel_rfl), by kernel_rfl⟩
      refine zz ?_
      try (apply Or.inl; refine And.intro (by first | rfl | exact zboolK) ?_)
      refine zz ?_
      try (apply Or.inl; refine And.intro (by first | rfl | exact zboolK) ?_)
      refine zz ?_
      try (apply Or.inl; refine And.intro (by first | rfl | exact zboolK) ?_)
      refine zz ?_
      try (apply Or.inl; refine And.intro (by first | rfl | exact zboolK) ?_)
      refine zz ?_
      try (apply Or.inl; refine And.intro (by first | rfl | exact zboolK) ?_)
      refine zz ?_
      try (apply Or.inl; refine And.intro (by first | rfl | exact zboolK) ?_)
      refine zz ?_
      try (apply Or.inl; refine And.intro (by first | rfl | exact zboolK) ?_)
      refine zz ?_
      try (apply Or.inl; refine And.intro (by first | rfl | exact zboolK) ?_)
      refine zz ?_
      try (apply Or.inl; refine And.intro (by first | rfl | exact zboolK) ?_)
      have h_ := gP h; clear h; obtain ⟨c, h⟩ := h_
      refine zz ?_
      try (apply Or.inl; refine And.intro (by first | rfl | exact zboolK) ?_)
      refine zz ?_
      try (apply Or.inl; refine And.intro (by first | rfl | exact zboolK) ?_)
      replace h := evT h
      refine zz ?_
      exact ⟨_, zfuel, _, _, _, _, _, _, _, _, _, _, _, _, g2576, h, leafFr [0, 2, 3, 4, 5, 6, 7, 98] (by kernel_rfl), by kernel_rfl⟩
    clear h; rintro _ _ ⟨k, hle, x4, x5, x6, x7, x98, x1000, x1001, x1002, x529_0, x529_1, x529_2, x529_3, g2576, h, ⟨fr0, rfl⟩, rfl⟩
    rcases k with _ | k
    · exact (run_zero h).elim
    rw [run_succ, spec_l3Set.B] at h
    refine zz ?_
    refine br (iP h) ?_ ?_ <;> (clear h; intro c h)
    rotate_left
    · replace h := evT h
      refine zz ?_
      exact ⟨_, zfuel, _, _, _, _, _, _, _, _, _, _, _, g2576, h, leafFr [0, 2, 3, 4, 5, 6, 7] (by kernel_rfl), by kernel_rfl⟩
    have h_ := gP h; clear h; obtain ⟨c, h⟩ := h_
    have h_ := gP h; clear h; obtain ⟨c, h⟩ := h_
    replace h := evT h
    refine zz ?_
    exact ⟨_, zfuel, _, _, _, _, _, _, _, _, _, _, _, g2576, h, leafFr [0, 2, 3, 4, 5, 6, 7] (by kernel_rfl), by kernel_rfl⟩
  clear h; rintro _ _ ⟨k, hle, x4, x5, x6, x7, x1000, x1001, x1002, x529_0, x529_1, x529_2, x529_3, g2576, h, ⟨fr0, rfl⟩, rfl⟩
  rcases k with _ | k
  · exact (run_zero h).elim
  rw [run_succ, spec_l3Set.B] at h
  refine zz ?_
  refine cutJ (n := 120) [0, 16, 529, 2576] (fun fr hp => ∃ kq, kq ≤ k ∧ ∃ (x4 : List Bool) (x5 : Int) (x6 : Int) (x7 : Int) (x1000 : ByteArray) (x1001 : Int) (x1002 : Bool) (x529_0 : Int) (x529_1 : Int) (x529_2 : ByteArray) (x529_3 : Bool) (g2576 : Nat), run spec_l3Set.B kq (.j5 x4 x5 x6 x7 x1000 x1001 x1002 x529_0 x529_1 x529_2 x529_3) = some (r1, r2, r3, r4, r5, r6, r7, r8) ∧ (∃ fr0, fr = puts [(0, .one (.ptr 0 0)), (2, .one (.ptr 16 0)), (3, .one (.ptr 529 0)), (4, .one (.ref 2576 g2576)), (5, .one (.val (.int .i64 x5))), (6, .one (.val (.int .i64 x6))), (7, .one (.val (.int .i64 x7)))] fr0) ∧ hp = (upd 0 (.box [.val (.str x1000), .val (.int .i64 x1001), .val (.bool x1002)]) (upd 16 (.box [.val (.int .i64 0), .val (.int .i64 0), .val (.str (⟨#[]⟩ : ByteArray)), .val (.bool false), .nilrow]) (upd 529 (.box [.val (.int .i64 x529_0), .val (.int .i64 x529_1), .val (.str x529_2), .val (.bool x529_3), .val (.row (([] : List S26).map e26))]) (upd 2576 (.own 4 1 (x4.map VV.bool) g2576 false) (fun _ => none)))))) ?_ ?_
  · refine zz ?_
    refine br (iP h) ?_ ?_ <;> (clear h; intro c h)
    · replace h := evT h
      refine zz ?_
      exact ⟨_, zfuel, _, _, _, _, _, _, _, _, _, _, _, g2576, h, leafFr [0, 2, 3, 4, 5, 6, 7] (by kernel_rfl), by kernel_rfl⟩
    replace h := evT h
    refine zz ?_
    exact ⟨_, zfuel, _, _, _, _, _, _, _, _, _, _, _, g2576, h, leafFr [0, 2, 3, 4, 5, 6, 7] (by kernel_rfl), by kernel_rfl⟩
  clear h; rintro _ _ ⟨k, hle, x4, x5, x6, x7, x1000, x1001, x1002, x529_0, x529_1, x529_2, x529_3, g2576, h, ⟨fr0, rfl⟩, rfl⟩
  rcases k with _ | k
  · exact (run_zero h).elim
  rw [run_succ, spec_l3Set.B] at h
  replace h := evT h
  refine zz ?_
  refine loopJ [0, 16, 529, 2576] (fun kq fr hp => ∃ (x4 : List Bool) (x5 : Int) (x7 : Int) (x8 : Int) (x1000 : ByteArray) (x1001 : Int) (x1002 : Bool) (x529_0 : Int) (x529_1 : Int) (x529_2 : ByteArray) (x529_3 : Bool) (g2576 : Nat), run spec_l3Set.B kq (.l1 x4 x5 x7 x8 x1000 x1001 x1002 x529_0 x529_1 x529_2 x529_3) = some (r1, r2, r3, r4, r5, r6, r7, r8) ∧ (∃ fr0, fr = puts [(0, .one (.ptr 0 0)), (2, .one (.ptr 16 0)), (3, .one (.ptr 529 0)), (4, .one (.ref 2576 g2576)), (5, .one (.val (.int .i64 x5))), (7, .one (.val (.int .i64 x7))), (8, .one (.val (.int .i64 x8)))] fr0) ∧ hp = (upd 0 (.box [.val (.str x1000), .val (.int .i64 x1001), .val (.bool x1002)]) (upd 16 (.box [.val (.int .i64 0), .val (.int .i64 0), .val (.str (⟨#[]⟩ : ByteArray)), .val (.bool false), .nilrow]) (upd 529 (.box [.val (.int .i64 x529_0), .val (.int .i64 x529_1), .val (.str x529_2), .val (.bool x529_3), .val (.row (([] : List S26).map e26))]) (upd 2576 (.own 4 1 (x4.map VV.bool) g2576 false) (fun _ => none)))))) k ⟨_, zfuel, _, _, _, _, _, _, _, _, _, _, _, g2576, h, leafFr [0, 2, 3, 4, 5, 7, 8] (by kernel_rfl), by kernel_rfl⟩ ?_
  clear h; rintro k hle _ _ ⟨x4, x5, x7, x8, x1000, x1001, x1002, x529_0, x529_1, x529_2, x529_3, g2576, h, ⟨fr0, rfl⟩, rfl⟩
  rcases k with _ | k
  · exact (run_zero h).elim
  rw [run_succ, spec_l3Set.B] at h
  refine zz ?_
  refine br (iP h) ?_ ?_ <;> (clear h; intro c h)
  rotate_left
  · replace h := evT h
    refine zz ?_
    exact ⟨_, zfuel, _, _, _, _, _, _, _, _, _, g2576, h, leafFr [0, 2, 3, 4, 5] (by kernel_rfl), by kernel_rfl⟩
  have h_ := gP h; clear h; obtain ⟨c, h⟩ := h_
  have h_ := gP h; clear h; obtain ⟨c, h⟩ := h_
  refine zz ?_
  refine Exists.intro (List.map VV.bool (x4.set (x8 : Int).toNat true)) (And.intro zrow ?_)
  replace h := evT h
  refine zz ?_
  exact ⟨_, zfuel, _, _, _, _, _, _, _, _, _, _, _, g2576, h, leafFr [0, 2, 3, 4, 5, 7, 8] (by kernel_rfl), by kernel_rfl⟩
end Go.Proofs.Ytfdpehmefgfjgaa.TFnBrackets
