/- The walks of the functions that FnExactCheck reaches, through the abstract machine. -/
import Derived.Test.YthgglepiopijjaaGreatAFnExactCheckh
import Derived.Test.YthgglepiopijjaaGreatAFnExactCheckx0
import Derived.Test.YthgglepiopijjaaGreatAFnExactCheckx1
import Derived.Test.YthgglepiopijjaaGreatFFnExactCheck
import Derived.Test.YthgglepiopijjaaGreatProg
set_option maxHeartbeats 4000000
set_option maxRecDepth 100000
set_option linter.unusedVariables false
set_option linter.unusedSimpArgs false
namespace Go.Proofs.YthgglepiopijjaaGreat.TFnExactCheck
open Go Go.RowKit Go.Proofs Go.Proofs.YthgglepiopijjaaGreatW.AM Go.Proofs.YthgglepiopijjaaGreat.QFnExactCheck Go.Proofs.YthgglepiopijjaaGreatW.PrintWords Go.Proofs.YthgglepiopijjaaGreatW.Pgs
variable {m_ : Int}
theorem spec_Tidy_ev (l0 : List S40) (r : Bool) (h : spec_Tidy.fv l0 = some r) : CE (G m_) 10 [.val (.row (l0.map e40))] [] [.val (.bool r)] [] := by
  obtain ⟨k, h⟩ := lim_ex h
  refine CE.mk ⟨Tryz.f10, _, rfl, rfl, ⟨by kernel_rfl, Nat.le_of_ble_eq_true rfl, Nat.le_of_ble_eq_true rfl⟩, ?_⟩
  rcases k with _ | k
  · exact (run_zero h).elim
  rw [run_succ, spec_Tidy.B] at h
  replace h := evT h
  refine zz ?_
  refine loopJ [] (fun kq fr hp => ∃ (x0 : List S40) (x3 : Int), run spec_Tidy.B kq (.l0 x0 x3) = some r ∧ (∃ fr0, fr = puts [(0, .one (.val (.row (x0.map e40)))), (3, .one (.val (.int .i64 x3)))] fr0) ∧ hp = (fun _ => none)) k ⟨_, zfuel, _, _, h, leafFr [0, 3] (by kernel_rfl), by kernel_rfl⟩ ?_
  clear h; rintro k hle _ _ ⟨x0, x3, h, ⟨fr0, rfl⟩, rfl⟩
  rcases k with _ | k
  · exact (run_zero h).elim
  rw [run_succ, spec_Tidy.B] at h
  refine zz ?_
  refine br (iP h) ?_ ?_ <;> (clear h; intro c h)
  rotate_left
  · replace h := evR h; cases h
    refine zz ?_
    first | exact ⟨trivial, [], [], ⟨rfl, trivial⟩, _, rfl, _, rfl, And.intro rfl rfl⟩ | exact ⟨[], [], ⟨rfl, trivial⟩, _, rfl, _, rfl, And.intro rfl rfl⟩
  have h_ := gP h; clear h; obtain ⟨c, h⟩ := h_
  refine zz ?_
  refine cutJ (n := 200005) [2068] (fun fr hp => ∃ kq, kq ≤ k ∧ ∃ (x0 : List S40) (x3 : Int) (x5 : Bool) (x2068_0 : Int) (x2068_1 : Int) (x2068_2 : Int) (x2068_3 : ByteArray) (x2068_4 : List S38) (x2068_5 : Int) (x2068_6 : Int) (x2068_7 : ByteArray) (x2068_8 : List S38), run spec_Tidy.B kq (.j1 x0 x3 x5 x2068_0 x2068_1 x2068_2 x2068_3 x2068_4 x2068_5 x2068_6 x2068_7 x2068_8) = some r ∧ (∃ fr0, fr = puts [(0, .one (.val (.row (x0.map e40)))), (3, .one (.val (.int .i64 x3))), (4, .one (.ptr 2068 0)), (5, .one (.val (.bool x5)))] fr0) ∧ hp = (upd 2068 (.box [.val (.int .i64 x2068_0), .val (.int .i64 x2068_1), .val (.int .i64 x2068_2), .val (.str x2068_3), .val (.row (x2068_4.map e38)), .val (.int .i64 x2068_5), .val (.int .i64 x2068_6), .val (.str x2068_7), .val (.row (x2068_8.map e38))]) (fun _ => none))) ?_ ?_
  · refine zz ?_
    refine br (iP h) ?_ ?_ <;> (clear h; intro c h)
    rotate_left
    · refine zz ?_
      try (apply Or.inr; refine zK ?_)
      refine zz ?_
      try (apply Or.inr; refine zK ?_)
      refine zz ?_
      try (apply Or.inr; refine zK ?_)
      refine zz ?_
      try (apply Or.inr; refine zK ?_)
      refine zz ?_
      try (apply Or.inr; refine zK ?_)
      refine zz ?_
      try (apply Or.inr; refine zK ?_)
      refine zz ?_
      try (apply Or.inr; refine zK ?_)
      refine zz ?_
      try (apply Or.inr; refine zK ?_)
      refine zz ?_
      try (apply Or.inr; refine zK ?_)
      refine zz ?_
      try (apply Or.inr; refine zK ?_)
      refine zz ?_
      try (apply Or.inr; refine zK ?_)
      refine zz ?_
      try (apply Or.inr; refine zK ?_)
      refine zz ?_
      try (apply Or.inr; refine zK ?_)
      refine zz ?_
      try (apply Or.inr; refine zK ?_)
      refine zz ?_
      try (apply Or.inr; refine zK ?_)
      replace h := evT h
      refine zz ?_
      exact ⟨_, zfuel, _, _, _, _, _, _, _, _, _, _, _, _, h, leafFr [0, 3, 4, 5] (by kernel_rfl), by kernel_rfl⟩
    refine zz ?_
    try (apply Or.inl; refine zK ?_)
    refine zz ?_
    try (apply Or.inl; refine zK ?_)
    refine zz ?_
    try (apply Or.inl; refine zK ?_)
    refine zz ?_
    try (apply Or.inl; refine zK ?_)
    refine zz ?_
    refine br (iP h) ?_ ?_ <;> (clear h; intro c h)
    rotate_left
    · refine zz ?_
      try (apply Or.inr; refine zK ?_)
      refine zz ?_
      try (apply Or.inr; refine zK ?_)
      refine zz ?_
      try (apply Or.inr; refine zK ?_)
      refine zz ?_
      try (apply Or.inr; refine zK ?_)
      refine zz ?_
      try (apply Or.inr; refine zK ?_)
      refine zz ?_
      try (apply Or.inr; refine zK ?_)
      refine zz ?_
      try (apply Or.inr; refine zK ?_)
      refine zz ?_
      try (apply Or.inr; refine zK ?_)
      refine zz ?_
      try (apply Or.inr; refine zK ?_)
      refine zz ?_
      try (apply Or.inr; refine zK ?_)
      replace h := evT h
      refine zz ?_
      exact ⟨_, zfuel, _, _, _, _, _, _, _, _, _, _, _, _, h, leafFr [0, 3, 4, 5] (by kernel_rfl), by kernel_rfl⟩
    refine zz ?_
    try (apply Or.inl; refine zK ?_)
    refine zz ?_
    try (apply Or.inl; refine zK ?_)
    refine zz ?_
    try (apply Or.inl; refine zK ?_)
    refine zz ?_
    try (apply Or.inl; refine zK ?_)
    refine zz ?_
    refine br (iP h) ?_ ?_ <;> (clear h; intro c h)
    · refine zz ?_
      try (apply Or.inl; refine zK ?_)
      refine zz ?_
      try (apply Or.inl; refine zK ?_)
      refine zz ?_
      try (apply Or.inl; refine zK ?_)
      refine zz ?_
      try (apply Or.inl; refine zK ?_)
      refine zz ?_
      try (apply Or.inl; refine zK ?_)
      replace h := evT h
      refine zz ?_
      exact ⟨_, zfuel, _, _, _, _, _, _, _, _, _, _, _, _, h, leafFr [0, 3, 4, 5] (by kernel_rfl), by kernel_rfl⟩
    refine zz ?_
    try (apply Or.inr; refine zK ?_)
    refine zz ?_
    try (apply Or.inr; refine zK ?_)
    refine zz ?_
    try (apply Or.inr; refine zK ?_)
    refine zz ?_
    try (apply Or.inr; refine zK ?_)
    refine zz ?_
    try (apply Or.inr; refine zK ?_)
    replace h := evT h
    refine zz ?_
    exact ⟨_, zfuel, _, _, _, _, _, _, _, _, _, _, _, _, h, leafFr [0, 3, 4, 5] (by kernel_rfl), by kernel_rfl⟩
  clear h; rintro _ _ ⟨k, hle, x0, x3, x5, x2068_0, x2068_1, x2068_2, x2068_3, x2068_4, x2068_5, x2068_6, x2068_7, x2068_8, h, ⟨fr0, rfl⟩, rfl⟩
  rcases k with _ | k
  · exact (run_zero h).elim
  rw [run_succ, spec_Tidy.B] at h
  refine zz ?_
  refine cutJ (n := 200006) [2068] (fun fr hp => ∃ kq, kq ≤ k ∧ ∃ (x0 : List S40) (x3 : Int) (x6 : Bool) (x2068_0 : Int) (x2068_1 : Int) (x2068_2 : Int) (x2068_3 : ByteArray) (x2068_4 : List S38) (x2068_5 : Int) (x2068_6 : Int) (x2068_7 : ByteArray) (x2068_8 : List S38), run spec_Tidy.B kq (.j2 x0 x3 x6 x2068_0 x2068_1 x2068_2 x2068_3 x2068_4 x2068_5 x2068_6 x2068_7 x2068_8) = some r ∧ (∃ fr0, fr = puts [(0, .one (.val (.row (x0.map e40)))), (3, .one (.val (.int .i64 x3))), (4, .one (.ptr 2068 0)), (6, .one (.val (.bool x6)))] fr0) ∧ hp = (upd 2068 (.box [.val (.int .i64 x2068_0), .val (.int .i64 x2068_1), .val (.int .i64 x2068_2), .val (.str x2068_3), .val (.row (x2068_4.map e38)), .val (.int .i64 x2068_5), .val (.int .i64 x2068_6), .val (.str x2068_7), .val (.row (x2068_8.map e38))]) (fun _ => none))) ?_ ?_
  · have h_ := evO h; clear h; obtain ⟨t42, ht, h⟩ := h_
    refine zz ?_
    refine Exists.intro _ (And.intro (spec_l1In_ev (h := ht)) ?_)
    refine zz ?_
    refine br (iP h) ?_ ?_ <;> (clear h; intro c h)
    rotate_left
    · refine zz ?_
      try (apply Or.inr; refine zK ?_)
      refine zz ?_
      try (apply Or.inl; refine zK ?_)
      refine zz ?_
      try (apply Or.inl; refine zK ?_)
      refine zz ?_
      try (apply Or.inl; refine zK ?_)
      refine zz ?_
      try (apply Or.inl; refine zK ?_)
      refine zz ?_
      refine br (iP h) ?_ ?_ <;> (clear h; intro c h)
      rotate_left
      · refine zz ?_
        try (apply Or.inr; refine zK ?_)
        refine zz ?_
        try (apply Or.inr; refine zK ?_)
        refine zz ?_
        try (apply Or.inr; refine zK ?_)
        refine zz ?_
        try (apply Or.inl; refine zK ?_)
        refine zz ?_
        try (apply Or.inr; refine zK ?_)
        refine zz ?_
        try (apply Or.inl; refine zK ?_)
        refine zz ?_
        try (apply Or.inr; refine zK ?_)
        refine zz ?_
        try (apply Or.inr; refine zK ?_)
        refine zz ?_
        try (apply Or.inr; refine zK ?_)
        refine zz ?_
        try (apply Or.inl; refine zK ?_)
        refine zz ?_
        try (apply Or.inr; refine zK ?_)
        refine zz ?_
        try (apply Or.inl; refine zK ?_)
        refine zz ?_
        try (apply Or.inr; refine zK ?_)
        refine zz ?_
        try (apply Or.inr; refine zK ?_)
        refine zz ?_
        try (apply Or.inr; refine zK ?_)
        refine zz ?_
        try (apply Or.inr; refine zK ?_)
        refine zz ?_
        try (apply Or.inl; refine zK ?_)
        refine zz ?_
        try (apply Or.inr; refine zK ?_)
        refine zz ?_
        try (apply Or.inr; refine zK ?_)
        replace h := evT h
        refine zz ?_
        exact ⟨_, zfuel, _, _, _, _, _, _, _, _, _, _, _, _, h, leafFr [0, 3, 4, 6] (by kernel_rfl), by kernel_rfl⟩
      refine zz ?_
      try (apply Or.inl; refine zK ?_)
      refine zz ?_
      try (apply Or.inl; refine zK ?_)
      refine zz ?_
      try (apply Or.inl; refine zK ?_)
      have h_ := evO h; clear h; obtain ⟨t54, ht, h⟩ := h_
      refine zz ?_
      refine Exists.intro _ (And.intro (spec_l9IsE_ev (h := ht)) ?_)
      refine zz ?_
      try (apply Or.inl; refine zK ?_)
      refine zz ?_
      try (apply Or.inl; refine zK ?_)
      refine zz ?_
      try (apply Or.inl; refine zK ?_)
      refine zz ?_
      refine br (iP h) ?_ ?_ <;> (clear h; intro c h)
      rotate_left
      · refine zz ?_
        try (apply Or.inr; refine zK ?_)
        refine zz ?_
        try (apply Or.inr; refine zK ?_)
        refine zz ?_
        try (apply Or.inl; refine zK ?_)
        refine zz ?_
        try (apply Or.inr; refine zK ?_)
        refine zz ?_
        try (apply Or.inl; refine zK ?_)
        refine zz ?_
        try (apply Or.inr; refine zK ?_)
        refine zz ?_
        try (apply Or.inr; refine zK ?_)
        refine zz ?_
        try (apply Or.inr; refine zK ?_)
        refine zz ?_
        try (apply Or.inr; refine zK ?_)
        refine zz ?_
        try (apply Or.inl; refine zK ?_)
        refine zz ?_
        try (apply Or.inr; refine zK ?_)
        refine zz ?_
        try (apply Or.inr; refine zK ?_)
        replace h := evT h
        refine zz ?_
        exact ⟨_, zfuel, _, _, _, _, _, _, _, _, _, _, _, _, h, leafFr [0, 3, 4, 6] (by kernel_rfl), by kernel_rfl⟩
      refine zz ?_
      try (apply Or.inl; refine zK ?_)
      refine zz ?_
      try (apply Or.inl; refine zK ?_)
      have h_ := evO h; clear h; obtain ⟨t59, ht, h⟩ := h_
      refine zz ?_
      refine Exists.intro _ (And.intro (spec_l9Node_ev (h := ht)) ?_)
      refine zz ?_
      try (apply Or.inl; refine zK ?_)
      refine zz ?_
      try (apply Or.inl; refine zK ?_)
      refine zz ?_
      try (apply Or.inl; refine zK ?_)
      refine zz ?_
      refine br (iP h) ?_ ?_ <;> (clear h; intro c h)
      rotate_left
      · refine zz ?_
        try (apply Or.inr; refine zK ?_)
        refine zz ?_
        try (apply Or.inr; refine zK ?_)
        refine zz ?_
        try (apply Or.inr; refine zK ?_)
        refine zz ?_
        try (apply Or.inl; refine zK ?_)
        refine zz ?_
        try (apply Or.inr; refine zK ?_)
        refine zz ?_
        try (apply Or.inr; refine zK ?_)
        replace h := evT h
        refine zz ?_
        exact ⟨_, zfuel, _, _, _, _, _, _, _, _, _, _, _, _, h, leafFr [0, 3, 4, 6] (by kernel_rfl), by kernel_rfl⟩
      refine zz ?_
      try (apply Or.inl; refine zK ?_)
      refine zz ?_
      try (apply Or.inl; refine zK ?_)
      have h_ := evO h; clear h; obtain ⟨t64, ht, h⟩ := h_
      refine zz ?_
      refine Exists.intro _ (And.intro (spec_Deep_ev (h := ht)) ?_)
      refine zz ?_
      try (apply Or.inl; refine zK ?_)
      refine zz ?_
      try (apply Or.inl; refine zK ?_)
      refine zz ?_
      try (apply Or.inl; refine zK ?_)
      refine zz ?_
      try (apply Or.inr; refine zK ?_)
      replace h := evT h
      refine zz ?_
      exact ⟨_, zfuel, _, _, _, _, _, _, _, _, _, _, _, _, h, leafFr [0, 3, 4, 6] (by kernel_rfl), by kernel_rfl⟩
    refine zz ?_
    try (apply Or.inl; refine zK ?_)
    refine zz ?_
    refine brW (iP h) ?_ ?_ <;> (clear h; intro c h)
    rotate_left
    · refine zz ?_
      try (apply Or.inr; refine zK ?_)
      refine zz ?_
      try (apply Or.inr; refine zK ?_)
      refine zz ?_
      try (apply Or.inr; refine zK ?_)
      refine zz ?_
      try (apply Or.inr; refine zK ?_)
      refine zz ?_
      try (apply Or.inr; refine zK ?_)
      refine zz ?_
      try (apply Or.inr; refine zK ?_)
      refine zz ?_
      try (apply Or.inr; refine zK ?_)
      refine zz ?_
      try (apply Or.inr; refine zK ?_)
      refine zz ?_
      try (apply Or.inl; refine zK ?_)
      replace h := evT h
      refine zz ?_
      exact ⟨_, zfuel, _, _, _, _, _, _, _, _, _, _, _, _, h, leafFr [0, 3, 4, 6] (by kernel_rfl), by kernel_rfl⟩
    refine zz ?_
    try (apply Or.inl; refine zK ?_)
    refine zz ?_
    try (apply Or.inl; refine zK ?_)
    refine zz ?_
    try (apply Or.inl; refine zK ?_)
    refine zz ?_
    refine br (iP h) ?_ ?_ <;> (clear h; intro c h)
    rotate_left
    · refine zz ?_
      try (apply Or.inr; refine zK ?_)
      refine zz ?_
      try (apply Or.inr; refine zK ?_)
      refine zz ?_
      try (apply Or.inr; refine zK ?_)
      refine zz ?_
      try (apply Or.inl; refine zK ?_)
      refine zz ?_
      try (apply Or.inr; refine zK ?_)
      refine zz ?_
      try (apply Or.inl; refine zK ?_)
      refine zz ?_
      try (apply Or.inr; refine zK ?_)
      refine zz ?_
      try (apply Or.inr; refine zK ?_)
      refine zz ?_
      try (apply Or.inr; refine zK ?_)
      refine zz ?_
      try (apply Or.inl; refine zK ?_)
      refine zz ?_
      try (apply Or.inr; refine zK ?_)
      refine zz ?_
      try (apply Or.inl; refine zK ?_)
      refine zz ?_
      try (apply Or.inr; refine zK ?_)
      refine zz ?_
      try (apply Or.inr; refine zK ?_)
      refine zz ?_
      try (apply Or.inr; refine zK ?_)
      refine zz ?_
      try (apply Or.inr; refine zK ?_)
      refine zz ?_
      try (apply Or.inl; refine zK ?_)
      refine zz ?_
      try (apply Or.inr; refine zK ?_)
      refine zz ?_
      try (apply Or.inr; refine zK ?_)
      replace h := evT h
      refine zz ?_
      exact ⟨_, zfuel, _, _, _, _, _, _, _, _, _, _, _, _, h, leafFr [0, 3, 4, 6] (by kernel_rfl), by kernel_rfl⟩
    refine zz ?_
    try (apply Or.inl; refine zK ?_)
    refine zz ?_
    try (apply Or.inl; refine zK ?_)
    refine zz ?_
    try (apply Or.inl; refine zK ?_)
    have h_ := evO h; clear h; obtain ⟨t54, ht, h⟩ := h_
    refine zz ?_
    refine Exists.intro _ (And.intro (spec_l9IsE_ev (h := ht)) ?_)
    refine zz ?_
    try (apply Or.inl; refine zK ?_)
    refine zz ?_
    try (apply Or.inl; refine zK ?_)
    refine zz ?_
    try (apply Or.inl; refine zK ?_)
    refine zz ?_
    refine br (iP h) ?_ ?_ <;> (clear h; intro c h)
    rotate_left
    · refine zz ?_
      try (apply Or.inr; refine zK ?_)
      refine zz ?_
      try (apply Or.inr; refine zK ?_)
      refine zz ?_
      try (apply Or.inl; refine zK ?_)
      refine zz ?_
      try (apply Or.inr; refine zK ?_)
      refine zz ?_
      try (apply Or.inl; refine zK ?_)
      refine zz ?_
      try (apply Or.inr; refine zK ?_)
      refine zz ?_
      try (apply Or.inr; refine zK ?_)
      refine zz ?_
      try (apply Or.inr; refine zK ?_)
      refine zz ?_
      try (apply Or.inr; refine zK ?_)
      refine zz ?_
      try (apply Or.inl; refine zK ?_)
      refine zz ?_
      try (apply Or.inr; refine zK ?_)
      refine zz ?_
      try (apply Or.inr; refine zK ?_)
      replace h := evT h
      refine zz ?_
      exact ⟨_, zfuel, _, _, _, _, _, _, _, _, _, _, _, _, h, leafFr [0, 3, 4, 6] (by kernel_rfl), by kernel_rfl⟩
    refine zz ?_
    try (apply Or.inl; refine zK ?_)
    refine zz ?_
    try (apply Or.inl; refine zK ?_)
    have h_ := evO h; clear h; obtain ⟨t59, ht, h⟩ := h_
    refine zz ?_
    refine Exists.intro _ (And.intro (spec_l9Node_ev (h := ht)) ?_)
    refine zz ?_
    try (apply Or.inl; refine zK ?_)
    refine zz ?_
    try (apply Or.inl; refine zK ?_)
    refine zz ?_
    try (apply Or.inl; refine zK ?_)
    refine zz ?_
    refine br (iP h) ?_ ?_ <;> (clear h; intro c h)
    rotate_left
    · refine zz ?_
      try (apply Or.inr; refine zK ?_)
      refine zz ?_
      try (apply Or.inr; refine zK ?_)
      refine zz ?_
      try (apply Or.inr; refine zK ?_)
      refine zz ?_
      try (apply Or.inl; refine zK ?_)
      refine zz ?_
      try (apply Or.inr; refine zK ?_)
      refine zz ?_
      try (apply Or.inr; refine zK ?_)
      replace h := evT h
      refine zz ?_
      exact ⟨_, zfuel, _, _, _, _, _, _, _, _, _, _, _, _, h, leafFr [0, 3, 4, 6] (by kernel_rfl), by kernel_rfl⟩
    refine zz ?_
    try (apply Or.inl; refine zK ?_)
    refine zz ?_
    try (apply Or.inl; refine zK ?_)
    have h_ := evO h; clear h; obtain ⟨t64, ht, h⟩ := h_
    refine zz ?_
    refine Exists.intro _ (And.intro (spec_Deep_ev (h := ht)) ?_)
    refine zz ?_
    try (apply Or.inl; refine zK ?_)
    refine zz ?_
    try (apply Or.inl; refine zK ?_)
    refine zz ?_
    try (apply Or.inl; refine zK ?_)
    refine zz ?_
    try (apply Or.inr; refine zK ?_)
    replace h := evT h
    refine zz ?_
    exact ⟨_, zfuel, _, _, _, _, _, _, _, _, _, _, _, _, h, leafFr [0, 3, 4, 6] (by kernel_rfl), by kernel_rfl⟩
  clear h; rintro _ _ ⟨k, hle, x0, x3, x6, x2068_0, x2068_1, x2068_2, x2068_3, x2068_4, x2068_5, x2068_6, x2068_7, x2068_8, h, ⟨fr0, rfl⟩, rfl⟩
  rcases k with _ | k
  · exact (run_zero h).elim
  rw [run_succ, spec_Tidy.B] at h
  refine zz ?_
  refine brX (iP h) ?_ ?_ <;> (clear h; intro c h)
  rotate_left
  · refine zz ?_
    try (apply Or.inr; refine zK ?_)
    refine zz ?_
    try (apply Or.inr; refine zK ?_)
    refine zz ?_
    try (apply Or.inr; refine zK ?_)
    refine zz ?_
    try (apply Or.inl; refine zK ?_)
    refine zz ?_
    try (apply Or.inr; refine zK ?_)
    refine zz ?_
    try (apply Or.inr; refine zK ?_)
    refine zz ?_
    try (apply Or.inr; refine zK ?_)
    refine zz ?_
    try (apply Or.inr; refine zK ?_)
    refine zz ?_
    try (apply Or.inl; refine zK ?_)
    refine zz ?_
    try (apply Or.inr; refine zK ?_)
    refine zz ?_
    try (apply Or.inr; refine zK ?_)
    refine zz ?_
    try (apply Or.inr; refine zK ?_)
    refine zz ?_
    try (apply Or.inr; refine zK ?_)
    refine zz ?_
    try (apply Or.inl; refine zK ?_)
    refine zz ?_
    try (apply Or.inl; refine zK ?_)
    replace h := evR h; cases h
    refine zz ?_
    first | exact ⟨trivial, [], [], ⟨rfl, trivial⟩, _, rfl, _, rfl, And.intro rfl rfl⟩ | exact ⟨[], [], ⟨rfl, trivial⟩, _, rfl, _, rfl, And.intro rfl rfl⟩
  refine zz ?_
  try (apply Or.inl; refine zK ?_)
  refine zz ?_
  try (apply Or.inl; refine zK ?_)
  refine zz ?_
  try (apply Or.inl; refine zK ?_)
  refine zz ?_
  try (apply Or.inr; refine zK ?_)
  refine zz ?_
  refine brX (iP h) ?_ ?_ <;> (clear h; intro c h)
  rotate_left
  · refine zz ?_
    try (apply Or.inr; refine zK ?_)
    refine zz ?_
    try (apply Or.inr; refine zK ?_)
    refine zz ?_
    try (apply Or.inr; refine zK ?_)
    refine zz ?_
    try (apply Or.inl; refine zK ?_)
    refine zz ?_
    try (apply Or.inr; refine zK ?_)
    refine zz ?_
    try (apply Or.inr; refine zK ?_)
    refine zz ?_
    try (apply Or.inr; refine zK ?_)
    refine zz ?_
    try (apply Or.inr; refine zK ?_)
    refine zz ?_
    try (apply Or.inl; refine zK ?_)
    refine zz ?_
    try (apply Or.inl; refine zK ?_)
    replace h := evR h; cases h
    refine zz ?_
    first | exact ⟨trivial, [], [], ⟨rfl, trivial⟩, _, rfl, _, rfl, And.intro rfl rfl⟩ | exact ⟨[], [], ⟨rfl, trivial⟩, _, rfl, _, rfl, And.intro rfl rfl⟩
  refine zz ?_
  try (apply Or.inl; refine zK ?_)
  refine zz ?_
  try (apply Or.inl; refine zK ?_)
  have h_ := evO h; clear h; obtain ⟨t79, ht, h⟩ := h_
  refine zz ?_
  refine Exists.intro _ (And.intro (spec_Deep_ev (h := ht)) ?_)
  refine zz ?_
  try (apply Or.inl; refine zK ?_)
  refine zz ?_
  try (apply Or.inr; refine zK ?_)
  refine zz ?_
  refine brW (iP h) ?_ ?_ <;> (clear h; intro c h)
  rotate_left
  · refine zz ?_
    try (apply Or.inr; refine zK ?_)
    refine zz ?_
    try (apply Or.inr; refine zK ?_)
    refine zz ?_
    try (apply Or.inr; refine zK ?_)
    refine zz ?_
    try (apply Or.inl; refine zK ?_)
    refine zz ?_
    try (apply Or.inl; refine zK ?_)
    replace h := evR h; cases h
    refine zz ?_
    first | exact ⟨trivial, [], [], ⟨rfl, trivial⟩, _, rfl, _, rfl, And.intro rfl rfl⟩ | exact ⟨[], [], ⟨rfl, trivial⟩, _, rfl, _, rfl, And.intro rfl rfl⟩
  refine zz ?_
  try (apply Or.inl; refine zK ?_)
  refine zz ?_
  try (apply Or.inl; refine zK ?_)
  have h_ := evO h; clear h; obtain ⟨t85, ht, h⟩ := h_
  refine zz ?_
  refine Exists.intro _ (And.intro (spec_l9Node_ev (h := ht)) ?_)
  refine zz ?_
  try (apply Or.inl; refine zK ?_)
  refine zz ?_
  try (apply Or.inr; refine zK ?_)
  refine zz ?_
  refine brN (iP h) ?_ ?_ <;> (clear h; intro c h)
  · replace h := evR h; cases h
    refine zz ?_
    first | exact ⟨trivial, [], [], ⟨rfl, trivial⟩, _, rfl, _, rfl, And.intro rfl rfl⟩ | exact ⟨[], [], ⟨rfl, trivial⟩, _, rfl, _, rfl, And.intro rfl rfl⟩
  replace h := evT h
  refine zz ?_
  exact ⟨_, zfuel, _, _, h, leafFr [0, 3] (by kernel_rfl), by kernel_rfl⟩
theorem spec_l10Line_all : ∀ n, (∀ (k : Nat) (a0_0 : Int) (a0_1 : Int) (a0_2 : ByteArray) (l0_3 : List S38) (r : Bool) (h : run spec_l10Line.B k (.f a0_0 a0_1 a0_2 l0_3) = some r) (hk : k < n), CE (G m_) 11 [.val (.agg [.int .i64 a0_0, .int .i64 a0_1, .str a0_2, .row (l0_3.map e38)])] [] [.val (.bool r)] []) := by
  intro n
  induction n with
  | zero => exact (by intros; omega)
  | succ n ih =>
    · intro k a0_0 a0_1 a0_2 l0_3 r h hk
      refine CE.mk ⟨Tryz.f11, _, rfl, rfl, ⟨by kernel_rfl, Nat.le_of_ble_eq_true rfl, Nat.le_of_ble_eq_true rfl⟩, ?_⟩
      rcases k with _ | k
      · exact (run_zero h).elim
      rw [run_succ, spec_l10Line.B] at h
      refine zz ?_
      refine cutJ (n := 26) [16] (fun fr hp => ∃ kq, kq ≤ k ∧ ∃ (x16_0 : Int) (x16_1 : Int) (x16_2 : ByteArray) (x16_3 : List S38), run spec_l10Line.B kq (.j0 x16_0 x16_1 x16_2 x16_3) = some r ∧ (∃ fr0, fr = puts [(1, .one (.ptr 16 0))] fr0) ∧ hp = (upd 16 (.box [.val (.int .i64 x16_0), .val (.int .i64 x16_1), .val (.str x16_2), .val (.row (x16_3.map e38))]) (fun _ => none))) ?_ ?_
      · refine zz ?_
        refine cutJ (n := 200001) [16] (fun fr hp => ∃ kq, kq ≤ k ∧ ∃ (x26 : Bool) (x16_0 : Int) (x16_1 : Int) (x16_2 : ByteArray) (x16_3 : List S38), run spec_l10Line.B kq (.j1 x26 x16_0 x16_1 x16_2 x16_3) = some r ∧ (∃ fr0, fr = puts [(1, .one (.ptr 16 0)), (26, .one (.val (.bool x26)))] fr0) ∧ hp = (upd 16 (.box [.val (.int .i64 x16_0), .val (.int .i64 x16_1), .val (.str x16_2), .val (.row (x16_3.map e38))]) (fun _ => none))) ?_ ?_
        · refine zz ?_
          refine brW (iP h) ?_ ?_ <;> (clear h; intro c h)
          rotate_left
          · refine zz ?_
            try (apply Or.inr; refine zK ?_)
            refine zz ?_
            try (apply Or.inr; refine zK ?_)
            refine zz ?_
            try (apply Or.inl; refine zK ?_)
            refine zz ?_
            try (apply Or.inr; refine zK ?_)
            refine zz ?_
            try (apply Or.inr; refine zK ?_)
            refine zz ?_
            try (apply Or.inr; refine zK ?_)
            refine zz ?_
            try (apply Or.inl; refine zK ?_)
            refine zz ?_
            try (apply Or.inr; refine zK ?_)
            refine zz ?_
            try (apply Or.inr; refine zK ?_)
            refine zz ?_
            try (apply Or.inr; refine zK ?_)
            refine zz ?_
            try (apply Or.inl; refine zK ?_)
            refine zz ?_
            try (apply Or.inr; refine zK ?_)
            refine zz ?_
            try (apply Or.inr; refine zK ?_)
            refine zz ?_
            try (apply Or.inr; refine zK ?_)
            refine zz ?_
            try (apply Or.inl; refine zK ?_)
            replace h := evT h
            refine zz ?_
            exact ⟨_, zfuel, _, _, _, _, _, h, leafFr [1, 26] (by kernel_rfl), by kernel_rfl⟩
          refine zz ?_
          try (apply Or.inl; refine zK ?_)
          refine zz ?_
          try (apply Or.inl; refine zK ?_)
          refine zz ?_
          try (apply Or.inr; refine zK ?_)
          refine zz ?_
          refine brW (iP h) ?_ ?_ <;> (clear h; intro c h)
          rotate_left
          · refine zz ?_
            try (apply Or.inr; refine zK ?_)
            refine zz ?_
            try (apply Or.inr; refine zK ?_)
            refine zz ?_
            try (apply Or.inl; refine zK ?_)
            refine zz ?_
            try (apply Or.inr; refine zK ?_)
            refine zz ?_
            try (apply Or.inr; refine zK ?_)
            refine zz ?_
            try (apply Or.inr; refine zK ?_)
            refine zz ?_
            try (apply Or.inl; refine zK ?_)
            refine zz ?_
            try (apply Or.inr; refine zK ?_)
            refine zz ?_
            try (apply Or.inr; refine zK ?_)
            refine zz ?_
            try (apply Or.inr; refine zK ?_)
            refine zz ?_
            try (apply Or.inl; refine zK ?_)
            replace h := evT h
            refine zz ?_
            exact ⟨_, zfuel, _, _, _, _, _, h, leafFr [1, 26] (by kernel_rfl), by kernel_rfl⟩
          refine zz ?_
          try (apply Or.inl; refine zK ?_)
          refine zz ?_
          try (apply Or.inl; refine zK ?_)
          refine zz ?_
          try (apply Or.inr; refine zK ?_)
          refine zz ?_
          refine brW (iP h) ?_ ?_ <;> (clear h; intro c h)
          rotate_left
          · refine zz ?_
            try (apply Or.inr; refine zK ?_)
            refine zz ?_
            try (apply Or.inr; refine zK ?_)
            refine zz ?_
            try (apply Or.inl; refine zK ?_)
            refine zz ?_
            try (apply Or.inr; refine zK ?_)
            refine zz ?_
            try (apply Or.inr; refine zK ?_)
            refine zz ?_
            try (apply Or.inr; refine zK ?_)
            refine zz ?_
            try (apply Or.inl; refine zK ?_)
            replace h := evT h
            refine zz ?_
            exact ⟨_, zfuel, _, _, _, _, _, h, leafFr [1, 26] (by kernel_rfl), by kernel_rfl⟩
          refine zz ?_
          try (apply Or.inl; refine zK ?_)
          refine zz ?_
          try (apply Or.inl; refine zK ?_)
          refine zz ?_
          try (apply Or.inr; refine zK ?_)
          refine zz ?_
          refine brW (iP h) ?_ ?_ <;> (clear h; intro c h)
          · refine zz ?_
            try (apply Or.inl; refine zK ?_)
            refine zz ?_
            try (apply Or.inl; refine zK ?_)
            refine zz ?_
            try (apply Or.inr; refine zK ?_)
            replace h := evT h
            refine zz ?_
            exact ⟨_, zfuel, _, _, _, _, _, h, leafFr [1, 26] (by kernel_rfl), by kernel_rfl⟩
          refine zz ?_
          try (apply Or.inr; refine zK ?_)
          refine zz ?_
          try (apply Or.inr; refine zK ?_)
          refine zz ?_
          try (apply Or.inl; refine zK ?_)
          replace h := evT h
          refine zz ?_
          exact ⟨_, zfuel, _, _, _, _, _, h, leafFr [1, 26] (by kernel_rfl), by kernel_rfl⟩
        clear h; rintro _ _ ⟨k, hle, x26, x16_0, x16_1, x16_2, x16_3, h, ⟨fr0, rfl⟩, rfl⟩
        rcases k with _ | k
        · exact (run_zero h).elim
        rw [run_succ, spec_l10Line.B] at h
        refine zz ?_
        refine br (iP h) ?_ ?_ <;> (clear h; intro c h)
        · replace h := evR h; cases h
          refine zz ?_
          first | exact ⟨trivial, [], [], ⟨rfl, trivial⟩, _, rfl, _, rfl, And.intro rfl rfl⟩ | exact ⟨[], [], ⟨rfl, trivial⟩, _, rfl, _, rfl, And.intro rfl rfl⟩
        replace h := evT h
        refine zz ?_
        exact ⟨_, zfuel, _, _, _, _, h, leafFr [1] (by kernel_rfl), by kernel_rfl⟩
      clear h; rintro _ _ ⟨k, hle, x16_0, x16_1, x16_2, x16_3, h, ⟨fr0, rfl⟩, rfl⟩
      rcases k with _ | k
      · exact (run_zero h).elim
      rw [run_succ, spec_l10Line.B] at h
      replace h := evT h
      refine zz ?_
      refine loopJ [16] (fun kq fr hp => ∃ (x3 : Int) (x16_0 : Int) (x16_1 : Int) (x16_2 : ByteArray) (x16_3 : List S38), run spec_l10Line.B kq (.l0 x3 x16_0 x16_1 x16_2 x16_3) = some r ∧ (∃ fr0, fr = puts [(1, .one (.ptr 16 0)), (3, .one (.val (.int .i64 x3)))] fr0) ∧ hp = (upd 16 (.box [.val (.int .i64 x16_0), .val (.int .i64 x16_1), .val (.str x16_2), .val (.row (x16_3.map e38))]) (fun _ => none))) k ⟨_, zfuel, _, _, _, _, _, h, leafFr [1, 3] (by kernel_rfl), by kernel_rfl⟩ ?_
      clear h; rintro k hle _ _ ⟨x3, x16_0, x16_1, x16_2, x16_3, h, ⟨fr0, rfl⟩, rfl⟩
      rcases k with _ | k
      · exact (run_zero h).elim
      rw [run_succ, spec_l10Line.B] at h
      refine zz ?_
      refine br (iP h) ?_ ?_ <;> (clear h; intro c h)
      rotate_left
      · replace h := evR h; cases h
        refine zz ?_
        first | exact ⟨trivial, [], [], ⟨rfl, trivial⟩, _, rfl, _, rfl, And.intro rfl rfl⟩ | exact ⟨[], [], ⟨rfl, trivial⟩, _, rfl, _, rfl, And.intro rfl rfl⟩
      refine zz ?_
      refine cutJ (n := 49) [16] (fun fr hp => ∃ kq, kq ≤ k ∧ ∃ (x3 : Int) (x16_0 : Int) (x16_1 : Int) (x16_2 : ByteArray) (x16_3 : List S38), run spec_l10Line.B kq (.j2 x3 x16_0 x16_1 x16_2 x16_3) = some r ∧ (∃ fr0, fr = puts [(1, .one (.ptr 16 0)), (3, .one (.val (.int .i64 x3)))] fr0) ∧ hp = (upd 16 (.box [.val (.int .i64 x16_0), .val (.int .i64 x16_1), .val (.str x16_2), .val (.row (x16_3.map e38))]) (fun _ => none))) ?_ ?_
      · refine zz ?_
        refine cutJ (n := 200006) [16] (fun fr hp => ∃ kq, kq ≤ k ∧ ∃ (x3 : Int) (x49 : Bool) (x16_0 : Int) (x16_1 : Int) (x16_2 : ByteArray) (x16_3 : List S38), run spec_l10Line.B kq (.j3 x3 x49 x16_0 x16_1 x16_2 x16_3) = some r ∧ (∃ fr0, fr = puts [(1, .one (.ptr 16 0)), (3, .one (.val (.int .i64 x3))), (49, .one (.val (.bool x49)))] fr0) ∧ hp = (upd 16 (.box [.val (.int .i64 x16_0), .val (.int .i64 x16_1), .val (.str x16_2), .val (.row (x16_3.map e38))]) (fun _ => none))) ?_ ?_
        · refine zz ?_
          refine br (iP h) ?_ ?_ <;> (clear h; intro c h)
          rotate_left
          · refine zz ?_
            try (apply Or.inr; refine zK ?_)
            refine zz ?_
            try (apply Or.inr; refine zK ?_)
            refine zz ?_
            try (apply Or.inr; refine zK ?_)
            refine zz ?_
            try (apply Or.inr; refine zK ?_)
            refine zz ?_
            try (apply Or.inr; refine zK ?_)
            refine zz ?_
            try (apply Or.inr; refine zK ?_)
            refine zz ?_
            try (apply Or.inr; refine zK ?_)
            refine zz ?_
            try (apply Or.inr; refine zK ?_)
            refine zz ?_
            try (apply Or.inr; refine zK ?_)
            refine zz ?_
            try (apply Or.inr; refine zK ?_)
            replace h := evT h
            refine zz ?_
            exact ⟨_, zfuel, _, _, _, _, _, _, h, leafFr [1, 3, 49] (by kernel_rfl), by kernel_rfl⟩
          refine zz ?_
          try (apply Or.inl; refine zK ?_)
          refine zz ?_
          try (apply Or.inl; refine zK ?_)
          refine zz ?_
          refine br (iP h) ?_ ?_ <;> (clear h; intro c h)
          rotate_left
          · refine zz ?_
            try (apply Or.inr; refine zK ?_)
            refine zz ?_
            try (apply Or.inr; refine zK ?_)
            refine zz ?_
            try (apply Or.inr; refine zK ?_)
            refine zz ?_
            try (apply Or.inr; refine zK ?_)
            refine zz ?_
            try (apply Or.inr; refine zK ?_)
            refine zz ?_
            try (apply Or.inr; refine zK ?_)
            refine zz ?_
            try (apply Or.inr; refine zK ?_)
            replace h := evT h
            refine zz ?_
            exact ⟨_, zfuel, _, _, _, _, _, _, h, leafFr [1, 3, 49] (by kernel_rfl), by kernel_rfl⟩
          refine zz ?_
          try (apply Or.inl; refine zK ?_)
          refine zz ?_
          try (apply Or.inl; refine zK ?_)
          refine zz ?_
          try (apply Or.inl; refine zK ?_)
          have h_ := gP h; clear h; obtain ⟨c, h⟩ := h_
          refine zz ?_
          try (apply Or.inl; refine zK ?_)
          refine zz ?_
          try (apply Or.inl; refine zK ?_)
          refine zz ?_
          try (apply Or.inl; refine zK ?_)
          refine zz ?_
          try (apply Or.inl; refine zK ?_)
          replace h := evT h
          refine zz ?_
          exact ⟨_, zfuel, _, _, _, _, _, _, h, leafFr [1, 3, 49] (by kernel_rfl), by kernel_rfl⟩
        clear h; rintro _ _ ⟨k, hle, x3, x49, x16_0, x16_1, x16_2, x16_3, h, ⟨fr0, rfl⟩, rfl⟩
        rcases k with _ | k
        · exact (run_zero h).elim
        rw [run_succ, spec_l10Line.B] at h
        refine zz ?_
        refine br (iP h) ?_ ?_ <;> (clear h; intro c h)
        · replace h := evT h
          refine zz ?_
          exact ⟨_, zfuel, _, _, _, _, _, h, leafFr [1, 3] (by kernel_rfl), by kernel_rfl⟩
        replace h := evT h
        refine zz ?_
        exact ⟨_, zfuel, _, _, _, _, _, h, leafFr [1, 3] (by kernel_rfl), by kernel_rfl⟩
      clear h; rintro _ _ ⟨k, hle, x3, x16_0, x16_1, x16_2, x16_3, h, ⟨fr0, rfl⟩, rfl⟩
      rcases k with _ | k
      · exact (run_zero h).elim
      rw [run_succ, spec_l10Line.B] at h
      have h_ := gP h; clear h; obtain ⟨c, h⟩ := h_
      have h_ := gP h; clear h; obtain ⟨c, h⟩ := h_
      have h_ := evA h; clear h; obtain ⟨t55, ht, h⟩ := h_
      refine zz ?_
      refine Exists.intro _ (And.intro (ih _ (h := ht) (hk := zfuel)) ?_)
      refine zz ?_
      refine br (iP h) ?_ ?_ <;> (clear h; intro c h)
      · replace h := evR h; cases h
        refine zz ?_
        first | exact ⟨trivial, [], [], ⟨rfl, trivial⟩, _, rfl, _, rfl, And.intro rfl rfl⟩ | exact ⟨[], [], ⟨rfl, trivial⟩, _, rfl, _, rfl, And.intro rfl rfl⟩
      replace h := evT h
      refine zz ?_
      exact ⟨_, zfuel, _, _, _, _, _, h, leafFr [1, 3] (by kernel_rfl), by kernel_rfl⟩
theorem spec_l10Line_ev (a0_0 : Int) (a0_1 : Int) (a0_2 : ByteArray) (l0_3 : List S38) (r : Bool) (h : spec_l10Line.fv a0_0 a0_1 a0_2 l0_3 = some r) : CE (G m_) 11 [.val (.agg [.int .i64 a0_0, .int .i64 a0_1, .str a0_2, .row (l0_3.map e38)])] [] [.val (.bool r)] [] := by
  obtain ⟨k, h⟩ := lim_ex h
  exact (spec_l10Line_all (k + 1)) k _ _ _ _ _ h (Nat.lt_succ_self k)
theorem spec_l10Put_ev (l0 : List ByteArray) (a1 : ByteArray) (r : List ByteArray) (h : spec_l10Put.fv l0 a1 = some r) : CE (G m_) 58 [.val (.row (l0.map VV.str)), .val (.str a1)] [] [.val (.row (r.map VV.str))] [] := by
  obtain ⟨k, h⟩ := lim_ex h
  refine CE.mk ⟨Tryz.f58, _, rfl, rfl, ⟨by kernel_rfl, Nat.le_of_ble_eq_true rfl, Nat.le_of_ble_eq_true rfl⟩, ?_⟩
  rcases k with _ | k
  · exact (run_zero h).elim
  rw [run_succ, spec_l10Put.B] at h
  have h_ := evO h; clear h; obtain ⟨t9, ht, h⟩ := h_
  refine zz ?_
  refine Exists.intro _ (And.intro (spec_l7Within_ev (h := ht)) ?_)
  refine zz ?_
  refine br (iP h) ?_ ?_ <;> (clear h; intro c h)
  · replace h := evR h; cases h
    refine zz ?_
    first | exact ⟨trivial, [], [], ⟨rfl, trivial⟩, _, rfl, _, rfl, And.intro rfl rfl⟩ | exact ⟨[], [], ⟨rfl, trivial⟩, _, rfl, _, rfl, And.intro rfl rfl⟩
  refine zz ?_
  refine cutJ (n := 100000) [] (fun fr hp => ∃ kq, kq ≤ k ∧ ∃ (x0 : List ByteArray) (x1 : ByteArray) (x5 : Int), run spec_l10Put.B kq (.j0 x0 x1 x5) = some r ∧ (∃ fr0, fr = puts [(0, .one (.val (.row (x0.map VV.str)))), (1, .one (.val (.str x1))), (5, .one (.val (.int .i64 x5)))] fr0) ∧ hp = (fun _ => none)) ?_ ?_
  · replace h := evT h
    refine zz ?_
    refine loopJ [] (fun kq fr hp => ∃ (x0 : List ByteArray) (x1 : ByteArray) (x5 : Int), run spec_l10Put.B kq (.l0 x0 x1 x5) = some r ∧ (∃ fr0, fr = puts [(0, .one (.val (.row (x0.map VV.str)))), (1, .one (.val (.str x1))), (5, .one (.val (.int .i64 x5)))] fr0) ∧ hp = (fun _ => none)) k ⟨_, zfuel, _, _, _, h, leafFr [0, 1, 5] (by kernel_rfl), by kernel_rfl⟩ ?_
    clear h; rintro k hle _ _ ⟨x0, x1, x5, h, ⟨fr0, rfl⟩, rfl⟩
    rcases k with _ | k
    · exact (run_zero h).elim
    rw [run_succ, spec_l10Put.B] at h
    refine zz ?_
    refine br (iP h) ?_ ?_ <;> (clear h; intro c h)
    rotate_left
    · refine zz ?_
      try (apply Or.inr; refine zK ?_)
      refine zz ?_
      try (apply Or.inr; refine zK ?_)
      refine zz ?_
      try (apply Or.inr; refine zK ?_)
      refine zz ?_
      try (apply Or.inr; refine zK ?_)
      refine zz ?_
      try (apply Or.inr; refine zK ?_)
      refine zz ?_
      try (apply Or.inr; refine zK ?_)
      refine zz ?_
      try (apply Or.inr; refine zK ?_)
      replace h := evT h
      refine zz ?_
      exact ⟨_, zfuel, _, _, _, h, leafFr [0, 1, 5] (by kernel_rfl), by kernel_rfl⟩
    refine zz ?_
    try (apply Or.inl; refine zK ?_)
    refine zz ?_
    try (apply Or.inl; refine zK ?_)
    have h_ := gP h; clear h; obtain ⟨c, h⟩ := h_
    refine zz ?_
    try (apply Or.inl; refine zK ?_)
    refine zz ?_
    try (apply Or.inl; refine zK ?_)
    refine zz ?_
    try (apply Or.inl; refine zK ?_)
    refine zz ?_
    try (apply Or.inl; refine zK ?_)
    refine zz ?_
    refine br (iP h) ?_ ?_ <;> (clear h; intro c h)
    · replace h := evT h
      refine zz ?_
      exact ⟨_, zfuel, _, _, _, h, leafFr [0, 1, 5] (by kernel_rfl), by kernel_rfl⟩
    replace h := evT h
    refine zz ?_
    exact ⟨_, zfuel, _, _, _, h, leafFr [0, 1, 5] (by kernel_rfl), by kernel_rfl⟩
  clear h; rintro _ _ ⟨k, hle, x0, x1, x5, h, ⟨fr0, rfl⟩, rfl⟩
  rcases k with _ | k
  · exact (run_zero h).elim
  rw [run_succ, spec_l10Put.B] at h
  refine zz ?_
  refine Exists.intro (List.map VV.str ([] : List ByteArray)) (And.intro zrow ?_)
  have h_ := gP h; clear h; obtain ⟨c, h⟩ := h_
  have h_ := gP h; clear h; obtain ⟨c, h⟩ := h_
  refine zz ?_
  refine Exists.intro (List.map VV.str (x0.take (x5 : Int).toNat)) (And.intro zrow ?_)
  have h_ := gP h; clear h; obtain ⟨c, h⟩ := h_
  refine zz ?_
  refine Exists.intro (List.map VV.str (([] : List ByteArray) ++ (x0.take (x5 : Int).toNat))) (And.intro zrow ?_)
  refine zz ?_
  refine Exists.intro (List.map VV.str ([x1] : List ByteArray)) (And.intro zrow ?_)
  have h_ := gP h; clear h; obtain ⟨c, h⟩ := h_
  refine zz ?_
  refine Exists.intro (List.map VV.str ((([] : List ByteArray) ++ (x0.take (x5 : Int).toNat)) ++ [x1])) (And.intro zrow ?_)
  refine zz ?_
  refine Exists.intro (List.map VV.str (x0.drop (x5 : Int).toNat)) (And.intro zrow ?_)
  have h_ := gP h; clear h; obtain ⟨c, h⟩ := h_
  refine zz ?_
  refine Exists.intro (List.map VV.str (((([] : List ByteArray) ++ (x0.take (x5 : Int).toNat)) ++ [x1]) ++ (x0.drop (x5 : Int).toNat))) (And.intro zrow ?_)
  replace h := evR h; cases h
  refine zz ?_
  first | exact ⟨trivial, [], [], ⟨rfl, trivial⟩, _, rfl, _, rfl, And.intro rfl rfl⟩ | exact ⟨[], [], ⟨rfl, trivial⟩, _, rfl, _, rfl, And.intro rfl rfl⟩
theorem spec_l10Names_all : ∀ n, (∀ (k : Nat) (a0_0 : Int) (a0_1 : Int) (a0_2 : ByteArray) (l0_3 : List S38) (l1 : List ByteArray) (l2 : List ByteArray) (r1 : List ByteArray) (r2 : List ByteArray) (h : run spec_l10Names.B k (.f a0_0 a0_1 a0_2 l0_3 l1 l2) = some (r1, r2)) (hk : k < n), CE (G m_) 33 [.val (.agg [.int .i64 a0_0, .int .i64 a0_1, .str a0_2, .row (l0_3.map e38)]), .val (.row (l1.map VV.str)), .val (.row (l2.map VV.str))] [] [.val (.row (r1.map VV.str)), .val (.row (r2.map VV.str))] []) := by
  intro n
  induction n with
  | zero => exact (by intros; omega)
  | succ n ih =>
    · intro k a0_0 a0_1 a0_2 l0_3 l1 l2 r1 r2 h hk
      refine CE.mk ⟨Tryz.f33, _, rfl, rfl, ⟨by kernel_rfl, Nat.le_of_ble_eq_true rfl, Nat.le_of_ble_eq_true rfl⟩, ?_⟩
      rcases k with _ | k
      · exact (run_zero h).elim
      rw [run_succ, spec_l10Names.B] at h
      refine zz ?_
      refine cutJ (n := 100000) [16] (fun fr hp => ∃ kq, kq ≤ k ∧ ∃ (x1 : List ByteArray) (x2 : List ByteArray) (x16_0 : Int) (x16_1 : Int) (x16_2 : ByteArray) (x16_3 : List S38), run spec_l10Names.B kq (.j0 x1 x2 x16_0 x16_1 x16_2 x16_3) = some (r1, r2) ∧ (∃ fr0, fr = puts [(1, .one (.val (.row (x1.map VV.str)))), (2, .one (.val (.row (x2.map VV.str)))), (3, .one (.ptr 16 0))] fr0) ∧ hp = (upd 16 (.box [.val (.int .i64 x16_0), .val (.int .i64 x16_1), .val (.str x16_2), .val (.row (x16_3.map e38))]) (fun _ => none))) ?_ ?_
      · refine zz ?_
        refine br (iP h) ?_ ?_ <;> (clear h; intro c h)
        · have h_ := evO h; clear h; obtain ⟨t16, ht, h⟩ := h_
          refine zz ?_
          refine Exists.intro _ (And.intro (spec_l10Put_ev (h := ht)) ?_)
          replace h := evT h
          refine zz ?_
          exact ⟨_, zfuel, _, _, _, _, _, _, h, leafFr [1, 2, 3] (by kernel_rfl), by kernel_rfl⟩
        refine zz ?_
        refine cutJ (n := 17) [16] (fun fr hp => ∃ kq, kq ≤ k ∧ ∃ (x1 : List ByteArray) (x2 : List ByteArray) (x17 : Bool) (x16_0 : Int) (x16_1 : Int) (x16_2 : ByteArray) (x16_3 : List S38), run spec_l10Names.B kq (.j1 x1 x2 x17 x16_0 x16_1 x16_2 x16_3) = some (r1, r2) ∧ (∃ fr0, fr = puts [(1, .one (.val (.row (x1.map VV.str)))), (2, .one (.val (.row (x2.map VV.str)))), (3, .one (.ptr 16 0)), (17, .one (.val (.bool x17)))] fr0) ∧ hp = (upd 16 (.box [.val (.int .i64 x16_0), .val (.int .i64 x16_1), .val (.str x16_2), .val (.row (x16_3.map e38))]) (fun _ => none))) ?_ ?_
        · refine zz ?_
          refine br (iP h) ?_ ?_ <;> (clear h; intro c h)
          · replace h := evT h
            refine zz ?_
            exact ⟨_, zfuel, _, _, _, _, _, _, _, h, leafFr [1, 2, 3, 17] (by kernel_rfl), by kernel_rfl⟩
          replace h := evT h
          refine zz ?_
          exact ⟨_, zfuel, _, _, _, _, _, _, _, h, leafFr [1, 2, 3, 17] (by kernel_rfl), by kernel_rfl⟩
        clear h; rintro _ _ ⟨k, hle, x1, x2, x17, x16_0, x16_1, x16_2, x16_3, h, ⟨fr0, rfl⟩, rfl⟩
        rcases k with _ | k
        · exact (run_zero h).elim
        rw [run_succ, spec_l10Names.B] at h
        refine zz ?_
        refine br (iP h) ?_ ?_ <;> (clear h; intro c h)
        rotate_left
        · replace h := evT h
          refine zz ?_
          exact ⟨_, zfuel, _, _, _, _, _, _, h, leafFr [1, 2, 3] (by kernel_rfl), by kernel_rfl⟩
        have h_ := evO h; clear h; obtain ⟨t23, ht, h⟩ := h_
        refine zz ?_
        refine Exists.intro _ (And.intro (spec_l10Put_ev (h := ht)) ?_)
        replace h := evT h
        refine zz ?_
        exact ⟨_, zfuel, _, _, _, _, _, _, h, leafFr [1, 2, 3] (by kernel_rfl), by kernel_rfl⟩
      clear h; rintro _ _ ⟨k, hle, x1, x2, x16_0, x16_1, x16_2, x16_3, h, ⟨fr0, rfl⟩, rfl⟩
      rcases k with _ | k
      · exact (run_zero h).elim
      rw [run_succ, spec_l10Names.B] at h
      replace h := evT h
      refine zz ?_
      refine loopJ [16] (fun kq fr hp => ∃ (x1 : List ByteArray) (x2 : List ByteArray) (x8 : Int) (x16_0 : Int) (x16_1 : Int) (x16_2 : ByteArray) (x16_3 : List S38), run spec_l10Names.B kq (.l0 x1 x2 x8 x16_0 x16_1 x16_2 x16_3) = some (r1, r2) ∧ (∃ fr0, fr = puts [(1, .one (.val (.row (x1.map VV.str)))), (2, .one (.val (.row (x2.map VV.str)))), (3, .one (.ptr 16 0)), (8, .one (.val (.int .i64 x8)))] fr0) ∧ hp = (upd 16 (.box [.val (.int .i64 x16_0), .val (.int .i64 x16_1), .val (.str x16_2), .val (.row (x16_3.map e38))]) (fun _ => none))) k ⟨_, zfuel, _, _, _, _, _, _, _, h, leafFr [1, 2, 3, 8] (by kernel_rfl), by kernel_rfl⟩ ?_
      clear h; rintro k hle _ _ ⟨x1, x2, x8, x16_0, x16_1, x16_2, x16_3, h, ⟨fr0, rfl⟩, rfl⟩
      rcases k with _ | k
      · exact (run_zero h).elim
      rw [run_succ, spec_l10Names.B] at h
      refine zz ?_
      refine br (iP h) ?_ ?_ <;> (clear h; intro c h)
      rotate_left
      · replace h := evR h; cases h
        refine zz ?_
        first | exact ⟨trivial, [], [], ⟨rfl, trivial⟩, _, rfl, _, rfl, And.intro rfl rfl⟩ | exact ⟨[], [], ⟨rfl, trivial⟩, _, rfl, _, rfl, And.intro rfl rfl⟩
      have h_ := gP h; clear h; obtain ⟨c, h⟩ := h_
      have h_ := evA h; clear h; obtain ⟨t39, ht, h⟩ := h_
      refine zz ?_
      refine Exists.intro _ (And.intro (ih _ (h := ht) (hk := zfuel)) ?_)
      replace h := evT h
      refine zz ?_
      exact ⟨_, zfuel, _, _, _, _, _, _, _, h, leafFr [1, 2, 3, 8] (by kernel_rfl), by kernel_rfl⟩
theorem spec_l10Names_ev (a0_0 : Int) (a0_1 : Int) (a0_2 : ByteArray) (l0_3 : List S38) (l1 : List ByteArray) (l2 : List ByteArray) (r1 : List ByteArray) (r2 : List ByteArray) (h : spec_l10Names.fv a0_0 a0_1 a0_2 l0_3 l1 l2 = some (r1, r2)) : CE (G m_) 33 [.val (.agg [.int .i64 a0_0, .int .i64 a0_1, .str a0_2, .row (l0_3.map e38)]), .val (.row (l1.map VV.str)), .val (.row (l2.map VV.str))] [] [.val (.row (r1.map VV.str)), .val (.row (r2.map VV.str))] [] := by
  obtain ⟨k, h⟩ := lim_ex h
  exact (spec_l10Names_all (k + 1)) k _ _ _ _ _ _ _ _ h (Nat.lt_succ_self k)
theorem spec_Names_ev (l0 : List S40) (r1 : List ByteArray) (r2 : List ByteArray) (h : spec_Names.fv l0 = some (r1, r2)) : CE (G m_) 12 [.val (.row (l0.map e40))] [] [.val (.row (r1.map VV.str)), .val (.row (r2.map VV.str))] [] := by
  obtain ⟨k, h⟩ := lim_ex h
  refine CE.mk ⟨Tryz.f12, _, rfl, rfl, ⟨by kernel_rfl, Nat.le_of_ble_eq_true rfl, Nat.le_of_ble_eq_true rfl⟩, ?_⟩
  rcases k with _ | k
  · exact (run_zero h).elim
  rw [run_succ, spec_Names.B] at h
  refine zz ?_
  refine Exists.intro (List.map VV.str ([] : List ByteArray)) (And.intro zrow ?_)
  refine zz ?_
  refine Exists.intro (List.map VV.str ([] : List ByteArray)) (And.intro zrow ?_)
  replace h := evT h
  refine zz ?_
  refine loopJ [] (fun kq fr hp => ∃ (x0 : List S40) (x4 : List ByteArray) (x5 : List ByteArray) (x6 : Int), run spec_Names.B kq (.l0 x0 x4 x5 x6) = some (r1, r2) ∧ (∃ fr0, fr = puts [(0, .one (.val (.row (x0.map e40)))), (4, .one (.val (.row (x4.map VV.str)))), (5, .one (.val (.row (x5.map VV.str)))), (6, .one (.val (.int .i64 x6)))] fr0) ∧ hp = (fun _ => none)) k ⟨_, zfuel, _, _, _, _, h, leafFr [0, 4, 5, 6] (by kernel_rfl), by kernel_rfl⟩ ?_
  clear h; rintro k hle _ _ ⟨x0, x4, x5, x6, h, ⟨fr0, rfl⟩, rfl⟩
  rcases k with _ | k
  · exact (run_zero h).elim
  rw [run_succ, spec_Names.B] at h
  refine zz ?_
  refine br (iP h) ?_ ?_ <;> (clear h; intro c h)
  rotate_left
  · replace h := evR h; cases h
    refine zz ?_
    first | exact ⟨trivial, [], [], ⟨rfl, trivial⟩, _, rfl, _, rfl, And.intro rfl rfl⟩ | exact ⟨[], [], ⟨rfl, trivial⟩, _, rfl, _, rfl, And.intro rfl rfl⟩
  have h_ := gP h; clear h; obtain ⟨c, h⟩ := h_
  have h_ := evO h; clear h; obtain ⟨t23, ht, h⟩ := h_
  refine zz ?_
  refine Exists.intro _ (And.intro (spec_l10Names_ev (h := ht)) ?_)
  have h_ := evO h; clear h; obtain ⟨t34, ht, h⟩ := h_
  refine zz ?_
  refine Exists.intro _ (And.intro (spec_l10Names_ev (h := ht)) ?_)
  replace h := evT h
  refine zz ?_
  exact ⟨_, zfuel, _, _, _, _, h, leafFr [0, 4, 5, 6] (by kernel_rfl), by kernel_rfl⟩
theorem spec_l10Args_all : ∀ n, (∀ (k : Nat) (a0_0 : Int) (a0_1 : Int) (a0_2 : ByteArray) (l0_3 : List S38) (r : Bool) (h : run spec_l10Args.B k (.f a0_0 a0_1 a0_2 l0_3) = some r) (hk : k < n), CE (G m_) 14 [.val (.agg [.int .i64 a0_0, .int .i64 a0_1, .str a0_2, .row (l0_3.map e38)])] [] [.val (.bool r)] []) := by
  intro n
  induction n with
  | zero => exact (by intros; omega)
  | succ n ih =>
    · intro k a0_0 a0_1 a0_2 l0_3 r h hk
      refine CE.mk ⟨Tryz.f14, _, rfl, rfl, ⟨by kernel_rfl, Nat.le_of_ble_eq_true rfl, Nat.le_of_ble_eq_true rfl⟩, ?_⟩
      rcases k with _ | k
      · exact (run_zero h).elim
      rw [run_succ, spec_l10Args.B] at h
      refine zz ?_
      refine cutJ (n := 10) [16] (fun fr hp => ∃ kq, kq ≤ k ∧ ∃ (x3 : Int) (x16_0 : Int) (x16_1 : Int) (x16_2 : ByteArray) (x16_3 : List S38), run spec_l10Args.B kq (.j0 x3 x16_0 x16_1 x16_2 x16_3) = some r ∧ (∃ fr0, fr = puts [(1, .one (.ptr 16 0)), (3, .one (.val (.int .i64 x3)))] fr0) ∧ hp = (upd 16 (.box [.val (.int .i64 x16_0), .val (.int .i64 x16_1), .val (.str x16_2), .val (.row (x16_3.map e38))]) (fun _ => none))) ?_ ?_
      · refine zz ?_
        refine br (iP h) ?_ ?_ <;> (clear h; intro c h)
        rotate_left
        · replace h := evT h
          refine zz ?_
          exact ⟨_, zfuel, _, _, _, _, _, h, leafFr [1, 3] (by kernel_rfl), by kernel_rfl⟩
        refine zz ?_
        refine br (iP h) ?_ ?_ <;> (clear h; intro c h)
        · refine zz ?_
          refine brN (iP h) ?_ ?_ <;> (clear h; intro c h)
          · replace h := evR h; cases h
            refine zz ?_
            first | exact ⟨trivial, [], [], ⟨rfl, trivial⟩, _, rfl, _, rfl, And.intro rfl rfl⟩ | exact ⟨[], [], ⟨rfl, trivial⟩, _, rfl, _, rfl, And.intro rfl rfl⟩
          replace h := evT h
          refine zz ?_
          exact ⟨_, zfuel, _, _, _, _, _, h, leafFr [1, 3] (by kernel_rfl), by kernel_rfl⟩
        refine zz ?_
        refine br (iP h) ?_ ?_ <;> (clear h; intro c h)
        rotate_left
        · refine zz ?_
          refine brN (iP h) ?_ ?_ <;> (clear h; intro c h)
          · replace h := evR h; cases h
            refine zz ?_
            first | exact ⟨trivial, [], [], ⟨rfl, trivial⟩, _, rfl, _, rfl, And.intro rfl rfl⟩ | exact ⟨[], [], ⟨rfl, trivial⟩, _, rfl, _, rfl, And.intro rfl rfl⟩
          replace h := evT h
          refine zz ?_
          exact ⟨_, zfuel, _, _, _, _, _, h, leafFr [1, 3] (by kernel_rfl), by kernel_rfl⟩
        refine zz ?_
        refine cutJ (n := 200010) [16] (fun fr hp => ∃ kq, kq ≤ k ∧ ∃ (x3 : Int) (x26 : Bool) (x16_0 : Int) (x16_1 : Int) (x16_2 : ByteArray) (x16_3 : List S38), run spec_l10Args.B kq (.j1 x3 x26 x16_0 x16_1 x16_2 x16_3) = some r ∧ (∃ fr0, fr = puts [(1, .one (.ptr 16 0)), (3, .one (.val (.int .i64 x3))), (26, .one (.val (.bool x26)))] fr0) ∧ hp = (upd 16 (.box [.val (.int .i64 x16_0), .val (.int .i64 x16_1), .val (.str x16_2), .val (.row (x16_3.map e38))]) (fun _ => none))) ?_ ?_
        · refine zz ?_
          refine brN (iP h) ?_ ?_ <;> (clear h; intro c h)
          · refine zz ?_
            try (apply Or.inl; refine zK ?_)
            refine zz ?_
            try (apply Or.inl; refine zK ?_)
            replace h := evT h
            refine zz ?_
            exact ⟨_, zfuel, _, _, _, _, _, _, h, leafFr [1, 3, 26] (by kernel_rfl), by kernel_rfl⟩
          refine zz ?_
          try (apply Or.inr; refine zK ?_)
          refine zz ?_
          try (apply Or.inr; refine zK ?_)
          replace h := evT h
          refine zz ?_
          exact ⟨_, zfuel, _, _, _, _, _, _, h, leafFr [1, 3, 26] (by kernel_rfl), by kernel_rfl⟩
        clear h; rintro _ _ ⟨k, hle, x3, x26, x16_0, x16_1, x16_2, x16_3, h, ⟨fr0, rfl⟩, rfl⟩
        rcases k with _ | k
        · exact (run_zero h).elim
        rw [run_succ, spec_l10Args.B] at h
        refine zz ?_
        refine br (iP h) ?_ ?_ <;> (clear h; intro c h)
        · replace h := evR h; cases h
          refine zz ?_
          first | exact ⟨trivial, [], [], ⟨rfl, trivial⟩, _, rfl, _, rfl, And.intro rfl rfl⟩ | exact ⟨[], [], ⟨rfl, trivial⟩, _, rfl, _, rfl, And.intro rfl rfl⟩
        replace h := evT h
        refine zz ?_
        exact ⟨_, zfuel, _, _, _, _, _, h, leafFr [1, 3] (by kernel_rfl), by kernel_rfl⟩
      clear h; rintro _ _ ⟨k, hle, x3, x16_0, x16_1, x16_2, x16_3, h, ⟨fr0, rfl⟩, rfl⟩
      rcases k with _ | k
      · exact (run_zero h).elim
      rw [run_succ, spec_l10Args.B] at h
      replace h := evT h
      refine zz ?_
      refine loopJ [16] (fun kq fr hp => ∃ (x3 : Int) (x4 : Int) (x16_0 : Int) (x16_1 : Int) (x16_2 : ByteArray) (x16_3 : List S38), run spec_l10Args.B kq (.l0 x3 x4 x16_0 x16_1 x16_2 x16_3) = some r ∧ (∃ fr0, fr = puts [(1, .one (.ptr 16 0)), (3, .one (.val (.int .i64 x3))), (4, .one (.val (.int .i64 x4)))] fr0) ∧ hp = (upd 16 (.box [.val (.int .i64 x16_0), .val (.int .i64 x16_1), .val (.str x16_2), .val (.row (x16_3.map e38))]) (fun _ => none))) k ⟨_, zfuel, _, _, _, _, _, _, h, leafFr [1, 3, 4] (by kernel_rfl), by kernel_rfl⟩ ?_
      clear h; rintro k hle _ _ ⟨x3, x4, x16_0, x16_1, x16_2, x16_3, h, ⟨fr0, rfl⟩, rfl⟩
      rcases k with _ | k
      · exact (run_zero h).elim
      rw [run_succ, spec_l10Args.B] at h
      refine zz ?_
      refine br (iP h) ?_ ?_ <;> (clear h; intro c h)
      rotate_left
      · replace h := evR h; cases h
        refine zz ?_
        first | exact ⟨trivial, [], [], ⟨rfl, trivial⟩, _, rfl, _, rfl, And.intro rfl rfl⟩ | exact ⟨[], [], ⟨rfl, trivial⟩, _, rfl, _, rfl, And.intro rfl rfl⟩
      have h_ := gP h; clear h; obtain ⟨c, h⟩ := h_
      have h_ := gP h; clear h; obtain ⟨c, h⟩ := h_
      have h_ := evA h; clear h; obtain ⟨t37, ht, h⟩ := h_
      refine zz ?_
      refine Exists.intro _ (And.intro (ih _ (h := ht) (hk := zfuel)) ?_)
      refine zz ?_
      refine brN (iP h) ?_ ?_ <;> (clear h; intro c h)
      · replace h := evR h; cases h
        refine zz ?_
        first | exact ⟨trivial, [], [], ⟨rfl, trivial⟩, _, rfl, _, rfl, And.intro rfl rfl⟩ | exact ⟨[], [], ⟨rfl, trivial⟩, _, rfl, _, rfl, And.intro rfl rfl⟩
      replace h := evT h
      refine zz ?_
      exact ⟨_, zfuel, _, _, _, _, _, _, h, leafFr [1, 3, 4] (by kernel_rfl), by kernel_rfl⟩
theorem spec_l10Args_ev (a0_0 : Int) (a0_1 : Int) (a0_2 : ByteArray) (l0_3 : List S38) (r : Bool) (h : spec_l10Args.fv a0_0 a0_1 a0_2 l0_3 = some r) : CE (G m_) 14 [.val (.agg [.int .i64 a0_0, .int .i64 a0_1, .str a0_2, .row (l0_3.map e38)])] [] [.val (.bool r)] [] := by
  obtain ⟨k, h⟩ := lim_ex h
  exact (spec_l10Args_all (k + 1)) k _ _ _ _ _ h (Nat.lt_succ_self k)
theorem spec_l3Now_ev (s0_0 : ByteArray) (s0_1 : Int) (s0_2 : Bool) (a1 : Int) (r1 : Bool) (r2 : ByteArray) (r3 : Int) (r4 : Bool) (h : spec_l3Now.f s0_0 s0_1 s0_2 a1 = some (r1, r2, r3, r4)) : CE (G m_) 84 [.ptr 0 0, .val (.int .u8 a1)] [.box [.val (.str s0_0), .val (.int .i64 s0_1), .val (.bool s0_2)]] [.val (.bool r1)] [.box [.val (.str r2), .val (.int .i64 r3), .val (.bool r4)]] := by
  refine CE.mk ⟨Tryz.f84, _, rfl, rfl, ⟨by kernel_rfl, Nat.le_of_ble_eq_true rfl, Nat.le_of_ble_eq_true rfl⟩, ?_⟩
  rw [spec_l3Now.f] at h
  refine zz ?_
  refine brN (iteS h) ?_ ?_ <;> (clear h; intro c h)
  rotate_left
  · refine zz ?_
    try (apply Or.inr; refine zK ?_)
    refine zz ?_
    try (apply Or.inr; refine zK ?_)
    refine zz ?_
    try (apply Or.inr; refine zK ?_)
    refine zz ?_
    try (apply Or.inr; refine zK ?_)
    refine zz ?_
    try (apply Or.inr; refine zK ?_)
    refine zz ?_
    try (apply Or.inr; refine zK ?_)
    refine zz ?_
    try (apply Or.inr; refine zK ?_)
    refine zz ?_
    try (apply Or.inr; refine zK ?_)
    refine zz ?_
    try (apply Or.inr; refine zK ?_)
    refine zz ?_
    try (apply Or.inr; refine zK ?_)
    refine zz ?_
    try (apply Or.inr; refine zK ?_)
    refine zz ?_
    try (apply Or.inr; refine zK ?_)
    refine zz ?_
    try (apply Or.inr; refine zK ?_)
    refine zz ?_
    try (apply Or.inr; refine zK ?_)
    refine zz ?_
    try (apply Or.inr; refine zK ?_)
    refine zz ?_
    try (apply Or.inr; refine zK ?_)
    refine zz ?_
    try (apply Or.inr; refine zK ?_)
    refine zz ?_
    try (apply Or.inr; refine zK ?_)
    refine zz ?_
    try (apply Or.inr; refine zK ?_)
    refine zz ?_
    try (apply Or.inr; refine zK ?_)
    refine zz ?_
    try (apply Or.inr; refine zK ?_)
    refine zz ?_
    try (apply Or.inr; refine zK ?_)
    cases h
    refine zz ?_
    first | exact ⟨trivial, [], [], ⟨rfl, trivial⟩, _, rfl, _, rfl, And.intro rfl rfl⟩ | exact ⟨[], [], ⟨rfl, trivial⟩, _, rfl, _, rfl, And.intro rfl rfl⟩
  refine zz ?_
  try (apply Or.inl; refine zK ?_)
  refine zz ?_
  try (apply Or.inl; refine zK ?_)
  refine zz ?_
  try (apply Or.inl; refine zK ?_)
  refine zz ?_
  try (apply Or.inl; refine zK ?_)
  refine zz ?_
  try (apply Or.inl; refine zK ?_)
  refine zz ?_
  try (apply Or.inl; refine zK ?_)
  refine zz ?_
  try (apply Or.inl; refine zK ?_)
  refine zz ?_
  try (apply Or.inl; refine zK ?_)
  refine zz ?_
  try (apply Or.inl; refine zK ?_)
  refine zz ?_
  try (apply Or.inl; refine zK ?_)
  refine zz ?_
  refine br (iteS h) ?_ ?_ <;> (clear h; intro c h)
  rotate_left
  · refine zz ?_
    try (apply Or.inr; refine zK ?_)
    refine zz ?_
    try (apply Or.inr; refine zK ?_)
    refine zz ?_
    try (apply Or.inr; refine zK ?_)
    refine zz ?_
    try (apply Or.inr; refine zK ?_)
    refine zz ?_
    try (apply Or.inr; refine zK ?_)
    refine zz ?_
    try (apply Or.inr; refine zK ?_)
    refine zz ?_
    try (apply Or.inr; refine zK ?_)
    refine zz ?_
    try (apply Or.inr; refine zK ?_)
    refine zz ?_
    try (apply Or.inr; refine zK ?_)
    refine zz ?_
    try (apply Or.inr; refine zK ?_)
    refine zz ?_
    try (apply Or.inr; refine zK ?_)
    cases h
    refine zz ?_
    first | exact ⟨trivial, [], [], ⟨rfl, trivial⟩, _, rfl, _, rfl, And.intro rfl rfl⟩ | exact ⟨[], [], ⟨rfl, trivial⟩, _, rfl, _, rfl, And.intro rfl rfl⟩
  refine zz ?_
  try (apply Or.inl; refine zK ?_)
  refine zz ?_
  try (apply Or.inl; refine zK ?_)
  refine zz ?_
  try (apply Or.inl; refine zK ?_)
  refine zz ?_
  try (apply Or.inl; refine zK ?_)
  refine zz ?_
  try (apply Or.inl; refine zK ?_)
  refine zz ?_
  try (apply Or.inl; refine zK ?_)
  refine zz ?_
  try (apply Or.inl; refine zK ?_)
  refine zz ?_
  try (apply Or.inl; refine zK ?_)
  have h_ := gS h; clear h; obtain ⟨c, h⟩ := h_
  refine zz ?_
  try (apply Or.inl; refine zK ?_)
  refine zz ?_
  try (apply Or.inl; refine zK ?_)
  refine zz ?_
  try (apply Or.inl; refine zK ?_)
  cases h
  refine zz ?_
  first | exact ⟨trivial, [], [], ⟨rfl, trivial⟩, _, rfl, _, rfl, And.intro rfl rfl⟩ | exact ⟨[], [], ⟨rfl, trivial⟩, _, rfl, _, rfl, And.intro rfl rfl⟩
end Go.Proofs.YthgglepiopijjaaGreat.TFnExactCheck
