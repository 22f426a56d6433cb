/- The walks of the functions that FnExactCheck reaches, through the abstract machine. -/
import Derived.Test.YthgglepiopijjaaGreatAFnExactCheckh
import Derived.Test.YthgglepiopijjaaGreatAFnExactCheckx0
import Derived.Test.YthgglepiopijjaaGreatAFnExactCheckx2
import Derived.Test.YthgglepiopijjaaGreatAFnExactCheckx3
import Derived.Test.YthgglepiopijjaaGreatFFnExactCheck
import Derived.Test.YthgglepiopijjaaGreatProg
set_option maxHeartbeats 4000000
set_option maxRecDepth 100000
set_option linter.unusedVariables false
set_option linter.unusedSimpArgs false
namespace Go.Proofs.YthgglepiopijjaaGreat.TFnExactCheck
open Go Go.RowKit Go.Proofs Go.Proofs.YthgglepiopijjaaGreatW.AM Go.Proofs.YthgglepiopijjaaGreat.QFnExactCheck Go.Proofs.YthgglepiopijjaaGreatW.PrintWords Go.Proofs.YthgglepiopijjaaGreatW.Pgs
variable {m_ : Int}
theorem spec_RexParse_ev (a0 : ByteArray) (r1 : Int) (r2 : Int) (r3 : ByteArray) (r4 : Bool) (r5 : List S58) (r6 : Bool) (h : spec_RexParse.fv a0 = some (r1, r2, r3, r4, r5, r6)) : CE (G m_) 34 [.val (.str a0)] [] [.val (.agg [.int .i64 r1, .int .i64 r2, .str r3, .bool r4, .row (r5.map e58)]), .val (.bool r6)] [] := by
  refine CE.mk ⟨Tryz.f34, _, rfl, rfl, ⟨by kernel_rfl, Nat.le_of_ble_eq_true rfl, Nat.le_of_ble_eq_true rfl⟩, ?_⟩
  rw [spec_RexParse.fv] at h
  refine zz ?_
  refine br (iteS h) ?_ ?_ <;> (clear h; intro c h)
  · cases h
    refine zz ?_
    first | exact ⟨trivial, [], [], ⟨rfl, trivial⟩, _, rfl, _, rfl, And.intro rfl rfl⟩ | exact ⟨[], [], ⟨rfl, trivial⟩, _, rfl, _, rfl, And.intro rfl rfl⟩
  have h_ := oS h; clear h; obtain ⟨t14, ht, h⟩ := h_
  refine zz ?_
  refine Exists.intro _ (Exists.intro _ (And.intro (spec_l3Pattern_ev (h := ht)) ?_))
  refine zz ?_
  refine brW (iteS h) ?_ ?_ <;> (clear h; intro c h)
  rotate_left
  · refine zz ?_
    try (apply Or.inr; refine zK ?_)
    refine zz ?_
    try (apply Or.inr; refine zK ?_)
    refine zz ?_
    try (apply Or.inr; refine zK ?_)
    refine zz ?_
    try (apply Or.inr; refine zK ?_)
    refine zz ?_
    try (apply Or.inr; refine zK ?_)
    refine zz ?_
    try (apply Or.inr; refine zK ?_)
    refine zz ?_
    try (apply Or.inl; refine zK ?_)
    refine zz ?_
    try (apply Or.inr; refine zK ?_)
    refine zz ?_
    try (apply Or.inr; refine zK ?_)
    refine zz ?_
    try (apply Or.inr; refine zK ?_)
    refine zz ?_
    try (apply Or.inl; refine zK ?_)
    refine zz ?_
    try (apply Or.inl; refine zK ?_)
    cases h
    refine zz ?_
    first | exact ⟨trivial, [], [], ⟨rfl, trivial⟩, _, rfl, _, rfl, And.intro rfl rfl⟩ | exact ⟨[], [], ⟨rfl, trivial⟩, _, rfl, _, rfl, And.intro rfl rfl⟩
  refine zz ?_
  try (apply Or.inl; refine zK ?_)
  refine zz ?_
  try (apply Or.inl; refine zK ?_)
  refine zz ?_
  try (apply Or.inl; refine zK ?_)
  refine zz ?_
  try (apply Or.inl; refine zK ?_)
  refine zz ?_
  try (apply Or.inl; refine zK ?_)
  refine zz ?_
  try (apply Or.inl; refine zK ?_)
  refine zz ?_
  try (apply Or.inr; refine zK ?_)
  refine zz ?_
  refine brX (iteS h) ?_ ?_ <;> (clear h; intro c h)
  rotate_left
  · refine zz ?_
    try (apply Or.inr; refine zK ?_)
    refine zz ?_
    try (apply Or.inr; refine zK ?_)
    refine zz ?_
    try (apply Or.inl; refine zK ?_)
    refine zz ?_
    try (apply Or.inl; refine zK ?_)
    cases h
    refine zz ?_
    first | exact ⟨trivial, [], [], ⟨rfl, trivial⟩, _, rfl, _, rfl, And.intro rfl rfl⟩ | exact ⟨[], [], ⟨rfl, trivial⟩, _, rfl, _, rfl, And.intro rfl rfl⟩
  refine zz ?_
  try (apply Or.inl; refine zK ?_)
  have h_ := oS h; clear h; obtain ⟨t30, ht, h⟩ := h_
  refine zz ?_
  refine Exists.intro _ (And.intro (spec_l3Deep_ev (h := ht)) ?_)
  refine zz ?_
  try (apply Or.inl; refine zK ?_)
  refine zz ?_
  try (apply Or.inr; refine zK ?_)
  refine zz ?_
  refine br (iteS h) ?_ ?_ <;> (clear h; intro c h)
  · cases h
    refine zz ?_
    first | exact ⟨trivial, [], [], ⟨rfl, trivial⟩, _, rfl, _, rfl, And.intro rfl rfl⟩ | exact ⟨[], [], ⟨rfl, trivial⟩, _, rfl, _, rfl, And.intro rfl rfl⟩
  cases h
  refine zz ?_
  first | exact ⟨trivial, [], [], ⟨rfl, trivial⟩, _, rfl, _, rfl, And.intro rfl rfl⟩ | exact ⟨[], [], ⟨rfl, trivial⟩, _, rfl, _, rfl, And.intro rfl rfl⟩
theorem spec_l10Rexes_all : ∀ n, (∀ (k : Nat) (a0_0 : Int) (a0_1 : Int) (a0_2 : ByteArray) (l0_3 : List S38) (r : Bool) (h : run spec_l10Rexes.B k (.f a0_0 a0_1 a0_2 l0_3) = some r) (hk : k < n), CE (G m_) 15 [.val (.agg [.int .i64 a0_0, .int .i64 a0_1, .str a0_2, .row (l0_3.map e38)])] [] [.val (.bool r)] []) := by
  intro n
  induction n with
  | zero => exact (by intros; omega)
  | succ n ih =>
    · intro k a0_0 a0_1 a0_2 l0_3 r h hk
      refine CE.mk ⟨Tryz.f15, _, rfl, rfl, ⟨by kernel_rfl, Nat.le_of_ble_eq_true rfl, Nat.le_of_ble_eq_true rfl⟩, ?_⟩
      rcases k with _ | k
      · exact (run_zero h).elim
      rw [run_succ, spec_l10Rexes.B] at h
      refine zz ?_
      refine br (iP h) ?_ ?_ <;> (clear h; intro c h)
      · have h_ := evO h; clear h; obtain ⟨t12, ht, h⟩ := h_
        refine zz ?_
        refine Exists.intro _ (And.intro (spec_RexParse_ev (h := ht)) ?_)
        replace h := evR h; cases h
        refine zz ?_
        first | exact ⟨trivial, [], [], ⟨rfl, trivial⟩, _, rfl, _, rfl, And.intro rfl rfl⟩ | exact ⟨[], [], ⟨rfl, trivial⟩, _, rfl, _, rfl, And.intro rfl rfl⟩
      refine zz ?_
      refine cutJ (n := 26) [16] (fun fr hp => ∃ kq, kq ≤ k ∧ ∃ (x16_0 : Int) (x16_1 : Int) (x16_2 : ByteArray) (x16_3 : List S38), run spec_l10Rexes.B kq (.j0 x16_0 x16_1 x16_2 x16_3) = some r ∧ (∃ fr0, fr = puts [(1, .one (.ptr 16 0))] fr0) ∧ hp = (upd 16 (.box [.val (.int .i64 x16_0), .val (.int .i64 x16_1), .val (.str x16_2), .val (.row (x16_3.map e38))]) (fun _ => none))) ?_ ?_
      · refine zz ?_
        refine cutJ (n := 200004) [16] (fun fr hp => ∃ kq, kq ≤ k ∧ ∃ (x26 : Bool) (x16_0 : Int) (x16_1 : Int) (x16_2 : ByteArray) (x16_3 : List S38), run spec_l10Rexes.B kq (.j1 x26 x16_0 x16_1 x16_2 x16_3) = some r ∧ (∃ fr0, fr = puts [(1, .one (.ptr 16 0)), (26, .one (.val (.bool x26)))] fr0) ∧ hp = (upd 16 (.box [.val (.int .i64 x16_0), .val (.int .i64 x16_1), .val (.str x16_2), .val (.row (x16_3.map e38))]) (fun _ => none))) ?_ ?_
        · refine zz ?_
          refine br (iP h) ?_ ?_ <;> (clear h; intro c h)
          rotate_left
          · refine zz ?_
            try (apply Or.inr; refine zK ?_)
            refine zz ?_
            try (apply Or.inr; refine zK ?_)
            refine zz ?_
            try (apply Or.inr; refine zK ?_)
            refine zz ?_
            try (apply Or.inr; refine zK ?_)
            refine zz ?_
            try (apply Or.inr; refine zK ?_)
            refine zz ?_
            try (apply Or.inr; refine zK ?_)
            replace h := evT h
            refine zz ?_
            exact ⟨_, zfuel, _, _, _, _, _, h, leafFr [1, 26] (by kernel_rfl), by kernel_rfl⟩
          refine zz ?_
          try (apply Or.inl; refine zK ?_)
          refine zz ?_
          try (apply Or.inl; refine zK ?_)
          have h_ := gP h; clear h; obtain ⟨c, h⟩ := h_
          refine zz ?_
          try (apply Or.inl; refine zK ?_)
          refine zz ?_
          try (apply Or.inl; refine zK ?_)
          refine zz ?_
          try (apply Or.inl; refine zK ?_)
          refine zz ?_
          try (apply Or.inl; refine zK ?_)
          replace h := evT h
          refine zz ?_
          exact ⟨_, zfuel, _, _, _, _, _, h, leafFr [1, 26] (by kernel_rfl), by kernel_rfl⟩
        clear h; rintro _ _ ⟨k, hle, x26, x16_0, x16_1, x16_2, x16_3, h, ⟨fr0, rfl⟩, rfl⟩
        rcases k with _ | k
        · exact (run_zero h).elim
        rw [run_succ, spec_l10Rexes.B] at h
        refine zz ?_
        refine br (iP h) ?_ ?_ <;> (clear h; intro c h)
        · replace h := evR h; cases h
          refine zz ?_
          first | exact ⟨trivial, [], [], ⟨rfl, trivial⟩, _, rfl, _, rfl, And.intro rfl rfl⟩ | exact ⟨[], [], ⟨rfl, trivial⟩, _, rfl, _, rfl, And.intro rfl rfl⟩
        replace h := evT h
        refine zz ?_
        exact ⟨_, zfuel, _, _, _, _, h, leafFr [1] (by kernel_rfl), by kernel_rfl⟩
      clear h; rintro _ _ ⟨k, hle, x16_0, x16_1, x16_2, x16_3, h, ⟨fr0, rfl⟩, rfl⟩
      rcases k with _ | k
      · exact (run_zero h).elim
      rw [run_succ, spec_l10Rexes.B] at h
      replace h := evT h
      refine zz ?_
      refine loopJ [16] (fun kq fr hp => ∃ (x5 : Int) (x16_0 : Int) (x16_1 : Int) (x16_2 : ByteArray) (x16_3 : List S38), run spec_l10Rexes.B kq (.l0 x5 x16_0 x16_1 x16_2 x16_3) = some r ∧ (∃ fr0, fr = puts [(1, .one (.ptr 16 0)), (5, .one (.val (.int .i64 x5)))] fr0) ∧ hp = (upd 16 (.box [.val (.int .i64 x16_0), .val (.int .i64 x16_1), .val (.str x16_2), .val (.row (x16_3.map e38))]) (fun _ => none))) k ⟨_, zfuel, _, _, _, _, _, h, leafFr [1, 5] (by kernel_rfl), by kernel_rfl⟩ ?_
      clear h; rintro k hle _ _ ⟨x5, x16_0, x16_1, x16_2, x16_3, h, ⟨fr0, rfl⟩, rfl⟩
      rcases k with _ | k
      · exact (run_zero h).elim
      rw [run_succ, spec_l10Rexes.B] at h
      refine zz ?_
      refine br (iP h) ?_ ?_ <;> (clear h; intro c h)
      rotate_left
      · replace h := evR h; cases h
        refine zz ?_
        first | exact ⟨trivial, [], [], ⟨rfl, trivial⟩, _, rfl, _, rfl, And.intro rfl rfl⟩ | exact ⟨[], [], ⟨rfl, trivial⟩, _, rfl, _, rfl, And.intro rfl rfl⟩
      have h_ := gP h; clear h; obtain ⟨c, h⟩ := h_
      have h_ := evA h; clear h; obtain ⟨t39, ht, h⟩ := h_
      refine zz ?_
      refine Exists.intro _ (And.intro (ih _ (h := ht) (hk := zfuel)) ?_)
      refine zz ?_
      refine brN (iP h) ?_ ?_ <;> (clear h; intro c h)
      · replace h := evR h; cases h
        refine zz ?_
        first | exact ⟨trivial, [], [], ⟨rfl, trivial⟩, _, rfl, _, rfl, And.intro rfl rfl⟩ | exact ⟨[], [], ⟨rfl, trivial⟩, _, rfl, _, rfl, And.intro rfl rfl⟩
      replace h := evT h
      refine zz ?_
      exact ⟨_, zfuel, _, _, _, _, _, h, leafFr [1, 5] (by kernel_rfl), by kernel_rfl⟩
theorem spec_l10Rexes_ev (a0_0 : Int) (a0_1 : Int) (a0_2 : ByteArray) (l0_3 : List S38) (r : Bool) (h : spec_l10Rexes.fv a0_0 a0_1 a0_2 l0_3 = some r) : CE (G m_) 15 [.val (.agg [.int .i64 a0_0, .int .i64 a0_1, .str a0_2, .row (l0_3.map e38)])] [] [.val (.bool r)] [] := by
  obtain ⟨k, h⟩ := lim_ex h
  exact (spec_l10Rexes_all (k + 1)) k _ _ _ _ _ h (Nat.lt_succ_self k)
theorem spec_Check_ev (l0 : List S40) (r : Int) (h : spec_Check.fv l0 = some r) : CE (G m_) 5 [.val (.row (l0.map e40))] [] [.val (.int .i64 r)] [] := by
  obtain ⟨k, h⟩ := lim_ex h
  refine CE.mk ⟨Tryz.f5, _, rfl, rfl, ⟨by kernel_rfl, Nat.le_of_ble_eq_true rfl, Nat.le_of_ble_eq_true rfl⟩, ?_⟩
  rcases k with _ | k
  · exact (run_zero h).elim
  rw [run_succ, spec_Check.B] at h
  have h_ := evO h; clear h; obtain ⟨t10, ht, h⟩ := h_
  refine zz ?_
  refine Exists.intro _ (And.intro (spec_Tidy_ev (h := ht)) ?_)
  refine zz ?_
  refine brN (iP h) ?_ ?_ <;> (clear h; intro c h)
  · replace h := evR h; cases h
    refine zz ?_
    first | exact ⟨trivial, [], [], ⟨rfl, trivial⟩, _, rfl, _, rfl, And.intro rfl rfl⟩ | exact ⟨[], [], ⟨rfl, trivial⟩, _, rfl, _, rfl, And.intro rfl rfl⟩
  replace h := evT h
  refine zz ?_
  refine loopJ [] (fun kq fr hp => ∃ (x0 : List S40) (x3 : Int), run spec_Check.B kq (.l0 x0 x3) = some r ∧ (∃ fr0, fr = puts [(0, .one (.val (.row (x0.map e40)))), (3, .one (.val (.int .i64 x3)))] fr0) ∧ hp = (fun _ => none)) k ⟨_, zfuel, _, _, h, leafFr [0, 3] (by kernel_rfl), by kernel_rfl⟩ ?_
  clear h; rintro k hle _ _ ⟨x0, x3, h, ⟨fr0, rfl⟩, rfl⟩
  rcases k with _ | k
  · exact (run_zero h).elim
  rw [run_succ, spec_Check.B] at h
  refine zz ?_
  refine br (iP h) ?_ ?_ <;> (clear h; intro c h)
  · refine zz ?_
    refine cutJ (n := 200006) [] (fun fr hp => ∃ kq, kq ≤ k ∧ ∃ (x0 : List S40) (x3 : Int) (x35 : Bool), run spec_Check.B kq (.j0 x0 x3 x35) = some r ∧ (∃ fr0, fr = puts [(0, .one (.val (.row (x0.map e40)))), (3, .one (.val (.int .i64 x3))), (35, .one (.val (.bool x35)))] fr0) ∧ hp = (fun _ => none)) ?_ ?_
    · have h_ := gP h; clear h; obtain ⟨c, h⟩ := h_
      refine zz ?_
      refine br (iP h) ?_ ?_ <;> (clear h; intro c h)
      rotate_left
      · refine zz ?_
        try (apply Or.inr; refine zK ?_)
        refine zz ?_
        try (apply Or.inr; refine zK ?_)
        refine zz ?_
        try (apply Or.inr; refine zK ?_)
        refine zz ?_
        try (apply Or.inr; refine zK ?_)
        replace h := evT h
        refine zz ?_
        exact ⟨_, zfuel, _, _, _, h, leafFr [0, 3, 35] (by kernel_rfl), by kernel_rfl⟩
      refine zz ?_
      try (apply Or.inl; refine zK ?_)
      refine zz ?_
      try (apply Or.inl; refine zK ?_)
      refine zz ?_
      refine brW (iP h) ?_ ?_ <;> (clear h; intro c h)
      rotate_left
      · refine zz ?_
        try (apply Or.inr; refine zK ?_)
        refine zz ?_
        try (apply Or.inr; refine zK ?_)
        refine zz ?_
        try (apply Or.inr; refine zK ?_)
        refine zz ?_
        try (apply Or.inr; refine zK ?_)
        refine zz ?_
        try (apply Or.inr; refine zK ?_)
        refine zz ?_
        try (apply Or.inl; refine zK ?_)
        refine zz ?_
        try (apply Or.inl; refine zK ?_)
        refine zz ?_
        try (apply Or.inl; refine zK ?_)
        replace h := evT h
        refine zz ?_
        exact ⟨_, zfuel, _, _, _, h, leafFr [0, 3, 35] (by kernel_rfl), by kernel_rfl⟩
      refine zz ?_
      try (apply Or.inl; refine zK ?_)
      refine zz ?_
      try (apply Or.inl; refine zK ?_)
      refine zz ?_
      try (apply Or.inl; refine zK ?_)
      refine zz ?_
      try (apply Or.inl; refine zK ?_)
      refine zz ?_
      try (apply Or.inl; refine zK ?_)
      have h_ := evO h; clear h; obtain ⟨t33, ht, h⟩ := h_
      refine zz ?_
      refine Exists.intro _ (And.intro (spec_l10Line_ev (h := ht)) ?_)
      refine zz ?_
      try (apply Or.inl; refine zK ?_)
      refine zz ?_
      try (apply Or.inr; refine zK ?_)
      refine zz ?_
      try (apply Or.inl; refine zK ?_)
      replace h := evT h
      refine zz ?_
      exact ⟨_, zfuel, _, _, _, h, leafFr [0, 3, 35] (by kernel_rfl), by kernel_rfl⟩
    clear h; rintro _ _ ⟨k, hle, x0, x3, x35, h, ⟨fr0, rfl⟩, rfl⟩
    rcases k with _ | k
    · exact (run_zero h).elim
    rw [run_succ, spec_Check.B] at h
    refine zz ?_
    refine br (iP h) ?_ ?_ <;> (clear h; intro c h)
    · replace h := evR h; cases h
      refine zz ?_
      first | exact ⟨trivial, [], [], ⟨rfl, trivial⟩, _, rfl, _, rfl, And.intro rfl rfl⟩ | exact ⟨[], [], ⟨rfl, trivial⟩, _, rfl, _, rfl, And.intro rfl rfl⟩
    replace h := evT h
    refine zz ?_
    exact ⟨_, zfuel, _, _, h, leafFr [0, 3] (by kernel_rfl), by kernel_rfl⟩
  have h_ := evO h; clear h; obtain ⟨t38, ht, h⟩ := h_
  refine zz ?_
  refine Exists.intro _ (And.intro (spec_Names_ev (h := ht)) ?_)
  refine zz ?_
  refine cutJ (n := 48) [] (fun fr hp => ∃ kq, kq ≤ k ∧ ∃ (x0 : List S40) (x4 : List ByteArray) (x5 : List ByteArray), run spec_Check.B kq (.j1 x0 x4 x5) = some r ∧ (∃ fr0, fr = puts [(0, .one (.val (.row (x0.map e40)))), (4, .one (.val (.row (x4.map VV.str)))), (5, .one (.val (.row (x5.map VV.str))))] fr0) ∧ hp = (fun _ => none)) ?_ ?_
  · refine zz ?_
    refine cutJ (n := 200009) [] (fun fr hp => ∃ kq, kq ≤ k ∧ ∃ (x0 : List S40) (x4 : List ByteArray) (x5 : List ByteArray) (x48 : Bool), run spec_Check.B kq (.j2 x0 x4 x5 x48) = some r ∧ (∃ fr0, fr = puts [(0, .one (.val (.row (x0.map e40)))), (4, .one (.val (.row (x4.map VV.str)))), (5, .one (.val (.row (x5.map VV.str)))), (48, .one (.val (.bool x48)))] fr0) ∧ hp = (fun _ => none)) ?_ ?_
    · refine zz ?_
      refine brW (iP h) ?_ ?_ <;> (clear h; intro c h)
      · refine zz ?_
        try (apply Or.inl; refine zK ?_)
        refine zz ?_
        try (apply Or.inl; refine zK ?_)
        refine zz ?_
        try (apply Or.inr; refine zK ?_)
        replace h := evT h
        refine zz ?_
        exact ⟨_, zfuel, _, _, _, _, h, leafFr [0, 4, 5, 48] (by kernel_rfl), by kernel_rfl⟩
      refine zz ?_
      try (apply Or.inr; refine zK ?_)
      refine zz ?_
      try (apply Or.inr; refine zK ?_)
      refine zz ?_
      try (apply Or.inl; refine zK ?_)
      replace h := evT h
      refine zz ?_
      exact ⟨_, zfuel, _, _, _, _, h, leafFr [0, 4, 5, 48] (by kernel_rfl), by kernel_rfl⟩
    clear h; rintro _ _ ⟨k, hle, x0, x4, x5, x48, h, ⟨fr0, rfl⟩, rfl⟩
    rcases k with _ | k
    · exact (run_zero h).elim
    rw [run_succ, spec_Check.B] at h
    refine zz ?_
    refine br (iP h) ?_ ?_ <;> (clear h; intro c h)
    · replace h := evR h; cases h
      refine zz ?_
      first | exact ⟨trivial, [], [], ⟨rfl, trivial⟩, _, rfl, _, rfl, And.intro rfl rfl⟩ | exact ⟨[], [], ⟨rfl, trivial⟩, _, rfl, _, rfl, And.intro rfl rfl⟩
    replace h := evT h
    refine zz ?_
    exact ⟨_, zfuel, _, _, _, h, leafFr [0, 4, 5] (by kernel_rfl), by kernel_rfl⟩
  clear h; rintro _ _ ⟨k, hle, x0, x4, x5, h, ⟨fr0, rfl⟩, rfl⟩
  rcases k with _ | k
  · exact (run_zero h).elim
  rw [run_succ, spec_Check.B] at h
  replace h := evT h
  refine zz ?_
  refine loopJ [] (fun kq fr hp => ∃ (x0 : List S40) (x4 : List ByteArray) (x5 : List ByteArray) (x6 : Int), run spec_Check.B kq (.l1 x0 x4 x5 x6) = some r ∧ (∃ fr0, fr = puts [(0, .one (.val (.row (x0.map e40)))), (4, .one (.val (.row (x4.map VV.str)))), (5, .one (.val (.row (x5.map VV.str)))), (6, .one (.val (.int .i64 x6)))] fr0) ∧ hp = (fun _ => none)) k ⟨_, zfuel, _, _, _, _, h, leafFr [0, 4, 5, 6] (by kernel_rfl), by kernel_rfl⟩ ?_
  clear h; rintro k hle _ _ ⟨x0, x4, x5, x6, h, ⟨fr0, rfl⟩, rfl⟩
  rcases k with _ | k
  · exact (run_zero h).elim
  rw [run_succ, spec_Check.B] at h
  refine zz ?_
  refine br (iP h) ?_ ?_ <;> (clear h; intro c h)
  · have h_ := gP h; clear h; obtain ⟨c, h⟩ := h_
    have h_ := evO h; clear h; obtain ⟨t60, ht, h⟩ := h_
    refine zz ?_
    refine Exists.intro _ (And.intro (spec_l7Within_ev (h := ht)) ?_)
    refine zz ?_
    refine br (iP h) ?_ ?_ <;> (clear h; intro c h)
    · replace h := evR h; cases h
      refine zz ?_
      first | exact ⟨trivial, [], [], ⟨rfl, trivial⟩, _, rfl, _, rfl, And.intro rfl rfl⟩ | exact ⟨[], [], ⟨rfl, trivial⟩, _, rfl, _, rfl, And.intro rfl rfl⟩
    replace h := evT h
    refine zz ?_
    exact ⟨_, zfuel, _, _, _, _, h, leafFr [0, 4, 5, 6] (by kernel_rfl), by kernel_rfl⟩
  replace h := evT h
  refine zz ?_
  refine loopJ [] (fun kq fr hp => ∃ (x0 : List S40) (x7 : Int), run spec_Check.B kq (.l2 x0 x7) = some r ∧ (∃ fr0, fr = puts [(0, .one (.val (.row (x0.map e40)))), (7, .one (.val (.int .i64 x7)))] fr0) ∧ hp = (fun _ => none)) k ⟨_, zfuel, _, _, h, leafFr [0, 7] (by kernel_rfl), by kernel_rfl⟩ ?_
  clear h; rintro k hle _ _ ⟨x0, x7, h, ⟨fr0, rfl⟩, rfl⟩
  rcases k with _ | k
  · exact (run_zero h).elim
  rw [run_succ, spec_Check.B] at h
  refine zz ?_
  refine br (iP h) ?_ ?_ <;> (clear h; intro c h)
  · refine zz ?_
    refine cutJ (n := 200019) [] (fun fr hp => ∃ kq, kq ≤ k ∧ ∃ (x0 : List S40) (x7 : Int) (x82 : Bool), run spec_Check.B kq (.j3 x0 x7 x82) = some r ∧ (∃ fr0, fr = puts [(0, .one (.val (.row (x0.map e40)))), (7, .one (.val (.int .i64 x7))), (82, .one (.val (.bool x82)))] fr0) ∧ hp = (fun _ => none)) ?_ ?_
    · have h_ := gP h; clear h; obtain ⟨c, h⟩ := h_
      have h_ := evO h; clear h; obtain ⟨t72, ht, h⟩ := h_
      refine zz ?_
      refine Exists.intro _ (And.intro (spec_l10Args_ev (h := ht)) ?_)
      refine zz ?_
      refine brX (iP h) ?_ ?_ <;> (clear h; intro c h)
      rotate_left
      · refine zz ?_
        try (apply Or.inr; refine zK ?_)
        refine zz ?_
        try (apply Or.inr; refine zK ?_)
        refine zz ?_
        try (apply Or.inr; refine zK ?_)
        refine zz ?_
        try (apply Or.inr; refine zK ?_)
        refine zz ?_
        try (apply Or.inr; refine zK ?_)
        refine zz ?_
        try (apply Or.inr; refine zK ?_)
        refine zz ?_
        try (apply Or.inl; refine zK ?_)
        replace h := evT h
        refine zz ?_
        exact ⟨_, zfuel, _, _, _, h, leafFr [0, 7, 82] (by kernel_rfl), by kernel_rfl⟩
      refine zz ?_
      try (apply Or.inl; refine zK ?_)
      refine zz ?_
      try (apply Or.inl; refine zK ?_)
      refine zz ?_
      try (apply Or.inl; refine zK ?_)
      refine zz ?_
      try (apply Or.inl; refine zK ?_)
      refine zz ?_
      try (apply Or.inl; refine zK ?_)
      have h_ := evO h; clear h; obtain ⟨t80, ht, h⟩ := h_
      refine zz ?_
      refine Exists.intro _ (And.intro (spec_l10Args_ev (h := ht)) ?_)
      refine zz ?_
      try (apply Or.inl; refine zK ?_)
      refine zz ?_
      try (apply Or.inr; refine zK ?_)
      replace h := evT h
      refine zz ?_
      exact ⟨_, zfuel, _, _, _, h, leafFr [0, 7, 82] (by kernel_rfl), by kernel_rfl⟩
    clear h; rintro _ _ ⟨k, hle, x0, x7, x82, h, ⟨fr0, rfl⟩, rfl⟩
    rcases k with _ | k
    · exact (run_zero h).elim
    rw [run_succ, spec_Check.B] at h
    refine zz ?_
    refine br (iP h) ?_ ?_ <;> (clear h; intro c h)
    · replace h := evR h; cases h
      refine zz ?_
      first | exact ⟨trivial, [], [], ⟨rfl, trivial⟩, _, rfl, _, rfl, And.intro rfl rfl⟩ | exact ⟨[], [], ⟨rfl, trivial⟩, _, rfl, _, rfl, And.intro rfl rfl⟩
    replace h := evT h
    refine zz ?_
    exact ⟨_, zfuel, _, _, h, leafFr [0, 7] (by kernel_rfl), by kernel_rfl⟩
  replace h := evT h
  refine zz ?_
  refine loopJ [] (fun kq fr hp => ∃ (x0 : List S40) (x8 : Int), run spec_Check.B kq (.l3 x0 x8) = some r ∧ (∃ fr0, fr = puts [(0, .one (.val (.row (x0.map e40)))), (8, .one (.val (.int .i64 x8)))] fr0) ∧ hp = (fun _ => none)) k ⟨_, zfuel, _, _, h, leafFr [0, 8] (by kernel_rfl), by kernel_rfl⟩ ?_
  clear h; rintro k hle _ _ ⟨x0, x8, h, ⟨fr0, rfl⟩, rfl⟩
  rcases k with _ | k
  · exact (run_zero h).elim
  rw [run_succ, spec_Check.B] at h
  refine zz ?_
  refine br (iP h) ?_ ?_ <;> (clear h; intro c h)
  rotate_left
  · replace h := evR h; cases h
    refine zz ?_
    first | exact ⟨trivial, [], [], ⟨rfl, trivial⟩, _, rfl, _, rfl, And.intro rfl rfl⟩ | exact ⟨[], [], ⟨rfl, trivial⟩, _, rfl, _, rfl, And.intro rfl rfl⟩
  refine zz ?_
  refine cutJ (n := 200024) [] (fun fr hp => ∃ kq, kq ≤ k ∧ ∃ (x0 : List S40) (x8 : Int) (x104 : Bool), run spec_Check.B kq (.j4 x0 x8 x104) = some r ∧ (∃ fr0, fr = puts [(0, .one (.val (.row (x0.map e40)))), (8, .one (.val (.int .i64 x8))), (104, .one (.val (.bool x104)))] fr0) ∧ hp = (fun _ => none)) ?_ ?_
  · have h_ := gP h; clear h; obtain ⟨c, h⟩ := h_
    have h_ := evO h; clear h; obtain ⟨t94, ht, h⟩ := h_
    refine zz ?_
    refine Exists.intro _ (And.intro (spec_l10Rexes_ev (h := ht)) ?_)
    refine zz ?_
    refine brX (iP h) ?_ ?_ <;> (clear h; intro c h)
    rotate_left
    · refine zz ?_
      try (apply Or.inr; refine zK ?_)
      refine zz ?_
      try (apply Or.inr; refine zK ?_)
      refine zz ?_
      try (apply Or.inr; refine zK ?_)
      refine zz ?_
      try (apply Or.inr; refine zK ?_)
      refine zz ?_
      try (apply Or.inr; refine zK ?_)
      refine zz ?_
      try (apply Or.inr; refine zK ?_)
      refine zz ?_
      try (apply Or.inl; refine zK ?_)
      replace h := evT h
      refine zz ?_
      exact ⟨_, zfuel, _, _, _, h, leafFr [0, 8, 104] (by kernel_rfl), by kernel_rfl⟩
    refine zz ?_
    try (apply Or.inl; refine zK ?_)
    refine zz ?_
    try (apply Or.inl; refine zK ?_)
    refine zz ?_
    try (apply Or.inl; refine zK ?_)
    refine zz ?_
    try (apply Or.inl; refine zK ?_)
    refine zz ?_
    try (apply Or.inl; refine zK ?_)
    have h_ := evO h; clear h; obtain ⟨t102, ht, h⟩ := h_
    refine zz ?_
    refine Exists.intro _ (And.intro (spec_l10Rexes_ev (h := ht)) ?_)
    refine zz ?_
    try (apply Or.inl; refine zK ?_)
    refine zz ?_
    try (apply Or.inr; refine zK ?_)
    replace h := evT h
    refine zz ?_
    exact ⟨_, zfuel, _, _, _, h, leafFr [0, 8, 104] (by kernel_rfl), by kernel_rfl⟩
  clear h; rintro _ _ ⟨k, hle, x0, x8, x104, h, ⟨fr0, rfl⟩, rfl⟩
  rcases k with _ | k
  · exact (run_zero h).elim
  rw [run_succ, spec_Check.B] at h
  refine zz ?_
  refine br (iP h) ?_ ?_ <;> (clear h; intro c h)
  · replace h := evR h; cases h
    refine zz ?_
    first | exact ⟨trivial, [], [], ⟨rfl, trivial⟩, _, rfl, _, rfl, And.intro rfl rfl⟩ | exact ⟨[], [], ⟨rfl, trivial⟩, _, rfl, _, rfl, And.intro rfl rfl⟩
  replace h := evT h
  refine zz ?_
  exact ⟨_, zfuel, _, _, h, leafFr [0, 8] (by kernel_rfl), by kernel_rfl⟩
theorem impl_Names_1_ev {n0 : Nat} {n1 : Nat} (a0_0 : Int) (a0_1 : Int) (a0_2 : ByteArray) (l0_3 : List S38) (l1_0 : List ByteArray) (l2_0 : List ByteArray) (r1 : List ByteArray) (r2 : List ByteArray) (h : impl_Names_1.fv a0_0 a0_1 a0_2 l0_3 l1_0 l2_0 = some (r1, r2)) : CE (G m_) 37 [.val (.agg [.int .i64 a0_0, .int .i64 a0_1, .str a0_2, .row (l0_3.map e38)]), .ptr 2 0, .ptr 3 0] [.own 9 1 (l1_0.map VV.str) n0 false, .own 9 1 (l2_0.map VV.str) n1 false, .box [.ref 0 n0], .box [.ref 1 n1]] [] [.own 9 1 (r1.map VV.str) (n0 + 1) false, .own 9 1 (r2.map VV.str) (n1 + 1) false, .box [.ref 0 (n0 + 1)], .box [.ref 1 (n1 + 1)]] := by
  obtain ⟨k, h⟩ := lim_ex h
  refine CE.mk ⟨Tryz.f37, _, rfl, rfl, ⟨by kernel_rfl, Nat.le_of_ble_eq_true rfl, Nat.le_of_ble_eq_true rfl⟩, ?_⟩
  rcases k with _ | k
  · exact (run_zero h).elim
  rw [run_succ, impl_Names_1.B] at h
  refine zz ?_
  refine br (iP h) ?_ ?_ <;> (clear h; intro c h)
  · refine zz ?_
    refine Exists.intro (List.map VV.str ([a0_2] : List ByteArray)) (And.intro zrow ?_)
    have h_ := gP h; clear h; obtain ⟨c, h⟩ := h_
    refine zz ?_
    refine Exists.intro (List.map VV.str (l1_0 ++ [a0_2])) (And.intro zrow ?_)
    replace h := evR h; cases h
    refine zz ?_
    first | refine ⟨trivial, [], [(0, n0 + 1, n0 + 1), (1, n1, n1 + 1)], ⟨rfl, ⟨rfl, ⟨rfl, trivial⟩⟩⟩, _, rfl, _, rfl, ?_⟩ | refine ⟨[], [(0, n0 + 1, n0 + 1), (1, n1, n1 + 1)], ⟨rfl, ⟨rfl, ⟨rfl, trivial⟩⟩⟩, _, rfl, _, rfl, ?_⟩
    repeat' (first | (refine And.intro ?_ ?_) | rfl)
  refine zz ?_
  refine cutJ (n := 13) [0, 1, 2, 3, 16] (fun fr hp => ∃ kq, kq ≤ k ∧ ∃ (x13 : Bool) (y0 : List ByteArray) (y1 : List ByteArray) (x16_0 : Int) (x16_1 : Int) (x16_2 : ByteArray) (x16_3 : List S38) (g0 : Nat) (g1 : Nat), run impl_Names_1.B kq (.j0 x13 y0 y1 x16_0 x16_1 x16_2 x16_3) = some (r1, r2) ∧ (∃ fr0, fr = puts [(2, .one (.ptr 3 0)), (3, .one (.ptr 16 0)), (13, .one (.val (.bool x13)))] fr0) ∧ hp = (upd 0 (.own 9 1 (y0.map VV.str) g0 false) (upd 1 (.own 9 1 (y1.map VV.str) g1 false) (upd 2 (.box [.ref 0 g0]) (upd 3 (.box [.ref 1 g1]) (upd 16 (.box [.val (.int .i64 x16_0), .val (.int .i64 x16_1), .val (.str x16_2), .val (.row (x16_3.map e38))]) (fun _ => none))))))) ?_ ?_
  · refine zz ?_
    refine br (iP h) ?_ ?_ <;> (clear h; intro c h)
    · replace h := evT h
      refine zz ?_
      exact ⟨_, zfuel, _, _, _, _, _, _, _, n0, n1, h, leafFr [2, 3, 13] (by kernel_rfl), by kernel_rfl⟩
    replace h := evT h
    refine zz ?_
    exact ⟨_, zfuel, _, _, _, _, _, _, _, n0, n1, h, leafFr [2, 3, 13] (by kernel_rfl), by kernel_rfl⟩
  clear h; rintro _ _ ⟨k, hle, x13, y0, y1, x16_0, x16_1, x16_2, x16_3, g0, g1, h, ⟨fr0, rfl⟩, rfl⟩
  rcases k with _ | k
  · exact (run_zero h).elim
  rw [run_succ, impl_Names_1.B] at h
  refine zz ?_
  refine br (iP h) ?_ ?_ <;> (clear h; intro c h)
  rotate_left
  · replace h := evR h; cases h
    refine zz ?_
    first | refine ⟨trivial, [], [(0, g0, n0 + 1), (1, g1, n1 + 1)], ⟨rfl, ⟨rfl, ⟨rfl, trivial⟩⟩⟩, _, rfl, _, rfl, ?_⟩ | refine ⟨[], [(0, g0, n0 + 1), (1, g1, n1 + 1)], ⟨rfl, ⟨rfl, ⟨rfl, trivial⟩⟩⟩, _, rfl, _, rfl, ?_⟩
    repeat' (first | (refine And.intro ?_ ?_) | rfl)
  refine zz ?_
  refine Exists.intro (List.map VV.str ([x16_2] : List ByteArray)) (And.intro zrow ?_)
  have h_ := gP h; clear h; obtain ⟨c, h⟩ := h_
  refine zz ?_
  refine Exists.intro (List.map VV.str (y1 ++ [x16_2])) (And.intro zrow ?_)
  replace h := evR h; cases h
  refine zz ?_
  first | refine ⟨trivial, [], [(0, g0, n0 + 1), (1, g1 + 1, n1 + 1)], ⟨rfl, ⟨rfl, ⟨rfl, trivial⟩⟩⟩, _, rfl, _, rfl, ?_⟩ | refine ⟨[], [(0, g0, n0 + 1), (1, g1 + 1, n1 + 1)], ⟨rfl, ⟨rfl, ⟨rfl, trivial⟩⟩⟩, _, rfl, _, rfl, ?_⟩
  repeat' (first | (refine And.intro ?_ ?_) | rfl)
theorem impl_each__impl_Names_1_all : ∀ n, (∀ (k : Nat) {n0 : Nat} {n1 : Nat} (a0_0 : Int) (a0_1 : Int) (a0_2 : ByteArray) (l0_3 : List S38) (l1q0_0 : List ByteArray) (l1q1_0 : List ByteArray) (r1 : List ByteArray) (r2 : List ByteArray) (h : run impl_each__impl_Names_1.B k (.f a0_0 a0_1 a0_2 l0_3 l1q0_0 l1q1_0) = some (r1, r2)) (hk : k < n), CE (G m_) 62 [.val (.agg [.int .i64 a0_0, .int .i64 a0_1, .str a0_2, .row (l0_3.map e38)]), .fn 37 [2, 3]] [.own 9 1 (l1q0_0.map VV.str) n0 false, .own 9 1 (l1q1_0.map VV.str) n1 false, .box [.ref 0 n0], .box [.ref 1 n1]] [] [.own 9 1 (r1.map VV.str) (n0 + 1) false, .own 9 1 (r2.map VV.str) (n1 + 1) false, .box [.ref 0 (n0 + 1)], .box [.ref 1 (n1 + 1)]]) := by
  intro n
  induction n with
  | zero => exact (by intros; omega)
  | succ n ih =>
    · intro k n0 n1 a0_0 a0_1 a0_2 l0_3 l1q0_0 l1q1_0 r1 r2 h hk
      refine CE.mk ⟨Tryz.f62, _, rfl, rfl, ⟨by kernel_rfl, Nat.le_of_ble_eq_true rfl, Nat.le_of_ble_eq_true rfl⟩, ?_⟩
      rcases k with _ | k
      · exact (run_zero h).elim
      rw [run_succ, impl_each__impl_Names_1.B] at h
      have h_ := evO h; clear h; obtain ⟨t8, ht, h⟩ := h_
      refine zz ?_
      refine Exists.intro _ (Exists.intro _ (And.intro (impl_Names_1_ev (h := ht)) ?_))
      replace h := evT h
      refine zz ?_
      refine loopJ [0, 1, 2, 3] (fun kq fr hp => ∃ (x10 : List S38) (x11 : Int) (x12 : Int) (y0 : List ByteArray) (y1 : List ByteArray) (g0 : Nat) (g1 : Nat), run impl_each__impl_Names_1.B kq (.l0 x10 x11 x12 y0 y1) = some (r1, r2) ∧ (∃ fr0, fr = puts [(1, .one (.fn 37 [2, 3])), (10, .one (.val (.row (x10.map e38)))), (11, .one (.val (.int .i64 x11))), (12, .one (.val (.int .i64 x12)))] fr0) ∧ hp = (upd 0 (.own 9 1 (y0.map VV.str) g0 false) (upd 1 (.own 9 1 (y1.map VV.str) g1 false) (upd 2 (.box [.ref 0 g0]) (upd 3 (.box [.ref 1 g1]) (fun _ => none)))))) k ⟨_, zfuel, _, _, _, _, _, (n0 + 1), (n1 + 1), h, leafFr [1, 10, 11, 12] (by kernel_rfl), by kernel_rfl⟩ ?_
      clear h; rintro k hle _ _ ⟨x10, x11, x12, y0, y1, g0, g1, h, ⟨fr0, rfl⟩, rfl⟩
      rcases k with _ | k
      · exact (run_zero h).elim
      rw [run_succ, impl_each__impl_Names_1.B] at h
      refine zz ?_
      refine br (iP h) ?_ ?_ <;> (clear h; intro c h)
      rotate_left
      · replace h := evR h; cases h
        refine zz ?_
        first | refine ⟨trivial, [], [(0, g0, n0 + 1), (1, g1, n1 + 1)], ⟨rfl, ⟨rfl, ⟨rfl, trivial⟩⟩⟩, _, rfl, _, rfl, ?_⟩ | refine ⟨[], [(0, g0, n0 + 1), (1, g1, n1 + 1)], ⟨rfl, ⟨rfl, ⟨rfl, trivial⟩⟩⟩, _, rfl, _, rfl, ?_⟩
        repeat' (first | (refine And.intro ?_ ?_) | rfl)
      have h_ := gP h; clear h; obtain ⟨c, h⟩ := h_
      have h_ := gP h; clear h; obtain ⟨c, h⟩ := h_
      have h_ := evA h; clear h; obtain ⟨t18, ht, h⟩ := h_
      refine zz ?_
      refine Exists.intro _ (Exists.intro _ (And.intro (ih _ (h := ht) (hk := zfuel)) ?_))
      replace h := evT h
      refine zz ?_
      exact ⟨_, zfuel, _, _, _, _, _, (g0 + 1), (g1 + 1), h, leafFr [1, 10, 11, 12] (by kernel_rfl), by kernel_rfl⟩
theorem impl_each__impl_Names_1_ev {n0 : Nat} {n1 : Nat} (a0_0 : Int) (a0_1 : Int) (a0_2 : ByteArray) (l0_3 : List S38) (l1q0_0 : List ByteArray) (l1q1_0 : List ByteArray) (r1 : List ByteArray) (r2 : List ByteArray) (h : impl_each__impl_Names_1.fv a0_0 a0_1 a0_2 l0_3 l1q0_0 l1q1_0 = some (r1, r2)) : CE (G m_) 62 [.val (.agg [.int .i64 a0_0, .int .i64 a0_1, .str a0_2, .row (l0_3.map e38)]), .fn 37 [2, 3]] [.own 9 1 (l1q0_0.map VV.str) n0 false, .own 9 1 (l1q1_0.map VV.str) n1 false, .box [.ref 0 n0], .box [.ref 1 n1]] [] [.own 9 1 (r1.map VV.str) (n0 + 1) false, .own 9 1 (r2.map VV.str) (n1 + 1) false, .box [.ref 0 (n0 + 1)], .box [.ref 1 (n1 + 1)]] := by
  obtain ⟨k, h⟩ := lim_ex h
  exact (impl_each__impl_Names_1_all (k + 1)) k _ _ _ _ _ _ _ _ h (Nat.lt_succ_self k)
theorem impl_eachNode__impl_Names_1_ev {n0 : Nat} {n1 : Nat} (l0 : List S40) (l1q0_0 : List ByteArray) (l1q1_0 : List ByteArray) (r1 : List ByteArray) (r2 : List ByteArray) (h : impl_eachNode__impl_Names_1.fv l0 l1q0_0 l1q1_0 = some (r1, r2)) : CE (G m_) 36 [.val (.row (l0.map e40)), .fn 37 [2, 3]] [.own 9 1 (l1q0_0.map VV.str) n0 false, .own 9 1 (l1q1_0.map VV.str) n1 false, .box [.ref 0 n0], .box [.ref 1 n1]] [] [.own 9 1 (r1.map VV.str) (n0 + 1) false, .own 9 1 (r2.map VV.str) (n1 + 1) false, .box [.ref 0 (n0 + 1)], .box [.ref 1 (n1 + 1)]] := by
  obtain ⟨k, h⟩ := lim_ex h
  refine CE.mk ⟨Tryz.f36, _, rfl, rfl, ⟨by kernel_rfl, Nat.le_of_ble_eq_true rfl, Nat.le_of_ble_eq_true rfl⟩, ?_⟩
  rcases k with _ | k
  · exact (run_zero h).elim
  rw [run_succ, impl_eachNode__impl_Names_1.B] at h
  replace h := evT h
  refine zz ?_
  refine loopJ [0, 1, 2, 3] (fun kq fr hp => ∃ (x6 : List S40) (x7 : Int) (x8 : Int) (y0 : List ByteArray) (y1 : List ByteArray) (g0 : Nat) (g1 : Nat), run impl_eachNode__impl_Names_1.B kq (.l0 x6 x7 x8 y0 y1) = some (r1, r2) ∧ (∃ fr0, fr = puts [(1, .one (.fn 37 [2, 3])), (6, .one (.val (.row (x6.map e40)))), (7, .one (.val (.int .i64 x7))), (8, .one (.val (.int .i64 x8)))] fr0) ∧ hp = (upd 0 (.own 9 1 (y0.map VV.str) g0 false) (upd 1 (.own 9 1 (y1.map VV.str) g1 false) (upd 2 (.box [.ref 0 g0]) (upd 3 (.box [.ref 1 g1]) (fun _ => none)))))) k ⟨_, zfuel, _, _, _, _, _, n0, n1, h, leafFr [1, 6, 7, 8] (by kernel_rfl), by kernel_rfl⟩ ?_
  clear h; rintro k hle _ _ ⟨x6, x7, x8, y0, y1, g0, g1, h, ⟨fr0, rfl⟩, rfl⟩
  rcases k with _ | k
  · exact (run_zero h).elim
  rw [run_succ, impl_eachNode__impl_Names_1.B] at h
  refine zz ?_
  refine br (iP h) ?_ ?_ <;> (clear h; intro c h)
  rotate_left
  · replace h := evR h; cases h
    refine zz ?_
    first | refine ⟨trivial, [], [(0, g0, n0 + 1), (1, g1, n1 + 1)], ⟨rfl, ⟨rfl, ⟨rfl, trivial⟩⟩⟩, _, rfl, _, rfl, ?_⟩ | refine ⟨[], [(0, g0, n0 + 1), (1, g1, n1 + 1)], ⟨rfl, ⟨rfl, ⟨rfl, trivial⟩⟩⟩, _, rfl, _, rfl, ?_⟩
    repeat' (first | (refine And.intro ?_ ?_) | rfl)
  have h_ := gP h; clear h; obtain ⟨c, h⟩ := h_
  have h_ := gP h; clear h; obtain ⟨c, h⟩ := h_
  have h_ := evO h; clear h; obtain ⟨t15, ht, h⟩ := h_
  refine zz ?_
  refine Exists.intro _ (Exists.intro _ (And.intro (impl_each__impl_Names_1_ev (h := ht)) ?_))
  have h_ := evO h; clear h; obtain ⟨t19, ht, h⟩ := h_
  refine zz ?_
  refine Exists.intro _ (Exists.intro _ (And.intro (impl_each__impl_Names_1_ev (h := ht)) ?_))
  replace h := evT h
  refine zz ?_
  exact ⟨_, zfuel, _, _, _, _, _, (g0 + 1 + 1), (g1 + 1 + 1), h, leafFr [1, 6, 7, 8] (by kernel_rfl), by kernel_rfl⟩
theorem impl_sorted_ev {n0 : Nat} (l0 : List ByteArray) (r : List ByteArray) (h : impl_sorted.f l0 = some r) : CE (G m_) 38 [.ref 0 n0] [.own 9 1 (l0.map VV.str) n0 false] [.ref 0 (n0 + 1)] [.own 9 1 (r.map VV.str) (n0 + 1) false] := by
  refine CE.mk ⟨Tryz.f38, _, rfl, rfl, ⟨by kernel_rfl, Nat.le_of_ble_eq_true rfl, Nat.le_of_ble_eq_true rfl⟩, ?_⟩
  rw [impl_sorted.f] at h
  have h_ := oS h; clear h; obtain ⟨t4, ht, h⟩ := h_
  refine zz ?_
  refine Exists.intro _ (Exists.intro _ (And.intro (orc63 (h := ht)) ?_))
  have h_ := oS h; clear h; obtain ⟨t6, ht, h⟩ := h_
  refine zz ?_
  refine Exists.intro _ (Exists.intro _ (And.intro (orc64 (h := ht)) ?_))
  cases h
  refine zz ?_
  first | refine ⟨trivial, [], [(0, n0 + 1, n0 + 1)], ⟨rfl, ⟨rfl, trivial⟩⟩, _, rfl, _, rfl, ?_⟩ | refine ⟨[], [(0, n0 + 1, n0 + 1)], ⟨rfl, ⟨rfl, trivial⟩⟩, _, rfl, _, rfl, ?_⟩
  repeat' (first | (refine And.intro ?_ ?_) | rfl)
theorem impl_Names_ev (l0 : List S40) (r1 : List ByteArray) (r2 : List ByteArray) (h : impl_Names.fv l0 = some (r1, r2)) : CE (G m_) 17 [.val (.row (l0.map e40))] [] [.val (.row (r1.map VV.str)), .val (.row (r2.map VV.str))] [] := by
  refine CE.mk ⟨Tryz.f17, _, rfl, rfl, ⟨by kernel_rfl, Nat.le_of_ble_eq_true rfl, Nat.le_of_ble_eq_true rfl⟩, ?_⟩
  rw [impl_Names.fv] at h
  refine zz ?_
  refine Exists.intro (List.map VV.str ([] : List ByteArray)) (And.intro zrow ?_)
  refine zz ?_
  refine Exists.intro (List.map VV.str ([] : List ByteArray)) (And.intro zrow ?_)
  have h_ := oS h; clear h; obtain ⟨t10, ht, h⟩ := h_
  refine zz ?_
  refine Exists.intro _ (Exists.intro _ (And.intro (impl_eachNode__impl_Names_1_ev (h := ht)) ?_))
  have h_ := oS h; clear h; obtain ⟨t12, ht, h⟩ := h_
  refine zz ?_
  refine Exists.intro _ (Exists.intro _ (And.intro (impl_sorted_ev (h := ht)) ?_))
  have h_ := oS h; clear h; obtain ⟨t14, ht, h⟩ := h_
  refine zz ?_
  refine Exists.intro _ (Exists.intro _ (And.intro (impl_sorted_ev (h := ht)) ?_))
  cases h
  refine zz ?_
  first | exact ⟨trivial, [], [], ⟨rfl, trivial⟩, _, rfl, _, rfl, And.intro rfl rfl⟩ | exact ⟨[], [], ⟨rfl, trivial⟩, _, rfl, _, rfl, And.intro rfl rfl⟩
theorem impl_Deep_all : ∀ n, (∀ (k : Nat) (a0_0 : Int) (a0_1 : Int) (a0_2 : ByteArray) (l0_3 : List S38) (r : Int) (h : run impl_Deep.B k (.f a0_0 a0_1 a0_2 l0_3) = some r) (hk : k < n), CE (G m_) 41 [.val (.agg [.int .i64 a0_0, .int .i64 a0_1, .str a0_2, .row (l0_3.map e38)])] [] [.val (.int .i64 r)] []) := by
  intro n
  induction n with
  | zero => exact (by intros; omega)
  | succ n ih =>
    · intro k a0_0 a0_1 a0_2 l0_3 r h hk
      refine CE.mk ⟨Tryz.f41, _, rfl, rfl, ⟨by kernel_rfl, Nat.le_of_ble_eq_true rfl, Nat.le_of_ble_eq_true rfl⟩, ?_⟩
      rcases k with _ | k
      · exact (run_zero h).elim
      rw [run_succ, impl_Deep.B] at h
      replace h := evT h
      refine zz ?_
      refine loopJ [] (fun kq fr hp => ∃ (x3 : Int) (x7 : List S38) (x8 : Int) (x9 : Int), run impl_Deep.B kq (.l0 x3 x7 x8 x9) = some r ∧ (∃ fr0, fr = puts [(3, .one (.val (.int .i64 x3))), (7, .one (.val (.row (x7.map e38)))), (8, .one (.val (.int .i64 x8))), (9, .one (.val (.int .i64 x9)))] fr0) ∧ hp = (fun _ => none)) k ⟨_, zfuel, _, _, _, _, h, leafFr [3, 7, 8, 9] (by kernel_rfl), by kernel_rfl⟩ ?_
      clear h; rintro k hle _ _ ⟨x3, x7, x8, x9, h, ⟨fr0, rfl⟩, rfl⟩
      rcases k with _ | k
      · exact (run_zero h).elim
      rw [run_succ, impl_Deep.B] at h
      refine zz ?_
      refine br (iP h) ?_ ?_ <;> (clear h; intro c h)
      rotate_left
      · replace h := evR h; cases h
        refine zz ?_
        first | exact ⟨trivial, [], [], ⟨rfl, trivial⟩, _, rfl, _, rfl, And.intro rfl rfl⟩ | exact ⟨[], [], ⟨rfl, trivial⟩, _, rfl, _, rfl, And.intro rfl rfl⟩
      have h_ := gP h; clear h; obtain ⟨c, h⟩ := h_
      have h_ := gP h; clear h; obtain ⟨c, h⟩ := h_
      have h_ := evA h; clear h; obtain ⟨t15, ht, h⟩ := h_
      refine zz ?_
      refine Exists.intro _ (And.intro (ih _ (h := ht) (hk := zfuel)) ?_)
      replace h := evT h
      refine zz ?_
      exact ⟨_, zfuel, _, _, _, _, h, leafFr [3, 7, 8, 9] (by kernel_rfl), by kernel_rfl⟩
theorem impl_Deep_ev (a0_0 : Int) (a0_1 : Int) (a0_2 : ByteArray) (l0_3 : List S38) (r : Int) (h : impl_Deep.fv a0_0 a0_1 a0_2 l0_3 = some r) : CE (G m_) 41 [.val (.agg [.int .i64 a0_0, .int .i64 a0_1, .str a0_2, .row (l0_3.map e38)])] [] [.val (.int .i64 r)] [] := by
  obtain ⟨k, h⟩ := lim_ex h
  exact (impl_Deep_all (k + 1)) k _ _ _ _ _ h (Nat.lt_succ_self k)
theorem impl_plainNode_ev (a0_0 : Int) (a0_1 : Int) (a0_2 : ByteArray) (l0_3 : List S38) (r : Bool) (h : impl_plainNode.f a0_0 a0_1 a0_2 l0_3 = some r) : CE (G m_) 66 [.val (.agg [.int .i64 a0_0, .int .i64 a0_1, .str a0_2, .row (l0_3.map e38)])] [] [.val (.bool r)] [] := by
  refine CE.mk ⟨Tryz.f66, _, rfl, rfl, ⟨by kernel_rfl, Nat.le_of_ble_eq_true rfl, Nat.le_of_ble_eq_true rfl⟩, ?_⟩
  rw [impl_plainNode.f] at h
  refine zz ?_
  refine br (iteS h) ?_ ?_ <;> (clear h; intro c h)
  · refine zz ?_
    try (apply Or.inl; refine zK ?_)
    refine zz ?_
    try (apply Or.inl; refine zK ?_)
    refine zz ?_
    try (apply Or.inl; refine zK ?_)
    cases h
    refine zz ?_
    first | exact ⟨trivial, [], [], ⟨rfl, trivial⟩, _, rfl, _, rfl, And.intro rfl rfl⟩ | exact ⟨[], [], ⟨rfl, trivial⟩, _, rfl, _, rfl, And.intro rfl rfl⟩
  refine zz ?_
  try (apply Or.inr; refine zK ?_)
  refine zz ?_
  try (apply Or.inr; refine zK ?_)
  refine zz ?_
  try (apply Or.inr; refine zK ?_)
  cases h
  refine zz ?_
  first | exact ⟨trivial, [], [], ⟨rfl, trivial⟩, _, rfl, _, rfl, And.intro rfl rfl⟩ | exact ⟨[], [], ⟨rfl, trivial⟩, _, rfl, _, rfl, And.intro rfl rfl⟩
theorem impl_in_ev (a0 : Int) (a1 : Int) (a2 : Int) (r : Bool) (h : impl_in.f a0 a1 a2 = some r) : CE (G m_) 70 [.val (.int .i64 a0), .val (.int .i64 a1), .val (.int .i64 a2)] [] [.val (.bool r)] [] := by
  refine CE.mk ⟨Tryz.f70, _, rfl, rfl, ⟨by kernel_rfl, Nat.le_of_ble_eq_true rfl, Nat.le_of_ble_eq_true rfl⟩, ?_⟩
  rw [impl_in.f] at h
  refine zz ?_
  refine br (iteS h) ?_ ?_ <;> (clear h; intro c h)
  · refine zz ?_
    try (apply Or.inl; refine zK ?_)
    refine zz ?_
    try (apply Or.inl; refine zK ?_)
    refine zz ?_
    try (apply Or.inl; refine zK ?_)
    cases h
    refine zz ?_
    first | exact ⟨trivial, [], [], ⟨rfl, trivial⟩, _, rfl, _, rfl, And.intro rfl rfl⟩ | exact ⟨[], [], ⟨rfl, trivial⟩, _, rfl, _, rfl, And.intro rfl rfl⟩
  refine zz ?_
  try (apply Or.inr; refine zK ?_)
  refine zz ?_
  try (apply Or.inr; refine zK ?_)
  refine zz ?_
  try (apply Or.inr; refine zK ?_)
  cases h
  refine zz ?_
  first | exact ⟨trivial, [], [], ⟨rfl, trivial⟩, _, rfl, _, rfl, And.intro rfl rfl⟩ | exact ⟨[], [], ⟨rfl, trivial⟩, _, rfl, _, rfl, And.intro rfl rfl⟩
theorem impl_tokenText_ev (a0 : ByteArray) (r : Bool) (h : impl_tokenText.f a0 = some r) : CE (G m_) 71 [.val (.str a0)] [] [.val (.bool r)] [] := by
  refine CE.mk ⟨Tryz.f71, _, rfl, rfl, ⟨by kernel_rfl, Nat.le_of_ble_eq_true rfl, Nat.le_of_ble_eq_true rfl⟩, ?_⟩
  rw [impl_tokenText.f] at h
  have h_ := oS h; clear h; obtain ⟨t4, ht, h⟩ := h_
  refine zz ?_
  refine Exists.intro _ (And.intro (orc88 (h := ht)) ?_)
  cases h
  refine zz ?_
  first | exact ⟨trivial, [], [], ⟨rfl, trivial⟩, _, rfl, _, rfl, And.intro rfl rfl⟩ | exact ⟨[], [], ⟨rfl, trivial⟩, _, rfl, _, rfl, And.intro rfl rfl⟩
theorem impl_tokenRex_ev (a0 : ByteArray) (r : Bool) (h : impl_tokenRex.fv a0 = some r) : CE (G m_) 72 [.val (.str a0)] [] [.val (.bool r)] [] := by
  obtain ⟨k, h⟩ := lim_ex h
  refine CE.mk ⟨Tryz.f72, _, rfl, rfl, ⟨by kernel_rfl, Nat.le_of_ble_eq_true rfl, Nat.le_of_ble_eq_true rfl⟩, ?_⟩
  rcases k with _ | k
  · exact (run_zero h).elim
  rw [run_succ, impl_tokenRex.B] at h
  replace h := evT h
  refine zz ?_
  refine loopJ [] (fun kq fr hp => ∃ (x0 : ByteArray) (x3 : Int), run impl_tokenRex.B kq (.l0 x0 x3) = some r ∧ (∃ fr0, fr = puts [(0, .one (.val (.str x0))), (3, .one (.val (.int .i64 x3)))] fr0) ∧ hp = (fun _ => none)) k ⟨_, zfuel, _, _, h, leafFr [0, 3] (by kernel_rfl), by kernel_rfl⟩ ?_
  clear h; rintro k hle _ _ ⟨x0, x3, h, ⟨fr0, rfl⟩, rfl⟩
  rcases k with _ | k
  · exact (run_zero h).elim
  rw [run_succ, impl_tokenRex.B] at h
  refine zz ?_
  refine br (iP h) ?_ ?_ <;> (clear h; intro c h)
  rotate_left
  · have h_ := evO h; clear h; obtain ⟨t27, ht, h⟩ := h_
    refine zz ?_
    refine Exists.intro _ (And.intro (impl_tokenText_ev (h := ht)) ?_)
    replace h := evR h; cases h
    refine zz ?_
    first | exact ⟨trivial, [], [], ⟨rfl, trivial⟩, _, rfl, _, rfl, And.intro rfl rfl⟩ | exact ⟨[], [], ⟨rfl, trivial⟩, _, rfl, _, rfl, And.intro rfl rfl⟩
  have h_ := gP h; clear h; obtain ⟨c, h⟩ := h_
  refine zz ?_
  refine br (iP h) ?_ ?_ <;> (clear h; intro c h)
  rotate_left
  · replace h := evT h
    refine zz ?_
    exact ⟨_, zfuel, _, _, h, leafFr [0, 3] (by kernel_rfl), by kernel_rfl⟩
  refine zz ?_
  refine brW (iP h) ?_ ?_ <;> (clear h; intro c h)
  rotate_left
  · refine zz ?_
    try (apply Or.inr; refine zK ?_)
    refine zz ?_
    try (apply Or.inr; refine zK ?_)
    refine zz ?_
    try (apply Or.inr; refine zK ?_)
    refine zz ?_
    try (apply Or.inl; refine zK ?_)
    refine zz ?_
    try (apply Or.inl; refine zK ?_)
    replace h := evR h; cases h
    refine zz ?_
    first | exact ⟨trivial, [], [], ⟨rfl, trivial⟩, _, rfl, _, rfl, And.intro rfl rfl⟩ | exact ⟨[], [], ⟨rfl, trivial⟩, _, rfl, _, rfl, And.intro rfl rfl⟩
  refine zz ?_
  try (apply Or.inl; refine zK ?_)
  refine zz ?_
  try (apply Or.inl; refine zK ?_)
  have h_ := gP h; clear h; obtain ⟨c, h⟩ := h_
  have h_ := gP h; clear h; obtain ⟨c, h⟩ := h_
  refine zz ?_
  try (apply Or.inl; refine zK ?_)
  refine zz ?_
  try (apply Or.inr; refine zK ?_)
  refine zz ?_
  refine br (iP h) ?_ ?_ <;> (clear h; intro c h)
  · replace h := evR h; cases h
    refine zz ?_
    first | exact ⟨trivial, [], [], ⟨rfl, trivial⟩, _, rfl, _, rfl, And.intro rfl rfl⟩ | exact ⟨[], [], ⟨rfl, trivial⟩, _, rfl, _, rfl, And.intro rfl rfl⟩
  replace h := evT h
  refine zz ?_
  exact ⟨_, zfuel, _, _, h, leafFr [0, 3] (by kernel_rfl), by kernel_rfl⟩
theorem impl_isLetter_ev (a0 : Int) (r : Bool) (h : impl_isLetter.f a0 = some r) : CE (G m_) 107 [.val (.int .u8 a0)] [] [.val (.bool r)] [] := by
  refine CE.mk ⟨Tryz.f107, _, rfl, rfl, ⟨by kernel_rfl, Nat.le_of_ble_eq_true rfl, Nat.le_of_ble_eq_true rfl⟩, ?_⟩
  rw [impl_isLetter.f] at h
  refine zz ?_
  refine br (iteS h) ?_ ?_ <;> (clear h; intro c h)
  rotate_left
  · refine zz ?_
    try (apply Or.inr; refine zK ?_)
    refine zz ?_
    try (apply Or.inr; refine zK ?_)
    refine zz ?_
    try (apply Or.inl; refine zK ?_)
    refine zz ?_
    try (apply Or.inl; refine zK ?_)
    refine zz ?_
    try (apply Or.inl; refine zK ?_)
    refine zz ?_
    refine br (iteS h) ?_ ?_ <;> (clear h; intro c h)
    · refine zz ?_
      try (apply Or.inl; refine zK ?_)
      refine zz ?_
      try (apply Or.inl; refine zK ?_)
      refine zz ?_
      try (apply Or.inl; refine zK ?_)
      refine zz ?_
      try (apply Or.inr; refine zK ?_)
      cases h
      refine zz ?_
      first | exact ⟨trivial, [], [], ⟨rfl, trivial⟩, _, rfl, _, rfl, And.intro rfl rfl⟩ | exact ⟨[], [], ⟨rfl, trivial⟩, _, rfl, _, rfl, And.intro rfl rfl⟩
    refine zz ?_
    try (apply Or.inr; refine zK ?_)
    refine zz ?_
    try (apply Or.inl; refine zK ?_)
    refine zz ?_
    try (apply Or.inr; refine zK ?_)
    refine zz ?_
    try (apply Or.inr; refine zK ?_)
    cases h
    refine zz ?_
    first | exact ⟨trivial, [], [], ⟨rfl, trivial⟩, _, rfl, _, rfl, And.intro rfl rfl⟩ | exact ⟨[], [], ⟨rfl, trivial⟩, _, rfl, _, rfl, And.intro rfl rfl⟩
  refine zz ?_
  try (apply Or.inl; refine zK ?_)
  refine zz ?_
  try (apply Or.inl; refine zK ?_)
  refine zz ?_
  refine brW (iteS h) ?_ ?_ <;> (clear h; intro c h)
  rotate_left
  · refine zz ?_
    try (apply Or.inr; refine zK ?_)
    refine zz ?_
    try (apply Or.inr; refine zK ?_)
    refine zz ?_
    try (apply Or.inr; refine zK ?_)
    refine zz ?_
    try (apply Or.inl; refine zK ?_)
    cases h
    refine zz ?_
    first | exact ⟨trivial, [], [], ⟨rfl, trivial⟩, _, rfl, _, rfl, And.intro rfl rfl⟩ | exact ⟨[], [], ⟨rfl, trivial⟩, _, rfl, _, rfl, And.intro rfl rfl⟩
  refine zz ?_
  try (apply Or.inl; refine zK ?_)
  refine zz ?_
  try (apply Or.inl; refine zK ?_)
  refine zz ?_
  refine br (iteS h) ?_ ?_ <;> (clear h; intro c h)
  · refine zz ?_
    try (apply Or.inl; refine zK ?_)
    refine zz ?_
    try (apply Or.inl; refine zK ?_)
    refine zz ?_
    try (apply Or.inl; refine zK ?_)
    refine zz ?_
    try (apply Or.inr; refine zK ?_)
    cases h
    refine zz ?_
    first | exact ⟨trivial, [], [], ⟨rfl, trivial⟩, _, rfl, _, rfl, And.intro rfl rfl⟩ | exact ⟨[], [], ⟨rfl, trivial⟩, _, rfl, _, rfl, And.intro rfl rfl⟩
  refine zz ?_
  try (apply Or.inr; refine zK ?_)
  refine zz ?_
  try (apply Or.inl; refine zK ?_)
  refine zz ?_
  try (apply Or.inr; refine zK ?_)
  refine zz ?_
  try (apply Or.inr; refine zK ?_)
  cases h
  refine zz ?_
  first | exact ⟨trivial, [], [], ⟨rfl, trivial⟩, _, rfl, _, rfl, And.intro rfl rfl⟩ | exact ⟨[], [], ⟨rfl, trivial⟩, _, rfl, _, rfl, And.intro rfl rfl⟩
theorem impl_lettersAt_ev (a0 : ByteArray) (a1 : Int) (r : Int) (h : impl_lettersAt.fv a0 a1 = some r) : CE (G m_) 89 [.val (.str a0), .val (.int .i64 a1)] [] [.val (.int .i64 r)] [] := by
  obtain ⟨k, h⟩ := lim_ex h
  refine CE.mk ⟨Tryz.f89, _, rfl, rfl, ⟨by kernel_rfl, Nat.le_of_ble_eq_true rfl, Nat.le_of_ble_eq_true rfl⟩, ?_⟩
  rcases k with _ | k
  · exact (run_zero h).elim
  rw [run_succ, impl_lettersAt.B] at h
  replace h := evT h
  refine zz ?_
  refine loopJ [] (fun kq fr hp => ∃ (x0 : ByteArray) (x1 : Int) (x5 : Int), run impl_lettersAt.B kq (.l0 x0 x1 x5) = some r ∧ (∃ fr0, fr = puts [(0, .one (.val (.str x0))), (1, .one (.val (.int .i64 x1))), (5, .one (.val (.int .i64 x5)))] fr0) ∧ hp = (fun _ => none)) k ⟨_, zfuel, _, _, _, h, leafFr [0, 1, 5] (by kernel_rfl), by kernel_rfl⟩ ?_
  clear h; rintro k hle _ _ ⟨x0, x1, x5, h, ⟨fr0, rfl⟩, rfl⟩
  rcases k with _ | k
  · exact (run_zero h).elim
  rw [run_succ, impl_lettersAt.B] at h
  refine zz ?_
  refine br (iP h) ?_ ?_ <;> (clear h; intro c h)
  rotate_left
  · refine zz ?_
    try (apply Or.inr; refine zK ?_)
    refine zz ?_
    try (apply Or.inr; refine zK ?_)
    refine zz ?_
    try (apply Or.inr; refine zK ?_)
    refine zz ?_
    try (apply Or.inr; refine zK ?_)
    refine zz ?_
    try (apply Or.inr; refine zK ?_)
    refine zz ?_
    try (apply Or.inr; refine zK ?_)
    refine zz ?_
    try (apply Or.inr; refine zK ?_)
    replace h := evR h; cases h
    refine zz ?_
    first | exact ⟨trivial, [], [], ⟨rfl, trivial⟩, _, rfl, _, rfl, And.intro rfl rfl⟩ | exact ⟨[], [], ⟨rfl, trivial⟩, _, rfl, _, rfl, And.intro rfl rfl⟩
  refine zz ?_
  try (apply Or.inl; refine zK ?_)
  refine zz ?_
  try (apply Or.inl; refine zK ?_)
  refine zz ?_
  try (apply Or.inl; refine zK ?_)
  refine zz ?_
  try (apply Or.inl; refine zK ?_)
  have h_ := gP h; clear h; obtain ⟨c, h⟩ := h_
  refine zz ?_
  try (apply Or.inl; refine zK ?_)
  have h_ := evO h; clear h; obtain ⟨t18, ht, h⟩ := h_
  refine zz ?_
  refine Exists.intro _ (And.intro (impl_isLetter_ev (h := ht)) ?_)
  refine zz ?_
  try (apply Or.inl; refine zK ?_)
  refine zz ?_
  refine br (iP h) ?_ ?_ <;> (clear h; intro c h)
  · replace h := evT h
    refine zz ?_
    exact ⟨_, zfuel, _, _, _, h, leafFr [0, 1, 5] (by kernel_rfl), by kernel_rfl⟩
  replace h := evR h; cases h
  refine zz ?_
  first | exact ⟨trivial, [], [], ⟨rfl, trivial⟩, _, rfl, _, rfl, And.intro rfl rfl⟩ | exact ⟨[], [], ⟨rfl, trivial⟩, _, rfl, _, rfl, And.intro rfl rfl⟩
theorem impl_calls_ev (r : List ByteArray) (h : impl_calls.f  = some r) : CE (G m_) 74 [] [] [.val (.row (r.map VV.str))] [] := by
  refine CE.mk ⟨Tryz.f74, _, rfl, rfl, ⟨by kernel_rfl, Nat.le_of_ble_eq_true rfl, Nat.le_of_ble_eq_true rfl⟩, ?_⟩
  rw [impl_calls.f] at h
  have h_ := oS h; clear h; obtain ⟨y1_0, hy, h⟩ := h_
  refine zz ?_
  refine Exists.intro (y1_0.map VV.str) (And.intro (by rw [← Option.some.inj hy]; exact zrow) ?_)
  cases h
  refine zz ?_
  first | exact ⟨trivial, [], [], ⟨rfl, trivial⟩, _, rfl, _, rfl, And.intro rfl rfl⟩ | exact ⟨[], [], ⟨rfl, trivial⟩, _, rfl, _, rfl, And.intro rfl rfl⟩
theorem slices_Index_string_string_ev (l0 : List ByteArray) (a1 : ByteArray) (r : Int) (h : slices_Index_string_string.fv l0 a1 = some r) : CE (G m_) 47 [.val (.row (l0.map VV.str)), .val (.str a1)] [] [.val (.int .i64 r)] [] := by
  obtain ⟨k, h⟩ := lim_ex h
  refine CE.mk ⟨Tryz.f47, _, rfl, rfl, ⟨by kernel_rfl, Nat.le_of_ble_eq_true rfl, Nat.le_of_ble_eq_true rfl⟩, ?_⟩
  rcases k with _ | k
  · exact (run_zero h).elim
  rw [run_succ, slices_Index_string_string.B] at h
  replace h := evT h
  refine zz ?_
  refine loopJ [] (fun kq fr hp => ∃ (x0 : List ByteArray) (x1 : ByteArray) (x7 : Int) (x8 : Int), run slices_Index_string_string.B kq (.l0 x0 x1 x7 x8) = some r ∧ (∃ fr0, fr = puts [(0, .one (.val (.row (x0.map VV.str)))), (1, .one (.val (.str x1))), (7, .one (.val (.int .i64 x7))), (8, .one (.val (.int .i64 x8)))] fr0) ∧ hp = (fun _ => none)) k ⟨_, zfuel, _, _, _, _, h, leafFr [0, 1, 7, 8] (by kernel_rfl), by kernel_rfl⟩ ?_
  clear h; rintro k hle _ _ ⟨x0, x1, x7, x8, h, ⟨fr0, rfl⟩, rfl⟩
  rcases k with _ | k
  · exact (run_zero h).elim
  rw [run_succ, slices_Index_string_string.B] at h
  refine zz ?_
  refine br (iP h) ?_ ?_ <;> (clear h; intro c h)
  rotate_left
  · replace h := evR h; cases h
    refine zz ?_
    first | exact ⟨trivial, [], [], ⟨rfl, trivial⟩, _, rfl, _, rfl, And.intro rfl rfl⟩ | exact ⟨[], [], ⟨rfl, trivial⟩, _, rfl, _, rfl, And.intro rfl rfl⟩
  have h_ := gP h; clear h; obtain ⟨c, h⟩ := h_
  have h_ := gP h; clear h; obtain ⟨c, h⟩ := h_
  refine zz ?_
  refine br (iP h) ?_ ?_ <;> (clear h; intro c h)
  · replace h := evR h; cases h
    refine zz ?_
    first | exact ⟨trivial, [], [], ⟨rfl, trivial⟩, _, rfl, _, rfl, And.intro rfl rfl⟩ | exact ⟨[], [], ⟨rfl, trivial⟩, _, rfl, _, rfl, And.intro rfl rfl⟩
  replace h := evT h
  refine zz ?_
  exact ⟨_, zfuel, _, _, _, _, h, leafFr [0, 1, 7, 8] (by kernel_rfl), by kernel_rfl⟩
theorem slices_Contains_string_string_ev (l0 : List ByteArray) (a1 : ByteArray) (r : Bool) (h : slices_Contains_string_string.fv l0 a1 = some r) : CE (G m_) 22 [.val (.row (l0.map VV.str)), .val (.str a1)] [] [.val (.bool r)] [] := by
  refine CE.mk ⟨Tryz.f22, _, rfl, rfl, ⟨by kernel_rfl, Nat.le_of_ble_eq_true rfl, Nat.le_of_ble_eq_true rfl⟩, ?_⟩
  rw [slices_Contains_string_string.fv] at h
  have h_ := oS h; clear h; obtain ⟨t7, ht, h⟩ := h_
  refine zz ?_
  refine Exists.intro _ (And.intro (slices_Index_string_string_ev (h := ht)) ?_)
  cases h
  refine zz ?_
  first | exact ⟨trivial, [], [], ⟨rfl, trivial⟩, _, rfl, _, rfl, And.intro rfl rfl⟩ | exact ⟨[], [], ⟨rfl, trivial⟩, _, rfl, _, rfl, And.intro rfl rfl⟩
theorem impl_Keyword_ev (a0 : ByteArray) (r : Bool) (h : impl_Keyword.fv a0 = some r) : CE (G m_) 90 [.val (.str a0)] [] [.val (.bool r)] [] := by
  obtain ⟨k, h⟩ := lim_ex h
  refine CE.mk ⟨Tryz.f90, _, rfl, rfl, ⟨by kernel_rfl, Nat.le_of_ble_eq_true rfl, Nat.le_of_ble_eq_true rfl⟩, ?_⟩
  rcases k with _ | k
  · exact (run_zero h).elim
  rw [run_succ, impl_Keyword.B] at h
  refine zz ?_
  refine cutJ (n := 4) [] (fun fr hp => ∃ kq, kq ≤ k ∧ ∃ (x0 : ByteArray) (x4 : Bool), run impl_Keyword.B kq (.j0 x0 x4) = some r ∧ (∃ fr0, fr = puts [(0, .one (.val (.str x0))), (4, .one (.val (.bool x4)))] fr0) ∧ hp = (fun _ => none)) ?_ ?_
  · refine zz ?_
    refine br (iP h) ?_ ?_ <;> (clear h; intro c h)
    · replace h := evT h
      refine zz ?_
      exact ⟨_, zfuel, _, _, h, leafFr [0, 4] (by kernel_rfl), by kernel_rfl⟩
    refine zz ?_
    refine br (iP h) ?_ ?_ <;> (clear h; intro c h)
    · replace h := evT h
      refine zz ?_
      exact ⟨_, zfuel, _, _, h, leafFr [0, 4] (by kernel_rfl), by kernel_rfl⟩
    refine zz ?_
    refine br (iP h) ?_ ?_ <;> (clear h; intro c h)
    · replace h := evT h
      refine zz ?_
      exact ⟨_, zfuel, _, _, h, leafFr [0, 4] (by kernel_rfl), by kernel_rfl⟩
    refine zz ?_
    refine br (iP h) ?_ ?_ <;> (clear h; intro c h)
    · replace h := evT h
      refine zz ?_
      exact ⟨_, zfuel, _, _, h, leafFr [0, 4] (by kernel_rfl), by kernel_rfl⟩
    refine zz ?_
    refine br (iP h) ?_ ?_ <;> (clear h; intro c h)
    · replace h := evT h
      refine zz ?_
      exact ⟨_, zfuel, _, _, h, leafFr [0, 4] (by kernel_rfl), by kernel_rfl⟩
    refine zz ?_
    refine br (iP h) ?_ ?_ <;> (clear h; intro c h)
    · replace h := evT h
      refine zz ?_
      exact ⟨_, zfuel, _, _, h, leafFr [0, 4] (by kernel_rfl), by kernel_rfl⟩
    refine zz ?_
    refine br (iP h) ?_ ?_ <;> (clear h; intro c h)
    · replace h := evT h
      refine zz ?_
      exact ⟨_, zfuel, _, _, h, leafFr [0, 4] (by kernel_rfl), by kernel_rfl⟩
    refine zz ?_
    refine br (iP h) ?_ ?_ <;> (clear h; intro c h)
    · replace h := evT h
      refine zz ?_
      exact ⟨_, zfuel, _, _, h, leafFr [0, 4] (by kernel_rfl), by kernel_rfl⟩
    replace h := evT h
    refine zz ?_
    exact ⟨_, zfuel, _, _, h, leafFr [0, 4] (by kernel_rfl), by kernel_rfl⟩
  clear h; rintro _ _ ⟨k, hle, x0, x4, h, ⟨fr0, rfl⟩, rfl⟩
  rcases k with _ | k
  · exact (run_zero h).elim
  rw [run_succ, impl_Keyword.B] at h
  refine zz ?_
  refine br (iP h) ?_ ?_ <;> (clear h; intro c h)
  · replace h := evR h; cases h
    refine zz ?_
    first | exact ⟨trivial, [], [], ⟨rfl, trivial⟩, _, rfl, _, rfl, And.intro rfl rfl⟩ | exact ⟨[], [], ⟨rfl, trivial⟩, _, rfl, _, rfl, And.intro rfl rfl⟩
  have h_ := evO h; clear h; obtain ⟨t14, ht, h⟩ := h_
  refine zz ?_
  refine Exists.intro _ (And.intro (impl_calls_ev (h := ht)) ?_)
  have h_ := evO h; clear h; obtain ⟨t16, ht, h⟩ := h_
  refine zz ?_
  refine Exists.intro _ (And.intro (slices_Contains_string_string_ev (h := ht)) ?_)
  replace h := evR h; cases h
  refine zz ?_
  first | exact ⟨trivial, [], [], ⟨rfl, trivial⟩, _, rfl, _, rfl, And.intro rfl rfl⟩ | exact ⟨[], [], ⟨rfl, trivial⟩, _, rfl, _, rfl, And.intro rfl rfl⟩
theorem impl_isName_ev (a0 : ByteArray) (r : Bool) (h : impl_isName.fv a0 = some r) : CE (G m_) 73 [.val (.str a0)] [] [.val (.bool r)] [] := by
  refine CE.mk ⟨Tryz.f73, _, rfl, rfl, ⟨by kernel_rfl, Nat.le_of_ble_eq_true rfl, Nat.le_of_ble_eq_true rfl⟩, ?_⟩
  rw [impl_isName.fv] at h
  have h_ := oS h; clear h; obtain ⟨t5, ht, h⟩ := h_
  refine zz ?_
  refine Exists.intro _ (And.intro (impl_in_ev (h := ht)) ?_)
  refine zz ?_
  refine br (iteS h) ?_ ?_ <;> (clear h; intro c h)
  rotate_left
  · refine zz ?_
    try (apply Or.inr; refine zK ?_)
    refine zz ?_
    try (apply Or.inr; refine zK ?_)
    refine zz ?_
    try (apply Or.inr; refine zK ?_)
    refine zz ?_
    try (apply Or.inr; refine zK ?_)
    refine zz ?_
    try (apply Or.inr; refine zK ?_)
    refine zz ?_
    try (apply Or.inr; refine zK ?_)
    refine zz ?_
    try (apply Or.inr; refine zK ?_)
    refine zz ?_
    try (apply Or.inr; refine zK ?_)
    refine zz ?_
    try (apply Or.inr; refine zK ?_)
    cases h
    refine zz ?_
    first | exact ⟨trivial, [], [], ⟨rfl, trivial⟩, _, rfl, _, rfl, And.intro rfl rfl⟩ | exact ⟨[], [], ⟨rfl, trivial⟩, _, rfl, _, rfl, And.intro rfl rfl⟩
  refine zz ?_
  try (apply Or.inl; refine zK ?_)
  have h_ := oS h; clear h; obtain ⟨t8, ht, h⟩ := h_
  refine zz ?_
  refine Exists.intro _ (And.intro (impl_lettersAt_ev (h := ht)) ?_)
  refine zz ?_
  try (apply Or.inl; refine zK ?_)
  refine zz ?_
  try (apply Or.inl; refine zK ?_)
  refine zz ?_
  try (apply Or.inl; refine zK ?_)
  refine zz ?_
  try (apply Or.inl; refine zK ?_)
  refine zz ?_
  refine br (iteS h) ?_ ?_ <;> (clear h; intro c h)
  rotate_left
  · refine zz ?_
    try (apply Or.inr; refine zK ?_)
    refine zz ?_
    try (apply Or.inr; refine zK ?_)
    refine zz ?_
    try (apply Or.inr; refine zK ?_)
    cases h
    refine zz ?_
    first | exact ⟨trivial, [], [], ⟨rfl, trivial⟩, _, rfl, _, rfl, And.intro rfl rfl⟩ | exact ⟨[], [], ⟨rfl, trivial⟩, _, rfl, _, rfl, And.intro rfl rfl⟩
  refine zz ?_
  try (apply Or.inl; refine zK ?_)
  have h_ := oS h; clear h; obtain ⟨t15, ht, h⟩ := h_
  refine zz ?_
  refine Exists.intro _ (And.intro (impl_Keyword_ev (h := ht)) ?_)
  refine zz ?_
  try (apply Or.inl; refine zK ?_)
  refine zz ?_
  try (apply Or.inl; refine zK ?_)
  cases h
  refine zz ?_
  first | exact ⟨trivial, [], [], ⟨rfl, trivial⟩, _, rfl, _, rfl, And.intro rfl rfl⟩ | exact ⟨[], [], ⟨rfl, trivial⟩, _, rfl, _, rfl, And.intro rfl rfl⟩
end Go.Proofs.YthgglepiopijjaaGreat.TFnExactCheck
