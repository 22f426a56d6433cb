/- The walks of the functions that FnBrackets reaches, through the abstract machine. -/
import Derived.Test.YtfdpehmefgfjgaaAFnBracketsh
import Derived.Test.YtfdpehmefgfjgaaAFnBracketsx0
import Derived.Test.YtfdpehmefgfjgaaAFnBracketsx1
import Derived.Test.YtfdpehmefgfjgaaAFnBracketsx2
import Derived.Test.YtfdpehmefgfjgaaAFnBracketsx3
import Derived.Test.YtfdpehmefgfjgaaFFnBrackets
import Derived.Test.YtfdpehmefgfjgaaProg
set_option maxHeartbeats 4000000
set_option maxRecDepth 100000
set_option linter.unusedVariables false
set_option linter.unusedSimpArgs false
namespace Go.Proofs.Ytfdpehmefgfjgaa.TFnBrackets
open Go Go.RowKit Go.Proofs Go.Proofs.YtfdpehmefgfjgaaW.AM Go.Proofs.Ytfdpehmefgfjgaa.QFnBrackets Go.Proofs.YtfdpehmefgfjgaaW.PrintWords Go.Proofs.YtfdpehmefgfjgaaW.Pgs
variable {m_ : Int}
theorem laws_FnBrackets_ev (l0 : List Int) (r : Bool) (h : laws_FnBrackets.fv l0 = some r) : CE (G m_) 6 [.val (.row (l0.map (VV.int .u8)))] [] [.val (.bool r)] [] := by
  obtain ⟨k, h⟩ := lim_ex h
  refine CE.mk ⟨Try.f6, _, rfl, rfl, ⟨by kernel_rfl, Nat.le_of_ble_eq_true rfl, Nat.le_of_ble_eq_true rfl⟩, ?_⟩
  rcases k with _ | k
  · exact (run_zero h).elim
  rw [run_succ, laws_FnBrackets.B] at h
  have h_ := evO h; clear h; obtain ⟨t11, ht, h⟩ := h_
  refine zz ?_
  refine Exists.intro _ (And.intro (laws_big_ev (h := ht)) ?_)
  refine zz ?_
  refine br (iP h) ?_ ?_ <;> (clear h; intro c h)
  · replace h := evR h; cases h
    refine zz ?_
    first | exact ⟨trivial, [], [], ⟨rfl, trivial⟩, _, rfl, _, rfl, And.intro rfl rfl⟩ | exact ⟨[], [], ⟨rfl, trivial⟩, _, rfl, _, rfl, And.intro rfl rfl⟩
  have h_ := evO h; clear h; obtain ⟨t13, ht, h⟩ := h_
  refine zz ?_
  refine Exists.intro _ (And.intro (spec_DrawRexParse_ev (h := ht)) ?_)
  have h_ := evO h; clear h; obtain ⟨t16, ht, h⟩ := h_
  refine zz ?_
  refine Exists.intro _ (And.intro (impl_RexParse_ev (h := ht)) ?_)
  have h_ := evO h; clear h; obtain ⟨t21, ht, h⟩ := h_
  refine zz ?_
  refine Exists.intro _ (And.intro (spec_RexParse_ev (h := ht)) ?_)
  refine zz ?_
  refine cutJ (n := 32) [2069] (fun fr hp => ∃ kq, kq ≤ k ∧ ∃ (x3 : ByteArray) (x5 : Bool) (x2069_0 : Int) (x2069_1 : Int) (x2069_2 : ByteArray) (x2069_3 : Bool) (x2069_4 : List S26), run laws_FnBrackets.B kq (.j0 x3 x5 x2069_0 x2069_1 x2069_2 x2069_3 x2069_4) = some r ∧ (∃ fr0, fr = puts [(3, .one (.val (.str x3))), (4, .one (.ptr 2069 0)), (5, .one (.val (.bool x5)))] fr0) ∧ hp = (upd 2069 (.box [.val (.int .i64 x2069_0), .val (.int .i64 x2069_1), .val (.str x2069_2), .val (.bool x2069_3), .val (.row (x2069_4.map e26))]) (fun _ => none))) ?_ ?_
  · refine zz ?_
    refine cutJ (n := 200006) [2069] (fun fr hp => ∃ kq, kq ≤ k ∧ ∃ (x3 : ByteArray) (x5 : Bool) (x7 : Bool) (x32 : Bool) (x2069_0 : Int) (x2069_1 : Int) (x2069_2 : ByteArray) (x2069_3 : Bool) (x2069_4 : List S26), run laws_FnBrackets.B kq (.j1 x3 x5 x7 x32 x2069_0 x2069_1 x2069_2 x2069_3 x2069_4) = some r ∧ (∃ fr0, fr = puts [(3, .one (.val (.str x3))), (4, .one (.ptr 2069 0)), (5, .one (.val (.bool x5))), (7, .one (.val (.bool x7))), (32, .one (.val (.bool x32)))] fr0) ∧ hp = (upd 2069 (.box [.val (.int .i64 x2069_0), .val (.int .i64 x2069_1), .val (.str x2069_2), .val (.bool x2069_3), .val (.row (x2069_4.map e26))]) (fun _ => none))) ?_ ?_
    · refine zz ?_
      refine brX (iP h) ?_ ?_ <;> (clear h; intro c h)
      · refine zz ?_
        try (apply Or.inl; refine And.intro (by first | rfl | exact zboolK) ?_)
        refine zz ?_
        try (apply Or.inl; refine And.intro (by first | rfl | exact zboolK) ?_)
        refine zz ?_
        try (apply Or.inl; refine And.intro (by first | rfl | exact zboolK) ?_)
        refine zz ?_
        try (apply Or.inr; refine And.intro (by first | rfl | exact zboolK) ?_)
        replace h := evT h
        refine zz ?_
        exact ⟨_, zfuel, _, _, _, _, _, _, _, _, _, h, leafFr [3, 4, 5, 7, 32] (by kernel_rfl), by kernel_rfl⟩
      refine zz ?_
      try (apply Or.inr; refine And.intro (by first | rfl | exact zboolK) ?_)
      refine zz ?_
      try (apply Or.inr; refine And.intro (by first | rfl | exact zboolK) ?_)
      refine zz ?_
      try (apply Or.inr; refine And.intro (by first | rfl | exact zboolK) ?_)
      refine zz ?_
      try (apply Or.inl; refine And.intro (by first | rfl | exact zboolK) ?_)
      replace h := evT h
      refine zz ?_
      exact ⟨_, zfuel, _, _, _, _, _, _, _, _, _, h, leafFr [3, 4, 5, 7, 32] (by kernel_rfl), by kernel_rfl⟩
    clear h; rintro _ _ ⟨k, hle, x3, x5, x7, x32, x2069_0, x2069_1, x2069_2, x2069_3, x2069_4, h, ⟨fr0, rfl⟩, rfl⟩
    rcases k with _ | k
    · exact (run_zero h).elim
    rw [run_succ, laws_FnBrackets.B] at h
    refine zz ?_
    refine br (iP h) ?_ ?_ <;> (clear h; intro c h)
    · replace h := evR h; cases h
      refine zz ?_
      first | exact ⟨trivial, [], [], ⟨rfl, trivial⟩, _, rfl, _, rfl, And.intro rfl rfl⟩ | exact ⟨[], [], ⟨rfl, trivial⟩, _, rfl, _, rfl, And.intro rfl rfl⟩
    replace h := evT h
    refine zz ?_
    exact ⟨_, zfuel, _, _, _, _, _, _, _, h, leafFr [3, 4, 5] (by kernel_rfl), by kernel_rfl⟩
  clear h; rintro _ _ ⟨k, hle, x3, x5, x2069_0, x2069_1, x2069_2, x2069_3, x2069_4, h, ⟨fr0, rfl⟩, rfl⟩
  rcases k with _ | k
  · exact (run_zero h).elim
  rw [run_succ, laws_FnBrackets.B] at h
  have h_ := gP h; clear h; obtain ⟨c, h⟩ := h_
  have h_ := gP h; clear h; obtain ⟨c, h⟩ := h_
  have h_ := evO h; clear h; obtain ⟨t40, ht, h⟩ := h_
  refine zz ?_
  refine Exists.intro _ (And.intro (impl_RexParse_ev (h := ht)) ?_)
  refine zz ?_
  refine brN (iP h) ?_ ?_ <;> (clear h; intro c h)
  rotate_left
  · refine zz ?_
    refine br (iP h) ?_ ?_ <;> (clear h; intro c h)
    rotate_left
    · refine zz ?_
      try (apply Or.inr; refine And.intro (by first | rfl | exact zboolK) ?_)
      refine zz ?_
      try (apply Or.inr; refine And.intro (by first | rfl | exact zboolK) ?_)
      refine zz ?_
      try (apply Or.inr; refine And.intro (by first | rfl | exact zboolK) ?_)
      refine zz ?_
      try (apply Or.inr; refine And.intro (by first | rfl | exact zboolK) ?_)
      refine zz ?_
      try (apply Or.inr; refine And.intro (by first | rfl | exact zboolK) ?_)
      refine zz ?_
      try (apply Or.inr; refine And.intro (by first | rfl | exact zboolK) ?_)
      refine zz ?_
      try (apply Or.inr; refine And.intro (by first | rfl | exact zboolK) ?_)
      refine zz ?_
      try (apply Or.inr; refine And.intro (by first | rfl | exact zboolK) ?_)
      refine zz ?_
      try (apply Or.inr; refine And.intro (by first | rfl | exact zboolK) ?_)
      refine zz ?_
      try (apply Or.inr; refine And.intro (by first | rfl | exact zboolK) ?_)
      refine zz ?_
      try (apply Or.inr; refine And.intro (by first | rfl | exact zboolK) ?_)
      refine zz ?_
      try (apply Or.inr; refine And.intro (by first | rfl | exact zboolK) ?_)
      refine zz ?_
      try (apply Or.inr; refine And.intro (by first | rfl | exact zboolK) ?_)
      replace h := evR h; cases h
      refine zz ?_
      first | exact ⟨trivial, [], [], ⟨rfl, trivial⟩, _, rfl, _, rfl, And.intro rfl rfl⟩ | exact ⟨[], [], ⟨rfl, trivial⟩, _, rfl, _, rfl, And.intro rfl rfl⟩
    refine zz ?_
    try (apply Or.inl; refine And.intro (by first | rfl | exact zboolK) ?_)
    have h_ := evO h; clear h; obtain ⟨t55, ht, h⟩ := h_
    refine zz ?_
    refine Exists.intro _ (And.intro (impl_NfaOf_ev (h := ht)) ?_)
    refine zz ?_
    try (apply Or.inl; refine And.intro (by first | rfl | exact zboolK) ?_)
    refine zz ?_
    try (apply Or.inl; refine And.intro (by first | rfl | exact zboolK) ?_)
    refine zz ?_
    try (apply Or.inl; refine And.intro (by first | rfl | exact zboolK) ?_)
    have h_ := evO h; clear h; obtain ⟨t58, ht, h⟩ := h_
    refine zz ?_
    refine Exists.intro _ (And.intro (impl_NfaOf_ev (h := ht)) ?_)
    refine zz ?_
    try (apply Or.inl; refine And.intro (by first | rfl | exact zboolK) ?_)
    refine zz ?_
    try (apply Or.inl; refine And.intro (by first | rfl | exact zboolK) ?_)
    refine zz ?_
    try (apply Or.inl; refine And.intro (by first | rfl | exact zboolK) ?_)
    refine zz ?_
    refine br (iP h) ?_ ?_ <;> (clear h; intro c h)
    · refine zz ?_
      try (apply Or.inl; refine And.intro (by first | rfl | exact zboolK) ?_)
      refine zz ?_
      try (apply Or.inl; refine And.intro (by first | rfl | exact zboolK) ?_)
      refine zz ?_
      try (apply Or.inl; refine And.intro (by first | rfl | exact zboolK) ?_)
      refine zz ?_
      try (apply Or.inl; refine And.intro (by first | rfl | exact zboolK) ?_)
      refine zz ?_
      try (apply Or.inl; refine And.intro (by first | rfl | exact zboolK) ?_)
      replace h := evR h; cases h
      refine zz ?_
      first | exact ⟨trivial, [], [], ⟨rfl, trivial⟩, _, rfl, _, rfl, And.intro rfl rfl⟩ | exact ⟨[], [], ⟨rfl, trivial⟩, _, rfl, _, rfl, And.intro rfl rfl⟩
    refine zz ?_
    try (apply Or.inr; refine And.intro (by first | rfl | exact zboolK) ?_)
    refine zz ?_
    try (apply Or.inr; refine And.intro (by first | rfl | exact zboolK) ?_)
    refine zz ?_
    try (apply Or.inr; refine And.intro (by first | rfl | exact zboolK) ?_)
    refine zz ?_
    try (apply Or.inr; refine And.intro (by first | rfl | exact zboolK) ?_)
    refine zz ?_
    try (apply Or.inr; refine And.intro (by first | rfl | exact zboolK) ?_)
    replace h := evR h; cases h
    refine zz ?_
    first | exact ⟨trivial, [], [], ⟨rfl, trivial⟩, _, rfl, _, rfl, And.intro rfl rfl⟩ | exact ⟨[], [], ⟨rfl, trivial⟩, _, rfl, _, rfl, And.intro rfl rfl⟩
  refine zz ?_
  refine cutJ (n := 200010) [] (fun fr hp => ∃ kq, kq ≤ k ∧ ∃ (x2 : Bool), run laws_FnBrackets.B kq (.j2 x2) = some r ∧ (∃ fr0, fr = puts [(2, .one (.val (.bool x2)))] fr0) ∧ hp = (fun _ => none)) ?_ ?_
  · refine zz ?_
    refine brX (iP h) ?_ ?_ <;> (clear h; intro c h)
    · refine zz ?_
      try (apply Or.inl; refine And.intro (by first | rfl | exact zboolK) ?_)
      refine zz ?_
      try (apply Or.inl; refine And.intro (by first | rfl | exact zboolK) ?_)
      refine zz ?_
      try (apply Or.inr; refine And.intro (by first | rfl | exact zboolK) ?_)
      replace h := evT h
      refine zz ?_
      exact ⟨_, zfuel, _, h, leafFr [2] (by kernel_rfl), by kernel_rfl⟩
    refine zz ?_
    try (apply Or.inr; refine And.intro (by first | rfl | exact zboolK) ?_)
    refine zz ?_
    try (apply Or.inr; refine And.intro (by first | rfl | exact zboolK) ?_)
    refine zz ?_
    try (apply Or.inl; refine And.intro (by first | rfl | exact zboolK) ?_)
    replace h := evT h
    refine zz ?_
    exact ⟨_, zfuel, _, h, leafFr [2] (by kernel_rfl), by kernel_rfl⟩
  clear h; rintro _ _ ⟨k, hle, x2, h, ⟨fr0, rfl⟩, rfl⟩
  rcases k with _ | k
  · exact (run_zero h).elim
  rw [run_succ, laws_FnBrackets.B] at h
  replace h := evR h; cases h
  refine zz ?_
  first | exact ⟨trivial, [], [], ⟨rfl, trivial⟩, _, rfl, _, rfl, And.intro rfl rfl⟩ | exact ⟨[], [], ⟨rfl, trivial⟩, _, rfl, _, rfl, And.intro rfl rfl⟩
end Go.Proofs.Ytfdpehmefgfjgaa.TFnBrackets
