/- The walks of the functions that FnExactMatchAt reaches, through the abstract machine. -/
import Derived.Test.YtdajhceookjdmaaAFnExactMatchAth
import Derived.Test.YtdajhceookjdmaaAFnExactMatchAtx0
import Derived.Test.YtdajhceookjdmaaFFnExactMatchAt
import Derived.Test.YtdajhceookjdmaaProg
set_option maxHeartbeats 4000000
set_option maxRecDepth 100000
set_option linter.unusedVariables false
set_option linter.unusedSimpArgs false
namespace Go.Proofs.Ytdajhceookjdmaa.TFnExactMatchAt
open Go Go.RowKit Go.Proofs Go.Proofs.YtdajhceookjdmaaW.AM Go.Proofs.Ytdajhceookjdmaa.QFnExactMatchAt Go.Proofs.YtdajhceookjdmaaW.PrintWords Go.Proofs.YtdajhceookjdmaaW.Pgs
theorem spec_MatchAt_ev (l0 : List S62) (a1 : ByteArray) (a2 : Int) (r : Int) (h : spec_MatchAt.fv l0 a1 a2 = some r) : CE G 8 [.val (.row (l0.map e62)), .val (.str a1), .val (.int .i64 a2)] [] [.val (.int .i64 r)] [] := by
  obtain ⟨k, h⟩ := lim_ex h
  refine CE.mk ⟨Try.f8, _, rfl, rfl, ⟨by kernel_rfl, Nat.le_of_ble_eq_true rfl, Nat.le_of_ble_eq_true rfl⟩, ?_⟩
  rcases k with _ | k
  · exact (run_zero h).elim
  rw [run_succ, spec_MatchAt.B] at h
  refine zz ?_
  refine cutJ (n := 21) [] (fun fr hp => ∃ kq, kq ≤ k ∧ ∃ (x0 : List S62) (x1 : ByteArray) (x2 : Int), run spec_MatchAt.B kq (.j0 x0 x1 x2) = some r ∧ (∃ fr0, fr = puts [(0, .one (.val (.row (x0.map e62)))), (1, .one (.val (.str x1))), (2, .one (.val (.int .i64 x2)))] fr0) ∧ hp = (fun _ => none)) ?_ ?_
  · refine zz ?_
    refine cutJ (n := 200001) [] (fun fr hp => ∃ kq, kq ≤ k ∧ ∃ (x0 : List S62) (x1 : ByteArray) (x2 : Int) (x21 : Bool), run spec_MatchAt.B kq (.j1 x0 x1 x2 x21) = some r ∧ (∃ fr0, fr = puts [(0, .one (.val (.row (x0.map e62)))), (1, .one (.val (.str x1))), (2, .one (.val (.int .i64 x2))), (21, .one (.val (.bool x21)))] fr0) ∧ hp = (fun _ => none)) ?_ ?_
    · have h_ := evO h; clear h; obtain ⟨t13, ht, h⟩ := h_
      refine zz ?_
      refine Exists.intro _ (And.intro (spec_NfaOk_ev (h := ht)) ?_)
      refine zz ?_
      refine brX (iP h) ?_ ?_ <;> (clear h; intro c h)
      rotate_left
      · refine zz ?_
        try (apply Or.inr; refine And.intro (by first | rfl | exact zboolK) ?_)
        refine zz ?_
        try (apply Or.inr; refine And.intro (by first | rfl | exact zboolK) ?_)
        refine zz ?_
        try (apply Or.inr; refine And.intro (by first | rfl | exact zboolK) ?_)
        refine zz ?_
        try (apply Or.inr; refine And.intro (by first | rfl | exact zboolK) ?_)
        refine zz ?_
        try (apply Or.inl; refine And.intro (by first | rfl | exact zboolK) ?_)
        replace h := evT h
        refine zz ?_
        exact ⟨_, zfuel, _, _, _, _, h, leafFr [0, 1, 2, 21] (by kernel_rfl), by kernel_rfl⟩
      refine zz ?_
      try (apply Or.inl; refine And.intro (by first | rfl | exact zboolK) ?_)
      refine zz ?_
      try (apply Or.inl; refine And.intro (by first | rfl | exact zboolK) ?_)
      refine zz ?_
      try (apply Or.inl; refine And.intro (by first | rfl | exact zboolK) ?_)
      have h_ := evO h; clear h; obtain ⟨t19, ht, h⟩ := h_
      refine zz ?_
      refine Exists.intro _ (And.intro (spec_l1In_ev (h := ht)) ?_)
      refine zz ?_
      try (apply Or.inl; refine And.intro (by first | rfl | exact zboolK) ?_)
      refine zz ?_
      try (apply Or.inr; refine And.intro (by first | rfl | exact zboolK) ?_)
      replace h := evT h
      refine zz ?_
      exact ⟨_, zfuel, _, _, _, _, h, leafFr [0, 1, 2, 21] (by kernel_rfl), by kernel_rfl⟩
    clear h; rintro _ _ ⟨k, hle, x0, x1, x2, x21, h, ⟨fr0, rfl⟩, rfl⟩
    rcases k with _ | k
    · exact (run_zero h).elim
    rw [run_succ, spec_MatchAt.B] at h
    refine zz ?_
    refine br (iP h) ?_ ?_ <;> (clear h; intro c h)
    · replace h := evR h; cases h
      refine zz ?_
      first | exact ⟨trivial, [], [], ⟨rfl, trivial⟩, _, rfl, _, rfl, And.intro rfl rfl⟩ | exact ⟨[], [], ⟨rfl, trivial⟩, _, rfl, _, rfl, And.intro rfl rfl⟩
    replace h := evT h
    refine zz ?_
    exact ⟨_, zfuel, _, _, _, h, leafFr [0, 1, 2] (by kernel_rfl), by kernel_rfl⟩
  clear h; rintro _ _ ⟨k, hle, x0, x1, x2, h, ⟨fr0, rfl⟩, rfl⟩
  rcases k with _ | k
  · exact (run_zero h).elim
  rw [run_succ, spec_MatchAt.B] at h
  refine zz ?_
  refine Exists.intro (List.map (VV.int .i64) ([0] : List Int)) (And.intro zrow ?_)
  have h_ := evO h; clear h; obtain ⟨t30, ht, h⟩ := h_
  refine zz ?_
  refine Exists.intro _ (And.intro (spec_Closure_ev (h := ht)) ?_)
  replace h := evT h
  refine zz ?_
  refine loopJ [] (fun kq fr hp => ∃ (x0 : List S62) (x1 : ByteArray) (x7 : List Int) (x8 : Int) (x9 : Int), run spec_MatchAt.B kq (.l0 x0 x1 x7 x8 x9) = some r ∧ (∃ fr0, fr = puts [(0, .one (.val (.row (x0.map e62)))), (1, .one (.val (.str x1))), (7, .one (.val (.row (x7.map (VV.int .i64))))), (8, .one (.val (.int .i64 x8))), (9, .one (.val (.int .i64 x9)))] fr0) ∧ hp = (fun _ => none)) k ⟨_, zfuel, _, _, _, _, _, h, leafFr [0, 1, 7, 8, 9] (by kernel_rfl), by kernel_rfl⟩ ?_
  clear h; rintro k hle _ _ ⟨x0, x1, x7, x8, x9, h, ⟨fr0, rfl⟩, rfl⟩
  rcases k with _ | k
  · exact (run_zero h).elim
  rw [run_succ, spec_MatchAt.B] at h
  refine zz ?_
  refine br (iP h) ?_ ?_ <;> (clear h; intro c h)
  rotate_left
  · replace h := evR h; cases h
    refine zz ?_
    first | exact ⟨trivial, [], [], ⟨rfl, trivial⟩, _, rfl, _, rfl, And.intro rfl rfl⟩ | exact ⟨[], [], ⟨rfl, trivial⟩, _, rfl, _, rfl, And.intro rfl rfl⟩
  refine zz ?_
  refine cutJ (n := 46) [] (fun fr hp => ∃ kq, kq ≤ k ∧ ∃ (x0 : List S62) (x1 : ByteArray) (x7 : List Int) (x8 : Int) (x9 : Int), run spec_MatchAt.B kq (.j2 x0 x1 x7 x8 x9) = some r ∧ (∃ fr0, fr = puts [(0, .one (.val (.row (x0.map e62)))), (1, .one (.val (.str x1))), (7, .one (.val (.row (x7.map (VV.int .i64))))), (8, .one (.val (.int .i64 x8))), (9, .one (.val (.int .i64 x9)))] fr0) ∧ hp = (fun _ => none)) ?_ ?_
  · have h_ := gP h; clear h; obtain ⟨c, h⟩ := h_
    have h_ := gP h; clear h; obtain ⟨c, h⟩ := h_
    refine zz ?_
    refine br (iP h) ?_ ?_ <;> (clear h; intro c h)
    · replace h := evT h
      refine zz ?_
      exact ⟨_, zfuel, _, _, _, _, _, h, leafFr [0, 1, 7, 8, 9] (by kernel_rfl), by kernel_rfl⟩
    replace h := evT h
    refine zz ?_
    exact ⟨_, zfuel, _, _, _, _, _, h, leafFr [0, 1, 7, 8, 9] (by kernel_rfl), by kernel_rfl⟩
  clear h; rintro _ _ ⟨k, hle, x0, x1, x7, x8, x9, h, ⟨fr0, rfl⟩, rfl⟩
  rcases k with _ | k
  · exact (run_zero h).elim
  rw [run_succ, spec_MatchAt.B] at h
  refine zz ?_
  refine br (iP h) ?_ ?_ <;> (clear h; intro c h)
  · replace h := evR h; cases h
    refine zz ?_
    first | exact ⟨trivial, [], [], ⟨rfl, trivial⟩, _, rfl, _, rfl, And.intro rfl rfl⟩ | exact ⟨[], [], ⟨rfl, trivial⟩, _, rfl, _, rfl, And.intro rfl rfl⟩
  refine zz ?_
  refine Exists.intro (List.map (VV.int .i64) ([] : List Int)) (And.intro zrow ?_)
  replace h := evT h
  refine zz ?_
  refine loopJ [5648] (fun kq fr hp => ∃ (x0 : List S62) (x1 : ByteArray) (x7 : List Int) (x8 : Int) (x9 : Int) (x10 : List Int) (x11 : Int) (g5648 : Nat), run spec_MatchAt.B kq (.l1 x0 x1 x7 x8 x9 x10 x11) = some r ∧ (∃ fr0, fr = puts [(0, .one (.val (.row (x0.map e62)))), (1, .one (.val (.str x1))), (7, .one (.val (.row (x7.map (VV.int .i64))))), (8, .one (.val (.int .i64 x8))), (9, .one (.val (.int .i64 x9))), (10, .one (.ref 5648 g5648)), (11, .one (.val (.int .i64 x11)))] fr0) ∧ hp = (upd 5648 (.own 3 1 (x10.map (VV.int .i64)) g5648 false) (fun _ => none))) k ⟨_, zfuel, _, _, _, _, _, _, _, 0, h, leafFr [0, 1, 7, 8, 9, 10, 11] (by kernel_rfl), by kernel_rfl⟩ ?_
  clear h; rintro k hle _ _ ⟨x0, x1, x7, x8, x9, x10, x11, g5648, h, ⟨fr0, rfl⟩, rfl⟩
  rcases k with _ | k
  · exact (run_zero h).elim
  rw [run_succ, spec_MatchAt.B] at h
  refine zz ?_
  refine br (iP h) ?_ ?_ <;> (clear h; intro c h)
  rotate_left
  · have h_ := evO h; clear h; obtain ⟨t85, ht, h⟩ := h_
    refine zz ?_
    refine Exists.intro _ (And.intro (spec_Closure_ev (h := ht)) ?_)
    replace h := evT h
    refine zz ?_
    exact ⟨_, zfuel, _, _, _, _, _, h, leafFr [0, 1, 7, 8, 9] (by kernel_rfl), by kernel_rfl⟩
  have h_ := gP h; clear h; obtain ⟨c, h⟩ := h_
  have h_ := gP h; clear h; obtain ⟨c, h⟩ := h_
  have h_ := gP h; clear h; obtain ⟨c, h⟩ := h_
  have h_ := gP h; clear h; obtain ⟨c, h⟩ := h_
  have h_ := gP h; clear h; obtain ⟨c, h⟩ := h_
  have h_ := evO h; clear h; obtain ⟨t69, ht, h⟩ := h_
  refine zz ?_
  refine Exists.intro _ (And.intro (spec_l5Takes_ev (h := ht)) ?_)
  refine zz ?_
  refine br (iP h) ?_ ?_ <;> (clear h; intro c h)
  rotate_left
  · replace h := evT h
    refine zz ?_
    exact ⟨_, zfuel, _, _, _, _, _, _, _, g5648, h, leafFr [0, 1, 7, 8, 9, 10, 11] (by kernel_rfl), by kernel_rfl⟩
  refine zz ?_
  refine Exists.intro (List.map (VV.int .i64) ([(wrap64 ((rdOf (0 : Int) x7 x11) + 1))] : List Int)) (And.intro zrow ?_)
  have h_ := gP h; clear h; obtain ⟨c, h⟩ := h_
  refine zz ?_
  refine Exists.intro (List.map (VV.int .i64) (x10 ++ [(wrap64 ((rdOf (0 : Int) x7 x11) + 1))])) (And.intro zrow ?_)
  replace h := evT h
  refine zz ?_
  exact ⟨_, zfuel, _, _, _, _, _, _, _, (g5648 + 1), h, leafFr [0, 1, 7, 8, 9, 10, 11] (by kernel_rfl), by kernel_rfl⟩
theorem impl_in_ev (a0 : Int) (a1 : Int) (a2 : Int) (r : Bool) (h : impl_in.f a0 a1 a2 = some r) : CE G 40 [.val (.int .i64 a0), .val (.int .i64 a1), .val (.int .i64 a2)] [] [.val (.bool r)] [] := by
  refine CE.mk ⟨Try.f40, _, rfl, rfl, ⟨by kernel_rfl, Nat.le_of_ble_eq_true rfl, Nat.le_of_ble_eq_true rfl⟩, ?_⟩
  rw [impl_in.f] at h
  refine zz ?_
  refine br (iteS h) ?_ ?_ <;> (clear h; intro c h)
  · refine zz ?_
    try (apply Or.inl; refine And.intro (by first | rfl | exact zboolK) ?_)
    refine zz ?_
    try (apply Or.inl; refine And.intro (by first | rfl | exact zboolK) ?_)
    refine zz ?_
    try (apply Or.inl; refine And.intro (by first | rfl | exact zboolK) ?_)
    cases h
    refine zz ?_
    first | exact ⟨trivial, [], [], ⟨rfl, trivial⟩, _, rfl, _, rfl, And.intro rfl rfl⟩ | exact ⟨[], [], ⟨rfl, trivial⟩, _, rfl, _, rfl, And.intro rfl rfl⟩
  refine zz ?_
  try (apply Or.inr; refine And.intro (by first | rfl | exact zboolK) ?_)
  refine zz ?_
  try (apply Or.inr; refine And.intro (by first | rfl | exact zboolK) ?_)
  refine zz ?_
  try (apply Or.inr; refine And.intro (by first | rfl | exact zboolK) ?_)
  cases h
  refine zz ?_
  first | exact ⟨trivial, [], [], ⟨rfl, trivial⟩, _, rfl, _, rfl, And.intro rfl rfl⟩ | exact ⟨[], [], ⟨rfl, trivial⟩, _, rfl, _, rfl, And.intro rfl rfl⟩
theorem impl_placeOk_ev (a0_0 : Int) (a0_1 : Int) (a0_2 : ByteArray) (a0_3 : Bool) (a0_4 : Int) (a0_5 : Int) (a1 : Int) (a2 : Bool) (r : Bool) (h : impl_placeOk.fv a0_0 a0_1 a0_2 a0_3 a0_4 a0_5 a1 a2 = some r) : CE G 63 [.val (.agg [.int .i64 a0_0, .int .i64 a0_1, .str a0_2, .bool a0_3, .int .i64 a0_4, .int .i64 a0_5]), .val (.int .i64 a1), .val (.bool a2)] [] [.val (.bool r)] [] := by
  obtain ⟨k, h⟩ := lim_ex h
  refine CE.mk ⟨Try.f63, _, rfl, rfl, ⟨by kernel_rfl, Nat.le_of_ble_eq_true rfl, Nat.le_of_ble_eq_true rfl⟩, ?_⟩
  rcases k with _ | k
  · exact (run_zero h).elim
  rw [run_succ, impl_placeOk.B] at h
  refine zz ?_
  refine cutJ (n := 35) [16] (fun fr hp => ∃ kq, kq ≤ k ∧ ∃ (x1 : Int) (x16_0 : Int) (x16_1 : Int) (x16_2 : ByteArray) (x16_3 : Bool) (x16_4 : Int) (x16_5 : Int), run impl_placeOk.B kq (.j0 x1 x16_0 x16_1 x16_2 x16_3 x16_4 x16_5) = some r ∧ (∃ fr0, fr = puts [(1, .one (.val (.int .i64 x1))), (3, .one (.ptr 16 0))] fr0) ∧ hp = (upd 16 (.box [.val (.int .i64 x16_0), .val (.int .i64 x16_1), .val (.str x16_2), .val (.bool x16_3), .val (.int .i64 x16_4), .val (.int .i64 x16_5)]) (fun _ => none))) ?_ ?_
  · refine zz ?_
    refine cutJ (n := 200001) [16] (fun fr hp => ∃ kq, kq ≤ k ∧ ∃ (x1 : Int) (x35 : Bool) (x16_0 : Int) (x16_1 : Int) (x16_2 : ByteArray) (x16_3 : Bool) (x16_4 : Int) (x16_5 : Int), run impl_placeOk.B kq (.j1 x1 x35 x16_0 x16_1 x16_2 x16_3 x16_4 x16_5) = some r ∧ (∃ fr0, fr = puts [(1, .one (.val (.int .i64 x1))), (3, .one (.ptr 16 0)), (35, .one (.val (.bool x35)))] fr0) ∧ hp = (upd 16 (.box [.val (.int .i64 x16_0), .val (.int .i64 x16_1), .val (.str x16_2), .val (.bool x16_3), .val (.int .i64 x16_4), .val (.int .i64 x16_5)]) (fun _ => none))) ?_ ?_
    · refine zz ?_
      refine brX (iP h) ?_ ?_ <;> (clear h; intro c h)
      rotate_left
      · refine zz ?_
        try (apply Or.inr; refine And.intro (by first | rfl | exact zboolK) ?_)
        refine zz ?_
        try (apply Or.inr; refine And.intro (by first | rfl | exact zboolK) ?_)
        refine zz ?_
        try (apply Or.inr; refine And.intro (by first | rfl | exact zboolK) ?_)
        refine zz ?_
        try (apply Or.inr; refine And.intro (by first | rfl | exact zboolK) ?_)
        refine zz ?_
        try (apply Or.inl; refine And.intro (by first | rfl | exact zboolK) ?_)
        refine zz ?_
        try (apply Or.inr; refine And.intro (by first | rfl | exact zboolK) ?_)
        refine zz ?_
        try (apply Or.inr; refine And.intro (by first | rfl | exact zboolK) ?_)
        refine zz ?_
        try (apply Or.inr; refine And.intro (by first | rfl | exact zboolK) ?_)
        refine zz ?_
        try (apply Or.inr; refine And.intro (by first | rfl | exact zboolK) ?_)
        refine zz ?_
        try (apply Or.inr; refine And.intro (by first | rfl | exact zboolK) ?_)
        refine zz ?_
        try (apply Or.inl; refine And.intro (by first | rfl | exact zboolK) ?_)
        replace h := evT h
        refine zz ?_
        exact ⟨_, zfuel, _, _, _, _, _, _, _, _, h, leafFr [1, 3, 35] (by kernel_rfl), by kernel_rfl⟩
      refine zz ?_
      try (apply Or.inl; refine And.intro (by first | rfl | exact zboolK) ?_)
      refine zz ?_
      try (apply Or.inl; refine And.intro (by first | rfl | exact zboolK) ?_)
      refine zz ?_
      try (apply Or.inl; refine And.intro (by first | rfl | exact zboolK) ?_)
      refine zz ?_
      refine brN (iP h) ?_ ?_ <;> (clear h; intro c h)
      rotate_left
      · refine zz ?_
        try (apply Or.inr; refine And.intro (by first | rfl | exact zboolK) ?_)
        refine zz ?_
        try (apply Or.inr; refine And.intro (by first | rfl | exact zboolK) ?_)
        refine zz ?_
        try (apply Or.inl; refine And.intro (by first | rfl | exact zboolK) ?_)
        refine zz ?_
        try (apply Or.inr; refine And.intro (by first | rfl | exact zboolK) ?_)
        refine zz ?_
        try (apply Or.inr; refine And.intro (by first | rfl | exact zboolK) ?_)
        refine zz ?_
        try (apply Or.inl; refine And.intro (by first | rfl | exact zboolK) ?_)
        refine zz ?_
        try (apply Or.inl; refine And.intro (by first | rfl | exact zboolK) ?_)
        refine zz ?_
        try (apply Or.inl; refine And.intro (by first | rfl | exact zboolK) ?_)
        refine zz ?_
        try (apply Or.inl; refine And.intro (by first | rfl | exact zboolK) ?_)
        refine zz ?_
        (apply Or.inl; refine And.intro (by first | rfl | exact zbool) ?_)
        refine zz ?_
        (apply Or.inl; refine And.intro (by first | rfl | exact zbool) ?_)
        refine zz ?_
        (apply Or.inl; refine And.intro (by first | rfl | exact zbool) ?_)
        refine zz ?_
        (apply Or.inl; refine And.intro (by first | rfl | exact zbool) ?_)
        refine zz ?_
        refine brX (iP h) ?_ ?_ <;> (clear h; intro c h)
        · refine zz ?_
          try (apply Or.inl; refine And.intro (by first | rfl | exact zboolK) ?_)
          refine zz ?_
          (apply Or.inl; refine And.intro (by first | rfl | exact zbool) ?_)
          refine zz ?_
          try (apply Or.inr; refine And.intro (by first | rfl | exact zboolK) ?_)
          refine zz ?_
          try (apply Or.inl; refine And.intro (by first | rfl | exact zboolK) ?_)
          refine zz ?_
          (apply Or.inl; refine And.intro (by first | rfl | exact zbool) ?_)
          refine zz ?_
          try (apply Or.inr; refine And.intro (by first | rfl | exact zboolK) ?_)
          replace h := evT h
          refine zz ?_
          exact ⟨_, zfuel, _, _, _, _, _, _, _, _, h, leafFr [1, 3, 35] (by kernel_rfl), by kernel_rfl⟩
        refine zz ?_
        try (apply Or.inr; refine And.intro (by first | rfl | exact zboolK) ?_)
        refine zz ?_
        (apply Or.inl; refine And.intro (by first | rfl | exact zbool) ?_)
        refine zz ?_
        try (apply Or.inl; refine And.intro (by first | rfl | exact zboolK) ?_)
        refine zz ?_
        try (apply Or.inl; refine And.intro (by first | rfl | exact zboolK) ?_)
        refine zz ?_
        (apply Or.inl; refine And.intro (by first | rfl | exact zbool) ?_)
        refine zz ?_
        try (apply Or.inr; refine And.intro (by first | rfl | exact zboolK) ?_)
        replace h := evT h
        refine zz ?_
        exact ⟨_, zfuel, _, _, _, _, _, _, _, _, h, leafFr [1, 3, 35] (by kernel_rfl), by kernel_rfl⟩
      refine zz ?_
      try (apply Or.inl; refine And.intro (by first | rfl | exact zboolK) ?_)
      refine zz ?_
      try (apply Or.inl; refine And.intro (by first | rfl | exact zboolK) ?_)
      refine zz ?_
      try (apply Or.inl; refine And.intro (by first | rfl | exact zboolK) ?_)
      refine zz ?_
      try (apply Or.inl; refine And.intro (by first | rfl | exact zboolK) ?_)
      refine zz ?_
      try (apply Or.inr; refine And.intro (by first | rfl | exact zboolK) ?_)
      refine zz ?_
      refine brX (iP h) ?_ ?_ <;> (clear h; intro c h)
      rotate_left
      · refine zz ?_
        try (apply Or.inr; refine And.intro (by first | rfl | exact zboolK) ?_)
        refine zz ?_
        try (apply Or.inr; refine And.intro (by first | rfl | exact zboolK) ?_)
        refine zz ?_
        try (apply Or.inr; refine And.intro (by first | rfl | exact zboolK) ?_)
        refine zz ?_
        try (apply Or.inr; refine And.intro (by first | rfl | exact zboolK) ?_)
        refine zz ?_
        try (apply Or.inl; refine And.intro (by first | rfl | exact zboolK) ?_)
        replace h := evT h
        refine zz ?_
        exact ⟨_, zfuel, _, _, _, _, _, _, _, _, h, leafFr [1, 3, 35] (by kernel_rfl), by kernel_rfl⟩
      refine zz ?_
      try (apply Or.inl; refine And.intro (by first | rfl | exact zboolK) ?_)
      refine zz ?_
      try (apply Or.inl; refine And.intro (by first | rfl | exact zboolK) ?_)
      refine zz ?_
      try (apply Or.inl; refine And.intro (by first | rfl | exact zboolK) ?_)
      refine zz ?_
      refine brN (iP h) ?_ ?_ <;> (clear h; intro c h)
      rotate_left
      · refine zz ?_
        try (apply Or.inr; refine And.intro (by first | rfl | exact zboolK) ?_)
        refine zz ?_
        try (apply Or.inr; refine And.intro (by first | rfl | exact zboolK) ?_)
        refine zz ?_
        try (apply Or.inr; refine And.intro (by first | rfl | exact zboolK) ?_)
        refine zz ?_
        try (apply Or.inr; refine And.intro (by first | rfl | exact zboolK) ?_)
        refine zz ?_
        try (apply Or.inl; refine And.intro (by first | rfl | exact zboolK) ?_)
        refine zz ?_
        try (apply Or.inr; refine And.intro (by first | rfl | exact zboolK) ?_)
        refine zz ?_
        try (apply Or.inr; refine And.intro (by first | rfl | exact zboolK) ?_)
        replace h := evT h
        refine zz ?_
        exact ⟨_, zfuel, _, _, _, _, _, _, _, _, h, leafFr [1, 3, 35] (by kernel_rfl), by kernel_rfl⟩
      refine zz ?_
      try (apply Or.inl; refine And.intro (by first | rfl | exact zboolK) ?_)
      refine zz ?_
      try (apply Or.inl; refine And.intro (by first | rfl | exact zboolK) ?_)
      refine zz ?_
      try (apply Or.inl; refine And.intro (by first | rfl | exact zboolK) ?_)
      refine zz ?_
      refine brX (iP h) ?_ ?_ <;> (clear h; intro c h)
      · refine zz ?_
        try (apply Or.inl; refine And.intro (by first | rfl | exact zboolK) ?_)
        refine zz ?_
        try (apply Or.inl; refine And.intro (by first | rfl | exact zboolK) ?_)
        refine zz ?_
        try (apply Or.inr; refine And.intro (by first | rfl | exact zboolK) ?_)
        refine zz ?_
        try (apply Or.inl; refine And.intro (by first | rfl | exact zboolK) ?_)
        refine zz ?_
        try (apply Or.inl; refine And.intro (by first | rfl | exact zboolK) ?_)
        refine zz ?_
        try (apply Or.inr; refine And.intro (by first | rfl | exact zboolK) ?_)
        replace h := evT h
        refine zz ?_
        exact ⟨_, zfuel, _, _, _, _, _, _, _, _, h, leafFr [1, 3, 35] (by kernel_rfl), by kernel_rfl⟩
      refine zz ?_
      try (apply Or.inr; refine And.intro (by first | rfl | exact zboolK) ?_)
      refine zz ?_
      try (apply Or.inl; refine And.intro (by first | rfl | exact zboolK) ?_)
      refine zz ?_
      try (apply Or.inl; refine And.intro (by first | rfl | exact zboolK) ?_)
      refine zz ?_
      try (apply Or.inl; refine And.intro (by first | rfl | exact zboolK) ?_)
      refine zz ?_
      try (apply Or.inl; refine And.intro (by first | rfl | exact zboolK) ?_)
      refine zz ?_
      try (apply Or.inr; refine And.intro (by first | rfl | exact zboolK) ?_)
      replace h := evT h
      refine zz ?_
      exact ⟨_, zfuel, _, _, _, _, _, _, _, _, h, leafFr [1, 3, 35] (by kernel_rfl), by kernel_rfl⟩
    clear h; rintro _ _ ⟨k, hle, x1, x35, x16_0, x16_1, x16_2, x16_3, x16_4, x16_5, h, ⟨fr0, rfl⟩, rfl⟩
    rcases k with _ | k
    · exact (run_zero h).elim
    rw [run_succ, impl_placeOk.B] at h
    refine zz ?_
    refine br (iP h) ?_ ?_ <;> (clear h; intro c h)
    · replace h := evR h; cases h
      refine zz ?_
      first | exact ⟨trivial, [], [], ⟨rfl, trivial⟩, _, rfl, _, rfl, And.intro rfl rfl⟩ | exact ⟨[], [], ⟨rfl, trivial⟩, _, rfl, _, rfl, And.intro rfl rfl⟩
    replace h := evT h
    refine zz ?_
    exact ⟨_, zfuel, _, _, _, _, _, _, _, h, leafFr [1, 3] (by kernel_rfl), by kernel_rfl⟩
  clear h; rintro _ _ ⟨k, hle, x1, x16_0, x16_1, x16_2, x16_3, x16_4, x16_5, h, ⟨fr0, rfl⟩, rfl⟩
  rcases k with _ | k
  · exact (run_zero h).elim
  rw [run_succ, impl_placeOk.B] at h
  refine zz ?_
  refine br (iP h) ?_ ?_ <;> (clear h; intro c h)
  · have h_ := evO h; clear h; obtain ⟨t44, ht, h⟩ := h_
    refine zz ?_
    refine Exists.intro _ (And.intro (impl_in_ev (h := ht)) ?_)
    refine zz ?_
    refine br (iP h) ?_ ?_ <;> (clear h; intro c h)
    · refine zz ?_
      try (apply Or.inl; refine And.intro (by first | rfl | exact zboolK) ?_)
      refine zz ?_
      try (apply Or.inl; refine And.intro (by first | rfl | exact zboolK) ?_)
      refine zz ?_
      try (apply Or.inl; refine And.intro (by first | rfl | exact zboolK) ?_)
      replace h := evR h; cases h
      refine zz ?_
      first | exact ⟨trivial, [], [], ⟨rfl, trivial⟩, _, rfl, _, rfl, And.intro rfl rfl⟩ | exact ⟨[], [], ⟨rfl, trivial⟩, _, rfl, _, rfl, And.intro rfl rfl⟩
    refine zz ?_
    try (apply Or.inr; refine And.intro (by first | rfl | exact zboolK) ?_)
    refine zz ?_
    try (apply Or.inr; refine And.intro (by first | rfl | exact zboolK) ?_)
    refine zz ?_
    try (apply Or.inr; refine And.intro (by first | rfl | exact zboolK) ?_)
    replace h := evR h; cases h
    refine zz ?_
    first | exact ⟨trivial, [], [], ⟨rfl, trivial⟩, _, rfl, _, rfl, And.intro rfl rfl⟩ | exact ⟨[], [], ⟨rfl, trivial⟩, _, rfl, _, rfl, And.intro rfl rfl⟩
  refine zz ?_
  refine br (iP h) ?_ ?_ <;> (clear h; intro c h)
  · have h_ := evO h; clear h; obtain ⟨t56, ht, h⟩ := h_
    refine zz ?_
    refine Exists.intro _ (And.intro (impl_in_ev (h := ht)) ?_)
    refine zz ?_
    refine br (iP h) ?_ ?_ <;> (clear h; intro c h)
    rotate_left
    · refine zz ?_
      try (apply Or.inr; refine And.intro (by first | rfl | exact zboolK) ?_)
      refine zz ?_
      try (apply Or.inr; refine And.intro (by first | rfl | exact zboolK) ?_)
      refine zz ?_
      try (apply Or.inr; refine And.intro (by first | rfl | exact zboolK) ?_)
      refine zz ?_
      try (apply Or.inr; refine And.intro (by first | rfl | exact zboolK) ?_)
      refine zz ?_
      try (apply Or.inr; refine And.intro (by first | rfl | exact zboolK) ?_)
      replace h := evR h; cases h
      refine zz ?_
      first | exact ⟨trivial, [], [], ⟨rfl, trivial⟩, _, rfl, _, rfl, And.intro rfl rfl⟩ | exact ⟨[], [], ⟨rfl, trivial⟩, _, rfl, _, rfl, And.intro rfl rfl⟩
    refine zz ?_
    try (apply Or.inl; refine And.intro (by first | rfl | exact zboolK) ?_)
    refine zz ?_
    try (apply Or.inl; refine And.intro (by first | rfl | exact zboolK) ?_)
    refine zz ?_
    try (apply Or.inl; refine And.intro (by first | rfl | exact zboolK) ?_)
    refine zz ?_
    try (apply Or.inl; refine And.intro (by first | rfl | exact zboolK) ?_)
    have h_ := evO h; clear h; obtain ⟨t62, ht, h⟩ := h_
    refine zz ?_
    refine Exists.intro _ (And.intro (impl_in_ev (h := ht)) ?_)
    refine zz ?_
    try (apply Or.inl; refine And.intro (by first | rfl | exact zboolK) ?_)
    replace h := evR h; cases h
    refine zz ?_
    first | exact ⟨trivial, [], [], ⟨rfl, trivial⟩, _, rfl, _, rfl, And.intro rfl rfl⟩ | exact ⟨[], [], ⟨rfl, trivial⟩, _, rfl, _, rfl, And.intro rfl rfl⟩
  refine zz ?_
  refine br (iP h) ?_ ?_ <;> (clear h; intro c h)
  · have h_ := evO h; clear h; obtain ⟨t68, ht, h⟩ := h_
    refine zz ?_
    refine Exists.intro _ (And.intro (impl_in_ev (h := ht)) ?_)
    refine zz ?_
    refine br (iP h) ?_ ?_ <;> (clear h; intro c h)
    rotate_left
    · refine zz ?_
      try (apply Or.inr; refine And.intro (by first | rfl | exact zboolK) ?_)
      refine zz ?_
      try (apply Or.inr; refine And.intro (by first | rfl | exact zboolK) ?_)
      refine zz ?_
      try (apply Or.inr; refine And.intro (by first | rfl | exact zboolK) ?_)
      refine zz ?_
      try (apply Or.inr; refine And.intro (by first | rfl | exact zboolK) ?_)
      refine zz ?_
      try (apply Or.inr; refine And.intro (by first | rfl | exact zboolK) ?_)
      refine zz ?_
      try (apply Or.inr; refine And.intro (by first | rfl | exact zboolK) ?_)
      refine zz ?_
      try (apply Or.inr; refine And.intro (by first | rfl | exact zboolK) ?_)
      replace h := evR h; cases h
      refine zz ?_
      first | exact ⟨trivial, [], [], ⟨rfl, trivial⟩, _, rfl, _, rfl, And.intro rfl rfl⟩ | exact ⟨[], [], ⟨rfl, trivial⟩, _, rfl, _, rfl, And.intro rfl rfl⟩
    refine zz ?_
    try (apply Or.inl; refine And.intro (by first | rfl | exact zboolK) ?_)
    refine zz ?_
    try (apply Or.inl; refine And.intro (by first | rfl | exact zboolK) ?_)
    refine zz ?_
    try (apply Or.inl; refine And.intro (by first | rfl | exact zboolK) ?_)
    refine zz ?_
    refine br (iP h) ?_ ?_ <;> (clear h; intro c h)
    · refine zz ?_
      try (apply Or.inl; refine And.intro (by first | rfl | exact zboolK) ?_)
      refine zz ?_
      try (apply Or.inl; refine And.intro (by first | rfl | exact zboolK) ?_)
      refine zz ?_
      try (apply Or.inl; refine And.intro (by first | rfl | exact zboolK) ?_)
      replace h := evR h; cases h
      refine zz ?_
      first | exact ⟨trivial, [], [], ⟨rfl, trivial⟩, _, rfl, _, rfl, And.intro rfl rfl⟩ | exact ⟨[], [], ⟨rfl, trivial⟩, _, rfl, _, rfl, And.intro rfl rfl⟩
    refine zz ?_
    try (apply Or.inr; refine And.intro (by first | rfl | exact zboolK) ?_)
    refine zz ?_
    try (apply Or.inr; refine And.intro (by first | rfl | exact zboolK) ?_)
    refine zz ?_
    try (apply Or.inr; refine And.intro (by first | rfl | exact zboolK) ?_)
    replace h := evR h; cases h
    refine zz ?_
    first | exact ⟨trivial, [], [], ⟨rfl, trivial⟩, _, rfl, _, rfl, And.intro rfl rfl⟩ | exact ⟨[], [], ⟨rfl, trivial⟩, _, rfl, _, rfl, And.intro rfl rfl⟩
  refine zz ?_
  refine cutJ (n := 79) [16] (fun fr hp => ∃ kq, kq ≤ k ∧ ∃ (x79 : Bool) (x16_0 : Int) (x16_1 : Int) (x16_2 : ByteArray) (x16_3 : Bool) (x16_4 : Int) (x16_5 : Int), run impl_placeOk.B kq (.j2 x79 x16_0 x16_1 x16_2 x16_3 x16_4 x16_5) = some r ∧ (∃ fr0, fr = puts [(3, .one (.ptr 16 0)), (79, .one (.val (.bool x79)))] fr0) ∧ hp = (upd 16 (.box [.val (.int .i64 x16_0), .val (.int .i64 x16_1), .val (.str x16_2), .val (.bool x16_3), .val (.int .i64 x16_4), .val (.int .i64 x16_5)]) (fun _ => none))) ?_ ?_
  · refine zz ?_
    refine br (iP h) ?_ ?_ <;> (clear h; intro c h)
    · replace h := evT h
      refine zz ?_
      exact ⟨_, zfuel, _, _, _, _, _, _, _, h, leafFr [3, 79] (by kernel_rfl), by kernel_rfl⟩
    refine zz ?_
    refine br (iP h) ?_ ?_ <;> (clear h; intro c h)
    · replace h := evT h
      refine zz ?_
      exact ⟨_, zfuel, _, _, _, _, _, _, _, h, leafFr [3, 79] (by kernel_rfl), by kernel_rfl⟩
    refine zz ?_
    refine br (iP h) ?_ ?_ <;> (clear h; intro c h)
    · replace h := evT h
      refine zz ?_
      exact ⟨_, zfuel, _, _, _, _, _, _, _, h, leafFr [3, 79] (by kernel_rfl), by kernel_rfl⟩
    refine zz ?_
    refine br (iP h) ?_ ?_ <;> (clear h; intro c h)
    · replace h := evT h
      refine zz ?_
      exact ⟨_, zfuel, _, _, _, _, _, _, _, h, leafFr [3, 79] (by kernel_rfl), by kernel_rfl⟩
    replace h := evT h
    refine zz ?_
    exact ⟨_, zfuel, _, _, _, _, _, _, _, h, leafFr [3, 79] (by kernel_rfl), by kernel_rfl⟩
  clear h; rintro _ _ ⟨k, hle, x79, x16_0, x16_1, x16_2, x16_3, x16_4, x16_5, h, ⟨fr0, rfl⟩, rfl⟩
  rcases k with _ | k
  · exact (run_zero h).elim
  rw [run_succ, impl_placeOk.B] at h
  refine zz ?_
  refine br (iP h) ?_ ?_ <;> (clear h; intro c h)
  rotate_left
  · replace h := evR h; cases h
    refine zz ?_
    first | exact ⟨trivial, [], [], ⟨rfl, trivial⟩, _, rfl, _, rfl, And.intro rfl rfl⟩ | exact ⟨[], [], ⟨rfl, trivial⟩, _, rfl, _, rfl, And.intro rfl rfl⟩
  refine zz ?_
  refine br (iP h) ?_ ?_ <;> (clear h; intro c h)
  · refine zz ?_
    try (apply Or.inl; refine And.intro (by first | rfl | exact zboolK) ?_)
    refine zz ?_
    try (apply Or.inl; refine And.intro (by first | rfl | exact zboolK) ?_)
    refine zz ?_
    try (apply Or.inl; refine And.intro (by first | rfl | exact zboolK) ?_)
    replace h := evR h; cases h
    refine zz ?_
    first | exact ⟨trivial, [], [], ⟨rfl, trivial⟩, _, rfl, _, rfl, And.intro rfl rfl⟩ | exact ⟨[], [], ⟨rfl, trivial⟩, _, rfl, _, rfl, And.intro rfl rfl⟩
  refine zz ?_
  try (apply Or.inr; refine And.intro (by first | rfl | exact zboolK) ?_)
  refine zz ?_
  try (apply Or.inr; refine And.intro (by first | rfl | exact zboolK) ?_)
  refine zz ?_
  try (apply Or.inr; refine And.intro (by first | rfl | exact zboolK) ?_)
  replace h := evR h; cases h
  refine zz ?_
  first | exact ⟨trivial, [], [], ⟨rfl, trivial⟩, _, rfl, _, rfl, And.intro rfl rfl⟩ | exact ⟨[], [], ⟨rfl, trivial⟩, _, rfl, _, rfl, And.intro rfl rfl⟩
theorem impl_NfaOk_ev (l0 : List S62) (r : Bool) (h : impl_NfaOk.fv l0 = some r) : CE G 32 [.val (.row (l0.map e62))] [] [.val (.bool r)] [] := by
  obtain ⟨k, h⟩ := lim_ex h
  refine CE.mk ⟨Try.f32, _, rfl, rfl, ⟨by kernel_rfl, Nat.le_of_ble_eq_true rfl, Nat.le_of_ble_eq_true rfl⟩, ?_⟩
  rcases k with _ | k
  · exact (run_zero h).elim
  rw [run_succ, impl_NfaOk.B] at h
  have h_ := evO h; clear h; obtain ⟨t7, ht, h⟩ := h_
  refine zz ?_
  refine Exists.intro _ (And.intro (impl_in_ev (h := ht)) ?_)
  refine zz ?_
  refine brN (iP h) ?_ ?_ <;> (clear h; intro c h)
  · replace h := evR h; cases h
    refine zz ?_
    first | exact ⟨trivial, [], [], ⟨rfl, trivial⟩, _, rfl, _, rfl, And.intro rfl rfl⟩ | exact ⟨[], [], ⟨rfl, trivial⟩, _, rfl, _, rfl, And.intro rfl rfl⟩
  replace h := evT h
  refine zz ?_
  refine loopJ [] (fun kq fr hp => ∃ (x0 : List S62) (x9 : List S62) (x10 : Int) (x11 : Int), run impl_NfaOk.B kq (.l0 x0 x9 x10 x11) = some r ∧ (∃ fr0, fr = puts [(0, .one (.val (.row (x0.map e62)))), (9, .one (.val (.row (x9.map e62)))), (10, .one (.val (.int .i64 x10))), (11, .one (.val (.int .i64 x11)))] fr0) ∧ hp = (fun _ => none)) k ⟨_, zfuel, _, _, _, _, h, leafFr [0, 9, 10, 11] (by kernel_rfl), by kernel_rfl⟩ ?_
  clear h; rintro k hle _ _ ⟨x0, x9, x10, x11, h, ⟨fr0, rfl⟩, rfl⟩
  rcases k with _ | k
  · exact (run_zero h).elim
  rw [run_succ, impl_NfaOk.B] at h
  refine zz ?_
  refine br (iP h) ?_ ?_ <;> (clear h; intro c h)
  rotate_left
  · replace h := evR h; cases h
    refine zz ?_
    first | exact ⟨trivial, [], [], ⟨rfl, trivial⟩, _, rfl, _, rfl, And.intro rfl rfl⟩ | exact ⟨[], [], ⟨rfl, trivial⟩, _, rfl, _, rfl, And.intro rfl rfl⟩
  have h_ := gP h; clear h; obtain ⟨c, h⟩ := h_
  have h_ := gP h; clear h; obtain ⟨c, h⟩ := h_
  have h_ := evO h; clear h; obtain ⟨t24, ht, h⟩ := h_
  refine zz ?_
  refine Exists.intro _ (And.intro (impl_placeOk_ev (h := ht)) ?_)
  refine zz ?_
  refine brN (iP h) ?_ ?_ <;> (clear h; intro c h)
  · replace h := evR h; cases h
    refine zz ?_
    first | exact ⟨trivial, [], [], ⟨rfl, trivial⟩, _, rfl, _, rfl, And.intro rfl rfl⟩ | exact ⟨[], [], ⟨rfl, trivial⟩, _, rfl, _, rfl, And.intro rfl rfl⟩
  replace h := evT h
  refine zz ?_
  exact ⟨_, zfuel, _, _, _, _, h, leafFr [0, 9, 10, 11] (by kernel_rfl), by kernel_rfl⟩
theorem impl_Closure_1_ev {n0 : Nat} {n1 : Nat} (a0 : Int) (l1_0 : List S62) (l2_0 : List Bool) (l3_0 : List Int) (r1 : List Bool) (r2 : List Int) (h : impl_Closure_1.fv a0 l1_0 l2_0 l3_0 = some (r1, r2)) : CE G 57 [.val (.int .i64 a0), .ptr 2 0, .ptr 3 0, .ptr 4 0] [.own 4 1 (l2_0.map VV.bool) n0 false, .own 3 1 (l3_0.map (VV.int .i64)) n1 false, .box [.val (.row (l1_0.map e62))], .box [.ref 0 n0], .box [.ref 1 n1]] [] [.own 4 1 (r1.map VV.bool) n0 false, .own 3 1 (r2.map (VV.int .i64)) (n1 + 1) false, .box [.val (.row (l1_0.map e62))], .box [.ref 0 n0], .box [.ref 1 (n1 + 1)]] := by
  obtain ⟨k, h⟩ := lim_ex h
  refine CE.mk ⟨Try.f57, _, rfl, rfl, ⟨by kernel_rfl, Nat.le_of_ble_eq_true rfl, Nat.le_of_ble_eq_true rfl⟩, ?_⟩
  rcases k with _ | k
  · exact (run_zero h).elim
  rw [run_succ, impl_Closure_1.B] at h
  refine zz ?_
  refine cutJ (n := 200000) [0, 1, 2, 3, 4] (fun fr hp => ∃ kq, kq ≤ k ∧ ∃ (x0 : Int) (x16 : Bool) (y0 : List Bool) (y1 : List Int) (g1 : Nat), run impl_Closure_1.B kq (.j0 x0 x16 y0 y1 l1_0) = some (r1, r2) ∧ (∃ fr0, fr = puts [(0, .one (.val (.int .i64 x0))), (2, .one (.ptr 3 0)), (3, .one (.ptr 4 0)), (16, .one (.val (.bool x16)))] fr0) ∧ hp = (upd 0 (.own 4 1 (y0.map VV.bool) n0 false) (upd 1 (.own 3 1 (y1.map (VV.int .i64)) g1 false) (upd 2 (.box [.val (.row (l1_0.map e62))]) (upd 3 (.box [.ref 0 n0]) (upd 4 (.box [.ref 1 g1]) (fun _ => none))))))) ?_ ?_
  · have h_ := evO h; clear h; obtain ⟨t9, ht, h⟩ := h_
    refine zz ?_
    refine Exists.intro _ (And.intro (impl_in_ev (h := ht)) ?_)
    refine zz ?_
    refine br (iP h) ?_ ?_ <;> (clear h; intro c h)
    rotate_left
    · refine zz ?_
      try (apply Or.inr; refine And.intro (by first | rfl | exact zboolK) ?_)
      refine zz ?_
      try (apply Or.inr; refine And.intro (by first | rfl | exact zboolK) ?_)
      refine zz ?_
      try (apply Or.inr; refine And.intro (by first | rfl | exact zboolK) ?_)
      refine zz ?_
      try (apply Or.inr; refine And.intro (by first | rfl | exact zboolK) ?_)
      refine zz ?_
      try (apply Or.inr; refine And.intro (by first | rfl | exact zboolK) ?_)
      replace h := evT h
      refine zz ?_
      exact ⟨_, zfuel, _, _, _, _, n1, h, leafFr [0, 2, 3, 16] (by kernel_rfl), by kernel_rfl⟩
    refine zz ?_
    try (apply Or.inl; refine And.intro (by first | rfl | exact zboolK) ?_)
    refine zz ?_
    try (apply Or.inl; refine And.intro (by first | rfl | exact zboolK) ?_)
    have h_ := gP h; clear h; obtain ⟨c, h⟩ := h_
    have h_ := gP h; clear h; obtain ⟨c, h⟩ := h_
    refine zz ?_
    try (apply Or.inl; refine And.intro (by first | rfl | exact zboolK) ?_)
    refine zz ?_
    try (apply Or.inl; refine And.intro (by first | rfl | exact zboolK) ?_)
    refine zz ?_
    try (apply Or.inl; refine And.intro (by first | rfl | exact zboolK) ?_)
    replace h := evT h
    refine zz ?_
    exact ⟨_, zfuel, _, _, _, _, n1, h, leafFr [0, 2, 3, 16] (by kernel_rfl), by kernel_rfl⟩
  clear h; rintro _ _ ⟨k, hle, x0, x16, y0, y1, g1, h, ⟨fr0, rfl⟩, rfl⟩
  rcases k with _ | k
  · exact (run_zero h).elim
  rw [run_succ, impl_Closure_1.B] at h
  refine zz ?_
  refine br (iP h) ?_ ?_ <;> (clear h; intro c h)
  rotate_left
  · replace h := evR h; cases h
    refine zz ?_
    first | refine ⟨trivial, [], [(1, g1, n1 + 1)], ⟨rfl, ⟨rfl, trivial⟩⟩, _, rfl, _, rfl, ?_⟩ | refine ⟨[], [(1, g1, n1 + 1)], ⟨rfl, ⟨rfl, trivial⟩⟩, _, rfl, _, rfl, ?_⟩
    repeat' (first | (refine And.intro ?_ ?_) | rfl)
  have h_ := gP h; clear h; obtain ⟨c, h⟩ := h_
  have h_ := gP h; clear h; obtain ⟨c, h⟩ := h_
  refine zz ?_
  refine Exists.intro (List.map VV.bool (y0.set (x0 : Int).toNat true)) (And.intro zrow ?_)
  refine zz ?_
  refine Exists.intro (List.map (VV.int .i64) ([x0] : List Int)) (And.intro zrow ?_)
  have h_ := gP h; clear h; obtain ⟨c, h⟩ := h_
  refine zz ?_
  refine Exists.intro (List.map (VV.int .i64) (y1 ++ [x0])) (And.intro zrow ?_)
  replace h := evR h; cases h
  refine zz ?_
  first | refine ⟨trivial, [], [(1, g1 + 1, n1 + 1)], ⟨rfl, ⟨rfl, trivial⟩⟩, _, rfl, _, rfl, ?_⟩ | refine ⟨[], [(1, g1 + 1, n1 + 1)], ⟨rfl, ⟨rfl, trivial⟩⟩, _, rfl, _, rfl, ?_⟩
  repeat' (first | (refine And.intro ?_ ?_) | rfl)
theorem impl_Closure_ev (l0 : List S62) (l1 : List Int) (a2 : Bool) (a3 : Bool) (r : List Int) (h : impl_Closure.fv l0 l1 a2 a3 = some r) : CE G 28 [.val (.row (l0.map e62)), .val (.row (l1.map (VV.int .i64))), .val (.bool a2), .val (.bool a3)] [] [.val (.row (r.map (VV.int .i64)))] [] := by
  obtain ⟨k, h⟩ := lim_ex h
  refine CE.mk ⟨Try.f28, _, rfl, rfl, ⟨by kernel_rfl, Nat.le_of_ble_eq_true rfl, Nat.le_of_ble_eq_true rfl⟩, ?_⟩
  rcases k with _ | k
  · exact (run_zero h).elim
  rw [run_succ, impl_Closure.B] at h
  have h_ := gP h; clear h; obtain ⟨c, h⟩ := h_
  have h_ := gP h; clear h; obtain ⟨c, h⟩ := h_
  refine zz ?_
  refine Exists.intro (List.map VV.bool (List.replicate ((l0.length : Int) : Int).toNat false)) (And.intro zrow ?_)
  refine zz ?_
  refine Exists.intro (List.map (VV.int .i64) ([] : List Int)) (And.intro zrow ?_)
  replace h := evT h
  refine zz ?_
  refine loopJ [16, 530, 531, 1040, 1041] (fun kq fr hp => ∃ (x2 : Bool) (x3 : Bool) (x22 : List Int) (x23 : Int) (x24 : Int) (y530 : List Bool) (y1040 : List Int) (x16_0 : List S62) (g530 : Nat) (g1040 : Nat), run impl_Closure.B kq (.l0 x2 x3 x22 x23 x24 y530 y1040 x16_0) = some r ∧ (∃ fr0, fr = puts [(2, .one (.val (.bool x2))), (3, .one (.val (.bool x3))), (4, .one (.ptr 16 0)), (10, .one (.ptr 1041 0)), (11, .one (.fn 57 [16, 531, 1041])), (22, .one (.val (.row (x22.map (VV.int .i64))))), (23, .one (.val (.int .i64 x23))), (24, .one (.val (.int .i64 x24)))] fr0) ∧ hp = (upd 16 (.box [.val (.row (x16_0.map e62))]) (upd 530 (.own 4 1 (y530.map VV.bool) g530 false) (upd 531 (.box [.ref 530 g530]) (upd 1040 (.own 3 1 (y1040.map (VV.int .i64)) g1040 false) (upd 1041 (.box [.ref 1040 g1040]) (fun _ => none))))))) k ⟨_, zfuel, _, _, _, _, _, _, _, _, 0, 0, h, leafFr [2, 3, 4, 10, 11, 22, 23, 24] (by kernel_rfl), by kernel_rfl⟩ ?_
  clear h; rintro k hle _ _ ⟨x2, x3, x22, x23, x24, y530, y1040, x16_0, g530, g1040, h, ⟨fr0, rfl⟩, rfl⟩
  rcases k with _ | k
  · exact (run_zero h).elim
  rw [run_succ, impl_Closure.B] at h
  refine zz ?_
  refine br (iP h) ?_ ?_ <;> (clear h; intro c h)
  · have h_ := gP h; clear h; obtain ⟨c, h⟩ := h_
    have h_ := gP h; clear h; obtain ⟨c, h⟩ := h_
    have h_ := evO h; clear h; obtain ⟨t30, ht, h⟩ := h_
    refine zz ?_
    refine Exists.intro _ (Exists.intro _ (And.intro (impl_Closure_1_ev (h := ht)) ?_))
    replace h := evT h
    refine zz ?_
    exact ⟨_, zfuel, _, _, _, _, _, _, _, _, g530, (g1040 + 1), h, leafFr [2, 3, 4, 10, 11, 22, 23, 24] (by kernel_rfl), by kernel_rfl⟩
  replace h := evT h
  refine zz ?_
  refine loopJ [16, 530, 531, 1040, 1041] (fun kq fr hp => ∃ (x2 : Bool) (x3 : Bool) (x14 : Int) (y530 : List Bool) (y1040 : List Int) (x16_0 : List S62) (g530 : Nat) (g1040 : Nat), run impl_Closure.B kq (.l1 x2 x3 x14 y530 y1040 x16_0) = some r ∧ (∃ fr0, fr = puts [(2, .one (.val (.bool x2))), (3, .one (.val (.bool x3))), (4, .one (.ptr 16 0)), (10, .one (.ptr 1041 0)), (11, .one (.fn 57 [16, 531, 1041])), (14, .one (.val (.int .i64 x14)))] fr0) ∧ hp = (upd 16 (.box [.val (.row (x16_0.map e62))]) (upd 530 (.own 4 1 (y530.map VV.bool) g530 false) (upd 531 (.box [.ref 530 g530]) (upd 1040 (.own 3 1 (y1040.map (VV.int .i64)) g1040 false) (upd 1041 (.box [.ref 1040 g1040]) (fun _ => none))))))) k ⟨_, zfuel, _, _, _, _, _, _, g530, g1040, h, leafFr [2, 3, 4, 10, 11, 14] (by kernel_rfl), by kernel_rfl⟩ ?_
  clear h; rintro k hle _ _ ⟨x2, x3, x14, y530, y1040, x16_0, g530, g1040, h, ⟨fr0, rfl⟩, rfl⟩
  rcases k with _ | k
  · exact (run_zero h).elim
  rw [run_succ, impl_Closure.B] at h
  refine zz ?_
  refine br (iP h) ?_ ?_ <;> (clear h; intro c h)
  rotate_left
  · have h_ := evO h; clear h; obtain ⟨t79, ht, h⟩ := h_
    refine zz ?_
    refine Exists.intro _ (Exists.intro _ (And.intro (orc58 (h := ht)) ?_))
    replace h := evR h; cases h
    refine zz ?_
    first | exact ⟨trivial, [], [], ⟨rfl, trivial⟩, _, rfl, _, rfl, And.intro rfl rfl⟩ | exact ⟨[], [], ⟨rfl, trivial⟩, _, rfl, _, rfl, And.intro rfl rfl⟩
  have h_ := gP h; clear h; obtain ⟨c, h⟩ := h_
  have h_ := gP h; clear h; obtain ⟨c, h⟩ := h_
  have h_ := gP h; clear h; obtain ⟨c, h⟩ := h_
  refine zz ?_
  refine br (iP h) ?_ ?_ <;> (clear h; intro c h)
  · have h_ := evO h; clear h; obtain ⟨t53, ht, h⟩ := h_
    refine zz ?_
    refine Exists.intro _ (Exists.intro _ (And.intro (impl_Closure_1_ev (h := ht)) ?_))
    replace h := evT h
    refine zz ?_
    exact ⟨_, zfuel, _, _, _, _, _, _, g530, (g1040 + 1), h, leafFr [2, 3, 4, 10, 11, 14] (by kernel_rfl), by kernel_rfl⟩
  refine zz ?_
  refine br (iP h) ?_ ?_ <;> (clear h; intro c h)
  · have h_ := evO h; clear h; obtain ⟨t59, ht, h⟩ := h_
    refine zz ?_
    refine Exists.intro _ (Exists.intro _ (And.intro (impl_Closure_1_ev (h := ht)) ?_))
    have h_ := evO h; clear h; obtain ⟨t63, ht, h⟩ := h_
    refine zz ?_
    refine Exists.intro _ (Exists.intro _ (And.intro (impl_Closure_1_ev (h := ht)) ?_))
    replace h := evT h
    refine zz ?_
    exact ⟨_, zfuel, _, _, _, _, _, _, g530, (g1040 + 1 + 1), h, leafFr [2, 3, 4, 10, 11, 14] (by kernel_rfl), by kernel_rfl⟩
  refine zz ?_
  refine br (iP h) ?_ ?_ <;> (clear h; intro c h)
  · refine zz ?_
    refine br (iP h) ?_ ?_ <;> (clear h; intro c h)
    rotate_left
    · replace h := evT h
      refine zz ?_
      exact ⟨_, zfuel, _, _, _, _, _, _, g530, g1040, h, leafFr [2, 3, 4, 10, 11, 14] (by kernel_rfl), by kernel_rfl⟩
    have h_ := evO h; clear h; obtain ⟨t70, ht, h⟩ := h_
    refine zz ?_
    refine Exists.intro _ (Exists.intro _ (And.intro (impl_Closure_1_ev (h := ht)) ?_))
    replace h := evT h
    refine zz ?_
    exact ⟨_, zfuel, _, _, _, _, _, _, g530, (g1040 + 1), h, leafFr [2, 3, 4, 10, 11, 14] (by kernel_rfl), by kernel_rfl⟩
  refine zz ?_
  refine br (iP h) ?_ ?_ <;> (clear h; intro c h)
  rotate_left
  · replace h := evT h
    refine zz ?_
    exact ⟨_, zfuel, _, _, _, _, _, _, g530, g1040, h, leafFr [2, 3, 4, 10, 11, 14] (by kernel_rfl), by kernel_rfl⟩
  refine zz ?_
  refine br (iP h) ?_ ?_ <;> (clear h; intro c h)
  rotate_left
  · replace h := evT h
    refine zz ?_
    exact ⟨_, zfuel, _, _, _, _, _, _, g530, g1040, h, leafFr [2, 3, 4, 10, 11, 14] (by kernel_rfl), by kernel_rfl⟩
  have h_ := evO h; clear h; obtain ⟨t77, ht, h⟩ := h_
  refine zz ?_
  refine Exists.intro _ (Exists.intro _ (And.intro (impl_Closure_1_ev (h := ht)) ?_))
  replace h := evT h
  refine zz ?_
  exact ⟨_, zfuel, _, _, _, _, _, _, g530, (g1040 + 1), h, leafFr [2, 3, 4, 10, 11, 14] (by kernel_rfl), by kernel_rfl⟩
theorem slices_Index_int_int_ev (l0 : List Int) (a1 : Int) (r : Int) (h : slices_Index_int_int.fv l0 a1 = some r) : CE G 68 [.val (.row (l0.map (VV.int .i64))), .val (.int .i64 a1)] [] [.val (.int .i64 r)] [] := by
  obtain ⟨k, h⟩ := lim_ex h
  refine CE.mk ⟨Try.f68, _, rfl, rfl, ⟨by kernel_rfl, Nat.le_of_ble_eq_true rfl, Nat.le_of_ble_eq_true rfl⟩, ?_⟩
  rcases k with _ | k
  · exact (run_zero h).elim
  rw [run_succ, slices_Index_int_int.B] at h
  replace h := evT h
  refine zz ?_
  refine loopJ [] (fun kq fr hp => ∃ (x0 : List Int) (x1 : Int) (x7 : Int) (x8 : Int), run slices_Index_int_int.B kq (.l0 x0 x1 x7 x8) = some r ∧ (∃ fr0, fr = puts [(0, .one (.val (.row (x0.map (VV.int .i64))))), (1, .one (.val (.int .i64 x1))), (7, .one (.val (.int .i64 x7))), (8, .one (.val (.int .i64 x8)))] fr0) ∧ hp = (fun _ => none)) k ⟨_, zfuel, _, _, _, _, h, leafFr [0, 1, 7, 8] (by kernel_rfl), by kernel_rfl⟩ ?_
  clear h; rintro k hle _ _ ⟨x0, x1, x7, x8, h, ⟨fr0, rfl⟩, rfl⟩
  rcases k with _ | k
  · exact (run_zero h).elim
  rw [run_succ, slices_Index_int_int.B] at h
  refine zz ?_
  refine br (iP h) ?_ ?_ <;> (clear h; intro c h)
  rotate_left
  · replace h := evR h; cases h
    refine zz ?_
    first | exact ⟨trivial, [], [], ⟨rfl, trivial⟩, _, rfl, _, rfl, And.intro rfl rfl⟩ | exact ⟨[], [], ⟨rfl, trivial⟩, _, rfl, _, rfl, And.intro rfl rfl⟩
  have h_ := gP h; clear h; obtain ⟨c, h⟩ := h_
  have h_ := gP h; clear h; obtain ⟨c, h⟩ := h_
  refine zz ?_
  refine br (iP h) ?_ ?_ <;> (clear h; intro c h)
  · replace h := evR h; cases h
    refine zz ?_
    first | exact ⟨trivial, [], [], ⟨rfl, trivial⟩, _, rfl, _, rfl, And.intro rfl rfl⟩ | exact ⟨[], [], ⟨rfl, trivial⟩, _, rfl, _, rfl, And.intro rfl rfl⟩
  replace h := evT h
  refine zz ?_
  exact ⟨_, zfuel, _, _, _, _, h, leafFr [0, 1, 7, 8] (by kernel_rfl), by kernel_rfl⟩
theorem slices_Contains_int_int_ev (l0 : List Int) (a1 : Int) (r : Bool) (h : slices_Contains_int_int.fv l0 a1 = some r) : CE G 41 [.val (.row (l0.map (VV.int .i64))), .val (.int .i64 a1)] [] [.val (.bool r)] [] := by
  refine CE.mk ⟨Try.f41, _, rfl, rfl, ⟨by kernel_rfl, Nat.le_of_ble_eq_true rfl, Nat.le_of_ble_eq_true rfl⟩, ?_⟩
  rw [slices_Contains_int_int.fv] at h
  have h_ := oS h; clear h; obtain ⟨t7, ht, h⟩ := h_
  refine zz ?_
  refine Exists.intro _ (And.intro (slices_Index_int_int_ev (h := ht)) ?_)
  cases h
  refine zz ?_
  first | exact ⟨trivial, [], [], ⟨rfl, trivial⟩, _, rfl, _, rfl, And.intro rfl rfl⟩ | exact ⟨[], [], ⟨rfl, trivial⟩, _, rfl, _, rfl, And.intro rfl rfl⟩
theorem impl_takes_ev (a0_0 : Int) (a0_1 : Int) (a0_2 : ByteArray) (a0_3 : Bool) (a0_4 : Int) (a0_5 : Int) (a1 : Int) (r : Bool) (h : impl_takes.f a0_0 a0_1 a0_2 a0_3 a0_4 a0_5 a1 = some r) : CE G 42 [.val (.agg [.int .i64 a0_0, .int .i64 a0_1, .str a0_2, .bool a0_3, .int .i64 a0_4, .int .i64 a0_5]), .val (.int .u8 a1)] [] [.val (.bool r)] [] := by
  refine CE.mk ⟨Try.f42, _, rfl, rfl, ⟨by kernel_rfl, Nat.le_of_ble_eq_true rfl, Nat.le_of_ble_eq_true rfl⟩, ?_⟩
  rw [impl_takes.f] at h
  refine zz ?_
  refine br (iteS h) ?_ ?_ <;> (clear h; intro c h)
  · cases h
    refine zz ?_
    first | exact ⟨trivial, [], [], ⟨rfl, trivial⟩, _, rfl, _, rfl, And.intro rfl rfl⟩ | exact ⟨[], [], ⟨rfl, trivial⟩, _, rfl, _, rfl, And.intro rfl rfl⟩
  refine zz ?_
  refine br (iteS h) ?_ ?_ <;> (clear h; intro c h)
  · cases h
    refine zz ?_
    first | exact ⟨trivial, [], [], ⟨rfl, trivial⟩, _, rfl, _, rfl, And.intro rfl rfl⟩ | exact ⟨[], [], ⟨rfl, trivial⟩, _, rfl, _, rfl, And.intro rfl rfl⟩
  refine zz ?_
  refine br (iteS h) ?_ ?_ <;> (clear h; intro c h)
  rotate_left
  · cases h
    refine zz ?_
    first | exact ⟨trivial, [], [], ⟨rfl, trivial⟩, _, rfl, _, rfl, And.intro rfl rfl⟩ | exact ⟨[], [], ⟨rfl, trivial⟩, _, rfl, _, rfl, And.intro rfl rfl⟩
  have h_ := oS h; clear h; obtain ⟨t21, ht, h⟩ := h_
  refine zz ?_
  refine Exists.intro _ (And.intro (orc69 (h := ht)) ?_)
  cases h
  refine zz ?_
  first | exact ⟨trivial, [], [], ⟨rfl, trivial⟩, _, rfl, _, rfl, And.intro rfl rfl⟩ | exact ⟨[], [], ⟨rfl, trivial⟩, _, rfl, _, rfl, And.intro rfl rfl⟩
theorem impl_MatchAt_ev (l0 : List S62) (a1 : ByteArray) (a2 : Int) (r : Int) (h : impl_MatchAt.fv l0 a1 a2 = some r) : CE G 10 [.val (.row (l0.map e62)), .val (.str a1), .val (.int .i64 a2)] [] [.val (.int .i64 r)] [] := by
  obtain ⟨k, h⟩ := lim_ex h
  refine CE.mk ⟨Try.f10, _, rfl, rfl, ⟨by kernel_rfl, Nat.le_of_ble_eq_true rfl, Nat.le_of_ble_eq_true rfl⟩, ?_⟩
  rcases k with _ | k
  · exact (run_zero h).elim
  rw [run_succ, impl_MatchAt.B] at h
  refine zz ?_
  refine cutJ (n := 21) [] (fun fr hp => ∃ kq, kq ≤ k ∧ ∃ (x0 : List S62) (x1 : ByteArray) (x2 : Int), run impl_MatchAt.B kq (.j0 x0 x1 x2) = some r ∧ (∃ fr0, fr = puts [(0, .one (.val (.row (x0.map e62)))), (1, .one (.val (.str x1))), (2, .one (.val (.int .i64 x2)))] fr0) ∧ hp = (fun _ => none)) ?_ ?_
  · refine zz ?_
    refine cutJ (n := 200001) [] (fun fr hp => ∃ kq, kq ≤ k ∧ ∃ (x0 : List S62) (x1 : ByteArray) (x2 : Int) (x21 : Bool), run impl_MatchAt.B kq (.j1 x0 x1 x2 x21) = some r ∧ (∃ fr0, fr = puts [(0, .one (.val (.row (x0.map e62)))), (1, .one (.val (.str x1))), (2, .one (.val (.int .i64 x2))), (21, .one (.val (.bool x21)))] fr0) ∧ hp = (fun _ => none)) ?_ ?_
    · have h_ := evO h; clear h; obtain ⟨t13, ht, h⟩ := h_
      refine zz ?_
      refine Exists.intro _ (And.intro (impl_NfaOk_ev (h := ht)) ?_)
      refine zz ?_
      refine brX (iP h) ?_ ?_ <;> (clear h; intro c h)
      rotate_left
      · refine zz ?_
        try (apply Or.inr; refine And.intro (by first | rfl | exact zboolK) ?_)
        refine zz ?_
        try (apply Or.inr; refine And.intro (by first | rfl | exact zboolK) ?_)
        refine zz ?_
        try (apply Or.inr; refine And.intro (by first | rfl | exact zboolK) ?_)
        refine zz ?_
        try (apply Or.inr; refine And.intro (by first | rfl | exact zboolK) ?_)
        refine zz ?_
        try (apply Or.inl; refine And.intro (by first | rfl | exact zboolK) ?_)
        replace h := evT h
        refine zz ?_
        exact ⟨_, zfuel, _, _, _, _, h, leafFr [0, 1, 2, 21] (by kernel_rfl), by kernel_rfl⟩
      refine zz ?_
      try (apply Or.inl; refine And.intro (by first | rfl | exact zboolK) ?_)
      refine zz ?_
      try (apply Or.inl; refine And.intro (by first | rfl | exact zboolK) ?_)
      refine zz ?_
      try (apply Or.inl; refine And.intro (by first | rfl | exact zboolK) ?_)
      have h_ := evO h; clear h; obtain ⟨t19, ht, h⟩ := h_
      refine zz ?_
      refine Exists.intro _ (And.intro (impl_in_ev (h := ht)) ?_)
      refine zz ?_
      try (apply Or.inl; refine And.intro (by first | rfl | exact zboolK) ?_)
      refine zz ?_
      try (apply Or.inr; refine And.intro (by first | rfl | exact zboolK) ?_)
      replace h := evT h
      refine zz ?_
      exact ⟨_, zfuel, _, _, _, _, h, leafFr [0, 1, 2, 21] (by kernel_rfl), by kernel_rfl⟩
    clear h; rintro _ _ ⟨k, hle, x0, x1, x2, x21, h, ⟨fr0, rfl⟩, rfl⟩
    rcases k with _ | k
    · exact (run_zero h).elim
    rw [run_succ, impl_MatchAt.B] at h
    refine zz ?_
    refine br (iP h) ?_ ?_ <;> (clear h; intro c h)
    · replace h := evR h; cases h
      refine zz ?_
      first | exact ⟨trivial, [], [], ⟨rfl, trivial⟩, _, rfl, _, rfl, And.intro rfl rfl⟩ | exact ⟨[], [], ⟨rfl, trivial⟩, _, rfl, _, rfl, And.intro rfl rfl⟩
    replace h := evT h
    refine zz ?_
    exact ⟨_, zfuel, _, _, _, h, leafFr [0, 1, 2] (by kernel_rfl), by kernel_rfl⟩
  clear h; rintro _ _ ⟨k, hle, x0, x1, x2, h, ⟨fr0, rfl⟩, rfl⟩
  rcases k with _ | k
  · exact (run_zero h).elim
  rw [run_succ, impl_MatchAt.B] at h
  refine zz ?_
  refine Exists.intro (List.map (VV.int .i64) ([0] : List Int)) (And.intro zrow ?_)
  replace h := evT h
  refine zz ?_
  refine loopJ [] (fun kq fr hp => ∃ (x0 : List S62) (x1 : ByteArray) (x2 : Int) (x7 : Int) (x8 : List Int), run impl_MatchAt.B kq (.l0 x0 x1 x2 x7 x8) = some r ∧ (∃ fr0, fr = puts [(0, .one (.val (.row (x0.map e62)))), (1, .one (.val (.str x1))), (2, .one (.val (.int .i64 x2))), (7, .one (.val (.int .i64 x7))), (8, .one (.val (.row (x8.map (VV.int .i64)))))] fr0) ∧ hp = (fun _ => none)) k ⟨_, zfuel, _, _, _, _, _, h, leafFr [0, 1, 2, 7, 8] (by kernel_rfl), by kernel_rfl⟩ ?_
  clear h; rintro k hle _ _ ⟨x0, x1, x2, x7, x8, h, ⟨fr0, rfl⟩, rfl⟩
  rcases k with _ | k
  · exact (run_zero h).elim
  rw [run_succ, impl_MatchAt.B] at h
  have h_ := evO h; clear h; obtain ⟨t31, ht, h⟩ := h_
  refine zz ?_
  refine Exists.intro _ (And.intro (impl_Closure_ev (h := ht)) ?_)
  refine zz ?_
  refine cutJ (n := 36) [] (fun fr hp => ∃ kq, kq ≤ k ∧ ∃ (x0 : List S62) (x1 : ByteArray) (x2 : Int) (x7 : Int) (x8 : List Int), run impl_MatchAt.B kq (.j2 x0 x1 x2 x7 x8) = some r ∧ (∃ fr0, fr = puts [(0, .one (.val (.row (x0.map e62)))), (1, .one (.val (.str x1))), (2, .one (.val (.int .i64 x2))), (7, .one (.val (.int .i64 x7))), (8, .one (.val (.row (x8.map (VV.int .i64)))))] fr0) ∧ hp = (fun _ => none)) ?_ ?_
  · have h_ := evO h; clear h; obtain ⟨t36, ht, h⟩ := h_
    refine zz ?_
    refine Exists.intro _ (And.intro (slices_Contains_int_int_ev (h := ht)) ?_)
    refine zz ?_
    refine br (iP h) ?_ ?_ <;> (clear h; intro c h)
    · replace h := evT h
      refine zz ?_
      exact ⟨_, zfuel, _, _, _, _, _, h, leafFr [0, 1, 2, 7, 8] (by kernel_rfl), by kernel_rfl⟩
    replace h := evT h
    refine zz ?_
    exact ⟨_, zfuel, _, _, _, _, _, h, leafFr [0, 1, 2, 7, 8] (by kernel_rfl), by kernel_rfl⟩
  clear h; rintro _ _ ⟨k, hle, x0, x1, x2, x7, x8, h, ⟨fr0, rfl⟩, rfl⟩
  rcases k with _ | k
  · exact (run_zero h).elim
  rw [run_succ, impl_MatchAt.B] at h
  refine zz ?_
  refine cutJ (n := 46) [] (fun fr hp => ∃ kq, kq ≤ k ∧ ∃ (x0 : List S62) (x1 : ByteArray) (x2 : Int) (x7 : Int) (x8 : List Int), run impl_MatchAt.B kq (.j3 x0 x1 x2 x7 x8) = some r ∧ (∃ fr0, fr = puts [(0, .one (.val (.row (x0.map e62)))), (1, .one (.val (.str x1))), (2, .one (.val (.int .i64 x2))), (7, .one (.val (.int .i64 x7))), (8, .one (.val (.row (x8.map (VV.int .i64)))))] fr0) ∧ hp = (fun _ => none)) ?_ ?_
  · refine zz ?_
    refine cutJ (n := 200008) [] (fun fr hp => ∃ kq, kq ≤ k ∧ ∃ (x0 : List S62) (x1 : ByteArray) (x2 : Int) (x7 : Int) (x8 : List Int) (x46 : Bool), run impl_MatchAt.B kq (.j4 x0 x1 x2 x7 x8 x46) = some r ∧ (∃ fr0, fr = puts [(0, .one (.val (.row (x0.map e62)))), (1, .one (.val (.str x1))), (2, .one (.val (.int .i64 x2))), (7, .one (.val (.int .i64 x7))), (8, .one (.val (.row (x8.map (VV.int .i64))))), (46, .one (.val (.bool x46)))] fr0) ∧ hp = (fun _ => none)) ?_ ?_
    · refine zz ?_
      refine brW (iP h) ?_ ?_ <;> (clear h; intro c h)
      · refine zz ?_
        try (apply Or.inl; refine And.intro (by first | rfl | exact zboolK) ?_)
        refine zz ?_
        try (apply Or.inl; refine And.intro (by first | rfl | exact zboolK) ?_)
        refine zz ?_
        try (apply Or.inr; refine And.intro (by first | rfl | exact zboolK) ?_)
        replace h := evT h
        refine zz ?_
        exact ⟨_, zfuel, _, _, _, _, _, _, h, leafFr [0, 1, 2, 7, 8, 46] (by kernel_rfl), by kernel_rfl⟩
      refine zz ?_
      try (apply Or.inr; refine And.intro (by first | rfl | exact zboolK) ?_)
      refine zz ?_
      try (apply Or.inr; refine And.intro (by first | rfl | exact zboolK) ?_)
      refine zz ?_
      try (apply Or.inl; refine And.intro (by first | rfl | exact zboolK) ?_)
      replace h := evT h
      refine zz ?_
      exact ⟨_, zfuel, _, _, _, _, _, _, h, leafFr [0, 1, 2, 7, 8, 46] (by kernel_rfl), by kernel_rfl⟩
    clear h; rintro _ _ ⟨k, hle, x0, x1, x2, x7, x8, x46, h, ⟨fr0, rfl⟩, rfl⟩
    rcases k with _ | k
    · exact (run_zero h).elim
    rw [run_succ, impl_MatchAt.B] at h
    refine zz ?_
    refine br (iP h) ?_ ?_ <;> (clear h; intro c h)
    · replace h := evR h; cases h
      refine zz ?_
      first | exact ⟨trivial, [], [], ⟨rfl, trivial⟩, _, rfl, _, rfl, And.intro rfl rfl⟩ | exact ⟨[], [], ⟨rfl, trivial⟩, _, rfl, _, rfl, And.intro rfl rfl⟩
    replace h := evT h
    refine zz ?_
    exact ⟨_, zfuel, _, _, _, _, _, h, leafFr [0, 1, 2, 7, 8] (by kernel_rfl), by kernel_rfl⟩
  clear h; rintro _ _ ⟨k, hle, x0, x1, x2, x7, x8, h, ⟨fr0, rfl⟩, rfl⟩
  rcases k with _ | k
  · exact (run_zero h).elim
  rw [run_succ, impl_MatchAt.B] at h
  refine zz ?_
  refine Exists.intro (List.map (VV.int .i64) ([] : List Int)) (And.intro zrow ?_)
  replace h := evT h
  refine zz ?_
  refine loopJ [5136] (fun kq fr hp => ∃ (x0 : List S62) (x1 : ByteArray) (x2 : Int) (x7 : Int) (x9 : List Int) (x49 : List Int) (x50 : Int) (x51 : Int) (g5136 : Nat), run impl_MatchAt.B kq (.l1 x0 x1 x2 x7 x9 x49 x50 x51) = some r ∧ (∃ fr0, fr = puts [(0, .one (.val (.row (x0.map e62)))), (1, .one (.val (.str x1))), (2, .one (.val (.int .i64 x2))), (7, .one (.val (.int .i64 x7))), (9, .one (.ref 5136 g5136)), (49, .one (.val (.row (x49.map (VV.int .i64))))), (50, .one (.val (.int .i64 x50))), (51, .one (.val (.int .i64 x51)))] fr0) ∧ hp = (upd 5136 (.own 3 1 (x9.map (VV.int .i64)) g5136 false) (fun _ => none))) k ⟨_, zfuel, _, _, _, _, _, _, _, _, 0, h, leafFr [0, 1, 2, 7, 9, 49, 50, 51] (by kernel_rfl), by kernel_rfl⟩ ?_
  clear h; rintro k hle _ _ ⟨x0, x1, x2, x7, x9, x49, x50, x51, g5136, h, ⟨fr0, rfl⟩, rfl⟩
  rcases k with _ | k
  · exact (run_zero h).elim
  rw [run_succ, impl_MatchAt.B] at h
  refine zz ?_
  refine br (iP h) ?_ ?_ <;> (clear h; intro c h)
  rotate_left
  · replace h := evT h
    refine zz ?_
    exact ⟨_, zfuel, _, _, _, _, _, h, leafFr [0, 1, 2, 7, 8] (by kernel_rfl), by kernel_rfl⟩
  have h_ := gP h; clear h; obtain ⟨c, h⟩ := h_
  have h_ := gP h; clear h; obtain ⟨c, h⟩ := h_
  have h_ := gP h; clear h; obtain ⟨c, h⟩ := h_
  have h_ := gP h; clear h; obtain ⟨c, h⟩ := h_
  have h_ := gP h; clear h; obtain ⟨c, h⟩ := h_
  have h_ := gP h; clear h; obtain ⟨c, h⟩ := h_
  have h_ := evO h; clear h; obtain ⟨t62, ht, h⟩ := h_
  refine zz ?_
  refine Exists.intro _ (And.intro (impl_takes_ev (h := ht)) ?_)
  refine zz ?_
  refine br (iP h) ?_ ?_ <;> (clear h; intro c h)
  rotate_left
  · replace h := evT h
    refine zz ?_
    exact ⟨_, zfuel, _, _, _, _, _, _, _, _, g5136, h, leafFr [0, 1, 2, 7, 9, 49, 50, 51] (by kernel_rfl), by kernel_rfl⟩
  refine zz ?_
  refine Exists.intro (List.map (VV.int .i64) ([(wrap64 ((rdOf (0 : Int) x49 x51) + 1))] : List Int)) (And.intro zrow ?_)
  have h_ := gP h; clear h; obtain ⟨c, h⟩ := h_
  refine zz ?_
  refine Exists.intro (List.map (VV.int .i64) (x9 ++ [(wrap64 ((rdOf (0 : Int) x49 x51) + 1))])) (And.intro zrow ?_)
  replace h := evT h
  refine zz ?_
  exact ⟨_, zfuel, _, _, _, _, _, _, _, _, (g5136 + 1), h, leafFr [0, 1, 2, 7, 9, 49, 50, 51] (by kernel_rfl), by kernel_rfl⟩
theorem laws_eqPlace_ev (a0_0 : Int) (a0_1 : Int) (a0_2 : ByteArray) (a0_3 : Bool) (a0_4 : Int) (a0_5 : Int) (a1_0 : Int) (a1_1 : Int) (a1_2 : ByteArray) (a1_3 : Bool) (a1_4 : Int) (a1_5 : Int) (r : Bool) (h : laws_eqPlace.f a0_0 a0_1 a0_2 a0_3 a0_4 a0_5 a1_0 a1_1 a1_2 a1_3 a1_4 a1_5 = some r) : CE G 43 [.val (.agg [.int .i64 a0_0, .int .i64 a0_1, .str a0_2, .bool a0_3, .int .i64 a0_4, .int .i64 a0_5]), .val (.agg [.int .i64 a1_0, .int .i64 a1_1, .str a1_2, .bool a1_3, .int .i64 a1_4, .int .i64 a1_5])] [] [.val (.bool r)] [] := by
  refine CE.mk ⟨Try.f43, _, rfl, rfl, ⟨by kernel_rfl, Nat.le_of_ble_eq_true rfl, Nat.le_of_ble_eq_true rfl⟩, ?_⟩
  rw [laws_eqPlace.f] at h
  refine zz ?_
  refine brN (iteS h) ?_ ?_ <;> (clear h; intro c h)
  · cases h
    refine zz ?_
    first | exact ⟨trivial, [], [], ⟨rfl, trivial⟩, _, rfl, _, rfl, And.intro rfl rfl⟩ | exact ⟨[], [], ⟨rfl, trivial⟩, _, rfl, _, rfl, And.intro rfl rfl⟩
  refine zz ?_
  refine brN (iteS h) ?_ ?_ <;> (clear h; intro c h)
  · cases h
    refine zz ?_
    first | exact ⟨trivial, [], [], ⟨rfl, trivial⟩, _, rfl, _, rfl, And.intro rfl rfl⟩ | exact ⟨[], [], ⟨rfl, trivial⟩, _, rfl, _, rfl, And.intro rfl rfl⟩
  refine zz ?_
  refine brN (iteS h) ?_ ?_ <;> (clear h; intro c h)
  · cases h
    refine zz ?_
    first | exact ⟨trivial, [], [], ⟨rfl, trivial⟩, _, rfl, _, rfl, And.intro rfl rfl⟩ | exact ⟨[], [], ⟨rfl, trivial⟩, _, rfl, _, rfl, And.intro rfl rfl⟩
  refine zz ?_
  refine brN (iteS h) ?_ ?_ <;> (clear h; intro c h)
  · cases h
    refine zz ?_
    first | exact ⟨trivial, [], [], ⟨rfl, trivial⟩, _, rfl, _, rfl, And.intro rfl rfl⟩ | exact ⟨[], [], ⟨rfl, trivial⟩, _, rfl, _, rfl, And.intro rfl rfl⟩
  refine zz ?_
  refine brN (iteS h) ?_ ?_ <;> (clear h; intro c h)
  · cases h
    refine zz ?_
    first | exact ⟨trivial, [], [], ⟨rfl, trivial⟩, _, rfl, _, rfl, And.intro rfl rfl⟩ | exact ⟨[], [], ⟨rfl, trivial⟩, _, rfl, _, rfl, And.intro rfl rfl⟩
  refine zz ?_
  refine brN (iteS h) ?_ ?_ <;> (clear h; intro c h)
  · cases h
    refine zz ?_
    first | exact ⟨trivial, [], [], ⟨rfl, trivial⟩, _, rfl, _, rfl, And.intro rfl rfl⟩ | exact ⟨[], [], ⟨rfl, trivial⟩, _, rfl, _, rfl, And.intro rfl rfl⟩
  cases h
  refine zz ?_
  first | exact ⟨trivial, [], [], ⟨rfl, trivial⟩, _, rfl, _, rfl, And.intro rfl rfl⟩ | exact ⟨[], [], ⟨rfl, trivial⟩, _, rfl, _, rfl, And.intro rfl rfl⟩
end Go.Proofs.Ytdajhceookjdmaa.TFnExactMatchAt
