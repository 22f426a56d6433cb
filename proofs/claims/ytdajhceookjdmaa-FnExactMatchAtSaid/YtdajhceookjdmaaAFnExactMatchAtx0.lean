/- The walks of the functions that FnExactMatchAt reaches, through the abstract machine. -/
import Derived.Test.YtdajhceookjdmaaAFnExactMatchAth
import Derived.Test.YtdajhceookjdmaaFFnExactMatchAt
import Derived.Test.YtdajhceookjdmaaProg
set_option maxHeartbeats 4000000
set_option maxRecDepth 100000
set_option linter.unusedVariables false
set_option linter.unusedSimpArgs false
namespace Go.Proofs.Ytdajhceookjdmaa.TFnExactMatchAt
open Go Go.RowKit Go.Proofs Go.Proofs.YtdajhceookjdmaaW.AM Go.Proofs.Ytdajhceookjdmaa.QFnExactMatchAt Go.Proofs.YtdajhceookjdmaaW.PrintWords Go.Proofs.YtdajhceookjdmaaW.Pgs
theorem laws_szPlace_ev (a0_0 : Int) (a0_1 : Int) (a0_2 : ByteArray) (a0_3 : Bool) (a0_4 : Int) (a0_5 : Int) (a1 : Int) (r : Int) (h : laws_szPlace.f a0_0 a0_1 a0_2 a0_3 a0_4 a0_5 a1 = some r) : CE G 36 [.val (.agg [.int .i64 a0_0, .int .i64 a0_1, .str a0_2, .bool a0_3, .int .i64 a0_4, .int .i64 a0_5]), .val (.int .i64 a1)] [] [.val (.int .i64 r)] [] := by
  refine CE.mk ⟨Try.f36, _, rfl, rfl, ⟨by kernel_rfl, Nat.le_of_ble_eq_true rfl, Nat.le_of_ble_eq_true rfl⟩, ?_⟩
  rw [laws_szPlace.f] at h
  refine zz ?_
  refine br (iteS h) ?_ ?_ <;> (clear h; intro c h)
  · cases h
    refine zz ?_
    first | exact ⟨trivial, [], [], ⟨rfl, trivial⟩, _, rfl, _, rfl, And.intro rfl rfl⟩ | exact ⟨[], [], ⟨rfl, trivial⟩, _, rfl, _, rfl, And.intro rfl rfl⟩
  cases h
  refine zz ?_
  first | exact ⟨trivial, [], [], ⟨rfl, trivial⟩, _, rfl, _, rfl, And.intro rfl rfl⟩ | exact ⟨[], [], ⟨rfl, trivial⟩, _, rfl, _, rfl, And.intro rfl rfl⟩
theorem laws_szPlaceS_ev (l0 : List S59) (a1 : Int) (r : Int) (h : laws_szPlaceS.fv l0 a1 = some r) : CE G 7 [.val (.row (l0.map e59)), .val (.int .i64 a1)] [] [.val (.int .i64 r)] [] := by
  obtain ⟨k, h⟩ := lim_ex h
  refine CE.mk ⟨Try.f7, _, rfl, rfl, ⟨by kernel_rfl, Nat.le_of_ble_eq_true rfl, Nat.le_of_ble_eq_true rfl⟩, ?_⟩
  rcases k with _ | k
  · exact (run_zero h).elim
  rw [run_succ, laws_szPlaceS.B] at h
  refine zz ?_
  refine br (iP h) ?_ ?_ <;> (clear h; intro c h)
  · replace h := evR h; cases h
    refine zz ?_
    first | exact ⟨trivial, [], [], ⟨rfl, trivial⟩, _, rfl, _, rfl, And.intro rfl rfl⟩ | exact ⟨[], [], ⟨rfl, trivial⟩, _, rfl, _, rfl, And.intro rfl rfl⟩
  replace h := evT h
  refine zz ?_
  refine loopJ [] (fun kq fr hp => ∃ (x0 : List S59) (x1 : Int) (x5 : Int), run laws_szPlaceS.B kq (.l0 x0 x1 x5) = some r ∧ (∃ fr0, fr = puts [(0, .one (.val (.row (x0.map e59)))), (1, .one (.val (.int .i64 x1))), (5, .one (.val (.int .i64 x5)))] fr0) ∧ hp = (fun _ => none)) k ⟨_, zfuel, _, _, _, h, leafFr [0, 1, 5] (by kernel_rfl), by kernel_rfl⟩ ?_
  clear h; rintro k hle _ _ ⟨x0, x1, x5, h, ⟨fr0, rfl⟩, rfl⟩
  rcases k with _ | k
  · exact (run_zero h).elim
  rw [run_succ, laws_szPlaceS.B] at h
  refine zz ?_
  refine br (iP h) ?_ ?_ <;> (clear h; intro c h)
  rotate_left
  · replace h := evR h; cases h
    refine zz ?_
    first | exact ⟨trivial, [], [], ⟨rfl, trivial⟩, _, rfl, _, rfl, And.intro rfl rfl⟩ | exact ⟨[], [], ⟨rfl, trivial⟩, _, rfl, _, rfl, And.intro rfl rfl⟩
  have h_ := gP h; clear h; obtain ⟨c, h⟩ := h_
  have h_ := evO h; clear h; obtain ⟨t23, ht, h⟩ := h_
  refine zz ?_
  refine Exists.intro _ (And.intro (laws_szPlace_ev (h := ht)) ?_)
  refine zz ?_
  refine br (iP h) ?_ ?_ <;> (clear h; intro c h)
  · replace h := evR h; cases h
    refine zz ?_
    first | exact ⟨trivial, [], [], ⟨rfl, trivial⟩, _, rfl, _, rfl, And.intro rfl rfl⟩ | exact ⟨[], [], ⟨rfl, trivial⟩, _, rfl, _, rfl, And.intro rfl rfl⟩
  replace h := evT h
  refine zz ?_
  exact ⟨_, zfuel, _, _, _, h, leafFr [0, 1, 5] (by kernel_rfl), by kernel_rfl⟩
theorem laws_toPlace_ev (a0_0 : Int) (a0_1 : Int) (a0_2 : ByteArray) (a0_3 : Bool) (a0_4 : Int) (a0_5 : Int) (r1 : Int) (r2 : Int) (r3 : ByteArray) (r4 : Bool) (r5 : Int) (r6 : Int) (h : laws_toPlace.f a0_0 a0_1 a0_2 a0_3 a0_4 a0_5 = some (r1, r2, r3, r4, r5, r6)) : CE G 39 [.val (.agg [.int .i64 a0_0, .int .i64 a0_1, .str a0_2, .bool a0_3, .int .i64 a0_4, .int .i64 a0_5])] [] [.val (.agg [.int .i64 r1, .int .i64 r2, .str r3, .bool r4, .int .i64 r5, .int .i64 r6])] [] := by
  refine CE.mk ⟨Try.f39, _, rfl, rfl, ⟨by kernel_rfl, Nat.le_of_ble_eq_true rfl, Nat.le_of_ble_eq_true rfl⟩, ?_⟩
  rw [laws_toPlace.f] at h
  cases h
  refine zz ?_
  first | exact ⟨trivial, [], [], ⟨rfl, trivial⟩, _, rfl, _, rfl, And.intro rfl rfl⟩ | exact ⟨[], [], ⟨rfl, trivial⟩, _, rfl, _, rfl, And.intro rfl rfl⟩
theorem laws_toPlaceS_ev (l0 : List S59) (r : List S62) (h : laws_toPlaceS.fv l0 = some r) : CE G 9 [.val (.row (l0.map e59))] [] [.val (.row (r.map e62))] [] := by
  obtain ⟨k, h⟩ := lim_ex h
  refine CE.mk ⟨Try.f9, _, rfl, rfl, ⟨by kernel_rfl, Nat.le_of_ble_eq_true rfl, Nat.le_of_ble_eq_true rfl⟩, ?_⟩
  rcases k with _ | k
  · exact (run_zero h).elim
  rw [run_succ, laws_toPlaceS.B] at h
  have h_ := gP h; clear h; obtain ⟨c, h⟩ := h_
  have h_ := gP h; clear h; obtain ⟨c, h⟩ := h_
  refine zz ?_
  refine Exists.intro (List.map e62 (List.replicate ((l0.length : Int) : Int).toNat z62)) (And.intro zrow ?_)
  replace h := evT h
  refine zz ?_
  refine loopJ [530] (fun kq fr hp => ∃ (x0 : List S59) (x3 : List S62) (x4 : Int) (g530 : Nat), run laws_toPlaceS.B kq (.l0 x0 x3 x4) = some r ∧ (∃ fr0, fr = puts [(0, .one (.val (.row (x0.map e59)))), (3, .one (.ref 530 g530)), (4, .one (.val (.int .i64 x4)))] fr0) ∧ hp = (upd 530 (.own 62 6 (x3.map e62) g530 false) (fun _ => none))) k ⟨_, zfuel, _, _, _, 0, h, leafFr [0, 3, 4] (by kernel_rfl), by kernel_rfl⟩ ?_
  clear h; rintro k hle _ _ ⟨x0, x3, x4, g530, h, ⟨fr0, rfl⟩, rfl⟩
  rcases k with _ | k
  · exact (run_zero h).elim
  rw [run_succ, laws_toPlaceS.B] at h
  refine zz ?_
  refine br (iP h) ?_ ?_ <;> (clear h; intro c h)
  rotate_left
  · replace h := evR h; cases h
    refine zz ?_
    first | exact ⟨trivial, [], [], ⟨rfl, trivial⟩, _, rfl, _, rfl, And.intro rfl rfl⟩ | exact ⟨[], [], ⟨rfl, trivial⟩, _, rfl, _, rfl, And.intro rfl rfl⟩
  have h_ := gP h; clear h; obtain ⟨c, h⟩ := h_
  have h_ := evO h; clear h; obtain ⟨t20, ht, h⟩ := h_
  refine zz ?_
  refine Exists.intro _ (And.intro (laws_toPlace_ev (h := ht)) ?_)
  have h_ := gP h; clear h; obtain ⟨c, h⟩ := h_
  refine zz ?_
  refine Exists.intro (List.map e62 (x3.set (x4 : Int).toNat (⟨t20.1, t20.2.1, t20.2.2.1, t20.2.2.2.1, t20.2.2.2.2.1, t20.2.2.2.2.2⟩ : S62))) (And.intro zrow ?_)
  replace h := evT h
  refine zz ?_
  exact ⟨_, zfuel, _, _, _, g530, h, leafFr [0, 3, 4] (by kernel_rfl), by kernel_rfl⟩
theorem spec_l1In_ev (a0 : Int) (a1 : Int) (a2 : Int) (r : Bool) (h : spec_l1In.f a0 a1 a2 = some r) : CE G 37 [.val (.int .i64 a0), .val (.int .i64 a1), .val (.int .i64 a2)] [] [.val (.bool r)] [] := by
  refine CE.mk ⟨Try.f37, _, rfl, rfl, ⟨by kernel_rfl, Nat.le_of_ble_eq_true rfl, Nat.le_of_ble_eq_true rfl⟩, ?_⟩
  rw [spec_l1In.f] at h
  refine zz ?_
  refine br (iteS h) ?_ ?_ <;> (clear h; intro c h)
  · refine zz ?_
    try (apply Or.inl; refine And.intro (by first | rfl | exact zboolK) ?_)
    refine zz ?_
    try (apply Or.inl; refine And.intro (by first | rfl | exact zboolK) ?_)
    refine zz ?_
    try (apply Or.inl; refine And.intro (by first | rfl | exact zboolK) ?_)
    cases h
    refine zz ?_
    first | exact ⟨trivial, [], [], ⟨rfl, trivial⟩, _, rfl, _, rfl, And.intro rfl rfl⟩ | exact ⟨[], [], ⟨rfl, trivial⟩, _, rfl, _, rfl, And.intro rfl rfl⟩
  refine zz ?_
  try (apply Or.inr; refine And.intro (by first | rfl | exact zboolK) ?_)
  refine zz ?_
  try (apply Or.inr; refine And.intro (by first | rfl | exact zboolK) ?_)
  refine zz ?_
  try (apply Or.inr; refine And.intro (by first | rfl | exact zboolK) ?_)
  cases h
  refine zz ?_
  first | exact ⟨trivial, [], [], ⟨rfl, trivial⟩, _, rfl, _, rfl, And.intro rfl rfl⟩ | exact ⟨[], [], ⟨rfl, trivial⟩, _, rfl, _, rfl, And.intro rfl rfl⟩
theorem spec_l4Place_ev (a0_0 : Int) (a0_1 : Int) (a0_2 : ByteArray) (a0_3 : Bool) (a0_4 : Int) (a0_5 : Int) (a1 : Int) (r : Bool) (h : spec_l4Place.fv a0_0 a0_1 a0_2 a0_3 a0_4 a0_5 a1 = some r) : CE G 64 [.val (.agg [.int .i64 a0_0, .int .i64 a0_1, .str a0_2, .bool a0_3, .int .i64 a0_4, .int .i64 a0_5]), .val (.int .i64 a1)] [] [.val (.bool r)] [] := by
  obtain ⟨k, h⟩ := lim_ex h
  refine CE.mk ⟨Try.f64, _, rfl, rfl, ⟨by kernel_rfl, Nat.le_of_ble_eq_true rfl, Nat.le_of_ble_eq_true rfl⟩, ?_⟩
  rcases k with _ | k
  · exact (run_zero h).elim
  rw [run_succ, spec_l4Place.B] at h
  refine zz ?_
  refine cutJ (n := 200001) [16] (fun fr hp => ∃ kq, kq ≤ k ∧ ∃ (x1 : Int) (x5 : Bool) (x16_0 : Int) (x16_1 : Int) (x16_2 : ByteArray) (x16_3 : Bool) (x16_4 : Int) (x16_5 : Int), run spec_l4Place.B kq (.j0 x1 x5 x16_0 x16_1 x16_2 x16_3 x16_4 x16_5) = some r ∧ (∃ fr0, fr = puts [(1, .one (.val (.int .i64 x1))), (2, .one (.ptr 16 0)), (5, .one (.val (.bool x5)))] fr0) ∧ hp = (upd 16 (.box [.val (.int .i64 x16_0), .val (.int .i64 x16_1), .val (.str x16_2), .val (.bool x16_3), .val (.int .i64 x16_4), .val (.int .i64 x16_5)]) (fun _ => none))) ?_ ?_
  · have h_ := evO h; clear h; obtain ⟨t11, ht, h⟩ := h_
    refine zz ?_
    refine Exists.intro _ (And.intro (spec_l1In_ev (h := ht)) ?_)
    refine zz ?_
    refine br (iP h) ?_ ?_ <;> (clear h; intro c h)
    rotate_left
    · refine zz ?_
      try (apply Or.inr; refine And.intro (by first | rfl | exact zboolK) ?_)
      refine zz ?_
      try (apply Or.inr; refine And.intro (by first | rfl | exact zboolK) ?_)
      refine zz ?_
      try (apply Or.inr; refine And.intro (by first | rfl | exact zboolK) ?_)
      refine zz ?_
      try (apply Or.inl; refine And.intro (by first | rfl | exact zboolK) ?_)
      refine zz ?_
      try (apply Or.inl; refine And.intro (by first | rfl | exact zboolK) ?_)
      refine zz ?_
      try (apply Or.inl; refine And.intro (by first | rfl | exact zboolK) ?_)
      refine zz ?_
      try (apply Or.inr; refine And.intro (by first | rfl | exact zboolK) ?_)
      replace h := evT h
      refine zz ?_
      exact ⟨_, zfuel, _, _, _, _, _, _, _, _, h, leafFr [1, 2, 5] (by kernel_rfl), by kernel_rfl⟩
    refine zz ?_
    try (apply Or.inl; refine And.intro (by first | rfl | exact zboolK) ?_)
    refine zz ?_
    try (apply Or.inl; refine And.intro (by first | rfl | exact zboolK) ?_)
    refine zz ?_
    try (apply Or.inl; refine And.intro (by first | rfl | exact zboolK) ?_)
    refine zz ?_
    refine brW (iP h) ?_ ?_ <;> (clear h; intro c h)
    · refine zz ?_
      try (apply Or.inl; refine And.intro (by first | rfl | exact zboolK) ?_)
      refine zz ?_
      try (apply Or.inl; refine And.intro (by first | rfl | exact zboolK) ?_)
      refine zz ?_
      try (apply Or.inr; refine And.intro (by first | rfl | exact zboolK) ?_)
      replace h := evT h
      refine zz ?_
      exact ⟨_, zfuel, _, _, _, _, _, _, _, _, h, leafFr [1, 2, 5] (by kernel_rfl), by kernel_rfl⟩
    refine zz ?_
    try (apply Or.inr; refine And.intro (by first | rfl | exact zboolK) ?_)
    refine zz ?_
    try (apply Or.inr; refine And.intro (by first | rfl | exact zboolK) ?_)
    refine zz ?_
    try (apply Or.inl; refine And.intro (by first | rfl | exact zboolK) ?_)
    replace h := evT h
    refine zz ?_
    exact ⟨_, zfuel, _, _, _, _, _, _, _, _, h, leafFr [1, 2, 5] (by kernel_rfl), by kernel_rfl⟩
  clear h; rintro _ _ ⟨k, hle, x1, x5, x16_0, x16_1, x16_2, x16_3, x16_4, x16_5, h, ⟨fr0, rfl⟩, rfl⟩
  rcases k with _ | k
  · exact (run_zero h).elim
  rw [run_succ, spec_l4Place.B] at h
  refine zz ?_
  refine cutJ (n := 200002) [16] (fun fr hp => ∃ kq, kq ≤ k ∧ ∃ (x1 : Int) (x5 : Bool) (x6 : Bool) (x16_0 : Int) (x16_1 : Int) (x16_2 : ByteArray) (x16_3 : Bool) (x16_4 : Int) (x16_5 : Int), run spec_l4Place.B kq (.j1 x1 x5 x6 x16_0 x16_1 x16_2 x16_3 x16_4 x16_5) = some r ∧ (∃ fr0, fr = puts [(1, .one (.val (.int .i64 x1))), (2, .one (.ptr 16 0)), (5, .one (.val (.bool x5))), (6, .one (.val (.bool x6)))] fr0) ∧ hp = (upd 16 (.box [.val (.int .i64 x16_0), .val (.int .i64 x16_1), .val (.str x16_2), .val (.bool x16_3), .val (.int .i64 x16_4), .val (.int .i64 x16_5)]) (fun _ => none))) ?_ ?_
  · refine zz ?_
    refine brW (iP h) ?_ ?_ <;> (clear h; intro c h)
    rotate_left
    · refine zz ?_
      try (apply Or.inr; refine And.intro (by first | rfl | exact zboolK) ?_)
      refine zz ?_
      try (apply Or.inr; refine And.intro (by first | rfl | exact zboolK) ?_)
      refine zz ?_
      try (apply Or.inr; refine And.intro (by first | rfl | exact zboolK) ?_)
      refine zz ?_
      try (apply Or.inr; refine And.intro (by first | rfl | exact zboolK) ?_)
      refine zz ?_
      try (apply Or.inl; refine And.intro (by first | rfl | exact zboolK) ?_)
      replace h := evT h
      refine zz ?_
      exact ⟨_, zfuel, _, _, _, _, _, _, _, _, _, h, leafFr [1, 2, 5, 6] (by kernel_rfl), by kernel_rfl⟩
    refine zz ?_
    try (apply Or.inl; refine And.intro (by first | rfl | exact zboolK) ?_)
    refine zz ?_
    try (apply Or.inl; refine And.intro (by first | rfl | exact zboolK) ?_)
    refine zz ?_
    try (apply Or.inl; refine And.intro (by first | rfl | exact zboolK) ?_)
    refine zz ?_
    refine br (iP h) ?_ ?_ <;> (clear h; intro c h)
    · refine zz ?_
      try (apply Or.inl; refine And.intro (by first | rfl | exact zboolK) ?_)
      refine zz ?_
      try (apply Or.inl; refine And.intro (by first | rfl | exact zboolK) ?_)
      refine zz ?_
      try (apply Or.inl; refine And.intro (by first | rfl | exact zboolK) ?_)
      refine zz ?_
      try (apply Or.inl; refine And.intro (by first | rfl | exact zboolK) ?_)
      refine zz ?_
      try (apply Or.inr; refine And.intro (by first | rfl | exact zboolK) ?_)
      replace h := evT h
      refine zz ?_
      exact ⟨_, zfuel, _, _, _, _, _, _, _, _, _, h, leafFr [1, 2, 5, 6] (by kernel_rfl), by kernel_rfl⟩
    refine zz ?_
    try (apply Or.inr; refine And.intro (by first | rfl | exact zboolK) ?_)
    refine zz ?_
    try (apply Or.inr; refine And.intro (by first | rfl | exact zboolK) ?_)
    refine zz ?_
    try (apply Or.inl; refine And.intro (by first | rfl | exact zboolK) ?_)
    refine zz ?_
    try (apply Or.inr; refine And.intro (by first | rfl | exact zboolK) ?_)
    refine zz ?_
    try (apply Or.inr; refine And.intro (by first | rfl | exact zboolK) ?_)
    replace h := evT h
    refine zz ?_
    exact ⟨_, zfuel, _, _, _, _, _, _, _, _, _, h, leafFr [1, 2, 5, 6] (by kernel_rfl), by kernel_rfl⟩
  clear h; rintro _ _ ⟨k, hle, x1, x5, x6, x16_0, x16_1, x16_2, x16_3, x16_4, x16_5, h, ⟨fr0, rfl⟩, rfl⟩
  rcases k with _ | k
  · exact (run_zero h).elim
  rw [run_succ, spec_l4Place.B] at h
  refine zz ?_
  refine cutJ (n := 200003) [16] (fun fr hp => ∃ kq, kq ≤ k ∧ ∃ (x1 : Int) (x5 : Bool) (x6 : Bool) (x7 : Bool) (x16_0 : Int) (x16_1 : Int) (x16_2 : ByteArray) (x16_3 : Bool) (x16_4 : Int) (x16_5 : Int), run spec_l4Place.B kq (.j2 x1 x5 x6 x7 x16_0 x16_1 x16_2 x16_3 x16_4 x16_5) = some r ∧ (∃ fr0, fr = puts [(1, .one (.val (.int .i64 x1))), (2, .one (.ptr 16 0)), (5, .one (.val (.bool x5))), (6, .one (.val (.bool x6))), (7, .one (.val (.bool x7)))] fr0) ∧ hp = (upd 16 (.box [.val (.int .i64 x16_0), .val (.int .i64 x16_1), .val (.str x16_2), .val (.bool x16_3), .val (.int .i64 x16_4), .val (.int .i64 x16_5)]) (fun _ => none))) ?_ ?_
  · refine zz ?_
    refine brW (iP h) ?_ ?_ <;> (clear h; intro c h)
    rotate_left
    · refine zz ?_
      try (apply Or.inr; refine And.intro (by first | rfl | exact zboolK) ?_)
      refine zz ?_
      try (apply Or.inr; refine And.intro (by first | rfl | exact zboolK) ?_)
      refine zz ?_
      try (apply Or.inl; refine And.intro (by first | rfl | exact zboolK) ?_)
      refine zz ?_
      try (apply Or.inl; refine And.intro (by first | rfl | exact zboolK) ?_)
      refine zz ?_
      try (apply Or.inl; refine And.intro (by first | rfl | exact zboolK) ?_)
      refine zz ?_
      try (apply Or.inl; refine And.intro (by first | rfl | exact zboolK) ?_)
      refine zz ?_
      try (apply Or.inl; refine And.intro (by first | rfl | exact zboolK) ?_)
      refine zz ?_
      try (apply Or.inl; refine And.intro (by first | rfl | exact zboolK) ?_)
      have h_ := evO h; clear h; obtain ⟨t48, ht, h⟩ := h_
      refine zz ?_
      refine Exists.intro _ (And.intro (spec_l1In_ev (h := ht)) ?_)
      refine zz ?_
      try (apply Or.inl; refine And.intro (by first | rfl | exact zboolK) ?_)
      refine zz ?_
      refine brW (iP h) ?_ ?_ <;> (clear h; intro c h)
      rotate_left
      · refine zz ?_
        try (apply Or.inr; refine And.intro (by first | rfl | exact zboolK) ?_)
        refine zz ?_
        try (apply Or.inr; refine And.intro (by first | rfl | exact zboolK) ?_)
        refine zz ?_
        try (apply Or.inr; refine And.intro (by first | rfl | exact zboolK) ?_)
        refine zz ?_
        try (apply Or.inr; refine And.intro (by first | rfl | exact zboolK) ?_)
        refine zz ?_
        try (apply Or.inr; refine And.intro (by first | rfl | exact zboolK) ?_)
        refine zz ?_
        try (apply Or.inr; refine And.intro (by first | rfl | exact zboolK) ?_)
        refine zz ?_
        try (apply Or.inl; refine And.intro (by first | rfl | exact zboolK) ?_)
        replace h := evT h
        refine zz ?_
        exact ⟨_, zfuel, _, _, _, _, _, _, _, _, _, _, h, leafFr [1, 2, 5, 6, 7] (by kernel_rfl), by kernel_rfl⟩
      refine zz ?_
      try (apply Or.inl; refine And.intro (by first | rfl | exact zboolK) ?_)
      refine zz ?_
      try (apply Or.inl; refine And.intro (by first | rfl | exact zboolK) ?_)
      refine zz ?_
      try (apply Or.inl; refine And.intro (by first | rfl | exact zboolK) ?_)
      refine zz ?_
      refine br (iP h) ?_ ?_ <;> (clear h; intro c h)
      · refine zz ?_
        try (apply Or.inl; refine And.intro (by first | rfl | exact zboolK) ?_)
        refine zz ?_
        try (apply Or.inl; refine And.intro (by first | rfl | exact zboolK) ?_)
        refine zz ?_
        try (apply Or.inl; refine And.intro (by first | rfl | exact zboolK) ?_)
        refine zz ?_
        try (apply Or.inl; refine And.intro (by first | rfl | exact zboolK) ?_)
        refine zz ?_
        try (apply Or.inl; refine And.intro (by first | rfl | exact zboolK) ?_)
        refine zz ?_
        try (apply Or.inr; refine And.intro (by first | rfl | exact zboolK) ?_)
        refine zz ?_
        try (apply Or.inr; refine And.intro (by first | rfl | exact zboolK) ?_)
        refine zz ?_
        try (apply Or.inr; refine And.intro (by first | rfl | exact zboolK) ?_)
        refine zz ?_
        try (apply Or.inl; refine And.intro (by first | rfl | exact zboolK) ?_)
        refine zz ?_
        try (apply Or.inr; refine And.intro (by first | rfl | exact zboolK) ?_)
        refine zz ?_
        try (apply Or.inr; refine And.intro (by first | rfl | exact zboolK) ?_)
        replace h := evT h
        refine zz ?_
        exact ⟨_, zfuel, _, _, _, _, _, _, _, _, _, _, h, leafFr [1, 2, 5, 6, 7] (by kernel_rfl), by kernel_rfl⟩
      refine zz ?_
      try (apply Or.inr; refine And.intro (by first | rfl | exact zboolK) ?_)
      refine zz ?_
      try (apply Or.inr; refine And.intro (by first | rfl | exact zboolK) ?_)
      refine zz ?_
      try (apply Or.inl; refine And.intro (by first | rfl | exact zboolK) ?_)
      refine zz ?_
      try (apply Or.inr; refine And.intro (by first | rfl | exact zboolK) ?_)
      refine zz ?_
      try (apply Or.inl; refine And.intro (by first | rfl | exact zboolK) ?_)
      refine zz ?_
      try (apply Or.inr; refine And.intro (by first | rfl | exact zboolK) ?_)
      refine zz ?_
      try (apply Or.inr; refine And.intro (by first | rfl | exact zboolK) ?_)
      refine zz ?_
      try (apply Or.inr; refine And.intro (by first | rfl | exact zboolK) ?_)
      refine zz ?_
      try (apply Or.inl; refine And.intro (by first | rfl | exact zboolK) ?_)
      refine zz ?_
      try (apply Or.inr; refine And.intro (by first | rfl | exact zboolK) ?_)
      refine zz ?_
      try (apply Or.inr; refine And.intro (by first | rfl | exact zboolK) ?_)
      replace h := evT h
      refine zz ?_
      exact ⟨_, zfuel, _, _, _, _, _, _, _, _, _, _, h, leafFr [1, 2, 5, 6, 7] (by kernel_rfl), by kernel_rfl⟩
    refine zz ?_
    try (apply Or.inl; refine And.intro (by first | rfl | exact zboolK) ?_)
    refine zz ?_
    try (apply Or.inl; refine And.intro (by first | rfl | exact zboolK) ?_)
    refine zz ?_
    try (apply Or.inr; refine And.intro (by first | rfl | exact zboolK) ?_)
    refine zz ?_
    refine br (iP h) ?_ ?_ <;> (clear h; intro c h)
    rotate_left
    · refine zz ?_
      try (apply Or.inr; refine And.intro (by first | rfl | exact zboolK) ?_)
      refine zz ?_
      try (apply Or.inr; refine And.intro (by first | rfl | exact zboolK) ?_)
      refine zz ?_
      try (apply Or.inr; refine And.intro (by first | rfl | exact zboolK) ?_)
      refine zz ?_
      try (apply Or.inr; refine And.intro (by first | rfl | exact zboolK) ?_)
      refine zz ?_
      try (apply Or.inr; refine And.intro (by first | rfl | exact zboolK) ?_)
      refine zz ?_
      try (apply Or.inl; refine And.intro (by first | rfl | exact zboolK) ?_)
      refine zz ?_
      try (apply Or.inl; refine And.intro (by first | rfl | exact zboolK) ?_)
      refine zz ?_
      try (apply Or.inl; refine And.intro (by first | rfl | exact zboolK) ?_)
      refine zz ?_
      try (apply Or.inl; refine And.intro (by first | rfl | exact zboolK) ?_)
      refine zz ?_
      refine br (iP h) ?_ ?_ <;> (clear h; intro c h)
      · refine zz ?_
        try (apply Or.inl; refine And.intro (by first | rfl | exact zboolK) ?_)
        refine zz ?_
        try (apply Or.inl; refine And.intro (by first | rfl | exact zboolK) ?_)
        refine zz ?_
        try (apply Or.inl; refine And.intro (by first | rfl | exact zboolK) ?_)
        refine zz ?_
        try (apply Or.inl; refine And.intro (by first | rfl | exact zboolK) ?_)
        refine zz ?_
        try (apply Or.inl; refine And.intro (by first | rfl | exact zboolK) ?_)
        refine zz ?_
        try (apply Or.inl; refine And.intro (by first | rfl | exact zboolK) ?_)
        refine zz ?_
        try (apply Or.inl; refine And.intro (by first | rfl | exact zboolK) ?_)
        refine zz ?_
        try (apply Or.inl; refine And.intro (by first | rfl | exact zboolK) ?_)
        refine zz ?_
        try (apply Or.inl; refine And.intro (by first | rfl | exact zboolK) ?_)
        refine zz ?_
        try (apply Or.inl; refine And.intro (by first | rfl | exact zboolK) ?_)
        refine zz ?_
        try (apply Or.inr; refine And.intro (by first | rfl | exact zboolK) ?_)
        replace h := evT h
        refine zz ?_
        exact ⟨_, zfuel, _, _, _, _, _, _, _, _, _, _, h, leafFr [1, 2, 5, 6, 7] (by kernel_rfl), by kernel_rfl⟩
      refine zz ?_
      try (apply Or.inr; refine And.intro (by first | rfl | exact zboolK) ?_)
      refine zz ?_
      try (apply Or.inr; refine And.intro (by first | rfl | exact zboolK) ?_)
      refine zz ?_
      try (apply Or.inl; refine And.intro (by first | rfl | exact zboolK) ?_)
      refine zz ?_
      try (apply Or.inr; refine And.intro (by first | rfl | exact zboolK) ?_)
      refine zz ?_
      try (apply Or.inl; refine And.intro (by first | rfl | exact zboolK) ?_)
      refine zz ?_
      try (apply Or.inr; refine And.intro (by first | rfl | exact zboolK) ?_)
      refine zz ?_
      try (apply Or.inr; refine And.intro (by first | rfl | exact zboolK) ?_)
      refine zz ?_
      try (apply Or.inr; refine And.intro (by first | rfl | exact zboolK) ?_)
      refine zz ?_
      try (apply Or.inl; refine And.intro (by first | rfl | exact zboolK) ?_)
      refine zz ?_
      try (apply Or.inr; refine And.intro (by first | rfl | exact zboolK) ?_)
      refine zz ?_
      try (apply Or.inr; refine And.intro (by first | rfl | exact zboolK) ?_)
      replace h := evT h
      refine zz ?_
      exact ⟨_, zfuel, _, _, _, _, _, _, _, _, _, _, h, leafFr [1, 2, 5, 6, 7] (by kernel_rfl), by kernel_rfl⟩
    refine zz ?_
    try (apply Or.inl; refine And.intro (by first | rfl | exact zboolK) ?_)
    refine zz ?_
    try (apply Or.inl; refine And.intro (by first | rfl | exact zboolK) ?_)
    refine zz ?_
    try (apply Or.inl; refine And.intro (by first | rfl | exact zboolK) ?_)
    refine zz ?_
    try (apply Or.inl; refine And.intro (by first | rfl | exact zboolK) ?_)
    have h_ := evO h; clear h; obtain ⟨t48, ht, h⟩ := h_
    refine zz ?_
    refine Exists.intro _ (And.intro (spec_l1In_ev (h := ht)) ?_)
    refine zz ?_
    try (apply Or.inl; refine And.intro (by first | rfl | exact zboolK) ?_)
    refine zz ?_
    refine brW (iP h) ?_ ?_ <;> (clear h; intro c h)
    rotate_left
    · refine zz ?_
      try (apply Or.inr; refine And.intro (by first | rfl | exact zboolK) ?_)
      refine zz ?_
      try (apply Or.inr; refine And.intro (by first | rfl | exact zboolK) ?_)
      refine zz ?_
      try (apply Or.inr; refine And.intro (by first | rfl | exact zboolK) ?_)
      refine zz ?_
      try (apply Or.inr; refine And.intro (by first | rfl | exact zboolK) ?_)
      refine zz ?_
      try (apply Or.inr; refine And.intro (by first | rfl | exact zboolK) ?_)
      refine zz ?_
      try (apply Or.inr; refine And.intro (by first | rfl | exact zboolK) ?_)
      refine zz ?_
      try (apply Or.inl; refine And.intro (by first | rfl | exact zboolK) ?_)
      replace h := evT h
      refine zz ?_
      exact ⟨_, zfuel, _, _, _, _, _, _, _, _, _, _, h, leafFr [1, 2, 5, 6, 7] (by kernel_rfl), by kernel_rfl⟩
    refine zz ?_
    try (apply Or.inl; refine And.intro (by first | rfl | exact zboolK) ?_)
    refine zz ?_
    try (apply Or.inl; refine And.intro (by first | rfl | exact zboolK) ?_)
    refine zz ?_
    try (apply Or.inl; refine And.intro (by first | rfl | exact zboolK) ?_)
    refine zz ?_
    refine br (iP h) ?_ ?_ <;> (clear h; intro c h)
    · refine zz ?_
      try (apply Or.inl; refine And.intro (by first | rfl | exact zboolK) ?_)
      refine zz ?_
      try (apply Or.inl; refine And.intro (by first | rfl | exact zboolK) ?_)
      refine zz ?_
      try (apply Or.inl; refine And.intro (by first | rfl | exact zboolK) ?_)
      refine zz ?_
      try (apply Or.inl; refine And.intro (by first | rfl | exact zboolK) ?_)
      refine zz ?_
      try (apply Or.inl; refine And.intro (by first | rfl | exact zboolK) ?_)
      refine zz ?_
      try (apply Or.inl; refine And.intro (by first | rfl | exact zboolK) ?_)
      refine zz ?_
      try (apply Or.inl; refine And.intro (by first | rfl | exact zboolK) ?_)
      refine zz ?_
      try (apply Or.inl; refine And.intro (by first | rfl | exact zboolK) ?_)
      refine zz ?_
      try (apply Or.inl; refine And.intro (by first | rfl | exact zboolK) ?_)
      refine zz ?_
      try (apply Or.inl; refine And.intro (by first | rfl | exact zboolK) ?_)
      refine zz ?_
      try (apply Or.inr; refine And.intro (by first | rfl | exact zboolK) ?_)
      replace h := evT h
      refine zz ?_
      exact ⟨_, zfuel, _, _, _, _, _, _, _, _, _, _, h, leafFr [1, 2, 5, 6, 7] (by kernel_rfl), by kernel_rfl⟩
    refine zz ?_
    try (apply Or.inr; refine And.intro (by first | rfl | exact zboolK) ?_)
    refine zz ?_
    try (apply Or.inr; refine And.intro (by first | rfl | exact zboolK) ?_)
    refine zz ?_
    try (apply Or.inl; refine And.intro (by first | rfl | exact zboolK) ?_)
    refine zz ?_
    try (apply Or.inr; refine And.intro (by first | rfl | exact zboolK) ?_)
    refine zz ?_
    try (apply Or.inl; refine And.intro (by first | rfl | exact zboolK) ?_)
    refine zz ?_
    try (apply Or.inr; refine And.intro (by first | rfl | exact zboolK) ?_)
    refine zz ?_
    try (apply Or.inr; refine And.intro (by first | rfl | exact zboolK) ?_)
    refine zz ?_
    try (apply Or.inr; refine And.intro (by first | rfl | exact zboolK) ?_)
    refine zz ?_
    try (apply Or.inl; refine And.intro (by first | rfl | exact zboolK) ?_)
    refine zz ?_
    try (apply Or.inr; refine And.intro (by first | rfl | exact zboolK) ?_)
    refine zz ?_
    try (apply Or.inr; refine And.intro (by first | rfl | exact zboolK) ?_)
    replace h := evT h
    refine zz ?_
    exact ⟨_, zfuel, _, _, _, _, _, _, _, _, _, _, h, leafFr [1, 2, 5, 6, 7] (by kernel_rfl), by kernel_rfl⟩
  clear h; rintro _ _ ⟨k, hle, x1, x5, x6, x7, x16_0, x16_1, x16_2, x16_3, x16_4, x16_5, h, ⟨fr0, rfl⟩, rfl⟩
  rcases k with _ | k
  · exact (run_zero h).elim
  rw [run_succ, spec_l4Place.B] at h
  refine zz ?_
  refine cutJ (n := 200004) [16] (fun fr hp => ∃ kq, kq ≤ k ∧ ∃ (x5 : Bool) (x6 : Bool) (x7 : Bool) (x8 : Bool) (x16_0 : Int) (x16_1 : Int) (x16_2 : ByteArray) (x16_3 : Bool) (x16_4 : Int) (x16_5 : Int), run spec_l4Place.B kq (.j3 x5 x6 x7 x8 x16_0 x16_1 x16_2 x16_3 x16_4 x16_5) = some r ∧ (∃ fr0, fr = puts [(2, .one (.ptr 16 0)), (5, .one (.val (.bool x5))), (6, .one (.val (.bool x6))), (7, .one (.val (.bool x7))), (8, .one (.val (.bool x8)))] fr0) ∧ hp = (upd 16 (.box [.val (.int .i64 x16_0), .val (.int .i64 x16_1), .val (.str x16_2), .val (.bool x16_3), .val (.int .i64 x16_4), .val (.int .i64 x16_5)]) (fun _ => none))) ?_ ?_
  · refine zz ?_
    refine br (iP h) ?_ ?_ <;> (clear h; intro c h)
    rotate_left
    · refine zz ?_
      try (apply Or.inr; refine And.intro (by first | rfl | exact zboolK) ?_)
      refine zz ?_
      try (apply Or.inr; refine And.intro (by first | rfl | exact zboolK) ?_)
      refine zz ?_
      try (apply Or.inr; refine And.intro (by first | rfl | exact zboolK) ?_)
      refine zz ?_
      try (apply Or.inr; refine And.intro (by first | rfl | exact zboolK) ?_)
      refine zz ?_
      try (apply Or.inr; refine And.intro (by first | rfl | exact zboolK) ?_)
      refine zz ?_
      try (apply Or.inl; refine And.intro (by first | rfl | exact zboolK) ?_)
      refine zz ?_
      try (apply Or.inl; refine And.intro (by first | rfl | exact zboolK) ?_)
      refine zz ?_
      try (apply Or.inl; refine And.intro (by first | rfl | exact zboolK) ?_)
      refine zz ?_
      try (apply Or.inl; refine And.intro (by first | rfl | exact zboolK) ?_)
      refine zz ?_
      refine br (iP h) ?_ ?_ <;> (clear h; intro c h)
      · refine zz ?_
        try (apply Or.inl; refine And.intro (by first | rfl | exact zboolK) ?_)
        refine zz ?_
        try (apply Or.inl; refine And.intro (by first | rfl | exact zboolK) ?_)
        refine zz ?_
        try (apply Or.inl; refine And.intro (by first | rfl | exact zboolK) ?_)
        refine zz ?_
        try (apply Or.inl; refine And.intro (by first | rfl | exact zboolK) ?_)
        refine zz ?_
        try (apply Or.inr; refine And.intro (by first | rfl | exact zboolK) ?_)
        replace h := evT h
        refine zz ?_
        exact ⟨_, zfuel, _, _, _, _, _, _, _, _, _, _, h, leafFr [2, 5, 6, 7, 8] (by kernel_rfl), by kernel_rfl⟩
      refine zz ?_
      try (apply Or.inr; refine And.intro (by first | rfl | exact zboolK) ?_)
      refine zz ?_
      try (apply Or.inr; refine And.intro (by first | rfl | exact zboolK) ?_)
      refine zz ?_
      try (apply Or.inl; refine And.intro (by first | rfl | exact zboolK) ?_)
      refine zz ?_
      try (apply Or.inr; refine And.intro (by first | rfl | exact zboolK) ?_)
      refine zz ?_
      try (apply Or.inr; refine And.intro (by first | rfl | exact zboolK) ?_)
      replace h := evT h
      refine zz ?_
      exact ⟨_, zfuel, _, _, _, _, _, _, _, _, _, _, h, leafFr [2, 5, 6, 7, 8] (by kernel_rfl), by kernel_rfl⟩
    refine zz ?_
    try (apply Or.inl; refine And.intro (by first | rfl | exact zboolK) ?_)
    refine zz ?_
    try (apply Or.inl; refine And.intro (by first | rfl | exact zboolK) ?_)
    refine zz ?_
    try (apply Or.inl; refine And.intro (by first | rfl | exact zboolK) ?_)
    refine zz ?_
    try (apply Or.inl; refine And.intro (by first | rfl | exact zboolK) ?_)
    have h_ := evO h; clear h; obtain ⟨t73, ht, h⟩ := h_
    refine zz ?_
    refine Exists.intro _ (And.intro (spec_l1In_ev (h := ht)) ?_)
    refine zz ?_
    try (apply Or.inl; refine And.intro (by first | rfl | exact zboolK) ?_)
    refine zz ?_
    refine brW (iP h) ?_ ?_ <;> (clear h; intro c h)
    rotate_left
    · refine zz ?_
      try (apply Or.inr; refine And.intro (by first | rfl | exact zboolK) ?_)
      refine zz ?_
      try (apply Or.inr; refine And.intro (by first | rfl | exact zboolK) ?_)
      refine zz ?_
      try (apply Or.inr; refine And.intro (by first | rfl | exact zboolK) ?_)
      refine zz ?_
      try (apply Or.inr; refine And.intro (by first | rfl | exact zboolK) ?_)
      refine zz ?_
      try (apply Or.inl; refine And.intro (by first | rfl | exact zboolK) ?_)
      replace h := evT h
      refine zz ?_
      exact ⟨_, zfuel, _, _, _, _, _, _, _, _, _, _, h, leafFr [2, 5, 6, 7, 8] (by kernel_rfl), by kernel_rfl⟩
    refine zz ?_
    try (apply Or.inl; refine And.intro (by first | rfl | exact zboolK) ?_)
    refine zz ?_
    try (apply Or.inl; refine And.intro (by first | rfl | exact zboolK) ?_)
    refine zz ?_
    try (apply Or.inl; refine And.intro (by first | rfl | exact zboolK) ?_)
    refine zz ?_
    refine br (iP h) ?_ ?_ <;> (clear h; intro c h)
    · refine zz ?_
      try (apply Or.inl; refine And.intro (by first | rfl | exact zboolK) ?_)
      refine zz ?_
      try (apply Or.inl; refine And.intro (by first | rfl | exact zboolK) ?_)
      refine zz ?_
      try (apply Or.inl; refine And.intro (by first | rfl | exact zboolK) ?_)
      refine zz ?_
      try (apply Or.inl; refine And.intro (by first | rfl | exact zboolK) ?_)
      refine zz ?_
      try (apply Or.inr; refine And.intro (by first | rfl | exact zboolK) ?_)
      replace h := evT h
      refine zz ?_
      exact ⟨_, zfuel, _, _, _, _, _, _, _, _, _, _, h, leafFr [2, 5, 6, 7, 8] (by kernel_rfl), by kernel_rfl⟩
    refine zz ?_
    try (apply Or.inr; refine And.intro (by first | rfl | exact zboolK) ?_)
    refine zz ?_
    try (apply Or.inr; refine And.intro (by first | rfl | exact zboolK) ?_)
    refine zz ?_
    try (apply Or.inl; refine And.intro (by first | rfl | exact zboolK) ?_)
    refine zz ?_
    try (apply Or.inr; refine And.intro (by first | rfl | exact zboolK) ?_)
    refine zz ?_
    try (apply Or.inr; refine And.intro (by first | rfl | exact zboolK) ?_)
    replace h := evT h
    refine zz ?_
    exact ⟨_, zfuel, _, _, _, _, _, _, _, _, _, _, h, leafFr [2, 5, 6, 7, 8] (by kernel_rfl), by kernel_rfl⟩
  clear h; rintro _ _ ⟨k, hle, x5, x6, x7, x8, x16_0, x16_1, x16_2, x16_3, x16_4, x16_5, h, ⟨fr0, rfl⟩, rfl⟩
  rcases k with _ | k
  · exact (run_zero h).elim
  rw [run_succ, spec_l4Place.B] at h
  have h_ := evO h; clear h; obtain ⟨t87, ht, h⟩ := h_
  refine zz ?_
  refine Exists.intro _ (And.intro (spec_l1In_ev (h := ht)) ?_)
  refine zz ?_
  refine br (iP h) ?_ ?_ <;> (clear h; intro c h)
  rotate_left
  · refine zz ?_
    try (apply Or.inr; refine And.intro (by first | rfl | exact zboolK) ?_)
    refine zz ?_
    try (apply Or.inr; refine And.intro (by first | rfl | exact zboolK) ?_)
    refine zz ?_
    try (apply Or.inr; refine And.intro (by first | rfl | exact zboolK) ?_)
    refine zz ?_
    try (apply Or.inr; refine And.intro (by first | rfl | exact zboolK) ?_)
    refine zz ?_
    try (apply Or.inr; refine And.intro (by first | rfl | exact zboolK) ?_)
    refine zz ?_
    try (apply Or.inr; refine And.intro (by first | rfl | exact zboolK) ?_)
    refine zz ?_
    try (apply Or.inr; refine And.intro (by first | rfl | exact zboolK) ?_)
    replace h := evR h; cases h
    refine zz ?_
    first | exact ⟨trivial, [], [], ⟨rfl, trivial⟩, _, rfl, _, rfl, And.intro rfl rfl⟩ | exact ⟨[], [], ⟨rfl, trivial⟩, _, rfl, _, rfl, And.intro rfl rfl⟩
  refine zz ?_
  try (apply Or.inl; refine And.intro (by first | rfl | exact zboolK) ?_)
  refine zz ?_
  refine br (iP h) ?_ ?_ <;> (clear h; intro c h)
  rotate_left
  · refine zz ?_
    try (apply Or.inr; refine And.intro (by first | rfl | exact zboolK) ?_)
    refine zz ?_
    try (apply Or.inr; refine And.intro (by first | rfl | exact zboolK) ?_)
    refine zz ?_
    try (apply Or.inr; refine And.intro (by first | rfl | exact zboolK) ?_)
    refine zz ?_
    try (apply Or.inr; refine And.intro (by first | rfl | exact zboolK) ?_)
    refine zz ?_
    try (apply Or.inr; refine And.intro (by first | rfl | exact zboolK) ?_)
    replace h := evR h; cases h
    refine zz ?_
    first | exact ⟨trivial, [], [], ⟨rfl, trivial⟩, _, rfl, _, rfl, And.intro rfl rfl⟩ | exact ⟨[], [], ⟨rfl, trivial⟩, _, rfl, _, rfl, And.intro rfl rfl⟩
  refine zz ?_
  try (apply Or.inl; refine And.intro (by first | rfl | exact zboolK) ?_)
  refine zz ?_
  refine br (iP h) ?_ ?_ <;> (clear h; intro c h)
  rotate_left
  · refine zz ?_
    try (apply Or.inr; refine And.intro (by first | rfl | exact zboolK) ?_)
    refine zz ?_
    try (apply Or.inr; refine And.intro (by first | rfl | exact zboolK) ?_)
    refine zz ?_
    try (apply Or.inr; refine And.intro (by first | rfl | exact zboolK) ?_)
    replace h := evR h; cases h
    refine zz ?_
    first | exact ⟨trivial, [], [], ⟨rfl, trivial⟩, _, rfl, _, rfl, And.intro rfl rfl⟩ | exact ⟨[], [], ⟨rfl, trivial⟩, _, rfl, _, rfl, And.intro rfl rfl⟩
  refine zz ?_
  try (apply Or.inl; refine And.intro (by first | rfl | exact zboolK) ?_)
  refine zz ?_
  refine br (iP h) ?_ ?_ <;> (clear h; intro c h)
  · refine zz ?_
    try (apply Or.inl; refine And.intro (by first | rfl | exact zboolK) ?_)
    replace h := evR h; cases h
    refine zz ?_
    first | exact ⟨trivial, [], [], ⟨rfl, trivial⟩, _, rfl, _, rfl, And.intro rfl rfl⟩ | exact ⟨[], [], ⟨rfl, trivial⟩, _, rfl, _, rfl, And.intro rfl rfl⟩
  refine zz ?_
  try (apply Or.inr; refine And.intro (by first | rfl | exact zboolK) ?_)
  replace h := evR h; cases h
  refine zz ?_
  first | exact ⟨trivial, [], [], ⟨rfl, trivial⟩, _, rfl, _, rfl, And.intro rfl rfl⟩ | exact ⟨[], [], ⟨rfl, trivial⟩, _, rfl, _, rfl, And.intro rfl rfl⟩
theorem spec_NfaOk_ev (l0 : List S62) (r : Bool) (h : spec_NfaOk.fv l0 = some r) : CE G 33 [.val (.row (l0.map e62))] [] [.val (.bool r)] [] := by
  obtain ⟨k, h⟩ := lim_ex h
  refine CE.mk ⟨Try.f33, _, rfl, rfl, ⟨by kernel_rfl, Nat.le_of_ble_eq_true rfl, Nat.le_of_ble_eq_true rfl⟩, ?_⟩
  rcases k with _ | k
  · exact (run_zero h).elim
  rw [run_succ, spec_NfaOk.B] at h
  replace h := evT h
  refine zz ?_
  refine loopJ [] (fun kq fr hp => ∃ (x0 : List S62) (x3 : Int) (x4 : Int), run spec_NfaOk.B kq (.l0 x0 x3 x4) = some r ∧ (∃ fr0, fr = puts [(0, .one (.val (.row (x0.map e62)))), (3, .one (.val (.int .i64 x3))), (4, .one (.val (.int .i64 x4)))] fr0) ∧ hp = (fun _ => none)) k ⟨_, zfuel, _, _, _, h, leafFr [0, 3, 4] (by kernel_rfl), by kernel_rfl⟩ ?_
  clear h; rintro k hle _ _ ⟨x0, x3, x4, h, ⟨fr0, rfl⟩, rfl⟩
  rcases k with _ | k
  · exact (run_zero h).elim
  rw [run_succ, spec_NfaOk.B] at h
  refine zz ?_
  refine br (iP h) ?_ ?_ <;> (clear h; intro c h)
  rotate_left
  · have h_ := evO h; clear h; obtain ⟨t33, ht, h⟩ := h_
    refine zz ?_
    refine Exists.intro _ (And.intro (spec_l1In_ev (h := ht)) ?_)
    replace h := evR h; cases h
    refine zz ?_
    first | exact ⟨trivial, [], [], ⟨rfl, trivial⟩, _, rfl, _, rfl, And.intro rfl rfl⟩ | exact ⟨[], [], ⟨rfl, trivial⟩, _, rfl, _, rfl, And.intro rfl rfl⟩
  refine zz ?_
  refine cutJ (n := 200005) [] (fun fr hp => ∃ kq, kq ≤ k ∧ ∃ (x0 : List S62) (x3 : Int) (x4 : Int) (x31 : Bool), run spec_NfaOk.B kq (.j0 x0 x3 x4 x31) = some r ∧ (∃ fr0, fr = puts [(0, .one (.val (.row (x0.map e62)))), (3, .one (.val (.int .i64 x3))), (4, .one (.val (.int .i64 x4))), (31, .one (.val (.bool x31)))] fr0) ∧ hp = (fun _ => none)) ?_ ?_
  · have h_ := gP h; clear h; obtain ⟨c, h⟩ := h_
    have h_ := gP h; clear h; obtain ⟨c, h⟩ := h_
    have h_ := evO h; clear h; obtain ⟨t17, ht, h⟩ := h_
    refine zz ?_
    refine Exists.intro _ (And.intro (spec_l4Place_ev (h := ht)) ?_)
    refine zz ?_
    refine brX (iP h) ?_ ?_ <;> (clear h; intro c h)
    · refine zz ?_
      try (apply Or.inl; refine And.intro (by first | rfl | exact zboolK) ?_)
      refine zz ?_
      try (apply Or.inl; refine And.intro (by first | rfl | exact zboolK) ?_)
      refine zz ?_
      try (apply Or.inl; refine And.intro (by first | rfl | exact zboolK) ?_)
      refine zz ?_
      try (apply Or.inl; refine And.intro (by first | rfl | exact zboolK) ?_)
      refine zz ?_
      try (apply Or.inl; refine And.intro (by first | rfl | exact zboolK) ?_)
      refine zz ?_
      try (apply Or.inl; refine And.intro (by first | rfl | exact zboolK) ?_)
      refine zz ?_
      try (apply Or.inl; refine And.intro (by first | rfl | exact zboolK) ?_)
      refine zz ?_
      try (apply Or.inl; refine And.intro (by first | rfl | exact zboolK) ?_)
      refine zz ?_
      try (apply Or.inl; refine And.intro (by first | rfl | exact zboolK) ?_)
      refine zz ?_
      try (apply Or.inl; refine And.intro (by first | rfl | exact zboolK) ?_)
      refine zz ?_
      try (apply Or.inr; refine And.intro (by first | rfl | exact zboolK) ?_)
      replace h := evT h
      refine zz ?_
      exact ⟨_, zfuel, _, _, _, _, h, leafFr [0, 3, 4, 31] (by kernel_rfl), by kernel_rfl⟩
    refine zz ?_
    try (apply Or.inr; refine And.intro (by first | rfl | exact zboolK) ?_)
    refine zz ?_
    try (apply Or.inr; refine And.intro (by first | rfl | exact zboolK) ?_)
    refine zz ?_
    try (apply Or.inr; refine And.intro (by first | rfl | exact zboolK) ?_)
    refine zz ?_
    try (apply Or.inr; refine And.intro (by first | rfl | exact zboolK) ?_)
    refine zz ?_
    try (apply Or.inr; refine And.intro (by first | rfl | exact zboolK) ?_)
    refine zz ?_
    try (apply Or.inr; refine And.intro (by first | rfl | exact zboolK) ?_)
    refine zz ?_
    try (apply Or.inr; refine And.intro (by first | rfl | exact zboolK) ?_)
    refine zz ?_
    try (apply Or.inr; refine And.intro (by first | rfl | exact zboolK) ?_)
    refine zz ?_
    try (apply Or.inr; refine And.intro (by first | rfl | exact zboolK) ?_)
    refine zz ?_
    try (apply Or.inr; refine And.intro (by first | rfl | exact zboolK) ?_)
    refine zz ?_
    try (apply Or.inl; refine And.intro (by first | rfl | exact zboolK) ?_)
    replace h := evT h
    refine zz ?_
    exact ⟨_, zfuel, _, _, _, _, h, leafFr [0, 3, 4, 31] (by kernel_rfl), by kernel_rfl⟩
  clear h; rintro _ _ ⟨k, hle, x0, x3, x4, x31, h, ⟨fr0, rfl⟩, rfl⟩
  rcases k with _ | k
  · exact (run_zero h).elim
  rw [run_succ, spec_NfaOk.B] at h
  refine zz ?_
  refine br (iP h) ?_ ?_ <;> (clear h; intro c h)
  · replace h := evR h; cases h
    refine zz ?_
    first | exact ⟨trivial, [], [], ⟨rfl, trivial⟩, _, rfl, _, rfl, And.intro rfl rfl⟩ | exact ⟨[], [], ⟨rfl, trivial⟩, _, rfl, _, rfl, And.intro rfl rfl⟩
  replace h := evT h
  refine zz ?_
  exact ⟨_, zfuel, _, _, _, h, leafFr [0, 3, 4] (by kernel_rfl), by kernel_rfl⟩
theorem spec_l4Close_ev {n0 : Nat} (l0 : List S62) (l1 : List Bool) (a2 : Int) (a3 : Bool) (a4 : Bool) (r : List Bool) (h : spec_l4Close.fv l0 l1 a2 a3 a4 = some r) : CE G 65 [.val (.row (l0.map e62)), .ref 0 n0, .val (.int .i64 a2), .val (.bool a3), .val (.bool a4)] [.own 4 1 (l1.map VV.bool) n0 false] [] [.own 4 1 (r.map VV.bool) n0 false] := by
  obtain ⟨k, h⟩ := lim_ex h
  refine CE.mk ⟨Try.f65, _, rfl, rfl, ⟨by kernel_rfl, Nat.le_of_ble_eq_true rfl, Nat.le_of_ble_eq_true rfl⟩, ?_⟩
  rcases k with _ | k
  · exact (run_zero h).elim
  rw [run_succ, spec_l4Close.B] at h
  refine zz ?_
  refine Exists.intro (List.map (VV.int .i64) ([a2] : List Int)) (And.intro zrow ?_)
  replace h := evT h
  refine zz ?_
  refine loopJ [0, 17] (fun kq fr hp => ∃ (x0 : List S62) (x1 : List Bool) (x3 : Bool) (x4 : Bool) (x10 : List Int) (g17 : Nat), run spec_l4Close.B kq (.l0 x0 x1 x3 x4 x10) = some r ∧ (∃ fr0, fr = puts [(0, .one (.val (.row (x0.map e62)))), (1, .one (.ref 0 n0)), (3, .one (.val (.bool x3))), (4, .one (.val (.bool x4))), (10, .one (.ref 17 g17))] fr0) ∧ hp = (upd 0 (.own 4 1 (x1.map VV.bool) n0 false) (upd 17 (.own 3 1 (x10.map (VV.int .i64)) g17 false) (fun _ => none)))) k ⟨_, zfuel, _, _, _, _, _, 0, h, leafFr [0, 1, 3, 4, 10] (by kernel_rfl), by kernel_rfl⟩ ?_
  clear h; rintro k hle _ _ ⟨x0, x1, x3, x4, x10, g17, h, ⟨fr0, rfl⟩, rfl⟩
  rcases k with _ | k
  · exact (run_zero h).elim
  rw [run_succ, spec_l4Close.B] at h
  refine zz ?_
  refine br (iP h) ?_ ?_ <;> (clear h; intro c h)
  rotate_left
  · replace h := evR h; cases h
    refine zz ?_
    first | refine ⟨trivial, [], [], ⟨rfl, trivial⟩, _, rfl, _, rfl, ?_⟩ | refine ⟨[], [], ⟨rfl, trivial⟩, _, rfl, _, rfl, ?_⟩
    repeat' (first | (refine And.intro ?_ ?_) | rfl)
  have h_ := gP h; clear h; obtain ⟨c, h⟩ := h_
  have h_ := gP h; clear h; obtain ⟨c, h⟩ := h_
  have h_ := gP h; clear h; obtain ⟨c, h⟩ := h_
  refine zz ?_
  refine Exists.intro (List.map (VV.int .i64) (x10.take ((wrap64 ((x10.length : Int) - 1)) : Int).toNat)) (And.intro zrow ?_)
  refine zz ?_
  refine cutJ (n := 42) [0, 17] (fun fr hp => ∃ kq, kq ≤ k ∧ ∃ (x0 : List S62) (x1 : List Bool) (x3 : Bool) (x4 : Bool) (x10 : List Int) (x11 : Int) (g17 : Nat), run spec_l4Close.B kq (.j0 x0 x1 x3 x4 x10 x11) = some r ∧ (∃ fr0, fr = puts [(0, .one (.val (.row (x0.map e62)))), (1, .one (.ref 0 n0)), (3, .one (.val (.bool x3))), (4, .one (.val (.bool x4))), (10, .one (.ref 17 g17)), (11, .one (.val (.int .i64 x11)))] fr0) ∧ hp = (upd 0 (.own 4 1 (x1.map VV.bool) n0 false) (upd 17 (.own 3 1 (x10.map (VV.int .i64)) g17 false) (fun _ => none)))) ?_ ?_
  · refine zz ?_
    refine cutJ (n := 200004) [0, 17] (fun fr hp => ∃ kq, kq ≤ k ∧ ∃ (x0 : List S62) (x1 : List Bool) (x3 : Bool) (x4 : Bool) (x10 : List Int) (x11 : Int) (x42 : Bool) (g17 : Nat), run spec_l4Close.B kq (.j1 x0 x1 x3 x4 x10 x11 x42) = some r ∧ (∃ fr0, fr = puts [(0, .one (.val (.row (x0.map e62)))), (1, .one (.ref 0 n0)), (3, .one (.val (.bool x3))), (4, .one (.val (.bool x4))), (10, .one (.ref 17 g17)), (11, .one (.val (.int .i64 x11))), (42, .one (.val (.bool x42)))] fr0) ∧ hp = (upd 0 (.own 4 1 (x1.map VV.bool) n0 false) (upd 17 (.own 3 1 (x10.map (VV.int .i64)) g17 false) (fun _ => none)))) ?_ ?_
    · refine zz ?_
      refine brW (iP h) ?_ ?_ <;> (clear h; intro c h)
      rotate_left
      · refine zz ?_
        try (apply Or.inr; refine And.intro (by first | rfl | exact zboolK) ?_)
        refine zz ?_
        try (apply Or.inl; refine And.intro (by first | rfl | exact zboolK) ?_)
        refine zz ?_
        try (apply Or.inr; refine And.intro (by first | rfl | exact zboolK) ?_)
        refine zz ?_
        try (apply Or.inr; refine And.intro (by first | rfl | exact zboolK) ?_)
        refine zz ?_
        try (apply Or.inr; refine And.intro (by first | rfl | exact zboolK) ?_)
        refine zz ?_
        try (apply Or.inr; refine And.intro (by first | rfl | exact zboolK) ?_)
        refine zz ?_
        try (apply Or.inl; refine And.intro (by first | rfl | exact zboolK) ?_)
        replace h := evT h
        refine zz ?_
        exact ⟨_, zfuel, _, _, _, _, _, _, _, (g17 + 1), h, leafFr [0, 1, 3, 4, 10, 11, 42] (by kernel_rfl), by kernel_rfl⟩
      refine zz ?_
      try (apply Or.inl; refine And.intro (by first | rfl | exact zboolK) ?_)
      refine zz ?_
      try (apply Or.inr; refine And.intro (by first | rfl | exact zboolK) ?_)
      refine zz ?_
      refine brW (iP h) ?_ ?_ <;> (clear h; intro c h)
      rotate_left
      · refine zz ?_
        try (apply Or.inr; refine And.intro (by first | rfl | exact zboolK) ?_)
        refine zz ?_
        try (apply Or.inr; refine And.intro (by first | rfl | exact zboolK) ?_)
        refine zz ?_
        try (apply Or.inr; refine And.intro (by first | rfl | exact zboolK) ?_)
        refine zz ?_
        try (apply Or.inl; refine And.intro (by first | rfl | exact zboolK) ?_)
        replace h := evT h
        refine zz ?_
        exact ⟨_, zfuel, _, _, _, _, _, _, _, (g17 + 1), h, leafFr [0, 1, 3, 4, 10, 11, 42] (by kernel_rfl), by kernel_rfl⟩
      refine zz ?_
      try (apply Or.inl; refine And.intro (by first | rfl | exact zboolK) ?_)
      refine zz ?_
      try (apply Or.inl; refine And.intro (by first | rfl | exact zboolK) ?_)
      have h_ := gP h; clear h; obtain ⟨c, h⟩ := h_
      have h_ := gP h; clear h; obtain ⟨c, h⟩ := h_
      refine zz ?_
      try (apply Or.inl; refine And.intro (by first | rfl | exact zboolK) ?_)
      refine zz ?_
      try (apply Or.inr; refine And.intro (by first | rfl | exact zboolK) ?_)
      replace h := evT h
      refine zz ?_
      exact ⟨_, zfuel, _, _, _, _, _, _, _, (g17 + 1), h, leafFr [0, 1, 3, 4, 10, 11, 42] (by kernel_rfl), by kernel_rfl⟩
    clear h; rintro _ _ ⟨k, hle, x0, x1, x3, x4, x10, x11, x42, g17, h, ⟨fr0, rfl⟩, rfl⟩
    rcases k with _ | k
    · exact (run_zero h).elim
    rw [run_succ, spec_l4Close.B] at h
    refine zz ?_
    refine br (iP h) ?_ ?_ <;> (clear h; intro c h)
    · replace h := evT h
      refine zz ?_
      exact ⟨_, zfuel, _, _, _, _, _, g17, h, leafFr [0, 1, 3, 4, 10] (by kernel_rfl), by kernel_rfl⟩
    replace h := evT h
    refine zz ?_
    exact ⟨_, zfuel, _, _, _, _, _, _, g17, h, leafFr [0, 1, 3, 4, 10, 11] (by kernel_rfl), by kernel_rfl⟩
  clear h; rintro _ _ ⟨k, hle, x0, x1, x3, x4, x10, x11, g17, h, ⟨fr0, rfl⟩, rfl⟩
  rcases k with _ | k
  · exact (run_zero h).elim
  rw [run_succ, spec_l4Close.B] at h
  have h_ := gP h; clear h; obtain ⟨c, h⟩ := h_
  have h_ := gP h; clear h; obtain ⟨c, h⟩ := h_
  refine zz ?_
  refine Exists.intro (List.map VV.bool (x1.set (x11 : Int).toNat true)) (And.intro zrow ?_)
  have h_ := gP h; clear h; obtain ⟨c, h⟩ := h_
  refine zz ?_
  refine br (iP h) ?_ ?_ <;> (clear h; intro c h)
  · refine zz ?_
    refine Exists.intro (List.map (VV.int .i64) ([(rd_T62 x0 x11).f4] : List Int)) (And.intro zrow ?_)
    have h_ := gP h; clear h; obtain ⟨c, h⟩ := h_
    refine zz ?_
    refine Exists.intro (List.map (VV.int .i64) (x10 ++ [(rd_T62 x0 x11).f4])) (And.intro zrow ?_)
    replace h := evT h
    refine zz ?_
    exact ⟨_, zfuel, _, _, _, _, _, (g17 + 1), h, leafFr [0, 1, 3, 4, 10] (by kernel_rfl), by kernel_rfl⟩
  refine zz ?_
  refine br (iP h) ?_ ?_ <;> (clear h; intro c h)
  · refine zz ?_
    refine Exists.intro (List.map (VV.int .i64) ([(rd_T62 x0 x11).f4, (rd_T62 x0 x11).f5] : List Int)) (And.intro zrow ?_)
    have h_ := gP h; clear h; obtain ⟨c, h⟩ := h_
    refine zz ?_
    refine Exists.intro (List.map (VV.int .i64) (x10 ++ [(rd_T62 x0 x11).f4, (rd_T62 x0 x11).f5])) (And.intro zrow ?_)
    replace h := evT h
    refine zz ?_
    exact ⟨_, zfuel, _, _, _, _, _, (g17 + 1), h, leafFr [0, 1, 3, 4, 10] (by kernel_rfl), by kernel_rfl⟩
  refine zz ?_
  refine br (iP h) ?_ ?_ <;> (clear h; intro c h)
  · refine zz ?_
    refine br (iP h) ?_ ?_ <;> (clear h; intro c h)
    rotate_left
    · replace h := evT h
      refine zz ?_
      exact ⟨_, zfuel, _, _, _, _, _, g17, h, leafFr [0, 1, 3, 4, 10] (by kernel_rfl), by kernel_rfl⟩
    refine zz ?_
    refine Exists.intro (List.map (VV.int .i64) ([(wrap64 (x11 + 1))] : List Int)) (And.intro zrow ?_)
    have h_ := gP h; clear h; obtain ⟨c, h⟩ := h_
    refine zz ?_
    refine Exists.intro (List.map (VV.int .i64) (x10 ++ [(wrap64 (x11 + 1))])) (And.intro zrow ?_)
    replace h := evT h
    refine zz ?_
    exact ⟨_, zfuel, _, _, _, _, _, (g17 + 1), h, leafFr [0, 1, 3, 4, 10] (by kernel_rfl), by kernel_rfl⟩
  refine zz ?_
  refine br (iP h) ?_ ?_ <;> (clear h; intro c h)
  rotate_left
  · replace h := evT h
    refine zz ?_
    exact ⟨_, zfuel, _, _, _, _, _, g17, h, leafFr [0, 1, 3, 4, 10] (by kernel_rfl), by kernel_rfl⟩
  refine zz ?_
  refine br (iP h) ?_ ?_ <;> (clear h; intro c h)
  rotate_left
  · replace h := evT h
    refine zz ?_
    exact ⟨_, zfuel, _, _, _, _, _, g17, h, leafFr [0, 1, 3, 4, 10] (by kernel_rfl), by kernel_rfl⟩
  refine zz ?_
  refine Exists.intro (List.map (VV.int .i64) ([(wrap64 (x11 + 1))] : List Int)) (And.intro zrow ?_)
  have h_ := gP h; clear h; obtain ⟨c, h⟩ := h_
  refine zz ?_
  refine Exists.intro (List.map (VV.int .i64) (x10 ++ [(wrap64 (x11 + 1))])) (And.intro zrow ?_)
  replace h := evT h
  refine zz ?_
  exact ⟨_, zfuel, _, _, _, _, _, (g17 + 1), h, leafFr [0, 1, 3, 4, 10] (by kernel_rfl), by kernel_rfl⟩
theorem spec_l4List_ev (l0 : List Bool) (r : List Int) (h : spec_l4List.fv l0 = some r) : CE G 66 [.val (.row (l0.map VV.bool))] [] [.val (.row (r.map (VV.int .i64)))] [] := by
  obtain ⟨k, h⟩ := lim_ex h
  refine CE.mk ⟨Try.f66, _, rfl, rfl, ⟨by kernel_rfl, Nat.le_of_ble_eq_true rfl, Nat.le_of_ble_eq_true rfl⟩, ?_⟩
  rcases k with _ | k
  · exact (run_zero h).elim
  rw [run_succ, spec_l4List.B] at h
  refine zz ?_
  refine Exists.intro (List.map (VV.int .i64) ([] : List Int)) (And.intro zrow ?_)
  replace h := evT h
  refine zz ?_
  refine loopJ [528] (fun kq fr hp => ∃ (x0 : List Bool) (x3 : List Int) (x4 : Int) (g528 : Nat), run spec_l4List.B kq (.l0 x0 x3 x4) = some r ∧ (∃ fr0, fr = puts [(0, .one (.val (.row (x0.map VV.bool)))), (3, .one (.ref 528 g528)), (4, .one (.val (.int .i64 x4)))] fr0) ∧ hp = (upd 528 (.own 3 1 (x3.map (VV.int .i64)) g528 false) (fun _ => none))) k ⟨_, zfuel, _, _, _, 0, h, leafFr [0, 3, 4] (by kernel_rfl), by kernel_rfl⟩ ?_
  clear h; rintro k hle _ _ ⟨x0, x3, x4, g528, h, ⟨fr0, rfl⟩, rfl⟩
  rcases k with _ | k
  · exact (run_zero h).elim
  rw [run_succ, spec_l4List.B] at h
  refine zz ?_
  refine br (iP h) ?_ ?_ <;> (clear h; intro c h)
  rotate_left
  · replace h := evR h; cases h
    refine zz ?_
    first | exact ⟨trivial, [], [], ⟨rfl, trivial⟩, _, rfl, _, rfl, And.intro rfl rfl⟩ | exact ⟨[], [], ⟨rfl, trivial⟩, _, rfl, _, rfl, And.intro rfl rfl⟩
  have h_ := gP h; clear h; obtain ⟨c, h⟩ := h_
  refine zz ?_
  refine br (iP h) ?_ ?_ <;> (clear h; intro c h)
  rotate_left
  · replace h := evT h
    refine zz ?_
    exact ⟨_, zfuel, _, _, _, g528, h, leafFr [0, 3, 4] (by kernel_rfl), by kernel_rfl⟩
  refine zz ?_
  refine Exists.intro (List.map (VV.int .i64) ([x4] : List Int)) (And.intro zrow ?_)
  have h_ := gP h; clear h; obtain ⟨c, h⟩ := h_
  refine zz ?_
  refine Exists.intro (List.map (VV.int .i64) (x3 ++ [x4])) (And.intro zrow ?_)
  replace h := evT h
  refine zz ?_
  exact ⟨_, zfuel, _, _, _, (g528 + 1), h, leafFr [0, 3, 4] (by kernel_rfl), by kernel_rfl⟩
theorem spec_Closure_ev (l0 : List S62) (l1 : List Int) (a2 : Bool) (a3 : Bool) (r : List Int) (h : spec_Closure.fv l0 l1 a2 a3 = some r) : CE G 35 [.val (.row (l0.map e62)), .val (.row (l1.map (VV.int .i64))), .val (.bool a2), .val (.bool a3)] [] [.val (.row (r.map (VV.int .i64)))] [] := by
  obtain ⟨k, h⟩ := lim_ex h
  refine CE.mk ⟨Try.f35, _, rfl, rfl, ⟨by kernel_rfl, Nat.le_of_ble_eq_true rfl, Nat.le_of_ble_eq_true rfl⟩, ?_⟩
  rcases k with _ | k
  · exact (run_zero h).elim
  rw [run_succ, spec_Closure.B] at h
  have h_ := gP h; clear h; obtain ⟨c, h⟩ := h_
  have h_ := gP h; clear h; obtain ⟨c, h⟩ := h_
  refine zz ?_
  refine Exists.intro (List.map VV.bool (List.replicate ((l0.length : Int) : Int).toNat false)) (And.intro zrow ?_)
  replace h := evT h
  refine zz ?_
  refine loopJ [530] (fun kq fr hp => ∃ (x0 : List S62) (x1 : List Int) (x2 : Bool) (x3 : Bool) (x9 : List Bool) (x10 : Int) (g530 : Nat), run spec_Closure.B kq (.l0 x0 x1 x2 x3 x9 x10) = some r ∧ (∃ fr0, fr = puts [(0, .one (.val (.row (x0.map e62)))), (1, .one (.val (.row (x1.map (VV.int .i64))))), (2, .one (.val (.bool x2))), (3, .one (.val (.bool x3))), (9, .one (.ref 530 g530)), (10, .one (.val (.int .i64 x10)))] fr0) ∧ hp = (upd 530 (.own 4 1 (x9.map VV.bool) g530 false) (fun _ => none))) k ⟨_, zfuel, _, _, _, _, _, _, 0, h, leafFr [0, 1, 2, 3, 9, 10] (by kernel_rfl), by kernel_rfl⟩ ?_
  clear h; rintro k hle _ _ ⟨x0, x1, x2, x3, x9, x10, g530, h, ⟨fr0, rfl⟩, rfl⟩
  rcases k with _ | k
  · exact (run_zero h).elim
  rw [run_succ, spec_Closure.B] at h
  refine zz ?_
  refine br (iP h) ?_ ?_ <;> (clear h; intro c h)
  rotate_left
  · have h_ := evO h; clear h; obtain ⟨t30, ht, h⟩ := h_
    refine zz ?_
    refine Exists.intro _ (And.intro (spec_l4List_ev (h := ht)) ?_)
    replace h := evR h; cases h
    refine zz ?_
    first | exact ⟨trivial, [], [], ⟨rfl, trivial⟩, _, rfl, _, rfl, And.intro rfl rfl⟩ | exact ⟨[], [], ⟨rfl, trivial⟩, _, rfl, _, rfl, And.intro rfl rfl⟩
  have h_ := gP h; clear h; obtain ⟨c, h⟩ := h_
  have h_ := evO h; clear h; obtain ⟨t28, ht, h⟩ := h_
  refine zz ?_
  refine Exists.intro _ (Exists.intro _ (And.intro (spec_l4Close_ev (h := ht)) ?_))
  replace h := evT h
  refine zz ?_
  exact ⟨_, zfuel, _, _, _, _, _, _, g530, h, leafFr [0, 1, 2, 3, 9, 10] (by kernel_rfl), by kernel_rfl⟩
theorem spec_l5In_ev (a0 : ByteArray) (a1 : Int) (r : Bool) (h : spec_l5In.fv a0 a1 = some r) : CE G 67 [.val (.str a0), .val (.int .u8 a1)] [] [.val (.bool r)] [] := by
  obtain ⟨k, h⟩ := lim_ex h
  refine CE.mk ⟨Try.f67, _, rfl, rfl, ⟨by kernel_rfl, Nat.le_of_ble_eq_true rfl, Nat.le_of_ble_eq_true rfl⟩, ?_⟩
  rcases k with _ | k
  · exact (run_zero h).elim
  rw [run_succ, spec_l5In.B] at h
  replace h := evT h
  refine zz ?_
  refine loopJ [] (fun kq fr hp => ∃ (x0 : ByteArray) (x1 : Int) (x5 : Int), run spec_l5In.B kq (.l0 x0 x1 x5) = some r ∧ (∃ fr0, fr = puts [(0, .one (.val (.str x0))), (1, .one (.val (.int .u8 x1))), (5, .one (.val (.int .i64 x5)))] fr0) ∧ hp = (fun _ => none)) k ⟨_, zfuel, _, _, _, h, leafFr [0, 1, 5] (by kernel_rfl), by kernel_rfl⟩ ?_
  clear h; rintro k hle _ _ ⟨x0, x1, x5, h, ⟨fr0, rfl⟩, rfl⟩
  rcases k with _ | k
  · exact (run_zero h).elim
  rw [run_succ, spec_l5In.B] at h
  refine zz ?_
  refine br (iP h) ?_ ?_ <;> (clear h; intro c h)
  rotate_left
  · replace h := evR h; cases h
    refine zz ?_
    first | exact ⟨trivial, [], [], ⟨rfl, trivial⟩, _, rfl, _, rfl, And.intro rfl rfl⟩ | exact ⟨[], [], ⟨rfl, trivial⟩, _, rfl, _, rfl, And.intro rfl rfl⟩
  have h_ := gP h; clear h; obtain ⟨c, h⟩ := h_
  refine zz ?_
  refine br (iP h) ?_ ?_ <;> (clear h; intro c h)
  · replace h := evR h; cases h
    refine zz ?_
    first | exact ⟨trivial, [], [], ⟨rfl, trivial⟩, _, rfl, _, rfl, And.intro rfl rfl⟩ | exact ⟨[], [], ⟨rfl, trivial⟩, _, rfl, _, rfl, And.intro rfl rfl⟩
  replace h := evT h
  refine zz ?_
  exact ⟨_, zfuel, _, _, _, h, leafFr [0, 1, 5] (by kernel_rfl), by kernel_rfl⟩
theorem spec_l5Takes_ev (a0_0 : Int) (a0_1 : Int) (a0_2 : ByteArray) (a0_3 : Bool) (a0_4 : Int) (a0_5 : Int) (a1 : Int) (r : Bool) (h : spec_l5Takes.fv a0_0 a0_1 a0_2 a0_3 a0_4 a0_5 a1 = some r) : CE G 38 [.val (.agg [.int .i64 a0_0, .int .i64 a0_1, .str a0_2, .bool a0_3, .int .i64 a0_4, .int .i64 a0_5]), .val (.int .u8 a1)] [] [.val (.bool r)] [] := by
  refine CE.mk ⟨Try.f38, _, rfl, rfl, ⟨by kernel_rfl, Nat.le_of_ble_eq_true rfl, Nat.le_of_ble_eq_true rfl⟩, ?_⟩
  rw [spec_l5Takes.fv] at h
  refine zz ?_
  refine br (iteS h) ?_ ?_ <;> (clear h; intro c h)
  · cases h
    refine zz ?_
    first | exact ⟨trivial, [], [], ⟨rfl, trivial⟩, _, rfl, _, rfl, And.intro rfl rfl⟩ | exact ⟨[], [], ⟨rfl, trivial⟩, _, rfl, _, rfl, And.intro rfl rfl⟩
  refine zz ?_
  refine br (iteS h) ?_ ?_ <;> (clear h; intro c h)
  · cases h
    refine zz ?_
    first | exact ⟨trivial, [], [], ⟨rfl, trivial⟩, _, rfl, _, rfl, And.intro rfl rfl⟩ | exact ⟨[], [], ⟨rfl, trivial⟩, _, rfl, _, rfl, And.intro rfl rfl⟩
  refine zz ?_
  refine br (iteS h) ?_ ?_ <;> (clear h; intro c h)
  rotate_left
  · cases h
    refine zz ?_
    first | exact ⟨trivial, [], [], ⟨rfl, trivial⟩, _, rfl, _, rfl, And.intro rfl rfl⟩ | exact ⟨[], [], ⟨rfl, trivial⟩, _, rfl, _, rfl, And.intro rfl rfl⟩
  have h_ := oS h; clear h; obtain ⟨t21, ht, h⟩ := h_
  refine zz ?_
  refine Exists.intro _ (And.intro (spec_l5In_ev (h := ht)) ?_)
  cases h
  refine zz ?_
  first | exact ⟨trivial, [], [], ⟨rfl, trivial⟩, _, rfl, _, rfl, And.intro rfl rfl⟩ | exact ⟨[], [], ⟨rfl, trivial⟩, _, rfl, _, rfl, And.intro rfl rfl⟩
end Go.Proofs.Ytdajhceookjdmaa.TFnExactMatchAt
