/- The walks of the functions that FnExactClosure reaches, through the abstract machine. -/
import Derived.Test.YtfdpehmefgfjgaaAFnExactClosureh
import Derived.Test.YtfdpehmefgfjgaaFFnExactClosure
import Derived.Test.YtfdpehmefgfjgaaProg
set_option maxHeartbeats 4000000
set_option maxRecDepth 100000
set_option linter.unusedVariables false
set_option linter.unusedSimpArgs false
namespace Go.Proofs.Ytfdpehmefgfjgaa.TFnExactClosure
open Go Go.RowKit Go.Proofs Go.Proofs.YtfdpehmefgfjgaaW.AM Go.Proofs.Ytfdpehmefgfjgaa.QFnExactClosure Go.Proofs.YtfdpehmefgfjgaaW.PrintWords Go.Proofs.YtfdpehmefgfjgaaW.Pgs
theorem laws_szPlace_ev (a0_0 : Int) (a0_1 : Int) (a0_2 : ByteArray) (a0_3 : Bool) (a0_4 : Int) (a0_5 : Int) (a1 : Int) (r : Int) (h : laws_szPlace.f a0_0 a0_1 a0_2 a0_3 a0_4 a0_5 a1 = some r) : CE G 65 [.val (.agg [.int .i64 a0_0, .int .i64 a0_1, .str a0_2, .bool a0_3, .int .i64 a0_4, .int .i64 a0_5]), .val (.int .i64 a1)] [] [.val (.int .i64 r)] [] := by
  refine CE.mk ⟨Try.f65, _, rfl, rfl, ⟨by kernel_rfl, Nat.le_of_ble_eq_true rfl, Nat.le_of_ble_eq_true rfl⟩, ?_⟩
  rw [laws_szPlace.f] at h
  refine zz ?_
  refine br (iteS h) ?_ ?_ <;> (clear h; intro c h)
  · cases h
    refine zz ?_
    first | exact ⟨trivial, [], [], ⟨rfl, trivial⟩, _, rfl, _, rfl, And.intro rfl rfl⟩ | exact ⟨[], [], ⟨rfl, trivial⟩, _, rfl, _, rfl, And.intro rfl rfl⟩
  cases h
  refine zz ?_
  first | exact ⟨trivial, [], [], ⟨rfl, trivial⟩, _, rfl, _, rfl, And.intro rfl rfl⟩ | exact ⟨[], [], ⟨rfl, trivial⟩, _, rfl, _, rfl, And.intro rfl rfl⟩
theorem laws_szPlaceS_ev (l0 : List S99) (a1 : Int) (r : Int) (h : laws_szPlaceS.fv l0 a1 = some r) : CE G 22 [.val (.row (l0.map e99)), .val (.int .i64 a1)] [] [.val (.int .i64 r)] [] := by
  obtain ⟨k, h⟩ := lim_ex h
  refine CE.mk ⟨Try.f22, _, rfl, rfl, ⟨by kernel_rfl, Nat.le_of_ble_eq_true rfl, Nat.le_of_ble_eq_true rfl⟩, ?_⟩
  rcases k with _ | k
  · exact (run_zero h).elim
  rw [run_succ, laws_szPlaceS.B] at h
  refine zz ?_
  refine br (iP h) ?_ ?_ <;> (clear h; intro c h)
  · replace h := evR h; cases h
    refine zz ?_
    first | exact ⟨trivial, [], [], ⟨rfl, trivial⟩, _, rfl, _, rfl, And.intro rfl rfl⟩ | exact ⟨[], [], ⟨rfl, trivial⟩, _, rfl, _, rfl, And.intro rfl rfl⟩
  replace h := evT h
  refine zz ?_
  refine loopJ [] (fun kq fr hp => ∃ (x0 : List S99) (x1 : Int) (x5 : Int), run laws_szPlaceS.B kq (.l0 x0 x1 x5) = some r ∧ (∃ fr0, fr = puts [(0, .one (.val (.row (x0.map e99)))), (1, .one (.val (.int .i64 x1))), (5, .one (.val (.int .i64 x5)))] fr0) ∧ hp = (fun _ => none)) k ⟨_, zfuel, _, _, _, h, leafFr [0, 1, 5] (by kernel_rfl), by kernel_rfl⟩ ?_
  clear h; rintro k hle _ _ ⟨x0, x1, x5, h, ⟨fr0, rfl⟩, rfl⟩
  rcases k with _ | k
  · exact (run_zero h).elim
  rw [run_succ, laws_szPlaceS.B] at h
  refine zz ?_
  refine br (iP h) ?_ ?_ <;> (clear h; intro c h)
  rotate_left
  · replace h := evR h; cases h
    refine zz ?_
    first | exact ⟨trivial, [], [], ⟨rfl, trivial⟩, _, rfl, _, rfl, And.intro rfl rfl⟩ | exact ⟨[], [], ⟨rfl, trivial⟩, _, rfl, _, rfl, And.intro rfl rfl⟩
  have h_ := gP h; clear h; obtain ⟨c, h⟩ := h_
  have h_ := evO h; clear h; obtain ⟨t23, ht, h⟩ := h_
  refine zz ?_
  refine Exists.intro _ (And.intro (laws_szPlace_ev (h := ht)) ?_)
  refine zz ?_
  refine br (iP h) ?_ ?_ <;> (clear h; intro c h)
  · replace h := evR h; cases h
    refine zz ?_
    first | exact ⟨trivial, [], [], ⟨rfl, trivial⟩, _, rfl, _, rfl, And.intro rfl rfl⟩ | exact ⟨[], [], ⟨rfl, trivial⟩, _, rfl, _, rfl, And.intro rfl rfl⟩
  replace h := evT h
  refine zz ?_
  exact ⟨_, zfuel, _, _, _, h, leafFr [0, 1, 5] (by kernel_rfl), by kernel_rfl⟩
theorem laws_toPlace_ev (a0_0 : Int) (a0_1 : Int) (a0_2 : ByteArray) (a0_3 : Bool) (a0_4 : Int) (a0_5 : Int) (r1 : Int) (r2 : Int) (r3 : ByteArray) (r4 : Bool) (r5 : Int) (r6 : Int) (h : laws_toPlace.f a0_0 a0_1 a0_2 a0_3 a0_4 a0_5 = some (r1, r2, r3, r4, r5, r6)) : CE G 67 [.val (.agg [.int .i64 a0_0, .int .i64 a0_1, .str a0_2, .bool a0_3, .int .i64 a0_4, .int .i64 a0_5])] [] [.val (.agg [.int .i64 r1, .int .i64 r2, .str r3, .bool r4, .int .i64 r5, .int .i64 r6])] [] := by
  refine CE.mk ⟨Try.f67, _, rfl, rfl, ⟨by kernel_rfl, Nat.le_of_ble_eq_true rfl, Nat.le_of_ble_eq_true rfl⟩, ?_⟩
  rw [laws_toPlace.f] at h
  cases h
  refine zz ?_
  first | exact ⟨trivial, [], [], ⟨rfl, trivial⟩, _, rfl, _, rfl, And.intro rfl rfl⟩ | exact ⟨[], [], ⟨rfl, trivial⟩, _, rfl, _, rfl, And.intro rfl rfl⟩
theorem laws_toPlaceS_ev (l0 : List S99) (r : List S82) (h : laws_toPlaceS.fv l0 = some r) : CE G 24 [.val (.row (l0.map e99))] [] [.ref 16 0] [.own 82 6 (r.map e82) 0 false] := by
  obtain ⟨k, h⟩ := lim_ex h
  refine CE.mk ⟨Try.f24, _, rfl, rfl, ⟨by kernel_rfl, Nat.le_of_ble_eq_true rfl, Nat.le_of_ble_eq_true rfl⟩, ?_⟩
  rcases k with _ | k
  · exact (run_zero h).elim
  rw [run_succ, laws_toPlaceS.B] at h
  have h_ := gP h; clear h; obtain ⟨c, h⟩ := h_
  have h_ := gP h; clear h; obtain ⟨c, h⟩ := h_
  refine zz ?_
  refine Exists.intro (List.map e82 (List.replicate ((l0.length : Int) : Int).toNat z82)) (And.intro zrow ?_)
  replace h := evT h
  refine zz ?_
  refine loopJ [530] (fun kq fr hp => ∃ (x0 : List S99) (x3 : List S82) (x4 : Int) (g530 : Nat), run laws_toPlaceS.B kq (.l0 x0 x3 x4) = some r ∧ (∃ fr0, fr = puts [(0, .one (.val (.row (x0.map e99)))), (3, .one (.ref 530 g530)), (4, .one (.val (.int .i64 x4)))] fr0) ∧ hp = (upd 530 (.own 82 6 (x3.map e82) g530 false) (fun _ => none))) k ⟨_, zfuel, _, _, _, 0, h, leafFr [0, 3, 4] (by kernel_rfl), by kernel_rfl⟩ ?_
  clear h; rintro k hle _ _ ⟨x0, x3, x4, g530, h, ⟨fr0, rfl⟩, rfl⟩
  rcases k with _ | k
  · exact (run_zero h).elim
  rw [run_succ, laws_toPlaceS.B] at h
  refine zz ?_
  refine br (iP h) ?_ ?_ <;> (clear h; intro c h)
  rotate_left
  · replace h := evR h; cases h
    refine zz ?_
    first | refine ⟨trivial, [530], [(530, g530, 0)], ⟨rfl, ⟨trivial, trivial⟩⟩, _, rfl, _, rfl, ?_⟩ | refine ⟨[530], [(530, g530, 0)], ⟨rfl, ⟨trivial, trivial⟩⟩, _, rfl, _, rfl, ?_⟩
    repeat' (first | (refine And.intro ?_ ?_) | rfl)
  have h_ := gP h; clear h; obtain ⟨c, h⟩ := h_
  have h_ := evO h; clear h; obtain ⟨t20, ht, h⟩ := h_
  refine zz ?_
  refine Exists.intro _ (And.intro (laws_toPlace_ev (h := ht)) ?_)
  have h_ := gP h; clear h; obtain ⟨c, h⟩ := h_
  refine zz ?_
  refine Exists.intro (List.map e82 (x3.set (x4 : Int).toNat (⟨t20.1, t20.2.1, t20.2.2.1, t20.2.2.2.1, t20.2.2.2.2.1, t20.2.2.2.2.2⟩ : S82))) (And.intro zrow ?_)
  replace h := evT h
  refine zz ?_
  exact ⟨_, zfuel, _, _, _, g530, h, leafFr [0, 3, 4] (by kernel_rfl), by kernel_rfl⟩
theorem laws_toIntS_ev (l0 : List Int) (r : List Int) (h : laws_toIntS.fv l0 = some r) : CE G 25 [.val (.row (l0.map (VV.int .i64)))] [] [.ref 16 0] [.own 3 1 (r.map (VV.int .i64)) 0 false] := by
  obtain ⟨k, h⟩ := lim_ex h
  refine CE.mk ⟨Try.f25, _, rfl, rfl, ⟨by kernel_rfl, Nat.le_of_ble_eq_true rfl, Nat.le_of_ble_eq_true rfl⟩, ?_⟩
  rcases k with _ | k
  · exact (run_zero h).elim
  rw [run_succ, laws_toIntS.B] at h
  have h_ := gP h; clear h; obtain ⟨c, h⟩ := h_
  have h_ := gP h; clear h; obtain ⟨c, h⟩ := h_
  refine zz ?_
  refine Exists.intro (List.map (VV.int .i64) (List.replicate ((l0.length : Int) : Int).toNat (0 : Int))) (And.intro zrow ?_)
  replace h := evT h
  refine zz ?_
  refine loopJ [530] (fun kq fr hp => ∃ (x0 : List Int) (x3 : List Int) (x4 : Int) (g530 : Nat), run laws_toIntS.B kq (.l0 x0 x3 x4) = some r ∧ (∃ fr0, fr = puts [(0, .one (.val (.row (x0.map (VV.int .i64))))), (3, .one (.ref 530 g530)), (4, .one (.val (.int .i64 x4)))] fr0) ∧ hp = (upd 530 (.own 3 1 (x3.map (VV.int .i64)) g530 false) (fun _ => none))) k ⟨_, zfuel, _, _, _, 0, h, leafFr [0, 3, 4] (by kernel_rfl), by kernel_rfl⟩ ?_
  clear h; rintro k hle _ _ ⟨x0, x3, x4, g530, h, ⟨fr0, rfl⟩, rfl⟩
  rcases k with _ | k
  · exact (run_zero h).elim
  rw [run_succ, laws_toIntS.B] at h
  refine zz ?_
  refine br (iP h) ?_ ?_ <;> (clear h; intro c h)
  rotate_left
  · replace h := evR h; cases h
    refine zz ?_
    first | refine ⟨trivial, [530], [(530, g530, 0)], ⟨rfl, ⟨trivial, trivial⟩⟩, _, rfl, _, rfl, ?_⟩ | refine ⟨[530], [(530, g530, 0)], ⟨rfl, ⟨trivial, trivial⟩⟩, _, rfl, _, rfl, ?_⟩
    repeat' (first | (refine And.intro ?_ ?_) | rfl)
  have h_ := gP h; clear h; obtain ⟨c, h⟩ := h_
  have h_ := gP h; clear h; obtain ⟨c, h⟩ := h_
  refine zz ?_
  refine Exists.intro (List.map (VV.int .i64) (x3.set (x4 : Int).toNat (rdOf (0 : Int) x0 x4))) (And.intro zrow ?_)
  replace h := evT h
  refine zz ?_
  exact ⟨_, zfuel, _, _, _, g530, h, leafFr [0, 3, 4] (by kernel_rfl), by kernel_rfl⟩
theorem spec_l4Close_ev {n0 : Nat} (l0 : List S82) (l1 : List Bool) (a2 : Int) (a3 : Bool) (a4 : Bool) (r : List Bool) (h : spec_l4Close.fv l0 l1 a2 a3 a4 = some r) : CE G 66 [.val (.row (l0.map e82)), .ref 0 n0, .val (.int .i64 a2), .val (.bool a3), .val (.bool a4)] [.own 4 1 (l1.map VV.bool) n0 false] [] [.own 4 1 (r.map VV.bool) n0 false] := by
  obtain ⟨k, h⟩ := lim_ex h
  refine CE.mk ⟨Try.f66, _, rfl, rfl, ⟨by kernel_rfl, Nat.le_of_ble_eq_true rfl, Nat.le_of_ble_eq_true rfl⟩, ?_⟩
  rcases k with _ | k
  · exact (run_zero h).elim
  rw [run_succ, spec_l4Close.B] at h
  refine zz ?_
  refine Exists.intro (List.map (VV.int .i64) ([a2] : List Int)) (And.intro zrow ?_)
  replace h := evT h
  refine zz ?_
  refine loopJ [0, 17] (fun kq fr hp => ∃ (x0 : List S82) (x1 : List Bool) (x3 : Bool) (x4 : Bool) (x10 : List Int) (g17 : Nat), run spec_l4Close.B kq (.l0 x0 x1 x3 x4 x10) = some r ∧ (∃ fr0, fr = puts [(0, .one (.val (.row (x0.map e82)))), (1, .one (.ref 0 n0)), (3, .one (.val (.bool x3))), (4, .one (.val (.bool x4))), (10, .one (.ref 17 g17))] fr0) ∧ hp = (upd 0 (.own 4 1 (x1.map VV.bool) n0 false) (upd 17 (.own 3 1 (x10.map (VV.int .i64)) g17 false) (fun _ => none)))) k ⟨_, zfuel, _, _, _, _, _, 0, h, leafFr [0, 1, 3, 4, 10] (by kernel_rfl), by kernel_rfl⟩ ?_
  clear h; rintro k hle _ _ ⟨x0, x1, x3, x4, x10, g17, h, ⟨fr0, rfl⟩, rfl⟩
  rcases k with _ | k
  · exact (run_zero h).elim
  rw [run_succ, spec_l4Close.B] at h
  refine zz ?_
  refine br (iP h) ?_ ?_ <;> (clear h; intro c h)
  rotate_left
  · replace h := evR h; cases h
    refine zz ?_
    first | refine ⟨trivial, [], [], ⟨rfl, trivial⟩, _, rfl, _, rfl, ?_⟩ | refine ⟨[], [], ⟨rfl, trivial⟩, _, rfl, _, rfl, ?_⟩
    repeat' (first | (refine And.intro ?_ ?_) | rfl)
  have h_ := gP h; clear h; obtain ⟨c, h⟩ := h_
  have h_ := gP h; clear h; obtain ⟨c, h⟩ := h_
  have h_ := gP h; clear h; obtain ⟨c, h⟩ := h_
  refine zz ?_
  refine Exists.intro (List.map (VV.int .i64) (x10.take ((wrap64 ((x10.length : Int) - 1)) : Int).toNat)) (And.intro zrow ?_)
  refine zz ?_
  refine cutJ (n := 42) [0, 17] (fun fr hp => ∃ kq, kq ≤ k ∧ ∃ (x0 : List S82) (x1 : List Bool) (x3 : Bool) (x4 : Bool) (x10 : List Int) (x11 : Int) (g17 : Nat), run spec_l4Close.B kq (.j0 x0 x1 x3 x4 x10 x11) = some r ∧ (∃ fr0, fr = puts [(0, .one (.val (.row (x0.map e82)))), (1, .one (.ref 0 n0)), (3, .one (.val (.bool x3))), (4, .one (.val (.bool x4))), (10, .one (.ref 17 g17)), (11, .one (.val (.int .i64 x11)))] fr0) ∧ hp = (upd 0 (.own 4 1 (x1.map VV.bool) n0 false) (upd 17 (.own 3 1 (x10.map (VV.int .i64)) g17 false) (fun _ => none)))) ?_ ?_
  · refine zz ?_
    refine cutJ (n := 200004) [0, 17] (fun fr hp => ∃ kq, kq ≤ k ∧ ∃ (x0 : List S82) (x1 : List Bool) (x3 : Bool) (x4 : Bool) (x10 : List Int) (x11 : Int) (x42 : Bool) (g17 : Nat), run spec_l4Close.B kq (.j1 x0 x1 x3 x4 x10 x11 x42) = some r ∧ (∃ fr0, fr = puts [(0, .one (.val (.row (x0.map e82)))), (1, .one (.ref 0 n0)), (3, .one (.val (.bool x3))), (4, .one (.val (.bool x4))), (10, .one (.ref 17 g17)), (11, .one (.val (.int .i64 x11))), (42, .one (.val (.bool x42)))] fr0) ∧ hp = (upd 0 (.own 4 1 (x1.map VV.bool) n0 false) (upd 17 (.own 3 1 (x10.map (VV.int .i64)) g17 false) (fun _ => none)))) ?_ ?_
    · refine zz ?_
      refine brW (iP h) ?_ ?_ <;> (clear h; intro c h)
      rotate_left
      · refine zz ?_
        try (apply Or.inr; refine And.intro (by first | rfl | exact zboolK) ?_)
        refine zz ?_
        try (apply Or.inl; refine And.intro (by first | rfl | exact zboolK) ?_)
        refine zz ?_
        try (apply Or.inr; refine And.intro (by first | rfl | exact zboolK) ?_)
        refine zz ?_
        try (apply Or.inr; refine And.intro (by first | rfl | exact zboolK) ?_)
        refine zz ?_
        try (apply Or.inr; refine And.intro (by first | rfl | exact zboolK) ?_)
        refine zz ?_
        try (apply Or.inr; refine And.intro (by first | rfl | exact zboolK) ?_)
        refine zz ?_
        try (apply Or.inl; refine And.intro (by first | rfl | exact zboolK) ?_)
        replace h := evT h
        refine zz ?_
        exact ⟨_, zfuel, _, _, _, _, _, _, _, (g17 + 1), h, leafFr [0, 1, 3, 4, 10, 11, 42] (by kernel_rfl), by kernel_rfl⟩
      refine zz ?_
      try (apply Or.inl; refine And.intro (by first | rfl | exact zboolK) ?_)
      refine zz ?_
      try (apply Or.inr; refine And.intro (by first | rfl | exact zboolK) ?_)
      refine zz ?_
      refine brW (iP h) ?_ ?_ <;> (clear h; intro c h)
      rotate_left
      · refine zz ?_
        try (apply Or.inr; refine And.intro (by first | rfl | exact zboolK) ?_)
        refine zz ?_
        try (apply Or.inr; refine And.intro (by first | rfl | exact zboolK) ?_)
        refine zz ?_
        try (apply Or.inr; refine And.intro (by first | rfl | exact zboolK) ?_)
        refine zz ?_
        try (apply Or.inl; refine And.intro (by first | rfl | exact zboolK) ?_)
        replace h := evT h
        refine zz ?_
        exact ⟨_, zfuel, _, _, _, _, _, _, _, (g17 + 1), h, leafFr [0, 1, 3, 4, 10, 11, 42] (by kernel_rfl), by kernel_rfl⟩
      refine zz ?_
      try (apply Or.inl; refine And.intro (by first | rfl | exact zboolK) ?_)
      refine zz ?_
      try (apply Or.inl; refine And.intro (by first | rfl | exact zboolK) ?_)
      have h_ := gP h; clear h; obtain ⟨c, h⟩ := h_
      have h_ := gP h; clear h; obtain ⟨c, h⟩ := h_
      refine zz ?_
      try (apply Or.inl; refine And.intro (by first | rfl | exact zboolK) ?_)
      refine zz ?_
      try (apply Or.inr; refine And.intro (by first | rfl | exact zboolK) ?_)
      replace h := evT h
      refine zz ?_
      exact ⟨_, zfuel, _, _, _, _, _, _, _, (g17 + 1), h, leafFr [0, 1, 3, 4, 10, 11, 42] (by kernel_rfl), by kernel_rfl⟩
    clear h; rintro _ _ ⟨k, hle, x0, x1, x3, x4, x10, x11, x42, g17, h, ⟨fr0, rfl⟩, rfl⟩
    rcases k with _ | k
    · exact (run_zero h).elim
    rw [run_succ, spec_l4Close.B] at h
    refine zz ?_
    refine br (iP h) ?_ ?_ <;> (clear h; intro c h)
    · replace h := evT h
      refine zz ?_
      exact ⟨_, zfuel, _, _, _, _, _, g17, h, leafFr [0, 1, 3, 4, 10] (by kernel_rfl), by kernel_rfl⟩
    replace h := evT h
    refine zz ?_
    exact ⟨_, zfuel, _, _, _, _, _, _, g17, h, leafFr [0, 1, 3, 4, 10, 11] (by kernel_rfl), by kernel_rfl⟩
  clear h; rintro _ _ ⟨k, hle, x0, x1, x3, x4, x10, x11, g17, h, ⟨fr0, rfl⟩, rfl⟩
  rcases k with _ | k
  · exact (run_zero h).elim
  rw [run_succ, spec_l4Close.B] at h
  have h_ := gP h; clear h; obtain ⟨c, h⟩ := h_
  have h_ := gP h; clear h; obtain ⟨c, h⟩ := h_
  refine zz ?_
  refine Exists.intro (List.map VV.bool (x1.set (x11 : Int).toNat true)) (And.intro zrow ?_)
  have h_ := gP h; clear h; obtain ⟨c, h⟩ := h_
  refine zz ?_
  refine br (iP h) ?_ ?_ <;> (clear h; intro c h)
  · refine zz ?_
    refine Exists.intro (List.map (VV.int .i64) ([(rd_T82 x0 x11).f4] : List Int)) (And.intro zrow ?_)
    have h_ := gP h; clear h; obtain ⟨c, h⟩ := h_
    refine zz ?_
    refine Exists.intro (List.map (VV.int .i64) (x10 ++ [(rd_T82 x0 x11).f4])) (And.intro zrow ?_)
    replace h := evT h
    refine zz ?_
    exact ⟨_, zfuel, _, _, _, _, _, (g17 + 1), h, leafFr [0, 1, 3, 4, 10] (by kernel_rfl), by kernel_rfl⟩
  refine zz ?_
  refine br (iP h) ?_ ?_ <;> (clear h; intro c h)
  · refine zz ?_
    refine Exists.intro (List.map (VV.int .i64) ([(rd_T82 x0 x11).f4, (rd_T82 x0 x11).f5] : List Int)) (And.intro zrow ?_)
    have h_ := gP h; clear h; obtain ⟨c, h⟩ := h_
    refine zz ?_
    refine Exists.intro (List.map (VV.int .i64) (x10 ++ [(rd_T82 x0 x11).f4, (rd_T82 x0 x11).f5])) (And.intro zrow ?_)
    replace h := evT h
    refine zz ?_
    exact ⟨_, zfuel, _, _, _, _, _, (g17 + 1), h, leafFr [0, 1, 3, 4, 10] (by kernel_rfl), by kernel_rfl⟩
  refine zz ?_
  refine br (iP h) ?_ ?_ <;> (clear h; intro c h)
  · refine zz ?_
    refine br (iP h) ?_ ?_ <;> (clear h; intro c h)
    rotate_left
    · replace h := evT h
      refine zz ?_
      exact ⟨_, zfuel, _, _, _, _, _, g17, h, leafFr [0, 1, 3, 4, 10] (by kernel_rfl), by kernel_rfl⟩
    refine zz ?_
    refine Exists.intro (List.map (VV.int .i64) ([(wrap64 (x11 + 1))] : List Int)) (And.intro zrow ?_)
    have h_ := gP h; clear h; obtain ⟨c, h⟩ := h_
    refine zz ?_
    refine Exists.intro (List.map (VV.int .i64) (x10 ++ [(wrap64 (x11 + 1))])) (And.intro zrow ?_)
    replace h := evT h
    refine zz ?_
    exact ⟨_, zfuel, _, _, _, _, _, (g17 + 1), h, leafFr [0, 1, 3, 4, 10] (by kernel_rfl), by kernel_rfl⟩
  refine zz ?_
  refine br (iP h) ?_ ?_ <;> (clear h; intro c h)
  rotate_left
  · replace h := evT h
    refine zz ?_
    exact ⟨_, zfuel, _, _, _, _, _, g17, h, leafFr [0, 1, 3, 4, 10] (by kernel_rfl), by kernel_rfl⟩
  refine zz ?_
  refine br (iP h) ?_ ?_ <;> (clear h; intro c h)
  rotate_left
  · replace h := evT h
    refine zz ?_
    exact ⟨_, zfuel, _, _, _, _, _, g17, h, leafFr [0, 1, 3, 4, 10] (by kernel_rfl), by kernel_rfl⟩
  refine zz ?_
  refine Exists.intro (List.map (VV.int .i64) ([(wrap64 (x11 + 1))] : List Int)) (And.intro zrow ?_)
  have h_ := gP h; clear h; obtain ⟨c, h⟩ := h_
  refine zz ?_
  refine Exists.intro (List.map (VV.int .i64) (x10 ++ [(wrap64 (x11 + 1))])) (And.intro zrow ?_)
  replace h := evT h
  refine zz ?_
  exact ⟨_, zfuel, _, _, _, _, _, (g17 + 1), h, leafFr [0, 1, 3, 4, 10] (by kernel_rfl), by kernel_rfl⟩
theorem spec_l4List_ev (l0 : List Bool) (r : List Int) (h : spec_l4List.fv l0 = some r) : CE G 51 [.val (.row (l0.map VV.bool))] [] [.val (.row (r.map (VV.int .i64)))] [] := by
  obtain ⟨k, h⟩ := lim_ex h
  refine CE.mk ⟨Try.f51, _, rfl, rfl, ⟨by kernel_rfl, Nat.le_of_ble_eq_true rfl, Nat.le_of_ble_eq_true rfl⟩, ?_⟩
  rcases k with _ | k
  · exact (run_zero h).elim
  rw [run_succ, spec_l4List.B] at h
  refine zz ?_
  refine Exists.intro (List.map (VV.int .i64) ([] : List Int)) (And.intro zrow ?_)
  replace h := evT h
  refine zz ?_
  refine loopJ [528] (fun kq fr hp => ∃ (x0 : List Bool) (x3 : List Int) (x4 : Int) (g528 : Nat), run spec_l4List.B kq (.l0 x0 x3 x4) = some r ∧ (∃ fr0, fr = puts [(0, .one (.val (.row (x0.map VV.bool)))), (3, .one (.ref 528 g528)), (4, .one (.val (.int .i64 x4)))] fr0) ∧ hp = (upd 528 (.own 3 1 (x3.map (VV.int .i64)) g528 false) (fun _ => none))) k ⟨_, zfuel, _, _, _, 0, h, leafFr [0, 3, 4] (by kernel_rfl), by kernel_rfl⟩ ?_
  clear h; rintro k hle _ _ ⟨x0, x3, x4, g528, h, ⟨fr0, rfl⟩, rfl⟩
  rcases k with _ | k
  · exact (run_zero h).elim
  rw [run_succ, spec_l4List.B] at h
  refine zz ?_
  refine br (iP h) ?_ ?_ <;> (clear h; intro c h)
  rotate_left
  · replace h := evR h; cases h
    refine zz ?_
    first | exact ⟨trivial, [], [], ⟨rfl, trivial⟩, _, rfl, _, rfl, And.intro rfl rfl⟩ | exact ⟨[], [], ⟨rfl, trivial⟩, _, rfl, _, rfl, And.intro rfl rfl⟩
  have h_ := gP h; clear h; obtain ⟨c, h⟩ := h_
  refine zz ?_
  refine br (iP h) ?_ ?_ <;> (clear h; intro c h)
  rotate_left
  · replace h := evT h
    refine zz ?_
    exact ⟨_, zfuel, _, _, _, g528, h, leafFr [0, 3, 4] (by kernel_rfl), by kernel_rfl⟩
  refine zz ?_
  refine Exists.intro (List.map (VV.int .i64) ([x4] : List Int)) (And.intro zrow ?_)
  have h_ := gP h; clear h; obtain ⟨c, h⟩ := h_
  refine zz ?_
  refine Exists.intro (List.map (VV.int .i64) (x3 ++ [x4])) (And.intro zrow ?_)
  replace h := evT h
  refine zz ?_
  exact ⟨_, zfuel, _, _, _, (g528 + 1), h, leafFr [0, 3, 4] (by kernel_rfl), by kernel_rfl⟩
theorem spec_Closure_ev (l0 : List S82) (l1 : List Int) (a2 : Bool) (a3 : Bool) (r : List Int) (h : spec_Closure.fv l0 l1 a2 a3 = some r) : CE G 23 [.val (.row (l0.map e82)), .val (.row (l1.map (VV.int .i64))), .val (.bool a2), .val (.bool a3)] [] [.val (.row (r.map (VV.int .i64)))] [] := by
  obtain ⟨k, h⟩ := lim_ex h
  refine CE.mk ⟨Try.f23, _, rfl, rfl, ⟨by kernel_rfl, Nat.le_of_ble_eq_true rfl, Nat.le_of_ble_eq_true rfl⟩, ?_⟩
  rcases k with _ | k
  · exact (run_zero h).elim
  rw [run_succ, spec_Closure.B] at h
  have h_ := gP h; clear h; obtain ⟨c, h⟩ := h_
  have h_ := gP h; clear h; obtain ⟨c, h⟩ := h_
  refine zz ?_
  refine Exists.intro (List.map VV.bool (List.replicate ((l0.length : Int) : Int).toNat false)) (And.intro zrow ?_)
  replace h := evT h
  refine zz ?_
  refine loopJ [530] (fun kq fr hp => ∃ (x0 : List S82) (x1 : List Int) (x2 : Bool) (x3 : Bool) (x9 : List Bool) (x10 : Int) (g530 : Nat), run spec_Closure.B kq (.l0 x0 x1 x2 x3 x9 x10) = some r ∧ (∃ fr0, fr = puts [(0, .one (.val (.row (x0.map e82)))), (1, .one (.val (.row (x1.map (VV.int .i64))))), (2, .one (.val (.bool x2))), (3, .one (.val (.bool x3))), (9, .one (.ref 530 g530)), (10, .one (.val (.int .i64 x10)))] fr0) ∧ hp = (upd 530 (.own 4 1 (x9.map VV.bool) g530 false) (fun _ => none))) k ⟨_, zfuel, _, _, _, _, _, _, 0, h, leafFr [0, 1, 2, 3, 9, 10] (by kernel_rfl), by kernel_rfl⟩ ?_
  clear h; rintro k hle _ _ ⟨x0, x1, x2, x3, x9, x10, g530, h, ⟨fr0, rfl⟩, rfl⟩
  rcases k with _ | k
  · exact (run_zero h).elim
  rw [run_succ, spec_Closure.B] at h
  refine zz ?_
  refine br (iP h) ?_ ?_ <;> (clear h; intro c h)
  rotate_left
  · have h_ := evO h; clear h; obtain ⟨t30, ht, h⟩ := h_
    refine zz ?_
    refine Exists.intro _ (And.intro (spec_l4List_ev (h := ht)) ?_)
    replace h := evR h; cases h
    refine zz ?_
    first | exact ⟨trivial, [], [], ⟨rfl, trivial⟩, _, rfl, _, rfl, And.intro rfl rfl⟩ | exact ⟨[], [], ⟨rfl, trivial⟩, _, rfl, _, rfl, And.intro rfl rfl⟩
  have h_ := gP h; clear h; obtain ⟨c, h⟩ := h_
  have h_ := evO h; clear h; obtain ⟨t28, ht, h⟩ := h_
  refine zz ?_
  refine Exists.intro _ (Exists.intro _ (And.intro (spec_l4Close_ev (h := ht)) ?_))
  replace h := evT h
  refine zz ?_
  exact ⟨_, zfuel, _, _, _, _, _, _, g530, h, leafFr [0, 1, 2, 3, 9, 10] (by kernel_rfl), by kernel_rfl⟩
theorem impl_in_ev (a0 : Int) (a1 : Int) (a2 : Int) (r : Bool) (h : impl_in.f a0 a1 a2 = some r) : CE G 46 [.val (.int .i64 a0), .val (.int .i64 a1), .val (.int .i64 a2)] [] [.val (.bool r)] [] := by
  refine CE.mk ⟨Try.f46, _, rfl, rfl, ⟨by kernel_rfl, Nat.le_of_ble_eq_true rfl, Nat.le_of_ble_eq_true rfl⟩, ?_⟩
  rw [impl_in.f] at h
  refine zz ?_
  refine br (iteS h) ?_ ?_ <;> (clear h; intro c h)
  · refine zz ?_
    try (apply Or.inl; refine And.intro (by first | rfl | exact zboolK) ?_)
    refine zz ?_
    try (apply Or.inl; refine And.intro (by first | rfl | exact zboolK) ?_)
    refine zz ?_
    try (apply Or.inl; refine And.intro (by first | rfl | exact zboolK) ?_)
    cases h
    refine zz ?_
    first | exact ⟨trivial, [], [], ⟨rfl, trivial⟩, _, rfl, _, rfl, And.intro rfl rfl⟩ | exact ⟨[], [], ⟨rfl, trivial⟩, _, rfl, _, rfl, And.intro rfl rfl⟩
  refine zz ?_
  try (apply Or.inr; refine And.intro (by first | rfl | exact zboolK) ?_)
  refine zz ?_
  try (apply Or.inr; refine And.intro (by first | rfl | exact zboolK) ?_)
  refine zz ?_
  try (apply Or.inr; refine And.intro (by first | rfl | exact zboolK) ?_)
  cases h
  refine zz ?_
  first | exact ⟨trivial, [], [], ⟨rfl, trivial⟩, _, rfl, _, rfl, And.intro rfl rfl⟩ | exact ⟨[], [], ⟨rfl, trivial⟩, _, rfl, _, rfl, And.intro rfl rfl⟩
theorem impl_Closure_1_ev {n0 : Nat} {n1 : Nat} {n2 : Nat} (a0 : Int) (l1_0 : List S82) (l2_0 : List Bool) (l3_0 : List Int) (r1 : List Bool) (r2 : List Int) (h : impl_Closure_1.fv a0 l1_0 l2_0 l3_0 = some (r1, r2)) : CE G 68 [.val (.int .i64 a0), .ptr 3 0, .ptr 4 0, .ptr 5 0] [.own 82 6 (l1_0.map e82) n0 false, .own 4 1 (l2_0.map VV.bool) n1 false, .own 3 1 (l3_0.map (VV.int .i64)) n2 false, .box [.ref 0 n0], .box [.ref 1 n1], .box [.ref 2 n2]] [] [.own 82 6 (l1_0.map e82) n0 false, .own 4 1 (r1.map VV.bool) n1 false, .own 3 1 (r2.map (VV.int .i64)) (n2 + 1) false, .box [.ref 0 n0], .box [.ref 1 n1], .box [.ref 2 (n2 + 1)]] := by
  obtain ⟨k, h⟩ := lim_ex h
  refine CE.mk ⟨Try.f68, _, rfl, rfl, ⟨by kernel_rfl, Nat.le_of_ble_eq_true rfl, Nat.le_of_ble_eq_true rfl⟩, ?_⟩
  rcases k with _ | k
  · exact (run_zero h).elim
  rw [run_succ, impl_Closure_1.B] at h
  refine zz ?_
  refine cutJ (n := 200000) [0, 1, 2, 3, 4, 5] (fun fr hp => ∃ kq, kq ≤ k ∧ ∃ (x0 : Int) (x16 : Bool) (y1 : List Bool) (y2 : List Int) (g2 : Nat), run impl_Closure_1.B kq (.j0 x0 x16 l1_0 y1 y2) = some (r1, r2) ∧ (∃ fr0, fr = puts [(0, .one (.val (.int .i64 x0))), (2, .one (.ptr 4 0)), (3, .one (.ptr 5 0)), (16, .one (.val (.bool x16)))] fr0) ∧ hp = (upd 0 (.own 82 6 (l1_0.map e82) n0 false) (upd 1 (.own 4 1 (y1.map VV.bool) n1 false) (upd 2 (.own 3 1 (y2.map (VV.int .i64)) g2 false) (upd 3 (.box [.ref 0 n0]) (upd 4 (.box [.ref 1 n1]) (upd 5 (.box [.ref 2 g2]) (fun _ => none)))))))) ?_ ?_
  · have h_ := evO h; clear h; obtain ⟨t9, ht, h⟩ := h_
    refine zz ?_
    refine Exists.intro _ (And.intro (impl_in_ev (h := ht)) ?_)
    refine zz ?_
    refine br (iP h) ?_ ?_ <;> (clear h; intro c h)
    rotate_left
    · refine zz ?_
      try (apply Or.inr; refine And.intro (by first | rfl | exact zboolK) ?_)
      refine zz ?_
      try (apply Or.inr; refine And.intro (by first | rfl | exact zboolK) ?_)
      refine zz ?_
      try (apply Or.inr; refine And.intro (by first | rfl | exact zboolK) ?_)
      refine zz ?_
      try (apply Or.inr; refine And.intro (by first | rfl | exact zboolK) ?_)
      refine zz ?_
      try (apply Or.inr; refine And.intro (by first | rfl | exact zboolK) ?_)
      replace h := evT h
      refine zz ?_
      exact ⟨_, zfuel, _, _, _, _, n2, h, leafFr [0, 2, 3, 16] (by kernel_rfl), by kernel_rfl⟩
    refine zz ?_
    try (apply Or.inl; refine And.intro (by first | rfl | exact zboolK) ?_)
    refine zz ?_
    try (apply Or.inl; refine And.intro (by first | rfl | exact zboolK) ?_)
    have h_ := gP h; clear h; obtain ⟨c, h⟩ := h_
    have h_ := gP h; clear h; obtain ⟨c, h⟩ := h_
    refine zz ?_
    try (apply Or.inl; refine And.intro (by first | rfl | exact zboolK) ?_)
    refine zz ?_
    try (apply Or.inl; refine And.intro (by first | rfl | exact zboolK) ?_)
    refine zz ?_
    try (apply Or.inl; refine And.intro (by first | rfl | exact zboolK) ?_)
    replace h := evT h
    refine zz ?_
    exact ⟨_, zfuel, _, _, _, _, n2, h, leafFr [0, 2, 3, 16] (by kernel_rfl), by kernel_rfl⟩
  clear h; rintro _ _ ⟨k, hle, x0, x16, y1, y2, g2, h, ⟨fr0, rfl⟩, rfl⟩
  rcases k with _ | k
  · exact (run_zero h).elim
  rw [run_succ, impl_Closure_1.B] at h
  refine zz ?_
  refine br (iP h) ?_ ?_ <;> (clear h; intro c h)
  rotate_left
  · replace h := evR h; cases h
    refine zz ?_
    first | refine ⟨trivial, [], [(2, g2, n2 + 1)], ⟨rfl, ⟨rfl, trivial⟩⟩, _, rfl, _, rfl, ?_⟩ | refine ⟨[], [(2, g2, n2 + 1)], ⟨rfl, ⟨rfl, trivial⟩⟩, _, rfl, _, rfl, ?_⟩
    repeat' (first | (refine And.intro ?_ ?_) | rfl)
  have h_ := gP h; clear h; obtain ⟨c, h⟩ := h_
  have h_ := gP h; clear h; obtain ⟨c, h⟩ := h_
  refine zz ?_
  refine Exists.intro (List.map VV.bool (y1.set (x0 : Int).toNat true)) (And.intro zrow ?_)
  refine zz ?_
  refine Exists.intro (List.map (VV.int .i64) ([x0] : List Int)) (And.intro zrow ?_)
  have h_ := gP h; clear h; obtain ⟨c, h⟩ := h_
  refine zz ?_
  refine Exists.intro (List.map (VV.int .i64) (y2 ++ [x0])) (And.intro zrow ?_)
  replace h := evR h; cases h
  refine zz ?_
  first | refine ⟨trivial, [], [(2, g2 + 1, n2 + 1)], ⟨rfl, ⟨rfl, trivial⟩⟩, _, rfl, _, rfl, ?_⟩ | refine ⟨[], [(2, g2 + 1, n2 + 1)], ⟨rfl, ⟨rfl, trivial⟩⟩, _, rfl, _, rfl, ?_⟩
  repeat' (first | (refine And.intro ?_ ?_) | rfl)
theorem impl_Closure_ev {n0 : Nat} {n1 : Nat} (l0 : List S82) (l1 : List Int) (a2 : Bool) (a3 : Bool) (r : List Int) (h : impl_Closure.fv l0 l1 a2 a3 = some r) : CE G 26 [.ref 0 n0, .ref 1 n1, .val (.bool a2), .val (.bool a3)] [.own 82 6 (l0.map e82) n0 false, .own 3 1 (l1.map (VV.int .i64)) n1 false] [.ref 16 0] [.own 82 6 (l0.map e82) n0 false, .own 3 1 (l1.map (VV.int .i64)) n1 false, .own 3 1 (r.map (VV.int .i64)) 0 false] := by
  obtain ⟨k, h⟩ := lim_ex h
  refine CE.mk ⟨Try.f26, _, rfl, rfl, ⟨by kernel_rfl, Nat.le_of_ble_eq_true rfl, Nat.le_of_ble_eq_true rfl⟩, ?_⟩
  rcases k with _ | k
  · exact (run_zero h).elim
  rw [run_succ, impl_Closure.B] at h
  have h_ := gP h; clear h; obtain ⟨c, h⟩ := h_
  have h_ := gP h; clear h; obtain ⟨c, h⟩ := h_
  refine zz ?_
  refine Exists.intro (List.map VV.bool (List.replicate ((l0.length : Int) : Int).toNat false)) (And.intro zrow ?_)
  refine zz ?_
  refine Exists.intro (List.map (VV.int .i64) ([] : List Int)) (And.intro zrow ?_)
  replace h := evT h
  refine zz ?_
  refine loopJ [0, 1, 16, 530, 531, 1040, 1041] (fun kq fr hp => ∃ (x2 : Bool) (x3 : Bool) (x23 : Int) (x24 : Int) (y530 : List Bool) (y1040 : List Int) (g530 : Nat) (g1040 : Nat), run impl_Closure.B kq (.l0 x2 x3 l1 x23 x24 l0 y530 y1040) = some r ∧ (∃ fr0, fr = puts [(2, .one (.val (.bool x2))), (3, .one (.val (.bool x3))), (4, .one (.ptr 16 0)), (10, .one (.ptr 1041 0)), (11, .one (.fn 68 [16, 531, 1041])), (22, .one (.ref 1 n1)), (23, .one (.val (.int .i64 x23))), (24, .one (.val (.int .i64 x24)))] fr0) ∧ hp = (upd 0 (.own 82 6 (l0.map e82) n0 false) (upd 1 (.own 3 1 (l1.map (VV.int .i64)) n1 false) (upd 16 (.box [.ref 0 n0]) (upd 530 (.own 4 1 (y530.map VV.bool) g530 false) (upd 531 (.box [.ref 530 g530]) (upd 1040 (.own 3 1 (y1040.map (VV.int .i64)) g1040 false) (upd 1041 (.box [.ref 1040 g1040]) (fun _ => none))))))))) k ⟨_, zfuel, _, _, _, _, _, _, 0, 0, h, leafFr [2, 3, 4, 10, 11, 22, 23, 24] (by kernel_rfl), by kernel_rfl⟩ ?_
  clear h; rintro k hle _ _ ⟨x2, x3, x23, x24, y530, y1040, g530, g1040, h, ⟨fr0, rfl⟩, rfl⟩
  rcases k with _ | k
  · exact (run_zero h).elim
  rw [run_succ, impl_Closure.B] at h
  refine zz ?_
  refine br (iP h) ?_ ?_ <;> (clear h; intro c h)
  · have h_ := gP h; clear h; obtain ⟨c, h⟩ := h_
    have h_ := gP h; clear h; obtain ⟨c, h⟩ := h_
    have h_ := evO h; clear h; obtain ⟨t30, ht, h⟩ := h_
    refine zz ?_
    refine Exists.intro _ (Exists.intro _ (And.intro (impl_Closure_1_ev (h := ht)) ?_))
    replace h := evT h
    refine zz ?_
    exact ⟨_, zfuel, _, _, _, _, _, _, g530, (g1040 + 1), h, leafFr [2, 3, 4, 10, 11, 22, 23, 24] (by kernel_rfl), by kernel_rfl⟩
  replace h := evT h
  refine zz ?_
  refine loopJ [0, 1, 16, 530, 531, 1040, 1041] (fun kq fr hp => ∃ (x2 : Bool) (x3 : Bool) (x14 : Int) (y530 : List Bool) (y1040 : List Int) (g530 : Nat) (g1040 : Nat), run impl_Closure.B kq (.l1 x2 x3 x14 l0 l1 y530 y1040) = some r ∧ (∃ fr0, fr = puts [(2, .one (.val (.bool x2))), (3, .one (.val (.bool x3))), (4, .one (.ptr 16 0)), (10, .one (.ptr 1041 0)), (11, .one (.fn 68 [16, 531, 1041])), (14, .one (.val (.int .i64 x14)))] fr0) ∧ hp = (upd 0 (.own 82 6 (l0.map e82) n0 false) (upd 1 (.own 3 1 (l1.map (VV.int .i64)) n1 false) (upd 16 (.box [.ref 0 n0]) (upd 530 (.own 4 1 (y530.map VV.bool) g530 false) (upd 531 (.box [.ref 530 g530]) (upd 1040 (.own 3 1 (y1040.map (VV.int .i64)) g1040 false) (upd 1041 (.box [.ref 1040 g1040]) (fun _ => none))))))))) k ⟨_, zfuel, _, _, _, _, _, g530, g1040, h, leafFr [2, 3, 4, 10, 11, 14] (by kernel_rfl), by kernel_rfl⟩ ?_
  clear h; rintro k hle _ _ ⟨x2, x3, x14, y530, y1040, g530, g1040, h, ⟨fr0, rfl⟩, rfl⟩
  rcases k with _ | k
  · exact (run_zero h).elim
  rw [run_succ, impl_Closure.B] at h
  refine zz ?_
  refine br (iP h) ?_ ?_ <;> (clear h; intro c h)
  rotate_left
  · have h_ := evO h; clear h; obtain ⟨t79, ht, h⟩ := h_
    refine zz ?_
    refine Exists.intro _ (Exists.intro _ (And.intro (orc69 (h := ht)) ?_))
    replace h := evR h; cases h
    refine zz ?_
    first | refine ⟨trivial, [1040], [(1040, g1040, 0)], ⟨rfl, ⟨trivial, trivial⟩⟩, _, rfl, _, rfl, ?_⟩ | refine ⟨[1040], [(1040, g1040, 0)], ⟨rfl, ⟨trivial, trivial⟩⟩, _, rfl, _, rfl, ?_⟩
    repeat' (first | (refine And.intro ?_ ?_) | rfl)
  have h_ := gP h; clear h; obtain ⟨c, h⟩ := h_
  have h_ := gP h; clear h; obtain ⟨c, h⟩ := h_
  have h_ := gP h; clear h; obtain ⟨c, h⟩ := h_
  refine zz ?_
  refine br (iP h) ?_ ?_ <;> (clear h; intro c h)
  · have h_ := evO h; clear h; obtain ⟨t53, ht, h⟩ := h_
    refine zz ?_
    refine Exists.intro _ (Exists.intro _ (And.intro (impl_Closure_1_ev (h := ht)) ?_))
    replace h := evT h
    refine zz ?_
    exact ⟨_, zfuel, _, _, _, _, _, g530, (g1040 + 1), h, leafFr [2, 3, 4, 10, 11, 14] (by kernel_rfl), by kernel_rfl⟩
  refine zz ?_
  refine br (iP h) ?_ ?_ <;> (clear h; intro c h)
  · have h_ := evO h; clear h; obtain ⟨t59, ht, h⟩ := h_
    refine zz ?_
    refine Exists.intro _ (Exists.intro _ (And.intro (impl_Closure_1_ev (h := ht)) ?_))
    have h_ := evO h; clear h; obtain ⟨t63, ht, h⟩ := h_
    refine zz ?_
    refine Exists.intro _ (Exists.intro _ (And.intro (impl_Closure_1_ev (h := ht)) ?_))
    replace h := evT h
    refine zz ?_
    exact ⟨_, zfuel, _, _, _, _, _, g530, (g1040 + 1 + 1), h, leafFr [2, 3, 4, 10, 11, 14] (by kernel_rfl), by kernel_rfl⟩
  refine zz ?_
  refine br (iP h) ?_ ?_ <;> (clear h; intro c h)
  · refine zz ?_
    refine br (iP h) ?_ ?_ <;> (clear h; intro c h)
    rotate_left
    · replace h := evT h
      refine zz ?_
      exact ⟨_, zfuel, _, _, _, _, _, g530, g1040, h, leafFr [2, 3, 4, 10, 11, 14] (by kernel_rfl), by kernel_rfl⟩
    have h_ := evO h; clear h; obtain ⟨t70, ht, h⟩ := h_
    refine zz ?_
    refine Exists.intro _ (Exists.intro _ (And.intro (impl_Closure_1_ev (h := ht)) ?_))
    replace h := evT h
    refine zz ?_
    exact ⟨_, zfuel, _, _, _, _, _, g530, (g1040 + 1), h, leafFr [2, 3, 4, 10, 11, 14] (by kernel_rfl), by kernel_rfl⟩
  refine zz ?_
  refine br (iP h) ?_ ?_ <;> (clear h; intro c h)
  rotate_left
  · replace h := evT h
    refine zz ?_
    exact ⟨_, zfuel, _, _, _, _, _, g530, g1040, h, leafFr [2, 3, 4, 10, 11, 14] (by kernel_rfl), by kernel_rfl⟩
  refine zz ?_
  refine br (iP h) ?_ ?_ <;> (clear h; intro c h)
  rotate_left
  · replace h := evT h
    refine zz ?_
    exact ⟨_, zfuel, _, _, _, _, _, g530, g1040, h, leafFr [2, 3, 4, 10, 11, 14] (by kernel_rfl), by kernel_rfl⟩
  have h_ := evO h; clear h; obtain ⟨t77, ht, h⟩ := h_
  refine zz ?_
  refine Exists.intro _ (Exists.intro _ (And.intro (impl_Closure_1_ev (h := ht)) ?_))
  replace h := evT h
  refine zz ?_
  exact ⟨_, zfuel, _, _, _, _, _, g530, (g1040 + 1), h, leafFr [2, 3, 4, 10, 11, 14] (by kernel_rfl), by kernel_rfl⟩
theorem laws_eqIntS_ev {n0 : Nat} (l0 : List Int) (l1 : List Int) (r : Bool) (h : laws_eqIntS.fv l0 l1 = some r) : CE G 27 [.ref 0 n0, .val (.row (l1.map (VV.int .i64)))] [.own 3 1 (l0.map (VV.int .i64)) n0 false] [.val (.bool r)] [.own 3 1 (l0.map (VV.int .i64)) n0 false] := by
  obtain ⟨k, h⟩ := lim_ex h
  refine CE.mk ⟨Try.f27, _, rfl, rfl, ⟨by kernel_rfl, Nat.le_of_ble_eq_true rfl, Nat.le_of_ble_eq_true rfl⟩, ?_⟩
  rcases k with _ | k
  · exact (run_zero h).elim
  rw [run_succ, laws_eqIntS.B] at h
  refine zz ?_
  refine brN (iP h) ?_ ?_ <;> (clear h; intro c h)
  · replace h := evR h; cases h
    refine zz ?_
    first | refine ⟨trivial, [], [], ⟨rfl, trivial⟩, _, rfl, _, rfl, ?_⟩ | refine ⟨[], [], ⟨rfl, trivial⟩, _, rfl, _, rfl, ?_⟩
    repeat' (first | (refine And.intro ?_ ?_) | rfl)
  replace h := evT h
  refine zz ?_
  refine loopJ [0] (fun kq fr hp => ∃ (x1 : List Int) (x5 : Int), run laws_eqIntS.B kq (.l0 l0 x1 x5) = some r ∧ (∃ fr0, fr = puts [(0, .one (.ref 0 n0)), (1, .one (.val (.row (x1.map (VV.int .i64))))), (5, .one (.val (.int .i64 x5)))] fr0) ∧ hp = (upd 0 (.own 3 1 (l0.map (VV.int .i64)) n0 false) (fun _ => none))) k ⟨_, zfuel, _, _, h, leafFr [0, 1, 5] (by kernel_rfl), by kernel_rfl⟩ ?_
  clear h; rintro k hle _ _ ⟨x1, x5, h, ⟨fr0, rfl⟩, rfl⟩
  rcases k with _ | k
  · exact (run_zero h).elim
  rw [run_succ, laws_eqIntS.B] at h
  refine zz ?_
  refine br (iP h) ?_ ?_ <;> (clear h; intro c h)
  rotate_left
  · replace h := evR h; cases h
    refine zz ?_
    first | refine ⟨trivial, [], [], ⟨rfl, trivial⟩, _, rfl, _, rfl, ?_⟩ | refine ⟨[], [], ⟨rfl, trivial⟩, _, rfl, _, rfl, ?_⟩
    repeat' (first | (refine And.intro ?_ ?_) | rfl)
  have h_ := gP h; clear h; obtain ⟨c, h⟩ := h_
  have h_ := gP h; clear h; obtain ⟨c, h⟩ := h_
  refine zz ?_
  refine brN (iP h) ?_ ?_ <;> (clear h; intro c h)
  · replace h := evR h; cases h
    refine zz ?_
    first | refine ⟨trivial, [], [], ⟨rfl, trivial⟩, _, rfl, _, rfl, ?_⟩ | refine ⟨[], [], ⟨rfl, trivial⟩, _, rfl, _, rfl, ?_⟩
    repeat' (first | (refine And.intro ?_ ?_) | rfl)
  replace h := evT h
  refine zz ?_
  exact ⟨_, zfuel, _, _, h, leafFr [0, 1, 5] (by kernel_rfl), by kernel_rfl⟩
theorem laws_eqPlace_ev (a0_0 : Int) (a0_1 : Int) (a0_2 : ByteArray) (a0_3 : Bool) (a0_4 : Int) (a0_5 : Int) (a1_0 : Int) (a1_1 : Int) (a1_2 : ByteArray) (a1_3 : Bool) (a1_4 : Int) (a1_5 : Int) (r : Bool) (h : laws_eqPlace.f a0_0 a0_1 a0_2 a0_3 a0_4 a0_5 a1_0 a1_1 a1_2 a1_3 a1_4 a1_5 = some r) : CE G 70 [.val (.agg [.int .i64 a0_0, .int .i64 a0_1, .str a0_2, .bool a0_3, .int .i64 a0_4, .int .i64 a0_5]), .val (.agg [.int .i64 a1_0, .int .i64 a1_1, .str a1_2, .bool a1_3, .int .i64 a1_4, .int .i64 a1_5])] [] [.val (.bool r)] [] := by
  refine CE.mk ⟨Try.f70, _, rfl, rfl, ⟨by kernel_rfl, Nat.le_of_ble_eq_true rfl, Nat.le_of_ble_eq_true rfl⟩, ?_⟩
  rw [laws_eqPlace.f] at h
  refine zz ?_
  refine brN (iteS h) ?_ ?_ <;> (clear h; intro c h)
  · cases h
    refine zz ?_
    first | exact ⟨trivial, [], [], ⟨rfl, trivial⟩, _, rfl, _, rfl, And.intro rfl rfl⟩ | exact ⟨[], [], ⟨rfl, trivial⟩, _, rfl, _, rfl, And.intro rfl rfl⟩
  refine zz ?_
  refine brN (iteS h) ?_ ?_ <;> (clear h; intro c h)
  · cases h
    refine zz ?_
    first | exact ⟨trivial, [], [], ⟨rfl, trivial⟩, _, rfl, _, rfl, And.intro rfl rfl⟩ | exact ⟨[], [], ⟨rfl, trivial⟩, _, rfl, _, rfl, And.intro rfl rfl⟩
  refine zz ?_
  refine brN (iteS h) ?_ ?_ <;> (clear h; intro c h)
  · cases h
    refine zz ?_
    first | exact ⟨trivial, [], [], ⟨rfl, trivial⟩, _, rfl, _, rfl, And.intro rfl rfl⟩ | exact ⟨[], [], ⟨rfl, trivial⟩, _, rfl, _, rfl, And.intro rfl rfl⟩
  refine zz ?_
  refine brN (iteS h) ?_ ?_ <;> (clear h; intro c h)
  · cases h
    refine zz ?_
    first | exact ⟨trivial, [], [], ⟨rfl, trivial⟩, _, rfl, _, rfl, And.intro rfl rfl⟩ | exact ⟨[], [], ⟨rfl, trivial⟩, _, rfl, _, rfl, And.intro rfl rfl⟩
  refine zz ?_
  refine brN (iteS h) ?_ ?_ <;> (clear h; intro c h)
  · cases h
    refine zz ?_
    first | exact ⟨trivial, [], [], ⟨rfl, trivial⟩, _, rfl, _, rfl, And.intro rfl rfl⟩ | exact ⟨[], [], ⟨rfl, trivial⟩, _, rfl, _, rfl, And.intro rfl rfl⟩
  refine zz ?_
  refine brN (iteS h) ?_ ?_ <;> (clear h; intro c h)
  · cases h
    refine zz ?_
    first | exact ⟨trivial, [], [], ⟨rfl, trivial⟩, _, rfl, _, rfl, And.intro rfl rfl⟩ | exact ⟨[], [], ⟨rfl, trivial⟩, _, rfl, _, rfl, And.intro rfl rfl⟩
  cases h
  refine zz ?_
  first | exact ⟨trivial, [], [], ⟨rfl, trivial⟩, _, rfl, _, rfl, And.intro rfl rfl⟩ | exact ⟨[], [], ⟨rfl, trivial⟩, _, rfl, _, rfl, And.intro rfl rfl⟩
theorem laws_eqPlaceS_ev {n0 : Nat} (l0 : List S82) (l1 : List S82) (r : Bool) (h : laws_eqPlaceS.fv l0 l1 = some r) : CE G 28 [.ref 0 n0, .val (.row (l1.map e82))] [.own 82 6 (l0.map e82) n0 false] [.val (.bool r)] [.own 82 6 (l0.map e82) n0 false] := by
  obtain ⟨k, h⟩ := lim_ex h
  refine CE.mk ⟨Try.f28, _, rfl, rfl, ⟨by kernel_rfl, Nat.le_of_ble_eq_true rfl, Nat.le_of_ble_eq_true rfl⟩, ?_⟩
  rcases k with _ | k
  · exact (run_zero h).elim
  rw [run_succ, laws_eqPlaceS.B] at h
  refine zz ?_
  refine brN (iP h) ?_ ?_ <;> (clear h; intro c h)
  · replace h := evR h; cases h
    refine zz ?_
    first | refine ⟨trivial, [], [], ⟨rfl, trivial⟩, _, rfl, _, rfl, ?_⟩ | refine ⟨[], [], ⟨rfl, trivial⟩, _, rfl, _, rfl, ?_⟩
    repeat' (first | (refine And.intro ?_ ?_) | rfl)
  replace h := evT h
  refine zz ?_
  refine loopJ [0] (fun kq fr hp => ∃ (x1 : List S82) (x5 : Int), run laws_eqPlaceS.B kq (.l0 l0 x1 x5) = some r ∧ (∃ fr0, fr = puts [(0, .one (.ref 0 n0)), (1, .one (.val (.row (x1.map e82)))), (5, .one (.val (.int .i64 x5)))] fr0) ∧ hp = (upd 0 (.own 82 6 (l0.map e82) n0 false) (fun _ => none))) k ⟨_, zfuel, _, _, h, leafFr [0, 1, 5] (by kernel_rfl), by kernel_rfl⟩ ?_
  clear h; rintro k hle _ _ ⟨x1, x5, h, ⟨fr0, rfl⟩, rfl⟩
  rcases k with _ | k
  · exact (run_zero h).elim
  rw [run_succ, laws_eqPlaceS.B] at h
  refine zz ?_
  refine br (iP h) ?_ ?_ <;> (clear h; intro c h)
  rotate_left
  · replace h := evR h; cases h
    refine zz ?_
    first | refine ⟨trivial, [], [], ⟨rfl, trivial⟩, _, rfl, _, rfl, ?_⟩ | refine ⟨[], [], ⟨rfl, trivial⟩, _, rfl, _, rfl, ?_⟩
    repeat' (first | (refine And.intro ?_ ?_) | rfl)
  have h_ := gP h; clear h; obtain ⟨c, h⟩ := h_
  have h_ := gP h; clear h; obtain ⟨c, h⟩ := h_
  have h_ := evO h; clear h; obtain ⟨t25, ht, h⟩ := h_
  refine zz ?_
  refine Exists.intro _ (And.intro (laws_eqPlace_ev (h := ht)) ?_)
  refine zz ?_
  refine brN (iP h) ?_ ?_ <;> (clear h; intro c h)
  · replace h := evR h; cases h
    refine zz ?_
    first | refine ⟨trivial, [], [], ⟨rfl, trivial⟩, _, rfl, _, rfl, ?_⟩ | refine ⟨[], [], ⟨rfl, trivial⟩, _, rfl, _, rfl, ?_⟩
    repeat' (first | (refine And.intro ?_ ?_) | rfl)
  replace h := evT h
  refine zz ?_
  exact ⟨_, zfuel, _, _, h, leafFr [0, 1, 5] (by kernel_rfl), by kernel_rfl⟩
theorem laws_markText_ev (a0 : Int) (r : ByteArray) (h : laws_markText.fv a0 = some r) : CE G 71 [.val (.int .i64 a0)] [] [.val (.str r)] [] := by
  obtain ⟨k, h⟩ := lim_ex h
  refine CE.mk ⟨Try.f71, _, rfl, rfl, ⟨by kernel_rfl, Nat.le_of_ble_eq_true rfl, Nat.le_of_ble_eq_true rfl⟩, ?_⟩
  rcases k with _ | k
  · exact (run_zero h).elim
  rw [run_succ, laws_markText.B] at h
  refine zz ?_
  refine br (iP h) ?_ ?_ <;> (clear h; intro c h)
  · replace h := evR h; cases h
    refine zz ?_
    first | exact ⟨trivial, [], [], ⟨rfl, trivial⟩, _, rfl, _, rfl, And.intro rfl rfl⟩ | exact ⟨[], [], ⟨rfl, trivial⟩, _, rfl, _, rfl, And.intro rfl rfl⟩
  replace h := evT h
  refine zz ?_
  refine loopJ [] (fun kq fr hp => ∃ (x0 : Int) (x3 : ByteArray), run laws_markText.B kq (.l0 x0 x3) = some r ∧ (∃ fr0, fr = puts [(0, .one (.val (.int .i64 x0))), (3, .one (.val (.str x3)))] fr0) ∧ hp = (fun _ => none)) k ⟨_, zfuel, _, _, h, leafFr [0, 3] (by kernel_rfl), by kernel_rfl⟩ ?_
  clear h; rintro k hle _ _ ⟨x0, x3, h, ⟨fr0, rfl⟩, rfl⟩
  rcases k with _ | k
  · exact (run_zero h).elim
  rw [run_succ, laws_markText.B] at h
  refine zz ?_
  refine br (iP h) ?_ ?_ <;> (clear h; intro c h)
  rotate_left
  · have h_ := gP h; clear h; obtain ⟨c, h⟩ := h_
    replace h := evR h; cases h
    refine zz ?_
    first | exact ⟨trivial, [], [], ⟨rfl, trivial⟩, _, rfl, _, rfl, And.intro rfl rfl⟩ | exact ⟨[], [], ⟨rfl, trivial⟩, _, rfl, _, rfl, And.intro rfl rfl⟩
  refine zz ?_
  refine Exists.intro (List.map (VV.int .u8) ([(((wrap64 (48 + (Int.tmod x0 10)))) % 256)] : List Int)) (And.intro zrow ?_)
  have h_ := gP h; clear h; obtain ⟨c, h⟩ := h_
  replace h := evT h
  refine zz ?_
  exact ⟨_, zfuel, _, _, h, leafFr [0, 3] (by kernel_rfl), by kernel_rfl⟩
theorem laws_markPlaceS_ev {n0 : Nat} (l0 : List S82) (a1 : Int) (r1 : Int) (r2 : List S82) (h : laws_markPlaceS.fv l0 a1 = some (r1, r2)) : CE G 29 [.ref 0 n0, .val (.int .i64 a1)] [.own 82 6 (l0.map e82) n0 false] [.val (.int .i64 r1)] [.own 82 6 (r2.map e82) n0 false] := by
  obtain ⟨k, h⟩ := lim_ex h
  refine CE.mk ⟨Try.f29, _, rfl, rfl, ⟨by kernel_rfl, Nat.le_of_ble_eq_true rfl, Nat.le_of_ble_eq_true rfl⟩, ?_⟩
  rcases k with _ | k
  · exact (run_zero h).elim
  rw [run_succ, laws_markPlaceS.B] at h
  replace h := evT h
  refine zz ?_
  refine loopJ [0] (fun kq fr hp => ∃ (x0 : List S82) (x1 : Int) (x5 : Int), run laws_markPlaceS.B kq (.l0 x0 x1 x5) = some (r1, r2) ∧ (∃ fr0, fr = puts [(0, .one (.ref 0 n0)), (1, .one (.val (.int .i64 x1))), (5, .one (.val (.int .i64 x5)))] fr0) ∧ hp = (upd 0 (.own 82 6 (x0.map e82) n0 false) (fun _ => none))) k ⟨_, zfuel, _, _, _, h, leafFr [0, 1, 5] (by kernel_rfl), by kernel_rfl⟩ ?_
  clear h; rintro k hle _ _ ⟨x0, x1, x5, h, ⟨fr0, rfl⟩, rfl⟩
  rcases k with _ | k
  · exact (run_zero h).elim
  rw [run_succ, laws_markPlaceS.B] at h
  refine zz ?_
  refine br (iP h) ?_ ?_ <;> (clear h; intro c h)
  rotate_left
  · replace h := evR h; cases h
    refine zz ?_
    first | refine ⟨trivial, [], [], ⟨rfl, trivial⟩, _, rfl, _, rfl, ?_⟩ | refine ⟨[], [], ⟨rfl, trivial⟩, _, rfl, _, rfl, ?_⟩
    repeat' (first | (refine And.intro ?_ ?_) | rfl)
  have h_ := gP h; clear h; obtain ⟨c, h⟩ := h_
  have h_ := evO h; clear h; obtain ⟨y4_5, hy, h⟩ := h_
  refine zz ?_
  refine Exists.intro (y4_5.map e82) (And.intro (by rw [← Option.some.inj hy]; exact zrow) ?_)
  have h_ := gP h; clear h; obtain ⟨c, h⟩ := h_
  have h_ := evO h; clear h; obtain ⟨y6_5, hy, h⟩ := h_
  refine zz ?_
  refine Exists.intro (y6_5.map e82) (And.intro (by rw [← Option.some.inj hy]; exact zrow) ?_)
  have h_ := evO h; clear h; obtain ⟨t29, ht, h⟩ := h_
  refine zz ?_
  refine Exists.intro _ (And.intro (laws_markText_ev (h := ht)) ?_)
  have h_ := gP h; clear h; obtain ⟨c, h⟩ := h_
  have h_ := evO h; clear h; obtain ⟨y8_6, hy, h⟩ := h_
  refine zz ?_
  refine Exists.intro (y8_6.map e82) (And.intro (by rw [← Option.some.inj hy]; exact zrow) ?_)
  have h_ := gP h; clear h; obtain ⟨c, h⟩ := h_
  have h_ := evO h; clear h; obtain ⟨y10_7, hy, h⟩ := h_
  refine zz ?_
  refine Exists.intro (y10_7.map e82) (And.intro (by rw [← Option.some.inj hy]; exact zrow) ?_)
  have h_ := gP h; clear h; obtain ⟨c, h⟩ := h_
  have h_ := evO h; clear h; obtain ⟨y12_5, hy, h⟩ := h_
  refine zz ?_
  refine Exists.intro (y12_5.map e82) (And.intro (by rw [← Option.some.inj hy]; exact zrow) ?_)
  have h_ := gP h; clear h; obtain ⟨c, h⟩ := h_
  have h_ := evO h; clear h; obtain ⟨y14_5, hy, h⟩ := h_
  refine zz ?_
  refine Exists.intro (y14_5.map e82) (And.intro (by rw [← Option.some.inj hy]; exact zrow) ?_)
  replace h := evT h
  refine zz ?_
  exact ⟨_, zfuel, _, _, _, h, leafFr [0, 1, 5] (by kernel_rfl), by kernel_rfl⟩
theorem laws_markIntS_ev {n0 : Nat} (l0 : List Int) (a1 : Int) (r1 : Int) (r2 : List Int) (h : laws_markIntS.fv l0 a1 = some (r1, r2)) : CE G 30 [.ref 0 n0, .val (.int .i64 a1)] [.own 3 1 (l0.map (VV.int .i64)) n0 false] [.val (.int .i64 r1)] [.own 3 1 (r2.map (VV.int .i64)) n0 false] := by
  obtain ⟨k, h⟩ := lim_ex h
  refine CE.mk ⟨Try.f30, _, rfl, rfl, ⟨by kernel_rfl, Nat.le_of_ble_eq_true rfl, Nat.le_of_ble_eq_true rfl⟩, ?_⟩
  rcases k with _ | k
  · exact (run_zero h).elim
  rw [run_succ, laws_markIntS.B] at h
  replace h := evT h
  refine zz ?_
  refine loopJ [0] (fun kq fr hp => ∃ (x0 : List Int) (x1 : Int) (x5 : Int), run laws_markIntS.B kq (.l0 x0 x1 x5) = some (r1, r2) ∧ (∃ fr0, fr = puts [(0, .one (.ref 0 n0)), (1, .one (.val (.int .i64 x1))), (5, .one (.val (.int .i64 x5)))] fr0) ∧ hp = (upd 0 (.own 3 1 (x0.map (VV.int .i64)) n0 false) (fun _ => none))) k ⟨_, zfuel, _, _, _, h, leafFr [0, 1, 5] (by kernel_rfl), by kernel_rfl⟩ ?_
  clear h; rintro k hle _ _ ⟨x0, x1, x5, h, ⟨fr0, rfl⟩, rfl⟩
  rcases k with _ | k
  · exact (run_zero h).elim
  rw [run_succ, laws_markIntS.B] at h
  refine zz ?_
  refine br (iP h) ?_ ?_ <;> (clear h; intro c h)
  rotate_left
  · replace h := evR h; cases h
    refine zz ?_
    first | refine ⟨trivial, [], [], ⟨rfl, trivial⟩, _, rfl, _, rfl, ?_⟩ | refine ⟨[], [], ⟨rfl, trivial⟩, _, rfl, _, rfl, ?_⟩
    repeat' (first | (refine And.intro ?_ ?_) | rfl)
  have h_ := gP h; clear h; obtain ⟨c, h⟩ := h_
  refine zz ?_
  refine Exists.intro (List.map (VV.int .i64) (x0.set (x5 : Int).toNat x1)) (And.intro zrow ?_)
  replace h := evT h
  refine zz ?_
  exact ⟨_, zfuel, _, _, _, h, leafFr [0, 1, 5] (by kernel_rfl), by kernel_rfl⟩
theorem laws_heldIntS_ev (l0 : List Int) (a1 : Int) (r : Int) (h : laws_heldIntS.fv l0 a1 = some r) : CE G 31 [.val (.row (l0.map (VV.int .i64))), .val (.int .i64 a1)] [] [.val (.int .i64 r)] [] := by
  obtain ⟨k, h⟩ := lim_ex h
  refine CE.mk ⟨Try.f31, _, rfl, rfl, ⟨by kernel_rfl, Nat.le_of_ble_eq_true rfl, Nat.le_of_ble_eq_true rfl⟩, ?_⟩
  rcases k with _ | k
  · exact (run_zero h).elim
  rw [run_succ, laws_heldIntS.B] at h
  replace h := evT h
  refine zz ?_
  refine loopJ [] (fun kq fr hp => ∃ (x0 : List Int) (x1 : Int) (x5 : Int), run laws_heldIntS.B kq (.l0 x0 x1 x5) = some r ∧ (∃ fr0, fr = puts [(0, .one (.val (.row (x0.map (VV.int .i64))))), (1, .one (.val (.int .i64 x1))), (5, .one (.val (.int .i64 x5)))] fr0) ∧ hp = (fun _ => none)) k ⟨_, zfuel, _, _, _, h, leafFr [0, 1, 5] (by kernel_rfl), by kernel_rfl⟩ ?_
  clear h; rintro k hle _ _ ⟨x0, x1, x5, h, ⟨fr0, rfl⟩, rfl⟩
  rcases k with _ | k
  · exact (run_zero h).elim
  rw [run_succ, laws_heldIntS.B] at h
  refine zz ?_
  refine br (iP h) ?_ ?_ <;> (clear h; intro c h)
  rotate_left
  · replace h := evR h; cases h
    refine zz ?_
    first | exact ⟨trivial, [], [], ⟨rfl, trivial⟩, _, rfl, _, rfl, And.intro rfl rfl⟩ | exact ⟨[], [], ⟨rfl, trivial⟩, _, rfl, _, rfl, And.intro rfl rfl⟩
  have h_ := gP h; clear h; obtain ⟨c, h⟩ := h_
  refine zz ?_
  refine brN (iP h) ?_ ?_ <;> (clear h; intro c h)
  · replace h := evR h; cases h
    refine zz ?_
    first | exact ⟨trivial, [], [], ⟨rfl, trivial⟩, _, rfl, _, rfl, And.intro rfl rfl⟩ | exact ⟨[], [], ⟨rfl, trivial⟩, _, rfl, _, rfl, And.intro rfl rfl⟩
  replace h := evT h
  refine zz ?_
  exact ⟨_, zfuel, _, _, _, h, leafFr [0, 1, 5] (by kernel_rfl), by kernel_rfl⟩
theorem impl_Closure_1_2_ev {n0 : Nat} {n1 : Nat} (a0 : Int) (l1_0 : List S82) (l2_0 : List Bool) (l3_0 : List Int) (r1 : List Bool) (r2 : List Int) (h : impl_Closure_1_2.fv a0 l1_0 l2_0 l3_0 = some (r1, r2)) : CE G 68 [.val (.int .i64 a0), .ptr 2 0, .ptr 3 0, .ptr 4 0] [.own 4 1 (l2_0.map VV.bool) n0 false, .own 3 1 (l3_0.map (VV.int .i64)) n1 false, .box [.val (.row (l1_0.map e82))], .box [.ref 0 n0], .box [.ref 1 n1]] [] [.own 4 1 (r1.map VV.bool) n0 false, .own 3 1 (r2.map (VV.int .i64)) (n1 + 1) false, .box [.val (.row (l1_0.map e82))], .box [.ref 0 n0], .box [.ref 1 (n1 + 1)]] := by
  obtain ⟨k, h⟩ := lim_ex h
  refine CE.mk ⟨Try.f68, _, rfl, rfl, ⟨by kernel_rfl, Nat.le_of_ble_eq_true rfl, Nat.le_of_ble_eq_true rfl⟩, ?_⟩
  rcases k with _ | k
  · exact (run_zero h).elim
  rw [run_succ, impl_Closure_1_2.B] at h
  refine zz ?_
  refine cutJ (n := 200000) [0, 1, 2, 3, 4] (fun fr hp => ∃ kq, kq ≤ k ∧ ∃ (x0 : Int) (x16 : Bool) (y0 : List Bool) (y1 : List Int) (g1 : Nat), run impl_Closure_1_2.B kq (.j0 x0 x16 y0 y1 l1_0) = some (r1, r2) ∧ (∃ fr0, fr = puts [(0, .one (.val (.int .i64 x0))), (2, .one (.ptr 3 0)), (3, .one (.ptr 4 0)), (16, .one (.val (.bool x16)))] fr0) ∧ hp = (upd 0 (.own 4 1 (y0.map VV.bool) n0 false) (upd 1 (.own 3 1 (y1.map (VV.int .i64)) g1 false) (upd 2 (.box [.val (.row (l1_0.map e82))]) (upd 3 (.box [.ref 0 n0]) (upd 4 (.box [.ref 1 g1]) (fun _ => none))))))) ?_ ?_
  · have h_ := evO h; clear h; obtain ⟨t9, ht, h⟩ := h_
    refine zz ?_
    refine Exists.intro _ (And.intro (impl_in_ev (h := ht)) ?_)
    refine zz ?_
    refine br (iP h) ?_ ?_ <;> (clear h; intro c h)
    rotate_left
    · refine zz ?_
      try (apply Or.inr; refine And.intro (by first | rfl | exact zboolK) ?_)
      refine zz ?_
      try (apply Or.inr; refine And.intro (by first | rfl | exact zboolK) ?_)
      refine zz ?_
      try (apply Or.inr; refine And.intro (by first | rfl | exact zboolK) ?_)
      refine zz ?_
      try (apply Or.inr; refine And.intro (by first | rfl | exact zboolK) ?_)
      refine zz ?_
      try (apply Or.inr; refine And.intro (by first | rfl | exact zboolK) ?_)
      replace h := evT h
      refine zz ?_
      exact ⟨_, zfuel, _, _, _, _, n1, h, leafFr [0, 2, 3, 16] (by kernel_rfl), by kernel_rfl⟩
    refine zz ?_
    try (apply Or.inl; refine And.intro (by first | rfl | exact zboolK) ?_)
    refine zz ?_
    try (apply Or.inl; refine And.intro (by first | rfl | exact zboolK) ?_)
    have h_ := gP h; clear h; obtain ⟨c, h⟩ := h_
    have h_ := gP h; clear h; obtain ⟨c, h⟩ := h_
    refine zz ?_
    try (apply Or.inl; refine And.intro (by first | rfl | exact zboolK) ?_)
    refine zz ?_
    try (apply Or.inl; refine And.intro (by first | rfl | exact zboolK) ?_)
    refine zz ?_
    try (apply Or.inl; refine And.intro (by first | rfl | exact zboolK) ?_)
    replace h := evT h
    refine zz ?_
    exact ⟨_, zfuel, _, _, _, _, n1, h, leafFr [0, 2, 3, 16] (by kernel_rfl), by kernel_rfl⟩
  clear h; rintro _ _ ⟨k, hle, x0, x16, y0, y1, g1, h, ⟨fr0, rfl⟩, rfl⟩
  rcases k with _ | k
  · exact (run_zero h).elim
  rw [run_succ, impl_Closure_1_2.B] at h
  refine zz ?_
  refine br (iP h) ?_ ?_ <;> (clear h; intro c h)
  rotate_left
  · replace h := evR h; cases h
    refine zz ?_
    first | refine ⟨trivial, [], [(1, g1, n1 + 1)], ⟨rfl, ⟨rfl, trivial⟩⟩, _, rfl, _, rfl, ?_⟩ | refine ⟨[], [(1, g1, n1 + 1)], ⟨rfl, ⟨rfl, trivial⟩⟩, _, rfl, _, rfl, ?_⟩
    repeat' (first | (refine And.intro ?_ ?_) | rfl)
  have h_ := gP h; clear h; obtain ⟨c, h⟩ := h_
  have h_ := gP h; clear h; obtain ⟨c, h⟩ := h_
  refine zz ?_
  refine Exists.intro (List.map VV.bool (y0.set (x0 : Int).toNat true)) (And.intro zrow ?_)
  refine zz ?_
  refine Exists.intro (List.map (VV.int .i64) ([x0] : List Int)) (And.intro zrow ?_)
  have h_ := gP h; clear h; obtain ⟨c, h⟩ := h_
  refine zz ?_
  refine Exists.intro (List.map (VV.int .i64) (y1 ++ [x0])) (And.intro zrow ?_)
  replace h := evR h; cases h
  refine zz ?_
  first | refine ⟨trivial, [], [(1, g1 + 1, n1 + 1)], ⟨rfl, ⟨rfl, trivial⟩⟩, _, rfl, _, rfl, ?_⟩ | refine ⟨[], [(1, g1 + 1, n1 + 1)], ⟨rfl, ⟨rfl, trivial⟩⟩, _, rfl, _, rfl, ?_⟩
  repeat' (first | (refine And.intro ?_ ?_) | rfl)
theorem impl_Closure_2_ev (l0 : List S82) (l1 : List Int) (a2 : Bool) (a3 : Bool) (r : List Int) (h : impl_Closure_2.fv l0 l1 a2 a3 = some r) : CE G 26 [.val (.row (l0.map e82)), .val (.row (l1.map (VV.int .i64))), .val (.bool a2), .val (.bool a3)] [] [.ref 16 0] [.own 3 1 (r.map (VV.int .i64)) 0 false] := by
  obtain ⟨k, h⟩ := lim_ex h
  refine CE.mk ⟨Try.f26, _, rfl, rfl, ⟨by kernel_rfl, Nat.le_of_ble_eq_true rfl, Nat.le_of_ble_eq_true rfl⟩, ?_⟩
  rcases k with _ | k
  · exact (run_zero h).elim
  rw [run_succ, impl_Closure_2.B] at h
  have h_ := gP h; clear h; obtain ⟨c, h⟩ := h_
  have h_ := gP h; clear h; obtain ⟨c, h⟩ := h_
  refine zz ?_
  refine Exists.intro (List.map VV.bool (List.replicate ((l0.length : Int) : Int).toNat false)) (And.intro zrow ?_)
  refine zz ?_
  refine Exists.intro (List.map (VV.int .i64) ([] : List Int)) (And.intro zrow ?_)
  replace h := evT h
  refine zz ?_
  refine loopJ [16, 530, 531, 1040, 1041] (fun kq fr hp => ∃ (x2 : Bool) (x3 : Bool) (x22 : List Int) (x23 : Int) (x24 : Int) (y530 : List Bool) (y1040 : List Int) (x16_0 : List S82) (g530 : Nat) (g1040 : Nat), run impl_Closure_2.B kq (.l0 x2 x3 x22 x23 x24 y530 y1040 x16_0) = some r ∧ (∃ fr0, fr = puts [(2, .one (.val (.bool x2))), (3, .one (.val (.bool x3))), (4, .one (.ptr 16 0)), (10, .one (.ptr 1041 0)), (11, .one (.fn 68 [16, 531, 1041])), (22, .one (.val (.row (x22.map (VV.int .i64))))), (23, .one (.val (.int .i64 x23))), (24, .one (.val (.int .i64 x24)))] fr0) ∧ hp = (upd 16 (.box [.val (.row (x16_0.map e82))]) (upd 530 (.own 4 1 (y530.map VV.bool) g530 false) (upd 531 (.box [.ref 530 g530]) (upd 1040 (.own 3 1 (y1040.map (VV.int .i64)) g1040 false) (upd 1041 (.box [.ref 1040 g1040]) (fun _ => none))))))) k ⟨_, zfuel, _, _, _, _, _, _, _, _, 0, 0, h, leafFr [2, 3, 4, 10, 11, 22, 23, 24] (by kernel_rfl), by kernel_rfl⟩ ?_
  clear h; rintro k hle _ _ ⟨x2, x3, x22, x23, x24, y530, y1040, x16_0, g530, g1040, h, ⟨fr0, rfl⟩, rfl⟩
  rcases k with _ | k
  · exact (run_zero h).elim
  rw [run_succ, impl_Closure_2.B] at h
  refine zz ?_
  refine br (iP h) ?_ ?_ <;> (clear h; intro c h)
  · have h_ := gP h; clear h; obtain ⟨c, h⟩ := h_
    have h_ := gP h; clear h; obtain ⟨c, h⟩ := h_
    have h_ := evO h; clear h; obtain ⟨t30, ht, h⟩ := h_
    refine zz ?_
    refine Exists.intro _ (Exists.intro _ (And.intro (impl_Closure_1_2_ev (h := ht)) ?_))
    replace h := evT h
    refine zz ?_
    exact ⟨_, zfuel, _, _, _, _, _, _, _, _, g530, (g1040 + 1), h, leafFr [2, 3, 4, 10, 11, 22, 23, 24] (by kernel_rfl), by kernel_rfl⟩
  replace h := evT h
  refine zz ?_
  refine loopJ [16, 530, 531, 1040, 1041] (fun kq fr hp => ∃ (x2 : Bool) (x3 : Bool) (x14 : Int) (y530 : List Bool) (y1040 : List Int) (x16_0 : List S82) (g530 : Nat) (g1040 : Nat), run impl_Closure_2.B kq (.l1 x2 x3 x14 y530 y1040 x16_0) = some r ∧ (∃ fr0, fr = puts [(2, .one (.val (.bool x2))), (3, .one (.val (.bool x3))), (4, .one (.ptr 16 0)), (10, .one (.ptr 1041 0)), (11, .one (.fn 68 [16, 531, 1041])), (14, .one (.val (.int .i64 x14)))] fr0) ∧ hp = (upd 16 (.box [.val (.row (x16_0.map e82))]) (upd 530 (.own 4 1 (y530.map VV.bool) g530 false) (upd 531 (.box [.ref 530 g530]) (upd 1040 (.own 3 1 (y1040.map (VV.int .i64)) g1040 false) (upd 1041 (.box [.ref 1040 g1040]) (fun _ => none))))))) k ⟨_, zfuel, _, _, _, _, _, _, g530, g1040, h, leafFr [2, 3, 4, 10, 11, 14] (by kernel_rfl), by kernel_rfl⟩ ?_
  clear h; rintro k hle _ _ ⟨x2, x3, x14, y530, y1040, x16_0, g530, g1040, h, ⟨fr0, rfl⟩, rfl⟩
  rcases k with _ | k
  · exact (run_zero h).elim
  rw [run_succ, impl_Closure_2.B] at h
  refine zz ?_
  refine br (iP h) ?_ ?_ <;> (clear h; intro c h)
  rotate_left
  · have h_ := evO h; clear h; obtain ⟨t79, ht, h⟩ := h_
    refine zz ?_
    refine Exists.intro _ (Exists.intro _ (And.intro (orc69 (h := ht)) ?_))
    replace h := evR h; cases h
    refine zz ?_
    first | refine ⟨trivial, [1040], [(1040, g1040, 0)], ⟨rfl, ⟨trivial, trivial⟩⟩, _, rfl, _, rfl, ?_⟩ | refine ⟨[1040], [(1040, g1040, 0)], ⟨rfl, ⟨trivial, trivial⟩⟩, _, rfl, _, rfl, ?_⟩
    repeat' (first | (refine And.intro ?_ ?_) | rfl)
  have h_ := gP h; clear h; obtain ⟨c, h⟩ := h_
  have h_ := gP h; clear h; obtain ⟨c, h⟩ := h_
  have h_ := gP h; clear h; obtain ⟨c, h⟩ := h_
  refine zz ?_
  refine br (iP h) ?_ ?_ <;> (clear h; intro c h)
  · have h_ := evO h; clear h; obtain ⟨t53, ht, h⟩ := h_
    refine zz ?_
    refine Exists.intro _ (Exists.intro _ (And.intro (impl_Closure_1_2_ev (h := ht)) ?_))
    replace h := evT h
    refine zz ?_
    exact ⟨_, zfuel, _, _, _, _, _, _, g530, (g1040 + 1), h, leafFr [2, 3, 4, 10, 11, 14] (by kernel_rfl), by kernel_rfl⟩
  refine zz ?_
  refine br (iP h) ?_ ?_ <;> (clear h; intro c h)
  · have h_ := evO h; clear h; obtain ⟨t59, ht, h⟩ := h_
    refine zz ?_
    refine Exists.intro _ (Exists.intro _ (And.intro (impl_Closure_1_2_ev (h := ht)) ?_))
    have h_ := evO h; clear h; obtain ⟨t63, ht, h⟩ := h_
    refine zz ?_
    refine Exists.intro _ (Exists.intro _ (And.intro (impl_Closure_1_2_ev (h := ht)) ?_))
    replace h := evT h
    refine zz ?_
    exact ⟨_, zfuel, _, _, _, _, _, _, g530, (g1040 + 1 + 1), h, leafFr [2, 3, 4, 10, 11, 14] (by kernel_rfl), by kernel_rfl⟩
  refine zz ?_
  refine br (iP h) ?_ ?_ <;> (clear h; intro c h)
  · refine zz ?_
    refine br (iP h) ?_ ?_ <;> (clear h; intro c h)
    rotate_left
    · replace h := evT h
      refine zz ?_
      exact ⟨_, zfuel, _, _, _, _, _, _, g530, g1040, h, leafFr [2, 3, 4, 10, 11, 14] (by kernel_rfl), by kernel_rfl⟩
    have h_ := evO h; clear h; obtain ⟨t70, ht, h⟩ := h_
    refine zz ?_
    refine Exists.intro _ (Exists.intro _ (And.intro (impl_Closure_1_2_ev (h := ht)) ?_))
    replace h := evT h
    refine zz ?_
    exact ⟨_, zfuel, _, _, _, _, _, _, g530, (g1040 + 1), h, leafFr [2, 3, 4, 10, 11, 14] (by kernel_rfl), by kernel_rfl⟩
  refine zz ?_
  refine br (iP h) ?_ ?_ <;> (clear h; intro c h)
  rotate_left
  · replace h := evT h
    refine zz ?_
    exact ⟨_, zfuel, _, _, _, _, _, _, g530, g1040, h, leafFr [2, 3, 4, 10, 11, 14] (by kernel_rfl), by kernel_rfl⟩
  refine zz ?_
  refine br (iP h) ?_ ?_ <;> (clear h; intro c h)
  rotate_left
  · replace h := evT h
    refine zz ?_
    exact ⟨_, zfuel, _, _, _, _, _, _, g530, g1040, h, leafFr [2, 3, 4, 10, 11, 14] (by kernel_rfl), by kernel_rfl⟩
  have h_ := evO h; clear h; obtain ⟨t77, ht, h⟩ := h_
  refine zz ?_
  refine Exists.intro _ (Exists.intro _ (And.intro (impl_Closure_1_2_ev (h := ht)) ?_))
  replace h := evT h
  refine zz ?_
  exact ⟨_, zfuel, _, _, _, _, _, _, g530, (g1040 + 1), h, leafFr [2, 3, 4, 10, 11, 14] (by kernel_rfl), by kernel_rfl⟩
end Go.Proofs.Ytfdpehmefgfjgaa.TFnExactClosure
