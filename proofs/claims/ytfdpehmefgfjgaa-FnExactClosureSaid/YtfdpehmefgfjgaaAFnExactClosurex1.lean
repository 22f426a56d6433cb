/- The walks of the functions that FnExactClosure reaches, through the abstract machine. -/
import Derived.Test.YtfdpehmefgfjgaaAFnExactClosureh
import Derived.Test.YtfdpehmefgfjgaaAFnExactClosurex0
import Derived.Test.YtfdpehmefgfjgaaFFnExactClosure
import Derived.Test.YtfdpehmefgfjgaaProg
set_option maxHeartbeats 4000000
set_option maxRecDepth 100000
set_option linter.unusedVariables false
set_option linter.unusedSimpArgs false
namespace Go.Proofs.Ytfdpehmefgfjgaa.TFnExactClosure
open Go Go.RowKit Go.Proofs Go.Proofs.YtfdpehmefgfjgaaW.AM Go.Proofs.Ytfdpehmefgfjgaa.QFnExactClosure Go.Proofs.YtfdpehmefgfjgaaW.PrintWords Go.Proofs.YtfdpehmefgfjgaaW.Pgs
theorem laws_eqIntS_2_ev (l0 : List Int) (l1 : List Int) (r : Bool) (h : laws_eqIntS_2.fv l0 l1 = some r) : CE G 27 [.val (.row (l0.map (VV.int .i64))), .val (.row (l1.map (VV.int .i64)))] [] [.val (.bool r)] [] := by
  obtain ⟨k, h⟩ := lim_ex h
  refine CE.mk ⟨Try.f27, _, rfl, rfl, ⟨by kernel_rfl, Nat.le_of_ble_eq_true rfl, Nat.le_of_ble_eq_true rfl⟩, ?_⟩
  rcases k with _ | k
  · exact (run_zero h).elim
  rw [run_succ, laws_eqIntS_2.B] at h
  refine zz ?_
  refine brN (iP h) ?_ ?_ <;> (clear h; intro c h)
  · replace h := evR h; cases h
    refine zz ?_
    first | exact ⟨trivial, [], [], ⟨rfl, trivial⟩, _, rfl, _, rfl, And.intro rfl rfl⟩ | exact ⟨[], [], ⟨rfl, trivial⟩, _, rfl, _, rfl, And.intro rfl rfl⟩
  replace h := evT h
  refine zz ?_
  refine loopJ [] (fun kq fr hp => ∃ (x0 : List Int) (x1 : List Int) (x5 : Int), run laws_eqIntS_2.B kq (.l0 x0 x1 x5) = some r ∧ (∃ fr0, fr = puts [(0, .one (.val (.row (x0.map (VV.int .i64))))), (1, .one (.val (.row (x1.map (VV.int .i64))))), (5, .one (.val (.int .i64 x5)))] fr0) ∧ hp = (fun _ => none)) k ⟨_, zfuel, _, _, _, h, leafFr [0, 1, 5] (by kernel_rfl), by kernel_rfl⟩ ?_
  clear h; rintro k hle _ _ ⟨x0, x1, x5, h, ⟨fr0, rfl⟩, rfl⟩
  rcases k with _ | k
  · exact (run_zero h).elim
  rw [run_succ, laws_eqIntS_2.B] at h
  refine zz ?_
  refine br (iP h) ?_ ?_ <;> (clear h; intro c h)
  rotate_left
  · replace h := evR h; cases h
    refine zz ?_
    first | exact ⟨trivial, [], [], ⟨rfl, trivial⟩, _, rfl, _, rfl, And.intro rfl rfl⟩ | exact ⟨[], [], ⟨rfl, trivial⟩, _, rfl, _, rfl, And.intro rfl rfl⟩
  have h_ := gP h; clear h; obtain ⟨c, h⟩ := h_
  have h_ := gP h; clear h; obtain ⟨c, h⟩ := h_
  refine zz ?_
  refine brN (iP h) ?_ ?_ <;> (clear h; intro c h)
  · replace h := evR h; cases h
    refine zz ?_
    first | exact ⟨trivial, [], [], ⟨rfl, trivial⟩, _, rfl, _, rfl, And.intro rfl rfl⟩ | exact ⟨[], [], ⟨rfl, trivial⟩, _, rfl, _, rfl, And.intro rfl rfl⟩
  replace h := evT h
  refine zz ?_
  exact ⟨_, zfuel, _, _, _, h, leafFr [0, 1, 5] (by kernel_rfl), by kernel_rfl⟩
theorem laws_FnExactClosure_ev (l0 : List S99) (l1 : List Int) (a2 : Bool) (a3 : Bool) (r : Bool) (h : laws_FnExactClosure.fv l0 l1 a2 a3 = some r) : CE G 5 [.val (.row (l0.map e99)), .val (.row (l1.map (VV.int .i64))), .val (.bool a2), .val (.bool a3)] [] [.val (.bool r)] [] := by
  obtain ⟨k, h⟩ := lim_ex h
  refine CE.mk ⟨Try.f5, _, rfl, rfl, ⟨by kernel_rfl, Nat.le_of_ble_eq_true rfl, Nat.le_of_ble_eq_true rfl⟩, ?_⟩
  rcases k with _ | k
  · exact (run_zero h).elim
  rw [run_succ, laws_FnExactClosure.B] at h
  refine zz ?_
  refine br (iP h) ?_ ?_ <;> (clear h; intro c h)
  · replace h := evR h; cases h
    refine zz ?_
    first | exact ⟨trivial, [], [], ⟨rfl, trivial⟩, _, rfl, _, rfl, And.intro rfl rfl⟩ | exact ⟨[], [], ⟨rfl, trivial⟩, _, rfl, _, rfl, And.intro rfl rfl⟩
  have h_ := evO h; clear h; obtain ⟨t23, ht, h⟩ := h_
  refine zz ?_
  refine Exists.intro _ (And.intro (laws_szPlaceS_ev (h := ht)) ?_)
  refine zz ?_
  refine br (iP h) ?_ ?_ <;> (clear h; intro c h)
  · replace h := evR h; cases h
    refine zz ?_
    first | exact ⟨trivial, [], [], ⟨rfl, trivial⟩, _, rfl, _, rfl, And.intro rfl rfl⟩ | exact ⟨[], [], ⟨rfl, trivial⟩, _, rfl, _, rfl, And.intro rfl rfl⟩
  have h_ := evO h; clear h; obtain ⟨t27, ht, h⟩ := h_
  refine zz ?_
  refine Exists.intro _ (Exists.intro _ (And.intro (laws_toPlaceS_ev (h := ht)) ?_))
  have h_ := evO h; clear h; obtain ⟨t29, ht, h⟩ := h_
  refine zz ?_
  refine Exists.intro _ (Exists.intro _ (And.intro (laws_toIntS_ev (h := ht)) ?_))
  have h_ := evO h; clear h; obtain ⟨t32, ht, h⟩ := h_
  refine zz ?_
  refine Exists.intro _ (And.intro (spec_Closure_ev (h := ht)) ?_)
  have h_ := evO h; clear h; obtain ⟨t34, ht, h⟩ := h_
  refine zz ?_
  refine Exists.intro _ (Exists.intro _ (And.intro (laws_toPlaceS_ev (h := ht)) ?_))
  have h_ := evO h; clear h; obtain ⟨t36, ht, h⟩ := h_
  refine zz ?_
  refine Exists.intro _ (Exists.intro _ (And.intro (laws_toIntS_ev (h := ht)) ?_))
  have h_ := evO h; clear h; obtain ⟨t41, ht, h⟩ := h_
  refine zz ?_
  refine Exists.intro _ (Exists.intro _ (And.intro (impl_Closure_ev (h := ht)) ?_))
  have h_ := evO h; clear h; obtain ⟨t44, ht, h⟩ := h_
  refine zz ?_
  refine Exists.intro _ (Exists.intro _ (And.intro (laws_eqIntS_ev (h := ht)) ?_))
  refine zz ?_
  refine brN (iP h) ?_ ?_ <;> (clear h; intro c h)
  · replace h := evR h; cases h
    refine zz ?_
    first | exact ⟨trivial, [], [], ⟨rfl, trivial⟩, _, rfl, _, rfl, And.intro rfl rfl⟩ | exact ⟨[], [], ⟨rfl, trivial⟩, _, rfl, _, rfl, And.intro rfl rfl⟩
  have h_ := evO h; clear h; obtain ⟨t48, ht, h⟩ := h_
  refine zz ?_
  refine Exists.intro _ (Exists.intro _ (And.intro (laws_toPlaceS_ev (h := ht)) ?_))
  have h_ := evO h; clear h; obtain ⟨t49, ht, h⟩ := h_
  refine zz ?_
  refine Exists.intro _ (Exists.intro _ (And.intro (laws_eqPlaceS_ev (h := ht)) ?_))
  refine zz ?_
  refine brN (iP h) ?_ ?_ <;> (clear h; intro c h)
  · replace h := evR h; cases h
    refine zz ?_
    first | exact ⟨trivial, [], [], ⟨rfl, trivial⟩, _, rfl, _, rfl, And.intro rfl rfl⟩ | exact ⟨[], [], ⟨rfl, trivial⟩, _, rfl, _, rfl, And.intro rfl rfl⟩
  have h_ := evO h; clear h; obtain ⟨t53, ht, h⟩ := h_
  refine zz ?_
  refine Exists.intro _ (Exists.intro _ (And.intro (laws_toIntS_ev (h := ht)) ?_))
  have h_ := evO h; clear h; obtain ⟨t54, ht, h⟩ := h_
  refine zz ?_
  refine Exists.intro _ (Exists.intro _ (And.intro (laws_eqIntS_ev (h := ht)) ?_))
  refine zz ?_
  refine brN (iP h) ?_ ?_ <;> (clear h; intro c h)
  · replace h := evR h; cases h
    refine zz ?_
    first | exact ⟨trivial, [], [], ⟨rfl, trivial⟩, _, rfl, _, rfl, And.intro rfl rfl⟩ | exact ⟨[], [], ⟨rfl, trivial⟩, _, rfl, _, rfl, And.intro rfl rfl⟩
  have h_ := evO h; clear h; obtain ⟨t58, ht, h⟩ := h_
  refine zz ?_
  refine Exists.intro _ (Exists.intro _ (And.intro (laws_markPlaceS_ev (h := ht)) ?_))
  have h_ := evO h; clear h; obtain ⟨t61, ht, h⟩ := h_
  refine zz ?_
  refine Exists.intro _ (Exists.intro _ (And.intro (laws_markIntS_ev (h := ht)) ?_))
  refine zz ?_
  refine cutJ (n := 69) [1081984] (fun fr hp => ∃ kq, kq ≤ k ∧ ∃ (x0 : List S99) (x1 : List Int) (x2 : Bool) (x3 : Bool) (x10 : List Int) (x13 : List Int) (g1081984 : Nat), run laws_FnExactClosure.B kq (.j0 x0 x1 x2 x3 x10 x13) = some r ∧ (∃ fr0, fr = puts [(0, .one (.val (.row (x0.map e99)))), (1, .one (.val (.row (x1.map (VV.int .i64))))), (2, .one (.val (.bool x2))), (3, .one (.val (.bool x3))), (10, .one (.val (.row (x10.map (VV.int .i64))))), (13, .one (.ref 1081984 g1081984))] fr0) ∧ hp = (upd 1081984 (.own 3 1 (x13.map (VV.int .i64)) g1081984 false) (fun _ => none))) ?_ ?_
  · refine zz ?_
    refine cutJ (n := 200020) [1081984] (fun fr hp => ∃ kq, kq ≤ k ∧ ∃ (x0 : List S99) (x1 : List Int) (x2 : Bool) (x3 : Bool) (x10 : List Int) (x13 : List Int) (x69 : Bool) (g1081984 : Nat), run laws_FnExactClosure.B kq (.j1 x0 x1 x2 x3 x10 x13 x69) = some r ∧ (∃ fr0, fr = puts [(0, .one (.val (.row (x0.map e99)))), (1, .one (.val (.row (x1.map (VV.int .i64))))), (2, .one (.val (.bool x2))), (3, .one (.val (.bool x3))), (10, .one (.val (.row (x10.map (VV.int .i64))))), (13, .one (.ref 1081984 g1081984)), (69, .one (.val (.bool x69)))] fr0) ∧ hp = (upd 1081984 (.own 3 1 (x13.map (VV.int .i64)) g1081984 false) (fun _ => none))) ?_ ?_
    · refine zz ?_
      refine brW (iP h) ?_ ?_ <;> (clear h; intro c h)
      rotate_left
      · refine zz ?_
        try (apply Or.inr; refine And.intro (by first | rfl | exact zboolK) ?_)
        refine zz ?_
        try (apply Or.inr; refine And.intro (by first | rfl | exact zboolK) ?_)
        refine zz ?_
        try (apply Or.inr; refine And.intro (by first | rfl | exact zboolK) ?_)
        refine zz ?_
        try (apply Or.inl; refine And.intro (by first | rfl | exact zboolK) ?_)
        replace h := evT h
        refine zz ?_
        exact ⟨_, zfuel, _, _, _, _, _, _, _, 0, h, leafFr [0, 1, 2, 3, 10, 13, 69] (by kernel_rfl), by kernel_rfl⟩
      refine zz ?_
      try (apply Or.inl; refine And.intro (by first | rfl | exact zboolK) ?_)
      refine zz ?_
      try (apply Or.inl; refine And.intro (by first | rfl | exact zboolK) ?_)
      have h_ := evO h; clear h; obtain ⟨t67, ht, h⟩ := h_
      refine zz ?_
      refine Exists.intro _ (Exists.intro _ (And.intro (laws_eqIntS_ev (h := ht)) ?_))
      refine zz ?_
      try (apply Or.inl; refine And.intro (by first | rfl | exact zboolK) ?_)
      refine zz ?_
      try (apply Or.inr; refine And.intro (by first | rfl | exact zboolK) ?_)
      replace h := evT h
      refine zz ?_
      exact ⟨_, zfuel, _, _, _, _, _, _, _, 0, h, leafFr [0, 1, 2, 3, 10, 13, 69] (by kernel_rfl), by kernel_rfl⟩
    clear h; rintro _ _ ⟨k, hle, x0, x1, x2, x3, x10, x13, x69, g1081984, h, ⟨fr0, rfl⟩, rfl⟩
    rcases k with _ | k
    · exact (run_zero h).elim
    rw [run_succ, laws_FnExactClosure.B] at h
    refine zz ?_
    refine br (iP h) ?_ ?_ <;> (clear h; intro c h)
    · replace h := evR h; cases h
      refine zz ?_
      first | exact ⟨trivial, [], [], ⟨rfl, trivial⟩, _, rfl, _, rfl, And.intro rfl rfl⟩ | exact ⟨[], [], ⟨rfl, trivial⟩, _, rfl, _, rfl, And.intro rfl rfl⟩
    replace h := evT h
    refine zz ?_
    exact ⟨_, zfuel, _, _, _, _, _, _, g1081984, h, leafFr [0, 1, 2, 3, 10, 13] (by kernel_rfl), by kernel_rfl⟩
  clear h; rintro _ _ ⟨k, hle, x0, x1, x2, x3, x10, x13, g1081984, h, ⟨fr0, rfl⟩, rfl⟩
  rcases k with _ | k
  · exact (run_zero h).elim
  rw [run_succ, laws_FnExactClosure.B] at h
  have h_ := evO h; clear h; obtain ⟨t72, ht, h⟩ := h_
  refine zz ?_
  refine Exists.intro _ (Exists.intro _ (And.intro (laws_markIntS_ev (h := ht)) ?_))
  have h_ := evO h; clear h; obtain ⟨t75, ht, h⟩ := h_
  refine zz ?_
  refine Exists.intro _ (And.intro (laws_heldIntS_ev (h := ht)) ?_)
  refine zz ?_
  refine br (iP h) ?_ ?_ <;> (clear h; intro c h)
  · replace h := evR h; cases h
    refine zz ?_
    first | exact ⟨trivial, [], [], ⟨rfl, trivial⟩, _, rfl, _, rfl, And.intro rfl rfl⟩ | exact ⟨[], [], ⟨rfl, trivial⟩, _, rfl, _, rfl, And.intro rfl rfl⟩
  refine zz ?_
  refine brN (iP h) ?_ ?_ <;> (clear h; intro c h)
  · replace h := evR h; cases h
    refine zz ?_
    first | exact ⟨trivial, [], [], ⟨rfl, trivial⟩, _, rfl, _, rfl, And.intro rfl rfl⟩ | exact ⟨[], [], ⟨rfl, trivial⟩, _, rfl, _, rfl, And.intro rfl rfl⟩
  have h_ := evO h; clear h; obtain ⟨t82, ht, h⟩ := h_
  refine zz ?_
  refine Exists.intro _ (Exists.intro _ (And.intro (laws_toPlaceS_ev (h := ht)) ?_))
  have h_ := evO h; clear h; obtain ⟨t84, ht, h⟩ := h_
  refine zz ?_
  refine Exists.intro _ (Exists.intro _ (And.intro (laws_toIntS_ev (h := ht)) ?_))
  have h_ := evO h; clear h; obtain ⟨t87, ht, h⟩ := h_
  refine zz ?_
  refine Exists.intro _ (Exists.intro _ (And.intro (impl_Closure_2_ev (h := ht)) ?_))
  have h_ := evO h; clear h; obtain ⟨t90, ht, h⟩ := h_
  refine zz ?_
  refine Exists.intro _ (Exists.intro _ (And.intro (laws_eqIntS_2_ev (h := ht)) ?_))
  refine zz ?_
  refine brN (iP h) ?_ ?_ <;> (clear h; intro c h)
  · replace h := evR h; cases h
    refine zz ?_
    first | exact ⟨trivial, [], [], ⟨rfl, trivial⟩, _, rfl, _, rfl, And.intro rfl rfl⟩ | exact ⟨[], [], ⟨rfl, trivial⟩, _, rfl, _, rfl, And.intro rfl rfl⟩
  have h_ := evO h; clear h; obtain ⟨t94, ht, h⟩ := h_
  refine zz ?_
  refine Exists.intro _ (And.intro (laws_heldIntS_ev (h := ht)) ?_)
  refine zz ?_
  refine br (iP h) ?_ ?_ <;> (clear h; intro c h)
  · replace h := evR h; cases h
    refine zz ?_
    first | exact ⟨trivial, [], [], ⟨rfl, trivial⟩, _, rfl, _, rfl, And.intro rfl rfl⟩ | exact ⟨[], [], ⟨rfl, trivial⟩, _, rfl, _, rfl, And.intro rfl rfl⟩
  refine zz ?_
  refine brN (iP h) ?_ ?_ <;> (clear h; intro c h)
  · replace h := evR h; cases h
    refine zz ?_
    first | exact ⟨trivial, [], [], ⟨rfl, trivial⟩, _, rfl, _, rfl, And.intro rfl rfl⟩ | exact ⟨[], [], ⟨rfl, trivial⟩, _, rfl, _, rfl, And.intro rfl rfl⟩
  replace h := evR h; cases h
  refine zz ?_
  first | exact ⟨trivial, [], [], ⟨rfl, trivial⟩, _, rfl, _, rfl, And.intro rfl rfl⟩ | exact ⟨[], [], ⟨rfl, trivial⟩, _, rfl, _, rfl, And.intro rfl rfl⟩
end Go.Proofs.Ytfdpehmefgfjgaa.TFnExactClosure
