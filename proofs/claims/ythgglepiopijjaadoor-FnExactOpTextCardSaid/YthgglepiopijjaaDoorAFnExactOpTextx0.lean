/- The walks of the functions that FnExactOpText reaches, through the abstract machine. -/
import Derived.Test.YthgglepiopijjaaDoorAFnExactOpTexth
import Derived.Test.YthgglepiopijjaaDoorFFnExactOpText
import Derived.Test.YthgglepiopijjaaDoorProg
set_option maxHeartbeats 4000000
set_option maxRecDepth 100000
set_option linter.unusedVariables false
set_option linter.unusedSimpArgs false
namespace Go.Proofs.YthgglepiopijjaaDoor.TFnExactOpText
open Go Go.RowKit Go.Proofs Go.Proofs.YthgglepiopijjaaDoorW.AM Go.Proofs.YthgglepiopijjaaDoor.QFnExactOpText Go.Proofs.YthgglepiopijjaaDoorW.PrintWords Go.Proofs.YthgglepiopijjaaDoorW.Pgs
variable {m_ : Int}
theorem laws_szOp_ev (a0_0 : Int) (a0_1 : Int) (a0_2 : ByteArray) (a1 : Int) (r : Int) (h : laws_szOp.f a0_0 a0_1 a0_2 a1 = some r) : CE (G m_) 4 [.val (.agg [.int .i64 a0_0, .int .i64 a0_1, .str a0_2]), .val (.int .i64 a1)] [] [.val (.int .i64 r)] [] := by
  refine CE.mk ⟨Tryd.f4, _, rfl, rfl, ⟨by kernel_rfl, Nat.le_of_ble_eq_true rfl, Nat.le_of_ble_eq_true rfl⟩, ?_⟩
  rw [laws_szOp.f] at h
  refine zz ?_
  refine br (iteS h) ?_ ?_ <;> (clear h; intro c h)
  · cases h
    refine zz ?_
    first | exact ⟨trivial, [], [], ⟨rfl, trivial⟩, _, rfl, _, rfl, And.intro rfl rfl⟩ | exact ⟨[], [], ⟨rfl, trivial⟩, _, rfl, _, rfl, And.intro rfl rfl⟩
  cases h
  refine zz ?_
  first | exact ⟨trivial, [], [], ⟨rfl, trivial⟩, _, rfl, _, rfl, And.intro rfl rfl⟩ | exact ⟨[], [], ⟨rfl, trivial⟩, _, rfl, _, rfl, And.intro rfl rfl⟩
theorem laws_toOp_ev (a0_0 : Int) (a0_1 : Int) (a0_2 : ByteArray) (r1 : Int) (r2 : Int) (r3 : ByteArray) (h : laws_toOp.f a0_0 a0_1 a0_2 = some (r1, r2, r3)) : CE (G m_) 6 [.val (.agg [.int .i64 a0_0, .int .i64 a0_1, .str a0_2])] [] [.val (.agg [.int .i64 r1, .int .i64 r2, .str r3])] [] := by
  refine CE.mk ⟨Tryd.f6, _, rfl, rfl, ⟨by kernel_rfl, Nat.le_of_ble_eq_true rfl, Nat.le_of_ble_eq_true rfl⟩, ?_⟩
  rw [laws_toOp.f] at h
  cases h
  refine zz ?_
  first | exact ⟨trivial, [], [], ⟨rfl, trivial⟩, _, rfl, _, rfl, And.intro rfl rfl⟩ | exact ⟨[], [], ⟨rfl, trivial⟩, _, rfl, _, rfl, And.intro rfl rfl⟩
theorem spec_l1In_ev (a0 : Int) (a1 : Int) (a2 : Int) (r : Bool) (h : spec_l1In.f a0 a1 a2 = some r) : CE (G m_) 8 [.val (.int .i64 a0), .val (.int .i64 a1), .val (.int .i64 a2)] [] [.val (.bool r)] [] := by
  refine CE.mk ⟨Tryd.f8, _, rfl, rfl, ⟨by kernel_rfl, Nat.le_of_ble_eq_true rfl, Nat.le_of_ble_eq_true rfl⟩, ?_⟩
  rw [spec_l1In.f] at h
  refine zz ?_
  refine br (iteS h) ?_ ?_ <;> (clear h; intro c h)
  · refine zz ?_
    try (apply Or.inl; refine zK ?_)
    refine zz ?_
    try (apply Or.inl; refine zK ?_)
    refine zz ?_
    try (apply Or.inl; refine zK ?_)
    cases h
    refine zz ?_
    first | exact ⟨trivial, [], [], ⟨rfl, trivial⟩, _, rfl, _, rfl, And.intro rfl rfl⟩ | exact ⟨[], [], ⟨rfl, trivial⟩, _, rfl, _, rfl, And.intro rfl rfl⟩
  refine zz ?_
  try (apply Or.inr; refine zK ?_)
  refine zz ?_
  try (apply Or.inr; refine zK ?_)
  refine zz ?_
  try (apply Or.inr; refine zK ?_)
  cases h
  refine zz ?_
  first | exact ⟨trivial, [], [], ⟨rfl, trivial⟩, _, rfl, _, rfl, And.intro rfl rfl⟩ | exact ⟨[], [], ⟨rfl, trivial⟩, _, rfl, _, rfl, And.intro rfl rfl⟩
theorem spec_DecOk_ev (a0 : Int) (r : Bool) (h : spec_DecOk.f a0 = some r) : CE (G m_) 14 [.val (.int .i64 a0)] [] [.val (.bool r)] [] := by
  refine CE.mk ⟨Tryd.f14, _, rfl, rfl, ⟨by kernel_rfl, Nat.le_of_ble_eq_true rfl, Nat.le_of_ble_eq_true rfl⟩, ?_⟩
  rw [spec_DecOk.f] at h
  have h_ := oS h; clear h; obtain ⟨t4, ht, h⟩ := h_
  refine zz ?_
  refine Exists.intro _ (And.intro (spec_l1In_ev (h := ht)) ?_)
  cases h
  refine zz ?_
  first | exact ⟨trivial, [], [], ⟨rfl, trivial⟩, _, rfl, _, rfl, And.intro rfl rfl⟩ | exact ⟨[], [], ⟨rfl, trivial⟩, _, rfl, _, rfl, And.intro rfl rfl⟩
theorem spec_l1Abs_ev (a0 : Int) (r : Int) (h : spec_l1Abs.f a0 = some r) : CE (G m_) 15 [.val (.int .i64 a0)] [] [.val (.int .i64 r)] [] := by
  refine CE.mk ⟨Tryd.f15, _, rfl, rfl, ⟨by kernel_rfl, Nat.le_of_ble_eq_true rfl, Nat.le_of_ble_eq_true rfl⟩, ?_⟩
  rw [spec_l1Abs.f] at h
  refine zz ?_
  refine br (iteS h) ?_ ?_ <;> (clear h; intro c h)
  · cases h
    refine zz ?_
    first | exact ⟨trivial, [], [], ⟨rfl, trivial⟩, _, rfl, _, rfl, And.intro rfl rfl⟩ | exact ⟨[], [], ⟨rfl, trivial⟩, _, rfl, _, rfl, And.intro rfl rfl⟩
  cases h
  refine zz ?_
  first | exact ⟨trivial, [], [], ⟨rfl, trivial⟩, _, rfl, _, rfl, And.intro rfl rfl⟩ | exact ⟨[], [], ⟨rfl, trivial⟩, _, rfl, _, rfl, And.intro rfl rfl⟩
theorem spec_l2Digits_ev (a0 : Int) (r : ByteArray) (h : spec_l2Digits.fv a0 = some r) : CE (G m_) 10 [.val (.int .i64 a0)] [] [.val (.str r)] [] := by
  obtain ⟨k, h⟩ := lim_ex h
  refine CE.mk ⟨Tryd.f10, _, rfl, rfl, ⟨by kernel_rfl, Nat.le_of_ble_eq_true rfl, Nat.le_of_ble_eq_true rfl⟩, ?_⟩
  rcases k with _ | k
  · exact (run_zero h).elim
  rw [run_succ, spec_l2Digits.B] at h
  refine zz ?_
  refine br (iP h) ?_ ?_ <;> (clear h; intro c h)
  · replace h := evR h; cases h
    refine zz ?_
    first | exact ⟨trivial, [], [], ⟨rfl, trivial⟩, _, rfl, _, rfl, And.intro rfl rfl⟩ | exact ⟨[], [], ⟨rfl, trivial⟩, _, rfl, _, rfl, And.intro rfl rfl⟩
  replace h := evT h
  refine zz ?_
  refine loopJ [] (fun kq fr hp => ∃ (x0 : Int) (x3 : ByteArray), run spec_l2Digits.B kq (.l0 x0 x3) = some r ∧ (∃ fr0, fr = puts [(0, .one (.val (.int .i64 x0))), (3, .one (.val (.str x3)))] fr0) ∧ hp = (fun _ => none)) k ⟨_, zfuel, _, _, h, leafFr [0, 3] (by kernel_rfl), by kernel_rfl⟩ ?_
  clear h; rintro k hle _ _ ⟨x0, x3, h, ⟨fr0, rfl⟩, rfl⟩
  rcases k with _ | k
  · exact (run_zero h).elim
  rw [run_succ, spec_l2Digits.B] at h
  refine zz ?_
  refine br (iP h) ?_ ?_ <;> (clear h; intro c h)
  rotate_left
  · replace h := evR h; cases h
    refine zz ?_
    first | exact ⟨trivial, [], [], ⟨rfl, trivial⟩, _, rfl, _, rfl, And.intro rfl rfl⟩ | exact ⟨[], [], ⟨rfl, trivial⟩, _, rfl, _, rfl, And.intro rfl rfl⟩
  refine zz ?_
  refine Exists.intro (List.map (VV.int .u8) ([(((wrap64 (48 + (Int.tmod x0 10)))) % 256)] : List Int)) (And.intro zrow ?_)
  have h_ := gP h; clear h; obtain ⟨c, h⟩ := h_
  replace h := evT h
  refine zz ?_
  exact ⟨_, zfuel, _, _, h, leafFr [0, 3] (by kernel_rfl), by kernel_rfl⟩
theorem spec_DecText_ev (a0 : Int) (r : ByteArray) (h : spec_DecText.fv a0 = some r) : CE (G m_) 9 [.val (.int .i64 a0)] [] [.val (.str r)] [] := by
  obtain ⟨k, h⟩ := lim_ex h
  refine CE.mk ⟨Tryd.f9, _, rfl, rfl, ⟨by kernel_rfl, Nat.le_of_ble_eq_true rfl, Nat.le_of_ble_eq_true rfl⟩, ?_⟩
  rcases k with _ | k
  · exact (run_zero h).elim
  rw [run_succ, spec_DecText.B] at h
  have h_ := evO h; clear h; obtain ⟨t8, ht, h⟩ := h_
  refine zz ?_
  refine Exists.intro _ (And.intro (spec_DecOk_ev (h := ht)) ?_)
  refine zz ?_
  refine brN (iP h) ?_ ?_ <;> (clear h; intro c h)
  · replace h := evR h; cases h
    refine zz ?_
    first | exact ⟨trivial, [], [], ⟨rfl, trivial⟩, _, rfl, _, rfl, And.intro rfl rfl⟩ | exact ⟨[], [], ⟨rfl, trivial⟩, _, rfl, _, rfl, And.intro rfl rfl⟩
  have h_ := evO h; clear h; obtain ⟨t11, ht, h⟩ := h_
  refine zz ?_
  refine Exists.intro _ (And.intro (spec_l1Abs_ev (h := ht)) ?_)
  have h_ := evO h; clear h; obtain ⟨t14, ht, h⟩ := h_
  refine zz ?_
  refine Exists.intro _ (And.intro (spec_l2Digits_ev (h := ht)) ?_)
  refine zz ?_
  refine br (iP h) ?_ ?_ <;> (clear h; intro c h)
  rotate_left
  · refine zz ?_
    refine br (iP h) ?_ ?_ <;> (clear h; intro c h)
    rotate_left
    · replace h := evR h; cases h
      refine zz ?_
      first | exact ⟨trivial, [], [], ⟨rfl, trivial⟩, _, rfl, _, rfl, And.intro rfl rfl⟩ | exact ⟨[], [], ⟨rfl, trivial⟩, _, rfl, _, rfl, And.intro rfl rfl⟩
    have h_ := gP h; clear h; obtain ⟨c, h⟩ := h_
    replace h := evR h; cases h
    refine zz ?_
    first | exact ⟨trivial, [], [], ⟨rfl, trivial⟩, _, rfl, _, rfl, And.intro rfl rfl⟩ | exact ⟨[], [], ⟨rfl, trivial⟩, _, rfl, _, rfl, And.intro rfl rfl⟩
  have h_ := evO h; clear h; obtain ⟨t21, ht, h⟩ := h_
  refine zz ?_
  refine Exists.intro _ (And.intro (spec_l2Digits_ev (h := ht)) ?_)
  have h_ := gP h; clear h; obtain ⟨c, h⟩ := h_
  replace h := evT h
  refine zz ?_
  refine loopJ [] (fun kq fr hp => ∃ (x0 : Int) (x4 : ByteArray) (x6 : ByteArray), run spec_DecText.B kq (.l0 x0 x4 x6) = some r ∧ (∃ fr0, fr = puts [(0, .one (.val (.int .i64 x0))), (4, .one (.val (.str x4))), (6, .one (.val (.str x6)))] fr0) ∧ hp = (fun _ => none)) k ⟨_, zfuel, _, _, _, h, leafFr [0, 4, 6] (by kernel_rfl), by kernel_rfl⟩ ?_
  clear h; rintro k hle _ _ ⟨x0, x4, x6, h, ⟨fr0, rfl⟩, rfl⟩
  rcases k with _ | k
  · exact (run_zero h).elim
  rw [run_succ, spec_DecText.B] at h
  have h_ := gP h; clear h; obtain ⟨c, h⟩ := h_
  have h_ := gP h; clear h; obtain ⟨c, h⟩ := h_
  refine zz ?_
  refine br (iP h) ?_ ?_ <;> (clear h; intro c h)
  · have h_ := gP h; clear h; obtain ⟨c, h⟩ := h_
    replace h := evT h
    refine zz ?_
    exact ⟨_, zfuel, _, _, _, h, leafFr [0, 4, 6] (by kernel_rfl), by kernel_rfl⟩
  have h_ := gP h; clear h; obtain ⟨c, h⟩ := h_
  have h_ := gP h; clear h; obtain ⟨c, h⟩ := h_
  refine zz ?_
  refine br (iP h) ?_ ?_ <;> (clear h; intro c h)
  rotate_left
  · replace h := evR h; cases h
    refine zz ?_
    first | exact ⟨trivial, [], [], ⟨rfl, trivial⟩, _, rfl, _, rfl, And.intro rfl rfl⟩ | exact ⟨[], [], ⟨rfl, trivial⟩, _, rfl, _, rfl, And.intro rfl rfl⟩
  have h_ := gP h; clear h; obtain ⟨c, h⟩ := h_
  replace h := evR h; cases h
  refine zz ?_
  first | exact ⟨trivial, [], [], ⟨rfl, trivial⟩, _, rfl, _, rfl, And.intro rfl rfl⟩ | exact ⟨[], [], ⟨rfl, trivial⟩, _, rfl, _, rfl, And.intro rfl rfl⟩
theorem spec_OpText_ev (a0_0 : Int) (a0_1 : Int) (a0_2 : ByteArray) (r : ByteArray) (h : spec_OpText.fv a0_0 a0_1 a0_2 = some r) : CE (G m_) 5 [.val (.agg [.int .i64 a0_0, .int .i64 a0_1, .str a0_2])] [] [.val (.str r)] [] := by
  obtain ⟨k, h⟩ := lim_ex h
  refine CE.mk ⟨Tryd.f5, _, rfl, rfl, ⟨by kernel_rfl, Nat.le_of_ble_eq_true rfl, Nat.le_of_ble_eq_true rfl⟩, ?_⟩
  rcases k with _ | k
  · exact (run_zero h).elim
  rw [run_succ, spec_OpText.B] at h
  have h_ := evO h; clear h; obtain ⟨y1_0, hy, h⟩ := h_
  refine zz ?_
  refine Exists.intro (y1_0.map VV.str) (And.intro (by rw [← Option.some.inj hy]; exact zrow) ?_)
  have h_ := evO h; clear h; obtain ⟨t8, ht, h⟩ := h_
  refine zz ?_
  refine Exists.intro _ (And.intro (spec_l1In_ev (h := ht)) ?_)
  refine zz ?_
  refine brN (iP h) ?_ ?_ <;> (clear h; intro c h)
  · replace h := evR h; cases h
    refine zz ?_
    first | exact ⟨trivial, [], [], ⟨rfl, trivial⟩, _, rfl, _, rfl, And.intro rfl rfl⟩ | exact ⟨[], [], ⟨rfl, trivial⟩, _, rfl, _, rfl, And.intro rfl rfl⟩
  have h_ := gP h; clear h; obtain ⟨c, h⟩ := h_
  have h_ := gP h; clear h; obtain ⟨c, h⟩ := h_
  refine zz ?_
  refine cutJ (n := 100000) [16] (fun fr hp => ∃ kq, kq ≤ k ∧ ∃ (x4 : ByteArray) (x16_0 : Int) (x16_1 : Int) (x16_2 : ByteArray), run spec_OpText.B kq (.j0 x4 x16_0 x16_1 x16_2) = some r ∧ (∃ fr0, fr = puts [(1, .one (.ptr 16 0)), (4, .one (.val (.str x4)))] fr0) ∧ hp = (upd 16 (.box [.val (.int .i64 x16_0), .val (.int .i64 x16_1), .val (.str x16_2)]) (fun _ => none))) ?_ ?_
  · refine zz ?_
    refine br (iP h) ?_ ?_ <;> (clear h; intro c h)
    · have h_ := gP h; clear h; obtain ⟨c, h⟩ := h_
      have h_ := evO h; clear h; obtain ⟨t23, ht, h⟩ := h_
      refine zz ?_
      refine Exists.intro _ (And.intro (spec_DecText_ev (h := ht)) ?_)
      have h_ := gP h; clear h; obtain ⟨c, h⟩ := h_
      replace h := evT h
      refine zz ?_
      exact ⟨_, zfuel, _, _, _, _, h, leafFr [1, 4] (by kernel_rfl), by kernel_rfl⟩
    refine zz ?_
    refine cutJ (n := 25) [16] (fun fr hp => ∃ kq, kq ≤ k ∧ ∃ (x4 : ByteArray) (x25 : Bool) (x16_0 : Int) (x16_1 : Int) (x16_2 : ByteArray), run spec_OpText.B kq (.j1 x4 x25 x16_0 x16_1 x16_2) = some r ∧ (∃ fr0, fr = puts [(1, .one (.ptr 16 0)), (4, .one (.val (.str x4))), (25, .one (.val (.bool x25)))] fr0) ∧ hp = (upd 16 (.box [.val (.int .i64 x16_0), .val (.int .i64 x16_1), .val (.str x16_2)]) (fun _ => none))) ?_ ?_
    · refine zz ?_
      refine br (iP h) ?_ ?_ <;> (clear h; intro c h)
      · replace h := evT h
        refine zz ?_
        exact ⟨_, zfuel, _, _, _, _, _, h, leafFr [1, 4, 25] (by kernel_rfl), by kernel_rfl⟩
      refine zz ?_
      refine br (iP h) ?_ ?_ <;> (clear h; intro c h)
      · replace h := evT h
        refine zz ?_
        exact ⟨_, zfuel, _, _, _, _, _, h, leafFr [1, 4, 25] (by kernel_rfl), by kernel_rfl⟩
      refine zz ?_
      refine br (iP h) ?_ ?_ <;> (clear h; intro c h)
      · replace h := evT h
        refine zz ?_
        exact ⟨_, zfuel, _, _, _, _, _, h, leafFr [1, 4, 25] (by kernel_rfl), by kernel_rfl⟩
      refine zz ?_
      refine br (iP h) ?_ ?_ <;> (clear h; intro c h)
      · replace h := evT h
        refine zz ?_
        exact ⟨_, zfuel, _, _, _, _, _, h, leafFr [1, 4, 25] (by kernel_rfl), by kernel_rfl⟩
      refine zz ?_
      refine br (iP h) ?_ ?_ <;> (clear h; intro c h)
      · replace h := evT h
        refine zz ?_
        exact ⟨_, zfuel, _, _, _, _, _, h, leafFr [1, 4, 25] (by kernel_rfl), by kernel_rfl⟩
      refine zz ?_
      refine br (iP h) ?_ ?_ <;> (clear h; intro c h)
      · replace h := evT h
        refine zz ?_
        exact ⟨_, zfuel, _, _, _, _, _, h, leafFr [1, 4, 25] (by kernel_rfl), by kernel_rfl⟩
      refine zz ?_
      refine br (iP h) ?_ ?_ <;> (clear h; intro c h)
      · replace h := evT h
        refine zz ?_
        exact ⟨_, zfuel, _, _, _, _, _, h, leafFr [1, 4, 25] (by kernel_rfl), by kernel_rfl⟩
      refine zz ?_
      refine br (iP h) ?_ ?_ <;> (clear h; intro c h)
      · replace h := evT h
        refine zz ?_
        exact ⟨_, zfuel, _, _, _, _, _, h, leafFr [1, 4, 25] (by kernel_rfl), by kernel_rfl⟩
      refine zz ?_
      refine br (iP h) ?_ ?_ <;> (clear h; intro c h)
      · replace h := evT h
        refine zz ?_
        exact ⟨_, zfuel, _, _, _, _, _, h, leafFr [1, 4, 25] (by kernel_rfl), by kernel_rfl⟩
      refine zz ?_
      refine br (iP h) ?_ ?_ <;> (clear h; intro c h)
      · replace h := evT h
        refine zz ?_
        exact ⟨_, zfuel, _, _, _, _, _, h, leafFr [1, 4, 25] (by kernel_rfl), by kernel_rfl⟩
      replace h := evT h
      refine zz ?_
      exact ⟨_, zfuel, _, _, _, _, _, h, leafFr [1, 4, 25] (by kernel_rfl), by kernel_rfl⟩
    clear h; rintro _ _ ⟨k, hle, x4, x25, x16_0, x16_1, x16_2, h, ⟨fr0, rfl⟩, rfl⟩
    rcases k with _ | k
    · exact (run_zero h).elim
    rw [run_succ, spec_OpText.B] at h
    refine zz ?_
    refine br (iP h) ?_ ?_ <;> (clear h; intro c h)
    rotate_left
    · replace h := evT h
      refine zz ?_
      exact ⟨_, zfuel, _, _, _, _, h, leafFr [1, 4] (by kernel_rfl), by kernel_rfl⟩
    have h_ := gP h; clear h; obtain ⟨c, h⟩ := h_
    have h_ := evO h; clear h; obtain ⟨t41, ht, h⟩ := h_
    refine zz ?_
    refine Exists.intro _ (And.intro (spec_l2Digits_ev (h := ht)) ?_)
    have h_ := gP h; clear h; obtain ⟨c, h⟩ := h_
    replace h := evT h
    refine zz ?_
    exact ⟨_, zfuel, _, _, _, _, h, leafFr [1, 4] (by kernel_rfl), by kernel_rfl⟩
  clear h; rintro _ _ ⟨k, hle, x4, x16_0, x16_1, x16_2, h, ⟨fr0, rfl⟩, rfl⟩
  rcases k with _ | k
  · exact (run_zero h).elim
  rw [run_succ, spec_OpText.B] at h
  refine zz ?_
  refine cutJ (n := 200020) [16] (fun fr hp => ∃ kq, kq ≤ k ∧ ∃ (x4 : ByteArray) (x60 : Bool) (x16_0 : Int) (x16_1 : Int) (x16_2 : ByteArray), run spec_OpText.B kq (.j2 x4 x60 x16_0 x16_1 x16_2) = some r ∧ (∃ fr0, fr = puts [(1, .one (.ptr 16 0)), (4, .one (.val (.str x4))), (60, .one (.val (.bool x60)))] fr0) ∧ hp = (upd 16 (.box [.val (.int .i64 x16_0), .val (.int .i64 x16_1), .val (.str x16_2)]) (fun _ => none))) ?_ ?_
  · refine zz ?_
    refine brW (iP h) ?_ ?_ <;> (clear h; intro c h)
    rotate_left
    · refine zz ?_
      try (apply Or.inr; refine zK ?_)
      refine zz ?_
      try (apply Or.inr; refine zK ?_)
      refine zz ?_
      try (apply Or.inl; refine zK ?_)
      refine zz ?_
      try (apply Or.inr; refine zK ?_)
      refine zz ?_
      try (apply Or.inr; refine zK ?_)
      refine zz ?_
      try (apply Or.inr; refine zK ?_)
      refine zz ?_
      try (apply Or.inl; refine zK ?_)
      refine zz ?_
      try (apply Or.inr; refine zK ?_)
      refine zz ?_
      try (apply Or.inr; refine zK ?_)
      refine zz ?_
      try (apply Or.inr; refine zK ?_)
      refine zz ?_
      try (apply Or.inl; refine zK ?_)
      replace h := evT h
      refine zz ?_
      exact ⟨_, zfuel, _, _, _, _, _, h, leafFr [1, 4, 60] (by kernel_rfl), by kernel_rfl⟩
    refine zz ?_
    try (apply Or.inl; refine zK ?_)
    refine zz ?_
    try (apply Or.inl; refine zK ?_)
    refine zz ?_
    try (apply Or.inr; refine zK ?_)
    refine zz ?_
    refine brW (iP h) ?_ ?_ <;> (clear h; intro c h)
    rotate_left
    · refine zz ?_
      try (apply Or.inr; refine zK ?_)
      refine zz ?_
      try (apply Or.inr; refine zK ?_)
      refine zz ?_
      try (apply Or.inl; refine zK ?_)
      refine zz ?_
      try (apply Or.inr; refine zK ?_)
      refine zz ?_
      try (apply Or.inr; refine zK ?_)
      refine zz ?_
      try (apply Or.inr; refine zK ?_)
      refine zz ?_
      try (apply Or.inl; refine zK ?_)
      replace h := evT h
      refine zz ?_
      exact ⟨_, zfuel, _, _, _, _, _, h, leafFr [1, 4, 60] (by kernel_rfl), by kernel_rfl⟩
    refine zz ?_
    try (apply Or.inl; refine zK ?_)
    refine zz ?_
    try (apply Or.inl; refine zK ?_)
    refine zz ?_
    try (apply Or.inr; refine zK ?_)
    refine zz ?_
    refine brW (iP h) ?_ ?_ <;> (clear h; intro c h)
    · refine zz ?_
      try (apply Or.inl; refine zK ?_)
      refine zz ?_
      try (apply Or.inl; refine zK ?_)
      refine zz ?_
      try (apply Or.inr; refine zK ?_)
      replace h := evT h
      refine zz ?_
      exact ⟨_, zfuel, _, _, _, _, _, h, leafFr [1, 4, 60] (by kernel_rfl), by kernel_rfl⟩
    refine zz ?_
    try (apply Or.inr; refine zK ?_)
    refine zz ?_
    try (apply Or.inr; refine zK ?_)
    refine zz ?_
    try (apply Or.inl; refine zK ?_)
    replace h := evT h
    refine zz ?_
    exact ⟨_, zfuel, _, _, _, _, _, h, leafFr [1, 4, 60] (by kernel_rfl), by kernel_rfl⟩
  clear h; rintro _ _ ⟨k, hle, x4, x60, x16_0, x16_1, x16_2, h, ⟨fr0, rfl⟩, rfl⟩
  rcases k with _ | k
  · exact (run_zero h).elim
  rw [run_succ, spec_OpText.B] at h
  refine zz ?_
  refine br (iP h) ?_ ?_ <;> (clear h; intro c h)
  rotate_left
  · replace h := evR h; cases h
    refine zz ?_
    first | exact ⟨trivial, [], [], ⟨rfl, trivial⟩, _, rfl, _, rfl, And.intro rfl rfl⟩ | exact ⟨[], [], ⟨rfl, trivial⟩, _, rfl, _, rfl, And.intro rfl rfl⟩
  have h_ := gP h; clear h; obtain ⟨c, h⟩ := h_
  have h_ := gP h; clear h; obtain ⟨c, h⟩ := h_
  have h_ := gP h; clear h; obtain ⟨c, h⟩ := h_
  replace h := evR h; cases h
  refine zz ?_
  first | exact ⟨trivial, [], [], ⟨rfl, trivial⟩, _, rfl, _, rfl, And.intro rfl rfl⟩ | exact ⟨[], [], ⟨rfl, trivial⟩, _, rfl, _, rfl, And.intro rfl rfl⟩
theorem impl_in_ev (a0 : Int) (a1 : Int) (a2 : Int) (r : Bool) (h : impl_in.f a0 a1 a2 = some r) : CE (G m_) 16 [.val (.int .i64 a0), .val (.int .i64 a1), .val (.int .i64 a2)] [] [.val (.bool r)] [] := by
  refine CE.mk ⟨Tryd.f16, _, rfl, rfl, ⟨by kernel_rfl, Nat.le_of_ble_eq_true rfl, Nat.le_of_ble_eq_true rfl⟩, ?_⟩
  rw [impl_in.f] at h
  refine zz ?_
  refine br (iteS h) ?_ ?_ <;> (clear h; intro c h)
  · refine zz ?_
    try (apply Or.inl; refine zK ?_)
    refine zz ?_
    try (apply Or.inl; refine zK ?_)
    refine zz ?_
    try (apply Or.inl; refine zK ?_)
    cases h
    refine zz ?_
    first | exact ⟨trivial, [], [], ⟨rfl, trivial⟩, _, rfl, _, rfl, And.intro rfl rfl⟩ | exact ⟨[], [], ⟨rfl, trivial⟩, _, rfl, _, rfl, And.intro rfl rfl⟩
  refine zz ?_
  try (apply Or.inr; refine zK ?_)
  refine zz ?_
  try (apply Or.inr; refine zK ?_)
  refine zz ?_
  try (apply Or.inr; refine zK ?_)
  cases h
  refine zz ?_
  first | exact ⟨trivial, [], [], ⟨rfl, trivial⟩, _, rfl, _, rfl, And.intro rfl rfl⟩ | exact ⟨[], [], ⟨rfl, trivial⟩, _, rfl, _, rfl, And.intro rfl rfl⟩
theorem impl_opName_ev (a0 : Int) (r1 : ByteArray) (r2 : ByteArray) (h : impl_opName.fv a0 = some (r1, r2)) : CE (G m_) 11 [.val (.int .i64 a0)] [] [.val (.str r1), .val (.str r2)] [] := by
  obtain ⟨k, h⟩ := lim_ex h
  refine CE.mk ⟨Tryd.f11, _, rfl, rfl, ⟨by kernel_rfl, Nat.le_of_ble_eq_true rfl, Nat.le_of_ble_eq_true rfl⟩, ?_⟩
  rcases k with _ | k
  · exact (run_zero h).elim
  rw [run_succ, impl_opName.B] at h
  have h_ := evO h; clear h; obtain ⟨y1_0, hy, h⟩ := h_
  refine zz ?_
  refine Exists.intro (y1_0.map VV.str) (And.intro (by rw [← Option.some.inj hy]; exact zrow) ?_)
  have h_ := evO h; clear h; obtain ⟨t11, ht, h⟩ := h_
  refine zz ?_
  refine Exists.intro _ (And.intro (impl_in_ev (h := ht)) ?_)
  refine zz ?_
  refine brN (iP h) ?_ ?_ <;> (clear h; intro c h)
  · replace h := evR h; cases h
    refine zz ?_
    first | exact ⟨trivial, [], [], ⟨rfl, trivial⟩, _, rfl, _, rfl, And.intro rfl rfl⟩ | exact ⟨[], [], ⟨rfl, trivial⟩, _, rfl, _, rfl, And.intro rfl rfl⟩
  refine zz ?_
  refine br (iP h) ?_ ?_ <;> (clear h; intro c h)
  · have h_ := gP h; clear h; obtain ⟨c, h⟩ := h_
    have h_ := gP h; clear h; obtain ⟨c, h⟩ := h_
    replace h := evR h; cases h
    refine zz ?_
    first | exact ⟨trivial, [], [], ⟨rfl, trivial⟩, _, rfl, _, rfl, And.intro rfl rfl⟩ | exact ⟨[], [], ⟨rfl, trivial⟩, _, rfl, _, rfl, And.intro rfl rfl⟩
  refine zz ?_
  refine cutJ (n := 16) [528] (fun fr hp => ∃ kq, kq ≤ k ∧ ∃ (x0 : Int) (x4 : List ByteArray) (x5 : ByteArray) (x13 : Int) (x16 : Bool) (g528 : Nat), run impl_opName.B kq (.j0 x0 x4 x5 x13 x16) = some (r1, r2) ∧ (∃ fr0, fr = puts [(0, .one (.val (.int .i64 x0))), (4, .one (.ref 528 g528)), (5, .one (.val (.str x5))), (13, .one (.val (.int .i64 x13))), (16, .one (.val (.bool x16)))] fr0) ∧ hp = (upd 528 (.own 9 1 (x4.map VV.str) g528 false) (fun _ => none))) ?_ ?_
  · refine zz ?_
    refine br (iP h) ?_ ?_ <;> (clear h; intro c h)
    · replace h := evT h
      refine zz ?_
      exact ⟨_, zfuel, _, _, _, _, _, 0, h, leafFr [0, 4, 5, 13, 16] (by kernel_rfl), by kernel_rfl⟩
    refine zz ?_
    refine br (iP h) ?_ ?_ <;> (clear h; intro c h)
    · replace h := evT h
      refine zz ?_
      exact ⟨_, zfuel, _, _, _, _, _, 0, h, leafFr [0, 4, 5, 13, 16] (by kernel_rfl), by kernel_rfl⟩
    replace h := evT h
    refine zz ?_
    exact ⟨_, zfuel, _, _, _, _, _, 0, h, leafFr [0, 4, 5, 13, 16] (by kernel_rfl), by kernel_rfl⟩
  clear h; rintro _ _ ⟨k, hle, x0, x4, x5, x13, x16, g528, h, ⟨fr0, rfl⟩, rfl⟩
  rcases k with _ | k
  · exact (run_zero h).elim
  rw [run_succ, impl_opName.B] at h
  refine zz ?_
  refine br (iP h) ?_ ?_ <;> (clear h; intro c h)
  · have h_ := gP h; clear h; obtain ⟨c, h⟩ := h_
    have h_ := gP h; clear h; obtain ⟨c, h⟩ := h_
    replace h := evR h; cases h
    refine zz ?_
    first | exact ⟨trivial, [], [], ⟨rfl, trivial⟩, _, rfl, _, rfl, And.intro rfl rfl⟩ | exact ⟨[], [], ⟨rfl, trivial⟩, _, rfl, _, rfl, And.intro rfl rfl⟩
  refine zz ?_
  refine br (iP h) ?_ ?_ <;> (clear h; intro c h)
  · have h_ := gP h; clear h; obtain ⟨c, h⟩ := h_
    have h_ := gP h; clear h; obtain ⟨c, h⟩ := h_
    replace h := evR h; cases h
    refine zz ?_
    first | exact ⟨trivial, [], [], ⟨rfl, trivial⟩, _, rfl, _, rfl, And.intro rfl rfl⟩ | exact ⟨[], [], ⟨rfl, trivial⟩, _, rfl, _, rfl, And.intro rfl rfl⟩
  refine zz ?_
  refine br (iP h) ?_ ?_ <;> (clear h; intro c h)
  · refine zz ?_
    try (apply Or.inl; refine zK ?_)
    have h_ := gP h; clear h; obtain ⟨c, h⟩ := h_
    have h_ := gP h; clear h; obtain ⟨c, h⟩ := h_
    replace h := evR h; cases h
    refine zz ?_
    first | exact ⟨trivial, [], [], ⟨rfl, trivial⟩, _, rfl, _, rfl, And.intro rfl rfl⟩ | exact ⟨[], [], ⟨rfl, trivial⟩, _, rfl, _, rfl, And.intro rfl rfl⟩
  refine zz ?_
  refine br (iP h) ?_ ?_ <;> (clear h; intro c h)
  · refine zz ?_
    try (apply Or.inl; refine zK ?_)
    have h_ := gP h; clear h; obtain ⟨c, h⟩ := h_
    have h_ := gP h; clear h; obtain ⟨c, h⟩ := h_
    replace h := evR h; cases h
    refine zz ?_
    first | exact ⟨trivial, [], [], ⟨rfl, trivial⟩, _, rfl, _, rfl, And.intro rfl rfl⟩ | exact ⟨[], [], ⟨rfl, trivial⟩, _, rfl, _, rfl, And.intro rfl rfl⟩
  refine zz ?_
  refine br (iP h) ?_ ?_ <;> (clear h; intro c h)
  · refine zz ?_
    try (apply Or.inl; refine zK ?_)
    have h_ := gP h; clear h; obtain ⟨c, h⟩ := h_
    have h_ := gP h; clear h; obtain ⟨c, h⟩ := h_
    replace h := evR h; cases h
    refine zz ?_
    first | exact ⟨trivial, [], [], ⟨rfl, trivial⟩, _, rfl, _, rfl, And.intro rfl rfl⟩ | exact ⟨[], [], ⟨rfl, trivial⟩, _, rfl, _, rfl, And.intro rfl rfl⟩
  refine zz ?_
  refine br (iP h) ?_ ?_ <;> (clear h; intro c h)
  · refine zz ?_
    try (apply Or.inl; refine zK ?_)
    have h_ := gP h; clear h; obtain ⟨c, h⟩ := h_
    have h_ := gP h; clear h; obtain ⟨c, h⟩ := h_
    replace h := evR h; cases h
    refine zz ?_
    first | exact ⟨trivial, [], [], ⟨rfl, trivial⟩, _, rfl, _, rfl, And.intro rfl rfl⟩ | exact ⟨[], [], ⟨rfl, trivial⟩, _, rfl, _, rfl, And.intro rfl rfl⟩
  refine zz ?_
  refine br (iP h) ?_ ?_ <;> (clear h; intro c h)
  · refine zz ?_
    try (apply Or.inl; refine zK ?_)
    have h_ := gP h; clear h; obtain ⟨c, h⟩ := h_
    have h_ := gP h; clear h; obtain ⟨c, h⟩ := h_
    replace h := evR h; cases h
    refine zz ?_
    first | exact ⟨trivial, [], [], ⟨rfl, trivial⟩, _, rfl, _, rfl, And.intro rfl rfl⟩ | exact ⟨[], [], ⟨rfl, trivial⟩, _, rfl, _, rfl, And.intro rfl rfl⟩
  refine zz ?_
  refine br (iP h) ?_ ?_ <;> (clear h; intro c h)
  · refine zz ?_
    try (apply Or.inl; refine zK ?_)
    have h_ := gP h; clear h; obtain ⟨c, h⟩ := h_
    have h_ := gP h; clear h; obtain ⟨c, h⟩ := h_
    replace h := evR h; cases h
    refine zz ?_
    first | exact ⟨trivial, [], [], ⟨rfl, trivial⟩, _, rfl, _, rfl, And.intro rfl rfl⟩ | exact ⟨[], [], ⟨rfl, trivial⟩, _, rfl, _, rfl, And.intro rfl rfl⟩
  refine zz ?_
  refine br (iP h) ?_ ?_ <;> (clear h; intro c h)
  · refine zz ?_
    try (apply Or.inl; refine zK ?_)
    have h_ := gP h; clear h; obtain ⟨c, h⟩ := h_
    have h_ := gP h; clear h; obtain ⟨c, h⟩ := h_
    replace h := evR h; cases h
    refine zz ?_
    first | exact ⟨trivial, [], [], ⟨rfl, trivial⟩, _, rfl, _, rfl, And.intro rfl rfl⟩ | exact ⟨[], [], ⟨rfl, trivial⟩, _, rfl, _, rfl, And.intro rfl rfl⟩
  refine zz ?_
  refine br (iP h) ?_ ?_ <;> (clear h; intro c h)
  · refine zz ?_
    try (apply Or.inl; refine zK ?_)
    have h_ := gP h; clear h; obtain ⟨c, h⟩ := h_
    have h_ := gP h; clear h; obtain ⟨c, h⟩ := h_
    replace h := evR h; cases h
    refine zz ?_
    first | exact ⟨trivial, [], [], ⟨rfl, trivial⟩, _, rfl, _, rfl, And.intro rfl rfl⟩ | exact ⟨[], [], ⟨rfl, trivial⟩, _, rfl, _, rfl, And.intro rfl rfl⟩
  refine zz ?_
  refine br (iP h) ?_ ?_ <;> (clear h; intro c h)
  · refine zz ?_
    try (apply Or.inl; refine zK ?_)
    have h_ := gP h; clear h; obtain ⟨c, h⟩ := h_
    have h_ := gP h; clear h; obtain ⟨c, h⟩ := h_
    replace h := evR h; cases h
    refine zz ?_
    first | exact ⟨trivial, [], [], ⟨rfl, trivial⟩, _, rfl, _, rfl, And.intro rfl rfl⟩ | exact ⟨[], [], ⟨rfl, trivial⟩, _, rfl, _, rfl, And.intro rfl rfl⟩
  refine zz ?_
  refine br (iP h) ?_ ?_ <;> (clear h; intro c h)
  · have h_ := gP h; clear h; obtain ⟨c, h⟩ := h_
    have h_ := gP h; clear h; obtain ⟨c, h⟩ := h_
    replace h := evR h; cases h
    refine zz ?_
    first | exact ⟨trivial, [], [], ⟨rfl, trivial⟩, _, rfl, _, rfl, And.intro rfl rfl⟩ | exact ⟨[], [], ⟨rfl, trivial⟩, _, rfl, _, rfl, And.intro rfl rfl⟩
  have h_ := gP h; clear h; obtain ⟨c, h⟩ := h_
  have h_ := gP h; clear h; obtain ⟨c, h⟩ := h_
  replace h := evR h; cases h
  refine zz ?_
  first | exact ⟨trivial, [], [], ⟨rfl, trivial⟩, _, rfl, _, rfl, And.intro rfl rfl⟩ | exact ⟨[], [], ⟨rfl, trivial⟩, _, rfl, _, rfl, And.intro rfl rfl⟩
theorem impl_DecOk_ev (a0 : Int) (r : Bool) (h : impl_DecOk.f a0 = some r) : CE (G m_) 17 [.val (.int .i64 a0)] [] [.val (.bool r)] [] := by
  refine CE.mk ⟨Tryd.f17, _, rfl, rfl, ⟨by kernel_rfl, Nat.le_of_ble_eq_true rfl, Nat.le_of_ble_eq_true rfl⟩, ?_⟩
  rw [impl_DecOk.f] at h
  have h_ := oS h; clear h; obtain ⟨t4, ht, h⟩ := h_
  refine zz ?_
  refine Exists.intro _ (And.intro (impl_in_ev (h := ht)) ?_)
  cases h
  refine zz ?_
  first | exact ⟨trivial, [], [], ⟨rfl, trivial⟩, _, rfl, _, rfl, And.intro rfl rfl⟩ | exact ⟨[], [], ⟨rfl, trivial⟩, _, rfl, _, rfl, And.intro rfl rfl⟩
theorem impl_DecText_ev (a0 : Int) (r : ByteArray) (h : impl_DecText.fv a0 = some r) : CE (G m_) 12 [.val (.int .i64 a0)] [] [.val (.str r)] [] := by
  obtain ⟨k, h⟩ := lim_ex h
  refine CE.mk ⟨Tryd.f12, _, rfl, rfl, ⟨by kernel_rfl, Nat.le_of_ble_eq_true rfl, Nat.le_of_ble_eq_true rfl⟩, ?_⟩
  rcases k with _ | k
  · exact (run_zero h).elim
  rw [run_succ, impl_DecText.B] at h
  have h_ := evO h; clear h; obtain ⟨t7, ht, h⟩ := h_
  refine zz ?_
  refine Exists.intro _ (And.intro (impl_DecOk_ev (h := ht)) ?_)
  refine zz ?_
  refine brN (iP h) ?_ ?_ <;> (clear h; intro c h)
  · replace h := evR h; cases h
    refine zz ?_
    first | exact ⟨trivial, [], [], ⟨rfl, trivial⟩, _, rfl, _, rfl, And.intro rfl rfl⟩ | exact ⟨[], [], ⟨rfl, trivial⟩, _, rfl, _, rfl, And.intro rfl rfl⟩
  refine zz ?_
  refine cutJ (n := 10) [] (fun fr hp => ∃ kq, kq ≤ k ∧ ∃ (x0 : Int) (x3 : ByteArray), run impl_DecText.B kq (.j0 x0 x3) = some r ∧ (∃ fr0, fr = puts [(0, .one (.val (.int .i64 x0))), (3, .one (.val (.str x3)))] fr0) ∧ hp = (fun _ => none)) ?_ ?_
  · refine zz ?_
    refine br (iP h) ?_ ?_ <;> (clear h; intro c h)
    · replace h := evT h
      refine zz ?_
      exact ⟨_, zfuel, _, _, h, leafFr [0, 3] (by kernel_rfl), by kernel_rfl⟩
    replace h := evT h
    refine zz ?_
    exact ⟨_, zfuel, _, _, h, leafFr [0, 3] (by kernel_rfl), by kernel_rfl⟩
  clear h; rintro _ _ ⟨k, hle, x0, x3, h, ⟨fr0, rfl⟩, rfl⟩
  rcases k with _ | k
  · exact (run_zero h).elim
  rw [run_succ, impl_DecText.B] at h
  have h_ := evO h; clear h; obtain ⟨t16, ht, h⟩ := h_
  refine zz ?_
  refine Exists.intro _ (And.intro (orc13 (h := ht)) ?_)
  have h_ := gP h; clear h; obtain ⟨c, h⟩ := h_
  refine zz ?_
  refine br (iP h) ?_ ?_ <;> (clear h; intro c h)
  rotate_left
  · replace h := evR h; cases h
    refine zz ?_
    first | exact ⟨trivial, [], [], ⟨rfl, trivial⟩, _, rfl, _, rfl, And.intro rfl rfl⟩ | exact ⟨[], [], ⟨rfl, trivial⟩, _, rfl, _, rfl, And.intro rfl rfl⟩
  have h_ := evO h; clear h; obtain ⟨t25, ht, h⟩ := h_
  refine zz ?_
  refine Exists.intro _ (And.intro (orc13 (h := ht)) ?_)
  have h_ := gP h; clear h; obtain ⟨c, h⟩ := h_
  have h_ := evO h; clear h; obtain ⟨t27, ht, h⟩ := h_
  refine zz ?_
  refine Exists.intro _ (And.intro (orc18 (h := ht)) ?_)
  have h_ := gP h; clear h; obtain ⟨c, h⟩ := h_
  have h_ := gP h; clear h; obtain ⟨c, h⟩ := h_
  replace h := evR h; cases h
  refine zz ?_
  first | exact ⟨trivial, [], [], ⟨rfl, trivial⟩, _, rfl, _, rfl, And.intro rfl rfl⟩ | exact ⟨[], [], ⟨rfl, trivial⟩, _, rfl, _, rfl, And.intro rfl rfl⟩
theorem impl_OpText_ev (a0_0 : Int) (a0_1 : Int) (a0_2 : ByteArray) (r : ByteArray) (h : impl_OpText.fv a0_0 a0_1 a0_2 = some r) : CE (G m_) 7 [.val (.agg [.int .i64 a0_0, .int .i64 a0_1, .str a0_2])] [] [.val (.str r)] [] := by
  obtain ⟨k, h⟩ := lim_ex h
  refine CE.mk ⟨Tryd.f7, _, rfl, rfl, ⟨by kernel_rfl, Nat.le_of_ble_eq_true rfl, Nat.le_of_ble_eq_true rfl⟩, ?_⟩
  rcases k with _ | k
  · exact (run_zero h).elim
  rw [run_succ, impl_OpText.B] at h
  have h_ := evO h; clear h; obtain ⟨t10, ht, h⟩ := h_
  refine zz ?_
  refine Exists.intro _ (And.intro (impl_opName_ev (h := ht)) ?_)
  replace h := evT h
  refine zz ?_
  refine loopJ [16, 1041] (fun kq fr hp => ∃ (x3 : ByteArray) (y1041s : ByteArray) (y1041p : Nat) (x16_0 : Int) (x16_1 : Int) (x16_2 : ByteArray), run impl_OpText.B kq (.l0 x3 y1041s y1041p x16_0 x16_1 x16_2) = some r ∧ (∃ fr0, fr = puts [(1, .one (.ptr 16 0)), (3, .one (.val (.str x3))), (14, .one (.ptr 1041 0))] fr0) ∧ hp = (upd 16 (.box [.val (.int .i64 x16_0), .val (.int .i64 x16_1), .val (.str x16_2)]) (upd 1041 (.iter y1041s y1041p) (fun _ => none)))) k ⟨_, zfuel, _, _, _, _, _, _, h, leafFr [1, 3, 14] (by kernel_rfl), by kernel_rfl⟩ ?_
  clear h; rintro k hle _ _ ⟨x3, y1041s, y1041p, x16_0, x16_1, x16_2, h, ⟨fr0, rfl⟩, rfl⟩
  rcases k with _ | k
  · exact (run_zero h).elim
  rw [run_succ, impl_OpText.B] at h
  refine zz ?_
  refine br (iP h) ?_ ?_ <;> (clear h; intro c h)
  rotate_left
  · refine zz ?_
    try (apply Or.inr; refine zK ?_)
    replace h := evR h; cases h
    refine zz ?_
    first | exact ⟨trivial, [], [], ⟨rfl, trivial⟩, _, rfl, _, rfl, And.intro rfl rfl⟩ | exact ⟨[], [], ⟨rfl, trivial⟩, _, rfl, _, rfl, And.intro rfl rfl⟩
  refine zz ?_
  try (apply Or.inl; refine zK ?_)
  refine zz ?_
  refine br (iP h) ?_ ?_ <;> (clear h; intro c h)
  · have h_ := evO h; clear h; obtain ⟨t24, ht, h⟩ := h_
    refine zz ?_
    refine Exists.intro _ (And.intro (impl_DecText_ev (h := ht)) ?_)
    have h_ := gP h; clear h; obtain ⟨c, h⟩ := h_
    have h_ := gP h; clear h; obtain ⟨c, h⟩ := h_
    replace h := evT h
    refine zz ?_
    exact ⟨_, zfuel, _, _, _, _, _, _, h, leafFr [1, 3, 14] (by kernel_rfl), by kernel_rfl⟩
  refine zz ?_
  refine br (iP h) ?_ ?_ <;> (clear h; intro c h)
  · have h_ := evO h; clear h; obtain ⟨t33, ht, h⟩ := h_
    refine zz ?_
    refine Exists.intro _ (And.intro (orc13 (h := ht)) ?_)
    have h_ := gP h; clear h; obtain ⟨c, h⟩ := h_
    have h_ := gP h; clear h; obtain ⟨c, h⟩ := h_
    replace h := evT h
    refine zz ?_
    exact ⟨_, zfuel, _, _, _, _, _, _, h, leafFr [1, 3, 14] (by kernel_rfl), by kernel_rfl⟩
  refine zz ?_
  refine br (iP h) ?_ ?_ <;> (clear h; intro c h)
  rotate_left
  · replace h := evT h
    refine zz ?_
    exact ⟨_, zfuel, _, _, _, _, _, _, h, leafFr [1, 3, 14] (by kernel_rfl), by kernel_rfl⟩
  have h_ := gP h; clear h; obtain ⟨c, h⟩ := h_
  have h_ := gP h; clear h; obtain ⟨c, h⟩ := h_
  have h_ := gP h; clear h; obtain ⟨c, h⟩ := h_
  replace h := evT h
  refine zz ?_
  exact ⟨_, zfuel, _, _, _, _, _, _, h, leafFr [1, 3, 14] (by kernel_rfl), by kernel_rfl⟩
theorem laws_FnExactOpText_ev (a0_0 : Int) (a0_1 : Int) (a0_2 : ByteArray) (r : Bool) (h : laws_FnExactOpText.fv a0_0 a0_1 a0_2 = some r) : CE (G m_) 3 [.val (.agg [.int .i64 a0_0, .int .i64 a0_1, .str a0_2])] [] [.val (.bool r)] [] := by
  refine CE.mk ⟨Tryd.f3, _, rfl, rfl, ⟨by kernel_rfl, Nat.le_of_ble_eq_true rfl, Nat.le_of_ble_eq_true rfl⟩, ?_⟩
  rw [laws_FnExactOpText.fv] at h
  have h_ := oS h; clear h; obtain ⟨t8, ht, h⟩ := h_
  refine zz ?_
  refine Exists.intro _ (And.intro (laws_szOp_ev (h := ht)) ?_)
  refine zz ?_
  refine br (iteS h) ?_ ?_ <;> (clear h; intro c h)
  · cases h
    refine zz ?_
    first | exact ⟨trivial, [], [], ⟨rfl, trivial⟩, _, rfl, _, rfl, And.intro rfl rfl⟩ | exact ⟨[], [], ⟨rfl, trivial⟩, _, rfl, _, rfl, And.intro rfl rfl⟩
  have h_ := oS h; clear h; obtain ⟨t12, ht, h⟩ := h_
  refine zz ?_
  refine Exists.intro _ (And.intro (laws_toOp_ev (h := ht)) ?_)
  have h_ := oS h; clear h; obtain ⟨t13, ht, h⟩ := h_
  refine zz ?_
  refine Exists.intro _ (And.intro (spec_OpText_ev (h := ht)) ?_)
  have h_ := oS h; clear h; obtain ⟨t15, ht, h⟩ := h_
  refine zz ?_
  refine Exists.intro _ (And.intro (laws_toOp_ev (h := ht)) ?_)
  have h_ := oS h; clear h; obtain ⟨t16, ht, h⟩ := h_
  refine zz ?_
  refine Exists.intro _ (And.intro (impl_OpText_ev (h := ht)) ?_)
  refine zz ?_
  refine brN (iteS h) ?_ ?_ <;> (clear h; intro c h)
  · cases h
    refine zz ?_
    first | exact ⟨trivial, [], [], ⟨rfl, trivial⟩, _, rfl, _, rfl, And.intro rfl rfl⟩ | exact ⟨[], [], ⟨rfl, trivial⟩, _, rfl, _, rfl, And.intro rfl rfl⟩
  cases h
  refine zz ?_
  first | exact ⟨trivial, [], [], ⟨rfl, trivial⟩, _, rfl, _, rfl, And.intro rfl rfl⟩ | exact ⟨[], [], ⟨rfl, trivial⟩, _, rfl, _, rfl, And.intro rfl rfl⟩
end Go.Proofs.YthgglepiopijjaaDoor.TFnExactOpText
