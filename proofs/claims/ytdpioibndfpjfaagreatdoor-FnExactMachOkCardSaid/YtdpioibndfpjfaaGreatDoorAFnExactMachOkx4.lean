/- The walks of the functions that FnExactMachOk reaches, through the abstract machine. -/
import Derived.Test.YtdpioibndfpjfaaGreatDoorAFnExactMachOkh
import Derived.Test.YtdpioibndfpjfaaGreatDoorAFnExactMachOkx3
import Derived.Test.YtdpioibndfpjfaaGreatDoorFFnExactMachOk
import Derived.Test.YtdpioibndfpjfaaGreatDoorProg
set_option maxHeartbeats 4000000
set_option maxRecDepth 100000
set_option linter.unusedVariables false
set_option linter.unusedSimpArgs false
namespace Go.Proofs.YtdpioibndfpjfaaGreatDoor.TFnExactMachOk
open Go Go.RowKit Go.Proofs Go.Proofs.YtdpioibndfpjfaaGreatDoorW.AM Go.Proofs.YtdpioibndfpjfaaGreatDoor.QFnExactMachOk Go.Proofs.YtdpioibndfpjfaaGreatDoorW.PrintWords Go.Proofs.YtdpioibndfpjfaaGreatDoorW.Pgs
theorem impl_opName_ev (a0 : Int) (r1 : ByteArray) (r2 : ByteArray) (h : impl_opName.fv a0 = some (r1, r2)) : CE G 83 [.val (.int .i64 a0)] [] [.val (.str r1), .val (.str r2)] [] := by
  obtain ⟨k, h⟩ := lim_ex h
  refine CE.mk ⟨Tryz.f83, _, rfl, rfl, ⟨by kernel_rfl, Nat.le_of_ble_eq_true rfl, Nat.le_of_ble_eq_true rfl⟩, ?_⟩
  rcases k with _ | k
  · exact (run_zero h).elim
  rw [run_succ, impl_opName.B] at h
  have h_ := evO h; clear h; obtain ⟨y1_0, hy, h⟩ := h_
  refine zz ?_
  refine Exists.intro (y1_0.map VV.str) (And.intro (by rw [← Option.some.inj hy]; exact zrow) ?_)
  have h_ := evO h; clear h; obtain ⟨t11, ht, h⟩ := h_
  refine zz ?_
  refine Exists.intro _ (And.intro (impl_in_ev (h := ht)) ?_)
  refine zz ?_
  refine brN (iP h) ?_ ?_ <;> (clear h; intro c h)
  · replace h := evR h; cases h
    refine zz ?_
    first | exact ⟨trivial, [], [], ⟨rfl, trivial⟩, _, rfl, _, rfl, And.intro rfl rfl⟩ | exact ⟨[], [], ⟨rfl, trivial⟩, _, rfl, _, rfl, And.intro rfl rfl⟩
  refine zz ?_
  refine br (iP h) ?_ ?_ <;> (clear h; intro c h)
  · have h_ := gP h; clear h; obtain ⟨c, h⟩ := h_
    have h_ := gP h; clear h; obtain ⟨c, h⟩ := h_
    replace h := evR h; cases h
    refine zz ?_
    first | exact ⟨trivial, [], [], ⟨rfl, trivial⟩, _, rfl, _, rfl, And.intro rfl rfl⟩ | exact ⟨[], [], ⟨rfl, trivial⟩, _, rfl, _, rfl, And.intro rfl rfl⟩
  refine zz ?_
  refine cutJ (n := 16) [528] (fun fr hp => ∃ kq, kq ≤ k ∧ ∃ (x0 : Int) (x4 : List ByteArray) (x5 : ByteArray) (x13 : Int) (x16 : Bool) (g528 : Nat), run impl_opName.B kq (.j0 x0 x4 x5 x13 x16) = some (r1, r2) ∧ (∃ fr0, fr = puts [(0, .one (.val (.int .i64 x0))), (4, .one (.ref 528 g528)), (5, .one (.val (.str x5))), (13, .one (.val (.int .i64 x13))), (16, .one (.val (.bool x16)))] fr0) ∧ hp = (upd 528 (.own 9 1 (x4.map VV.str) g528 false) (fun _ => none))) ?_ ?_
  · refine zz ?_
    refine br (iP h) ?_ ?_ <;> (clear h; intro c h)
    · replace h := evT h
      refine zz ?_
      exact ⟨_, zfuel, _, _, _, _, _, 0, h, leafFr [0, 4, 5, 13, 16] (by kernel_rfl), by kernel_rfl⟩
    refine zz ?_
    refine br (iP h) ?_ ?_ <;> (clear h; intro c h)
    · replace h := evT h
      refine zz ?_
      exact ⟨_, zfuel, _, _, _, _, _, 0, h, leafFr [0, 4, 5, 13, 16] (by kernel_rfl), by kernel_rfl⟩
    replace h := evT h
    refine zz ?_
    exact ⟨_, zfuel, _, _, _, _, _, 0, h, leafFr [0, 4, 5, 13, 16] (by kernel_rfl), by kernel_rfl⟩
  clear h; rintro _ _ ⟨k, hle, x0, x4, x5, x13, x16, g528, h, ⟨fr0, rfl⟩, rfl⟩
  rcases k with _ | k
  · exact (run_zero h).elim
  rw [run_succ, impl_opName.B] at h
  refine zz ?_
  refine br (iP h) ?_ ?_ <;> (clear h; intro c h)
  · have h_ := gP h; clear h; obtain ⟨c, h⟩ := h_
    have h_ := gP h; clear h; obtain ⟨c, h⟩ := h_
    replace h := evR h; cases h
    refine zz ?_
    first | exact ⟨trivial, [], [], ⟨rfl, trivial⟩, _, rfl, _, rfl, And.intro rfl rfl⟩ | exact ⟨[], [], ⟨rfl, trivial⟩, _, rfl, _, rfl, And.intro rfl rfl⟩
  refine zz ?_
  refine br (iP h) ?_ ?_ <;> (clear h; intro c h)
  · have h_ := gP h; clear h; obtain ⟨c, h⟩ := h_
    have h_ := gP h; clear h; obtain ⟨c, h⟩ := h_
    replace h := evR h; cases h
    refine zz ?_
    first | exact ⟨trivial, [], [], ⟨rfl, trivial⟩, _, rfl, _, rfl, And.intro rfl rfl⟩ | exact ⟨[], [], ⟨rfl, trivial⟩, _, rfl, _, rfl, And.intro rfl rfl⟩
  refine zz ?_
  refine br (iP h) ?_ ?_ <;> (clear h; intro c h)
  · refine zz ?_
    try (apply Or.inl; refine zK ?_)
    have h_ := gP h; clear h; obtain ⟨c, h⟩ := h_
    have h_ := gP h; clear h; obtain ⟨c, h⟩ := h_
    replace h := evR h; cases h
    refine zz ?_
    first | exact ⟨trivial, [], [], ⟨rfl, trivial⟩, _, rfl, _, rfl, And.intro rfl rfl⟩ | exact ⟨[], [], ⟨rfl, trivial⟩, _, rfl, _, rfl, And.intro rfl rfl⟩
  refine zz ?_
  refine br (iP h) ?_ ?_ <;> (clear h; intro c h)
  · refine zz ?_
    try (apply Or.inl; refine zK ?_)
    have h_ := gP h; clear h; obtain ⟨c, h⟩ := h_
    have h_ := gP h; clear h; obtain ⟨c, h⟩ := h_
    replace h := evR h; cases h
    refine zz ?_
    first | exact ⟨trivial, [], [], ⟨rfl, trivial⟩, _, rfl, _, rfl, And.intro rfl rfl⟩ | exact ⟨[], [], ⟨rfl, trivial⟩, _, rfl, _, rfl, And.intro rfl rfl⟩
  refine zz ?_
  refine br (iP h) ?_ ?_ <;> (clear h; intro c h)
  · refine zz ?_
    try (apply Or.inl; refine zK ?_)
    have h_ := gP h; clear h; obtain ⟨c, h⟩ := h_
    have h_ := gP h; clear h; obtain ⟨c, h⟩ := h_
    replace h := evR h; cases h
    refine zz ?_
    first | exact ⟨trivial, [], [], ⟨rfl, trivial⟩, _, rfl, _, rfl, And.intro rfl rfl⟩ | exact ⟨[], [], ⟨rfl, trivial⟩, _, rfl, _, rfl, And.intro rfl rfl⟩
  refine zz ?_
  refine br (iP h) ?_ ?_ <;> (clear h; intro c h)
  · refine zz ?_
    try (apply Or.inl; refine zK ?_)
    have h_ := gP h; clear h; obtain ⟨c, h⟩ := h_
    have h_ := gP h; clear h; obtain ⟨c, h⟩ := h_
    replace h := evR h; cases h
    refine zz ?_
    first | exact ⟨trivial, [], [], ⟨rfl, trivial⟩, _, rfl, _, rfl, And.intro rfl rfl⟩ | exact ⟨[], [], ⟨rfl, trivial⟩, _, rfl, _, rfl, And.intro rfl rfl⟩
  refine zz ?_
  refine br (iP h) ?_ ?_ <;> (clear h; intro c h)
  · refine zz ?_
    try (apply Or.inl; refine zK ?_)
    have h_ := gP h; clear h; obtain ⟨c, h⟩ := h_
    have h_ := gP h; clear h; obtain ⟨c, h⟩ := h_
    replace h := evR h; cases h
    refine zz ?_
    first | exact ⟨trivial, [], [], ⟨rfl, trivial⟩, _, rfl, _, rfl, And.intro rfl rfl⟩ | exact ⟨[], [], ⟨rfl, trivial⟩, _, rfl, _, rfl, And.intro rfl rfl⟩
  refine zz ?_
  refine br (iP h) ?_ ?_ <;> (clear h; intro c h)
  · refine zz ?_
    try (apply Or.inl; refine zK ?_)
    have h_ := gP h; clear h; obtain ⟨c, h⟩ := h_
    have h_ := gP h; clear h; obtain ⟨c, h⟩ := h_
    replace h := evR h; cases h
    refine zz ?_
    first | exact ⟨trivial, [], [], ⟨rfl, trivial⟩, _, rfl, _, rfl, And.intro rfl rfl⟩ | exact ⟨[], [], ⟨rfl, trivial⟩, _, rfl, _, rfl, And.intro rfl rfl⟩
  refine zz ?_
  refine br (iP h) ?_ ?_ <;> (clear h; intro c h)
  · refine zz ?_
    try (apply Or.inl; refine zK ?_)
    have h_ := gP h; clear h; obtain ⟨c, h⟩ := h_
    have h_ := gP h; clear h; obtain ⟨c, h⟩ := h_
    replace h := evR h; cases h
    refine zz ?_
    first | exact ⟨trivial, [], [], ⟨rfl, trivial⟩, _, rfl, _, rfl, And.intro rfl rfl⟩ | exact ⟨[], [], ⟨rfl, trivial⟩, _, rfl, _, rfl, And.intro rfl rfl⟩
  refine zz ?_
  refine br (iP h) ?_ ?_ <;> (clear h; intro c h)
  · refine zz ?_
    try (apply Or.inl; refine zK ?_)
    have h_ := gP h; clear h; obtain ⟨c, h⟩ := h_
    have h_ := gP h; clear h; obtain ⟨c, h⟩ := h_
    replace h := evR h; cases h
    refine zz ?_
    first | exact ⟨trivial, [], [], ⟨rfl, trivial⟩, _, rfl, _, rfl, And.intro rfl rfl⟩ | exact ⟨[], [], ⟨rfl, trivial⟩, _, rfl, _, rfl, And.intro rfl rfl⟩
  refine zz ?_
  refine br (iP h) ?_ ?_ <;> (clear h; intro c h)
  · refine zz ?_
    try (apply Or.inl; refine zK ?_)
    have h_ := gP h; clear h; obtain ⟨c, h⟩ := h_
    have h_ := gP h; clear h; obtain ⟨c, h⟩ := h_
    replace h := evR h; cases h
    refine zz ?_
    first | exact ⟨trivial, [], [], ⟨rfl, trivial⟩, _, rfl, _, rfl, And.intro rfl rfl⟩ | exact ⟨[], [], ⟨rfl, trivial⟩, _, rfl, _, rfl, And.intro rfl rfl⟩
  refine zz ?_
  refine br (iP h) ?_ ?_ <;> (clear h; intro c h)
  · have h_ := gP h; clear h; obtain ⟨c, h⟩ := h_
    have h_ := gP h; clear h; obtain ⟨c, h⟩ := h_
    replace h := evR h; cases h
    refine zz ?_
    first | exact ⟨trivial, [], [], ⟨rfl, trivial⟩, _, rfl, _, rfl, And.intro rfl rfl⟩ | exact ⟨[], [], ⟨rfl, trivial⟩, _, rfl, _, rfl, And.intro rfl rfl⟩
  have h_ := gP h; clear h; obtain ⟨c, h⟩ := h_
  have h_ := gP h; clear h; obtain ⟨c, h⟩ := h_
  replace h := evR h; cases h
  refine zz ?_
  first | exact ⟨trivial, [], [], ⟨rfl, trivial⟩, _, rfl, _, rfl, And.intro rfl rfl⟩ | exact ⟨[], [], ⟨rfl, trivial⟩, _, rfl, _, rfl, And.intro rfl rfl⟩
theorem impl_DecOk_ev (a0 : Int) (r : Bool) (h : impl_DecOk.f a0 = some r) : CE G 72 [.val (.int .i64 a0)] [] [.val (.bool r)] [] := by
  refine CE.mk ⟨Tryz.f72, _, rfl, rfl, ⟨by kernel_rfl, Nat.le_of_ble_eq_true rfl, Nat.le_of_ble_eq_true rfl⟩, ?_⟩
  rw [impl_DecOk.f] at h
  have h_ := oS h; clear h; obtain ⟨t4, ht, h⟩ := h_
  refine zz ?_
  refine Exists.intro _ (And.intro (impl_in_ev (h := ht)) ?_)
  cases h
  refine zz ?_
  first | exact ⟨trivial, [], [], ⟨rfl, trivial⟩, _, rfl, _, rfl, And.intro rfl rfl⟩ | exact ⟨[], [], ⟨rfl, trivial⟩, _, rfl, _, rfl, And.intro rfl rfl⟩
theorem impl_rexReader_next_ev (s0_0 : ByteArray) (s0_1 : Bool) (r1 : Int) (r2 : Bool) (r3 : ByteArray) (r4 : Bool) (h : impl_rexReader_next.f s0_0 s0_1 = some (r1, r2, r3, r4)) : CE G 125 [.ptr 0 0] [.box [.val (.str s0_0), .val (.bool s0_1)]] [.val (.int .u8 r1), .val (.bool r2)] [.box [.val (.str r3), .val (.bool r4)]] := by
  refine CE.mk ⟨Tryz.f125, _, rfl, rfl, ⟨by kernel_rfl, Nat.le_of_ble_eq_true rfl, Nat.le_of_ble_eq_true rfl⟩, ?_⟩
  rw [impl_rexReader_next.f] at h
  refine zz ?_
  refine brW (iteS h) ?_ ?_ <;> (clear h; intro c h)
  rotate_left
  · refine zz ?_
    try (apply Or.inr; refine zK ?_)
    refine zz ?_
    try (apply Or.inr; refine zK ?_)
    refine zz ?_
    try (apply Or.inr; refine zK ?_)
    refine zz ?_
    try (apply Or.inl; refine zK ?_)
    refine zz ?_
    try (apply Or.inl; refine zK ?_)
    cases h
    refine zz ?_
    first | exact ⟨trivial, [], [], ⟨rfl, trivial⟩, _, rfl, _, rfl, And.intro rfl rfl⟩ | exact ⟨[], [], ⟨rfl, trivial⟩, _, rfl, _, rfl, And.intro rfl rfl⟩
  refine zz ?_
  try (apply Or.inl; refine zK ?_)
  refine zz ?_
  try (apply Or.inl; refine zK ?_)
  refine zz ?_
  try (apply Or.inl; refine zK ?_)
  refine zz ?_
  try (apply Or.inr; refine zK ?_)
  refine zz ?_
  refine br (iteS h) ?_ ?_ <;> (clear h; intro c h)
  · cases h
    refine zz ?_
    first | exact ⟨trivial, [], [], ⟨rfl, trivial⟩, _, rfl, _, rfl, And.intro rfl rfl⟩ | exact ⟨[], [], ⟨rfl, trivial⟩, _, rfl, _, rfl, And.intro rfl rfl⟩
  have h_ := gS h; clear h; obtain ⟨c, h⟩ := h_
  cases h
  refine zz ?_
  first | exact ⟨trivial, [], [], ⟨rfl, trivial⟩, _, rfl, _, rfl, And.intro rfl rfl⟩ | exact ⟨[], [], ⟨rfl, trivial⟩, _, rfl, _, rfl, And.intro rfl rfl⟩
theorem impl_rexReader_take_ev (s0_0 : ByteArray) (s0_1 : Bool) (a1 : Int) (r1 : Bool) (r2 : ByteArray) (r3 : Bool) (h : impl_rexReader_take.f s0_0 s0_1 a1 = some (r1, r2, r3)) : CE G 118 [.ptr 0 0, .val (.int .u8 a1)] [.box [.val (.str s0_0), .val (.bool s0_1)]] [.val (.bool r1)] [.box [.val (.str r2), .val (.bool r3)]] := by
  refine CE.mk ⟨Tryz.f118, _, rfl, rfl, ⟨by kernel_rfl, Nat.le_of_ble_eq_true rfl, Nat.le_of_ble_eq_true rfl⟩, ?_⟩
  rw [impl_rexReader_take.f] at h
  have h_ := oS h; clear h; obtain ⟨t9, ht, h⟩ := h_
  refine zz ?_
  refine Exists.intro _ (Exists.intro _ (And.intro (impl_rexReader_next_ev (h := ht)) ?_))
  refine zz ?_
  refine brX (iteS h) ?_ ?_ <;> (clear h; intro c h)
  rotate_left
  · refine zz ?_
    try (apply Or.inr; refine zK ?_)
    refine zz ?_
    try (apply Or.inr; refine zK ?_)
    refine zz ?_
    try (apply Or.inl; refine zK ?_)
    refine zz ?_
    try (apply Or.inl; refine zK ?_)
    cases h
    refine zz ?_
    first | exact ⟨trivial, [], [], ⟨rfl, trivial⟩, _, rfl, _, rfl, And.intro rfl rfl⟩ | exact ⟨[], [], ⟨rfl, trivial⟩, _, rfl, _, rfl, And.intro rfl rfl⟩
  refine zz ?_
  try (apply Or.inl; refine zK ?_)
  refine zz ?_
  try (apply Or.inl; refine zK ?_)
  refine zz ?_
  try (apply Or.inr; refine zK ?_)
  refine zz ?_
  refine brN (iteS h) ?_ ?_ <;> (clear h; intro c h)
  · cases h
    refine zz ?_
    first | exact ⟨trivial, [], [], ⟨rfl, trivial⟩, _, rfl, _, rfl, And.intro rfl rfl⟩ | exact ⟨[], [], ⟨rfl, trivial⟩, _, rfl, _, rfl, And.intro rfl rfl⟩
  have h_ := gS h; clear h; obtain ⟨c, h⟩ := h_
  cases h
  refine zz ?_
  first | exact ⟨trivial, [], [], ⟨rfl, trivial⟩, _, rfl, _, rfl, And.intro rfl rfl⟩ | exact ⟨[], [], ⟨rfl, trivial⟩, _, rfl, _, rfl, And.intro rfl rfl⟩
theorem impl_rexReader_set_ev (s0_0 : ByteArray) (s0_1 : Bool) (r1 : Int) (r2 : Int) (r3 : ByteArray) (r4 : Bool) (r5 : List S115) (r6 : ByteArray) (r7 : Bool) (h : impl_rexReader_set.fv s0_0 s0_1 = some (r1, r2, r3, r4, r5, r6, r7)) : CE G 144 [.ptr 0 0] [.box [.val (.str s0_0), .val (.bool s0_1)]] [.val (.agg [.int .i64 r1, .int .i64 r2, .str r3, .bool r4, .row (r5.map e115)])] [.box [.val (.str r6), .val (.bool r7)]] := by
  obtain ⟨k, h⟩ := lim_ex h
  refine CE.mk ⟨Tryz.f144, _, rfl, rfl, ⟨by kernel_rfl, Nat.le_of_ble_eq_true rfl, Nat.le_of_ble_eq_true rfl⟩, ?_⟩
  rcases k with _ | k
  · exact (run_zero h).elim
  rw [run_succ, impl_rexReader_set.B] at h
  have h_ := evO h; clear h; obtain ⟨t15, ht, h⟩ := h_
  refine zz ?_
  refine Exists.intro _ (Exists.intro _ (And.intro (impl_rexReader_take_ev (h := ht)) ?_))
  have h_ := evO h; clear h; obtain ⟨t21, ht, h⟩ := h_
  refine zz ?_
  refine Exists.intro _ (And.intro (orc132 (h := ht)) ?_)
  refine zz ?_
  refine br (iP h) ?_ ?_ <;> (clear h; intro c h)
  · replace h := evR h; cases h
    refine zz ?_
    first | exact ⟨trivial, [], [], ⟨rfl, trivial⟩, _, rfl, _, rfl, And.intro rfl rfl⟩ | exact ⟨[], [], ⟨rfl, trivial⟩, _, rfl, _, rfl, And.intro rfl rfl⟩
  have h_ := gP h; clear h; obtain ⟨c, h⟩ := h_
  have h_ := gP h; clear h; obtain ⟨c, h⟩ := h_
  have h_ := gP h; clear h; obtain ⟨c, h⟩ := h_
  have h_ := gP h; clear h; obtain ⟨c, h⟩ := h_
  have h_ := gP h; clear h; obtain ⟨c, h⟩ := h_
  refine zz ?_
  refine Exists.intro (List.map VV.bool (List.replicate 256 false)) (And.intro zrow ?_)
  replace h := evT h
  refine zz ?_
  refine loopJ [0, 16, 531, 4112] (fun kq fr hp => ∃ (x5 : ByteArray) (x6 : List Bool) (x7 : Int) (x1000 : ByteArray) (x1001 : Bool) (x531_0 : Int) (x531_1 : Int) (x531_2 : ByteArray) (x531_3 : Bool) (g4112 : Nat), run impl_rexReader_set.B kq (.l0 x5 x6 x7 x1000 x1001 x531_0 x531_1 x531_2 x531_3) = some (r1, r2, r3, r4, r5, r6, r7) ∧ (∃ fr0, fr = puts [(0, .one (.ptr 0 0)), (2, .one (.ptr 16 0)), (3, .one (.ptr 531 0)), (5, .one (.val (.str x5))), (6, .one (.ref 4112 g4112)), (7, .one (.val (.int .i64 x7)))] fr0) ∧ hp = (upd 0 (.box [.val (.str x1000), .val (.bool x1001)]) (upd 16 (.box [.val (.int .i64 0), .val (.int .i64 0), .val (.str (⟨#[]⟩ : ByteArray)), .val (.bool false), .nilrow]) (upd 531 (.box [.val (.int .i64 x531_0), .val (.int .i64 x531_1), .val (.str x531_2), .val (.bool x531_3), .val (.row (([] : List S115).map e115))]) (upd 4112 (.own 4 1 (x6.map VV.bool) g4112 false) (fun _ => none)))))) k ⟨_, zfuel, _, _, _, _, _, _, _, _, _, 0, h, leafFr [0, 2, 3, 5, 6, 7] (by kernel_rfl), by kernel_rfl⟩ ?_
  clear h; rintro k hle _ _ ⟨x5, x6, x7, x1000, x1001, x531_0, x531_1, x531_2, x531_3, g4112, h, ⟨fr0, rfl⟩, rfl⟩
  rcases k with _ | k
  · exact (run_zero h).elim
  rw [run_succ, impl_rexReader_set.B] at h
  refine zz ?_
  refine br (iP h) ?_ ?_ <;> (clear h; intro c h)
  · have h_ := gP h; clear h; obtain ⟨c, h⟩ := h_
    refine zz ?_
    refine cutJ (n := 70) [0, 16, 531, 4112] (fun fr hp => ∃ kq, kq ≤ k ∧ ∃ (x5 : ByteArray) (x6 : List Bool) (x7 : Int) (x8 : Int) (x9 : Int) (x1000 : ByteArray) (x1001 : Bool) (x531_0 : Int) (x531_1 : Int) (x531_2 : ByteArray) (x531_3 : Bool) (g4112 : Nat), run impl_rexReader_set.B kq (.j2 x5 x6 x7 x8 x9 x1000 x1001 x531_0 x531_1 x531_2 x531_3) = some (r1, r2, r3, r4, r5, r6, r7) ∧ (∃ fr0, fr = puts [(0, .one (.ptr 0 0)), (2, .one (.ptr 16 0)), (3, .one (.ptr 531 0)), (5, .one (.val (.str x5))), (6, .one (.ref 4112 g4112)), (7, .one (.val (.int .i64 x7))), (8, .one (.val (.int .i64 x8))), (9, .one (.val (.int .i64 x9)))] fr0) ∧ hp = (upd 0 (.box [.val (.str x1000), .val (.bool x1001)]) (upd 16 (.box [.val (.int .i64 0), .val (.int .i64 0), .val (.str (⟨#[]⟩ : ByteArray)), .val (.bool false), .nilrow]) (upd 531 (.box [.val (.int .i64 x531_0), .val (.int .i64 x531_1), .val (.str x531_2), .val (.bool x531_3), .val (.row (([] : List S115).map e115))]) (upd 4112 (.own 4 1 (x6.map VV.bool) g4112 false) (fun _ => none)))))) ?_ ?_
    · refine zz ?_
      refine cutJ (n := 200013) [0, 16, 531, 4112] (fun fr hp => ∃ kq, kq ≤ k ∧ ∃ (x5 : ByteArray) (x6 : List Bool) (x7 : Int) (x8 : Int) (x9 : Int) (x70 : Bool) (x1000 : ByteArray) (x1001 : Bool) (x531_0 : Int) (x531_1 : Int) (x531_2 : ByteArray) (x531_3 : Bool) (g4112 : Nat), run impl_rexReader_set.B kq (.j1 x5 x6 x7 x8 x9 x70 x1000 x1001 x531_0 x531_1 x531_2 x531_3) = some (r1, r2, r3, r4, r5, r6, r7) ∧ (∃ fr0, fr = puts [(0, .one (.ptr 0 0)), (2, .one (.ptr 16 0)), (3, .one (.ptr 531 0)), (5, .one (.val (.str x5))), (6, .one (.ref 4112 g4112)), (7, .one (.val (.int .i64 x7))), (8, .one (.val (.int .i64 x8))), (9, .one (.val (.int .i64 x9))), (70, .one (.val (.bool x70)))] fr0) ∧ hp = (upd 0 (.box [.val (.str x1000), .val (.bool x1001)]) (upd 16 (.box [.val (.int .i64 0), .val (.int .i64 0), .val (.str (⟨#[]⟩ : ByteArray)), .val (.bool false), .nilrow]) (upd 531 (.box [.val (.int .i64 x531_0), .val (.int .i64 x531_1), .val (.str x531_2), .val (.bool x531_3), .val (.row (([] : List S115).map e115))]) (upd 4112 (.own 4 1 (x6.map VV.bool) g4112 false) (fun _ => none)))))) ?_ ?_
      · refine zz ?_
        refine br (iP h) ?_ ?_ <;> (clear h; intro c h)
        rotate_left
        · refine zz ?_
          try (apply Or.inr; refine zK ?_)
          refine zz ?_
          try (apply Or.inr; refine zK ?_)
          refine zz ?_
          try (apply Or.inr; refine zK ?_)
          refine zz ?_
          try (apply Or.inr; refine zK ?_)
          refine zz ?_
          try (apply Or.inr; refine zK ?_)
          replace h := evT h
          refine zz ?_
          exact ⟨_, zfuel, _, _, _, _, _, _, _, _, _, _, _, _, g4112, h, leafFr [0, 2, 3, 5, 6, 7, 8, 9, 70] (by kernel_rfl), by kernel_rfl⟩
        refine zz ?_
        try (apply Or.inl; refine zK ?_)
        refine zz ?_
        try (apply Or.inl; refine zK ?_)
        refine zz ?_
        try (apply Or.inl; refine zK ?_)
        have h_ := gP h; clear h; obtain ⟨c, h⟩ := h_
        have h_ := gP h; clear h; obtain ⟨c, h⟩ := h_
        refine zz ?_
        try (apply Or.inl; refine zK ?_)
        refine zz ?_
        try (apply Or.inl; refine zK ?_)
        replace h := evT h
        refine zz ?_
        exact ⟨_, zfuel, _, _, _, _, _, _, _, _, _, _, _, _, g4112, h, leafFr [0, 2, 3, 5, 6, 7, 8, 9, 70] (by kernel_rfl), by kernel_rfl⟩
      clear h; rintro _ _ ⟨k, hle, x5, x6, x7, x8, x9, x70, x1000, x1001, x531_0, x531_1, x531_2, x531_3, g4112, h, ⟨fr0, rfl⟩, rfl⟩
      rcases k with _ | k
      · exact (run_zero h).elim
      rw [run_succ, impl_rexReader_set.B] at h
      refine zz ?_
      refine br (iP h) ?_ ?_ <;> (clear h; intro c h)
      rotate_left
      · replace h := evT h
        refine zz ?_
        exact ⟨_, zfuel, _, _, _, _, _, _, _, _, _, _, _, g4112, h, leafFr [0, 2, 3, 5, 6, 7, 8, 9] (by kernel_rfl), by kernel_rfl⟩
      have h_ := gP h; clear h; obtain ⟨c, h⟩ := h_
      have h_ := gP h; clear h; obtain ⟨c, h⟩ := h_
      refine zz ?_
      refine brW (iP h) ?_ ?_ <;> (clear h; intro c h)
      · refine zz ?_
        try (apply Or.inl; refine zK ?_)
        refine zz ?_
        try (apply Or.inl; refine zK ?_)
        refine zz ?_
        try (apply Or.inr; refine zK ?_)
        replace h := evT h
        refine zz ?_
        exact ⟨_, zfuel, _, _, _, _, _, _, _, _, _, _, _, g4112, h, leafFr [0, 2, 3, 5, 6, 7, 8, 9] (by kernel_rfl), by kernel_rfl⟩
      refine zz ?_
      try (apply Or.inr; refine zK ?_)
      refine zz ?_
      try (apply Or.inr; refine zK ?_)
      refine zz ?_
      try (apply Or.inl; refine zK ?_)
      replace h := evT h
      refine zz ?_
      exact ⟨_, zfuel, _, _, _, _, _, _, _, _, _, _, _, g4112, h, leafFr [0, 2, 3, 5, 6, 7, 8, 9] (by kernel_rfl), by kernel_rfl⟩
    clear h; rintro _ _ ⟨k, hle, x5, x6, x7, x8, x9, x1000, x1001, x531_0, x531_1, x531_2, x531_3, g4112, h, ⟨fr0, rfl⟩, rfl⟩
    rcases k with _ | k
    · exact (run_zero h).elim
    rw [run_succ, impl_rexReader_set.B] at h
    replace h := evT h
    refine zz ?_
    refine loopJ [0, 16, 531, 4112] (fun kq fr hp => ∃ (x5 : ByteArray) (x6 : List Bool) (x7 : Int) (x9 : Int) (x10 : Int) (x1000 : ByteArray) (x1001 : Bool) (x531_0 : Int) (x531_1 : Int) (x531_2 : ByteArray) (x531_3 : Bool) (g4112 : Nat), run impl_rexReader_set.B kq (.l1 x5 x6 x7 x9 x10 x1000 x1001 x531_0 x531_1 x531_2 x531_3) = some (r1, r2, r3, r4, r5, r6, r7) ∧ (∃ fr0, fr = puts [(0, .one (.ptr 0 0)), (2, .one (.ptr 16 0)), (3, .one (.ptr 531 0)), (5, .one (.val (.str x5))), (6, .one (.ref 4112 g4112)), (7, .one (.val (.int .i64 x7))), (9, .one (.val (.int .i64 x9))), (10, .one (.val (.int .i64 x10)))] fr0) ∧ hp = (upd 0 (.box [.val (.str x1000), .val (.bool x1001)]) (upd 16 (.box [.val (.int .i64 0), .val (.int .i64 0), .val (.str (⟨#[]⟩ : ByteArray)), .val (.bool false), .nilrow]) (upd 531 (.box [.val (.int .i64 x531_0), .val (.int .i64 x531_1), .val (.str x531_2), .val (.bool x531_3), .val (.row (([] : List S115).map e115))]) (upd 4112 (.own 4 1 (x6.map VV.bool) g4112 false) (fun _ => none)))))) k ⟨_, zfuel, _, _, _, _, _, _, _, _, _, _, _, g4112, h, leafFr [0, 2, 3, 5, 6, 7, 9, 10] (by kernel_rfl), by kernel_rfl⟩ ?_
    clear h; rintro k hle _ _ ⟨x5, x6, x7, x9, x10, x1000, x1001, x531_0, x531_1, x531_2, x531_3, g4112, h, ⟨fr0, rfl⟩, rfl⟩
    rcases k with _ | k
    · exact (run_zero h).elim
    rw [run_succ, impl_rexReader_set.B] at h
    refine zz ?_
    refine br (iP h) ?_ ?_ <;> (clear h; intro c h)
    rotate_left
    · replace h := evT h
      refine zz ?_
      exact ⟨_, zfuel, _, _, _, _, _, _, _, _, _, g4112, h, leafFr [0, 2, 3, 5, 6, 7] (by kernel_rfl), by kernel_rfl⟩
    have h_ := gP h; clear h; obtain ⟨c, h⟩ := h_
    have h_ := gP h; clear h; obtain ⟨c, h⟩ := h_
    refine zz ?_
    refine Exists.intro (List.map VV.bool (x6.set (x10 : Int).toNat true)) (And.intro zrow ?_)
    replace h := evT h
    refine zz ?_
    exact ⟨_, zfuel, _, _, _, _, _, _, _, _, _, _, _, g4112, h, leafFr [0, 2, 3, 5, 6, 7, 9, 10] (by kernel_rfl), by kernel_rfl⟩
  refine zz ?_
  refine Exists.intro (List.map (VV.int .u8) ([] : List Int)) (And.intro zrow ?_)
  replace h := evT h
  refine zz ?_
  refine loopJ [0, 16, 531, 4112, 10768] (fun kq fr hp => ∃ (x11 : List Int) (x100 : List Bool) (x101 : Int) (x102 : Int) (x1000 : ByteArray) (x1001 : Bool) (x531_0 : Int) (x531_1 : Int) (x531_2 : ByteArray) (x531_3 : Bool) (g10768 : Nat) (g4112 : Nat), run impl_rexReader_set.B kq (.l2 x11 x100 x101 x102 x1000 x1001 x531_0 x531_1 x531_2 x531_3) = some (r1, r2, r3, r4, r5, r6, r7) ∧ (∃ fr0, fr = puts [(2, .one (.ptr 16 0)), (3, .one (.ptr 531 0)), (11, .one (.ref 10768 g10768)), (100, .one (.ref 4112 g4112)), (101, .one (.val (.int .i64 x101))), (102, .one (.val (.int .i64 x102)))] fr0) ∧ hp = (upd 0 (.box [.val (.str x1000), .val (.bool x1001)]) (upd 16 (.box [.val (.int .i64 0), .val (.int .i64 0), .val (.str (⟨#[]⟩ : ByteArray)), .val (.bool false), .nilrow]) (upd 531 (.box [.val (.int .i64 x531_0), .val (.int .i64 x531_1), .val (.str x531_2), .val (.bool x531_3), .val (.row (([] : List S115).map e115))]) (upd 4112 (.own 4 1 (x100.map VV.bool) g4112 false) (upd 10768 (.own 5 1 (x11.map (VV.int .u8)) g10768 false) (fun _ => none))))))) k ⟨_, zfuel, _, _, _, _, _, _, _, _, _, _, 0, g4112, h, leafFr [2, 3, 11, 100, 101, 102] (by kernel_rfl), by kernel_rfl⟩ ?_
  clear h; rintro k hle _ _ ⟨x11, x100, x101, x102, x1000, x1001, x531_0, x531_1, x531_2, x531_3, g10768, g4112, h, ⟨fr0, rfl⟩, rfl⟩
  rcases k with _ | k
  · exact (run_zero h).elim
  rw [run_succ, impl_rexReader_set.B] at h
  refine zz ?_
  refine br (iP h) ?_ ?_ <;> (clear h; intro c h)
  rotate_left
  · replace h := evR h; cases h
    refine zz ?_
    first | exact ⟨trivial, [], [], ⟨rfl, trivial⟩, _, rfl, _, rfl, And.intro rfl rfl⟩ | exact ⟨[], [], ⟨rfl, trivial⟩, _, rfl, _, rfl, And.intro rfl rfl⟩
  have h_ := gP h; clear h; obtain ⟨c, h⟩ := h_
  have h_ := gP h; clear h; obtain ⟨c, h⟩ := h_
  refine zz ?_
  refine br (iP h) ?_ ?_ <;> (clear h; intro c h)
  rotate_left
  · replace h := evT h
    refine zz ?_
    exact ⟨_, zfuel, _, _, _, _, _, _, _, _, _, _, g10768, g4112, h, leafFr [2, 3, 11, 100, 101, 102] (by kernel_rfl), by kernel_rfl⟩
  refine zz ?_
  refine Exists.intro (List.map (VV.int .u8) ([((x102) % 256)] : List Int)) (And.intro zrow ?_)
  have h_ := gP h; clear h; obtain ⟨c, h⟩ := h_
  refine zz ?_
  refine Exists.intro (List.map (VV.int .u8) (x11 ++ [((x102) % 256)])) (And.intro zrow ?_)
  replace h := evT h
  refine zz ?_
  exact ⟨_, zfuel, _, _, _, _, _, _, _, _, _, _, (g10768 + 1), g4112, h, leafFr [2, 3, 11, 100, 101, 102] (by kernel_rfl), by kernel_rfl⟩
theorem impl_repeatOf_ev (a0 : Int) (r : Int) (h : impl_repeatOf.f a0 = some r) : CE G 138 [.val (.int .u8 a0)] [] [.val (.int .i64 r)] [] := by
  refine CE.mk ⟨Tryz.f138, _, rfl, rfl, ⟨by kernel_rfl, Nat.le_of_ble_eq_true rfl, Nat.le_of_ble_eq_true rfl⟩, ?_⟩
  rw [impl_repeatOf.f] at h
  refine zz ?_
  refine br (iteS h) ?_ ?_ <;> (clear h; intro c h)
  · cases h
    refine zz ?_
    first | exact ⟨trivial, [], [], ⟨rfl, trivial⟩, _, rfl, _, rfl, And.intro rfl rfl⟩ | exact ⟨[], [], ⟨rfl, trivial⟩, _, rfl, _, rfl, And.intro rfl rfl⟩
  refine zz ?_
  refine br (iteS h) ?_ ?_ <;> (clear h; intro c h)
  · cases h
    refine zz ?_
    first | exact ⟨trivial, [], [], ⟨rfl, trivial⟩, _, rfl, _, rfl, And.intro rfl rfl⟩ | exact ⟨[], [], ⟨rfl, trivial⟩, _, rfl, _, rfl, And.intro rfl rfl⟩
  refine zz ?_
  refine br (iteS h) ?_ ?_ <;> (clear h; intro c h)
  · cases h
    refine zz ?_
    first | exact ⟨trivial, [], [], ⟨rfl, trivial⟩, _, rfl, _, rfl, And.intro rfl rfl⟩ | exact ⟨[], [], ⟨rfl, trivial⟩, _, rfl, _, rfl, And.intro rfl rfl⟩
  cases h
  refine zz ?_
  first | exact ⟨trivial, [], [], ⟨rfl, trivial⟩, _, rfl, _, rfl, And.intro rfl rfl⟩ | exact ⟨[], [], ⟨rfl, trivial⟩, _, rfl, _, rfl, And.intro rfl rfl⟩
theorem impl_rexReader_pattern_all : ∀ n, (∀ (k : Nat) (s0_0 : ByteArray) (s0_1 : Bool) (r1 : Int) (r2 : Int) (r3 : ByteArray) (r4 : Bool) (r5 : List S115) (r6 : ByteArray) (r7 : Bool) (h : run impl_rexReader_pattern.B k (.impl_rexReader_pattern_f s0_0 s0_1) = some (r1, r2, r3, r4, r5, r6, r7)) (hk : k < n), CE G 108 [.ptr 0 0] [.box [.val (.str s0_0), .val (.bool s0_1)]] [.val (.agg [.int .i64 r1, .int .i64 r2, .str r3, .bool r4, .row (r5.map e115)])] [.box [.val (.str r6), .val (.bool r7)]]) ∧ (∀ (k : Nat) (s0_0 : ByteArray) (s0_1 : Bool) (r1 : Int) (r2 : Int) (r3 : ByteArray) (r4 : Bool) (r5 : List S115) (r6 : ByteArray) (r7 : Bool) (h : run impl_rexReader_pattern.B k (.impl_rexReader_part_f s0_0 s0_1) = some (r1, r2, r3, r4, r5, r6, r7)) (hk : k < n), CE G 117 [.ptr 0 0] [.box [.val (.str s0_0), .val (.bool s0_1)]] [.val (.agg [.int .i64 r1, .int .i64 r2, .str r3, .bool r4, .row (r5.map e115)])] [.box [.val (.str r6), .val (.bool r7)]]) ∧ (∀ (k : Nat) (s0_0 : ByteArray) (s0_1 : Bool) (r1 : Int) (r2 : Int) (r3 : ByteArray) (r4 : Bool) (r5 : List S115) (r6 : ByteArray) (r7 : Bool) (h : run impl_rexReader_pattern.B k (.impl_rexReader_piece_f s0_0 s0_1) = some (r1, r2, r3, r4, r5, r6, r7)) (hk : k < n), CE G 126 [.ptr 0 0] [.box [.val (.str s0_0), .val (.bool s0_1)]] [.val (.agg [.int .i64 r1, .int .i64 r2, .str r3, .bool r4, .row (r5.map e115)])] [.box [.val (.str r6), .val (.bool r7)]]) ∧ (∀ (k : Nat) (s0_0 : ByteArray) (s0_1 : Bool) (r1 : Int) (r2 : Int) (r3 : ByteArray) (r4 : Bool) (r5 : List S115) (r6 : ByteArray) (r7 : Bool) (h : run impl_rexReader_pattern.B k (.impl_rexReader_atom_f s0_0 s0_1) = some (r1, r2, r3, r4, r5, r6, r7)) (hk : k < n), CE G 137 [.ptr 0 0] [.box [.val (.str s0_0), .val (.bool s0_1)]] [.val (.agg [.int .i64 r1, .int .i64 r2, .str r3, .bool r4, .row (r5.map e115)])] [.box [.val (.str r6), .val (.bool r7)]]) := by
  intro n
  induction n with
  | zero => exact ⟨by intros; omega, by intros; omega, by intros; omega, by intros; omega⟩
  | succ n ih =>
    refine ⟨?_, ?_, ?_, ?_⟩
    · intro k s0_0 s0_1 r1 r2 r3 r4 r5 r6 r7 h hk
      refine CE.mk ⟨Tryz.f108, _, rfl, rfl, ⟨by kernel_rfl, Nat.le_of_ble_eq_true rfl, Nat.le_of_ble_eq_true rfl⟩, ?_⟩
      rcases k with _ | k
      · exact (run_zero h).elim
      rw [run_succ, impl_rexReader_pattern.B] at h
      have h_ := evA h; clear h; obtain ⟨t5, ht, h⟩ := h_
      refine zz ?_
      refine Exists.intro _ (Exists.intro _ (And.intro (ih.2.1 _ (h := ht) (hk := zfuel)) ?_))
      refine zz ?_
      refine Exists.intro (List.map e115 ([(⟨t5.1, t5.2.1, t5.2.2.1, t5.2.2.2.1, t5.2.2.2.2.1⟩ : S115)] : List S115)) (And.intro zrow ?_)
      replace h := evT h
      refine zz ?_
      refine loopJ [0, 16, 530] (fun kq fr hp => ∃ (x3 : List S115) (x1000 : ByteArray) (x1001 : Bool) (g530 : Nat), run impl_rexReader_pattern.B kq (.impl_rexReader_pattern_l0 x3 x1000 x1001) = some (r1, r2, r3, r4, r5, r6, r7) ∧ (∃ fr0, fr = puts [(0, .one (.ptr 0 0)), (2, .one (.ptr 16 0)), (3, .one (.ref 530 g530))] fr0) ∧ hp = (upd 0 (.box [.val (.str x1000), .val (.bool x1001)]) (upd 16 (.box [.val (.int .i64 0), .val (.int .i64 0), .val (.str (⟨#[]⟩ : ByteArray)), .val (.bool false), .nilrow]) (upd 530 (.own 115 5 (x3.map e115) g530 false) (fun _ => none))))) k ⟨_, zfuel, _, _, _, 0, h, leafFr [0, 2, 3] (by kernel_rfl), by kernel_rfl⟩ ?_
      clear h; rintro k hle _ _ ⟨x3, x1000, x1001, g530, h, ⟨fr0, rfl⟩, rfl⟩
      rcases k with _ | k
      · exact (run_zero h).elim
      rw [run_succ, impl_rexReader_pattern.B] at h
      have h_ := evO h; clear h; obtain ⟨t8, ht, h⟩ := h_
      refine zz ?_
      refine Exists.intro _ (Exists.intro _ (And.intro (impl_rexReader_take_ev (h := ht)) ?_))
      refine zz ?_
      refine br (iP h) ?_ ?_ <;> (clear h; intro c h)
      rotate_left
      · refine zz ?_
        refine br (iP h) ?_ ?_ <;> (clear h; intro c h)
        rotate_left
        · replace h := evR h; cases h
          refine zz ?_
          first | exact ⟨trivial, [], [], ⟨rfl, trivial⟩, _, rfl, _, rfl, And.intro rfl rfl⟩ | exact ⟨[], [], ⟨rfl, trivial⟩, _, rfl, _, rfl, And.intro rfl rfl⟩
        have h_ := gP h; clear h; obtain ⟨c, h⟩ := h_
        replace h := evR h; cases h
        refine zz ?_
        first | exact ⟨trivial, [], [], ⟨rfl, trivial⟩, _, rfl, _, rfl, And.intro rfl rfl⟩ | exact ⟨[], [], ⟨rfl, trivial⟩, _, rfl, _, rfl, And.intro rfl rfl⟩
      have h_ := evA h; clear h; obtain ⟨t11, ht, h⟩ := h_
      refine zz ?_
      refine Exists.intro _ (Exists.intro _ (And.intro (ih.2.1 _ (h := ht) (hk := zfuel)) ?_))
      refine zz ?_
      refine Exists.intro (List.map e115 ([(⟨t11.1, t11.2.1, t11.2.2.1, t11.2.2.2.1, t11.2.2.2.2.1⟩ : S115)] : List S115)) (And.intro zrow ?_)
      have h_ := gP h; clear h; obtain ⟨c, h⟩ := h_
      refine zz ?_
      refine Exists.intro (List.map e115 (x3 ++ [(⟨t11.1, t11.2.1, t11.2.2.1, t11.2.2.2.1, t11.2.2.2.2.1⟩ : S115)])) (And.intro zrow ?_)
      replace h := evT h
      refine zz ?_
      exact ⟨_, zfuel, _, _, _, (g530 + 1), h, leafFr [0, 2, 3] (by kernel_rfl), by kernel_rfl⟩
    · intro k s0_0 s0_1 r1 r2 r3 r4 r5 r6 r7 h hk
      refine CE.mk ⟨Tryz.f117, _, rfl, rfl, ⟨by kernel_rfl, Nat.le_of_ble_eq_true rfl, Nat.le_of_ble_eq_true rfl⟩, ?_⟩
      rcases k with _ | k
      · exact (run_zero h).elim
      rw [run_succ, impl_rexReader_pattern.B] at h
      refine zz ?_
      refine Exists.intro (List.map e115 ([] : List S115)) (And.intro zrow ?_)
      refine zz ?_
      refine cutJ (n := 100000) [0, 16, 528] (fun fr hp => ∃ kq, kq ≤ k ∧ ∃ (x3 : List S115) (x1000 : ByteArray) (x1001 : Bool) (g528 : Nat), run impl_rexReader_pattern.B kq (.impl_rexReader_part_j1 x3 x1000 x1001) = some (r1, r2, r3, r4, r5, r6, r7) ∧ (∃ fr0, fr = puts [(2, .one (.ptr 16 0)), (3, .one (.ref 528 g528))] fr0) ∧ hp = (upd 0 (.box [.val (.str x1000), .val (.bool x1001)]) (upd 16 (.box [.val (.int .i64 0), .val (.int .i64 0), .val (.str (⟨#[]⟩ : ByteArray)), .val (.bool false), .nilrow]) (upd 528 (.own 115 5 (x3.map e115) g528 false) (fun _ => none))))) ?_ ?_
      · replace h := evT h
        refine zz ?_
        refine loopJ [0, 16, 528] (fun kq fr hp => ∃ (x3 : List S115) (x1000 : ByteArray) (x1001 : Bool) (g528 : Nat), run impl_rexReader_pattern.B kq (.impl_rexReader_part_l0 x3 x1000 x1001) = some (r1, r2, r3, r4, r5, r6, r7) ∧ (∃ fr0, fr = puts [(0, .one (.ptr 0 0)), (2, .one (.ptr 16 0)), (3, .one (.ref 528 g528))] fr0) ∧ hp = (upd 0 (.box [.val (.str x1000), .val (.bool x1001)]) (upd 16 (.box [.val (.int .i64 0), .val (.int .i64 0), .val (.str (⟨#[]⟩ : ByteArray)), .val (.bool false), .nilrow]) (upd 528 (.own 115 5 (x3.map e115) g528 false) (fun _ => none))))) k ⟨_, zfuel, _, _, _, 0, h, leafFr [0, 2, 3] (by kernel_rfl), by kernel_rfl⟩ ?_
        clear h; rintro k hle _ _ ⟨x3, x1000, x1001, g528, h, ⟨fr0, rfl⟩, rfl⟩
        rcases k with _ | k
        · exact (run_zero h).elim
        rw [run_succ, impl_rexReader_pattern.B] at h
        have h_ := evO h; clear h; obtain ⟨t9, ht, h⟩ := h_
        refine zz ?_
        refine Exists.intro _ (Exists.intro _ (And.intro (impl_rexReader_next_ev (h := ht)) ?_))
        refine zz ?_
        refine brX (iP h) ?_ ?_ <;> (clear h; intro c h)
        rotate_left
        · refine zz ?_
          try (apply Or.inr; refine zK ?_)
          refine zz ?_
          try (apply Or.inl; refine zK ?_)
          refine zz ?_
          try (apply Or.inr; refine zK ?_)
          refine zz ?_
          try (apply Or.inr; refine zK ?_)
          refine zz ?_
          try (apply Or.inl; refine zK ?_)
          refine zz ?_
          try (apply Or.inl; refine zK ?_)
          replace h := evT h
          refine zz ?_
          exact ⟨_, zfuel, _, _, _, g528, h, leafFr [2, 3] (by kernel_rfl), by kernel_rfl⟩
        refine zz ?_
        try (apply Or.inl; refine zK ?_)
        refine zz ?_
        try (apply Or.inr; refine zK ?_)
        refine zz ?_
        refine brW (iP h) ?_ ?_ <;> (clear h; intro c h)
        rotate_left
        · refine zz ?_
          try (apply Or.inr; refine zK ?_)
          refine zz ?_
          try (apply Or.inl; refine zK ?_)
          refine zz ?_
          try (apply Or.inl; refine zK ?_)
          replace h := evT h
          refine zz ?_
          exact ⟨_, zfuel, _, _, _, g528, h, leafFr [2, 3] (by kernel_rfl), by kernel_rfl⟩
        refine zz ?_
        try (apply Or.inl; refine zK ?_)
        refine zz ?_
        try (apply Or.inr; refine zK ?_)
        refine zz ?_
        refine br (iP h) ?_ ?_ <;> (clear h; intro c h)
        · replace h := evT h
          refine zz ?_
          exact ⟨_, zfuel, _, _, _, g528, h, leafFr [2, 3] (by kernel_rfl), by kernel_rfl⟩
        have h_ := evA h; clear h; obtain ⟨t24, ht, h⟩ := h_
        refine zz ?_
        refine Exists.intro _ (Exists.intro _ (And.intro (ih.2.2.1 _ (h := ht) (hk := zfuel)) ?_))
        refine zz ?_
        refine Exists.intro (List.map e115 ([(⟨t24.1, t24.2.1, t24.2.2.1, t24.2.2.2.1, t24.2.2.2.2.1⟩ : S115)] : List S115)) (And.intro zrow ?_)
        have h_ := gP h; clear h; obtain ⟨c, h⟩ := h_
        refine zz ?_
        refine Exists.intro (List.map e115 (x3 ++ [(⟨t24.1, t24.2.1, t24.2.2.1, t24.2.2.2.1, t24.2.2.2.2.1⟩ : S115)])) (And.intro zrow ?_)
        replace h := evT h
        refine zz ?_
        exact ⟨_, zfuel, _, _, _, (g528 + 1), h, leafFr [0, 2, 3] (by kernel_rfl), by kernel_rfl⟩
      clear h; rintro _ _ ⟨k, hle, x3, x1000, x1001, g528, h, ⟨fr0, rfl⟩, rfl⟩
      rcases k with _ | k
      · exact (run_zero h).elim
      rw [run_succ, impl_rexReader_pattern.B] at h
      refine zz ?_
      refine br (iP h) ?_ ?_ <;> (clear h; intro c h)
      · replace h := evR h; cases h
        refine zz ?_
        first | exact ⟨trivial, [], [], ⟨rfl, trivial⟩, _, rfl, _, rfl, And.intro rfl rfl⟩ | exact ⟨[], [], ⟨rfl, trivial⟩, _, rfl, _, rfl, And.intro rfl rfl⟩
      refine zz ?_
      refine br (iP h) ?_ ?_ <;> (clear h; intro c h)
      rotate_left
      · replace h := evR h; cases h
        refine zz ?_
        first | exact ⟨trivial, [], [], ⟨rfl, trivial⟩, _, rfl, _, rfl, And.intro rfl rfl⟩ | exact ⟨[], [], ⟨rfl, trivial⟩, _, rfl, _, rfl, And.intro rfl rfl⟩
      have h_ := gP h; clear h; obtain ⟨c, h⟩ := h_
      replace h := evR h; cases h
      refine zz ?_
      first | exact ⟨trivial, [], [], ⟨rfl, trivial⟩, _, rfl, _, rfl, And.intro rfl rfl⟩ | exact ⟨[], [], ⟨rfl, trivial⟩, _, rfl, _, rfl, And.intro rfl rfl⟩
    · intro k s0_0 s0_1 r1 r2 r3 r4 r5 r6 r7 h hk
      refine CE.mk ⟨Tryz.f126, _, rfl, rfl, ⟨by kernel_rfl, Nat.le_of_ble_eq_true rfl, Nat.le_of_ble_eq_true rfl⟩, ?_⟩
      rcases k with _ | k
      · exact (run_zero h).elim
      rw [run_succ, impl_rexReader_pattern.B] at h
      have h_ := evA h; clear h; obtain ⟨t7, ht, h⟩ := h_
      refine zz ?_
      refine Exists.intro _ (Exists.intro _ (And.intro (ih.2.2.2 _ (h := ht) (hk := zfuel)) ?_))
      replace h := evT h
      refine zz ?_
      refine loopJ [0, 16, 530] (fun kq fr hp => ∃ (x1000 : ByteArray) (x1001 : Bool) (x530_0 : Int) (x530_1 : Int) (x530_2 : ByteArray) (x530_3 : Bool) (x530_4 : List S115), run impl_rexReader_pattern.B kq (.impl_rexReader_piece_l0 x1000 x1001 x530_0 x530_1 x530_2 x530_3 x530_4) = some (r1, r2, r3, r4, r5, r6, r7) ∧ (∃ fr0, fr = puts [(0, .one (.ptr 0 0)), (2, .one (.ptr 16 0)), (3, .one (.ptr 530 0))] fr0) ∧ hp = (upd 0 (.box [.val (.str x1000), .val (.bool x1001)]) (upd 16 (.box [.val (.int .i64 0), .val (.int .i64 0), .val (.str (⟨#[]⟩ : ByteArray)), .val (.bool false), .nilrow]) (upd 530 (.box [.val (.int .i64 x530_0), .val (.int .i64 x530_1), .val (.str x530_2), .val (.bool x530_3), .val (.row (x530_4.map e115))]) (fun _ => none))))) k ⟨_, zfuel, _, _, _, _, _, _, _, h, leafFr [0, 2, 3] (by kernel_rfl), by kernel_rfl⟩ ?_
      clear h; rintro k hle _ _ ⟨x1000, x1001, x530_0, x530_1, x530_2, x530_3, x530_4, h, ⟨fr0, rfl⟩, rfl⟩
      rcases k with _ | k
      · exact (run_zero h).elim
      rw [run_succ, impl_rexReader_pattern.B] at h
      have h_ := evO h; clear h; obtain ⟨t10, ht, h⟩ := h_
      refine zz ?_
      refine Exists.intro _ (Exists.intro _ (And.intro (impl_rexReader_next_ev (h := ht)) ?_))
      refine zz ?_
      refine brX (iP h) ?_ ?_ <;> (clear h; intro c h)
      rotate_left
      · refine zz ?_
        try (apply Or.inr; refine zK ?_)
        refine zz ?_
        try (apply Or.inr; refine zK ?_)
        refine zz ?_
        try (apply Or.inl; refine zK ?_)
        refine zz ?_
        try (apply Or.inl; refine zK ?_)
        replace h := evR h; cases h
        refine zz ?_
        first | exact ⟨trivial, [], [], ⟨rfl, trivial⟩, _, rfl, _, rfl, And.intro rfl rfl⟩ | exact ⟨[], [], ⟨rfl, trivial⟩, _, rfl, _, rfl, And.intro rfl rfl⟩
      refine zz ?_
      try (apply Or.inl; refine zK ?_)
      have h_ := evO h; clear h; obtain ⟨t17, ht, h⟩ := h_
      refine zz ?_
      refine Exists.intro _ (And.intro (impl_repeatOf_ev (h := ht)) ?_)
      refine zz ?_
      try (apply Or.inl; refine zK ?_)
      refine zz ?_
      try (apply Or.inr; refine zK ?_)
      refine zz ?_
      refine br (iP h) ?_ ?_ <;> (clear h; intro c h)
      · replace h := evR h; cases h
        refine zz ?_
        first | exact ⟨trivial, [], [], ⟨rfl, trivial⟩, _, rfl, _, rfl, And.intro rfl rfl⟩ | exact ⟨[], [], ⟨rfl, trivial⟩, _, rfl, _, rfl, And.intro rfl rfl⟩
      have h_ := gP h; clear h; obtain ⟨c, h⟩ := h_
      have h_ := evO h; clear h; obtain ⟨t30, ht, h⟩ := h_
      refine zz ?_
      refine Exists.intro _ (And.intro (impl_repeatOf_ev (h := ht)) ?_)
      refine zz ?_
      refine Exists.intro (List.map e115 ([(⟨x530_0, x530_1, x530_2, x530_3, x530_4⟩ : S115)] : List S115)) (And.intro zrow ?_)
      replace h := evT h
      refine zz ?_
      exact ⟨_, zfuel, _, _, _, _, _, _, _, h, leafFr [0, 2, 3] (by kernel_rfl), by kernel_rfl⟩
    · intro k s0_0 s0_1 r1 r2 r3 r4 r5 r6 r7 h hk
      refine CE.mk ⟨Tryz.f137, _, rfl, rfl, ⟨by kernel_rfl, Nat.le_of_ble_eq_true rfl, Nat.le_of_ble_eq_true rfl⟩, ?_⟩
      rcases k with _ | k
      · exact (run_zero h).elim
      rw [run_succ, impl_rexReader_pattern.B] at h
      have h_ := evO h; clear h; obtain ⟨t10, ht, h⟩ := h_
      refine zz ?_
      refine Exists.intro _ (Exists.intro _ (And.intro (impl_rexReader_next_ev (h := ht)) ?_))
      have h_ := gP h; clear h; obtain ⟨c, h⟩ := h_
      refine zz ?_
      refine br (iP h) ?_ ?_ <;> (clear h; intro c h)
      · have h_ := evA h; clear h; obtain ⟨t25, ht, h⟩ := h_
        refine zz ?_
        refine Exists.intro _ (Exists.intro _ (And.intro (ih.1 _ (h := ht) (hk := zfuel)) ?_))
        have h_ := evO h; clear h; obtain ⟨t27, ht, h⟩ := h_
        refine zz ?_
        refine Exists.intro _ (Exists.intro _ (And.intro (impl_rexReader_take_ev (h := ht)) ?_))
        refine zz ?_
        refine brN (iP h) ?_ ?_ <;> (clear h; intro c h)
        · replace h := evR h; cases h
          refine zz ?_
          first | exact ⟨trivial, [], [], ⟨rfl, trivial⟩, _, rfl, _, rfl, And.intro rfl rfl⟩ | exact ⟨[], [], ⟨rfl, trivial⟩, _, rfl, _, rfl, And.intro rfl rfl⟩
        replace h := evR h; cases h
        refine zz ?_
        first | exact ⟨trivial, [], [], ⟨rfl, trivial⟩, _, rfl, _, rfl, And.intro rfl rfl⟩ | exact ⟨[], [], ⟨rfl, trivial⟩, _, rfl, _, rfl, And.intro rfl rfl⟩
      refine zz ?_
      refine br (iP h) ?_ ?_ <;> (clear h; intro c h)
      · replace h := evR h; cases h
        refine zz ?_
        first | exact ⟨trivial, [], [], ⟨rfl, trivial⟩, _, rfl, _, rfl, And.intro rfl rfl⟩ | exact ⟨[], [], ⟨rfl, trivial⟩, _, rfl, _, rfl, And.intro rfl rfl⟩
      refine zz ?_
      refine br (iP h) ?_ ?_ <;> (clear h; intro c h)
      · replace h := evR h; cases h
        refine zz ?_
        first | exact ⟨trivial, [], [], ⟨rfl, trivial⟩, _, rfl, _, rfl, And.intro rfl rfl⟩ | exact ⟨[], [], ⟨rfl, trivial⟩, _, rfl, _, rfl, And.intro rfl rfl⟩
      refine zz ?_
      refine br (iP h) ?_ ?_ <;> (clear h; intro c h)
      · replace h := evR h; cases h
        refine zz ?_
        first | exact ⟨trivial, [], [], ⟨rfl, trivial⟩, _, rfl, _, rfl, And.intro rfl rfl⟩ | exact ⟨[], [], ⟨rfl, trivial⟩, _, rfl, _, rfl, And.intro rfl rfl⟩
      refine zz ?_
      refine br (iP h) ?_ ?_ <;> (clear h; intro c h)
      · have h_ := evO h; clear h; obtain ⟨t45, ht, h⟩ := h_
        refine zz ?_
        refine Exists.intro _ (Exists.intro _ (And.intro (impl_rexReader_set_ev (h := ht)) ?_))
        replace h := evR h; cases h
        refine zz ?_
        first | exact ⟨trivial, [], [], ⟨rfl, trivial⟩, _, rfl, _, rfl, And.intro rfl rfl⟩ | exact ⟨[], [], ⟨rfl, trivial⟩, _, rfl, _, rfl, And.intro rfl rfl⟩
      refine zz ?_
      refine br (iP h) ?_ ?_ <;> (clear h; intro c h)
      · have h_ := evO h; clear h; obtain ⟨t50, ht, h⟩ := h_
        refine zz ?_
        refine Exists.intro _ (Exists.intro _ (And.intro (impl_rexReader_next_ev (h := ht)) ?_))
        refine zz ?_
        refine brN (iP h) ?_ ?_ <;> (clear h; intro c h)
        · replace h := evR h; cases h
          refine zz ?_
          first | exact ⟨trivial, [], [], ⟨rfl, trivial⟩, _, rfl, _, rfl, And.intro rfl rfl⟩ | exact ⟨[], [], ⟨rfl, trivial⟩, _, rfl, _, rfl, And.intro rfl rfl⟩
        have h_ := gP h; clear h; obtain ⟨c, h⟩ := h_
        replace h := evR h; cases h
        refine zz ?_
        first | exact ⟨trivial, [], [], ⟨rfl, trivial⟩, _, rfl, _, rfl, And.intro rfl rfl⟩ | exact ⟨[], [], ⟨rfl, trivial⟩, _, rfl, _, rfl, And.intro rfl rfl⟩
      refine zz ?_
      refine br (iP h) ?_ ?_ <;> (clear h; intro c h)
      · refine zz ?_
        try (apply Or.inl; refine zK ?_)
        replace h := evR h; cases h
        refine zz ?_
        first | exact ⟨trivial, [], [], ⟨rfl, trivial⟩, _, rfl, _, rfl, And.intro rfl rfl⟩ | exact ⟨[], [], ⟨rfl, trivial⟩, _, rfl, _, rfl, And.intro rfl rfl⟩
      refine zz ?_
      refine br (iP h) ?_ ?_ <;> (clear h; intro c h)
      · refine zz ?_
        try (apply Or.inl; refine zK ?_)
        replace h := evR h; cases h
        refine zz ?_
        first | exact ⟨trivial, [], [], ⟨rfl, trivial⟩, _, rfl, _, rfl, And.intro rfl rfl⟩ | exact ⟨[], [], ⟨rfl, trivial⟩, _, rfl, _, rfl, And.intro rfl rfl⟩
      refine zz ?_
      refine br (iP h) ?_ ?_ <;> (clear h; intro c h)
      · replace h := evR h; cases h
        refine zz ?_
        first | exact ⟨trivial, [], [], ⟨rfl, trivial⟩, _, rfl, _, rfl, And.intro rfl rfl⟩ | exact ⟨[], [], ⟨rfl, trivial⟩, _, rfl, _, rfl, And.intro rfl rfl⟩
      replace h := evR h; cases h
      refine zz ?_
      first | exact ⟨trivial, [], [], ⟨rfl, trivial⟩, _, rfl, _, rfl, And.intro rfl rfl⟩ | exact ⟨[], [], ⟨rfl, trivial⟩, _, rfl, _, rfl, And.intro rfl rfl⟩
theorem impl_rexReader_pattern_ev (s0_0 : ByteArray) (s0_1 : Bool) (r1 : Int) (r2 : Int) (r3 : ByteArray) (r4 : Bool) (r5 : List S115) (r6 : ByteArray) (r7 : Bool) (h : impl_rexReader_pattern.fv s0_0 s0_1 = some (r1, r2, r3, r4, r5, r6, r7)) : CE G 108 [.ptr 0 0] [.box [.val (.str s0_0), .val (.bool s0_1)]] [.val (.agg [.int .i64 r1, .int .i64 r2, .str r3, .bool r4, .row (r5.map e115)])] [.box [.val (.str r6), .val (.bool r7)]] := by
  obtain ⟨k, h⟩ := lim_ex h
  exact (impl_rexReader_pattern_all (k + 1)).1 k _ _ _ _ _ _ _ _ _ h (Nat.lt_succ_self k)
theorem impl_rexReader_part_ev (s0_0 : ByteArray) (s0_1 : Bool) (r1 : Int) (r2 : Int) (r3 : ByteArray) (r4 : Bool) (r5 : List S115) (r6 : ByteArray) (r7 : Bool) (h : impl_rexReader_part.fv s0_0 s0_1 = some (r1, r2, r3, r4, r5, r6, r7)) : CE G 117 [.ptr 0 0] [.box [.val (.str s0_0), .val (.bool s0_1)]] [.val (.agg [.int .i64 r1, .int .i64 r2, .str r3, .bool r4, .row (r5.map e115)])] [.box [.val (.str r6), .val (.bool r7)]] := by
  obtain ⟨k, h⟩ := lim_ex h
  exact (impl_rexReader_pattern_all (k + 1)).2.1 k _ _ _ _ _ _ _ _ _ h (Nat.lt_succ_self k)
theorem impl_rexReader_piece_ev (s0_0 : ByteArray) (s0_1 : Bool) (r1 : Int) (r2 : Int) (r3 : ByteArray) (r4 : Bool) (r5 : List S115) (r6 : ByteArray) (r7 : Bool) (h : impl_rexReader_piece.fv s0_0 s0_1 = some (r1, r2, r3, r4, r5, r6, r7)) : CE G 126 [.ptr 0 0] [.box [.val (.str s0_0), .val (.bool s0_1)]] [.val (.agg [.int .i64 r1, .int .i64 r2, .str r3, .bool r4, .row (r5.map e115)])] [.box [.val (.str r6), .val (.bool r7)]] := by
  obtain ⟨k, h⟩ := lim_ex h
  exact (impl_rexReader_pattern_all (k + 1)).2.2.1 k _ _ _ _ _ _ _ _ _ h (Nat.lt_succ_self k)
theorem impl_rexReader_atom_ev (s0_0 : ByteArray) (s0_1 : Bool) (r1 : Int) (r2 : Int) (r3 : ByteArray) (r4 : Bool) (r5 : List S115) (r6 : ByteArray) (r7 : Bool) (h : impl_rexReader_atom.fv s0_0 s0_1 = some (r1, r2, r3, r4, r5, r6, r7)) : CE G 137 [.ptr 0 0] [.box [.val (.str s0_0), .val (.bool s0_1)]] [.val (.agg [.int .i64 r1, .int .i64 r2, .str r3, .bool r4, .row (r5.map e115)])] [.box [.val (.str r6), .val (.bool r7)]] := by
  obtain ⟨k, h⟩ := lim_ex h
  exact (impl_rexReader_pattern_all (k + 1)).2.2.2 k _ _ _ _ _ _ _ _ _ h (Nat.lt_succ_self k)
theorem impl_rexDeep_all : ∀ n, (∀ (k : Nat) (a0_0 : Int) (a0_1 : Int) (a0_2 : ByteArray) (a0_3 : Bool) (l0_4 : List S115) (r : Int) (h : run impl_rexDeep.B k (.f a0_0 a0_1 a0_2 a0_3 l0_4) = some r) (hk : k < n), CE G 109 [.val (.agg [.int .i64 a0_0, .int .i64 a0_1, .str a0_2, .bool a0_3, .row (l0_4.map e115)])] [] [.val (.int .i64 r)] []) := by
  intro n
  induction n with
  | zero => exact (by intros; omega)
  | succ n ih =>
    · intro k a0_0 a0_1 a0_2 a0_3 l0_4 r h hk
      refine CE.mk ⟨Tryz.f109, _, rfl, rfl, ⟨by kernel_rfl, Nat.le_of_ble_eq_true rfl, Nat.le_of_ble_eq_true rfl⟩, ?_⟩
      rcases k with _ | k
      · exact (run_zero h).elim
      rw [run_succ, impl_rexDeep.B] at h
      replace h := evT h
      refine zz ?_
      refine loopJ [] (fun kq fr hp => ∃ (x3 : Int) (x7 : List S115) (x8 : Int) (x9 : Int), run impl_rexDeep.B kq (.l0 x3 x7 x8 x9) = some r ∧ (∃ fr0, fr = puts [(3, .one (.val (.int .i64 x3))), (7, .one (.val (.row (x7.map e115)))), (8, .one (.val (.int .i64 x8))), (9, .one (.val (.int .i64 x9)))] fr0) ∧ hp = (fun _ => none)) k ⟨_, zfuel, _, _, _, _, h, leafFr [3, 7, 8, 9] (by kernel_rfl), by kernel_rfl⟩ ?_
      clear h; rintro k hle _ _ ⟨x3, x7, x8, x9, h, ⟨fr0, rfl⟩, rfl⟩
      rcases k with _ | k
      · exact (run_zero h).elim
      rw [run_succ, impl_rexDeep.B] at h
      refine zz ?_
      refine br (iP h) ?_ ?_ <;> (clear h; intro c h)
      rotate_left
      · replace h := evR h; cases h
        refine zz ?_
        first | exact ⟨trivial, [], [], ⟨rfl, trivial⟩, _, rfl, _, rfl, And.intro rfl rfl⟩ | exact ⟨[], [], ⟨rfl, trivial⟩, _, rfl, _, rfl, And.intro rfl rfl⟩
      have h_ := gP h; clear h; obtain ⟨c, h⟩ := h_
      have h_ := gP h; clear h; obtain ⟨c, h⟩ := h_
      have h_ := evA h; clear h; obtain ⟨t15, ht, h⟩ := h_
      refine zz ?_
      refine Exists.intro _ (And.intro (ih _ (h := ht) (hk := zfuel)) ?_)
      replace h := evT h
      refine zz ?_
      exact ⟨_, zfuel, _, _, _, _, h, leafFr [3, 7, 8, 9] (by kernel_rfl), by kernel_rfl⟩
theorem impl_rexDeep_ev (a0_0 : Int) (a0_1 : Int) (a0_2 : ByteArray) (a0_3 : Bool) (l0_4 : List S115) (r : Int) (h : impl_rexDeep.fv a0_0 a0_1 a0_2 a0_3 l0_4 = some r) : CE G 109 [.val (.agg [.int .i64 a0_0, .int .i64 a0_1, .str a0_2, .bool a0_3, .row (l0_4.map e115)])] [] [.val (.int .i64 r)] [] := by
  obtain ⟨k, h⟩ := lim_ex h
  exact (impl_rexDeep_all (k + 1)) k _ _ _ _ _ _ h (Nat.lt_succ_self k)
theorem impl_RexParse_ev (a0 : ByteArray) (r1 : Int) (r2 : Int) (r3 : ByteArray) (r4 : Bool) (r5 : List S115) (r6 : Bool) (h : impl_RexParse.fv a0 = some (r1, r2, r3, r4, r5, r6)) : CE G 93 [.val (.str a0)] [] [.val (.agg [.int .i64 r1, .int .i64 r2, .str r3, .bool r4, .row (r5.map e115)]), .val (.bool r6)] [] := by
  refine CE.mk ⟨Tryz.f93, _, rfl, rfl, ⟨by kernel_rfl, Nat.le_of_ble_eq_true rfl, Nat.le_of_ble_eq_true rfl⟩, ?_⟩
  rw [impl_RexParse.fv] at h
  refine zz ?_
  refine br (iteS h) ?_ ?_ <;> (clear h; intro c h)
  · cases h
    refine zz ?_
    first | exact ⟨trivial, [], [], ⟨rfl, trivial⟩, _, rfl, _, rfl, And.intro rfl rfl⟩ | exact ⟨[], [], ⟨rfl, trivial⟩, _, rfl, _, rfl, And.intro rfl rfl⟩
  have h_ := oS h; clear h; obtain ⟨t14, ht, h⟩ := h_
  refine zz ?_
  refine Exists.intro _ (Exists.intro _ (And.intro (impl_rexReader_pattern_ev (h := ht)) ?_))
  refine zz ?_
  refine brW (iteS h) ?_ ?_ <;> (clear h; intro c h)
  rotate_left
  · refine zz ?_
    try (apply Or.inr; refine zK ?_)
    refine zz ?_
    try (apply Or.inr; refine zK ?_)
    refine zz ?_
    try (apply Or.inr; refine zK ?_)
    refine zz ?_
    try (apply Or.inr; refine zK ?_)
    refine zz ?_
    try (apply Or.inl; refine zK ?_)
    refine zz ?_
    try (apply Or.inr; refine zK ?_)
    refine zz ?_
    try (apply Or.inr; refine zK ?_)
    refine zz ?_
    try (apply Or.inr; refine zK ?_)
    refine zz ?_
    try (apply Or.inl; refine zK ?_)
    refine zz ?_
    try (apply Or.inl; refine zK ?_)
    cases h
    refine zz ?_
    first | exact ⟨trivial, [], [], ⟨rfl, trivial⟩, _, rfl, _, rfl, And.intro rfl rfl⟩ | exact ⟨[], [], ⟨rfl, trivial⟩, _, rfl, _, rfl, And.intro rfl rfl⟩
  refine zz ?_
  try (apply Or.inl; refine zK ?_)
  refine zz ?_
  try (apply Or.inl; refine zK ?_)
  refine zz ?_
  try (apply Or.inl; refine zK ?_)
  refine zz ?_
  try (apply Or.inl; refine zK ?_)
  refine zz ?_
  try (apply Or.inr; refine zK ?_)
  refine zz ?_
  refine brX (iteS h) ?_ ?_ <;> (clear h; intro c h)
  rotate_left
  · refine zz ?_
    try (apply Or.inr; refine zK ?_)
    refine zz ?_
    try (apply Or.inr; refine zK ?_)
    refine zz ?_
    try (apply Or.inl; refine zK ?_)
    refine zz ?_
    try (apply Or.inl; refine zK ?_)
    cases h
    refine zz ?_
    first | exact ⟨trivial, [], [], ⟨rfl, trivial⟩, _, rfl, _, rfl, And.intro rfl rfl⟩ | exact ⟨[], [], ⟨rfl, trivial⟩, _, rfl, _, rfl, And.intro rfl rfl⟩
  refine zz ?_
  try (apply Or.inl; refine zK ?_)
  have h_ := oS h; clear h; obtain ⟨t28, ht, h⟩ := h_
  refine zz ?_
  refine Exists.intro _ (And.intro (impl_rexDeep_ev (h := ht)) ?_)
  refine zz ?_
  try (apply Or.inl; refine zK ?_)
  refine zz ?_
  try (apply Or.inr; refine zK ?_)
  refine zz ?_
  refine br (iteS h) ?_ ?_ <;> (clear h; intro c h)
  · cases h
    refine zz ?_
    first | exact ⟨trivial, [], [], ⟨rfl, trivial⟩, _, rfl, _, rfl, And.intro rfl rfl⟩ | exact ⟨[], [], ⟨rfl, trivial⟩, _, rfl, _, rfl, And.intro rfl rfl⟩
  cases h
  refine zz ?_
  first | exact ⟨trivial, [], [], ⟨rfl, trivial⟩, _, rfl, _, rfl, And.intro rfl rfl⟩ | exact ⟨[], [], ⟨rfl, trivial⟩, _, rfl, _, rfl, And.intro rfl rfl⟩
theorem impl_isRex_ev (a0 : ByteArray) (r : Bool) (h : impl_isRex.fv a0 = some r) : CE G 84 [.val (.str a0)] [] [.val (.bool r)] [] := by
  refine CE.mk ⟨Tryz.f84, _, rfl, rfl, ⟨by kernel_rfl, Nat.le_of_ble_eq_true rfl, Nat.le_of_ble_eq_true rfl⟩, ?_⟩
  rw [impl_isRex.fv] at h
  have h_ := oS h; clear h; obtain ⟨t7, ht, h⟩ := h_
  refine zz ?_
  refine Exists.intro _ (And.intro (impl_RexParse_ev (h := ht)) ?_)
  cases h
  refine zz ?_
  first | exact ⟨trivial, [], [], ⟨rfl, trivial⟩, _, rfl, _, rfl, And.intro rfl rfl⟩ | exact ⟨[], [], ⟨rfl, trivial⟩, _, rfl, _, rfl, And.intro rfl rfl⟩
end Go.Proofs.YtdpioibndfpjfaaGreatDoor.TFnExactMachOk
