/- The walks of the functions that FnExactMachOk reaches, through the abstract machine. -/
import Derived.Test.YtdpioibndfpjfaaGreatDoorAFnExactMachOkh
import Derived.Test.YtdpioibndfpjfaaGreatDoorAFnExactMachOkx0
import Derived.Test.YtdpioibndfpjfaaGreatDoorAFnExactMachOkx3
import Derived.Test.YtdpioibndfpjfaaGreatDoorAFnExactMachOkx4
import Derived.Test.YtdpioibndfpjfaaGreatDoorAFnExactMachOkx5
import Derived.Test.YtdpioibndfpjfaaGreatDoorFFnExactMachOk
import Derived.Test.YtdpioibndfpjfaaGreatDoorProg
set_option maxHeartbeats 4000000
set_option maxRecDepth 100000
set_option linter.unusedVariables false
set_option linter.unusedSimpArgs false
namespace Go.Proofs.YtdpioibndfpjfaaGreatDoor.TFnExactMachOk
open Go Go.RowKit Go.Proofs Go.Proofs.YtdpioibndfpjfaaGreatDoorW.AM Go.Proofs.YtdpioibndfpjfaaGreatDoor.QFnExactMachOk Go.Proofs.YtdpioibndfpjfaaGreatDoorW.PrintWords Go.Proofs.YtdpioibndfpjfaaGreatDoorW.Pgs
theorem impl_ValOk_ev (a0_0 : Int) (a0_1 : Int) (a0_2 : ByteArray) (r : Bool) (h : impl_ValOk.fv a0_0 a0_1 a0_2 = some r) : CE G 50 [.val (.agg [.int .i64 a0_0, .int .i64 a0_1, .str a0_2])] [] [.val (.bool r)] [] := by
  obtain ⟨k, h⟩ := lim_ex h
  refine CE.mk ⟨Tryz.f50, _, rfl, rfl, ⟨by kernel_rfl, Nat.le_of_ble_eq_true rfl, Nat.le_of_ble_eq_true rfl⟩, ?_⟩
  rcases k with _ | k
  · exact (run_zero h).elim
  rw [run_succ, impl_ValOk.B] at h
  refine zz ?_
  refine cutJ (n := 200001) [16] (fun fr hp => ∃ kq, kq ≤ k ∧ ∃ (x14 : Bool) (x16_0 : Int) (x16_1 : Int) (x16_2 : ByteArray), run impl_ValOk.B kq (.j0 x14 x16_0 x16_1 x16_2) = some r ∧ (∃ fr0, fr = puts [(1, .one (.ptr 16 0)), (14, .one (.val (.bool x14)))] fr0) ∧ hp = (upd 16 (.box [.val (.int .i64 x16_0), .val (.int .i64 x16_1), .val (.str x16_2)]) (fun _ => none))) ?_ ?_
  · have h_ := evO h; clear h; obtain ⟨t7, ht, h⟩ := h_
    refine zz ?_
    refine Exists.intro _ (And.intro (impl_DecOk_ev (h := ht)) ?_)
    refine zz ?_
    refine brX (iP h) ?_ ?_ <;> (clear h; intro c h)
    · refine zz ?_
      try (apply Or.inl; refine zK ?_)
      refine zz ?_
      try (apply Or.inl; refine zK ?_)
      refine zz ?_
      try (apply Or.inl; refine zK ?_)
      refine zz ?_
      try (apply Or.inr; refine zK ?_)
      replace h := evT h
      refine zz ?_
      exact ⟨_, zfuel, _, _, _, _, h, leafFr [1, 14] (by kernel_rfl), by kernel_rfl⟩
    refine zz ?_
    try (apply Or.inr; refine zK ?_)
    refine zz ?_
    try (apply Or.inr; refine zK ?_)
    refine zz ?_
    try (apply Or.inr; refine zK ?_)
    refine zz ?_
    try (apply Or.inl; refine zK ?_)
    replace h := evT h
    refine zz ?_
    exact ⟨_, zfuel, _, _, _, _, h, leafFr [1, 14] (by kernel_rfl), by kernel_rfl⟩
  clear h; rintro _ _ ⟨k, hle, x14, x16_0, x16_1, x16_2, h, ⟨fr0, rfl⟩, rfl⟩
  rcases k with _ | k
  · exact (run_zero h).elim
  rw [run_succ, impl_ValOk.B] at h
  refine zz ?_
  refine br (iP h) ?_ ?_ <;> (clear h; intro c h)
  · replace h := evR h; cases h
    refine zz ?_
    first | exact ⟨trivial, [], [], ⟨rfl, trivial⟩, _, rfl, _, rfl, And.intro rfl rfl⟩ | exact ⟨[], [], ⟨rfl, trivial⟩, _, rfl, _, rfl, And.intro rfl rfl⟩
  refine zz ?_
  refine br (iP h) ?_ ?_ <;> (clear h; intro c h)
  · refine zz ?_
    refine br (iP h) ?_ ?_ <;> (clear h; intro c h)
    · refine zz ?_
      try (apply Or.inl; refine zK ?_)
      refine zz ?_
      try (apply Or.inl; refine zK ?_)
      refine zz ?_
      try (apply Or.inl; refine zK ?_)
      replace h := evR h; cases h
      refine zz ?_
      first | exact ⟨trivial, [], [], ⟨rfl, trivial⟩, _, rfl, _, rfl, And.intro rfl rfl⟩ | exact ⟨[], [], ⟨rfl, trivial⟩, _, rfl, _, rfl, And.intro rfl rfl⟩
    refine zz ?_
    try (apply Or.inr; refine zK ?_)
    refine zz ?_
    try (apply Or.inr; refine zK ?_)
    refine zz ?_
    try (apply Or.inr; refine zK ?_)
    replace h := evR h; cases h
    refine zz ?_
    first | exact ⟨trivial, [], [], ⟨rfl, trivial⟩, _, rfl, _, rfl, And.intro rfl rfl⟩ | exact ⟨[], [], ⟨rfl, trivial⟩, _, rfl, _, rfl, And.intro rfl rfl⟩
  refine zz ?_
  refine br (iP h) ?_ ?_ <;> (clear h; intro c h)
  · replace h := evR h; cases h
    refine zz ?_
    first | exact ⟨trivial, [], [], ⟨rfl, trivial⟩, _, rfl, _, rfl, And.intro rfl rfl⟩ | exact ⟨[], [], ⟨rfl, trivial⟩, _, rfl, _, rfl, And.intro rfl rfl⟩
  refine zz ?_
  refine br (iP h) ?_ ?_ <;> (clear h; intro c h)
  · replace h := evR h; cases h
    refine zz ?_
    first | exact ⟨trivial, [], [], ⟨rfl, trivial⟩, _, rfl, _, rfl, And.intro rfl rfl⟩ | exact ⟨[], [], ⟨rfl, trivial⟩, _, rfl, _, rfl, And.intro rfl rfl⟩
  refine zz ?_
  refine br (iP h) ?_ ?_ <;> (clear h; intro c h)
  rotate_left
  · replace h := evR h; cases h
    refine zz ?_
    first | exact ⟨trivial, [], [], ⟨rfl, trivial⟩, _, rfl, _, rfl, And.intro rfl rfl⟩ | exact ⟨[], [], ⟨rfl, trivial⟩, _, rfl, _, rfl, And.intro rfl rfl⟩
  have h_ := evO h; clear h; obtain ⟨t42, ht, h⟩ := h_
  refine zz ?_
  refine Exists.intro _ (And.intro (impl_DecLooks_ev (h := ht)) ?_)
  refine zz ?_
  refine br (iP h) ?_ ?_ <;> (clear h; intro c h)
  · refine zz ?_
    try (apply Or.inl; refine zK ?_)
    refine zz ?_
    try (apply Or.inl; refine zK ?_)
    refine zz ?_
    try (apply Or.inl; refine zK ?_)
    refine zz ?_
    try (apply Or.inl; refine zK ?_)
    replace h := evR h; cases h
    refine zz ?_
    first | exact ⟨trivial, [], [], ⟨rfl, trivial⟩, _, rfl, _, rfl, And.intro rfl rfl⟩ | exact ⟨[], [], ⟨rfl, trivial⟩, _, rfl, _, rfl, And.intro rfl rfl⟩
  refine zz ?_
  try (apply Or.inr; refine zK ?_)
  refine zz ?_
  try (apply Or.inr; refine zK ?_)
  refine zz ?_
  try (apply Or.inr; refine zK ?_)
  refine zz ?_
  try (apply Or.inr; refine zK ?_)
  replace h := evR h; cases h
  refine zz ?_
  first | exact ⟨trivial, [], [], ⟨rfl, trivial⟩, _, rfl, _, rfl, And.intro rfl rfl⟩ | exact ⟨[], [], ⟨rfl, trivial⟩, _, rfl, _, rfl, And.intro rfl rfl⟩
theorem impl_StateOk_1_ev (a0_0 : Int) (a0_1 : Int) (a0_2 : ByteArray) (r : Bool) (h : impl_StateOk_1.fv a0_0 a0_1 a0_2 = some r) : CE G 49 [.val (.agg [.int .i64 a0_0, .int .i64 a0_1, .str a0_2])] [] [.val (.bool r)] [] := by
  refine CE.mk ⟨Tryz.f49, _, rfl, rfl, ⟨by kernel_rfl, Nat.le_of_ble_eq_true rfl, Nat.le_of_ble_eq_true rfl⟩, ?_⟩
  rw [impl_StateOk_1.fv] at h
  have h_ := oS h; clear h; obtain ⟨t4, ht, h⟩ := h_
  refine zz ?_
  refine Exists.intro _ (And.intro (impl_ValOk_ev (h := ht)) ?_)
  cases h
  refine zz ?_
  first | exact ⟨trivial, [], [], ⟨rfl, trivial⟩, _, rfl, _, rfl, And.intro rfl rfl⟩ | exact ⟨[], [], ⟨rfl, trivial⟩, _, rfl, _, rfl, And.intro rfl rfl⟩
theorem slices_IndexFunc_impl_Val_impl_Val__impl_StateOk_1_ev (l0 : List S77) (r : Int) (h : slices_IndexFunc_impl_Val_impl_Val__impl_StateOk_1.fv l0 = some r) : CE G 71 [.val (.row (l0.map e77)), .fn 49 []] [] [.val (.int .i64 r)] [] := by
  obtain ⟨k, h⟩ := lim_ex h
  refine CE.mk ⟨Tryz.f71, _, rfl, rfl, ⟨by kernel_rfl, Nat.le_of_ble_eq_true rfl, Nat.le_of_ble_eq_true rfl⟩, ?_⟩
  rcases k with _ | k
  · exact (run_zero h).elim
  rw [run_succ, slices_IndexFunc_impl_Val_impl_Val__impl_StateOk_1.B] at h
  replace h := evT h
  refine zz ?_
  refine loopJ [] (fun kq fr hp => ∃ (x0 : List S77) (x7 : Int) (x8 : Int), run slices_IndexFunc_impl_Val_impl_Val__impl_StateOk_1.B kq (.l0 x0 x7 x8) = some r ∧ (∃ fr0, fr = puts [(0, .one (.val (.row (x0.map e77)))), (1, .one (.fn 49 [])), (7, .one (.val (.int .i64 x7))), (8, .one (.val (.int .i64 x8)))] fr0) ∧ hp = (fun _ => none)) k ⟨_, zfuel, _, _, _, h, leafFr [0, 1, 7, 8] (by kernel_rfl), by kernel_rfl⟩ ?_
  clear h; rintro k hle _ _ ⟨x0, x7, x8, h, ⟨fr0, rfl⟩, rfl⟩
  rcases k with _ | k
  · exact (run_zero h).elim
  rw [run_succ, slices_IndexFunc_impl_Val_impl_Val__impl_StateOk_1.B] at h
  refine zz ?_
  refine br (iP h) ?_ ?_ <;> (clear h; intro c h)
  rotate_left
  · replace h := evR h; cases h
    refine zz ?_
    first | exact ⟨trivial, [], [], ⟨rfl, trivial⟩, _, rfl, _, rfl, And.intro rfl rfl⟩ | exact ⟨[], [], ⟨rfl, trivial⟩, _, rfl, _, rfl, And.intro rfl rfl⟩
  have h_ := gP h; clear h; obtain ⟨c, h⟩ := h_
  have h_ := gP h; clear h; obtain ⟨c, h⟩ := h_
  have h_ := evO h; clear h; obtain ⟨t16, ht, h⟩ := h_
  refine zz ?_
  refine Exists.intro _ (And.intro (impl_StateOk_1_ev (h := ht)) ?_)
  refine zz ?_
  refine br (iP h) ?_ ?_ <;> (clear h; intro c h)
  · replace h := evR h; cases h
    refine zz ?_
    first | exact ⟨trivial, [], [], ⟨rfl, trivial⟩, _, rfl, _, rfl, And.intro rfl rfl⟩ | exact ⟨[], [], ⟨rfl, trivial⟩, _, rfl, _, rfl, And.intro rfl rfl⟩
  replace h := evT h
  refine zz ?_
  exact ⟨_, zfuel, _, _, _, h, leafFr [0, 1, 7, 8] (by kernel_rfl), by kernel_rfl⟩
theorem slices_ContainsFunc_impl_Val_impl_Val__impl_StateOk_1_ev (l0 : List S77) (r : Bool) (h : slices_ContainsFunc_impl_Val_impl_Val__impl_StateOk_1.fv l0 = some r) : CE G 48 [.val (.row (l0.map e77)), .fn 49 []] [] [.val (.bool r)] [] := by
  refine CE.mk ⟨Tryz.f48, _, rfl, rfl, ⟨by kernel_rfl, Nat.le_of_ble_eq_true rfl, Nat.le_of_ble_eq_true rfl⟩, ?_⟩
  rw [slices_ContainsFunc_impl_Val_impl_Val__impl_StateOk_1.fv] at h
  have h_ := oS h; clear h; obtain ⟨t7, ht, h⟩ := h_
  refine zz ?_
  refine Exists.intro _ (And.intro (slices_IndexFunc_impl_Val_impl_Val__impl_StateOk_1_ev (h := ht)) ?_)
  cases h
  refine zz ?_
  first | exact ⟨trivial, [], [], ⟨rfl, trivial⟩, _, rfl, _, rfl, And.intro rfl rfl⟩ | exact ⟨[], [], ⟨rfl, trivial⟩, _, rfl, _, rfl, And.intro rfl rfl⟩
theorem impl_cellBefore_ev (a0_0 : Int) (a0_1 : ByteArray) (a0_2 : Int) (a0_3 : Int) (a0_4 : ByteArray) (a1_0 : Int) (a1_1 : ByteArray) (a1_2 : Int) (a1_3 : Int) (a1_4 : ByteArray) (r : Int) (h : impl_cellBefore.f a0_0 a0_1 a0_2 a0_3 a0_4 a1_0 a1_1 a1_2 a1_3 a1_4 = some r) : CE G 51 [.val (.agg [.int .i64 a0_0, .str a0_1, .int .i64 a0_2, .int .i64 a0_3, .str a0_4]), .val (.agg [.int .i64 a1_0, .str a1_1, .int .i64 a1_2, .int .i64 a1_3, .str a1_4])] [] [.val (.int .i64 r)] [] := by
  refine CE.mk ⟨Tryz.f51, _, rfl, rfl, ⟨by kernel_rfl, Nat.le_of_ble_eq_true rfl, Nat.le_of_ble_eq_true rfl⟩, ?_⟩
  rw [impl_cellBefore.f] at h
  refine zz ?_
  refine br (iteS h) ?_ ?_ <;> (clear h; intro c h)
  · cases h
    refine zz ?_
    first | exact ⟨trivial, [], [], ⟨rfl, trivial⟩, _, rfl, _, rfl, And.intro rfl rfl⟩ | exact ⟨[], [], ⟨rfl, trivial⟩, _, rfl, _, rfl, And.intro rfl rfl⟩
  refine zz ?_
  refine br (iteS h) ?_ ?_ <;> (clear h; intro c h)
  · cases h
    refine zz ?_
    first | exact ⟨trivial, [], [], ⟨rfl, trivial⟩, _, rfl, _, rfl, And.intro rfl rfl⟩ | exact ⟨[], [], ⟨rfl, trivial⟩, _, rfl, _, rfl, And.intro rfl rfl⟩
  have h_ := oS h; clear h; obtain ⟨t21, ht, h⟩ := h_
  refine zz ?_
  refine Exists.intro _ (And.intro (orc74 (h := ht)) ?_)
  cases h
  refine zz ?_
  first | exact ⟨trivial, [], [], ⟨rfl, trivial⟩, _, rfl, _, rfl, And.intro rfl rfl⟩ | exact ⟨[], [], ⟨rfl, trivial⟩, _, rfl, _, rfl, And.intro rfl rfl⟩
theorem impl_StateOk_ev (l0_0 : List S77) (l0_1 : List S79) (a0_2 : Int) (a0_3 : Int) (a1 : Int) (a2 : Int) (r : Bool) (h : impl_StateOk.fv l0_0 l0_1 a0_2 a0_3 a1 a2 = some r) : CE G 24 [.val (.agg [.row (l0_0.map e77), .row (l0_1.map e79), .int .i64 a0_2, .int .i64 a0_3]), .val (.int .i64 a1), .val (.int .i64 a2)] [] [.val (.bool r)] [] := by
  obtain ⟨k, h⟩ := lim_ex h
  refine CE.mk ⟨Tryz.f24, _, rfl, rfl, ⟨by kernel_rfl, Nat.le_of_ble_eq_true rfl, Nat.le_of_ble_eq_true rfl⟩, ?_⟩
  rcases k with _ | k
  · exact (run_zero h).elim
  rw [run_succ, impl_StateOk.B] at h
  refine zz ?_
  refine cutJ (n := 200001) [16] (fun fr hp => ∃ kq, kq ≤ k ∧ ∃ (x2 : Int) (x36 : Bool) (x16_0 : List S77) (x16_1 : List S79) (x16_2 : Int) (x16_3 : Int), run impl_StateOk.B kq (.j0 x2 x36 x16_0 x16_1 x16_2 x16_3) = some r ∧ (∃ fr0, fr = puts [(2, .one (.val (.int .i64 x2))), (3, .one (.ptr 16 0)), (36, .one (.val (.bool x36)))] fr0) ∧ hp = (upd 16 (.box [.val (.row (x16_0.map e77)), .val (.row (x16_1.map e79)), .val (.int .i64 x16_2), .val (.int .i64 x16_3)]) (fun _ => none))) ?_ ?_
  · refine zz ?_
    refine brX (iP h) ?_ ?_ <;> (clear h; intro c h)
    rotate_left
    · refine zz ?_
      try (apply Or.inr; refine zK ?_)
      refine zz ?_
      try (apply Or.inr; refine zK ?_)
      refine zz ?_
      try (apply Or.inl; refine zK ?_)
      refine zz ?_
      try (apply Or.inr; refine zK ?_)
      refine zz ?_
      try (apply Or.inr; refine zK ?_)
      refine zz ?_
      try (apply Or.inr; refine zK ?_)
      refine zz ?_
      try (apply Or.inr; refine zK ?_)
      refine zz ?_
      try (apply Or.inl; refine zK ?_)
      refine zz ?_
      try (apply Or.inr; refine zK ?_)
      refine zz ?_
      try (apply Or.inr; refine zK ?_)
      refine zz ?_
      try (apply Or.inr; refine zK ?_)
      refine zz ?_
      try (apply Or.inr; refine zK ?_)
      refine zz ?_
      try (apply Or.inl; refine zK ?_)
      refine zz ?_
      try (apply Or.inr; refine zK ?_)
      refine zz ?_
      try (apply Or.inr; refine zK ?_)
      refine zz ?_
      try (apply Or.inr; refine zK ?_)
      refine zz ?_
      try (apply Or.inr; refine zK ?_)
      refine zz ?_
      try (apply Or.inl; refine zK ?_)
      replace h := evT h
      refine zz ?_
      exact ⟨_, zfuel, _, _, _, _, _, _, h, leafFr [2, 3, 36] (by kernel_rfl), by kernel_rfl⟩
    refine zz ?_
    try (apply Or.inl; refine zK ?_)
    refine zz ?_
    try (apply Or.inl; refine zK ?_)
    have h_ := evO h; clear h; obtain ⟨t17, ht, h⟩ := h_
    refine zz ?_
    refine Exists.intro _ (And.intro (slices_ContainsFunc_impl_Val_impl_Val__impl_StateOk_1_ev (h := ht)) ?_)
    refine zz ?_
    try (apply Or.inr; refine zK ?_)
    refine zz ?_
    refine brW (iP h) ?_ ?_ <;> (clear h; intro c h)
    rotate_left
    · refine zz ?_
      try (apply Or.inr; refine zK ?_)
      refine zz ?_
      try (apply Or.inr; refine zK ?_)
      refine zz ?_
      try (apply Or.inr; refine zK ?_)
      refine zz ?_
      try (apply Or.inl; refine zK ?_)
      refine zz ?_
      try (apply Or.inr; refine zK ?_)
      refine zz ?_
      try (apply Or.inr; refine zK ?_)
      refine zz ?_
      try (apply Or.inr; refine zK ?_)
      refine zz ?_
      try (apply Or.inr; refine zK ?_)
      refine zz ?_
      try (apply Or.inl; refine zK ?_)
      refine zz ?_
      try (apply Or.inr; refine zK ?_)
      refine zz ?_
      try (apply Or.inr; refine zK ?_)
      refine zz ?_
      try (apply Or.inr; refine zK ?_)
      refine zz ?_
      try (apply Or.inr; refine zK ?_)
      refine zz ?_
      try (apply Or.inl; refine zK ?_)
      replace h := evT h
      refine zz ?_
      exact ⟨_, zfuel, _, _, _, _, _, _, h, leafFr [2, 3, 36] (by kernel_rfl), by kernel_rfl⟩
    refine zz ?_
    try (apply Or.inl; refine zK ?_)
    refine zz ?_
    try (apply Or.inl; refine zK ?_)
    refine zz ?_
    try (apply Or.inl; refine zK ?_)
    refine zz ?_
    try (apply Or.inr; refine zK ?_)
    refine zz ?_
    refine brW (iP h) ?_ ?_ <;> (clear h; intro c h)
    rotate_left
    · refine zz ?_
      try (apply Or.inr; refine zK ?_)
      refine zz ?_
      try (apply Or.inr; refine zK ?_)
      refine zz ?_
      try (apply Or.inr; refine zK ?_)
      refine zz ?_
      try (apply Or.inl; refine zK ?_)
      refine zz ?_
      try (apply Or.inr; refine zK ?_)
      refine zz ?_
      try (apply Or.inr; refine zK ?_)
      refine zz ?_
      try (apply Or.inr; refine zK ?_)
      refine zz ?_
      try (apply Or.inr; refine zK ?_)
      refine zz ?_
      try (apply Or.inl; refine zK ?_)
      replace h := evT h
      refine zz ?_
      exact ⟨_, zfuel, _, _, _, _, _, _, h, leafFr [2, 3, 36] (by kernel_rfl), by kernel_rfl⟩
    refine zz ?_
    try (apply Or.inl; refine zK ?_)
    refine zz ?_
    try (apply Or.inl; refine zK ?_)
    have h_ := evO h; clear h; obtain ⟨t28, ht, h⟩ := h_
    refine zz ?_
    refine Exists.intro _ (And.intro (impl_in_ev (h := ht)) ?_)
    refine zz ?_
    try (apply Or.inl; refine zK ?_)
    refine zz ?_
    try (apply Or.inr; refine zK ?_)
    refine zz ?_
    refine brX (iP h) ?_ ?_ <;> (clear h; intro c h)
    rotate_left
    · refine zz ?_
      try (apply Or.inr; refine zK ?_)
      refine zz ?_
      try (apply Or.inr; refine zK ?_)
      refine zz ?_
      try (apply Or.inr; refine zK ?_)
      refine zz ?_
      try (apply Or.inl; refine zK ?_)
      replace h := evT h
      refine zz ?_
      exact ⟨_, zfuel, _, _, _, _, _, _, h, leafFr [2, 3, 36] (by kernel_rfl), by kernel_rfl⟩
    refine zz ?_
    try (apply Or.inl; refine zK ?_)
    refine zz ?_
    try (apply Or.inl; refine zK ?_)
    have h_ := evO h; clear h; obtain ⟨t34, ht, h⟩ := h_
    refine zz ?_
    refine Exists.intro _ (And.intro (impl_in_ev (h := ht)) ?_)
    refine zz ?_
    try (apply Or.inl; refine zK ?_)
    refine zz ?_
    try (apply Or.inr; refine zK ?_)
    replace h := evT h
    refine zz ?_
    exact ⟨_, zfuel, _, _, _, _, _, _, h, leafFr [2, 3, 36] (by kernel_rfl), by kernel_rfl⟩
  clear h; rintro _ _ ⟨k, hle, x2, x36, x16_0, x16_1, x16_2, x16_3, h, ⟨fr0, rfl⟩, rfl⟩
  rcases k with _ | k
  · exact (run_zero h).elim
  rw [run_succ, impl_StateOk.B] at h
  refine zz ?_
  refine br (iP h) ?_ ?_ <;> (clear h; intro c h)
  · replace h := evR h; cases h
    refine zz ?_
    first | exact ⟨trivial, [], [], ⟨rfl, trivial⟩, _, rfl, _, rfl, And.intro rfl rfl⟩ | exact ⟨[], [], ⟨rfl, trivial⟩, _, rfl, _, rfl, And.intro rfl rfl⟩
  replace h := evT h
  refine zz ?_
  refine loopJ [16] (fun kq fr hp => ∃ (x2 : Int) (x38 : List S79) (x39 : Int) (x40 : Int) (x16_0 : List S77) (x16_1 : List S79) (x16_2 : Int) (x16_3 : Int), run impl_StateOk.B kq (.l0 x2 x38 x39 x40 x16_0 x16_1 x16_2 x16_3) = some r ∧ (∃ fr0, fr = puts [(2, .one (.val (.int .i64 x2))), (3, .one (.ptr 16 0)), (38, .one (.val (.row (x38.map e79)))), (39, .one (.val (.int .i64 x39))), (40, .one (.val (.int .i64 x40)))] fr0) ∧ hp = (upd 16 (.box [.val (.row (x16_0.map e77)), .val (.row (x16_1.map e79)), .val (.int .i64 x16_2), .val (.int .i64 x16_3)]) (fun _ => none))) k ⟨_, zfuel, _, _, _, _, _, _, _, _, h, leafFr [2, 3, 38, 39, 40] (by kernel_rfl), by kernel_rfl⟩ ?_
  clear h; rintro k hle _ _ ⟨x2, x38, x39, x40, x16_0, x16_1, x16_2, x16_3, h, ⟨fr0, rfl⟩, rfl⟩
  rcases k with _ | k
  · exact (run_zero h).elim
  rw [run_succ, impl_StateOk.B] at h
  refine zz ?_
  refine br (iP h) ?_ ?_ <;> (clear h; intro c h)
  rotate_left
  · replace h := evR h; cases h
    refine zz ?_
    first | exact ⟨trivial, [], [], ⟨rfl, trivial⟩, _, rfl, _, rfl, And.intro rfl rfl⟩ | exact ⟨[], [], ⟨rfl, trivial⟩, _, rfl, _, rfl, And.intro rfl rfl⟩
  have h_ := gP h; clear h; obtain ⟨c, h⟩ := h_
  have h_ := gP h; clear h; obtain ⟨c, h⟩ := h_
  refine zz ?_
  refine brW (iP h) ?_ ?_ <;> (clear h; intro c h)
  rotate_left
  · refine zz ?_
    try (apply Or.inr; refine zK ?_)
    refine zz ?_
    try (apply Or.inr; refine zK ?_)
    refine zz ?_
    try (apply Or.inr; refine zK ?_)
    refine zz ?_
    try (apply Or.inl; refine zK ?_)
    refine zz ?_
    try (apply Or.inr; refine zK ?_)
    refine zz ?_
    try (apply Or.inr; refine zK ?_)
    refine zz ?_
    try (apply Or.inr; refine zK ?_)
    refine zz ?_
    try (apply Or.inr; refine zK ?_)
    refine zz ?_
    try (apply Or.inl; refine zK ?_)
    refine zz ?_
    try (apply Or.inr; refine zK ?_)
    refine zz ?_
    try (apply Or.inr; refine zK ?_)
    refine zz ?_
    try (apply Or.inr; refine zK ?_)
    refine zz ?_
    try (apply Or.inr; refine zK ?_)
    refine zz ?_
    try (apply Or.inl; refine zK ?_)
    refine zz ?_
    try (apply Or.inr; refine zK ?_)
    refine zz ?_
    try (apply Or.inr; refine zK ?_)
    refine zz ?_
    try (apply Or.inr; refine zK ?_)
    refine zz ?_
    try (apply Or.inr; refine zK ?_)
    refine zz ?_
    try (apply Or.inl; refine zK ?_)
    refine zz ?_
    try (apply Or.inl; refine zK ?_)
    replace h := evR h; cases h
    refine zz ?_
    first | exact ⟨trivial, [], [], ⟨rfl, trivial⟩, _, rfl, _, rfl, And.intro rfl rfl⟩ | exact ⟨[], [], ⟨rfl, trivial⟩, _, rfl, _, rfl, And.intro rfl rfl⟩
  refine zz ?_
  try (apply Or.inl; refine zK ?_)
  refine zz ?_
  try (apply Or.inl; refine zK ?_)
  refine zz ?_
  try (apply Or.inl; refine zK ?_)
  refine zz ?_
  try (apply Or.inr; refine zK ?_)
  refine zz ?_
  refine brW (iP h) ?_ ?_ <;> (clear h; intro c h)
  rotate_left
  · refine zz ?_
    try (apply Or.inr; refine zK ?_)
    refine zz ?_
    try (apply Or.inr; refine zK ?_)
    refine zz ?_
    try (apply Or.inr; refine zK ?_)
    refine zz ?_
    try (apply Or.inl; refine zK ?_)
    refine zz ?_
    try (apply Or.inr; refine zK ?_)
    refine zz ?_
    try (apply Or.inr; refine zK ?_)
    refine zz ?_
    try (apply Or.inr; refine zK ?_)
    refine zz ?_
    try (apply Or.inr; refine zK ?_)
    refine zz ?_
    try (apply Or.inl; refine zK ?_)
    refine zz ?_
    try (apply Or.inr; refine zK ?_)
    refine zz ?_
    try (apply Or.inr; refine zK ?_)
    refine zz ?_
    try (apply Or.inr; refine zK ?_)
    refine zz ?_
    try (apply Or.inr; refine zK ?_)
    refine zz ?_
    try (apply Or.inl; refine zK ?_)
    refine zz ?_
    try (apply Or.inl; refine zK ?_)
    replace h := evR h; cases h
    refine zz ?_
    first | exact ⟨trivial, [], [], ⟨rfl, trivial⟩, _, rfl, _, rfl, And.intro rfl rfl⟩ | exact ⟨[], [], ⟨rfl, trivial⟩, _, rfl, _, rfl, And.intro rfl rfl⟩
  refine zz ?_
  try (apply Or.inl; refine zK ?_)
  refine zz ?_
  try (apply Or.inl; refine zK ?_)
  refine zz ?_
  try (apply Or.inl; refine zK ?_)
  refine zz ?_
  try (apply Or.inr; refine zK ?_)
  refine zz ?_
  refine brW (iP h) ?_ ?_ <;> (clear h; intro c h)
  rotate_left
  · refine zz ?_
    try (apply Or.inr; refine zK ?_)
    refine zz ?_
    try (apply Or.inr; refine zK ?_)
    refine zz ?_
    try (apply Or.inr; refine zK ?_)
    refine zz ?_
    try (apply Or.inl; refine zK ?_)
    refine zz ?_
    try (apply Or.inr; refine zK ?_)
    refine zz ?_
    try (apply Or.inr; refine zK ?_)
    refine zz ?_
    try (apply Or.inr; refine zK ?_)
    refine zz ?_
    try (apply Or.inr; refine zK ?_)
    refine zz ?_
    try (apply Or.inl; refine zK ?_)
    refine zz ?_
    try (apply Or.inl; refine zK ?_)
    replace h := evR h; cases h
    refine zz ?_
    first | exact ⟨trivial, [], [], ⟨rfl, trivial⟩, _, rfl, _, rfl, And.intro rfl rfl⟩ | exact ⟨[], [], ⟨rfl, trivial⟩, _, rfl, _, rfl, And.intro rfl rfl⟩
  refine zz ?_
  try (apply Or.inl; refine zK ?_)
  refine zz ?_
  try (apply Or.inl; refine zK ?_)
  have h_ := evO h; clear h; obtain ⟨t63, ht, h⟩ := h_
  refine zz ?_
  refine Exists.intro _ (And.intro (impl_ValOk_ev (h := ht)) ?_)
  refine zz ?_
  try (apply Or.inl; refine zK ?_)
  refine zz ?_
  try (apply Or.inr; refine zK ?_)
  refine zz ?_
  refine brX (iP h) ?_ ?_ <;> (clear h; intro c h)
  rotate_left
  · refine zz ?_
    try (apply Or.inr; refine zK ?_)
    refine zz ?_
    try (apply Or.inr; refine zK ?_)
    refine zz ?_
    try (apply Or.inr; refine zK ?_)
    refine zz ?_
    try (apply Or.inl; refine zK ?_)
    refine zz ?_
    try (apply Or.inl; refine zK ?_)
    replace h := evR h; cases h
    refine zz ?_
    first | exact ⟨trivial, [], [], ⟨rfl, trivial⟩, _, rfl, _, rfl, And.intro rfl rfl⟩ | exact ⟨[], [], ⟨rfl, trivial⟩, _, rfl, _, rfl, And.intro rfl rfl⟩
  refine zz ?_
  try (apply Or.inl; refine zK ?_)
  refine zz ?_
  try (apply Or.inl; refine zK ?_)
  refine zz ?_
  refine br (iP h) ?_ ?_ <;> (clear h; intro c h)
  rotate_left
  · refine zz ?_
    try (apply Or.inr; refine zK ?_)
    refine zz ?_
    try (apply Or.inr; refine zK ?_)
    refine zz ?_
    try (apply Or.inr; refine zK ?_)
    refine zz ?_
    try (apply Or.inr; refine zK ?_)
    refine zz ?_
    try (apply Or.inr; refine zK ?_)
    refine zz ?_
    try (apply Or.inr; refine zK ?_)
    refine zz ?_
    try (apply Or.inr; refine zK ?_)
    refine zz ?_
    try (apply Or.inr; refine zK ?_)
    refine zz ?_
    try (apply Or.inl; refine zK ?_)
    refine zz ?_
    try (apply Or.inr; refine zK ?_)
    refine zz ?_
    try (apply Or.inr; refine zK ?_)
    refine zz ?_
    try (apply Or.inr; refine zK ?_)
    replace h := evT h
    refine zz ?_
    exact ⟨_, zfuel, _, _, _, _, _, _, _, _, h, leafFr [2, 3, 38, 39, 40] (by kernel_rfl), by kernel_rfl⟩
  refine zz ?_
  try (apply Or.inl; refine zK ?_)
  refine zz ?_
  try (apply Or.inl; refine zK ?_)
  refine zz ?_
  try (apply Or.inl; refine zK ?_)
  refine zz ?_
  try (apply Or.inl; refine zK ?_)
  have h_ := gP h; clear h; obtain ⟨c, h⟩ := h_
  have h_ := gP h; clear h; obtain ⟨c, h⟩ := h_
  refine zz ?_
  try (apply Or.inl; refine zK ?_)
  refine zz ?_
  try (apply Or.inl; refine zK ?_)
  refine zz ?_
  try (apply Or.inl; refine zK ?_)
  have h_ := evO h; clear h; obtain ⟨t77, ht, h⟩ := h_
  refine zz ?_
  refine Exists.intro _ (And.intro (impl_cellBefore_ev (h := ht)) ?_)
  refine zz ?_
  try (apply Or.inl; refine zK ?_)
  refine zz ?_
  try (apply Or.inl; refine zK ?_)
  refine zz ?_
  try (apply Or.inl; refine zK ?_)
  refine zz ?_
  try (apply Or.inr; refine zK ?_)
  refine zz ?_
  refine br (iP h) ?_ ?_ <;> (clear h; intro c h)
  · replace h := evR h; cases h
    refine zz ?_
    first | exact ⟨trivial, [], [], ⟨rfl, trivial⟩, _, rfl, _, rfl, And.intro rfl rfl⟩ | exact ⟨[], [], ⟨rfl, trivial⟩, _, rfl, _, rfl, And.intro rfl rfl⟩
  replace h := evT h
  refine zz ?_
  exact ⟨_, zfuel, _, _, _, _, _, _, _, _, h, leafFr [2, 3, 38, 39, 40] (by kernel_rfl), by kernel_rfl⟩
theorem impl_MachOk_1_ev (a0 : Int) (r : Bool) (h : impl_MachOk_1.f a0 = some r) : CE G 26 [.val (.int .i64 a0)] [] [.val (.bool r)] [] := by
  refine CE.mk ⟨Tryz.f26, _, rfl, rfl, ⟨by kernel_rfl, Nat.le_of_ble_eq_true rfl, Nat.le_of_ble_eq_true rfl⟩, ?_⟩
  rw [impl_MachOk_1.f] at h
  have h_ := oS h; clear h; obtain ⟨t4, ht, h⟩ := h_
  refine zz ?_
  refine Exists.intro _ (And.intro (impl_in_ev (h := ht)) ?_)
  cases h
  refine zz ?_
  first | exact ⟨trivial, [], [], ⟨rfl, trivial⟩, _, rfl, _, rfl, And.intro rfl rfl⟩ | exact ⟨[], [], ⟨rfl, trivial⟩, _, rfl, _, rfl, And.intro rfl rfl⟩
theorem slices_IndexFunc_int_int__impl_MachOk_1_ev (l0 : List Int) (r : Int) (h : slices_IndexFunc_int_int__impl_MachOk_1.fv l0 = some r) : CE G 52 [.val (.row (l0.map (VV.int .i64))), .fn 26 []] [] [.val (.int .i64 r)] [] := by
  obtain ⟨k, h⟩ := lim_ex h
  refine CE.mk ⟨Tryz.f52, _, rfl, rfl, ⟨by kernel_rfl, Nat.le_of_ble_eq_true rfl, Nat.le_of_ble_eq_true rfl⟩, ?_⟩
  rcases k with _ | k
  · exact (run_zero h).elim
  rw [run_succ, slices_IndexFunc_int_int__impl_MachOk_1.B] at h
  replace h := evT h
  refine zz ?_
  refine loopJ [] (fun kq fr hp => ∃ (x0 : List Int) (x7 : Int) (x8 : Int), run slices_IndexFunc_int_int__impl_MachOk_1.B kq (.l0 x0 x7 x8) = some r ∧ (∃ fr0, fr = puts [(0, .one (.val (.row (x0.map (VV.int .i64))))), (1, .one (.fn 26 [])), (7, .one (.val (.int .i64 x7))), (8, .one (.val (.int .i64 x8)))] fr0) ∧ hp = (fun _ => none)) k ⟨_, zfuel, _, _, _, h, leafFr [0, 1, 7, 8] (by kernel_rfl), by kernel_rfl⟩ ?_
  clear h; rintro k hle _ _ ⟨x0, x7, x8, h, ⟨fr0, rfl⟩, rfl⟩
  rcases k with _ | k
  · exact (run_zero h).elim
  rw [run_succ, slices_IndexFunc_int_int__impl_MachOk_1.B] at h
  refine zz ?_
  refine br (iP h) ?_ ?_ <;> (clear h; intro c h)
  rotate_left
  · replace h := evR h; cases h
    refine zz ?_
    first | exact ⟨trivial, [], [], ⟨rfl, trivial⟩, _, rfl, _, rfl, And.intro rfl rfl⟩ | exact ⟨[], [], ⟨rfl, trivial⟩, _, rfl, _, rfl, And.intro rfl rfl⟩
  have h_ := gP h; clear h; obtain ⟨c, h⟩ := h_
  have h_ := gP h; clear h; obtain ⟨c, h⟩ := h_
  have h_ := evO h; clear h; obtain ⟨t16, ht, h⟩ := h_
  refine zz ?_
  refine Exists.intro _ (And.intro (impl_MachOk_1_ev (h := ht)) ?_)
  refine zz ?_
  refine br (iP h) ?_ ?_ <;> (clear h; intro c h)
  · replace h := evR h; cases h
    refine zz ?_
    first | exact ⟨trivial, [], [], ⟨rfl, trivial⟩, _, rfl, _, rfl, And.intro rfl rfl⟩ | exact ⟨[], [], ⟨rfl, trivial⟩, _, rfl, _, rfl, And.intro rfl rfl⟩
  replace h := evT h
  refine zz ?_
  exact ⟨_, zfuel, _, _, _, h, leafFr [0, 1, 7, 8] (by kernel_rfl), by kernel_rfl⟩
theorem slices_ContainsFunc_int_int__impl_MachOk_1_ev (l0 : List Int) (r : Bool) (h : slices_ContainsFunc_int_int__impl_MachOk_1.fv l0 = some r) : CE G 25 [.val (.row (l0.map (VV.int .i64))), .fn 26 []] [] [.val (.bool r)] [] := by
  refine CE.mk ⟨Tryz.f25, _, rfl, rfl, ⟨by kernel_rfl, Nat.le_of_ble_eq_true rfl, Nat.le_of_ble_eq_true rfl⟩, ?_⟩
  rw [slices_ContainsFunc_int_int__impl_MachOk_1.fv] at h
  have h_ := oS h; clear h; obtain ⟨t7, ht, h⟩ := h_
  refine zz ?_
  refine Exists.intro _ (And.intro (slices_IndexFunc_int_int__impl_MachOk_1_ev (h := ht)) ?_)
  cases h
  refine zz ?_
  first | exact ⟨trivial, [], [], ⟨rfl, trivial⟩, _, rfl, _, rfl, And.intro rfl rfl⟩ | exact ⟨[], [], ⟨rfl, trivial⟩, _, rfl, _, rfl, And.intro rfl rfl⟩
theorem impl_MachOk_ev (l0_0 : List ByteArray) (l0_1 : List ByteArray) (l0_2 : List S81) (l0_3 : List S81) (l1_0 : List S77) (l1_1 : List S79) (a1_2 : Int) (a1_3 : Int) (l1_4 : List Int) (a1_5 : ByteArray) (r : Bool) (h : impl_MachOk.fv l0_0 l0_1 l0_2 l0_3 l1_0 l1_1 a1_2 a1_3 l1_4 a1_5 = some r) : CE G 9 [.val (.agg [.row (l0_0.map VV.str), .row (l0_1.map VV.str), .row (l0_2.map e81), .row (l0_3.map e81)]), .val (.agg [.row (l1_0.map e77), .row (l1_1.map e79), .int .i64 a1_2, .int .i64 a1_3, .row (l1_4.map (VV.int .i64)), .str a1_5])] [] [.val (.bool r)] [] := by
  refine CE.mk ⟨Tryz.f9, _, rfl, rfl, ⟨by kernel_rfl, Nat.le_of_ble_eq_true rfl, Nat.le_of_ble_eq_true rfl⟩, ?_⟩
  rw [impl_MachOk.fv] at h
  have h_ := oS h; clear h; obtain ⟨t6, ht, h⟩ := h_
  refine zz ?_
  refine Exists.intro _ (And.intro (impl_ProgOk_ev (h := ht)) ?_)
  refine zz ?_
  refine br (iteS h) ?_ ?_ <;> (clear h; intro c h)
  rotate_left
  · refine zz ?_
    try (apply Or.inr; refine zK ?_)
    refine zz ?_
    try (apply Or.inr; refine zK ?_)
    refine zz ?_
    try (apply Or.inr; refine zK ?_)
    refine zz ?_
    try (apply Or.inr; refine zK ?_)
    refine zz ?_
    try (apply Or.inr; refine zK ?_)
    refine zz ?_
    try (apply Or.inr; refine zK ?_)
    refine zz ?_
    try (apply Or.inr; refine zK ?_)
    refine zz ?_
    try (apply Or.inr; refine zK ?_)
    refine zz ?_
    try (apply Or.inr; refine zK ?_)
    refine zz ?_
    try (apply Or.inr; refine zK ?_)
    refine zz ?_
    try (apply Or.inr; refine zK ?_)
    refine zz ?_
    try (apply Or.inr; refine zK ?_)
    refine zz ?_
    try (apply Or.inr; refine zK ?_)
    refine zz ?_
    try (apply Or.inr; refine zK ?_)
    refine zz ?_
    try (apply Or.inr; refine zK ?_)
    refine zz ?_
    try (apply Or.inr; refine zK ?_)
    refine zz ?_
    try (apply Or.inr; refine zK ?_)
    refine zz ?_
    try (apply Or.inr; refine zK ?_)
    refine zz ?_
    try (apply Or.inr; refine zK ?_)
    refine zz ?_
    try (apply Or.inr; refine zK ?_)
    refine zz ?_
    try (apply Or.inr; refine zK ?_)
    refine zz ?_
    try (apply Or.inr; refine zK ?_)
    refine zz ?_
    try (apply Or.inr; refine zK ?_)
    refine zz ?_
    try (apply Or.inr; refine zK ?_)
    cases h
    refine zz ?_
    first | exact ⟨trivial, [], [], ⟨rfl, trivial⟩, _, rfl, _, rfl, And.intro rfl rfl⟩ | exact ⟨[], [], ⟨rfl, trivial⟩, _, rfl, _, rfl, And.intro rfl rfl⟩
  refine zz ?_
  try (apply Or.inl; refine zK ?_)
  refine zz ?_
  try (apply Or.inl; refine zK ?_)
  refine zz ?_
  try (apply Or.inl; refine zK ?_)
  refine zz ?_
  try (apply Or.inl; refine zK ?_)
  refine zz ?_
  try (apply Or.inl; refine zK ?_)
  refine zz ?_
  try (apply Or.inl; refine zK ?_)
  refine zz ?_
  try (apply Or.inl; refine zK ?_)
  refine zz ?_
  try (apply Or.inl; refine zK ?_)
  have h_ := oS h; clear h; obtain ⟨t16, ht, h⟩ := h_
  refine zz ?_
  refine Exists.intro _ (And.intro (impl_StateOk_ev (h := ht)) ?_)
  refine zz ?_
  try (apply Or.inl; refine zK ?_)
  refine zz ?_
  refine br (iteS h) ?_ ?_ <;> (clear h; intro c h)
  rotate_left
  · refine zz ?_
    try (apply Or.inr; refine zK ?_)
    refine zz ?_
    try (apply Or.inr; refine zK ?_)
    refine zz ?_
    try (apply Or.inr; refine zK ?_)
    refine zz ?_
    try (apply Or.inr; refine zK ?_)
    refine zz ?_
    try (apply Or.inr; refine zK ?_)
    refine zz ?_
    try (apply Or.inr; refine zK ?_)
    refine zz ?_
    try (apply Or.inr; refine zK ?_)
    refine zz ?_
    try (apply Or.inr; refine zK ?_)
    refine zz ?_
    try (apply Or.inr; refine zK ?_)
    refine zz ?_
    try (apply Or.inr; refine zK ?_)
    refine zz ?_
    try (apply Or.inr; refine zK ?_)
    refine zz ?_
    try (apply Or.inr; refine zK ?_)
    refine zz ?_
    try (apply Or.inr; refine zK ?_)
    refine zz ?_
    try (apply Or.inr; refine zK ?_)
    cases h
    refine zz ?_
    first | exact ⟨trivial, [], [], ⟨rfl, trivial⟩, _, rfl, _, rfl, And.intro rfl rfl⟩ | exact ⟨[], [], ⟨rfl, trivial⟩, _, rfl, _, rfl, And.intro rfl rfl⟩
  refine zz ?_
  try (apply Or.inl; refine zK ?_)
  refine zz ?_
  try (apply Or.inl; refine zK ?_)
  refine zz ?_
  try (apply Or.inl; refine zK ?_)
  refine zz ?_
  try (apply Or.inl; refine zK ?_)
  refine zz ?_
  refine br (iteS h) ?_ ?_ <;> (clear h; intro c h)
  rotate_left
  · refine zz ?_
    try (apply Or.inr; refine zK ?_)
    refine zz ?_
    try (apply Or.inr; refine zK ?_)
    refine zz ?_
    try (apply Or.inr; refine zK ?_)
    refine zz ?_
    try (apply Or.inr; refine zK ?_)
    refine zz ?_
    try (apply Or.inr; refine zK ?_)
    refine zz ?_
    try (apply Or.inr; refine zK ?_)
    refine zz ?_
    try (apply Or.inr; refine zK ?_)
    refine zz ?_
    try (apply Or.inr; refine zK ?_)
    refine zz ?_
    try (apply Or.inr; refine zK ?_)
    cases h
    refine zz ?_
    first | exact ⟨trivial, [], [], ⟨rfl, trivial⟩, _, rfl, _, rfl, And.intro rfl rfl⟩ | exact ⟨[], [], ⟨rfl, trivial⟩, _, rfl, _, rfl, And.intro rfl rfl⟩
  refine zz ?_
  try (apply Or.inl; refine zK ?_)
  refine zz ?_
  try (apply Or.inl; refine zK ?_)
  have h_ := oS h; clear h; obtain ⟨t27, ht, h⟩ := h_
  refine zz ?_
  refine Exists.intro _ (And.intro (slices_ContainsFunc_int_int__impl_MachOk_1_ev (h := ht)) ?_)
  refine zz ?_
  try (apply Or.inl; refine zK ?_)
  refine zz ?_
  try (apply Or.inl; refine zK ?_)
  refine zz ?_
  refine brN (iteS h) ?_ ?_ <;> (clear h; intro c h)
  · refine zz ?_
    try (apply Or.inl; refine zK ?_)
    refine zz ?_
    try (apply Or.inl; refine zK ?_)
    refine zz ?_
    try (apply Or.inl; refine zK ?_)
    refine zz ?_
    try (apply Or.inl; refine zK ?_)
    cases h
    refine zz ?_
    first | exact ⟨trivial, [], [], ⟨rfl, trivial⟩, _, rfl, _, rfl, And.intro rfl rfl⟩ | exact ⟨[], [], ⟨rfl, trivial⟩, _, rfl, _, rfl, And.intro rfl rfl⟩
  refine zz ?_
  try (apply Or.inr; refine zK ?_)
  refine zz ?_
  try (apply Or.inr; refine zK ?_)
  refine zz ?_
  try (apply Or.inr; refine zK ?_)
  refine zz ?_
  try (apply Or.inr; refine zK ?_)
  cases h
  refine zz ?_
  first | exact ⟨trivial, [], [], ⟨rfl, trivial⟩, _, rfl, _, rfl, And.intro rfl rfl⟩ | exact ⟨[], [], ⟨rfl, trivial⟩, _, rfl, _, rfl, And.intro rfl rfl⟩
theorem laws_eqStringS_ev (l0 : List ByteArray) (l1 : List ByteArray) (r : Bool) (h : laws_eqStringS.fv l0 l1 = some r) : CE G 28 [.val (.row (l0.map VV.str)), .val (.row (l1.map VV.str))] [] [.val (.bool r)] [] := by
  obtain ⟨k, h⟩ := lim_ex h
  refine CE.mk ⟨Tryz.f28, _, rfl, rfl, ⟨by kernel_rfl, Nat.le_of_ble_eq_true rfl, Nat.le_of_ble_eq_true rfl⟩, ?_⟩
  rcases k with _ | k
  · exact (run_zero h).elim
  rw [run_succ, laws_eqStringS.B] at h
  refine zz ?_
  refine brN (iP h) ?_ ?_ <;> (clear h; intro c h)
  · replace h := evR h; cases h
    refine zz ?_
    first | exact ⟨trivial, [], [], ⟨rfl, trivial⟩, _, rfl, _, rfl, And.intro rfl rfl⟩ | exact ⟨[], [], ⟨rfl, trivial⟩, _, rfl, _, rfl, And.intro rfl rfl⟩
  replace h := evT h
  refine zz ?_
  refine loopJ [] (fun kq fr hp => ∃ (x0 : List ByteArray) (x1 : List ByteArray) (x5 : Int), run laws_eqStringS.B kq (.l0 x0 x1 x5) = some r ∧ (∃ fr0, fr = puts [(0, .one (.val (.row (x0.map VV.str)))), (1, .one (.val (.row (x1.map VV.str)))), (5, .one (.val (.int .i64 x5)))] fr0) ∧ hp = (fun _ => none)) k ⟨_, zfuel, _, _, _, h, leafFr [0, 1, 5] (by kernel_rfl), by kernel_rfl⟩ ?_
  clear h; rintro k hle _ _ ⟨x0, x1, x5, h, ⟨fr0, rfl⟩, rfl⟩
  rcases k with _ | k
  · exact (run_zero h).elim
  rw [run_succ, laws_eqStringS.B] at h
  refine zz ?_
  refine br (iP h) ?_ ?_ <;> (clear h; intro c h)
  rotate_left
  · replace h := evR h; cases h
    refine zz ?_
    first | exact ⟨trivial, [], [], ⟨rfl, trivial⟩, _, rfl, _, rfl, And.intro rfl rfl⟩ | exact ⟨[], [], ⟨rfl, trivial⟩, _, rfl, _, rfl, And.intro rfl rfl⟩
  have h_ := gP h; clear h; obtain ⟨c, h⟩ := h_
  have h_ := gP h; clear h; obtain ⟨c, h⟩ := h_
  refine zz ?_
  refine brN (iP h) ?_ ?_ <;> (clear h; intro c h)
  · replace h := evR h; cases h
    refine zz ?_
    first | exact ⟨trivial, [], [], ⟨rfl, trivial⟩, _, rfl, _, rfl, And.intro rfl rfl⟩ | exact ⟨[], [], ⟨rfl, trivial⟩, _, rfl, _, rfl, And.intro rfl rfl⟩
  replace h := evT h
  refine zz ?_
  exact ⟨_, zfuel, _, _, _, h, leafFr [0, 1, 5] (by kernel_rfl), by kernel_rfl⟩
theorem laws_eqOp_ev (a0_0 : Int) (a0_1 : Int) (a0_2 : ByteArray) (a1_0 : Int) (a1_1 : Int) (a1_2 : ByteArray) (r : Bool) (h : laws_eqOp.f a0_0 a0_1 a0_2 a1_0 a1_1 a1_2 = some r) : CE G 53 [.val (.agg [.int .i64 a0_0, .int .i64 a0_1, .str a0_2]), .val (.agg [.int .i64 a1_0, .int .i64 a1_1, .str a1_2])] [] [.val (.bool r)] [] := by
  refine CE.mk ⟨Tryz.f53, _, rfl, rfl, ⟨by kernel_rfl, Nat.le_of_ble_eq_true rfl, Nat.le_of_ble_eq_true rfl⟩, ?_⟩
  rw [laws_eqOp.f] at h
  refine zz ?_
  refine brN (iteS h) ?_ ?_ <;> (clear h; intro c h)
  · cases h
    refine zz ?_
    first | exact ⟨trivial, [], [], ⟨rfl, trivial⟩, _, rfl, _, rfl, And.intro rfl rfl⟩ | exact ⟨[], [], ⟨rfl, trivial⟩, _, rfl, _, rfl, And.intro rfl rfl⟩
  refine zz ?_
  refine brN (iteS h) ?_ ?_ <;> (clear h; intro c h)
  · cases h
    refine zz ?_
    first | exact ⟨trivial, [], [], ⟨rfl, trivial⟩, _, rfl, _, rfl, And.intro rfl rfl⟩ | exact ⟨[], [], ⟨rfl, trivial⟩, _, rfl, _, rfl, And.intro rfl rfl⟩
  refine zz ?_
  refine brN (iteS h) ?_ ?_ <;> (clear h; intro c h)
  · cases h
    refine zz ?_
    first | exact ⟨trivial, [], [], ⟨rfl, trivial⟩, _, rfl, _, rfl, And.intro rfl rfl⟩ | exact ⟨[], [], ⟨rfl, trivial⟩, _, rfl, _, rfl, And.intro rfl rfl⟩
  cases h
  refine zz ?_
  first | exact ⟨trivial, [], [], ⟨rfl, trivial⟩, _, rfl, _, rfl, And.intro rfl rfl⟩ | exact ⟨[], [], ⟨rfl, trivial⟩, _, rfl, _, rfl, And.intro rfl rfl⟩
theorem laws_eqOpS_ev (l0 : List S81) (l1 : List S81) (r : Bool) (h : laws_eqOpS.fv l0 l1 = some r) : CE G 29 [.val (.row (l0.map e81)), .val (.row (l1.map e81))] [] [.val (.bool r)] [] := by
  obtain ⟨k, h⟩ := lim_ex h
  refine CE.mk ⟨Tryz.f29, _, rfl, rfl, ⟨by kernel_rfl, Nat.le_of_ble_eq_true rfl, Nat.le_of_ble_eq_true rfl⟩, ?_⟩
  rcases k with _ | k
  · exact (run_zero h).elim
  rw [run_succ, laws_eqOpS.B] at h
  refine zz ?_
  refine brN (iP h) ?_ ?_ <;> (clear h; intro c h)
  · replace h := evR h; cases h
    refine zz ?_
    first | exact ⟨trivial, [], [], ⟨rfl, trivial⟩, _, rfl, _, rfl, And.intro rfl rfl⟩ | exact ⟨[], [], ⟨rfl, trivial⟩, _, rfl, _, rfl, And.intro rfl rfl⟩
  replace h := evT h
  refine zz ?_
  refine loopJ [] (fun kq fr hp => ∃ (x0 : List S81) (x1 : List S81) (x5 : Int), run laws_eqOpS.B kq (.l0 x0 x1 x5) = some r ∧ (∃ fr0, fr = puts [(0, .one (.val (.row (x0.map e81)))), (1, .one (.val (.row (x1.map e81)))), (5, .one (.val (.int .i64 x5)))] fr0) ∧ hp = (fun _ => none)) k ⟨_, zfuel, _, _, _, h, leafFr [0, 1, 5] (by kernel_rfl), by kernel_rfl⟩ ?_
  clear h; rintro k hle _ _ ⟨x0, x1, x5, h, ⟨fr0, rfl⟩, rfl⟩
  rcases k with _ | k
  · exact (run_zero h).elim
  rw [run_succ, laws_eqOpS.B] at h
  refine zz ?_
  refine br (iP h) ?_ ?_ <;> (clear h; intro c h)
  rotate_left
  · replace h := evR h; cases h
    refine zz ?_
    first | exact ⟨trivial, [], [], ⟨rfl, trivial⟩, _, rfl, _, rfl, And.intro rfl rfl⟩ | exact ⟨[], [], ⟨rfl, trivial⟩, _, rfl, _, rfl, And.intro rfl rfl⟩
  have h_ := gP h; clear h; obtain ⟨c, h⟩ := h_
  have h_ := gP h; clear h; obtain ⟨c, h⟩ := h_
  have h_ := evO h; clear h; obtain ⟨t25, ht, h⟩ := h_
  refine zz ?_
  refine Exists.intro _ (And.intro (laws_eqOp_ev (h := ht)) ?_)
  refine zz ?_
  refine brN (iP h) ?_ ?_ <;> (clear h; intro c h)
  · replace h := evR h; cases h
    refine zz ?_
    first | exact ⟨trivial, [], [], ⟨rfl, trivial⟩, _, rfl, _, rfl, And.intro rfl rfl⟩ | exact ⟨[], [], ⟨rfl, trivial⟩, _, rfl, _, rfl, And.intro rfl rfl⟩
  replace h := evT h
  refine zz ?_
  exact ⟨_, zfuel, _, _, _, h, leafFr [0, 1, 5] (by kernel_rfl), by kernel_rfl⟩
theorem laws_eqProg_ev (l0_0 : List ByteArray) (l0_1 : List ByteArray) (l0_2 : List S81) (l0_3 : List S81) (l1_0 : List ByteArray) (l1_1 : List ByteArray) (l1_2 : List S81) (l1_3 : List S81) (r : Bool) (h : laws_eqProg.fv l0_0 l0_1 l0_2 l0_3 l1_0 l1_1 l1_2 l1_3 = some r) : CE G 10 [.val (.agg [.row (l0_0.map VV.str), .row (l0_1.map VV.str), .row (l0_2.map e81), .row (l0_3.map e81)]), .val (.agg [.row (l1_0.map VV.str), .row (l1_1.map VV.str), .row (l1_2.map e81), .row (l1_3.map e81)])] [] [.val (.bool r)] [] := by
  refine CE.mk ⟨Tryz.f10, _, rfl, rfl, ⟨by kernel_rfl, Nat.le_of_ble_eq_true rfl, Nat.le_of_ble_eq_true rfl⟩, ?_⟩
  rw [laws_eqProg.fv] at h
  have h_ := oS h; clear h; obtain ⟨t9, ht, h⟩ := h_
  refine zz ?_
  refine Exists.intro _ (And.intro (laws_eqStringS_ev (h := ht)) ?_)
  refine zz ?_
  refine brN (iteS h) ?_ ?_ <;> (clear h; intro c h)
  · cases h
    refine zz ?_
    first | exact ⟨trivial, [], [], ⟨rfl, trivial⟩, _, rfl, _, rfl, And.intro rfl rfl⟩ | exact ⟨[], [], ⟨rfl, trivial⟩, _, rfl, _, rfl, And.intro rfl rfl⟩
  have h_ := oS h; clear h; obtain ⟨t15, ht, h⟩ := h_
  refine zz ?_
  refine Exists.intro _ (And.intro (laws_eqStringS_ev (h := ht)) ?_)
  refine zz ?_
  refine brN (iteS h) ?_ ?_ <;> (clear h; intro c h)
  · cases h
    refine zz ?_
    first | exact ⟨trivial, [], [], ⟨rfl, trivial⟩, _, rfl, _, rfl, And.intro rfl rfl⟩ | exact ⟨[], [], ⟨rfl, trivial⟩, _, rfl, _, rfl, And.intro rfl rfl⟩
  have h_ := oS h; clear h; obtain ⟨t21, ht, h⟩ := h_
  refine zz ?_
  refine Exists.intro _ (And.intro (laws_eqOpS_ev (h := ht)) ?_)
  refine zz ?_
  refine brN (iteS h) ?_ ?_ <;> (clear h; intro c h)
  · cases h
    refine zz ?_
    first | exact ⟨trivial, [], [], ⟨rfl, trivial⟩, _, rfl, _, rfl, And.intro rfl rfl⟩ | exact ⟨[], [], ⟨rfl, trivial⟩, _, rfl, _, rfl, And.intro rfl rfl⟩
  have h_ := oS h; clear h; obtain ⟨t27, ht, h⟩ := h_
  refine zz ?_
  refine Exists.intro _ (And.intro (laws_eqOpS_ev (h := ht)) ?_)
  refine zz ?_
  refine brN (iteS h) ?_ ?_ <;> (clear h; intro c h)
  · cases h
    refine zz ?_
    first | exact ⟨trivial, [], [], ⟨rfl, trivial⟩, _, rfl, _, rfl, And.intro rfl rfl⟩ | exact ⟨[], [], ⟨rfl, trivial⟩, _, rfl, _, rfl, And.intro rfl rfl⟩
  cases h
  refine zz ?_
  first | exact ⟨trivial, [], [], ⟨rfl, trivial⟩, _, rfl, _, rfl, And.intro rfl rfl⟩ | exact ⟨[], [], ⟨rfl, trivial⟩, _, rfl, _, rfl, And.intro rfl rfl⟩
theorem laws_eqVal_ev (a0_0 : Int) (a0_1 : Int) (a0_2 : ByteArray) (a1_0 : Int) (a1_1 : Int) (a1_2 : ByteArray) (r : Bool) (h : laws_eqVal.f a0_0 a0_1 a0_2 a1_0 a1_1 a1_2 = some r) : CE G 75 [.val (.agg [.int .i64 a0_0, .int .i64 a0_1, .str a0_2]), .val (.agg [.int .i64 a1_0, .int .i64 a1_1, .str a1_2])] [] [.val (.bool r)] [] := by
  refine CE.mk ⟨Tryz.f75, _, rfl, rfl, ⟨by kernel_rfl, Nat.le_of_ble_eq_true rfl, Nat.le_of_ble_eq_true rfl⟩, ?_⟩
  rw [laws_eqVal.f] at h
  refine zz ?_
  refine brN (iteS h) ?_ ?_ <;> (clear h; intro c h)
  · cases h
    refine zz ?_
    first | exact ⟨trivial, [], [], ⟨rfl, trivial⟩, _, rfl, _, rfl, And.intro rfl rfl⟩ | exact ⟨[], [], ⟨rfl, trivial⟩, _, rfl, _, rfl, And.intro rfl rfl⟩
  refine zz ?_
  refine brN (iteS h) ?_ ?_ <;> (clear h; intro c h)
  · cases h
    refine zz ?_
    first | exact ⟨trivial, [], [], ⟨rfl, trivial⟩, _, rfl, _, rfl, And.intro rfl rfl⟩ | exact ⟨[], [], ⟨rfl, trivial⟩, _, rfl, _, rfl, And.intro rfl rfl⟩
  refine zz ?_
  refine brN (iteS h) ?_ ?_ <;> (clear h; intro c h)
  · cases h
    refine zz ?_
    first | exact ⟨trivial, [], [], ⟨rfl, trivial⟩, _, rfl, _, rfl, And.intro rfl rfl⟩ | exact ⟨[], [], ⟨rfl, trivial⟩, _, rfl, _, rfl, And.intro rfl rfl⟩
  cases h
  refine zz ?_
  first | exact ⟨trivial, [], [], ⟨rfl, trivial⟩, _, rfl, _, rfl, And.intro rfl rfl⟩ | exact ⟨[], [], ⟨rfl, trivial⟩, _, rfl, _, rfl, And.intro rfl rfl⟩
theorem laws_eqValS_ev (l0 : List S77) (l1 : List S77) (r : Bool) (h : laws_eqValS.fv l0 l1 = some r) : CE G 54 [.val (.row (l0.map e77)), .val (.row (l1.map e77))] [] [.val (.bool r)] [] := by
  obtain ⟨k, h⟩ := lim_ex h
  refine CE.mk ⟨Tryz.f54, _, rfl, rfl, ⟨by kernel_rfl, Nat.le_of_ble_eq_true rfl, Nat.le_of_ble_eq_true rfl⟩, ?_⟩
  rcases k with _ | k
  · exact (run_zero h).elim
  rw [run_succ, laws_eqValS.B] at h
  refine zz ?_
  refine brN (iP h) ?_ ?_ <;> (clear h; intro c h)
  · replace h := evR h; cases h
    refine zz ?_
    first | exact ⟨trivial, [], [], ⟨rfl, trivial⟩, _, rfl, _, rfl, And.intro rfl rfl⟩ | exact ⟨[], [], ⟨rfl, trivial⟩, _, rfl, _, rfl, And.intro rfl rfl⟩
  replace h := evT h
  refine zz ?_
  refine loopJ [] (fun kq fr hp => ∃ (x0 : List S77) (x1 : List S77) (x5 : Int), run laws_eqValS.B kq (.l0 x0 x1 x5) = some r ∧ (∃ fr0, fr = puts [(0, .one (.val (.row (x0.map e77)))), (1, .one (.val (.row (x1.map e77)))), (5, .one (.val (.int .i64 x5)))] fr0) ∧ hp = (fun _ => none)) k ⟨_, zfuel, _, _, _, h, leafFr [0, 1, 5] (by kernel_rfl), by kernel_rfl⟩ ?_
  clear h; rintro k hle _ _ ⟨x0, x1, x5, h, ⟨fr0, rfl⟩, rfl⟩
  rcases k with _ | k
  · exact (run_zero h).elim
  rw [run_succ, laws_eqValS.B] at h
  refine zz ?_
  refine br (iP h) ?_ ?_ <;> (clear h; intro c h)
  rotate_left
  · replace h := evR h; cases h
    refine zz ?_
    first | exact ⟨trivial, [], [], ⟨rfl, trivial⟩, _, rfl, _, rfl, And.intro rfl rfl⟩ | exact ⟨[], [], ⟨rfl, trivial⟩, _, rfl, _, rfl, And.intro rfl rfl⟩
  have h_ := gP h; clear h; obtain ⟨c, h⟩ := h_
  have h_ := gP h; clear h; obtain ⟨c, h⟩ := h_
  have h_ := evO h; clear h; obtain ⟨t25, ht, h⟩ := h_
  refine zz ?_
  refine Exists.intro _ (And.intro (laws_eqVal_ev (h := ht)) ?_)
  refine zz ?_
  refine brN (iP h) ?_ ?_ <;> (clear h; intro c h)
  · replace h := evR h; cases h
    refine zz ?_
    first | exact ⟨trivial, [], [], ⟨rfl, trivial⟩, _, rfl, _, rfl, And.intro rfl rfl⟩ | exact ⟨[], [], ⟨rfl, trivial⟩, _, rfl, _, rfl, And.intro rfl rfl⟩
  replace h := evT h
  refine zz ?_
  exact ⟨_, zfuel, _, _, _, h, leafFr [0, 1, 5] (by kernel_rfl), by kernel_rfl⟩
theorem laws_eqCell_ev (a0_0 : Int) (a0_1 : ByteArray) (a0_2 : Int) (a0_3 : Int) (a0_4 : ByteArray) (a1_0 : Int) (a1_1 : ByteArray) (a1_2 : Int) (a1_3 : Int) (a1_4 : ByteArray) (r : Bool) (h : laws_eqCell.f a0_0 a0_1 a0_2 a0_3 a0_4 a1_0 a1_1 a1_2 a1_3 a1_4 = some r) : CE G 76 [.val (.agg [.int .i64 a0_0, .str a0_1, .int .i64 a0_2, .int .i64 a0_3, .str a0_4]), .val (.agg [.int .i64 a1_0, .str a1_1, .int .i64 a1_2, .int .i64 a1_3, .str a1_4])] [] [.val (.bool r)] [] := by
  refine CE.mk ⟨Tryz.f76, _, rfl, rfl, ⟨by kernel_rfl, Nat.le_of_ble_eq_true rfl, Nat.le_of_ble_eq_true rfl⟩, ?_⟩
  rw [laws_eqCell.f] at h
  refine zz ?_
  refine brN (iteS h) ?_ ?_ <;> (clear h; intro c h)
  · cases h
    refine zz ?_
    first | exact ⟨trivial, [], [], ⟨rfl, trivial⟩, _, rfl, _, rfl, And.intro rfl rfl⟩ | exact ⟨[], [], ⟨rfl, trivial⟩, _, rfl, _, rfl, And.intro rfl rfl⟩
  refine zz ?_
  refine brN (iteS h) ?_ ?_ <;> (clear h; intro c h)
  · cases h
    refine zz ?_
    first | exact ⟨trivial, [], [], ⟨rfl, trivial⟩, _, rfl, _, rfl, And.intro rfl rfl⟩ | exact ⟨[], [], ⟨rfl, trivial⟩, _, rfl, _, rfl, And.intro rfl rfl⟩
  have h_ := oS h; clear h; obtain ⟨t19, ht, h⟩ := h_
  refine zz ?_
  refine Exists.intro _ (And.intro (laws_eqVal_ev (h := ht)) ?_)
  refine zz ?_
  refine brN (iteS h) ?_ ?_ <;> (clear h; intro c h)
  · cases h
    refine zz ?_
    first | exact ⟨trivial, [], [], ⟨rfl, trivial⟩, _, rfl, _, rfl, And.intro rfl rfl⟩ | exact ⟨[], [], ⟨rfl, trivial⟩, _, rfl, _, rfl, And.intro rfl rfl⟩
  cases h
  refine zz ?_
  first | exact ⟨trivial, [], [], ⟨rfl, trivial⟩, _, rfl, _, rfl, And.intro rfl rfl⟩ | exact ⟨[], [], ⟨rfl, trivial⟩, _, rfl, _, rfl, And.intro rfl rfl⟩
theorem laws_eqCellS_ev (l0 : List S79) (l1 : List S79) (r : Bool) (h : laws_eqCellS.fv l0 l1 = some r) : CE G 55 [.val (.row (l0.map e79)), .val (.row (l1.map e79))] [] [.val (.bool r)] [] := by
  obtain ⟨k, h⟩ := lim_ex h
  refine CE.mk ⟨Tryz.f55, _, rfl, rfl, ⟨by kernel_rfl, Nat.le_of_ble_eq_true rfl, Nat.le_of_ble_eq_true rfl⟩, ?_⟩
  rcases k with _ | k
  · exact (run_zero h).elim
  rw [run_succ, laws_eqCellS.B] at h
  refine zz ?_
  refine brN (iP h) ?_ ?_ <;> (clear h; intro c h)
  · replace h := evR h; cases h
    refine zz ?_
    first | exact ⟨trivial, [], [], ⟨rfl, trivial⟩, _, rfl, _, rfl, And.intro rfl rfl⟩ | exact ⟨[], [], ⟨rfl, trivial⟩, _, rfl, _, rfl, And.intro rfl rfl⟩
  replace h := evT h
  refine zz ?_
  refine loopJ [] (fun kq fr hp => ∃ (x0 : List S79) (x1 : List S79) (x5 : Int), run laws_eqCellS.B kq (.l0 x0 x1 x5) = some r ∧ (∃ fr0, fr = puts [(0, .one (.val (.row (x0.map e79)))), (1, .one (.val (.row (x1.map e79)))), (5, .one (.val (.int .i64 x5)))] fr0) ∧ hp = (fun _ => none)) k ⟨_, zfuel, _, _, _, h, leafFr [0, 1, 5] (by kernel_rfl), by kernel_rfl⟩ ?_
  clear h; rintro k hle _ _ ⟨x0, x1, x5, h, ⟨fr0, rfl⟩, rfl⟩
  rcases k with _ | k
  · exact (run_zero h).elim
  rw [run_succ, laws_eqCellS.B] at h
  refine zz ?_
  refine br (iP h) ?_ ?_ <;> (clear h; intro c h)
  rotate_left
  · replace h := evR h; cases h
    refine zz ?_
    first | exact ⟨trivial, [], [], ⟨rfl, trivial⟩, _, rfl, _, rfl, And.intro rfl rfl⟩ | exact ⟨[], [], ⟨rfl, trivial⟩, _, rfl, _, rfl, And.intro rfl rfl⟩
  have h_ := gP h; clear h; obtain ⟨c, h⟩ := h_
  have h_ := gP h; clear h; obtain ⟨c, h⟩ := h_
  have h_ := evO h; clear h; obtain ⟨t25, ht, h⟩ := h_
  refine zz ?_
  refine Exists.intro _ (And.intro (laws_eqCell_ev (h := ht)) ?_)
  refine zz ?_
  refine brN (iP h) ?_ ?_ <;> (clear h; intro c h)
  · replace h := evR h; cases h
    refine zz ?_
    first | exact ⟨trivial, [], [], ⟨rfl, trivial⟩, _, rfl, _, rfl, And.intro rfl rfl⟩ | exact ⟨[], [], ⟨rfl, trivial⟩, _, rfl, _, rfl, And.intro rfl rfl⟩
  replace h := evT h
  refine zz ?_
  exact ⟨_, zfuel, _, _, _, h, leafFr [0, 1, 5] (by kernel_rfl), by kernel_rfl⟩
theorem laws_eqState_ev (l0_0 : List S77) (l0_1 : List S79) (a0_2 : Int) (a0_3 : Int) (l1_0 : List S77) (l1_1 : List S79) (a1_2 : Int) (a1_3 : Int) (r : Bool) (h : laws_eqState.fv l0_0 l0_1 a0_2 a0_3 l1_0 l1_1 a1_2 a1_3 = some r) : CE G 30 [.val (.agg [.row (l0_0.map e77), .row (l0_1.map e79), .int .i64 a0_2, .int .i64 a0_3]), .val (.agg [.row (l1_0.map e77), .row (l1_1.map e79), .int .i64 a1_2, .int .i64 a1_3])] [] [.val (.bool r)] [] := by
  refine CE.mk ⟨Tryz.f30, _, rfl, rfl, ⟨by kernel_rfl, Nat.le_of_ble_eq_true rfl, Nat.le_of_ble_eq_true rfl⟩, ?_⟩
  rw [laws_eqState.fv] at h
  have h_ := oS h; clear h; obtain ⟨t9, ht, h⟩ := h_
  refine zz ?_
  refine Exists.intro _ (And.intro (laws_eqValS_ev (h := ht)) ?_)
  refine zz ?_
  refine brN (iteS h) ?_ ?_ <;> (clear h; intro c h)
  · cases h
    refine zz ?_
    first | exact ⟨trivial, [], [], ⟨rfl, trivial⟩, _, rfl, _, rfl, And.intro rfl rfl⟩ | exact ⟨[], [], ⟨rfl, trivial⟩, _, rfl, _, rfl, And.intro rfl rfl⟩
  have h_ := oS h; clear h; obtain ⟨t15, ht, h⟩ := h_
  refine zz ?_
  refine Exists.intro _ (And.intro (laws_eqCellS_ev (h := ht)) ?_)
  refine zz ?_
  refine brN (iteS h) ?_ ?_ <;> (clear h; intro c h)
  · cases h
    refine zz ?_
    first | exact ⟨trivial, [], [], ⟨rfl, trivial⟩, _, rfl, _, rfl, And.intro rfl rfl⟩ | exact ⟨[], [], ⟨rfl, trivial⟩, _, rfl, _, rfl, And.intro rfl rfl⟩
  refine zz ?_
  refine brN (iteS h) ?_ ?_ <;> (clear h; intro c h)
  · cases h
    refine zz ?_
    first | exact ⟨trivial, [], [], ⟨rfl, trivial⟩, _, rfl, _, rfl, And.intro rfl rfl⟩ | exact ⟨[], [], ⟨rfl, trivial⟩, _, rfl, _, rfl, And.intro rfl rfl⟩
  refine zz ?_
  refine brN (iteS h) ?_ ?_ <;> (clear h; intro c h)
  · cases h
    refine zz ?_
    first | exact ⟨trivial, [], [], ⟨rfl, trivial⟩, _, rfl, _, rfl, And.intro rfl rfl⟩ | exact ⟨[], [], ⟨rfl, trivial⟩, _, rfl, _, rfl, And.intro rfl rfl⟩
  cases h
  refine zz ?_
  first | exact ⟨trivial, [], [], ⟨rfl, trivial⟩, _, rfl, _, rfl, And.intro rfl rfl⟩ | exact ⟨[], [], ⟨rfl, trivial⟩, _, rfl, _, rfl, And.intro rfl rfl⟩
theorem laws_eqIntS_ev (l0 : List Int) (l1 : List Int) (r : Bool) (h : laws_eqIntS.fv l0 l1 = some r) : CE G 31 [.val (.row (l0.map (VV.int .i64))), .val (.row (l1.map (VV.int .i64)))] [] [.val (.bool r)] [] := by
  obtain ⟨k, h⟩ := lim_ex h
  refine CE.mk ⟨Tryz.f31, _, rfl, rfl, ⟨by kernel_rfl, Nat.le_of_ble_eq_true rfl, Nat.le_of_ble_eq_true rfl⟩, ?_⟩
  rcases k with _ | k
  · exact (run_zero h).elim
  rw [run_succ, laws_eqIntS.B] at h
  refine zz ?_
  refine brN (iP h) ?_ ?_ <;> (clear h; intro c h)
  · replace h := evR h; cases h
    refine zz ?_
    first | exact ⟨trivial, [], [], ⟨rfl, trivial⟩, _, rfl, _, rfl, And.intro rfl rfl⟩ | exact ⟨[], [], ⟨rfl, trivial⟩, _, rfl, _, rfl, And.intro rfl rfl⟩
  replace h := evT h
  refine zz ?_
  refine loopJ [] (fun kq fr hp => ∃ (x0 : List Int) (x1 : List Int) (x5 : Int), run laws_eqIntS.B kq (.l0 x0 x1 x5) = some r ∧ (∃ fr0, fr = puts [(0, .one (.val (.row (x0.map (VV.int .i64))))), (1, .one (.val (.row (x1.map (VV.int .i64))))), (5, .one (.val (.int .i64 x5)))] fr0) ∧ hp = (fun _ => none)) k ⟨_, zfuel, _, _, _, h, leafFr [0, 1, 5] (by kernel_rfl), by kernel_rfl⟩ ?_
  clear h; rintro k hle _ _ ⟨x0, x1, x5, h, ⟨fr0, rfl⟩, rfl⟩
  rcases k with _ | k
  · exact (run_zero h).elim
  rw [run_succ, laws_eqIntS.B] at h
  refine zz ?_
  refine br (iP h) ?_ ?_ <;> (clear h; intro c h)
  rotate_left
  · replace h := evR h; cases h
    refine zz ?_
    first | exact ⟨trivial, [], [], ⟨rfl, trivial⟩, _, rfl, _, rfl, And.intro rfl rfl⟩ | exact ⟨[], [], ⟨rfl, trivial⟩, _, rfl, _, rfl, And.intro rfl rfl⟩
  have h_ := gP h; clear h; obtain ⟨c, h⟩ := h_
  have h_ := gP h; clear h; obtain ⟨c, h⟩ := h_
  refine zz ?_
  refine brN (iP h) ?_ ?_ <;> (clear h; intro c h)
  · replace h := evR h; cases h
    refine zz ?_
    first | exact ⟨trivial, [], [], ⟨rfl, trivial⟩, _, rfl, _, rfl, And.intro rfl rfl⟩ | exact ⟨[], [], ⟨rfl, trivial⟩, _, rfl, _, rfl, And.intro rfl rfl⟩
  replace h := evT h
  refine zz ?_
  exact ⟨_, zfuel, _, _, _, h, leafFr [0, 1, 5] (by kernel_rfl), by kernel_rfl⟩
theorem laws_eqMach_ev (l0_0 : List S77) (l0_1 : List S79) (a0_2 : Int) (a0_3 : Int) (l0_4 : List Int) (a0_5 : ByteArray) (l1_0 : List S77) (l1_1 : List S79) (a1_2 : Int) (a1_3 : Int) (l1_4 : List Int) (a1_5 : ByteArray) (r : Bool) (h : laws_eqMach.fv l0_0 l0_1 a0_2 a0_3 l0_4 a0_5 l1_0 l1_1 a1_2 a1_3 l1_4 a1_5 = some r) : CE G 11 [.val (.agg [.row (l0_0.map e77), .row (l0_1.map e79), .int .i64 a0_2, .int .i64 a0_3, .row (l0_4.map (VV.int .i64)), .str a0_5]), .val (.agg [.row (l1_0.map e77), .row (l1_1.map e79), .int .i64 a1_2, .int .i64 a1_3, .row (l1_4.map (VV.int .i64)), .str a1_5])] [] [.val (.bool r)] [] := by
  refine CE.mk ⟨Tryz.f11, _, rfl, rfl, ⟨by kernel_rfl, Nat.le_of_ble_eq_true rfl, Nat.le_of_ble_eq_true rfl⟩, ?_⟩
  rw [laws_eqMach.fv] at h
  have h_ := oS h; clear h; obtain ⟨t9, ht, h⟩ := h_
  refine zz ?_
  refine Exists.intro _ (And.intro (laws_eqState_ev (h := ht)) ?_)
  refine zz ?_
  refine brN (iteS h) ?_ ?_ <;> (clear h; intro c h)
  · cases h
    refine zz ?_
    first | exact ⟨trivial, [], [], ⟨rfl, trivial⟩, _, rfl, _, rfl, And.intro rfl rfl⟩ | exact ⟨[], [], ⟨rfl, trivial⟩, _, rfl, _, rfl, And.intro rfl rfl⟩
  have h_ := oS h; clear h; obtain ⟨t15, ht, h⟩ := h_
  refine zz ?_
  refine Exists.intro _ (And.intro (laws_eqIntS_ev (h := ht)) ?_)
  refine zz ?_
  refine brN (iteS h) ?_ ?_ <;> (clear h; intro c h)
  · cases h
    refine zz ?_
    first | exact ⟨trivial, [], [], ⟨rfl, trivial⟩, _, rfl, _, rfl, And.intro rfl rfl⟩ | exact ⟨[], [], ⟨rfl, trivial⟩, _, rfl, _, rfl, And.intro rfl rfl⟩
  refine zz ?_
  refine brN (iteS h) ?_ ?_ <;> (clear h; intro c h)
  · cases h
    refine zz ?_
    first | exact ⟨trivial, [], [], ⟨rfl, trivial⟩, _, rfl, _, rfl, And.intro rfl rfl⟩ | exact ⟨[], [], ⟨rfl, trivial⟩, _, rfl, _, rfl, And.intro rfl rfl⟩
  cases h
  refine zz ?_
  first | exact ⟨trivial, [], [], ⟨rfl, trivial⟩, _, rfl, _, rfl, And.intro rfl rfl⟩ | exact ⟨[], [], ⟨rfl, trivial⟩, _, rfl, _, rfl, And.intro rfl rfl⟩
theorem laws_FnExactMachOk_ev (l0_0 : List ByteArray) (l0_1 : List ByteArray) (l0_2 : List S69) (l0_3 : List S69) (l1_0 : List S94) (l1_1 : List S97) (a1_2 : Int) (a1_3 : Int) (l1_4 : List Int) (a1_5 : ByteArray) (r : Bool) (h : laws_FnExactMachOk.fv l0_0 l0_1 l0_2 l0_3 l1_0 l1_1 a1_2 a1_3 l1_4 a1_5 = some r) : CE G 3 [.val (.agg [.row (l0_0.map VV.str), .row (l0_1.map VV.str), .row (l0_2.map e69), .row (l0_3.map e69)]), .val (.agg [.row (l1_0.map e94), .row (l1_1.map e97), .int .i64 a1_2, .int .i64 a1_3, .row (l1_4.map (VV.int .i64)), .str a1_5])] [] [.val (.bool r)] [] := by
  refine CE.mk ⟨Tryz.f3, _, rfl, rfl, ⟨by kernel_rfl, Nat.le_of_ble_eq_true rfl, Nat.le_of_ble_eq_true rfl⟩, ?_⟩
  rw [laws_FnExactMachOk.fv] at h
  have h_ := oS h; clear h; obtain ⟨t12, ht, h⟩ := h_
  refine zz ?_
  refine Exists.intro _ (And.intro (laws_szProg_ev (h := ht)) ?_)
  refine zz ?_
  refine br (iteS h) ?_ ?_ <;> (clear h; intro c h)
  · cases h
    refine zz ?_
    first | exact ⟨trivial, [], [], ⟨rfl, trivial⟩, _, rfl, _, rfl, And.intro rfl rfl⟩ | exact ⟨[], [], ⟨rfl, trivial⟩, _, rfl, _, rfl, And.intro rfl rfl⟩
  have h_ := oS h; clear h; obtain ⟨t17, ht, h⟩ := h_
  refine zz ?_
  refine Exists.intro _ (And.intro (laws_szMach_ev (h := ht)) ?_)
  refine zz ?_
  refine br (iteS h) ?_ ?_ <;> (clear h; intro c h)
  · cases h
    refine zz ?_
    first | exact ⟨trivial, [], [], ⟨rfl, trivial⟩, _, rfl, _, rfl, And.intro rfl rfl⟩ | exact ⟨[], [], ⟨rfl, trivial⟩, _, rfl, _, rfl, And.intro rfl rfl⟩
  have h_ := oS h; clear h; obtain ⟨t21, ht, h⟩ := h_
  refine zz ?_
  refine Exists.intro _ (And.intro (laws_toProg_ev (h := ht)) ?_)
  have h_ := oS h; clear h; obtain ⟨t23, ht, h⟩ := h_
  refine zz ?_
  refine Exists.intro _ (And.intro (laws_toMach_ev (h := ht)) ?_)
  have h_ := oS h; clear h; obtain ⟨t24, ht, h⟩ := h_
  refine zz ?_
  refine Exists.intro _ (And.intro (spec_MachOk_ev (h := ht)) ?_)
  have h_ := oS h; clear h; obtain ⟨t26, ht, h⟩ := h_
  refine zz ?_
  refine Exists.intro _ (And.intro (laws_toProg_ev (h := ht)) ?_)
  have h_ := oS h; clear h; obtain ⟨t28, ht, h⟩ := h_
  refine zz ?_
  refine Exists.intro _ (And.intro (laws_toMach_ev (h := ht)) ?_)
  have h_ := oS h; clear h; obtain ⟨t31, ht, h⟩ := h_
  refine zz ?_
  refine Exists.intro _ (And.intro (impl_MachOk_ev (h := ht)) ?_)
  refine zz ?_
  refine brN (iteS h) ?_ ?_ <;> (clear h; intro c h)
  · cases h
    refine zz ?_
    first | exact ⟨trivial, [], [], ⟨rfl, trivial⟩, _, rfl, _, rfl, And.intro rfl rfl⟩ | exact ⟨[], [], ⟨rfl, trivial⟩, _, rfl, _, rfl, And.intro rfl rfl⟩
  have h_ := oS h; clear h; obtain ⟨t37, ht, h⟩ := h_
  refine zz ?_
  refine Exists.intro _ (And.intro (laws_toProg_ev (h := ht)) ?_)
  have h_ := oS h; clear h; obtain ⟨t38, ht, h⟩ := h_
  refine zz ?_
  refine Exists.intro _ (And.intro (laws_eqProg_ev (h := ht)) ?_)
  refine zz ?_
  refine brN (iteS h) ?_ ?_ <;> (clear h; intro c h)
  · cases h
    refine zz ?_
    first | exact ⟨trivial, [], [], ⟨rfl, trivial⟩, _, rfl, _, rfl, And.intro rfl rfl⟩ | exact ⟨[], [], ⟨rfl, trivial⟩, _, rfl, _, rfl, And.intro rfl rfl⟩
  have h_ := oS h; clear h; obtain ⟨t42, ht, h⟩ := h_
  refine zz ?_
  refine Exists.intro _ (And.intro (laws_toMach_ev (h := ht)) ?_)
  have h_ := oS h; clear h; obtain ⟨t43, ht, h⟩ := h_
  refine zz ?_
  refine Exists.intro _ (And.intro (laws_eqMach_ev (h := ht)) ?_)
  refine zz ?_
  refine brN (iteS h) ?_ ?_ <;> (clear h; intro c h)
  · cases h
    refine zz ?_
    first | exact ⟨trivial, [], [], ⟨rfl, trivial⟩, _, rfl, _, rfl, And.intro rfl rfl⟩ | exact ⟨[], [], ⟨rfl, trivial⟩, _, rfl, _, rfl, And.intro rfl rfl⟩
  cases h
  refine zz ?_
  first | exact ⟨trivial, [], [], ⟨rfl, trivial⟩, _, rfl, _, rfl, And.intro rfl rfl⟩ | exact ⟨[], [], ⟨rfl, trivial⟩, _, rfl, _, rfl, And.intro rfl rfl⟩
end Go.Proofs.YtdpioibndfpjfaaGreatDoor.TFnExactMachOk
