/- The walks of the functions that FnExactProgOk reaches, through the abstract machine. -/
import Derived.Test.YteegedceandnkaaAFnExactProgOkh
import Derived.Test.YteegedceandnkaaFFnExactProgOk
import Derived.Test.YteegedceandnkaaProg
set_option maxHeartbeats 4000000
set_option maxRecDepth 100000
set_option linter.unusedVariables false
set_option linter.unusedSimpArgs false
namespace Go.Proofs.Yteegedceandnkaa.TFnExactProgOk
open Go Go.RowKit Go.Proofs Go.Proofs.YteegedceandnkaaW.AM Go.Proofs.Yteegedceandnkaa.QFnExactProgOk Go.Proofs.YteegedceandnkaaW.PrintWords Go.Proofs.YteegedceandnkaaW.Pgs
theorem laws_szStringS_ev (l0 : List ByteArray) (a1 : Int) (r : Int) (h : laws_szStringS.fv l0 a1 = some r) : CE G 24 [.val (.row (l0.map VV.str)), .val (.int .i64 a1)] [] [.val (.int .i64 r)] [] := by
  obtain ⟨k, h⟩ := lim_ex h
  refine CE.mk ⟨Try.f24, _, rfl, rfl, ⟨by kernel_rfl, Nat.le_of_ble_eq_true rfl, Nat.le_of_ble_eq_true rfl⟩, ?_⟩
  rcases k with _ | k
  · exact (run_zero h).elim
  rw [run_succ, laws_szStringS.B] at h
  refine zz ?_
  refine br (iP h) ?_ ?_ <;> (clear h; intro c h)
  · replace h := evR h; cases h
    refine zz ?_
    first | exact ⟨trivial, _, rfl, ⟨_, rfl, rfl⟩, rfl, rfl⟩ | exact ⟨_, rfl, ⟨_, rfl, rfl⟩, rfl, rfl⟩
  replace h := evT h
  refine zz ?_
  refine loopJ [] (fun kq fr hp => ∃ (x0 : List ByteArray) (x1 : Int) (x5 : Int), run laws_szStringS.B kq (.l0 x0 x1 x5) = some r ∧ (∃ fr0, fr = puts [(0, .one (.val (.row (x0.map VV.str)))), (1, .one (.val (.int .i64 x1))), (5, .one (.val (.int .i64 x5)))] fr0) ∧ hp = (fun _ => none)) k ⟨_, zfuel, _, _, _, h, leafFr [0, 1, 5] (by kernel_rfl), by kernel_rfl⟩ ?_
  clear h; rintro k hle _ _ ⟨x0, x1, x5, h, ⟨fr0, rfl⟩, rfl⟩
  rcases k with _ | k
  · exact (run_zero h).elim
  rw [run_succ, laws_szStringS.B] at h
  refine zz ?_
  refine br (iP h) ?_ ?_ <;> (clear h; intro c h)
  rotate_left
  · replace h := evR h; cases h
    refine zz ?_
    first | exact ⟨trivial, _, rfl, ⟨_, rfl, rfl⟩, rfl, rfl⟩ | exact ⟨_, rfl, ⟨_, rfl, rfl⟩, rfl, rfl⟩
  have h_ := gP h; clear h; obtain ⟨c, h⟩ := h_
  refine zz ?_
  refine br (iP h) ?_ ?_ <;> (clear h; intro c h)
  · replace h := evR h; cases h
    refine zz ?_
    first | exact ⟨trivial, _, rfl, ⟨_, rfl, rfl⟩, rfl, rfl⟩ | exact ⟨_, rfl, ⟨_, rfl, rfl⟩, rfl, rfl⟩
  replace h := evT h
  refine zz ?_
  exact ⟨_, zfuel, _, _, _, h, leafFr [0, 1, 5] (by kernel_rfl), by kernel_rfl⟩
theorem laws_szOp_ev (a0_0 : Int) (a0_1 : Int) (a0_2 : ByteArray) (a1 : Int) (r : Int) (h : laws_szOp.f a0_0 a0_1 a0_2 a1 = some r) : CE G 15 [.val (.agg [.int .i64 a0_0, .int .i64 a0_1, .str a0_2]), .val (.int .i64 a1)] [] [.val (.int .i64 r)] [] := by
  refine CE.mk ⟨Try.f15, _, rfl, rfl, ⟨by kernel_rfl, Nat.le_of_ble_eq_true rfl, Nat.le_of_ble_eq_true rfl⟩, ?_⟩
  rw [laws_szOp.f] at h
  refine zz ?_
  refine br (iteS h) ?_ ?_ <;> (clear h; intro c h)
  · cases h
    refine zz ?_
    first | exact ⟨trivial, _, rfl, ⟨_, rfl, rfl⟩, rfl, rfl⟩ | exact ⟨_, rfl, ⟨_, rfl, rfl⟩, rfl, rfl⟩
  cases h
  refine zz ?_
  first | exact ⟨trivial, _, rfl, ⟨_, rfl, rfl⟩, rfl, rfl⟩ | exact ⟨_, rfl, ⟨_, rfl, rfl⟩, rfl, rfl⟩
theorem laws_szOpS_ev (l0 : List S41) (a1 : Int) (r : Int) (h : laws_szOpS.fv l0 a1 = some r) : CE G 5 [.val (.row (l0.map e41)), .val (.int .i64 a1)] [] [.val (.int .i64 r)] [] := by
  obtain ⟨k, h⟩ := lim_ex h
  refine CE.mk ⟨Try.f5, _, rfl, rfl, ⟨by kernel_rfl, Nat.le_of_ble_eq_true rfl, Nat.le_of_ble_eq_true rfl⟩, ?_⟩
  rcases k with _ | k
  · exact (run_zero h).elim
  rw [run_succ, laws_szOpS.B] at h
  refine zz ?_
  refine br (iP h) ?_ ?_ <;> (clear h; intro c h)
  · replace h := evR h; cases h
    refine zz ?_
    first | exact ⟨trivial, _, rfl, ⟨_, rfl, rfl⟩, rfl, rfl⟩ | exact ⟨_, rfl, ⟨_, rfl, rfl⟩, rfl, rfl⟩
  replace h := evT h
  refine zz ?_
  refine loopJ [] (fun kq fr hp => ∃ (x0 : List S41) (x1 : Int) (x5 : Int), run laws_szOpS.B kq (.l0 x0 x1 x5) = some r ∧ (∃ fr0, fr = puts [(0, .one (.val (.row (x0.map e41)))), (1, .one (.val (.int .i64 x1))), (5, .one (.val (.int .i64 x5)))] fr0) ∧ hp = (fun _ => none)) k ⟨_, zfuel, _, _, _, h, leafFr [0, 1, 5] (by kernel_rfl), by kernel_rfl⟩ ?_
  clear h; rintro k hle _ _ ⟨x0, x1, x5, h, ⟨fr0, rfl⟩, rfl⟩
  rcases k with _ | k
  · exact (run_zero h).elim
  rw [run_succ, laws_szOpS.B] at h
  refine zz ?_
  refine br (iP h) ?_ ?_ <;> (clear h; intro c h)
  rotate_left
  · replace h := evR h; cases h
    refine zz ?_
    first | exact ⟨trivial, _, rfl, ⟨_, rfl, rfl⟩, rfl, rfl⟩ | exact ⟨_, rfl, ⟨_, rfl, rfl⟩, rfl, rfl⟩
  have h_ := gP h; clear h; obtain ⟨c, h⟩ := h_
  have h_ := evO h; clear h; obtain ⟨t23, ht, h⟩ := h_
  refine zz ?_
  refine Exists.intro _ (And.intro (laws_szOp_ev (h := ht)) ?_)
  refine zz ?_
  refine br (iP h) ?_ ?_ <;> (clear h; intro c h)
  · replace h := evR h; cases h
    refine zz ?_
    first | exact ⟨trivial, _, rfl, ⟨_, rfl, rfl⟩, rfl, rfl⟩ | exact ⟨_, rfl, ⟨_, rfl, rfl⟩, rfl, rfl⟩
  replace h := evT h
  refine zz ?_
  exact ⟨_, zfuel, _, _, _, h, leafFr [0, 1, 5] (by kernel_rfl), by kernel_rfl⟩
theorem laws_szProg_ev (l0_0 : List ByteArray) (l0_1 : List ByteArray) (l0_2 : List S41) (l0_3 : List S41) (a1 : Int) (r : Int) (h : laws_szProg.fv l0_0 l0_1 l0_2 l0_3 a1 = some r) : CE G 10 [.val (.agg [.row (l0_0.map VV.str), .row (l0_1.map VV.str), .row (l0_2.map e41), .row (l0_3.map e41)]), .val (.int .i64 a1)] [] [.val (.int .i64 r)] [] := by
  refine CE.mk ⟨Try.f10, _, rfl, rfl, ⟨by kernel_rfl, Nat.le_of_ble_eq_true rfl, Nat.le_of_ble_eq_true rfl⟩, ?_⟩
  rw [laws_szProg.fv] at h
  have h_ := oS h; clear h; obtain ⟨t8, ht, h⟩ := h_
  refine zz ?_
  refine Exists.intro _ (And.intro (laws_szStringS_ev (h := ht)) ?_)
  refine zz ?_
  refine br (iteS h) ?_ ?_ <;> (clear h; intro c h)
  · cases h
    refine zz ?_
    first | exact ⟨trivial, _, rfl, ⟨_, rfl, rfl⟩, rfl, rfl⟩ | exact ⟨_, rfl, ⟨_, rfl, rfl⟩, rfl, rfl⟩
  have h_ := oS h; clear h; obtain ⟨t14, ht, h⟩ := h_
  refine zz ?_
  refine Exists.intro _ (And.intro (laws_szStringS_ev (h := ht)) ?_)
  refine zz ?_
  refine br (iteS h) ?_ ?_ <;> (clear h; intro c h)
  · cases h
    refine zz ?_
    first | exact ⟨trivial, _, rfl, ⟨_, rfl, rfl⟩, rfl, rfl⟩ | exact ⟨_, rfl, ⟨_, rfl, rfl⟩, rfl, rfl⟩
  have h_ := oS h; clear h; obtain ⟨t20, ht, h⟩ := h_
  refine zz ?_
  refine Exists.intro _ (And.intro (laws_szOpS_ev (h := ht)) ?_)
  refine zz ?_
  refine br (iteS h) ?_ ?_ <;> (clear h; intro c h)
  · cases h
    refine zz ?_
    first | exact ⟨trivial, _, rfl, ⟨_, rfl, rfl⟩, rfl, rfl⟩ | exact ⟨_, rfl, ⟨_, rfl, rfl⟩, rfl, rfl⟩
  have h_ := oS h; clear h; obtain ⟨t26, ht, h⟩ := h_
  refine zz ?_
  refine Exists.intro _ (And.intro (laws_szOpS_ev (h := ht)) ?_)
  refine zz ?_
  refine br (iteS h) ?_ ?_ <;> (clear h; intro c h)
  · cases h
    refine zz ?_
    first | exact ⟨trivial, _, rfl, ⟨_, rfl, rfl⟩, rfl, rfl⟩ | exact ⟨_, rfl, ⟨_, rfl, rfl⟩, rfl, rfl⟩
  cases h
  refine zz ?_
  first | exact ⟨trivial, _, rfl, ⟨_, rfl, rfl⟩, rfl, rfl⟩ | exact ⟨_, rfl, ⟨_, rfl, rfl⟩, rfl, rfl⟩
theorem laws_toStringS_ev (l0 : List ByteArray) (r : List ByteArray) (h : laws_toStringS.fv l0 = some r) : CE G 27 [.val (.row (l0.map VV.str))] [] [.val (.row (r.map VV.str))] [] := by
  obtain ⟨k, h⟩ := lim_ex h
  refine CE.mk ⟨Try.f27, _, rfl, rfl, ⟨by kernel_rfl, Nat.le_of_ble_eq_true rfl, Nat.le_of_ble_eq_true rfl⟩, ?_⟩
  rcases k with _ | k
  · exact (run_zero h).elim
  rw [run_succ, laws_toStringS.B] at h
  have h_ := gP h; clear h; obtain ⟨c, h⟩ := h_
  have h_ := gP h; clear h; obtain ⟨c, h⟩ := h_
  refine zz ?_
  refine Exists.intro (List.map VV.str (List.replicate ((l0.length : Int) : Int).toNat (⟨#[]⟩ : ByteArray))) (And.intro zrow ?_)
  replace h := evT h
  refine zz ?_
  refine loopJ [530] (fun kq fr hp => ∃ (x0 : List ByteArray) (x3 : List ByteArray) (x4 : Int) (g530 : Nat), run laws_toStringS.B kq (.l0 x0 x3 x4) = some r ∧ (∃ fr0, fr = puts [(0, .one (.val (.row (x0.map VV.str)))), (3, .one (.ref 530 g530)), (4, .one (.val (.int .i64 x4)))] fr0) ∧ hp = (upd 530 (.own 9 1 (x3.map VV.str) g530 false) (fun _ => none))) k ⟨_, zfuel, _, _, _, 0, h, leafFr [0, 3, 4] (by kernel_rfl), by kernel_rfl⟩ ?_
  clear h; rintro k hle _ _ ⟨x0, x3, x4, g530, h, ⟨fr0, rfl⟩, rfl⟩
  rcases k with _ | k
  · exact (run_zero h).elim
  rw [run_succ, laws_toStringS.B] at h
  refine zz ?_
  refine br (iP h) ?_ ?_ <;> (clear h; intro c h)
  rotate_left
  · replace h := evR h; cases h
    refine zz ?_
    first | exact ⟨trivial, _, rfl, ⟨_, rfl, rfl⟩, rfl, rfl⟩ | exact ⟨_, rfl, ⟨_, rfl, rfl⟩, rfl, rfl⟩
  have h_ := gP h; clear h; obtain ⟨c, h⟩ := h_
  have h_ := gP h; clear h; obtain ⟨c, h⟩ := h_
  refine zz ?_
  refine Exists.intro (List.map VV.str (x3.set (x4 : Int).toNat (rdOf ByteArray.empty x0 x4))) (And.intro zrow ?_)
  replace h := evT h
  refine zz ?_
  exact ⟨_, zfuel, _, _, _, g530, h, leafFr [0, 3, 4] (by kernel_rfl), by kernel_rfl⟩
theorem laws_toOp_ev (a0_0 : Int) (a0_1 : Int) (a0_2 : ByteArray) (r1 : Int) (r2 : Int) (r3 : ByteArray) (h : laws_toOp.f a0_0 a0_1 a0_2 = some (r1, r2, r3)) : CE G 18 [.val (.agg [.int .i64 a0_0, .int .i64 a0_1, .str a0_2])] [] [.val (.agg [.int .i64 r1, .int .i64 r2, .str r3])] [] := by
  refine CE.mk ⟨Try.f18, _, rfl, rfl, ⟨by kernel_rfl, Nat.le_of_ble_eq_true rfl, Nat.le_of_ble_eq_true rfl⟩, ?_⟩
  rw [laws_toOp.f] at h
  cases h
  refine zz ?_
  first | exact ⟨trivial, _, rfl, ⟨_, rfl, rfl⟩, rfl, rfl⟩ | exact ⟨_, rfl, ⟨_, rfl, rfl⟩, rfl, rfl⟩
theorem laws_toOpS_ev (l0 : List S41) (r : List S43) (h : laws_toOpS.fv l0 = some r) : CE G 7 [.val (.row (l0.map e41))] [] [.val (.row (r.map e43))] [] := by
  obtain ⟨k, h⟩ := lim_ex h
  refine CE.mk ⟨Try.f7, _, rfl, rfl, ⟨by kernel_rfl, Nat.le_of_ble_eq_true rfl, Nat.le_of_ble_eq_true rfl⟩, ?_⟩
  rcases k with _ | k
  · exact (run_zero h).elim
  rw [run_succ, laws_toOpS.B] at h
  have h_ := gP h; clear h; obtain ⟨c, h⟩ := h_
  have h_ := gP h; clear h; obtain ⟨c, h⟩ := h_
  refine zz ?_
  refine Exists.intro (List.map e43 (List.replicate ((l0.length : Int) : Int).toNat z43)) (And.intro zrow ?_)
  replace h := evT h
  refine zz ?_
  refine loopJ [530] (fun kq fr hp => ∃ (x0 : List S41) (x3 : List S43) (x4 : Int) (g530 : Nat), run laws_toOpS.B kq (.l0 x0 x3 x4) = some r ∧ (∃ fr0, fr = puts [(0, .one (.val (.row (x0.map e41)))), (3, .one (.ref 530 g530)), (4, .one (.val (.int .i64 x4)))] fr0) ∧ hp = (upd 530 (.own 43 3 (x3.map e43) g530 false) (fun _ => none))) k ⟨_, zfuel, _, _, _, 0, h, leafFr [0, 3, 4] (by kernel_rfl), by kernel_rfl⟩ ?_
  clear h; rintro k hle _ _ ⟨x0, x3, x4, g530, h, ⟨fr0, rfl⟩, rfl⟩
  rcases k with _ | k
  · exact (run_zero h).elim
  rw [run_succ, laws_toOpS.B] at h
  refine zz ?_
  refine br (iP h) ?_ ?_ <;> (clear h; intro c h)
  rotate_left
  · replace h := evR h; cases h
    refine zz ?_
    first | exact ⟨trivial, _, rfl, ⟨_, rfl, rfl⟩, rfl, rfl⟩ | exact ⟨_, rfl, ⟨_, rfl, rfl⟩, rfl, rfl⟩
  have h_ := gP h; clear h; obtain ⟨c, h⟩ := h_
  have h_ := evO h; clear h; obtain ⟨t20, ht, h⟩ := h_
  refine zz ?_
  refine Exists.intro _ (And.intro (laws_toOp_ev (h := ht)) ?_)
  have h_ := gP h; clear h; obtain ⟨c, h⟩ := h_
  refine zz ?_
  refine Exists.intro (List.map e43 (x3.set (x4 : Int).toNat (⟨t20.1, t20.2.1, t20.2.2⟩ : S43))) (And.intro zrow ?_)
  replace h := evT h
  refine zz ?_
  exact ⟨_, zfuel, _, _, _, g530, h, leafFr [0, 3, 4] (by kernel_rfl), by kernel_rfl⟩
theorem laws_toProg_ev (l0_0 : List ByteArray) (l0_1 : List ByteArray) (l0_2 : List S41) (l0_3 : List S41) (r1 : List ByteArray) (r2 : List ByteArray) (r3 : List S43) (r4 : List S43) (h : laws_toProg.fv l0_0 l0_1 l0_2 l0_3 = some (r1, r2, r3, r4)) : CE G 12 [.val (.agg [.row (l0_0.map VV.str), .row (l0_1.map VV.str), .row (l0_2.map e41), .row (l0_3.map e41)])] [] [.val (.agg [.row (r1.map VV.str), .row (r2.map VV.str), .row (r3.map e43), .row (r4.map e43)])] [] := by
  refine CE.mk ⟨Try.f12, _, rfl, rfl, ⟨by kernel_rfl, Nat.le_of_ble_eq_true rfl, Nat.le_of_ble_eq_true rfl⟩, ?_⟩
  rw [laws_toProg.fv] at h
  have h_ := oS h; clear h; obtain ⟨t6, ht, h⟩ := h_
  refine zz ?_
  refine Exists.intro _ (And.intro (laws_toStringS_ev (h := ht)) ?_)
  have h_ := oS h; clear h; obtain ⟨t10, ht, h⟩ := h_
  refine zz ?_
  refine Exists.intro _ (And.intro (laws_toStringS_ev (h := ht)) ?_)
  have h_ := oS h; clear h; obtain ⟨t14, ht, h⟩ := h_
  refine zz ?_
  refine Exists.intro _ (And.intro (laws_toOpS_ev (h := ht)) ?_)
  have h_ := oS h; clear h; obtain ⟨t18, ht, h⟩ := h_
  refine zz ?_
  refine Exists.intro _ (And.intro (laws_toOpS_ev (h := ht)) ?_)
  cases h
  refine zz ?_
  first | exact ⟨trivial, _, rfl, ⟨_, rfl, rfl⟩, rfl, rfl⟩ | exact ⟨_, rfl, ⟨_, rfl, rfl⟩, rfl, rfl⟩
theorem spec_l7Letter_ev (a0 : Int) (r : Bool) (h : spec_l7Letter.f a0 = some r) : CE G 41 [.val (.int .u8 a0)] [] [.val (.bool r)] [] := by
  refine CE.mk ⟨Try.f41, _, rfl, rfl, ⟨by kernel_rfl, Nat.le_of_ble_eq_true rfl, Nat.le_of_ble_eq_true rfl⟩, ?_⟩
  rw [spec_l7Letter.f] at h
  refine zz ?_
  refine br (iteS h) ?_ ?_ <;> (clear h; intro c h)
  rotate_left
  · refine zz ?_
    try (apply Or.inr; refine And.intro (by first | rfl | exact zbool) ?_)
    refine zz ?_
    try (apply Or.inr; refine And.intro (by first | rfl | exact zbool) ?_)
    refine zz ?_
    try (apply Or.inl; refine And.intro (by first | rfl | exact zbool) ?_)
    refine zz ?_
    try (apply Or.inl; refine And.intro (by first | rfl | exact zbool) ?_)
    refine zz ?_
    try (apply Or.inl; refine And.intro (by first | rfl | exact zbool) ?_)
    refine zz ?_
    refine br (iteS h) ?_ ?_ <;> (clear h; intro c h)
    · refine zz ?_
      try (apply Or.inl; refine And.intro (by first | rfl | exact zbool) ?_)
      refine zz ?_
      try (apply Or.inl; refine And.intro (by first | rfl | exact zbool) ?_)
      refine zz ?_
      try (apply Or.inl; refine And.intro (by first | rfl | exact zbool) ?_)
      refine zz ?_
      try (apply Or.inr; refine And.intro (by first | rfl | exact zbool) ?_)
      cases h
      refine zz ?_
      first | exact ⟨trivial, _, rfl, ⟨_, rfl, rfl⟩, rfl, rfl⟩ | exact ⟨_, rfl, ⟨_, rfl, rfl⟩, rfl, rfl⟩
    refine zz ?_
    try (apply Or.inr; refine And.intro (by first | rfl | exact zbool) ?_)
    refine zz ?_
    try (apply Or.inl; refine And.intro (by first | rfl | exact zbool) ?_)
    refine zz ?_
    try (apply Or.inr; refine And.intro (by first | rfl | exact zbool) ?_)
    refine zz ?_
    try (apply Or.inr; refine And.intro (by first | rfl | exact zbool) ?_)
    cases h
    refine zz ?_
    first | exact ⟨trivial, _, rfl, ⟨_, rfl, rfl⟩, rfl, rfl⟩ | exact ⟨_, rfl, ⟨_, rfl, rfl⟩, rfl, rfl⟩
  refine zz ?_
  try (apply Or.inl; refine And.intro (by first | rfl | exact zbool) ?_)
  refine zz ?_
  try (apply Or.inl; refine And.intro (by first | rfl | exact zbool) ?_)
  refine zz ?_
  refine brW (iteS h) ?_ ?_ <;> (clear h; intro c h)
  rotate_left
  · refine zz ?_
    try (apply Or.inr; refine And.intro (by first | rfl | exact zbool) ?_)
    refine zz ?_
    try (apply Or.inr; refine And.intro (by first | rfl | exact zbool) ?_)
    refine zz ?_
    try (apply Or.inr; refine And.intro (by first | rfl | exact zbool) ?_)
    refine zz ?_
    try (apply Or.inl; refine And.intro (by first | rfl | exact zbool) ?_)
    cases h
    refine zz ?_
    first | exact ⟨trivial, _, rfl, ⟨_, rfl, rfl⟩, rfl, rfl⟩ | exact ⟨_, rfl, ⟨_, rfl, rfl⟩, rfl, rfl⟩
  refine zz ?_
  try (apply Or.inl; refine And.intro (by first | rfl | exact zbool) ?_)
  refine zz ?_
  try (apply Or.inl; refine And.intro (by first | rfl | exact zbool) ?_)
  refine zz ?_
  refine br (iteS h) ?_ ?_ <;> (clear h; intro c h)
  · refine zz ?_
    try (apply Or.inl; refine And.intro (by first | rfl | exact zbool) ?_)
    refine zz ?_
    try (apply Or.inl; refine And.intro (by first | rfl | exact zbool) ?_)
    refine zz ?_
    try (apply Or.inl; refine And.intro (by first | rfl | exact zbool) ?_)
    refine zz ?_
    try (apply Or.inr; refine And.intro (by first | rfl | exact zbool) ?_)
    cases h
    refine zz ?_
    first | exact ⟨trivial, _, rfl, ⟨_, rfl, rfl⟩, rfl, rfl⟩ | exact ⟨_, rfl, ⟨_, rfl, rfl⟩, rfl, rfl⟩
  refine zz ?_
  try (apply Or.inr; refine And.intro (by first | rfl | exact zbool) ?_)
  refine zz ?_
  try (apply Or.inl; refine And.intro (by first | rfl | exact zbool) ?_)
  refine zz ?_
  try (apply Or.inr; refine And.intro (by first | rfl | exact zbool) ?_)
  refine zz ?_
  try (apply Or.inr; refine And.intro (by first | rfl | exact zbool) ?_)
  cases h
  refine zz ?_
  first | exact ⟨trivial, _, rfl, ⟨_, rfl, rfl⟩, rfl, rfl⟩ | exact ⟨_, rfl, ⟨_, rfl, rfl⟩, rfl, rfl⟩
theorem spec_l1In_ev (a0 : Int) (a1 : Int) (a2 : Int) (r : Bool) (h : spec_l1In.f a0 a1 a2 = some r) : CE G 16 [.val (.int .i64 a0), .val (.int .i64 a1), .val (.int .i64 a2)] [] [.val (.bool r)] [] := by
  refine CE.mk ⟨Try.f16, _, rfl, rfl, ⟨by kernel_rfl, Nat.le_of_ble_eq_true rfl, Nat.le_of_ble_eq_true rfl⟩, ?_⟩
  rw [spec_l1In.f] at h
  refine zz ?_
  refine br (iteS h) ?_ ?_ <;> (clear h; intro c h)
  · refine zz ?_
    try (apply Or.inl; refine And.intro (by first | rfl | exact zbool) ?_)
    refine zz ?_
    try (apply Or.inl; refine And.intro (by first | rfl | exact zbool) ?_)
    refine zz ?_
    try (apply Or.inl; refine And.intro (by first | rfl | exact zbool) ?_)
    cases h
    refine zz ?_
    first | exact ⟨trivial, _, rfl, ⟨_, rfl, rfl⟩, rfl, rfl⟩ | exact ⟨_, rfl, ⟨_, rfl, rfl⟩, rfl, rfl⟩
  refine zz ?_
  try (apply Or.inr; refine And.intro (by first | rfl | exact zbool) ?_)
  refine zz ?_
  try (apply Or.inr; refine And.intro (by first | rfl | exact zbool) ?_)
  refine zz ?_
  try (apply Or.inr; refine And.intro (by first | rfl | exact zbool) ?_)
  cases h
  refine zz ?_
  first | exact ⟨trivial, _, rfl, ⟨_, rfl, rfl⟩, rfl, rfl⟩ | exact ⟨_, rfl, ⟨_, rfl, rfl⟩, rfl, rfl⟩
theorem spec_l7Within_ev (l0 : List ByteArray) (a1 : ByteArray) (r : Bool) (h : spec_l7Within.fv l0 a1 = some r) : CE G 26 [.val (.row (l0.map VV.str)), .val (.str a1)] [] [.val (.bool r)] [] := by
  obtain ⟨k, h⟩ := lim_ex h
  refine CE.mk ⟨Try.f26, _, rfl, rfl, ⟨by kernel_rfl, Nat.le_of_ble_eq_true rfl, Nat.le_of_ble_eq_true rfl⟩, ?_⟩
  rcases k with _ | k
  · exact (run_zero h).elim
  rw [run_succ, spec_l7Within.B] at h
  replace h := evT h
  refine zz ?_
  refine loopJ [] (fun kq fr hp => ∃ (x0 : List ByteArray) (x1 : ByteArray) (x5 : Int), run spec_l7Within.B kq (.l0 x0 x1 x5) = some r ∧ (∃ fr0, fr = puts [(0, .one (.val (.row (x0.map VV.str)))), (1, .one (.val (.str x1))), (5, .one (.val (.int .i64 x5)))] fr0) ∧ hp = (fun _ => none)) k ⟨_, zfuel, _, _, _, h, leafFr [0, 1, 5] (by kernel_rfl), by kernel_rfl⟩ ?_
  clear h; rintro k hle _ _ ⟨x0, x1, x5, h, ⟨fr0, rfl⟩, rfl⟩
  rcases k with _ | k
  · exact (run_zero h).elim
  rw [run_succ, spec_l7Within.B] at h
  refine zz ?_
  refine br (iP h) ?_ ?_ <;> (clear h; intro c h)
  rotate_left
  · replace h := evR h; cases h
    refine zz ?_
    first | exact ⟨trivial, _, rfl, ⟨_, rfl, rfl⟩, rfl, rfl⟩ | exact ⟨_, rfl, ⟨_, rfl, rfl⟩, rfl, rfl⟩
  have h_ := gP h; clear h; obtain ⟨c, h⟩ := h_
  refine zz ?_
  refine br (iP h) ?_ ?_ <;> (clear h; intro c h)
  · replace h := evR h; cases h
    refine zz ?_
    first | exact ⟨trivial, _, rfl, ⟨_, rfl, rfl⟩, rfl, rfl⟩ | exact ⟨_, rfl, ⟨_, rfl, rfl⟩, rfl, rfl⟩
  replace h := evT h
  refine zz ?_
  exact ⟨_, zfuel, _, _, _, h, leafFr [0, 1, 5] (by kernel_rfl), by kernel_rfl⟩
theorem spec_l7Calls_ev (r : List ByteArray) (h : spec_l7Calls.f  = some r) : CE G 35 [] [] [.val (.row (r.map VV.str))] [] := by
  refine CE.mk ⟨Try.f35, _, rfl, rfl, ⟨by kernel_rfl, Nat.le_of_ble_eq_true rfl, Nat.le_of_ble_eq_true rfl⟩, ?_⟩
  rw [spec_l7Calls.f] at h
  have h_ := oS h; clear h; obtain ⟨y1_0, hy, h⟩ := h_
  refine zz ?_
  refine Exists.intro (y1_0.map VV.str) (And.intro (by rw [← Option.some.inj hy]; rfl) ?_)
  cases h
  refine zz ?_
  first | exact ⟨trivial, _, rfl, ⟨_, rfl, rfl⟩, rfl, rfl⟩ | exact ⟨_, rfl, ⟨_, rfl, rfl⟩, rfl, rfl⟩
theorem spec_Keyword_ev (a0 : ByteArray) (r : Bool) (h : spec_Keyword.fv a0 = some r) : CE G 42 [.val (.str a0)] [] [.val (.bool r)] [] := by
  refine CE.mk ⟨Try.f42, _, rfl, rfl, ⟨by kernel_rfl, Nat.le_of_ble_eq_true rfl, Nat.le_of_ble_eq_true rfl⟩, ?_⟩
  rw [spec_Keyword.fv] at h
  have h_ := oS h; clear h; obtain ⟨y1_0, hy, h⟩ := h_
  refine zz ?_
  refine Exists.intro (y1_0.map VV.str) (And.intro (by rw [← Option.some.inj hy]; rfl) ?_)
  have h_ := oS h; clear h; obtain ⟨t5, ht, h⟩ := h_
  refine zz ?_
  refine Exists.intro _ (And.intro (spec_l7Within_ev (h := ht)) ?_)
  refine zz ?_
  refine brW (iteS h) ?_ ?_ <;> (clear h; intro c h)
  rotate_left
  · refine zz ?_
    try (apply Or.inr; refine And.intro (by first | rfl | exact zbool) ?_)
    refine zz ?_
    try (apply Or.inr; refine And.intro (by first | rfl | exact zbool) ?_)
    refine zz ?_
    try (apply Or.inl; refine And.intro (by first | rfl | exact zbool) ?_)
    cases h
    refine zz ?_
    first | exact ⟨trivial, _, rfl, ⟨_, rfl, rfl⟩, rfl, rfl⟩ | exact ⟨_, rfl, ⟨_, rfl, rfl⟩, rfl, rfl⟩
  have h_ := oS h; clear h; obtain ⟨t7, ht, h⟩ := h_
  refine zz ?_
  refine Exists.intro _ (And.intro (spec_l7Calls_ev (h := ht)) ?_)
  refine zz ?_
  try (apply Or.inl; refine And.intro (by first | rfl | exact zbool) ?_)
  refine zz ?_
  try (apply Or.inl; refine And.intro (by first | rfl | exact zbool) ?_)
  have h_ := oS h; clear h; obtain ⟨t9, ht, h⟩ := h_
  refine zz ?_
  refine Exists.intro _ (And.intro (spec_l7Within_ev (h := ht)) ?_)
  refine zz ?_
  try (apply Or.inr; refine And.intro (by first | rfl | exact zbool) ?_)
  cases h
  refine zz ?_
  first | exact ⟨trivial, _, rfl, ⟨_, rfl, rfl⟩, rfl, rfl⟩ | exact ⟨_, rfl, ⟨_, rfl, rfl⟩, rfl, rfl⟩
theorem spec_l9Name_ev (a0 : ByteArray) (r : Bool) (h : spec_l9Name.fv a0 = some r) : CE G 25 [.val (.str a0)] [] [.val (.bool r)] [] := by
  obtain ⟨k, h⟩ := lim_ex h
  refine CE.mk ⟨Try.f25, _, rfl, rfl, ⟨by kernel_rfl, Nat.le_of_ble_eq_true rfl, Nat.le_of_ble_eq_true rfl⟩, ?_⟩
  rcases k with _ | k
  · exact (run_zero h).elim
  rw [run_succ, spec_l9Name.B] at h
  replace h := evT h
  refine zz ?_
  refine loopJ [] (fun kq fr hp => ∃ (x0 : ByteArray) (x3 : Int), run spec_l9Name.B kq (.l0 x0 x3) = some r ∧ (∃ fr0, fr = puts [(0, .one (.val (.str x0))), (3, .one (.val (.int .i64 x3)))] fr0) ∧ hp = (fun _ => none)) k ⟨_, zfuel, _, _, h, leafFr [0, 3] (by kernel_rfl), by kernel_rfl⟩ ?_
  clear h; rintro k hle _ _ ⟨x0, x3, h, ⟨fr0, rfl⟩, rfl⟩
  rcases k with _ | k
  · exact (run_zero h).elim
  rw [run_succ, spec_l9Name.B] at h
  refine zz ?_
  refine br (iP h) ?_ ?_ <;> (clear h; intro c h)
  · have h_ := gP h; clear h; obtain ⟨c, h⟩ := h_
    have h_ := evO h; clear h; obtain ⟨t13, ht, h⟩ := h_
    refine zz ?_
    refine Exists.intro _ (And.intro (spec_l7Letter_ev (h := ht)) ?_)
    refine zz ?_
    refine brN (iP h) ?_ ?_ <;> (clear h; intro c h)
    · replace h := evR h; cases h
      refine zz ?_
      first | exact ⟨trivial, _, rfl, ⟨_, rfl, rfl⟩, rfl, rfl⟩ | exact ⟨_, rfl, ⟨_, rfl, rfl⟩, rfl, rfl⟩
    replace h := evT h
    refine zz ?_
    exact ⟨_, zfuel, _, _, h, leafFr [0, 3] (by kernel_rfl), by kernel_rfl⟩
  have h_ := evO h; clear h; obtain ⟨t17, ht, h⟩ := h_
  refine zz ?_
  refine Exists.intro _ (And.intro (spec_l1In_ev (h := ht)) ?_)
  refine zz ?_
  refine br (iP h) ?_ ?_ <;> (clear h; intro c h)
  rotate_left
  · refine zz ?_
    try (apply Or.inr; refine And.intro (by first | rfl | exact zbool) ?_)
    refine zz ?_
    try (apply Or.inr; refine And.intro (by first | rfl | exact zbool) ?_)
    refine zz ?_
    try (apply Or.inr; refine And.intro (by first | rfl | exact zbool) ?_)
    replace h := evR h; cases h
    refine zz ?_
    first | exact ⟨trivial, _, rfl, ⟨_, rfl, rfl⟩, rfl, rfl⟩ | exact ⟨_, rfl, ⟨_, rfl, rfl⟩, rfl, rfl⟩
  refine zz ?_
  try (apply Or.inl; refine And.intro (by first | rfl | exact zbool) ?_)
  have h_ := evO h; clear h; obtain ⟨t20, ht, h⟩ := h_
  refine zz ?_
  refine Exists.intro _ (And.intro (spec_Keyword_ev (h := ht)) ?_)
  refine zz ?_
  try (apply Or.inl; refine And.intro (by first | rfl | exact zbool) ?_)
  refine zz ?_
  try (apply Or.inl; refine And.intro (by first | rfl | exact zbool) ?_)
  replace h := evR h; cases h
  refine zz ?_
  first | exact ⟨trivial, _, rfl, ⟨_, rfl, rfl⟩, rfl, rfl⟩ | exact ⟨_, rfl, ⟨_, rfl, rfl⟩, rfl, rfl⟩
theorem spec_DecOk_ev (a0 : Int) (r : Bool) (h : spec_DecOk.f a0 = some r) : CE G 33 [.val (.int .i64 a0)] [] [.val (.bool r)] [] := by
  refine CE.mk ⟨Try.f33, _, rfl, rfl, ⟨by kernel_rfl, Nat.le_of_ble_eq_true rfl, Nat.le_of_ble_eq_true rfl⟩, ?_⟩
  rw [spec_DecOk.f] at h
  have h_ := oS h; clear h; obtain ⟨t4, ht, h⟩ := h_
  refine zz ?_
  refine Exists.intro _ (And.intro (spec_l1In_ev (h := ht)) ?_)
  cases h
  refine zz ?_
  first | exact ⟨trivial, _, rfl, ⟨_, rfl, rfl⟩, rfl, rfl⟩ | exact ⟨_, rfl, ⟨_, rfl, rfl⟩, rfl, rfl⟩
theorem spec_l3Now_ev (s0_0 : ByteArray) (s0_1 : Int) (s0_2 : Bool) (a1 : Int) (r1 : Bool) (r2 : ByteArray) (r3 : Int) (r4 : Bool) (h : spec_l3Now.f s0_0 s0_1 s0_2 a1 = some (r1, r2, r3, r4)) : CE G 52 [.ptr 0 0, .val (.int .u8 a1)] [.box [.val (.str s0_0), .val (.int .i64 s0_1), .val (.bool s0_2)]] [.val (.bool r1)] [.box [.val (.str r2), .val (.int .i64 r3), .val (.bool r4)]] := by
  refine CE.mk ⟨Try.f52, _, rfl, rfl, ⟨by kernel_rfl, Nat.le_of_ble_eq_true rfl, Nat.le_of_ble_eq_true rfl⟩, ?_⟩
  rw [spec_l3Now.f] at h
  refine zz ?_
  refine brN (iteS h) ?_ ?_ <;> (clear h; intro c h)
  rotate_left
  · refine zz ?_
    try (apply Or.inr; refine And.intro (by first | rfl | exact zbool) ?_)
    refine zz ?_
    try (apply Or.inr; refine And.intro (by first | rfl | exact zbool) ?_)
    refine zz ?_
    try (apply Or.inr; refine And.intro (by first | rfl | exact zbool) ?_)
    refine zz ?_
    try (apply Or.inr; refine And.intro (by first | rfl | exact zbool) ?_)
    refine zz ?_
    try (apply Or.inr; refine And.intro (by first | rfl | exact zbool) ?_)
    refine zz ?_
    try (apply Or.inr; refine And.intro (by first | rfl | exact zbool) ?_)
    refine zz ?_
    try (apply Or.inr; refine And.intro (by first | rfl | exact zbool) ?_)
    refine zz ?_
    try (apply Or.inr; refine And.intro (by first | rfl | exact zbool) ?_)
    refine zz ?_
    try (apply Or.inr; refine And.intro (by first | rfl | exact zbool) ?_)
    refine zz ?_
    try (apply Or.inr; refine And.intro (by first | rfl | exact zbool) ?_)
    refine zz ?_
    try (apply Or.inr; refine And.intro (by first | rfl | exact zbool) ?_)
    refine zz ?_
    try (apply Or.inr; refine And.intro (by first | rfl | exact zbool) ?_)
    refine zz ?_
    try (apply Or.inr; refine And.intro (by first | rfl | exact zbool) ?_)
    refine zz ?_
    try (apply Or.inr; refine And.intro (by first | rfl | exact zbool) ?_)
    refine zz ?_
    try (apply Or.inr; refine And.intro (by first | rfl | exact zbool) ?_)
    refine zz ?_
    try (apply Or.inr; refine And.intro (by first | rfl | exact zbool) ?_)
    refine zz ?_
    try (apply Or.inr; refine And.intro (by first | rfl | exact zbool) ?_)
    refine zz ?_
    try (apply Or.inr; refine And.intro (by first | rfl | exact zbool) ?_)
    refine zz ?_
    try (apply Or.inr; refine And.intro (by first | rfl | exact zbool) ?_)
    refine zz ?_
    try (apply Or.inr; refine And.intro (by first | rfl | exact zbool) ?_)
    refine zz ?_
    try (apply Or.inr; refine And.intro (by first | rfl | exact zbool) ?_)
    refine zz ?_
    try (apply Or.inr; refine And.intro (by first | rfl | exact zbool) ?_)
    cases h
    refine zz ?_
    first | exact ⟨trivial, _, rfl, ⟨_, rfl, rfl⟩, rfl, rfl⟩ | exact ⟨_, rfl, ⟨_, rfl, rfl⟩, rfl, rfl⟩
  refine zz ?_
  try (apply Or.inl; refine And.intro (by first | rfl | exact zbool) ?_)
  refine zz ?_
  try (apply Or.inl; refine And.intro (by first | rfl | exact zbool) ?_)
  refine zz ?_
  try (apply Or.inl; refine And.intro (by first | rfl | exact zbool) ?_)
  refine zz ?_
  try (apply Or.inl; refine And.intro (by first | rfl | exact zbool) ?_)
  refine zz ?_
  try (apply Or.inl; refine And.intro (by first | rfl | exact zbool) ?_)
  refine zz ?_
  try (apply Or.inl; refine And.intro (by first | rfl | exact zbool) ?_)
  refine zz ?_
  try (apply Or.inl; refine And.intro (by first | rfl | exact zbool) ?_)
  refine zz ?_
  try (apply Or.inl; refine And.intro (by first | rfl | exact zbool) ?_)
  refine zz ?_
  try (apply Or.inl; refine And.intro (by first | rfl | exact zbool) ?_)
  refine zz ?_
  try (apply Or.inl; refine And.intro (by first | rfl | exact zbool) ?_)
  refine zz ?_
  refine br (iteS h) ?_ ?_ <;> (clear h; intro c h)
  rotate_left
  · refine zz ?_
    try (apply Or.inr; refine And.intro (by first | rfl | exact zbool) ?_)
    refine zz ?_
    try (apply Or.inr; refine And.intro (by first | rfl | exact zbool) ?_)
    refine zz ?_
    try (apply Or.inr; refine And.intro (by first | rfl | exact zbool) ?_)
    refine zz ?_
    try (apply Or.inr; refine And.intro (by first | rfl | exact zbool) ?_)
    refine zz ?_
    try (apply Or.inr; refine And.intro (by first | rfl | exact zbool) ?_)
    refine zz ?_
    try (apply Or.inr; refine And.intro (by first | rfl | exact zbool) ?_)
    refine zz ?_
    try (apply Or.inr; refine And.intro (by first | rfl | exact zbool) ?_)
    refine zz ?_
    try (apply Or.inr; refine And.intro (by first | rfl | exact zbool) ?_)
    refine zz ?_
    try (apply Or.inr; refine And.intro (by first | rfl | exact zbool) ?_)
    refine zz ?_
    try (apply Or.inr; refine And.intro (by first | rfl | exact zbool) ?_)
    refine zz ?_
    try (apply Or.inr; refine And.intro (by first | rfl | exact zbool) ?_)
    cases h
    refine zz ?_
    first | exact ⟨trivial, _, rfl, ⟨_, rfl, rfl⟩, rfl, rfl⟩ | exact ⟨_, rfl, ⟨_, rfl, rfl⟩, rfl, rfl⟩
  refine zz ?_
  try (apply Or.inl; refine And.intro (by first | rfl | exact zbool) ?_)
  refine zz ?_
  try (apply Or.inl; refine And.intro (by first | rfl | exact zbool) ?_)
  refine zz ?_
  try (apply Or.inl; refine And.intro (by first | rfl | exact zbool) ?_)
  refine zz ?_
  try (apply Or.inl; refine And.intro (by first | rfl | exact zbool) ?_)
  refine zz ?_
  try (apply Or.inl; refine And.intro (by first | rfl | exact zbool) ?_)
  refine zz ?_
  try (apply Or.inl; refine And.intro (by first | rfl | exact zbool) ?_)
  refine zz ?_
  try (apply Or.inl; refine And.intro (by first | rfl | exact zbool) ?_)
  refine zz ?_
  try (apply Or.inl; refine And.intro (by first | rfl | exact zbool) ?_)
  have h_ := gS h; clear h; obtain ⟨c, h⟩ := h_
  refine zz ?_
  try (apply Or.inl; refine And.intro (by first | rfl | exact zbool) ?_)
  refine zz ?_
  try (apply Or.inl; refine And.intro (by first | rfl | exact zbool) ?_)
  refine zz ?_
  try (apply Or.inl; refine And.intro (by first | rfl | exact zbool) ?_)
  cases h
  refine zz ?_
  first | exact ⟨trivial, _, rfl, ⟨_, rfl, rfl⟩, rfl, rfl⟩ | exact ⟨_, rfl, ⟨_, rfl, rfl⟩, rfl, rfl⟩
theorem spec_l3Set_ev (s0_0 : ByteArray) (s0_1 : Int) (s0_2 : Bool) (r1 : Int) (r2 : Int) (r3 : ByteArray) (r4 : Bool) (r5 : List S59) (r6 : ByteArray) (r7 : Int) (r8 : Bool) (h : spec_l3Set.fv s0_0 s0_1 s0_2 = some (r1, r2, r3, r4, r5, r6, r7, r8)) : CE G 63 [.ptr 0 0] [.box [.val (.str s0_0), .val (.int .i64 s0_1), .val (.bool s0_2)]] [.val (.agg [.int .i64 r1, .int .i64 r2, .str r3, .bool r4, .row (r5.map e59)])] [.box [.val (.str r6), .val (.int .i64 r7), .val (.bool r8)]] := by
  obtain ⟨k, h⟩ := lim_ex h
  refine CE.mk ⟨Try.f63, _, rfl, rfl, ⟨by kernel_rfl, Nat.le_of_ble_eq_true rfl, Nat.le_of_ble_eq_true rfl⟩, ?_⟩
  rcases k with _ | k
  · exact (run_zero h).elim
  rw [run_succ, spec_l3Set.B] at h
  refine zz ?_
  refine cutJ (n := 13) [0, 16, 529] (fun fr hp => ∃ kq, kq ≤ k ∧ ∃ (x1000 : ByteArray) (x1001 : Int) (x1002 : Bool) (x529_0 : Int) (x529_1 : Int) (x529_2 : ByteArray) (x529_3 : Bool), run spec_l3Set.B kq (.j0 x1000 x1001 x1002 x529_0 x529_1 x529_2 x529_3) = some (r1, r2, r3, r4, r5, r6, r7, r8) ∧ (∃ fr0, fr = puts [(0, .one (.ptr 0 0)), (2, .one (.ptr 16 0)), (3, .one (.ptr 529 0))] fr0) ∧ hp = (upd 0 (.box [.val (.str x1000), .val (.int .i64 x1001), .val (.bool x1002)]) (upd 16 (.box [.val (.int .i64 0), .val (.int .i64 0), .val (.str (⟨#[]⟩ : ByteArray)), .val (.bool false), .nilrow]) (upd 529 (.box [.val (.int .i64 x529_0), .val (.int .i64 x529_1), .val (.str x529_2), .val (.bool x529_3), .val (.row (([] : List S59).map e59))]) (fun _ => none))))) ?_ ?_
  · have h_ := evO h; clear h; obtain ⟨t13, ht, h⟩ := h_
    refine zz ?_
    refine Exists.intro _ (Exists.intro _ (And.intro (spec_l3Now_ev (h := ht)) ?_))
    refine zz ?_
    refine br (iP h) ?_ ?_ <;> (clear h; intro c h)
    · replace h := evT h
      refine zz ?_
      exact ⟨_, zfuel, _, _, _, _, _, _, _, h, leafFr [0, 2, 3] (by kernel_rfl), by kernel_rfl⟩
    replace h := evT h
    refine zz ?_
    exact ⟨_, zfuel, _, _, _, _, _, _, _, h, leafFr [0, 2, 3] (by kernel_rfl), by kernel_rfl⟩
  clear h; rintro _ _ ⟨k, hle, x1000, x1001, x1002, x529_0, x529_1, x529_2, x529_3, h, ⟨fr0, rfl⟩, rfl⟩
  rcases k with _ | k
  · exact (run_zero h).elim
  rw [run_succ, spec_l3Set.B] at h
  have h_ := gP h; clear h; obtain ⟨c, h⟩ := h_
  refine zz ?_
  refine Exists.intro (List.map VV.bool (List.replicate 256 false)) (And.intro zrow ?_)
  replace h := evT h
  refine zz ?_
  refine loopJ [0, 16, 529, 2576] (fun kq fr hp => ∃ (x4 : List Bool) (x5 : Int) (x1000 : ByteArray) (x1001 : Int) (x1002 : Bool) (x529_0 : Int) (x529_1 : Int) (x529_2 : ByteArray) (x529_3 : Bool) (g2576 : Nat), run spec_l3Set.B kq (.l0 x4 x5 x1000 x1001 x1002 x529_0 x529_1 x529_2 x529_3) = some (r1, r2, r3, r4, r5, r6, r7, r8) ∧ (∃ fr0, fr = puts [(0, .one (.ptr 0 0)), (2, .one (.ptr 16 0)), (3, .one (.ptr 529 0)), (4, .one (.ref 2576 g2576)), (5, .one (.val (.int .i64 x5)))] fr0) ∧ hp = (upd 0 (.box [.val (.str x1000), .val (.int .i64 x1001), .val (.bool x1002)]) (upd 16 (.box [.val (.int .i64 0), .val (.int .i64 0), .val (.str (⟨#[]⟩ : ByteArray)), .val (.bool false), .nilrow]) (upd 529 (.box [.val (.int .i64 x529_0), .val (.int .i64 x529_1), .val (.str x529_2), .val (.bool x529_3), .val (.row (([] : List S59).map e59))]) (upd 2576 (.own 4 1 (x4.map VV.bool) g2576 false) (fun _ => none)))))) k ⟨_, zfuel, _, _, _, _, _, _, _, _, _, 0, h, leafFr [0, 2, 3, 4, 5] (by kernel_rfl), by kernel_rfl⟩ ?_
  clear h; rintro k hle _ _ ⟨x4, x5, x1000, x1001, x1002, x529_0, x529_1, x529_2, x529_3, g2576, h, ⟨fr0, rfl⟩, rfl⟩
  rcases k with _ | k
  · exact (run_zero h).elim
  rw [run_succ, spec_l3Set.B] at h
  refine zz ?_
  refine cutJ (n := 200007) [0, 16, 529, 2576] (fun fr hp => ∃ kq, kq ≤ k ∧ ∃ (x4 : List Bool) (x5 : Int) (x44 : Bool) (x1000 : ByteArray) (x1001 : Int) (x1002 : Bool) (x529_0 : Int) (x529_1 : Int) (x529_2 : ByteArray) (x529_3 : Bool) (g2576 : Nat), run spec_l3Set.B kq (.j2 x4 x5 x44 x1000 x1001 x1002 x529_0 x529_1 x529_2 x529_3) = some (r1, r2, r3, r4, r5, r6, r7, r8) ∧ (∃ fr0, fr = puts [(0, .one (.ptr 0 0)), (2, .one (.ptr 16 0)), (3, .one (.ptr 529 0)), (4, .one (.ref 2576 g2576)), (5, .one (.val (.int .i64 x5))), (44, .one (.val (.bool x44)))] fr0) ∧ hp = (upd 0 (.box [.val (.str x1000), .val (.int .i64 x1001), .val (.bool x1002)]) (upd 16 (.box [.val (.int .i64 0), .val (.int .i64 0), .val (.str (⟨#[]⟩ : ByteArray)), .val (.bool false), .nilrow]) (upd 529 (.box [.val (.int .i64 x529_0), .val (.int .i64 x529_1), .val (.str x529_2), .val (.bool x529_3), .val (.row (([] : List S59).map e59))]) (upd 2576 (.own 4 1 (x4.map VV.bool) g2576 false) (fun _ => none)))))) ?_ ?_
  · refine zz ?_
    refine br (iP h) ?_ ?_ <;> (clear h; intro c h)
    rotate_left
    · refine zz ?_
      try (apply Or.inr; refine And.intro (by first | rfl | exact zbool) ?_)
      refine zz ?_
      try (apply Or.inr; refine And.intro (by first | rfl | exact zbool) ?_)
      refine zz ?_
      try (apply Or.inr; refine And.intro (by first | rfl | exact zbool) ?_)
      refine zz ?_
      try (apply Or.inr; refine And.intro (by first | rfl | exact zbool) ?_)
      refine zz ?_
      try (apply Or.inr; refine And.intro (by first | rfl | exact zbool) ?_)
      refine zz ?_
      try (apply Or.inr; refine And.intro (by first | rfl | exact zbool) ?_)
      refine zz ?_
      try (apply Or.inr; refine And.intro (by first | rfl | exact zbool) ?_)
      refine zz ?_
      try (apply Or.inr; refine And.intro (by first | rfl | exact zbool) ?_)
      refine zz ?_
      try (apply Or.inr; refine And.intro (by first | rfl | exact zbool) ?_)
      refine zz ?_
      try (apply Or.inr; refine And.intro (by first | rfl | exact zbool) ?_)
      replace h := evT h
      refine zz ?_
      exact ⟨_, zfuel, _, _, _, _, _, _, _, _, _, _, g2576, h, leafFr [0, 2, 3, 4, 5, 44] (by kernel_rfl), by kernel_rfl⟩
    refine zz ?_
    try (apply Or.inl; refine And.intro (by first | rfl | exact zbool) ?_)
    refine zz ?_
    try (apply Or.inl; refine And.intro (by first | rfl | exact zbool) ?_)
    refine zz ?_
    try (apply Or.inl; refine And.intro (by first | rfl | exact zbool) ?_)
    refine zz ?_
    try (apply Or.inl; refine And.intro (by first | rfl | exact zbool) ?_)
    refine zz ?_
    try (apply Or.inl; refine And.intro (by first | rfl | exact zbool) ?_)
    refine zz ?_
    try (apply Or.inl; refine And.intro (by first | rfl | exact zbool) ?_)
    refine zz ?_
    try (apply Or.inl; refine And.intro (by first | rfl | exact zbool) ?_)
    refine zz ?_
    try (apply Or.inl; refine And.intro (by first | rfl | exact zbool) ?_)
    have h_ := gP h; clear h; obtain ⟨c, h⟩ := h_
    refine zz ?_
    try (apply Or.inl; refine And.intro (by first | rfl | exact zbool) ?_)
    refine zz ?_
    try (apply Or.inl; refine And.intro (by first | rfl | exact zbool) ?_)
    replace h := evT h
    refine zz ?_
    exact ⟨_, zfuel, _, _, _, _, _, _, _, _, _, _, g2576, h, leafFr [0, 2, 3, 4, 5, 44] (by kernel_rfl), by kernel_rfl⟩
  clear h; rintro _ _ ⟨k, hle, x4, x5, x44, x1000, x1001, x1002, x529_0, x529_1, x529_2, x529_3, g2576, h, ⟨fr0, rfl⟩, rfl⟩
  rcases k with _ | k
  · exact (run_zero h).elim
  rw [run_succ, spec_l3Set.B] at h
  refine zz ?_
  refine br (iP h) ?_ ?_ <;> (clear h; intro c h)
  rotate_left
  · refine zz ?_
    refine cutJ (n := 148) [0, 16, 529, 2576] (fun fr hp => ∃ kq, kq ≤ k ∧ ∃ (x4 : List Bool) (x1000 : ByteArray) (x1001 : Int) (x1002 : Bool) (x529_0 : Int) (x529_1 : Int) (x529_2 : ByteArray) (x529_3 : Bool) (g2576 : Nat), run spec_l3Set.B kq (.j8 x4 x1000 x1001 x1002 x529_0 x529_1 x529_2 x529_3) = some (r1, r2, r3, r4, r5, r6, r7, r8) ∧ (∃ fr0, fr = puts [(0, .one (.ptr 0 0)), (2, .one (.ptr 16 0)), (3, .one (.ptr 529 0)), (4, .one (.ref 2576 g2576))] fr0) ∧ hp = (upd 0 (.box [.val (.str x1000), .val (.int .i64 x1001), .val (.bool x1002)]) (upd 16 (.box [.val (.int .i64 0), .val (.int .i64 0), .val (.str (⟨#[]⟩ : ByteArray)), .val (.bool false), .nilrow]) (upd 529 (.box [.val (.int .i64 x529_0), .val (.int .i64 x529_1), .val (.str x529_2), .val (.bool x529_3), .val (.row (([] : List S59).map e59))]) (upd 2576 (.own 4 1 (x4.map VV.bool) g2576 false) (fun _ => none)))))) ?_ ?_
    · refine zz ?_
      refine cutJ (n := 200021) [0, 16, 529, 2576] (fun fr hp => ∃ kq, kq ≤ k ∧ ∃ (x4 : List Bool) (x148 : Bool) (x1000 : ByteArray) (x1001 : Int) (x1002 : Bool) (x529_0 : Int) (x529_1 : Int) (x529_2 : ByteArray) (x529_3 : Bool) (g2576 : Nat), run spec_l3Set.B kq (.j7 x4 x148 x1000 x1001 x1002 x529_0 x529_1 x529_2 x529_3) = some (r1, r2, r3, r4, r5, r6, r7, r8) ∧ (∃ fr0, fr = puts [(0, .one (.ptr 0 0)), (2, .one (.ptr 16 0)), (3, .one (.ptr 529 0)), (4, .one (.ref 2576 g2576)), (148, .one (.val (.bool x148)))] fr0) ∧ hp = (upd 0 (.box [.val (.str x1000), .val (.int .i64 x1001), .val (.bool x1002)]) (upd 16 (.box [.val (.int .i64 0), .val (.int .i64 0), .val (.str (⟨#[]⟩ : ByteArray)), .val (.bool false), .nilrow]) (upd 529 (.box [.val (.int .i64 x529_0), .val (.int .i64 x529_1), .val (.str x529_2), .val (.bool x529_3), .val (.row (([] : List S59).map e59))]) (upd 2576 (.own 4 1 (x4.map VV.bool) g2576 false) (fun _ => none)))))) ?_ ?_
      · refine zz ?_
        refine brW (iP h) ?_ ?_ <;> (clear h; intro c h)
        · refine zz ?_
          try (apply Or.inl; refine And.intro (by first | rfl | exact zbool) ?_)
          refine zz ?_
          try (apply Or.inr; refine And.intro (by first | rfl | exact zbool) ?_)
          replace h := evT h
          refine zz ?_
          exact ⟨_, zfuel, _, _, _, _, _, _, _, _, _, g2576, h, leafFr [0, 2, 3, 4, 148] (by kernel_rfl), by kernel_rfl⟩
        refine zz ?_
        try (apply Or.inr; refine And.intro (by first | rfl | exact zbool) ?_)
        refine zz ?_
        try (apply Or.inl; refine And.intro (by first | rfl | exact zbool) ?_)
        replace h := evT h
        refine zz ?_
        exact ⟨_, zfuel, _, _, _, _, _, _, _, _, _, g2576, h, leafFr [0, 2, 3, 4, 148] (by kernel_rfl), by kernel_rfl⟩
      clear h; rintro _ _ ⟨k, hle, x4, x148, x1000, x1001, x1002, x529_0, x529_1, x529_2, x529_3, g2576, h, ⟨fr0, rfl⟩, rfl⟩
      rcases k with _ | k
      · exact (run_zero h).elim
      rw [run_succ, spec_l3Set.B] at h
      refine zz ?_
      refine br (iP h) ?_ ?_ <;> (clear h; intro c h)
      · replace h := evT h
        refine zz ?_
        exact ⟨_, zfuel, _, _, _, _, _, _, _, _, g2576, h, leafFr [0, 2, 3, 4] (by kernel_rfl), by kernel_rfl⟩
      replace h := evT h
      refine zz ?_
      exact ⟨_, zfuel, _, _, _, _, _, _, _, _, g2576, h, leafFr [0, 2, 3, 4] (by kernel_rfl), by kernel_rfl⟩
    clear h; rintro _ _ ⟨k, hle, x4, x1000, x1001, x1002, x529_0, x529_1, x529_2, x529_3, g2576, h, ⟨fr0, rfl⟩, rfl⟩
    rcases k with _ | k
    · exact (run_zero h).elim
    rw [run_succ, spec_l3Set.B] at h
    refine zz ?_
    refine Exists.intro (List.map (VV.int .u8) ([] : List Int)) (And.intro zrow ?_)
    replace h := evT h
    refine zz ?_
    refine loopJ [0, 16, 529, 2576, 12304] (fun kq fr hp => ∃ (x4 : List Bool) (x9 : List Int) (x10 : Int) (x1000 : ByteArray) (x1001 : Int) (x1002 : Bool) (x529_0 : Int) (x529_1 : Int) (x529_2 : ByteArray) (x529_3 : Bool) (g2576 : Nat) (g12304 : Nat), run spec_l3Set.B kq (.l2 x4 x9 x10 x1000 x1001 x1002 x529_0 x529_1 x529_2 x529_3) = some (r1, r2, r3, r4, r5, r6, r7, r8) ∧ (∃ fr0, fr = puts [(2, .one (.ptr 16 0)), (3, .one (.ptr 529 0)), (4, .one (.ref 2576 g2576)), (9, .one (.ref 12304 g12304)), (10, .one (.val (.int .i64 x10)))] fr0) ∧ hp = (upd 0 (.box [.val (.str x1000), .val (.int .i64 x1001), .val (.bool x1002)]) (upd 16 (.box [.val (.int .i64 0), .val (.int .i64 0), .val (.str (⟨#[]⟩ : ByteArray)), .val (.bool false), .nilrow]) (upd 529 (.box [.val (.int .i64 x529_0), .val (.int .i64 x529_1), .val (.str x529_2), .val (.bool x529_3), .val (.row (([] : List S59).map e59))]) (upd 2576 (.own 4 1 (x4.map VV.bool) g2576 false) (upd 12304 (.own 5 1 (x9.map (VV.int .u8)) g12304 false) (fun _ => none))))))) k ⟨_, zfuel, _, _, _, _, _, _, _, _, _, _, g2576, 0, h, leafFr [2, 3, 4, 9, 10] (by kernel_rfl), by kernel_rfl⟩ ?_
    clear h; rintro k hle _ _ ⟨x4, x9, x10, x1000, x1001, x1002, x529_0, x529_1, x529_2, x529_3, g2576, g12304, h, ⟨fr0, rfl⟩, rfl⟩
    rcases k with _ | k
    · exact (run_zero h).elim
    rw [run_succ, spec_l3Set.B] at h
    refine zz ?_
    refine br (iP h) ?_ ?_ <;> (clear h; intro c h)
    rotate_left
    · replace h := evR h; cases h
      refine zz ?_
      first | exact ⟨trivial, _, rfl, ⟨_, rfl, rfl⟩, rfl, rfl⟩ | exact ⟨_, rfl, ⟨_, rfl, rfl⟩, rfl, rfl⟩
    have h_ := gP h; clear h; obtain ⟨c, h⟩ := h_
    have h_ := gP h; clear h; obtain ⟨c, h⟩ := h_
    refine zz ?_
    refine br (iP h) ?_ ?_ <;> (clear h; intro c h)
    rotate_left
    · replace h := evT h
      refine zz ?_
      exact ⟨_, zfuel, _, _, _, _, _, _, _, _, _, _, g2576, g12304, h, leafFr [2, 3, 4, 9, 10] (by kernel_rfl), by kernel_rfl⟩
    refine zz ?_
    refine Exists.intro (List.map (VV.int .u8) ([((x10) % 256)] : List Int)) (And.intro zrow ?_)
    have h_ := gP h; clear h; obtain ⟨c, h⟩ := h_
    refine zz ?_
    refine Exists.intro (List.map (VV.int .u8) (x9 ++ [((x10) % 256)])) (And.intro zrow ?_)
    replace h := evT h
    refine zz ?_
    exact ⟨_, zfuel, _, _, _, _, _, _, _, _, _, _, g2576, (g12304 + 1), h, leafFr [2, 3, 4, 9, 10] (by kernel_rfl), by kernel_rfl⟩
  have h_ := gP h; clear h; obtain ⟨c, h⟩ := h_
  have h_ := gP h; clear h; obtain ⟨c, h⟩ := h_
  refine zz ?_
  refine cutJ (n := 98) [0, 16, 529, 2576] (fun fr hp => ∃ kq, kq ≤ k ∧ ∃ (x4 : List Bool) (x5 : Int) (x6 : Int) (x7 : Int) (x1000 : ByteArray) (x1001 : Int) (x1002 : Bool) (x529_0 : Int) (x529_1 : Int) (x529_2 : ByteArray) (x529_3 : Bool) (g2576 : Nat), run spec_l3Set.B kq (.j4 x4 x5 x6 x7 x1000 x1001 x1002 x529_0 x529_1 x529_2 x529_3) = some (r1, r2, r3, r4, r5, r6, r7, r8) ∧ (∃ fr0, fr = puts [(0, .one (.ptr 0 0)), (2, .one (.ptr 16 0)), (3, .one (.ptr 529 0)), (4, .one (.ref 2576 g2576)), (5, .one (.val (.int .i64 x5))), (6, .one (.val (.int .i64 x6))), (7, .one (.val (.int .i64 x7)))] fr0) ∧ hp = (upd 0 (.box [.val (.str x1000), .val (.int .i64 x1001), .val (.bool x1002)]) (upd 16 (.box [.val (.int .i64 0), .val (.int .i64 0), .val (.str (⟨#[]⟩ : ByteArray)), .val (.bool false), .nilrow]) (upd 529 (.box [.val (.int .i64 x529_0), .val (.int .i64 x529_1), .val (.str x529_2), .val (.bool x529_3), .val (.row (([] : List S59).map e59))]) (upd 2576 (.own 4 1 (x4.map VV.bool) g2576 false) (fun _ => none)))))) ?_ ?_
  · refine zz ?_
    refine cutJ (n := 200011) [0, 16, 529, 2576] (fun fr hp => ∃ kq, kq ≤ k ∧ ∃ (x4 : List Bool) (x5 : Int) (x6 : Int) (x7 : Int) (x98 : Bool) (x1000 : ByteArray) (x1001 : Int) (x1002 : Bool) (x529_0 : Int) (x529_1 : Int) (x529_2 : ByteArray) (x529_3 : Bool) (g2576 : Nat), run spec_l3Set.B kq (.j3 x4 x5 x6 x7 x98 x1000 x1001 x1002 x529_0 x529_1 x529_2 x529_3) = some (r1, r2, r3, r4, r5, r6, r7, r8) ∧ (∃ fr0, fr = puts [(0, .one (.ptr 0 0)), (2, .one (.ptr 16 0)), (3, .one (.ptr 529 0)), (4, .one (.ref 2576 g2576)), (5, .one (.val (.int .i64 x5))), (6, .one (.val (.int .i64 x6))), (7, .one (.val (.int .i64 x7))), (98, .one (.val (.bool x98)))] fr0) ∧ hp = (upd 0 (.box [.val (.str x1000), .val (.int .i64 x1001), .val (.bool x1002)]) (upd 16 (.box [.val (.int .i64 0), .val (.int .i64 0), .val (.str (⟨#[]⟩ : ByteArray)), .val (.bool false), .nilrow]) (upd 529 (.box [.val (.int .i64 x529_0), .val (.int .i64 x529_1), .val (.str x529_2), .val (.bool x529_3), .val (.row (([] : List S59).map e59))]) (upd 2576 (.own 4 1 (x4.map VV.bool) g2576 false) (fun _ => none)))))) ?_ ?_
    · refine zz ?_
      refine br (iP h) ?_ ?_ <;> (clear h; intro c h)
      rotate_left
      · refine zz ?_
        try (apply Or.inr; refine And.intro (by first | rfl | exact zbool) ?_)
        refine zz ?_
        try (apply Or.inr; refine And.intro (by first | rfl | exact zbool) ?_)
        refine zz ?_
        try (apply Or.inr; refine And.intro (by first | rfl | exact zbool) ?_)
        refine zz ?_
        try (apply Or.inr; refine And.intro (by first | rfl | exact zbool) ?_)
        refine zz ?_
        try (apply Or.inr; refine And.intro (by first | rfl | exact zbool) ?_)
        refine zz ?_
        try (apply Or.inr; refine And.intro (by first | rfl | exact zbool) ?_)
        refine zz ?_
        try (apply Or.inr; refine And.intro (by first | rfl | exact zbool) ?_)
        refine zz ?_
        try (apply Or.inr; refine And.intro (by first | rfl | exact zbool) ?_)
        refine zz ?_
        try (apply Or.inr; refine And.intro (by first | rfl | exact zbool) ?_)
        refine zz ?_
        try (apply Or.inr; refine And.intro (by first | rfl | exact zbool) ?_)
        refine zz ?_
        try (apply Or.inr; refine And.intro (by first | rfl | exact zbool) ?_)
        refine zz ?_
        try (apply Or.inr; refine And.intro (by first | rfl | exact zbool) ?_)
        refine zz ?_
        try (apply Or.inr; refine And.intro (by first | rfl | exact zbool) ?_)
        refine zz ?_
        try (apply Or.inr; refine And.intro (by first | rfl | exact zbool) ?_)
        refine zz ?_
        try (apply Or.inr; refine And.intro (by first | rfl | exact zbool) ?_)
        refine zz ?_
        try (apply Or.inr; refine And.intro (by first | rfl | exact zbool) ?_)
        refine zz ?_
        try (apply Or.inr; refine And.intro (by first | rfl | exact zbool) ?_)
        refine zz ?_
        try (apply Or.inr; refine And.intro (by first | rfl | exact zbool) ?_)
        refine zz ?_
        try (apply Or.inr; refine And.intro (by first | rfl | exact zbool) ?_)
        refine zz ?_
        try (apply Or.inr; refine And.intro (by first | rfl | exact zbool) ?_)
        refine zz ?_
        try (apply Or.inr; refine And.intro (by first | rfl | exact zbool) ?_)
        refine zz ?_
        try (apply Or.inr; refine And.intro (by first | rfl | exact zbool) ?_)
        replace h := evT h
        refine zz ?_
        exact ⟨_, zfuel, _, _, _, _, _, _, _, _, _, _, _, _, g2576, h, leafFr [0, 2, 3, 4, 5, 6, 7, 98] (by kernel_rfl), by kernel_rfl⟩
      refine zz ?_
      try (apply Or.inl; refine And.intro (by first | rfl | exact zbool) ?_)
      refine zz ?_
      try (apply Or.inl; refine And.intro (by first | rfl | exact zbool) ?_)
      refine zz ?_
      try (apply Or.inl; refine And.intro (by first | rfl | exact zbool) ?_)
      refine zz ?_
      try (apply Or.inl; refine And.intro (by first | rfl | exact zbool) ?_)
      refine zz ?_
      try (apply Or.inl; refine And.intro (by first | rfl | exact zbool) ?_)
      refine zz ?_
      try (apply Or.inl; refine And.intro (by first | rfl | exact zbool) ?_)
      refine zz ?_
      try (apply Or.inl; refine And.intro (by first | rfl | exact zbool) ?_)
      refine zz ?_
      try (apply Or.inl; refine And.intro (by first | rfl | exact zbool) ?_)
      have h_ := gP h; clear h; obtain ⟨c, h⟩ := h_
      have h_ := gP h; clear h; obtain ⟨c, h⟩ := h_
      refine zz ?_
      try (apply Or.inl; refine And.intro (by first | rfl | exact zbool) ?_)
      refine zz ?_
      try (apply Or.inl; refine And.intro (by first | rfl | exact zbool) ?_)
      refine zz ?_
      refine br (iP h) ?_ ?_ <;> (clear h; intro c h)
      rotate_left
      · refine zz ?_
        try (apply Or.inr; refine And.intro (by first | rfl | exact zbool) ?_)
        refine zz ?_
        try (apply Or.inr; refine And.intro (by first | rfl | exact zbool) ?_)
        refine zz ?_
        try (apply Or.inr; refine And.intro (by first | rfl | exact zbool) ?_)
        refine zz ?_
        try (apply Or.inr; refine And.intro (by first | rfl | exact zbool) ?_)
        refine zz ?_
        try (apply Or.inr; refine And.intro (by first | rfl | exact zbool) ?_)
        refine zz ?_
        try (apply Or.inr; refine And.intro (by first | rfl | exact zbool) ?_)
        refine zz ?_
        try (apply Or.inr; refine And.intro (by first | rfl | exact zbool) ?_)
        refine zz ?_
        try (apply Or.inr; refine And.intro (by first | rfl | exact zbool) ?_)
        refine zz ?_
        try (apply Or.inr; refine And.intro (by first | rfl | exact zbool) ?_)
        refine zz ?_
        try (apply Or.inr; refine And.intro (by first | rfl | exact zbool) ?_)
        refine zz ?_
        try (apply Or.inr; refine And.intro (by first | rfl | exact zbool) ?_)
        replace h := evT h
        refine zz ?_
        exact ⟨_, zfuel, _, _, _, _, _, _, _, _, _, _, _, _, g2576, h, leafFr [0, 2, 3, 4, 5, 6, 7, 98] (by kernel_rfl), by kernel_rfl⟩
      refine zz ?_
      try (apply Or.inl; refine And.intro (by first | rfl | exact zbool) ?_)
      refine zz ?_
      try (apply Or.inl; refine And.intro (by first | rfl | exact zbool) ?_)
      refine zz ?_
      try (apply Or.inl; refine And.intro (by first | rfl | exact zbool) ?_)
      refine zz ?_
      try (apply Or.inl; refine And.intro (by first | rfl | exact zbool) ?_)
      refine zz ?_
      try (apply Or.inl; refine And.intro (by first | rfl | exact zbool) ?_)
      refine zz ?_
      try (apply Or.inl; refine And.intro (by first | rfl | exact zbool) ?_)
      refine zz ?_
      try (apply Or.inl; refine And.intro (by first | rfl | exact zbool) ?_)
      refine zz ?_
      try (apply Or.inl; refine And.intro (by first | rfl | exact zbool) ?_)
      refine zz ?_
      try (apply Or.inl; refine And.intro (by first | rfl | exact zbool) ?_)
      have h_ := gP h; clear h; obtain ⟨c, h⟩ := h_
      refine zz ?_
      try (apply Or.inl; refine And.intro (by first | rfl | exact zbool) ?_)
      refine zz ?_
      try (apply Or.inl; refine And.intro (by first | rfl | exact zbool) ?_)
      replace h := evT h
      refine zz ?_
      exact ⟨_, zfuel, _, _, _, _, _, _, _, _, _, _, _, _, g2576, h, leafFr [0, 2, 3, 4, 5, 6, 7, 98] (by kernel_rfl), by kernel_rfl⟩
    clear h; rintro _ _ ⟨k, hle, x4, x5, x6, x7, x98, x1000, x1001, x1002, x529_0, x529_1, x529_2, x529_3, g2576, h, ⟨fr0, rfl⟩, rfl⟩
    rcases k with _ | k
    · exact (run_zero h).elim
    rw [run_succ, spec_l3Set.B] at h
    refine zz ?_
    refine br (iP h) ?_ ?_ <;> (clear h; intro c h)
    rotate_left
    · replace h := evT h
      refine zz ?_
      exact ⟨_, zfuel, _, _, _, _, _, _, _, _, _, _, _, g2576, h, leafFr [0, 2, 3, 4, 5, 6, 7] (by kernel_rfl), by kernel_rfl⟩
    have h_ := gP h; clear h; obtain ⟨c, h⟩ := h_
    have h_ := gP h; clear h; obtain ⟨c, h⟩ := h_
    replace h := evT h
    refine zz ?_
    exact ⟨_, zfuel, _, _, _, _, _, _, _, _, _, _, _, g2576, h, leafFr [0, 2, 3, 4, 5, 6, 7] (by kernel_rfl), by kernel_rfl⟩
  clear h; rintro _ _ ⟨k, hle, x4, x5, x6, x7, x1000, x1001, x1002, x529_0, x529_1, x529_2, x529_3, g2576, h, ⟨fr0, rfl⟩, rfl⟩
  rcases k with _ | k
  · exact (run_zero h).elim
  rw [run_succ, spec_l3Set.B] at h
  refine zz ?_
  refine cutJ (n := 120) [0, 16, 529, 2576] (fun fr hp => ∃ kq, kq ≤ k ∧ ∃ (x4 : List Bool) (x5 : Int) (x6 : Int) (x7 : Int) (x1000 : ByteArray) (x1001 : Int) (x1002 : Bool) (x529_0 : Int) (x529_1 : Int) (x529_2 : ByteArray) (x529_3 : Bool) (g2576 : Nat), run spec_l3Set.B kq (.j5 x4 x5 x6 x7 x1000 x1001 x1002 x529_0 x529_1 x529_2 x529_3) = some (r1, r2, r3, r4, r5, r6, r7, r8) ∧ (∃ fr0, fr = puts [(0, .one (.ptr 0 0)), (2, .one (.ptr 16 0)), (3, .one (.ptr 529 0)), (4, .one (.ref 2576 g2576)), (5, .one (.val (.int .i64 x5))), (6, .one (.val (.int .i64 x6))), (7, .one (.val (.int .i64 x7)))] fr0) ∧ hp = (upd 0 (.box [.val (.str x1000), .val (.int .i64 x1001), .val (.bool x1002)]) (upd 16 (.box [.val (.int .i64 0), .val (.int .i64 0), .val (.str (⟨#[]⟩ : ByteArray)), .val (.bool false), .nilrow]) (upd 529 (.box [.val (.int .i64 x529_0), .val (.int .i64 x529_1), .val (.str x529_2), .val (.bool x529_3), .val (.row (([] : List S59).map e59))]) (upd 2576 (.own 4 1 (x4.map VV.bool) g2576 false) (fun _ => none)))))) ?_ ?_
  · refine zz ?_
    refine br (iP h) ?_ ?_ <;> (clear h; intro c h)
    · replace h := evT h
      refine zz ?_
      exact ⟨_, zfuel, _, _, _, _, _, _, _, _, _, _, _, g2576, h, leafFr [0, 2, 3, 4, 5, 6, 7] (by kernel_rfl), by kernel_rfl⟩
    replace h := evT h
    refine zz ?_
    exact ⟨_, zfuel, _, _, _, _, _, _, _, _, _, _, _, g2576, h, leafFr [0, 2, 3, 4, 5, 6, 7] (by kernel_rfl), by kernel_rfl⟩
  clear h; rintro _ _ ⟨k, hle, x4, x5, x6, x7, x1000, x1001, x1002, x529_0, x529_1, x529_2, x529_3, g2576, h, ⟨fr0, rfl⟩, rfl⟩
  rcases k with _ | k
  · exact (run_zero h).elim
  rw [run_succ, spec_l3Set.B] at h
  replace h := evT h
  refine zz ?_
  refine loopJ [0, 16, 529, 2576] (fun kq fr hp => ∃ (x4 : List Bool) (x5 : Int) (x7 : Int) (x8 : Int) (x1000 : ByteArray) (x1001 : Int) (x1002 : Bool) (x529_0 : Int) (x529_1 : Int) (x529_2 : ByteArray) (x529_3 : Bool) (g2576 : Nat), run spec_l3Set.B kq (.l1 x4 x5 x7 x8 x1000 x1001 x1002 x529_0 x529_1 x529_2 x529_3) = some (r1, r2, r3, r4, r5, r6, r7, r8) ∧ (∃ fr0, fr = puts [(0, .one (.ptr 0 0)), (2, .one (.ptr 16 0)), (3, .one (.ptr 529 0)), (4, .one (.ref 2576 g2576)), (5, .one (.val (.int .i64 x5))), (7, .one (.val (.int .i64 x7))), (8, .one (.val (.int .i64 x8)))] fr0) ∧ hp = (upd 0 (.box [.val (.str x1000), .val (.int .i64 x1001), .val (.bool x1002)]) (upd 16 (.box [.val (.int .i64 0), .val (.int .i64 0), .val (.str (⟨#[]⟩ : ByteArray)), .val (.bool false), .nilrow]) (upd 529 (.box [.val (.int .i64 x529_0), .val (.int .i64 x529_1), .val (.str x529_2), .val (.bool x529_3), .val (.row (([] : List S59).map e59))]) (upd 2576 (.own 4 1 (x4.map VV.bool) g2576 false) (fun _ => none)))))) k ⟨_, zfuel, _, _, _, _, _, _, _, _, _, _, _, g2576, h, leafFr [0, 2, 3, 4, 5, 7, 8] (by kernel_rfl), by kernel_rfl⟩ ?_
  clear h; rintro k hle _ _ ⟨x4, x5, x7, x8, x1000, x1001, x1002, x529_0, x529_1, x529_2, x529_3, g2576, h, ⟨fr0, rfl⟩, rfl⟩
  rcases k with _ | k
  · exact (run_zero h).elim
  rw [run_succ, spec_l3Set.B] at h
  refine zz ?_
  refine br (iP h) ?_ ?_ <;> (clear h; intro c h)
  rotate_left
  · replace h := evT h
    refine zz ?_
    exact ⟨_, zfuel, _, _, _, _, _, _, _, _, _, g2576, h, leafFr [0, 2, 3, 4, 5] (by kernel_rfl), by kernel_rfl⟩
  have h_ := gP h; clear h; obtain ⟨c, h⟩ := h_
  have h_ := gP h; clear h; obtain ⟨c, h⟩ := h_
  refine zz ?_
  refine Exists.intro (List.map VV.bool (x4.set (x8 : Int).toNat true)) (And.intro zrow ?_)
  replace h := evT h
  refine zz ?_
  exact ⟨_, zfuel, _, _, _, _, _, _, _, _, _, _, _, g2576, h, leafFr [0, 2, 3, 4, 5, 7, 8] (by kernel_rfl), by kernel_rfl⟩
end Go.Proofs.Yteegedceandnkaa.TFnExactProgOk
