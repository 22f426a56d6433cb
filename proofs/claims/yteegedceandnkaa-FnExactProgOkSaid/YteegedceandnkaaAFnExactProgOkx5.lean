/- The walks of the functions that FnExactProgOk reaches, through the abstract machine. -/
import Derived.Test.YteegedceandnkaaAFnExactProgOkh
import Derived.Test.YteegedceandnkaaAFnExactProgOkx0
import Derived.Test.YteegedceandnkaaAFnExactProgOkx2
import Derived.Test.YteegedceandnkaaAFnExactProgOkx4
import Derived.Test.YteegedceandnkaaFFnExactProgOk
import Derived.Test.YteegedceandnkaaProg
set_option maxHeartbeats 4000000
set_option maxRecDepth 100000
set_option linter.unusedVariables false
set_option linter.unusedSimpArgs false
namespace Go.Proofs.Yteegedceandnkaa.TFnExactProgOk
open Go Go.RowKit Go.Proofs Go.Proofs.YteegedceandnkaaW.AM Go.Proofs.Yteegedceandnkaa.QFnExactProgOk Go.Proofs.YteegedceandnkaaW.PrintWords Go.Proofs.YteegedceandnkaaW.Pgs
theorem laws_eqOpS_ev (l0 : List S43) (l1 : List S43) (r : Bool) (h : laws_eqOpS.fv l0 l1 = some r) : CE G 9 [.val (.row (l0.map e43)), .val (.row (l1.map e43))] [] [.val (.bool r)] [] := by
  obtain ⟨k, h⟩ := lim_ex h
  refine CE.mk ⟨Try.f9, _, rfl, rfl, ⟨by kernel_rfl, Nat.le_of_ble_eq_true rfl, Nat.le_of_ble_eq_true rfl⟩, ?_⟩
  rcases k with _ | k
  · exact (run_zero h).elim
  rw [run_succ, laws_eqOpS.B] at h
  refine zz ?_
  refine brN (iP h) ?_ ?_ <;> (clear h; intro c h)
  · replace h := evR h; cases h
    refine zz ?_
    first | exact ⟨trivial, _, rfl, ⟨_, rfl, rfl⟩, rfl, rfl⟩ | exact ⟨_, rfl, ⟨_, rfl, rfl⟩, rfl, rfl⟩
  replace h := evT h
  refine zz ?_
  refine loopJ [] (fun kq fr hp => ∃ (x0 : List S43) (x1 : List S43) (x5 : Int), run laws_eqOpS.B kq (.l0 x0 x1 x5) = some r ∧ (∃ fr0, fr = puts [(0, .one (.val (.row (x0.map e43)))), (1, .one (.val (.row (x1.map e43)))), (5, .one (.val (.int .i64 x5)))] fr0) ∧ hp = (fun _ => none)) k ⟨_, zfuel, _, _, _, h, leafFr [0, 1, 5] (by kernel_rfl), by kernel_rfl⟩ ?_
  clear h; rintro k hle _ _ ⟨x0, x1, x5, h, ⟨fr0, rfl⟩, rfl⟩
  rcases k with _ | k
  · exact (run_zero h).elim
  rw [run_succ, laws_eqOpS.B] at h
  refine zz ?_
  refine br (iP h) ?_ ?_ <;> (clear h; intro c h)
  rotate_left
  · replace h := evR h; cases h
    refine zz ?_
    first | exact ⟨trivial, _, rfl, ⟨_, rfl, rfl⟩, rfl, rfl⟩ | exact ⟨_, rfl, ⟨_, rfl, rfl⟩, rfl, rfl⟩
  have h_ := gP h; clear h; obtain ⟨c, h⟩ := h_
  have h_ := gP h; clear h; obtain ⟨c, h⟩ := h_
  have h_ := evO h; clear h; obtain ⟨t25, ht, h⟩ := h_
  refine zz ?_
  refine Exists.intro _ (And.intro (laws_eqOp_ev (h := ht)) ?_)
  refine zz ?_
  refine brN (iP h) ?_ ?_ <;> (clear h; intro c h)
  · replace h := evR h; cases h
    refine zz ?_
    first | exact ⟨trivial, _, rfl, ⟨_, rfl, rfl⟩, rfl, rfl⟩ | exact ⟨_, rfl, ⟨_, rfl, rfl⟩, rfl, rfl⟩
  replace h := evT h
  refine zz ?_
  exact ⟨_, zfuel, _, _, _, h, leafFr [0, 1, 5] (by kernel_rfl), by kernel_rfl⟩
theorem laws_eqProg_ev (l0_0 : List ByteArray) (l0_1 : List ByteArray) (l0_2 : List S43) (l0_3 : List S43) (l1_0 : List ByteArray) (l1_1 : List ByteArray) (l1_2 : List S43) (l1_3 : List S43) (r : Bool) (h : laws_eqProg.fv l0_0 l0_1 l0_2 l0_3 l1_0 l1_1 l1_2 l1_3 = some r) : CE G 14 [.val (.agg [.row (l0_0.map VV.str), .row (l0_1.map VV.str), .row (l0_2.map e43), .row (l0_3.map e43)]), .val (.agg [.row (l1_0.map VV.str), .row (l1_1.map VV.str), .row (l1_2.map e43), .row (l1_3.map e43)])] [] [.val (.bool r)] [] := by
  refine CE.mk ⟨Try.f14, _, rfl, rfl, ⟨by kernel_rfl, Nat.le_of_ble_eq_true rfl, Nat.le_of_ble_eq_true rfl⟩, ?_⟩
  rw [laws_eqProg.fv] at h
  have h_ := oS h; clear h; obtain ⟨t9, ht, h⟩ := h_
  refine zz ?_
  refine Exists.intro _ (And.intro (laws_eqStringS_ev (h := ht)) ?_)
  refine zz ?_
  refine brN (iteS h) ?_ ?_ <;> (clear h; intro c h)
  · cases h
    refine zz ?_
    first | exact ⟨trivial, _, rfl, ⟨_, rfl, rfl⟩, rfl, rfl⟩ | exact ⟨_, rfl, ⟨_, rfl, rfl⟩, rfl, rfl⟩
  have h_ := oS h; clear h; obtain ⟨t15, ht, h⟩ := h_
  refine zz ?_
  refine Exists.intro _ (And.intro (laws_eqStringS_ev (h := ht)) ?_)
  refine zz ?_
  refine brN (iteS h) ?_ ?_ <;> (clear h; intro c h)
  · cases h
    refine zz ?_
    first | exact ⟨trivial, _, rfl, ⟨_, rfl, rfl⟩, rfl, rfl⟩ | exact ⟨_, rfl, ⟨_, rfl, rfl⟩, rfl, rfl⟩
  have h_ := oS h; clear h; obtain ⟨t21, ht, h⟩ := h_
  refine zz ?_
  refine Exists.intro _ (And.intro (laws_eqOpS_ev (h := ht)) ?_)
  refine zz ?_
  refine brN (iteS h) ?_ ?_ <;> (clear h; intro c h)
  · cases h
    refine zz ?_
    first | exact ⟨trivial, _, rfl, ⟨_, rfl, rfl⟩, rfl, rfl⟩ | exact ⟨_, rfl, ⟨_, rfl, rfl⟩, rfl, rfl⟩
  have h_ := oS h; clear h; obtain ⟨t27, ht, h⟩ := h_
  refine zz ?_
  refine Exists.intro _ (And.intro (laws_eqOpS_ev (h := ht)) ?_)
  refine zz ?_
  refine brN (iteS h) ?_ ?_ <;> (clear h; intro c h)
  · cases h
    refine zz ?_
    first | exact ⟨trivial, _, rfl, ⟨_, rfl, rfl⟩, rfl, rfl⟩ | exact ⟨_, rfl, ⟨_, rfl, rfl⟩, rfl, rfl⟩
  cases h
  refine zz ?_
  first | exact ⟨trivial, _, rfl, ⟨_, rfl, rfl⟩, rfl, rfl⟩ | exact ⟨_, rfl, ⟨_, rfl, rfl⟩, rfl, rfl⟩
theorem laws_FnExactProgOk_ev (l0_0 : List ByteArray) (l0_1 : List ByteArray) (l0_2 : List S41) (l0_3 : List S41) (r : Bool) (h : laws_FnExactProgOk.fv l0_0 l0_1 l0_2 l0_3 = some r) : CE G 4 [.val (.agg [.row (l0_0.map VV.str), .row (l0_1.map VV.str), .row (l0_2.map e41), .row (l0_3.map e41)])] [] [.val (.bool r)] [] := by
  refine CE.mk ⟨Try.f4, _, rfl, rfl, ⟨by kernel_rfl, Nat.le_of_ble_eq_true rfl, Nat.le_of_ble_eq_true rfl⟩, ?_⟩
  rw [laws_FnExactProgOk.fv] at h
  have h_ := oS h; clear h; obtain ⟨t9, ht, h⟩ := h_
  refine zz ?_
  refine Exists.intro _ (And.intro (laws_szProg_ev (h := ht)) ?_)
  refine zz ?_
  refine br (iteS h) ?_ ?_ <;> (clear h; intro c h)
  · cases h
    refine zz ?_
    first | exact ⟨trivial, _, rfl, ⟨_, rfl, rfl⟩, rfl, rfl⟩ | exact ⟨_, rfl, ⟨_, rfl, rfl⟩, rfl, rfl⟩
  have h_ := oS h; clear h; obtain ⟨t13, ht, h⟩ := h_
  refine zz ?_
  refine Exists.intro _ (And.intro (laws_toProg_ev (h := ht)) ?_)
  have h_ := oS h; clear h; obtain ⟨t14, ht, h⟩ := h_
  refine zz ?_
  refine Exists.intro _ (And.intro (spec_ProgOk_ev (h := ht)) ?_)
  have h_ := oS h; clear h; obtain ⟨t16, ht, h⟩ := h_
  refine zz ?_
  refine Exists.intro _ (And.intro (laws_toProg_ev (h := ht)) ?_)
  have h_ := oS h; clear h; obtain ⟨t18, ht, h⟩ := h_
  refine zz ?_
  refine Exists.intro _ (And.intro (impl_ProgOk_ev (h := ht)) ?_)
  refine zz ?_
  refine brN (iteS h) ?_ ?_ <;> (clear h; intro c h)
  · cases h
    refine zz ?_
    first | exact ⟨trivial, _, rfl, ⟨_, rfl, rfl⟩, rfl, rfl⟩ | exact ⟨_, rfl, ⟨_, rfl, rfl⟩, rfl, rfl⟩
  have h_ := oS h; clear h; obtain ⟨t24, ht, h⟩ := h_
  refine zz ?_
  refine Exists.intro _ (And.intro (laws_toProg_ev (h := ht)) ?_)
  have h_ := oS h; clear h; obtain ⟨t25, ht, h⟩ := h_
  refine zz ?_
  refine Exists.intro _ (And.intro (laws_eqProg_ev (h := ht)) ?_)
  refine zz ?_
  refine brN (iteS h) ?_ ?_ <;> (clear h; intro c h)
  · cases h
    refine zz ?_
    first | exact ⟨trivial, _, rfl, ⟨_, rfl, rfl⟩, rfl, rfl⟩ | exact ⟨_, rfl, ⟨_, rfl, rfl⟩, rfl, rfl⟩
  cases h
  refine zz ?_
  first | exact ⟨trivial, _, rfl, ⟨_, rfl, rfl⟩, rfl, rfl⟩ | exact ⟨_, rfl, ⟨_, rfl, rfl⟩, rfl, rfl⟩
end Go.Proofs.Yteegedceandnkaa.TFnExactProgOk
