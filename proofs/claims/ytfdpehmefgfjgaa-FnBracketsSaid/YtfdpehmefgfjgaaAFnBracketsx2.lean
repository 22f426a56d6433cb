/- The walks of the functions that FnBrackets reaches, through the abstract machine. -/
import Derived.Test.YtfdpehmefgfjgaaAFnBracketsh
import Derived.Test.YtfdpehmefgfjgaaAFnBracketsx1
import Derived.Test.YtfdpehmefgfjgaaFFnBrackets
import Derived.Test.YtfdpehmefgfjgaaProg
set_option maxHeartbeats 4000000
set_option maxRecDepth 100000
set_option linter.unusedVariables false
set_option linter.unusedSimpArgs false
namespace Go.Proofs.Ytfdpehmefgfjgaa.TFnBrackets
open Go Go.RowKit Go.Proofs Go.Proofs.YtfdpehmefgfjgaaW.AM Go.Proofs.Ytfdpehmefgfjgaa.QFnBrackets Go.Proofs.YtfdpehmefgfjgaaW.PrintWords Go.Proofs.YtfdpehmefgfjgaaW.Pgs
variable {m_ : Int}
theorem spec_l3Pattern_all : ∀ n, (∀ (k : Nat) (s0_0 : ByteArray) (s0_1 : Int) (s0_2 : Bool) (a1 : Int) (r1 : Int) (r2 : Int) (r3 : ByteArray) (r4 : Bool) (r5 : List S26) (r6 : ByteArray) (r7 : Int) (r8 : Bool) (h : run spec_l3Pattern.B k (.spec_l3Pattern_f s0_0 s0_1 s0_2 a1) = some (r1, r2, r3, r4, r5, r6, r7, r8)) (hk : k < n), CE (G m_) 58 [.ptr 0 0, .val (.int .i64 a1)] [.box [.val (.str s0_0), .val (.int .i64 s0_1), .val (.bool s0_2)]] [.val (.agg [.int .i64 r1, .int .i64 r2, .str r3, .bool r4, .row (r5.map e26)])] [.box [.val (.str r6), .val (.int .i64 r7), .val (.bool r8)]]) ∧ (∀ (k : Nat) (s0_0 : ByteArray) (s0_1 : Int) (s0_2 : Bool) (a1 : Int) (r1 : Int) (r2 : Int) (r3 : ByteArray) (r4 : Bool) (r5 : List S26) (r6 : ByteArray) (r7 : Int) (r8 : Bool) (h : run spec_l3Pattern.B k (.spec_l3Part_f s0_0 s0_1 s0_2 a1) = some (r1, r2, r3, r4, r5, r6, r7, r8)) (hk : k < n), CE (G m_) 99 [.ptr 0 0, .val (.int .i64 a1)] [.box [.val (.str s0_0), .val (.int .i64 s0_1), .val (.bool s0_2)]] [.val (.agg [.int .i64 r1, .int .i64 r2, .str r3, .bool r4, .row (r5.map e26)])] [.box [.val (.str r6), .val (.int .i64 r7), .val (.bool r8)]]) ∧ (∀ (k : Nat) (s0_0 : ByteArray) (s0_1 : Int) (s0_2 : Bool) (a1 : Int) (r1 : Int) (r2 : Int) (r3 : ByteArray) (r4 : Bool) (r5 : List S26) (r6 : ByteArray) (r7 : Int) (r8 : Bool) (h : run spec_l3Pattern.B k (.spec_l3Piece_f s0_0 s0_1 s0_2 a1) = some (r1, r2, r3, r4, r5, r6, r7, r8)) (hk : k < n), CE (G m_) 121 [.ptr 0 0, .val (.int .i64 a1)] [.box [.val (.str s0_0), .val (.int .i64 s0_1), .val (.bool s0_2)]] [.val (.agg [.int .i64 r1, .int .i64 r2, .str r3, .bool r4, .row (r5.map e26)])] [.box [.val (.str r6), .val (.int .i64 r7), .val (.bool r8)]]) ∧ (∀ (k : Nat) (s0_0 : ByteArray) (s0_1 : Int) (s0_2 : Bool) (a1 : Int) (r1 : Int) (r2 : Int) (r3 : ByteArray) (r4 : Bool) (r5 : List S26) (r6 : ByteArray) (r7 : Int) (r8 : Bool) (h : run spec_l3Pattern.B k (.spec_l3Atom_f s0_0 s0_1 s0_2 a1) = some (r1, r2, r3, r4, r5, r6, r7, r8)) (hk : k < n), CE (G m_) 143 [.ptr 0 0, .val (.int .i64 a1)] [.box [.val (.str s0_0), .val (.int .i64 s0_1), .val (.bool s0_2)]] [.val (.agg [.int .i64 r1, .int .i64 r2, .str r3, .bool r4, .row (r5.map e26)])] [.box [.val (.str r6), .val (.int .i64 r7), .val (.bool r8)]]) := by
  intro n
  induction n with
  | zero => exact ⟨by intros; omega, by intros; omega, by intros; omega, by intros; omega⟩
  | succ n ih =>
    refine ⟨?_, ?_, ?_, ?_⟩
    · intro k s0_0 s0_1 s0_2 a1 r1 r2 r3 r4 r5 r6 r7 r8 h hk
      refine CE.mk ⟨Try.f58, _, rfl, rfl, ⟨by kernel_rfl, Nat.le_of_ble_eq_true rfl, Nat.le_of_ble_eq_true rfl⟩, ?_⟩
      rcases k with _ | k
      · exact (run_zero h).elim
      rw [run_succ, spec_l3Pattern.B] at h
      have h_ := evA h; clear h; obtain ⟨t8, ht, h⟩ := h_
      refine zz ?_
      refine Exists.intro _ (Exists.intro _ (And.intro (ih.2.1 _ (h := ht) (hk := zfuel)) ?_))
      refine zz ?_
      refine Exists.intro (List.map e26 ([(⟨t8.1, t8.2.1, t8.2.2.1, t8.2.2.2.1, t8.2.2.2.2.1⟩ : S26)] : List S26)) (And.intro zrow ?_)
      replace h := evT h
      refine zz ?_
      refine loopJ [0, 16, 531] (fun kq fr hp => ∃ (x1 : Int) (x5 : List S26) (x1000 : ByteArray) (x1001 : Int) (x1002 : Bool) (g531 : Nat), run spec_l3Pattern.B kq (.spec_l3Pattern_l0 x1 x5 x1000 x1001 x1002) = some (r1, r2, r3, r4, r5, r6, r7, r8) ∧ (∃ fr0, fr = puts [(0, .one (.ptr 0 0)), (1, .one (.val (.int .i64 x1))), (4, .one (.ptr 16 0)), (5, .one (.ref 531 g531))] fr0) ∧ hp = (upd 0 (.box [.val (.str x1000), .val (.int .i64 x1001), .val (.bool x1002)]) (upd 16 (.box [.val (.int .i64 0), .val (.int .i64 0), .val (.str (⟨#[]⟩ : ByteArray)), .val (.bool false), .nilrow]) (upd 531 (.own 26 5 (x5.map e26) g531 false) (fun _ => none))))) k ⟨_, zfuel, _, _, _, _, _, 0, h, leafFr [0, 1, 4, 5] (by kernel_rfl), by kernel_rfl⟩ ?_
      clear h; rintro k hle _ _ ⟨x1, x5, x1000, x1001, x1002, g531, h, ⟨fr0, rfl⟩, rfl⟩
      rcases k with _ | k
      · exact (run_zero h).elim
      rw [run_succ, spec_l3Pattern.B] at h
      have h_ := evO h; clear h; obtain ⟨t11, ht, h⟩ := h_
      refine zz ?_
      refine Exists.intro _ (Exists.intro _ (And.intro (spec_l3Now_ev (h := ht)) ?_))
      refine zz ?_
      refine br (iP h) ?_ ?_ <;> (clear h; intro c h)
      rotate_left
      · refine zz ?_
        refine br (iP h) ?_ ?_ <;> (clear h; intro c h)
        rotate_left
        · replace h := evR h; cases h
          refine zz ?_
          first | exact ⟨trivial, [], [], ⟨rfl, trivial⟩, _, rfl, _, rfl, And.intro rfl rfl⟩ | exact ⟨[], [], ⟨rfl, trivial⟩, _, rfl, _, rfl, And.intro rfl rfl⟩
        have h_ := gP h; clear h; obtain ⟨c, h⟩ := h_
        replace h := evR h; cases h
        refine zz ?_
        first | exact ⟨trivial, [], [], ⟨rfl, trivial⟩, _, rfl, _, rfl, And.intro rfl rfl⟩ | exact ⟨[], [], ⟨rfl, trivial⟩, _, rfl, _, rfl, And.intro rfl rfl⟩
      have h_ := evA h; clear h; obtain ⟨t22, ht, h⟩ := h_
      refine zz ?_
      refine Exists.intro _ (Exists.intro _ (And.intro (ih.2.1 _ (h := ht) (hk := zfuel)) ?_))
      refine zz ?_
      refine Exists.intro (List.map e26 ([(⟨t22.1, t22.2.1, t22.2.2.1, t22.2.2.2.1, t22.2.2.2.2.1⟩ : S26)] : List S26)) (And.intro zrow ?_)
      have h_ := gP h; clear h; obtain ⟨c, h⟩ := h_
      refine zz ?_
      refine Exists.intro (List.map e26 (x5 ++ [(⟨t22.1, t22.2.1, t22.2.2.1, t22.2.2.2.1, t22.2.2.2.2.1⟩ : S26)])) (And.intro zrow ?_)
      replace h := evT h
      refine zz ?_
      exact ⟨_, zfuel, _, _, _, _, _, (g531 + 1), h, leafFr [0, 1, 4, 5] (by kernel_rfl), by kernel_rfl⟩
    · intro k s0_0 s0_1 s0_2 a1 r1 r2 r3 r4 r5 r6 r7 r8 h hk
      refine CE.mk ⟨Try.f99, _, rfl, rfl, ⟨by kernel_rfl, Nat.le_of_ble_eq_true rfl, Nat.le_of_ble_eq_true rfl⟩, ?_⟩
      rcases k with _ | k
      · exact (run_zero h).elim
      rw [run_succ, spec_l3Pattern.B] at h
      refine zz ?_
      refine Exists.intro (List.map e26 ([] : List S26)) (And.intro zrow ?_)
      refine zz ?_
      refine cutJ (n := 100000) [0, 16, 528] (fun fr hp => ∃ kq, kq ≤ k ∧ ∃ (x5 : List S26) (x1000 : ByteArray) (x1001 : Int) (x1002 : Bool) (g528 : Nat), run spec_l3Pattern.B kq (.spec_l3Part_j1 x5 x1000 x1001 x1002) = some (r1, r2, r3, r4, r5, r6, r7, r8) ∧ (∃ fr0, fr = puts [(4, .one (.ptr 16 0)), (5, .one (.ref 528 g528))] fr0) ∧ hp = (upd 0 (.box [.val (.str x1000), .val (.int .i64 x1001), .val (.bool x1002)]) (upd 16 (.box [.val (.int .i64 0), .val (.int .i64 0), .val (.str (⟨#[]⟩ : ByteArray)), .val (.bool false), .nilrow]) (upd 528 (.own 26 5 (x5.map e26) g528 false) (fun _ => none))))) ?_ ?_
      · replace h := evT h
        refine zz ?_
        refine loopJ [0, 16, 528] (fun kq fr hp => ∃ (x1 : Int) (x5 : List S26) (x1000 : ByteArray) (x1001 : Int) (x1002 : Bool) (g528 : Nat), run spec_l3Pattern.B kq (.spec_l3Part_l0 x1 x5 x1000 x1001 x1002) = some (r1, r2, r3, r4, r5, r6, r7, r8) ∧ (∃ fr0, fr = puts [(0, .one (.ptr 0 0)), (1, .one (.val (.int .i64 x1))), (4, .one (.ptr 16 0)), (5, .one (.ref 528 g528))] fr0) ∧ hp = (upd 0 (.box [.val (.str x1000), .val (.int .i64 x1001), .val (.bool x1002)]) (upd 16 (.box [.val (.int .i64 0), .val (.int .i64 0), .val (.str (⟨#[]⟩ : ByteArray)), .val (.bool false), .nilrow]) (upd 528 (.own 26 5 (x5.map e26) g528 false) (fun _ => none))))) k ⟨_, zfuel, _, _, _, _, _, 0, h, leafFr [0, 1, 4, 5] (by kernel_rfl), by kernel_rfl⟩ ?_
        clear h; rintro k hle _ _ ⟨x1, x5, x1000, x1001, x1002, g528, h, ⟨fr0, rfl⟩, rfl⟩
        rcases k with _ | k
        · exact (run_zero h).elim
        rw [run_succ, spec_l3Pattern.B] at h
        refine zz ?_
        refine brN (iP h) ?_ ?_ <;> (clear h; intro c h)
        rotate_left
        · refine zz ?_
          try (apply Or.inr; refine And.intro (by first | rfl | exact zboolK) ?_)
          refine zz ?_
          try (apply Or.inr; refine And.intro (by first | rfl | exact zboolK) ?_)
          refine zz ?_
          try (apply Or.inr; refine And.intro (by first | rfl | exact zboolK) ?_)
          refine zz ?_
          try (apply Or.inr; refine And.intro (by first | rfl | exact zboolK) ?_)
          refine zz ?_
          try (apply Or.inr; refine And.intro (by first | rfl | exact zboolK) ?_)
          refine zz ?_
          try (apply Or.inr; refine And.intro (by first | rfl | exact zboolK) ?_)
          refine zz ?_
          try (apply Or.inr; refine And.intro (by first | rfl | exact zboolK) ?_)
          refine zz ?_
          try (apply Or.inr; refine And.intro (by first | rfl | exact zboolK) ?_)
          refine zz ?_
          try (apply Or.inr; refine And.intro (by first | rfl | exact zboolK) ?_)
          refine zz ?_
          try (apply Or.inr; refine And.intro (by first | rfl | exact zboolK) ?_)
          refine zz ?_
          try (apply Or.inr; refine And.intro (by first | rfl | exact zboolK) ?_)
          refine zz ?_
          try (apply Or.inr; refine And.intro (by first | rfl | exact zboolK) ?_)
          refine zz ?_
          try (apply Or.inr; refine And.intro (by first | rfl | exact zboolK) ?_)
          refine zz ?_
          try (apply Or.inr; refine And.intro (by first | rfl | exact zboolK) ?_)
          refine zz ?_
          try (apply Or.inr; refine And.intro (by first | rfl | exact zboolK) ?_)
          refine zz ?_
          try (apply Or.inr; refine And.intro (by first | rfl | exact zboolK) ?_)
          refine zz ?_
          try (apply Or.inr; refine And.intro (by first | rfl | exact zboolK) ?_)
          refine zz ?_
          try (apply Or.inr; refine And.intro (by first | rfl | exact zboolK) ?_)
          refine zz ?_
          try (apply Or.inr; refine And.intro (by first | rfl | exact zboolK) ?_)
          refine zz ?_
          try (apply Or.inr; refine And.intro (by first | rfl | exact zboolK) ?_)
          refine zz ?_
          try (apply Or.inr; refine And.intro (by first | rfl | exact zboolK) ?_)
          refine zz ?_
          try (apply Or.inr; refine And.intro (by first | rfl | exact zboolK) ?_)
          refine zz ?_
          try (apply Or.inr; refine And.intro (by first | rfl | exact zboolK) ?_)
          refine zz ?_
          try (apply Or.inr; refine And.intro (by first | rfl | exact zboolK) ?_)
          refine zz ?_
          try (apply Or.inr; refine And.intro (by first | rfl | exact zboolK) ?_)
          refine zz ?_
          try (apply Or.inr; refine And.intro (by first | rfl | exact zboolK) ?_)
          refine zz ?_
          try (apply Or.inr; refine And.intro (by first | rfl | exact zboolK) ?_)
          refine zz ?_
          try (apply Or.inr; refine And.intro (by first | rfl | exact zboolK) ?_)
          refine zz ?_
          try (apply Or.inr; refine And.intro (by first | rfl | exact zboolK) ?_)
          refine zz ?_
          try (apply Or.inr; refine And.intro (by first | rfl | exact zboolK) ?_)
          refine zz ?_
          try (apply Or.inr; refine And.intro (by first | rfl | exact zboolK) ?_)
          refine zz ?_
          try (apply Or.inr; refine And.intro (by first | rfl | exact zboolK) ?_)
          refine zz ?_
          try (apply Or.inr; refine And.intro (by first | rfl | exact zboolK) ?_)
          replace h := evT h
          refine zz ?_
          exact ⟨_, zfuel, _, _, _, _, g528, h, leafFr [4, 5] (by kernel_rfl), by kernel_rfl⟩
        refine zz ?_
        try (apply Or.inl; refine And.intro (by first | rfl | exact zboolK) ?_)
        refine zz ?_
        try (apply Or.inl; refine And.intro (by first | rfl | exact zboolK) ?_)
        refine zz ?_
        try (apply Or.inl; refine And.intro (by first | rfl | exact zboolK) ?_)
        refine zz ?_
        try (apply Or.inl; refine And.intro (by first | rfl | exact zboolK) ?_)
        refine zz ?_
        try (apply Or.inl; refine And.intro (by first | rfl | exact zboolK) ?_)
        refine zz ?_
        try (apply Or.inl; refine And.intro (by first | rfl | exact zboolK) ?_)
        refine zz ?_
        try (apply Or.inl; refine And.intro (by first | rfl | exact zboolK) ?_)
        refine zz ?_
        try (apply Or.inl; refine And.intro (by first | rfl | exact zboolK) ?_)
        refine zz ?_
        try (apply Or.inl; refine And.intro (by first | rfl | exact zboolK) ?_)
        refine zz ?_
        try (apply Or.inl; refine And.intro (by first | rfl | exact zboolK) ?_)
        refine zz ?_
        refine br (iP h) ?_ ?_ <;> (clear h; intro c h)
        rotate_left
        · refine zz ?_
          try (apply Or.inr; refine And.intro (by first | rfl | exact zboolK) ?_)
          refine zz ?_
          try (apply Or.inr; refine And.intro (by first | rfl | exact zboolK) ?_)
          refine zz ?_
          try (apply Or.inr; refine And.intro (by first | rfl | exact zboolK) ?_)
          refine zz ?_
          try (apply Or.inr; refine And.intro (by first | rfl | exact zboolK) ?_)
          refine zz ?_
          try (apply Or.inr; refine And.intro (by first | rfl | exact zboolK) ?_)
          refine zz ?_
          try (apply Or.inr; refine And.intro (by first | rfl | exact zboolK) ?_)
          refine zz ?_
          try (apply Or.inr; refine And.intro (by first | rfl | exact zboolK) ?_)
          refine zz ?_
          try (apply Or.inr; refine And.intro (by first | rfl | exact zboolK) ?_)
          refine zz ?_
          try (apply Or.inr; refine And.intro (by first | rfl | exact zboolK) ?_)
          refine zz ?_
          try (apply Or.inr; refine And.intro (by first | rfl | exact zboolK) ?_)
          refine zz ?_
          try (apply Or.inr; refine And.intro (by first | rfl | exact zboolK) ?_)
          refine zz ?_
          try (apply Or.inr; refine And.intro (by first | rfl | exact zboolK) ?_)
          refine zz ?_
          try (apply Or.inr; refine And.intro (by first | rfl | exact zboolK) ?_)
          refine zz ?_
          try (apply Or.inr; refine And.intro (by first | rfl | exact zboolK) ?_)
          refine zz ?_
          try (apply Or.inr; refine And.intro (by first | rfl | exact zboolK) ?_)
          refine zz ?_
          try (apply Or.inr; refine And.intro (by first | rfl | exact zboolK) ?_)
          refine zz ?_
          try (apply Or.inr; refine And.intro (by first | rfl | exact zboolK) ?_)
          refine zz ?_
          try (apply Or.inr; refine And.intro (by first | rfl | exact zboolK) ?_)
          refine zz ?_
          try (apply Or.inr; refine And.intro (by first | rfl | exact zboolK) ?_)
          refine zz ?_
          try (apply Or.inr; refine And.intro (by first | rfl | exact zboolK) ?_)
          refine zz ?_
          try (apply Or.inr; refine And.intro (by first | rfl | exact zboolK) ?_)
          refine zz ?_
          try (apply Or.inr; refine And.intro (by first | rfl | exact zboolK) ?_)
          replace h := evT h
          refine zz ?_
          exact ⟨_, zfuel, _, _, _, _, g528, h, leafFr [4, 5] (by kernel_rfl), by kernel_rfl⟩
        refine zz ?_
        try (apply Or.inl; refine And.intro (by first | rfl | exact zboolK) ?_)
        refine zz ?_
        try (apply Or.inl; refine And.intro (by first | rfl | exact zboolK) ?_)
        refine zz ?_
        try (apply Or.inl; refine And.intro (by first | rfl | exact zboolK) ?_)
        refine zz ?_
        try (apply Or.inl; refine And.intro (by first | rfl | exact zboolK) ?_)
        refine zz ?_
        try (apply Or.inl; refine And.intro (by first | rfl | exact zboolK) ?_)
        refine zz ?_
        try (apply Or.inl; refine And.intro (by first | rfl | exact zboolK) ?_)
        refine zz ?_
        try (apply Or.inl; refine And.intro (by first | rfl | exact zboolK) ?_)
        refine zz ?_
        try (apply Or.inl; refine And.intro (by first | rfl | exact zboolK) ?_)
        have h_ := gP h; clear h; obtain ⟨c, h⟩ := h_
        refine zz ?_
        try (apply Or.inl; refine And.intro (by first | rfl | exact zboolK) ?_)
        refine zz ?_
        try (apply Or.inl; refine And.intro (by first | rfl | exact zboolK) ?_)
        refine zz ?_
        refine brN (iP h) ?_ ?_ <;> (clear h; intro c h)
        rotate_left
        · refine zz ?_
          try (apply Or.inr; refine And.intro (by first | rfl | exact zboolK) ?_)
          refine zz ?_
          try (apply Or.inr; refine And.intro (by first | rfl | exact zboolK) ?_)
          refine zz ?_
          try (apply Or.inr; refine And.intro (by first | rfl | exact zboolK) ?_)
          refine zz ?_
          try (apply Or.inr; refine And.intro (by first | rfl | exact zboolK) ?_)
          refine zz ?_
          try (apply Or.inr; refine And.intro (by first | rfl | exact zboolK) ?_)
          refine zz ?_
          try (apply Or.inr; refine And.intro (by first | rfl | exact zboolK) ?_)
          refine zz ?_
          try (apply Or.inr; refine And.intro (by first | rfl | exact zboolK) ?_)
          refine zz ?_
          try (apply Or.inr; refine And.intro (by first | rfl | exact zboolK) ?_)
          refine zz ?_
          try (apply Or.inr; refine And.intro (by first | rfl | exact zboolK) ?_)
          refine zz ?_
          try (apply Or.inr; refine And.intro (by first | rfl | exact zboolK) ?_)
          refine zz ?_
          try (apply Or.inr; refine And.intro (by first | rfl | exact zboolK) ?_)
          replace h := evT h
          refine zz ?_
          exact ⟨_, zfuel, _, _, _, _, g528, h, leafFr [4, 5] (by kernel_rfl), by kernel_rfl⟩
        refine zz ?_
        try (apply Or.inl; refine And.intro (by first | rfl | exact zboolK) ?_)
        refine zz ?_
        try (apply Or.inl; refine And.intro (by first | rfl | exact zboolK) ?_)
        refine zz ?_
        try (apply Or.inl; refine And.intro (by first | rfl | exact zboolK) ?_)
        refine zz ?_
        try (apply Or.inl; refine And.intro (by first | rfl | exact zboolK) ?_)
        refine zz ?_
        try (apply Or.inl; refine And.intro (by first | rfl | exact zboolK) ?_)
        refine zz ?_
        try (apply Or.inl; refine And.intro (by first | rfl | exact zboolK) ?_)
        refine zz ?_
        try (apply Or.inl; refine And.intro (by first | rfl | exact zboolK) ?_)
        refine zz ?_
        try (apply Or.inl; refine And.intro (by first | rfl | exact zboolK) ?_)
        refine zz ?_
        try (apply Or.inl; refine And.intro (by first | rfl | exact zboolK) ?_)
        refine zz ?_
        try (apply Or.inl; refine And.intro (by first | rfl | exact zboolK) ?_)
        refine zz ?_
        refine brN (iP h) ?_ ?_ <;> (clear h; intro c h)
        rotate_left
        · replace h := evT h
          refine zz ?_
          exact ⟨_, zfuel, _, _, _, _, g528, h, leafFr [4, 5] (by kernel_rfl), by kernel_rfl⟩
        have h_ := evA h; clear h; obtain ⟨t51, ht, h⟩ := h_
        refine zz ?_
        refine Exists.intro _ (Exists.intro _ (And.intro (ih.2.2.1 _ (h := ht) (hk := zfuel)) ?_))
        refine zz ?_
        refine Exists.intro (List.map e26 ([(⟨t51.1, t51.2.1, t51.2.2.1, t51.2.2.2.1, t51.2.2.2.2.1⟩ : S26)] : List S26)) (And.intro zrow ?_)
        have h_ := gP h; clear h; obtain ⟨c, h⟩ := h_
        refine zz ?_
        refine Exists.intro (List.map e26 (x5 ++ [(⟨t51.1, t51.2.1, t51.2.2.1, t51.2.2.2.1, t51.2.2.2.2.1⟩ : S26)])) (And.intro zrow ?_)
        replace h := evT h
        refine zz ?_
        exact ⟨_, zfuel, _, _, _, _, _, (g528 + 1), h, leafFr [0, 1, 4, 5] (by kernel_rfl), by kernel_rfl⟩
      clear h; rintro _ _ ⟨k, hle, x5, x1000, x1001, x1002, g528, h, ⟨fr0, rfl⟩, rfl⟩
      rcases k with _ | k
      · exact (run_zero h).elim
      rw [run_succ, spec_l3Pattern.B] at h
      refine zz ?_
      refine br (iP h) ?_ ?_ <;> (clear h; intro c h)
      · replace h := evR h; cases h
        refine zz ?_
        first | exact ⟨trivial, [], [], ⟨rfl, trivial⟩, _, rfl, _, rfl, And.intro rfl rfl⟩ | exact ⟨[], [], ⟨rfl, trivial⟩, _, rfl, _, rfl, And.intro rfl rfl⟩
      refine zz ?_
      refine br (iP h) ?_ ?_ <;> (clear h; intro c h)
      rotate_left
      · replace h := evR h; cases h
        refine zz ?_
        first | exact ⟨trivial, [], [], ⟨rfl, trivial⟩, _, rfl, _, rfl, And.intro rfl rfl⟩ | exact ⟨[], [], ⟨rfl, trivial⟩, _, rfl, _, rfl, And.intro rfl rfl⟩
      have h_ := gP h; clear h; obtain ⟨c, h⟩ := h_
      replace h := evR h; cases h
      refine zz ?_
      first | exact ⟨trivial, [], [], ⟨rfl, trivial⟩, _, rfl, _, rfl, And.intro rfl rfl⟩ | exact ⟨[], [], ⟨rfl, trivial⟩, _, rfl, _, rfl, And.intro rfl rfl⟩
    · intro k s0_0 s0_1 s0_2 a1 r1 r2 r3 r4 r5 r6 r7 r8 h hk
      refine CE.mk ⟨Try.f121, _, rfl, rfl, ⟨by kernel_rfl, Nat.le_of_ble_eq_true rfl, Nat.le_of_ble_eq_true rfl⟩, ?_⟩
      rcases k with _ | k
      · exact (run_zero h).elim
      rw [run_succ, spec_l3Pattern.B] at h
      have h_ := evA h; clear h; obtain ⟨t10, ht, h⟩ := h_
      refine zz ?_
      refine Exists.intro _ (Exists.intro _ (And.intro (ih.2.2.2 _ (h := ht) (hk := zfuel)) ?_))
      replace h := evT h
      refine zz ?_
      refine loopJ [0, 16, 531] (fun kq fr hp => ∃ (x1000 : ByteArray) (x1001 : Int) (x1002 : Bool) (x531_0 : Int) (x531_1 : Int) (x531_2 : ByteArray) (x531_3 : Bool) (x531_4 : List S26), run spec_l3Pattern.B kq (.spec_l3Piece_l0 x1000 x1001 x1002 x531_0 x531_1 x531_2 x531_3 x531_4) = some (r1, r2, r3, r4, r5, r6, r7, r8) ∧ (∃ fr0, fr = puts [(0, .one (.ptr 0 0)), (4, .one (.ptr 16 0)), (5, .one (.ptr 531 0))] fr0) ∧ hp = (upd 0 (.box [.val (.str x1000), .val (.int .i64 x1001), .val (.bool x1002)]) (upd 16 (.box [.val (.int .i64 0), .val (.int .i64 0), .val (.str (⟨#[]⟩ : ByteArray)), .val (.bool false), .nilrow]) (upd 531 (.box [.val (.int .i64 x531_0), .val (.int .i64 x531_1), .val (.str x531_2), .val (.bool x531_3), .val (.row (x531_4.map e26))]) (fun _ => none))))) k ⟨_, zfuel, _, _, _, _, _, _, _, _, h, leafFr [0, 4, 5] (by kernel_rfl), by kernel_rfl⟩ ?_
      clear h; rintro k hle _ _ ⟨x1000, x1001, x1002, x531_0, x531_1, x531_2, x531_3, x531_4, h, ⟨fr0, rfl⟩, rfl⟩
      rcases k with _ | k
      · exact (run_zero h).elim
      rw [run_succ, spec_l3Pattern.B] at h
      refine zz ?_
      refine brN (iP h) ?_ ?_ <;> (clear h; intro c h)
      rotate_left
      · replace h := evR h; cases h
        refine zz ?_
        first | exact ⟨trivial, [], [], ⟨rfl, trivial⟩, _, rfl, _, rfl, And.intro rfl rfl⟩ | exact ⟨[], [], ⟨rfl, trivial⟩, _, rfl, _, rfl, And.intro rfl rfl⟩
      have h_ := evO h; clear h; obtain ⟨t18, ht, h⟩ := h_
      refine zz ?_
      refine Exists.intro _ (Exists.intro _ (And.intro (spec_l3Now_ev (h := ht)) ?_))
      refine zz ?_
      refine br (iP h) ?_ ?_ <;> (clear h; intro c h)
      · refine zz ?_
        refine br (iP h) ?_ ?_ <;> (clear h; intro c h)
        · exact absurd c (by decide)
        refine zz ?_
        refine Exists.intro (List.map e26 ([(⟨x531_0, x531_1, x531_2, x531_3, x531_4⟩ : S26)] : List S26)) (And.intro zrow ?_)
        replace h := evT h
        refine zz ?_
        exact ⟨_, zfuel, _, _, _, _, _, _, _, _, h, leafFr [0, 4, 5] (by kernel_rfl), by kernel_rfl⟩
      have h_ := evO h; clear h; obtain ⟨t21, ht, h⟩ := h_
      refine zz ?_
      refine Exists.intro _ (Exists.intro _ (And.intro (spec_l3Now_ev (h := ht)) ?_))
      refine zz ?_
      refine br (iP h) ?_ ?_ <;> (clear h; intro c h)
      · refine zz ?_
        refine br (iP h) ?_ ?_ <;> (clear h; intro c h)
        · exact absurd c (by decide)
        refine zz ?_
        refine Exists.intro (List.map e26 ([(⟨x531_0, x531_1, x531_2, x531_3, x531_4⟩ : S26)] : List S26)) (And.intro zrow ?_)
        replace h := evT h
        refine zz ?_
        exact ⟨_, zfuel, _, _, _, _, _, _, _, _, h, leafFr [0, 4, 5] (by kernel_rfl), by kernel_rfl⟩
      have h_ := evO h; clear h; obtain ⟨t24, ht, h⟩ := h_
      refine zz ?_
      refine Exists.intro _ (Exists.intro _ (And.intro (spec_l3Now_ev (h := ht)) ?_))
      refine zz ?_
      refine br (iP h) ?_ ?_ <;> (clear h; intro c h)
      rotate_left
      · refine zz ?_
        refine br (iP h) ?_ ?_ <;> (clear h; intro c h)
        · replace h := evR h; cases h
          refine zz ?_
          first | exact ⟨trivial, [], [], ⟨rfl, trivial⟩, _, rfl, _, rfl, And.intro rfl rfl⟩ | exact ⟨[], [], ⟨rfl, trivial⟩, _, rfl, _, rfl, And.intro rfl rfl⟩
        exact absurd c (by decide)
      refine zz ?_
      refine br (iP h) ?_ ?_ <;> (clear h; intro c h)
      · exact absurd c (by decide)
      refine zz ?_
      refine Exists.intro (List.map e26 ([(⟨x531_0, x531_1, x531_2, x531_3, x531_4⟩ : S26)] : List S26)) (And.intro zrow ?_)
      replace h := evT h
      refine zz ?_
      exact ⟨_, zfuel, _, _, _, _, _, _, _, _, h, leafFr [0, 4, 5] (by kernel_rfl), by kernel_rfl⟩
    · intro k s0_0 s0_1 s0_2 a1 r1 r2 r3 r4 r5 r6 r7 r8 h hk
      refine CE.mk ⟨Try.f143, _, rfl, rfl, ⟨by kernel_rfl, Nat.le_of_ble_eq_true rfl, Nat.le_of_ble_eq_true rfl⟩, ?_⟩
      rcases k with _ | k
      · exact (run_zero h).elim
      rw [run_succ, spec_l3Pattern.B] at h
      refine zz ?_
      refine cutJ (n := 200001) [0, 16] (fun fr hp => ∃ kq, kq ≤ k ∧ ∃ (x1 : Int) (x26 : Bool) (x1000 : ByteArray) (x1001 : Int) (x1002 : Bool), run spec_l3Pattern.B kq (.spec_l3Atom_j0 x1 x26 x1000 x1001 x1002) = some (r1, r2, r3, r4, r5, r6, r7, r8) ∧ (∃ fr0, fr = puts [(0, .one (.ptr 0 0)), (1, .one (.val (.int .i64 x1))), (4, .one (.ptr 16 0)), (26, .one (.val (.bool x26)))] fr0) ∧ hp = (upd 0 (.box [.val (.str x1000), .val (.int .i64 x1001), .val (.bool x1002)]) (upd 16 (.box [.val (.int .i64 0), .val (.int .i64 0), .val (.str (⟨#[]⟩ : ByteArray)), .val (.bool false), .nilrow]) (fun _ => none)))) ?_ ?_
      · refine zz ?_
        refine brW (iP h) ?_ ?_ <;> (clear h; intro c h)
        rotate_left
        · refine zz ?_
          try (apply Or.inr; refine And.intro (by first | rfl | exact zboolK) ?_)
          refine zz ?_
          try (apply Or.inr; refine And.intro (by first | rfl | exact zboolK) ?_)
          refine zz ?_
          try (apply Or.inr; refine And.intro (by first | rfl | exact zboolK) ?_)
          refine zz ?_
          try (apply Or.inr; refine And.intro (by first | rfl | exact zboolK) ?_)
          refine zz ?_
          try (apply Or.inr; refine And.intro (by first | rfl | exact zboolK) ?_)
          refine zz ?_
          try (apply Or.inr; refine And.intro (by first | rfl | exact zboolK) ?_)
          refine zz ?_
          try (apply Or.inr; refine And.intro (by first | rfl | exact zboolK) ?_)
          refine zz ?_
          try (apply Or.inr; refine And.intro (by first | rfl | exact zboolK) ?_)
          refine zz ?_
          try (apply Or.inr; refine And.intro (by first | rfl | exact zboolK) ?_)
          refine zz ?_
          try (apply Or.inl; refine And.intro (by first | rfl | exact zboolK) ?_)
          refine zz ?_
          try (apply Or.inr; refine And.intro (by first | rfl | exact zboolK) ?_)
          refine zz ?_
          try (apply Or.inr; refine And.intro (by first | rfl | exact zboolK) ?_)
          refine zz ?_
          try (apply Or.inl; refine And.intro (by first | rfl | exact zboolK) ?_)
          replace h := evT h
          refine zz ?_
          exact ⟨_, zfuel, _, _, _, _, _, h, leafFr [0, 1, 4, 26] (by kernel_rfl), by kernel_rfl⟩
        refine zz ?_
        try (apply Or.inl; refine And.intro (by first | rfl | exact zboolK) ?_)
        refine zz ?_
        try (apply Or.inl; refine And.intro (by first | rfl | exact zboolK) ?_)
        refine zz ?_
        try (apply Or.inl; refine And.intro (by first | rfl | exact zboolK) ?_)
        refine zz ?_
        try (apply Or.inl; refine And.intro (by first | rfl | exact zboolK) ?_)
        refine zz ?_
        try (apply Or.inl; refine And.intro (by first | rfl | exact zboolK) ?_)
        refine zz ?_
        try (apply Or.inl; refine And.intro (by first | rfl | exact zboolK) ?_)
        refine zz ?_
        try (apply Or.inl; refine And.intro (by first | rfl | exact zboolK) ?_)
        refine zz ?_
        try (apply Or.inl; refine And.intro (by first | rfl | exact zboolK) ?_)
        refine zz ?_
        try (apply Or.inl; refine And.intro (by first | rfl | exact zboolK) ?_)
        refine zz ?_
        try (apply Or.inr; refine And.intro (by first | rfl | exact zboolK) ?_)
        refine zz ?_
        refine brW (iP h) ?_ ?_ <;> (clear h; intro c h)
        · refine zz ?_
          try (apply Or.inl; refine And.intro (by first | rfl | exact zboolK) ?_)
          refine zz ?_
          try (apply Or.inr; refine And.intro (by first | rfl | exact zboolK) ?_)
          replace h := evT h
          refine zz ?_
          exact ⟨_, zfuel, _, _, _, _, _, h, leafFr [0, 1, 4, 26] (by kernel_rfl), by kernel_rfl⟩
        refine zz ?_
        try (apply Or.inr; refine And.intro (by first | rfl | exact zboolK) ?_)
        refine zz ?_
        try (apply Or.inl; refine And.intro (by first | rfl | exact zboolK) ?_)
        replace h := evT h
        refine zz ?_
        exact ⟨_, zfuel, _, _, _, _, _, h, leafFr [0, 1, 4, 26] (by kernel_rfl), by kernel_rfl⟩
      clear h; rintro _ _ ⟨k, hle, x1, x26, x1000, x1001, x1002, h, ⟨fr0, rfl⟩, rfl⟩
      rcases k with _ | k
      · exact (run_zero h).elim
      rw [run_succ, spec_l3Pattern.B] at h
      refine zz ?_
      refine br (iP h) ?_ ?_ <;> (clear h; intro c h)
      · replace h := evR h; cases h
        refine zz ?_
        first | exact ⟨trivial, [], [], ⟨rfl, trivial⟩, _, rfl, _, rfl, And.intro rfl rfl⟩ | exact ⟨[], [], ⟨rfl, trivial⟩, _, rfl, _, rfl, And.intro rfl rfl⟩
      have h_ := gP h; clear h; obtain ⟨c, h⟩ := h_
      have h_ := gP h; clear h; obtain ⟨c, h⟩ := h_
      refine zz ?_
      refine br (iP h) ?_ ?_ <;> (clear h; intro c h)
      · have h_ := evA h; clear h; obtain ⟨t53, ht, h⟩ := h_
        refine zz ?_
        refine Exists.intro _ (Exists.intro _ (And.intro (ih.1 _ (h := ht) (hk := zfuel)) ?_))
        have h_ := evO h; clear h; obtain ⟨t55, ht, h⟩ := h_
        refine zz ?_
        refine Exists.intro _ (Exists.intro _ (And.intro (spec_l3Now_ev (h := ht)) ?_))
        refine zz ?_
        refine brN (iP h) ?_ ?_ <;> (clear h; intro c h)
        · replace h := evR h; cases h
          refine zz ?_
          first | exact ⟨trivial, [], [], ⟨rfl, trivial⟩, _, rfl, _, rfl, And.intro rfl rfl⟩ | exact ⟨[], [], ⟨rfl, trivial⟩, _, rfl, _, rfl, And.intro rfl rfl⟩
        replace h := evR h; cases h
        refine zz ?_
        first | exact ⟨trivial, [], [], ⟨rfl, trivial⟩, _, rfl, _, rfl, And.intro rfl rfl⟩ | exact ⟨[], [], ⟨rfl, trivial⟩, _, rfl, _, rfl, And.intro rfl rfl⟩
      refine zz ?_
      refine br (iP h) ?_ ?_ <;> (clear h; intro c h)
      · replace h := evR h; cases h
        refine zz ?_
        first | exact ⟨trivial, [], [], ⟨rfl, trivial⟩, _, rfl, _, rfl, And.intro rfl rfl⟩ | exact ⟨[], [], ⟨rfl, trivial⟩, _, rfl, _, rfl, And.intro rfl rfl⟩
      refine zz ?_
      refine br (iP h) ?_ ?_ <;> (clear h; intro c h)
      · replace h := evR h; cases h
        refine zz ?_
        first | exact ⟨trivial, [], [], ⟨rfl, trivial⟩, _, rfl, _, rfl, And.intro rfl rfl⟩ | exact ⟨[], [], ⟨rfl, trivial⟩, _, rfl, _, rfl, And.intro rfl rfl⟩
      refine zz ?_
      refine br (iP h) ?_ ?_ <;> (clear h; intro c h)
      · replace h := evR h; cases h
        refine zz ?_
        first | exact ⟨trivial, [], [], ⟨rfl, trivial⟩, _, rfl, _, rfl, And.intro rfl rfl⟩ | exact ⟨[], [], ⟨rfl, trivial⟩, _, rfl, _, rfl, And.intro rfl rfl⟩
      refine zz ?_
      refine br (iP h) ?_ ?_ <;> (clear h; intro c h)
      · have h_ := evO h; clear h; obtain ⟨t80, ht, h⟩ := h_
        refine zz ?_
        refine Exists.intro _ (Exists.intro _ (And.intro (spec_l3Set_ev (h := ht)) ?_))
        replace h := evR h; cases h
        refine zz ?_
        first | exact ⟨trivial, [], [], ⟨rfl, trivial⟩, _, rfl, _, rfl, And.intro rfl rfl⟩ | exact ⟨[], [], ⟨rfl, trivial⟩, _, rfl, _, rfl, And.intro rfl rfl⟩
      refine zz ?_
      refine br (iP h) ?_ ?_ <;> (clear h; intro c h)
      · refine zz ?_
        refine br (iP h) ?_ ?_ <;> (clear h; intro c h)
        · replace h := evR h; cases h
          refine zz ?_
          first | exact ⟨trivial, [], [], ⟨rfl, trivial⟩, _, rfl, _, rfl, And.intro rfl rfl⟩ | exact ⟨[], [], ⟨rfl, trivial⟩, _, rfl, _, rfl, And.intro rfl rfl⟩
        have h_ := gP h; clear h; obtain ⟨c, h⟩ := h_
        have h_ := gP h; clear h; obtain ⟨c, h⟩ := h_
        replace h := evR h; cases h
        refine zz ?_
        first | exact ⟨trivial, [], [], ⟨rfl, trivial⟩, _, rfl, _, rfl, And.intro rfl rfl⟩ | exact ⟨[], [], ⟨rfl, trivial⟩, _, rfl, _, rfl, And.intro rfl rfl⟩
      refine zz ?_
      refine br (iP h) ?_ ?_ <;> (clear h; intro c h)
      · refine zz ?_
        try (apply Or.inl; refine And.intro (by first | rfl | exact zboolK) ?_)
        replace h := evR h; cases h
        refine zz ?_
        first | exact ⟨trivial, [], [], ⟨rfl, trivial⟩, _, rfl, _, rfl, And.intro rfl rfl⟩ | exact ⟨[], [], ⟨rfl, trivial⟩, _, rfl, _, rfl, And.intro rfl rfl⟩
      refine zz ?_
      refine br (iP h) ?_ ?_ <;> (clear h; intro c h)
      · refine zz ?_
        try (apply Or.inl; refine And.intro (by first | rfl | exact zboolK) ?_)
        replace h := evR h; cases h
        refine zz ?_
        first | exact ⟨trivial, [], [], ⟨rfl, trivial⟩, _, rfl, _, rfl, And.intro rfl rfl⟩ | exact ⟨[], [], ⟨rfl, trivial⟩, _, rfl, _, rfl, And.intro rfl rfl⟩
      refine zz ?_
      refine br (iP h) ?_ ?_ <;> (clear h; intro c h)
      · replace h := evR h; cases h
        refine zz ?_
        first | exact ⟨trivial, [], [], ⟨rfl, trivial⟩, _, rfl, _, rfl, And.intro rfl rfl⟩ | exact ⟨[], [], ⟨rfl, trivial⟩, _, rfl, _, rfl, And.intro rfl rfl⟩
      replace h := evR h; cases h
      refine zz ?_
      first | exact ⟨trivial, [], [], ⟨rfl, trivial⟩, _, rfl, _, rfl, And.intro rfl rfl⟩ | exact ⟨[], [], ⟨rfl, trivial⟩, _, rfl, _, rfl, And.intro rfl rfl⟩
theorem spec_l3Pattern_ev (s0_0 : ByteArray) (s0_1 : Int) (s0_2 : Bool) (a1 : Int) (r1 : Int) (r2 : Int) (r3 : ByteArray) (r4 : Bool) (r5 : List S26) (r6 : ByteArray) (r7 : Int) (r8 : Bool) (h : spec_l3Pattern.fv s0_0 s0_1 s0_2 a1 = some (r1, r2, r3, r4, r5, r6, r7, r8)) : CE (G m_) 58 [.ptr 0 0, .val (.int .i64 a1)] [.box [.val (.str s0_0), .val (.int .i64 s0_1), .val (.bool s0_2)]] [.val (.agg [.int .i64 r1, .int .i64 r2, .str r3, .bool r4, .row (r5.map e26)])] [.box [.val (.str r6), .val (.int .i64 r7), .val (.bool r8)]] := by
  obtain ⟨k, h⟩ := lim_ex h
  exact (spec_l3Pattern_all (k + 1)).1 k _ _ _ _ _ _ _ _ _ _ _ _ h (Nat.lt_succ_self k)
theorem spec_l3Part_ev (s0_0 : ByteArray) (s0_1 : Int) (s0_2 : Bool) (a1 : Int) (r1 : Int) (r2 : Int) (r3 : ByteArray) (r4 : Bool) (r5 : List S26) (r6 : ByteArray) (r7 : Int) (r8 : Bool) (h : spec_l3Part.fv s0_0 s0_1 s0_2 a1 = some (r1, r2, r3, r4, r5, r6, r7, r8)) : CE (G m_) 99 [.ptr 0 0, .val (.int .i64 a1)] [.box [.val (.str s0_0), .val (.int .i64 s0_1), .val (.bool s0_2)]] [.val (.agg [.int .i64 r1, .int .i64 r2, .str r3, .bool r4, .row (r5.map e26)])] [.box [.val (.str r6), .val (.int .i64 r7), .val (.bool r8)]] := by
  obtain ⟨k, h⟩ := lim_ex h
  exact (spec_l3Pattern_all (k + 1)).2.1 k _ _ _ _ _ _ _ _ _ _ _ _ h (Nat.lt_succ_self k)
theorem spec_l3Piece_ev (s0_0 : ByteArray) (s0_1 : Int) (s0_2 : Bool) (a1 : Int) (r1 : Int) (r2 : Int) (r3 : ByteArray) (r4 : Bool) (r5 : List S26) (r6 : ByteArray) (r7 : Int) (r8 : Bool) (h : spec_l3Piece.fv s0_0 s0_1 s0_2 a1 = some (r1, r2, r3, r4, r5, r6, r7, r8)) : CE (G m_) 121 [.ptr 0 0, .val (.int .i64 a1)] [.box [.val (.str s0_0), .val (.int .i64 s0_1), .val (.bool s0_2)]] [.val (.agg [.int .i64 r1, .int .i64 r2, .str r3, .bool r4, .row (r5.map e26)])] [.box [.val (.str r6), .val (.int .i64 r7), .val (.bool r8)]] := by
  obtain ⟨k, h⟩ := lim_ex h
  exact (spec_l3Pattern_all (k + 1)).2.2.1 k _ _ _ _ _ _ _ _ _ _ _ _ h (Nat.lt_succ_self k)
theorem spec_l3Atom_ev (s0_0 : ByteArray) (s0_1 : Int) (s0_2 : Bool) (a1 : Int) (r1 : Int) (r2 : Int) (r3 : ByteArray) (r4 : Bool) (r5 : List S26) (r6 : ByteArray) (r7 : Int) (r8 : Bool) (h : spec_l3Atom.fv s0_0 s0_1 s0_2 a1 = some (r1, r2, r3, r4, r5, r6, r7, r8)) : CE (G m_) 143 [.ptr 0 0, .val (.int .i64 a1)] [.box [.val (.str s0_0), .val (.int .i64 s0_1), .val (.bool s0_2)]] [.val (.agg [.int .i64 r1, .int .i64 r2, .str r3, .bool r4, .row (r5.map e26)])] [.box [.val (.str r6), .val (.int .i64 r7), .val (.bool r8)]] := by
  obtain ⟨k, h⟩ := lim_ex h
  exact (spec_l3Pattern_all (k + 1)).2.2.2 k _ _ _ _ _ _ _ _ _ _ _ _ h (Nat.lt_succ_self k)
theorem spec_l1Max_ev (a0 : Int) (a1 : Int) (r : Int) (h : spec_l1Max.f a0 a1 = some r) : CE (G m_) 101 [.val (.int .i64 a0), .val (.int .i64 a1)] [] [.val (.int .i64 r)] [] := by
  refine CE.mk ⟨Try.f101, _, rfl, rfl, ⟨by kernel_rfl, Nat.le_of_ble_eq_true rfl, Nat.le_of_ble_eq_true rfl⟩, ?_⟩
  rw [spec_l1Max.f] at h
  refine zz ?_
  refine br (iteS h) ?_ ?_ <;> (clear h; intro c h)
  · cases h
    refine zz ?_
    first | exact ⟨trivial, [], [], ⟨rfl, trivial⟩, _, rfl, _, rfl, And.intro rfl rfl⟩ | exact ⟨[], [], ⟨rfl, trivial⟩, _, rfl, _, rfl, And.intro rfl rfl⟩
  cases h
  refine zz ?_
  first | exact ⟨trivial, [], [], ⟨rfl, trivial⟩, _, rfl, _, rfl, And.intro rfl rfl⟩ | exact ⟨[], [], ⟨rfl, trivial⟩, _, rfl, _, rfl, And.intro rfl rfl⟩
theorem spec_l3Deep_all : ∀ n, (∀ (k : Nat) (a0_0 : Int) (a0_1 : Int) (a0_2 : ByteArray) (a0_3 : Bool) (l0_4 : List S26) (r : Int) (h : run spec_l3Deep.B k (.f a0_0 a0_1 a0_2 a0_3 l0_4) = some r) (hk : k < n), CE (G m_) 59 [.val (.agg [.int .i64 a0_0, .int .i64 a0_1, .str a0_2, .bool a0_3, .row (l0_4.map e26)])] [] [.val (.int .i64 r)] []) := by
  intro n
  induction n with
  | zero => exact (by intros; omega)
  | succ n ih =>
    · intro k a0_0 a0_1 a0_2 a0_3 l0_4 r h hk
      refine CE.mk ⟨Try.f59, _, rfl, rfl, ⟨by kernel_rfl, Nat.le_of_ble_eq_true rfl, Nat.le_of_ble_eq_true rfl⟩, ?_⟩
      rcases k with _ | k
      · exact (run_zero h).elim
      rw [run_succ, spec_l3Deep.B] at h
      replace h := evT h
      refine zz ?_
      refine loopJ [16] (fun kq fr hp => ∃ (x3 : Int) (x4 : Int) (x16_0 : Int) (x16_1 : Int) (x16_2 : ByteArray) (x16_3 : Bool) (x16_4 : List S26), run spec_l3Deep.B kq (.l0 x3 x4 x16_0 x16_1 x16_2 x16_3 x16_4) = some r ∧ (∃ fr0, fr = puts [(1, .one (.ptr 16 0)), (3, .one (.val (.int .i64 x3))), (4, .one (.val (.int .i64 x4)))] fr0) ∧ hp = (upd 16 (.box [.val (.int .i64 x16_0), .val (.int .i64 x16_1), .val (.str x16_2), .val (.bool x16_3), .val (.row (x16_4.map e26))]) (fun _ => none))) k ⟨_, zfuel, _, _, _, _, _, _, _, h, leafFr [1, 3, 4] (by kernel_rfl), by kernel_rfl⟩ ?_
      clear h; rintro k hle _ _ ⟨x3, x4, x16_0, x16_1, x16_2, x16_3, x16_4, h, ⟨fr0, rfl⟩, rfl⟩
      rcases k with _ | k
      · exact (run_zero h).elim
      rw [run_succ, spec_l3Deep.B] at h
      refine zz ?_
      refine br (iP h) ?_ ?_ <;> (clear h; intro c h)
      rotate_left
      · replace h := evR h; cases h
        refine zz ?_
        first | exact ⟨trivial, [], [], ⟨rfl, trivial⟩, _, rfl, _, rfl, And.intro rfl rfl⟩ | exact ⟨[], [], ⟨rfl, trivial⟩, _, rfl, _, rfl, And.intro rfl rfl⟩
      have h_ := gP h; clear h; obtain ⟨c, h⟩ := h_
      have h_ := evA h; clear h; obtain ⟨t18, ht, h⟩ := h_
      refine zz ?_
      refine Exists.intro _ (And.intro (ih _ (h := ht) (hk := zfuel)) ?_)
      have h_ := evO h; clear h; obtain ⟨t19, ht, h⟩ := h_
      refine zz ?_
      refine Exists.intro _ (And.intro (spec_l1Max_ev (h := ht)) ?_)
      replace h := evT h
      refine zz ?_
      exact ⟨_, zfuel, _, _, _, _, _, _, _, h, leafFr [1, 3, 4] (by kernel_rfl), by kernel_rfl⟩
theorem spec_l3Deep_ev (a0_0 : Int) (a0_1 : Int) (a0_2 : ByteArray) (a0_3 : Bool) (l0_4 : List S26) (r : Int) (h : spec_l3Deep.fv a0_0 a0_1 a0_2 a0_3 l0_4 = some r) : CE (G m_) 59 [.val (.agg [.int .i64 a0_0, .int .i64 a0_1, .str a0_2, .bool a0_3, .row (l0_4.map e26)])] [] [.val (.int .i64 r)] [] := by
  obtain ⟨k, h⟩ := lim_ex h
  exact (spec_l3Deep_all (k + 1)) k _ _ _ _ _ _ h (Nat.lt_succ_self k)
theorem spec_RexParse_ev (a0 : ByteArray) (r1 : Int) (r2 : Int) (r3 : ByteArray) (r4 : Bool) (r5 : List S26) (r6 : Bool) (h : spec_RexParse.fv a0 = some (r1, r2, r3, r4, r5, r6)) : CE (G m_) 17 [.val (.str a0)] [] [.val (.agg [.int .i64 r1, .int .i64 r2, .str r3, .bool r4, .row (r5.map e26)]), .val (.bool r6)] [] := by
  refine CE.mk ⟨Try.f17, _, rfl, rfl, ⟨by kernel_rfl, Nat.le_of_ble_eq_true rfl, Nat.le_of_ble_eq_true rfl⟩, ?_⟩
  rw [spec_RexParse.fv] at h
  refine zz ?_
  refine br (iteS h) ?_ ?_ <;> (clear h; intro c h)
  · cases h
    refine zz ?_
    first | exact ⟨trivial, [], [], ⟨rfl, trivial⟩, _, rfl, _, rfl, And.intro rfl rfl⟩ | exact ⟨[], [], ⟨rfl, trivial⟩, _, rfl, _, rfl, And.intro rfl rfl⟩
  have h_ := oS h; clear h; obtain ⟨t14, ht, h⟩ := h_
  refine zz ?_
  refine Exists.intro _ (Exists.intro _ (And.intro (spec_l3Pattern_ev (h := ht)) ?_))
  refine zz ?_
  refine brW (iteS h) ?_ ?_ <;> (clear h; intro c h)
  rotate_left
  · refine zz ?_
    try (apply Or.inr; refine And.intro (by first | rfl | exact zboolK) ?_)
    refine zz ?_
    try (apply Or.inr; refine And.intro (by first | rfl | exact zboolK) ?_)
    refine zz ?_
    try (apply Or.inr; refine And.intro (by first | rfl | exact zboolK) ?_)
    refine zz ?_
    try (apply Or.inr; refine And.intro (by first | rfl | exact zboolK) ?_)
    refine zz ?_
    try (apply Or.inr; refine And.intro (by first | rfl | exact zboolK) ?_)
    refine zz ?_
    try (apply Or.inr; refine And.intro (by first | rfl | exact zboolK) ?_)
    refine zz ?_
    try (apply Or.inl; refine And.intro (by first | rfl | exact zboolK) ?_)
    refine zz ?_
    try (apply Or.inr; refine And.intro (by first | rfl | exact zboolK) ?_)
    refine zz ?_
    try (apply Or.inr; refine And.intro (by first | rfl | exact zboolK) ?_)
    refine zz ?_
    try (apply Or.inr; refine And.intro (by first | rfl | exact zboolK) ?_)
    refine zz ?_
    try (apply Or.inl; refine And.intro (by first | rfl | exact zboolK) ?_)
    refine zz ?_
    try (apply Or.inl; refine And.intro (by first | rfl | exact zboolK) ?_)
    cases h
    refine zz ?_
    first | exact ⟨trivial, [], [], ⟨rfl, trivial⟩, _, rfl, _, rfl, And.intro rfl rfl⟩ | exact ⟨[], [], ⟨rfl, trivial⟩, _, rfl, _, rfl, And.intro rfl rfl⟩
  refine zz ?_
  try (apply Or.inl; refine And.intro (by first | rfl | exact zboolK) ?_)
  refine zz ?_
  try (apply Or.inl; refine And.intro (by first | rfl | exact zboolK) ?_)
  refine zz ?_
  try (apply Or.inl; refine And.intro (by first | rfl | exact zboolK) ?_)
  refine zz ?_
  try (apply Or.inl; refine And.intro (by first | rfl | exact zboolK) ?_)
  refine zz ?_
  try (apply Or.inl; refine And.intro (by first | rfl | exact zboolK) ?_)
  refine zz ?_
  try (apply Or.inl; refine And.intro (by first | rfl | exact zboolK) ?_)
  refine zz ?_
  try (apply Or.inr; refine And.intro (by first | rfl | exact zboolK) ?_)
  refine zz ?_
  refine brX (iteS h) ?_ ?_ <;> (clear h; intro c h)
  rotate_left
  · refine zz ?_
    try (apply Or.inr; refine And.intro (by first | rfl | exact zboolK) ?_)
    refine zz ?_
    try (apply Or.inr; refine And.intro (by first | rfl | exact zboolK) ?_)
    refine zz ?_
    try (apply Or.inl; refine And.intro (by first | rfl | exact zboolK) ?_)
    refine zz ?_
    try (apply Or.inl; refine And.intro (by first | rfl | exact zboolK) ?_)
    cases h
    refine zz ?_
    first | exact ⟨trivial, [], [], ⟨rfl, trivial⟩, _, rfl, _, rfl, And.intro rfl rfl⟩ | exact ⟨[], [], ⟨rfl, trivial⟩, _, rfl, _, rfl, And.intro rfl rfl⟩
  refine zz ?_
  try (apply Or.inl; refine And.intro (by first | rfl | exact zboolK) ?_)
  have h_ := oS h; clear h; obtain ⟨t30, ht, h⟩ := h_
  refine zz ?_
  refine Exists.intro _ (And.intro (spec_l3Deep_ev (h := ht)) ?_)
  refine zz ?_
  try (apply Or.inl; refine And.intro (by first | rfl | exact zboolK) ?_)
  refine zz ?_
  try (apply Or.inr; refine And.intro (by first | rfl | exact zboolK) ?_)
  refine zz ?_
  refine br (iteS h) ?_ ?_ <;> (clear h; intro c h)
  · cases h
    refine zz ?_
    first | exact ⟨trivial, [], [], ⟨rfl, trivial⟩, _, rfl, _, rfl, And.intro rfl rfl⟩ | exact ⟨[], [], ⟨rfl, trivial⟩, _, rfl, _, rfl, And.intro rfl rfl⟩
  cases h
  refine zz ?_
  first | exact ⟨trivial, [], [], ⟨rfl, trivial⟩, _, rfl, _, rfl, And.intro rfl rfl⟩ | exact ⟨[], [], ⟨rfl, trivial⟩, _, rfl, _, rfl, And.intro rfl rfl⟩
theorem impl_in_ev (a0 : Int) (a1 : Int) (a2 : Int) (r : Bool) (h : impl_in.f a0 a1 a2 = some r) : CE (G m_) 46 [.val (.int .i64 a0), .val (.int .i64 a1), .val (.int .i64 a2)] [] [.val (.bool r)] [] := by
  refine CE.mk ⟨Try.f46, _, rfl, rfl, ⟨by kernel_rfl, Nat.le_of_ble_eq_true rfl, Nat.le_of_ble_eq_true rfl⟩, ?_⟩
  rw [impl_in.f] at h
  refine zz ?_
  refine br (iteS h) ?_ ?_ <;> (clear h; intro c h)
  · refine zz ?_
    try (apply Or.inl; refine And.intro (by first | rfl | exact zboolK) ?_)
    refine zz ?_
    try (apply Or.inl; refine And.intro (by first | rfl | exact zboolK) ?_)
    refine zz ?_
    try (apply Or.inl; refine And.intro (by first | rfl | exact zboolK) ?_)
    cases h
    refine zz ?_
    first | exact ⟨trivial, [], [], ⟨rfl, trivial⟩, _, rfl, _, rfl, And.intro rfl rfl⟩ | exact ⟨[], [], ⟨rfl, trivial⟩, _, rfl, _, rfl, And.intro rfl rfl⟩
  refine zz ?_
  try (apply Or.inr; refine And.intro (by first | rfl | exact zboolK) ?_)
  refine zz ?_
  try (apply Or.inr; refine And.intro (by first | rfl | exact zboolK) ?_)
  refine zz ?_
  try (apply Or.inr; refine And.intro (by first | rfl | exact zboolK) ?_)
  cases h
  refine zz ?_
  first | exact ⟨trivial, [], [], ⟨rfl, trivial⟩, _, rfl, _, rfl, And.intro rfl rfl⟩ | exact ⟨[], [], ⟨rfl, trivial⟩, _, rfl, _, rfl, And.intro rfl rfl⟩
theorem impl_setRight_ev (a0_0 : Int) (a0_1 : Int) (a0_2 : ByteArray) (a0_3 : Bool) (l0_4 : List S26) (r : Bool) (h : impl_setRight.fv a0_0 a0_1 a0_2 a0_3 l0_4 = some r) : CE (G m_) 94 [.val (.agg [.int .i64 a0_0, .int .i64 a0_1, .str a0_2, .bool a0_3, .row (l0_4.map e26)])] [] [.val (.bool r)] [] := by
  obtain ⟨k, h⟩ := lim_ex h
  refine CE.mk ⟨Try.f94, _, rfl, rfl, ⟨by kernel_rfl, Nat.le_of_ble_eq_true rfl, Nat.le_of_ble_eq_true rfl⟩, ?_⟩
  rcases k with _ | k
  · exact (run_zero h).elim
  rw [run_succ, impl_setRight.B] at h
  replace h := evT h
  refine zz ?_
  refine loopJ [16] (fun kq fr hp => ∃ (x6 : Int) (x7 : Int) (x16_0 : Int) (x16_1 : Int) (x16_2 : ByteArray) (x16_3 : Bool) (x16_4 : List S26), run impl_setRight.B kq (.l0 x6 x7 x16_0 x16_1 x16_2 x16_3 x16_4) = some r ∧ (∃ fr0, fr = puts [(1, .one (.ptr 16 0)), (6, .one (.val (.int .i64 x6))), (7, .one (.val (.int .i64 x7)))] fr0) ∧ hp = (upd 16 (.box [.val (.int .i64 x16_0), .val (.int .i64 x16_1), .val (.str x16_2), .val (.bool x16_3), .val (.row (x16_4.map e26))]) (fun _ => none))) k ⟨_, zfuel, _, _, _, _, _, _, _, h, leafFr [1, 6, 7] (by kernel_rfl), by kernel_rfl⟩ ?_
  clear h; rintro k hle _ _ ⟨x6, x7, x16_0, x16_1, x16_2, x16_3, x16_4, h, ⟨fr0, rfl⟩, rfl⟩
  rcases k with _ | k
  · exact (run_zero h).elim
  rw [run_succ, impl_setRight.B] at h
  refine zz ?_
  refine br (iP h) ?_ ?_ <;> (clear h; intro c h)
  · refine zz ?_
    refine br (iP h) ?_ ?_ <;> (clear h; intro c h)
    rotate_left
    · refine zz ?_
      try (apply Or.inr; refine And.intro (by first | rfl | exact zboolK) ?_)
      refine zz ?_
      try (apply Or.inr; refine And.intro (by first | rfl | exact zboolK) ?_)
      refine zz ?_
      try (apply Or.inr; refine And.intro (by first | rfl | exact zboolK) ?_)
      refine zz ?_
      try (apply Or.inr; refine And.intro (by first | rfl | exact zboolK) ?_)
      refine zz ?_
      try (apply Or.inr; refine And.intro (by first | rfl | exact zboolK) ?_)
      refine zz ?_
      try (apply Or.inr; refine And.intro (by first | rfl | exact zboolK) ?_)
      refine zz ?_
      try (apply Or.inr; refine And.intro (by first | rfl | exact zboolK) ?_)
      refine zz ?_
      try (apply Or.inr; refine And.intro (by first | rfl | exact zboolK) ?_)
      refine zz ?_
      try (apply Or.inr; refine And.intro (by first | rfl | exact zboolK) ?_)
      refine zz ?_
      try (apply Or.inr; refine And.intro (by first | rfl | exact zboolK) ?_)
      refine zz ?_
      try (apply Or.inr; refine And.intro (by first | rfl | exact zboolK) ?_)
      replace h := evT h
      refine zz ?_
      exact ⟨_, zfuel, _, _, _, _, _, _, _, h, leafFr [1, 6, 7] (by kernel_rfl), by kernel_rfl⟩
    refine zz ?_
    try (apply Or.inl; refine And.intro (by first | rfl | exact zboolK) ?_)
    refine zz ?_
    try (apply Or.inl; refine And.intro (by first | rfl | exact zboolK) ?_)
    refine zz ?_
    try (apply Or.inl; refine And.intro (by first | rfl | exact zboolK) ?_)
    refine zz ?_
    try (apply Or.inl; refine And.intro (by first | rfl | exact zboolK) ?_)
    have h_ := gP h; clear h; obtain ⟨c, h⟩ := h_
    have h_ := gP h; clear h; obtain ⟨c, h⟩ := h_
    refine zz ?_
    try (apply Or.inl; refine And.intro (by first | rfl | exact zboolK) ?_)
    refine zz ?_
    try (apply Or.inl; refine And.intro (by first | rfl | exact zboolK) ?_)
    refine zz ?_
    try (apply Or.inl; refine And.intro (by first | rfl | exact zboolK) ?_)
    refine zz ?_
    try (apply Or.inl; refine And.intro (by first | rfl | exact zboolK) ?_)
    have h_ := gP h; clear h; obtain ⟨c, h⟩ := h_
    have h_ := gP h; clear h; obtain ⟨c, h⟩ := h_
    refine zz ?_
    try (apply Or.inl; refine And.intro (by first | rfl | exact zboolK) ?_)
    refine zz ?_
    try (apply Or.inl; refine And.intro (by first | rfl | exact zboolK) ?_)
    refine zz ?_
    refine br (iP h) ?_ ?_ <;> (clear h; intro c h)
    · replace h := evR h; cases h
      refine zz ?_
      first | exact ⟨trivial, [], [], ⟨rfl, trivial⟩, _, rfl, _, rfl, And.intro rfl rfl⟩ | exact ⟨[], [], ⟨rfl, trivial⟩, _, rfl, _, rfl, And.intro rfl rfl⟩
    replace h := evT h
    refine zz ?_
    exact ⟨_, zfuel, _, _, _, _, _, _, _, h, leafFr [1, 6, 7] (by kernel_rfl), by kernel_rfl⟩
  refine zz ?_
  refine cutJ (n := 33) [16] (fun fr hp => ∃ kq, kq ≤ k ∧ ∃ (x16_0 : Int) (x16_1 : Int) (x16_2 : ByteArray) (x16_3 : Bool) (x16_4 : List S26), run impl_setRight.B kq (.j0 x16_0 x16_1 x16_2 x16_3 x16_4) = some r ∧ (∃ fr0, fr = puts [(1, .one (.ptr 16 0))] fr0) ∧ hp = (upd 16 (.box [.val (.int .i64 x16_0), .val (.int .i64 x16_1), .val (.str x16_2), .val (.bool x16_3), .val (.row (x16_4.map e26))]) (fun _ => none))) ?_ ?_
  · refine zz ?_
    refine cutJ (n := 200007) [16] (fun fr hp => ∃ kq, kq ≤ k ∧ ∃ (x33 : Bool) (x16_0 : Int) (x16_1 : Int) (x16_2 : ByteArray) (x16_3 : Bool) (x16_4 : List S26), run impl_setRight.B kq (.j1 x33 x16_0 x16_1 x16_2 x16_3 x16_4) = some r ∧ (∃ fr0, fr = puts [(1, .one (.ptr 16 0)), (33, .one (.val (.bool x33)))] fr0) ∧ hp = (upd 16 (.box [.val (.int .i64 x16_0), .val (.int .i64 x16_1), .val (.str x16_2), .val (.bool x16_3), .val (.row (x16_4.map e26))]) (fun _ => none))) ?_ ?_
    · have h_ := evO h; clear h; obtain ⟨t27, ht, h⟩ := h_
      refine zz ?_
      refine Exists.intro _ (And.intro (orc118 (h := ht)) ?_)
      refine zz ?_
      refine br (iP h) ?_ ?_ <;> (clear h; intro c h)
      rotate_left
      · refine zz ?_
        try (apply Or.inr; refine And.intro (by first | rfl | exact zboolK) ?_)
        refine zz ?_
        try (apply Or.inr; refine And.intro (by first | rfl | exact zboolK) ?_)
        refine zz ?_
        try (apply Or.inr; refine And.intro (by first | rfl | exact zboolK) ?_)
        refine zz ?_
        try (apply Or.inr; refine And.intro (by first | rfl | exact zboolK) ?_)
        replace h := evT h
        refine zz ?_
        exact ⟨_, zfuel, _, _, _, _, _, _, h, leafFr [1, 33] (by kernel_rfl), by kernel_rfl⟩
      refine zz ?_
      try (apply Or.inl; refine And.intro (by first | rfl | exact zboolK) ?_)
      refine zz ?_
      try (apply Or.inl; refine And.intro (by first | rfl | exact zboolK) ?_)
      have h_ := evO h; clear h; obtain ⟨t31, ht, h⟩ := h_
      refine zz ?_
      refine Exists.intro _ (And.intro (orc118 (h := ht)) ?_)
      refine zz ?_
      try (apply Or.inl; refine And.intro (by first | rfl | exact zboolK) ?_)
      refine zz ?_
      try (apply Or.inl; refine And.intro (by first | rfl | exact zboolK) ?_)
      replace h := evT h
      refine zz ?_
      exact ⟨_, zfuel, _, _, _, _, _, _, h, leafFr [1, 33] (by kernel_rfl), by kernel_rfl⟩
    clear h; rintro _ _ ⟨k, hle, x33, x16_0, x16_1, x16_2, x16_3, x16_4, h, ⟨fr0, rfl⟩, rfl⟩
    rcases k with _ | k
    · exact (run_zero h).elim
    rw [run_succ, impl_setRight.B] at h
    refine zz ?_
    refine br (iP h) ?_ ?_ <;> (clear h; intro c h)
    · replace h := evR h; cases h
      refine zz ?_
      first | exact ⟨trivial, [], [], ⟨rfl, trivial⟩, _, rfl, _, rfl, And.intro rfl rfl⟩ | exact ⟨[], [], ⟨rfl, trivial⟩, _, rfl, _, rfl, And.intro rfl rfl⟩
    replace h := evT h
    refine zz ?_
    exact ⟨_, zfuel, _, _, _, _, _, h, leafFr [1] (by kernel_rfl), by kernel_rfl⟩
  clear h; rintro _ _ ⟨k, hle, x16_0, x16_1, x16_2, x16_3, x16_4, h, ⟨fr0, rfl⟩, rfl⟩
  rcases k with _ | k
  · exact (run_zero h).elim
  rw [run_succ, impl_setRight.B] at h
  refine zz ?_
  refine brN (iP h) ?_ ?_ <;> (clear h; intro c h)
  rotate_left
  · refine zz ?_
    try (apply Or.inr; refine And.intro (by first | rfl | exact zboolK) ?_)
    refine zz ?_
    try (apply Or.inr; refine And.intro (by first | rfl | exact zboolK) ?_)
    refine zz ?_
    try (apply Or.inr; refine And.intro (by first | rfl | exact zboolK) ?_)
    refine zz ?_
    try (apply Or.inr; refine And.intro (by first | rfl | exact zboolK) ?_)
    replace h := evR h; cases h
    refine zz ?_
    first | exact ⟨trivial, [], [], ⟨rfl, trivial⟩, _, rfl, _, rfl, And.intro rfl rfl⟩ | exact ⟨[], [], ⟨rfl, trivial⟩, _, rfl, _, rfl, And.intro rfl rfl⟩
  refine zz ?_
  try (apply Or.inl; refine And.intro (by first | rfl | exact zboolK) ?_)
  refine zz ?_
  try (apply Or.inl; refine And.intro (by first | rfl | exact zboolK) ?_)
  refine zz ?_
  refine brW (iP h) ?_ ?_ <;> (clear h; intro c h)
  · refine zz ?_
    try (apply Or.inl; refine And.intro (by first | rfl | exact zboolK) ?_)
    refine zz ?_
    try (apply Or.inl; refine And.intro (by first | rfl | exact zboolK) ?_)
    refine zz ?_
    try (apply Or.inl; refine And.intro (by first | rfl | exact zboolK) ?_)
    refine zz ?_
    try (apply Or.inr; refine And.intro (by first | rfl | exact zboolK) ?_)
    refine zz ?_
    try (apply Or.inl; refine And.intro (by first | rfl | exact zboolK) ?_)
    replace h := evR h; cases h
    refine zz ?_
    first | exact ⟨trivial, [], [], ⟨rfl, trivial⟩, _, rfl, _, rfl, And.intro rfl rfl⟩ | exact ⟨[], [], ⟨rfl, trivial⟩, _, rfl, _, rfl, And.intro rfl rfl⟩
  refine zz ?_
  try (apply Or.inr; refine And.intro (by first | rfl | exact zboolK) ?_)
  refine zz ?_
  try (apply Or.inr; refine And.intro (by first | rfl | exact zboolK) ?_)
  refine zz ?_
  try (apply Or.inl; refine And.intro (by first | rfl | exact zboolK) ?_)
  refine zz ?_
  try (apply Or.inl; refine And.intro (by first | rfl | exact zboolK) ?_)
  refine zz ?_
  try (apply Or.inl; refine And.intro (by first | rfl | exact zboolK) ?_)
  replace h := evR h; cases h
  refine zz ?_
  first | exact ⟨trivial, [], [], ⟨rfl, trivial⟩, _, rfl, _, rfl, And.intro rfl rfl⟩ | exact ⟨[], [], ⟨rfl, trivial⟩, _, rfl, _, rfl, And.intro rfl rfl⟩
end Go.Proofs.Ytfdpehmefgfjgaa.TFnBrackets
