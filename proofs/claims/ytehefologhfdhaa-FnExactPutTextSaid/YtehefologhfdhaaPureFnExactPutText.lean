/- The program's PutText returns what the reference's returns, for every text. -/
import Derived.Test.YtehefologhfdhaaQFnExactPutTextx2
import Derived.Test.YtehefologhfdhaaLim
import Derived.Laws.BitsLemmas
namespace Go.Proofs.Ytehefologhfdhaa.Pure
open Go.RowKit Go.Proofs.Ytehefologhfdhaa.QFnExactPutText Go.Proofs.YtehefologhfdhaaW.PrintWords Go.Proofs.YtehefologhfdhaaW.PrintLast Go.Proofs.YtehefologhfdhaaW.PrintMore Go.Proofs.YtehefologhfdhaaW.Lims
namespace FnExactPutTextAid

theorem eq_self (d : Nat) : ∀ (l : List Int) (i : Int), 0 ≤ i → l.length ≤ 2000000 → (l.length : Int) - i ≤ d → laws_eqByteS.l0v l l i = some true := by
  induction d with
  | zero =>
    intro l i h0 h1 h2
    rw [laws_eqByteS.l0v_eq, if_neg (by omega)]
  | succ d ih =>
    intro l i h0 h1 h2
    rw [laws_eqByteS.l0v_eq]
    by_cases h : i < (l.length : Int)
    · rw [if_pos h, if_pos h0, if_pos h, if_pos rfl, wrap_in (by omega) (by omega)]
      exact ih l (i + 1) (by omega) h1 (by omega)
    · rw [if_neg h]

theorem eq_true (l : List Int) (h : l.length ≤ 2000000) : laws_eqByteS.fv l l = some true := by
  rw [laws_eqByteS.fv_eq, if_pos rfl]
  exact eq_self l.length l 0 (by omega) h (by omega)


/-- What is marked is held. -/
theorem marked (d : Nat) : ∀ (l : List Int) (i : Nat), l.length ≤ 2000000 → l.length - i = d → i ≤ l.length → (∀ j : Nat, j < i → rd l (j : Int) = (1 + (j : Int)) % 256) →
    ∃ m, laws_markByteS.l0v l (1 + (i : Int)) (i : Int) = some (1 + (l.length : Int), m) ∧ m.length = l.length ∧ ∀ j : Nat, j < l.length → rd m (j : Int) = (1 + (j : Int)) % 256 := by
  induction d with
  | zero =>
    intro l i h0 h1 h2 h3
    have e : i = l.length := by omega
    subst e
    exact ⟨l, by rw [laws_markByteS.l0v_eq, if_neg (by omega)], rfl, h3⟩
  | succ d ih =>
    intro l i h0 h1 h2 h3
    obtain ⟨m, hm, hl, hj⟩ := ih (l.set i ((1 + (i : Int)) % 256)) (i + 1) (by simpa using h0) (by simp; omega) (by simp; omega) (fun j hj => by
      rw [rd_set _ _ _ _ (by omega)]
      by_cases e : j = i
      · rw [if_pos e, e]
      · rw [if_neg e]; exact h3 j (by omega))
    refine ⟨m, ?_, by simpa using hl, fun j h => hj j (by simpa using h)⟩
    rw [laws_markByteS.l0v_eq, if_pos (by omega), if_pos (by omega), wrap_in (by omega) (by omega), wrap_in (by omega) (by omega)]
    have e1 : (1 + (i : Int) + 1) = 1 + ((i + 1 : Nat) : Int) := by omega
    have e2 : ((i : Int) + 1) = ((i + 1 : Nat) : Int) := by omega
    rw [e1, e2, Int.toNat_natCast, hm]
    simp

theorem held (d : Nat) : ∀ (m : List Int) (i : Nat), m.length ≤ 2000000 → m.length - i = d → i ≤ m.length → (∀ j : Nat, j < m.length → rd m (j : Int) = (1 + (j : Int)) % 256) →
    laws_heldByteS.l0v m (1 + (i : Int)) (i : Int) = some (1 + (m.length : Int)) := by
  induction d with
  | zero =>
    intro m i h0 h1 h2 h3
    have e : i = m.length := by omega
    subst e
    rw [laws_heldByteS.l0v_eq, if_neg (by omega)]
  | succ d ih =>
    intro m i h0 h1 h2 h3
    have e1 : (1 + (i : Int) + 1) = 1 + ((i + 1 : Nat) : Int) := by omega
    have e2 : ((i : Int) + 1) = ((i + 1 : Nat) : Int) := by omega
    rw [laws_heldByteS.l0v_eq, if_pos (by omega), if_pos (by omega), if_pos (h3 i (by omega)), wrap_in (by omega) (by omega), wrap_in (by omega) (by omega), e1, e2]
    exact ih m (i + 1) h0 (by omega) (by omega) h3

theorem mark_held (l : List Int) (h : l.length ≤ 2000000) : ∃ m, laws_markByteS.fv l 1 = some (1 + (l.length : Int), m) ∧ laws_heldByteS.fv m 1 = some (1 + (l.length : Int)) := by
  obtain ⟨m, hm, hl, hj⟩ := marked l.length l 0 h (by omega) (by omega) (fun j hj => by omega)
  refine ⟨m, ?_, ?_⟩
  · rw [laws_markByteS.fv_eq]; simpa using hm
  · rw [laws_heldByteS.fv_eq]
    have := held m.length m 0 (by omega) (by omega) (by omega) (by rw [hl]; exact hj)
    rw [← hl]; simpa using this

theorem in_some (a b c : Int) : spec_l1In.f a b c = some (decide (b ≤ a ∧ a ≤ c)) := by
  unfold spec_l1In.f
  by_cases h : a ≥ b
  · rw [if_pos h]; simp [h]
  · rw [if_neg h]; simp; omega

theorem in_same (a b c : Int) : impl_in.f a b c = some (decide (b ≤ a ∧ a ≤ c)) := in_some a b c

theorem byte_same (n : Int) (h : 0 ≤ n) (h' : n ≤ 4611686018427387903) : Go.bits .or .i64 (Go.bits .and .i64 n 127) 128 = n % 128 + 128 := by
  have h1 : Go.bits .and .i64 n 127 = n % 128 := Go.bits_mask .i64 62 (by decide) (fun n h0 h1 => by rw [IntKind.wrap_i64]; omega) 7 (by decide) n h (by omega)
  rw [h1]
  have h2 : 0 ≤ n % 128 ∧ n % 128 < 128 := by omega
  generalize n % 128 = m at h2
  obtain ⟨j, rfl⟩ := Int.eq_ofNat_of_zero_le h2.1
  have h3 : j < 128 := by omega
  have h4 : ∀ j : Fin 128, Go.bits .or .i64 (j.val : Int) 128 = (j.val : Int) + 128 := by decide +kernel
  exact h4 ⟨j, h3⟩

/-- Both write the same bytes. -/
theorem bytes_same (j : Nat) : ∀ (n : Int) (acc : List Int), 0 ≤ n → n ≤ 4611686018427387903 → n < 128 ^ (j + 1) → acc.length + j ≤ 100 → ∃ r, spec_PutNum.l0v n acc = some r ∧ impl_PutNum.l0v n acc = some r ∧ r.length ≤ 200 := by
  induction j with
  | zero =>
    intro n acc h0 h1 h2 h3
    refine ⟨acc ++ [n % 256], ?_, ?_, by simp; omega⟩
    · rw [spec_PutNum.l0v_eq, if_neg (by omega), if_pos (by omega)]
    · rw [impl_PutNum.l0v_eq, if_neg (by omega), if_pos (by omega)]
  | succ j ih =>
    intro n acc h0 h1 h2 h3
    by_cases hb : n > 127
    · have hq : n < 128 ^ (j + 1) * 128 := by rw [← Int.pow_succ]; exact h2
      obtain ⟨r, hr1, hr2, hr3⟩ := ih (n / 128) (acc ++ [(n % 128 + 128) % 256]) (by omega) (by omega) (by omega) (by simp; omega)
      refine ⟨r, ?_, ?_, hr3⟩
      · rw [spec_PutNum.l0v_eq, if_pos hb, if_pos (by omega), Int.tdiv_eq_ediv_of_nonneg h0, Int.tmod_eq_emod_of_nonneg h0, wrap_in (by omega) (by omega), wrap_in (by omega) (by omega)]
        exact hr1
      · rw [impl_PutNum.l0v_eq, if_pos hb, if_pos (by omega), byte_same n h0 h1]
        exact hr2
    · refine ⟨acc ++ [n % 256], ?_, ?_, by simp; omega⟩
      · rw [spec_PutNum.l0v_eq, if_neg hb, if_pos (by omega)]
      · rw [impl_PutNum.l0v_eq, if_neg hb, if_pos (by omega)]

theorem put_same (a : Int) : ∃ r, spec_PutNum.fv a = some r ∧ impl_PutNum.fv a = some r ∧ r.length ≤ 200 := by
  rw [spec_PutNum.fv_eq, impl_PutNum.fv_eq, in_some, in_same]
  simp only [Option.bind_some]
  by_cases h : 0 ≤ a ∧ a ≤ 4611686018427387903
  · simp only [h]
    exact bytes_same 9 a [] h.1 h.2 (by omega) (by simp)
  · simp only [h]
    exact ⟨[], by simp, by simp, by simp⟩

end FnExactPutTextAid
open FnExactPutTextAid

theorem FnExactPutText : laws_FnExactPutText.Pure := by
  intro a ha
  refine (laws_FnExactPutText.f_lim a).get ?_
  rw [laws_FnExactPutText.fv_eq]
  by_cases hb : (a.size : Int) > 1048576
  · rw [if_pos hb]
  · rw [if_neg hb]
    obtain ⟨r, h1, h2, h3⟩ := put_same (a.size : Int)
    have hl : (r ++ bytesOf a).length ≤ 1100000 := by rw [List.length_append, bytesOf_length]; omega
    have e1 : spec_PutText.fv a = some (r ++ bytesOf a) := by rw [spec_PutText.fv_eq, h1, Option.bind_some, if_pos (by omega)]
    have e2 : impl_PutText.fv a = some (r ++ bytesOf a) := by rw [impl_PutText.fv_eq, h2, Option.bind_some, if_pos (by omega)]
    rw [e1, e2, Option.bind_some, Option.bind_some]
    generalize r ++ bytesOf a = q at hl ⊢
    obtain ⟨m, hm, hh⟩ := mark_held q (by omega)
    simp only [Option.bind_some, eq_true q (by omega), if_true, hm, hh]
    rw [if_neg (by omega)]
    simp
    try omega

end Go.Proofs.Ytehefologhfdhaa.Pure
