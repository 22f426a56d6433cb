/- The program's GetNum returns what the reference's returns, for all bytes and places. -/
import Derived.Test.YtakicaelepgmcaaQFnExactGetNumx2
import Derived.Test.YtakicaelepgmcaaLim
namespace Go.Proofs.Ytakicaelepgmcaa.Pure
open Go.RowKit Go.Proofs.Ytakicaelepgmcaa.QFnExactGetNum Go.Proofs.YtakicaelepgmcaaW.PrintWords Go.Proofs.YtakicaelepgmcaaW.PrintLast Go.Proofs.YtakicaelepgmcaaW.PrintMore Go.Proofs.YtakicaelepgmcaaW.Lims
namespace FnExactGetNumAid

theorem eq_self (d : Nat) : ∀ (l : List Int) (i : Int), 0 ≤ i → l.length ≤ 2000000 → (l.length : Int) - i ≤ d → laws_eqByteS.l0v l l i = some true := by
  induction d with
  | zero =>
    intro l i h0 h1 h2
    rw [laws_eqByteS.l0v_eq, if_neg (by omega)]
  | succ d ih =>
    intro l i h0 h1 h2
    rw [laws_eqByteS.l0v_eq]
    by_cases h : i < (l.length : Int)
    · rw [if_pos h, if_pos h0, if_pos h, if_pos rfl, wrap_in (by omega) (by omega)]
      exact ih l (i + 1) (by omega) h1 (by omega)
    · rw [if_neg h]

theorem eq_true (l : List Int) (h : l.length ≤ 2000000) : laws_eqByteS.fv l l = some true := by
  rw [laws_eqByteS.fv_eq, if_pos rfl]
  exact eq_self l.length l 0 (by omega) h (by omega)


theorem to_loop (x0 : List Int) (hl : x0.length ≤ 1048576) (d : Nat) : ∀ (i : Nat) (rest : List Int), x0.length - i = d → i ≤ x0.length → rest.length = x0.length - i → laws_toByteS.l0v x0 (x0.take i ++ rest) (i : Int) = some x0 := by
  induction d with
  | zero =>
    intro i rest h1 h2 h3
    have : rest = [] := List.eq_nil_of_length_eq_zero (by omega)
    subst this
    rw [laws_toByteS.l0v_eq, if_neg (by omega), List.take_of_length_le (by omega), List.append_nil]
  | succ d ihd =>
    intro i rest h1 h2 h3
    have hi : i < x0.length := by omega
    obtain ⟨r, rest, rfl⟩ : ∃ r rs, rest = r :: rs := by cases rest with
      | nil => simp at h3; omega
      | cons r rs => exact ⟨r, rs, rfl⟩
    have hlen : (x0.take i).length = i := by simp; omega
    rw [laws_toByteS.l0v_eq, if_pos (by omega), if_pos (by omega), if_pos (by simp; omega), rd_nat x0 i hi, wrap_in (by omega) (by omega), show (i : Int) + 1 = ((i + 1 : Nat) : Int) by omega, Int.toNat_natCast]
    have e : (x0.take i ++ r :: rest).set i x0[i] = x0.take (i + 1) ++ rest := by
      rw [List.set_append_right _ _ (by omega), hlen, Nat.sub_self, List.set_cons_zero, List.take_succ_eq_append_getElem hi, List.append_assoc]
      rfl
    rw [e]
    exact ihd (i + 1) rest (by omega) (by omega) (by simp at h3; omega)
theorem to_bytes (x0 : List Int) (hl : x0.length ≤ 1048576) : laws_toByteS.fv x0 = some x0 := by
  rw [laws_toByteS.fv_eq, if_pos (by omega), if_pos (by omega)]
  have := to_loop x0 hl x0.length 0 (List.replicate x0.length 0) (by omega) (by omega) (by simp)
  simpa using this
theorem in_some (a b c : Int) : impl_in.f a b c = some (decide (b ≤ a ∧ a ≤ c)) := by
  unfold impl_in.f
  by_cases h : a ≥ b
  · rw [if_pos h]; simp [h]
  · rw [if_neg h]; simp; omega
theorem low_same (d : Int) (h : 0 ≤ d) (h' : d ≤ 255) : Go.bits .and .i64 d 127 = Int.tmod d 128 := by
  rw [Int.tmod_eq_emod_of_nonneg h]
  exact Go.bits_mask .i64 62 (by decide) (fun n h0 h1 => by rw [IntKind.wrap_i64]; omega) 7 (by decide) d h (by omega)
theorem rd_byte {l : List Int} (hw : ∀ x ∈ l, (Lit.int .u8 x).wf = true) (i : Int) (h0 : 0 ≤ i) (h1 : i < l.length) : 0 ≤ rd l i ∧ rd l i ≤ 255 := by
  obtain ⟨j, rfl⟩ := Int.eq_ofNat_of_zero_le h0
  rw [rd_nat l j (by omega)]
  exact wf8 (hw _ (List.getElem_mem _))
theorem get_loop (l : List Int) (hl : l.length ≤ 1048576) (hw : ∀ x ∈ l, (Lit.int .u8 x).wf = true) (a : Int) (h0 : 0 ≤ a) (h1 : a ≤ l.length) (d : Nat) :
    ∀ (k : Nat) (n : Int), 9 - k = d → k ≤ 9 → ∃ r, spec_GetNum.l0v l a n (k : Int) = some r ∧ impl_GetNum.l0v l a n (k : Int) = some r := by
  induction d with
  | zero =>
    intro k n h2 h3
    refine ⟨(0, 0, false), ?_, ?_⟩
    · rw [spec_GetNum.l0v_eq, if_neg (by omega)]
    · rw [impl_GetNum.l0v_eq, if_neg (by omega), impl_GetNum.j1v_eq, if_neg (by simp)]
  | succ d ih =>
    intro k n h2 h3
    have es : spec_GetNum.l0v l a n (k : Int) = spec_GetNum.j1v l a n (k : Int) (decide (a ≥ (l.length : Int) - k)) := by
      rw [spec_GetNum.l0v_eq, if_pos (by omega), if_neg (by omega), wrap_in (by omega) (by omega)]
    have ei : impl_GetNum.l0v l a n (k : Int) = impl_GetNum.j1v l a n (k : Int) (decide (a + (k : Int) < (l.length : Int))) := by
      rw [impl_GetNum.l0v_eq, if_pos (by omega), wrap_in (by omega) (by omega)]
    rw [es, ei, spec_GetNum.j1v_eq, impl_GetNum.j1v_eq, wrap_in (n := a + (k : Int)) (by omega) (by omega)]
    by_cases hin : a + (k : Int) < l.length
    · have hb := rd_byte hw (a + k) (by omega) hin
      have hc : (decide (a ≥ (l.length : Int) - k)) = false := decide_eq_false (by omega)
      have hc2 : (decide (a + (k : Int) < (l.length : Int))) = true := decide_eq_true hin
      have h7 : (0 : Int) ≤ 7 * k := by omega
      have ha : 0 ≤ a + (k : Int) := by omega
      rw [hc, hc2, wrap_in (n := 7 * (k : Int)) (by omega) (by omega), wrap_in (n := rd l (a + k)) (by omega) (by omega), low_same _ hb.1 hb.2]
      simp only [if_pos h7, if_pos ha, if_pos hin, if_true, Bool.false_eq_true, if_false]
      generalize Go.bits .or .i64 n (shl .i64 (Int.tmod (rd l (a + k)) 128) (7 * k)) = m
      by_cases hs : rd l (a + k) < 128
      · rw [if_pos hs, if_neg (show ¬ rd l (a + k) > 127 by omega)]
        simp only [in_some, Option.bind_some]
        by_cases hz : rd l (a + k) = 0
        · by_cases hk : (k : Int) > 0
          · rw [if_pos hk, if_pos hz, if_pos hz, if_pos hk]
            exact ⟨_, rfl, rfl⟩
          · rw [if_neg hk, if_pos hz, if_neg hk]
            by_cases hm : 0 ≤ m ∧ m ≤ 4611686018427387903
            · rw [if_neg (by omega), if_neg (by omega), if_pos (by simpa using hm)]
              exact ⟨_, rfl, rfl⟩
            · rw [if_neg (show ¬ (decide (0 ≤ m ∧ m ≤ 4611686018427387903) = true) by simpa using hm)]
              refine ⟨_, ?_, rfl⟩
              by_cases hm1 : m > 4611686018427387903
              · rw [if_pos hm1]
              · rw [if_neg hm1, if_pos (by omega)]
        · rw [if_neg hz, if_neg hz]
          have key : ∃ r, (if m > 4611686018427387903 then some ((0 : Int), (0 : Int), false) else if m < 0 then some (0, 0, false) else some (m, wrap64 (a + k + 1), true)) = some r ∧ (if decide (0 ≤ m ∧ m ≤ 4611686018427387903) = true then some (m, wrap64 (a + k + 1), true) else some (0, 0, false)) = some r := by
            by_cases hm : 0 ≤ m ∧ m ≤ 4611686018427387903
            · rw [if_neg (by omega), if_neg (by omega), if_pos (by simpa using hm)]
              exact ⟨_, rfl, rfl⟩
            · rw [if_neg (show ¬ (decide (0 ≤ m ∧ m ≤ 4611686018427387903) = true) by simpa using hm)]
              refine ⟨_, ?_, rfl⟩
              by_cases hm1 : m > 4611686018427387903
              · rw [if_pos hm1]
              · rw [if_neg hm1, if_pos (by omega)]
          by_cases hk : (k : Int) > 0
          · rw [if_pos hk]; exact key
          · rw [if_neg hk]; exact key
      · rw [if_neg hs, if_pos (show rd l (a + k) > 127 by omega), wrap_in (n := (k : Int) + 1) (by omega) (by omega), show (k : Int) + 1 = ((k + 1 : Nat) : Int) by omega]
        exact ih (k + 1) m (by omega) (by omega)
    · have hc : (decide (a ≥ (l.length : Int) - k)) = true := decide_eq_true (by omega)
      have hc2 : (decide (a + (k : Int) < (l.length : Int))) = false := decide_eq_false hin
      rw [hc, hc2, if_pos rfl, if_neg (by simp)]
      exact ⟨_, rfl, rfl⟩
theorem get_same (l : List Int) (hl : l.length ≤ 1048576) (hw : ∀ x ∈ l, (Lit.int .u8 x).wf = true) (a : Int) (ha : -9223372036854775808 ≤ a ∧ a ≤ 9223372036854775807) : ∃ r, spec_GetNum.fv l a = some r ∧ impl_GetNum.fv l a = some r := by
  rw [spec_GetNum.fv_eq, impl_GetNum.fv_eq, in_some]
  simp only [Option.bind_some]
  by_cases h : 0 ≤ a ∧ a ≤ l.length
  · rw [if_pos (by simpa using h)]
    exact get_loop l hl hw a h.1 h.2 9 0 0 (by omega) (by omega)
  · rw [if_neg (by simpa using h)]
    refine ⟨_, ?_, rfl⟩
    rw [spec_GetNum.l0v_eq, if_pos (by omega)]
    by_cases hn : a < 0
    · rw [if_pos hn, spec_GetNum.j1v_eq, if_pos rfl]
    · rw [if_neg hn, spec_GetNum.j1v_eq, if_pos (by rw [wrap_in (by omega) (by omega)]; simp; omega)]
end FnExactGetNumAid
open FnExactGetNumAid

theorem FnExactGetNum : laws_FnExactGetNum.Pure := by
  intro l a hl ha
  refine (laws_FnExactGetNum.f_lim _ _).get ?_
  rw [laws_FnExactGetNum.fv_eq]
  by_cases h : (l.length : Int) > 1048576
  · rw [if_pos h]
  · obtain ⟨r, h1, h2⟩ := get_same l (by omega) hl.2 a (wf64 ha)
    rw [if_neg h]
    simp only [to_bytes l (by omega), Option.bind_some, h1, h2, if_true, laws_FnExactGetNum.j0v_eq, eq_true l (by omega), bne_self_eq_false, Bool.false_eq_true, if_false]

end Go.Proofs.Ytakicaelepgmcaa.Pure
