/- The program's Keyword returns what the reference's returns, for every text. -/
import Derived.Test.YtakicaelepgmcaaQFnExactKeywordx2
import Derived.Test.YtakicaelepgmcaaLim
namespace Go.Proofs.Ytakicaelepgmcaa.Pure
open Go.RowKit Go.Proofs.Ytakicaelepgmcaa.QFnExactKeyword Go.Proofs.YtakicaelepgmcaaW.PrintWords Go.Proofs.YtakicaelepgmcaaW.PrintLast Go.Proofs.YtakicaelepgmcaaW.PrintMore Go.Proofs.YtakicaelepgmcaaW.Lims
namespace FnExactKeywordAid

theorem within_loop (l : List ByteArray) (s : ByteArray) (hl : l.length ≤ 1000000) (d : Nat) : ∀ i : Nat, l.length - i = d → i ≤ l.length →
    spec_l7Within.l0v l s (i : Int) = some (decide (s.toList ∈ (l.drop i).map ByteArray.toList)) := by
  induction d with
  | zero =>
    intro i h1 h2
    rw [spec_l7Within.l0v_eq, if_neg (by omega), List.drop_of_length_le (by omega)]
    simp
  | succ d ih =>
    intro i h1 h2
    have hi : i < l.length := by omega
    rw [spec_l7Within.l0v_eq, if_pos (by omega), if_pos (by omega), rdOf_nat _ l i hi, wrap_in (by omega) (by omega), show (i : Int) + 1 = ((i + 1 : Nat) : Int) by omega, ih (i + 1) (by omega) (by omega)]
    rw [List.drop_eq_getElem_cons hi, List.map_cons]
    by_cases h : l[i].toList = s.toList
    · rw [if_pos h, h]; congr 1; exact (decide_eq_true List.mem_cons_self).symm
    · rw [if_neg h]; congr 1; rw [decide_eq_decide, List.mem_cons]; exact ⟨Or.inr, fun e => e.resolve_left (fun e => h e.symm)⟩
theorem within (l : List ByteArray) (s : ByteArray) (hl : l.length ≤ 1000000) : spec_l7Within.fv l s = some (decide (s.toList ∈ l.map ByteArray.toList)) := by
  rw [spec_l7Within.fv_eq]
  exact within_loop l s hl l.length 0 (by omega) (by omega)
theorem index_loop (l : List ByteArray) (s : ByteArray) (hl : l.length ≤ 1000000) (d : Nat) : ∀ i : Nat, l.length - i = d → i ≤ l.length →
    ∃ r : Int, slices_Index_string_string.l0v l s (l.length : Int) (i : Int) = some r ∧ (r ≥ 0 ↔ s.toList ∈ (l.drop i).map ByteArray.toList) := by
  induction d with
  | zero =>
    intro i h1 h2
    exact ⟨-1, by rw [slices_Index_string_string.l0v_eq, if_neg (by omega)], by rw [List.drop_of_length_le (by omega)]; simp⟩
  | succ d ih =>
    intro i h1 h2
    have hi : i < l.length := by omega
    obtain ⟨r, hr, he⟩ := ih (i + 1) (by omega) (by omega)
    rw [slices_Index_string_string.l0v_eq, if_pos (by omega), if_pos (by omega), if_pos (by omega), rdOf_nat _ l i hi, wrap_in (by omega) (by omega), show (i : Int) + 1 = ((i + 1 : Nat) : Int) by omega]
    rw [List.drop_eq_getElem_cons hi, List.map_cons]
    by_cases h : s.toList = l[i].toList
    · exact ⟨i, by rw [if_pos h], ⟨fun _ => by rw [h]; exact List.mem_cons_self, fun _ => by omega⟩⟩
    · exact ⟨r, by rw [if_neg h]; exact hr, by rw [he, List.mem_cons]; exact ⟨Or.inr, fun e => e.resolve_left h⟩⟩
theorem contains (l : List ByteArray) (s : ByteArray) (hl : l.length ≤ 1000000) : slices_Contains_string_string.fv l s = some (decide (s.toList ∈ l.map ByteArray.toList)) := by
  rw [slices_Contains_string_string.fv_eq, slices_Index_string_string.fv_eq]
  obtain ⟨r, hr, he⟩ := index_loop l s hl l.length 0 (by omega) (by omega)
  have hr' : slices_Index_string_string.l0v l s (l.length : Int) 0 = some r := hr
  rw [hr']
  simp only [Option.bind_some]
  congr 1
  rw [decide_eq_decide]
  exact he
theorem jl {k l : List UInt8} {X C : Option Bool} : (if k = l then (if (k == l) = true then some true else C) else X) = if k = l then some true else X := by
  by_cases h : k = l
  · subst h; simp
  · rw [if_neg h, if_neg h]
theorem jz {k l : List UInt8} {C : Option Bool} : (if (k == l) = true then some true else C) = if k = l then some true else C := by
  by_cases h : k = l
  · subst h; simp
  · rw [if_neg h, if_neg (by simpa using h)]
theorem or_ite {p q : Prop} [Decidable p] [Decidable q] {a X : Option Bool} : (if p then a else if q then a else X) = if p ∨ q then a else X := by
  by_cases h : p <;> by_cases h2 : q <;> simp [h, h2]
theorem bind_ite {p : Prop} [Decidable p] {X : Option Bool} : ((some (decide p)).bind fun t => if t = true then some true else X) = if p then some true else X := by
  by_cases h : p <;> simp [h]
def words : List (List UInt8) := [[66, 69, 71, 73, 78], [112, 114, 105, 110, 116], [105, 102], [101, 108, 115, 101], [119, 104, 105, 108, 101], [110, 101, 120, 116], [100, 101, 108, 101, 116, 101], [78, 82], [78, 70]]
def callws : List (List UInt8) := [[108, 101, 110, 103, 116, 104], [115, 117, 98, 115, 116, 114], [105, 110, 100, 101, 120], [105, 110, 116], [117, 112, 112, 101, 114], [108, 111, 119, 101, 114]]
/-- Is a text one of the words that are no names? -/
def isKey (k : List UInt8) : Bool := decide (k ∈ words ∨ k ∈ callws)
theorem spec_key (s : ByteArray) : spec_Keyword.fv s = some (isKey s.toList) := by
  rw [spec_Keyword.fv_eq]
  simp only [spec_l7Calls.f, Option.bind_some]
  rw [within _ _ (by simp), within _ _ (by simp)]
  simp only [List.map_cons, List.map_nil, Go.ByteArray.toList_mk]
  rw [bind_ite]
  simp only [Option.bind_some]
  show (if s.toList ∈ words then some true else some (decide (s.toList ∈ callws))) = _
  unfold isKey
  by_cases h : s.toList ∈ words
  · rw [if_pos h]; simp [h]
  · rw [if_neg h]; simp [h]
theorem impl_key (s : ByteArray) : impl_Keyword.fv s = some (isKey s.toList) := by
  rw [impl_Keyword.fv_eq]
  simp only [impl_Keyword.j0v_eq, impl_calls.f, Option.bind_some]
  rw [contains _ _ (by simp)]
  simp only [List.map_cons, List.map_nil, Go.ByteArray.toList_mk]
  simp only [jl, jz]
  simp only [Option.bind_some]
  unfold isKey
  have e : (s.toList ∈ words) ↔ (s.toList = [66, 69, 71, 73, 78] ∨ s.toList = [112, 114, 105, 110, 116] ∨ s.toList = [105, 102] ∨ s.toList = [101, 108, 115, 101] ∨ s.toList = [119, 104, 105, 108, 101] ∨ s.toList = [110, 101, 120, 116] ∨ s.toList = [100, 101, 108, 101, 116, 101] ∨ s.toList = [78, 82] ∨ s.toList = [78, 70]) := by
    simp only [words, List.mem_cons, List.not_mem_nil, or_false]
  by_cases h : s.toList ∈ words
  · rcases e.1 h with g | g | g | g | g | g | g | g | g <;> (rw [g]; rfl)
  · have h2 := h
    rw [e] at h2
    simp only [not_or] at h2
    obtain ⟨h1, h2, h3, h4, h5, h6, h7, h8, h9⟩ := h2
    rw [if_neg h1, if_neg h2, if_neg h3, if_neg h4, if_neg h5, if_neg h6, if_neg h7, if_neg h8, if_neg h9]
    show some (decide (s.toList ∈ callws)) = _
    simp [h]
end FnExactKeywordAid
open FnExactKeywordAid

theorem FnExactKeyword : laws_FnExactKeyword.Pure := by
  intro s hs
  refine (laws_FnExactKeyword.f_lim _).get ?_
  rw [laws_FnExactKeyword.fv_eq]
  simp only [spec_key, impl_key, Option.bind_some]
  split
  · rfl
  · simp

end Go.Proofs.Ytakicaelepgmcaa.Pure
