/- Functions by rounds, without the rounds: what they come to in the end, and how that is put together. -/
import Derived.Test.YtccldchklemogaaMw
import Derived.Laws.BitsLemmas
import Derived.Laws.Cover1
set_option linter.unusedVariables false
set_option linter.unusedSimpArgs false
namespace Go.Proofs.YtccldchklemogaaW.Lims
open Go.Proofs.YtccldchklemogaaW.PrintWords

/-- g tells the more, the more rounds it has; v is what it comes to. -/
structure Lim {α : Type} (g : Nat → Option α) (v : Option α) : Prop where
  mono : ∀ k, LeO (g k) (g (k + 1))
  iff : ∀ r, v = some r ↔ ∃ k, g k = some r

open Classical in
noncomputable def limOf {α : Type} (g : Nat → Option α) : Option α := if h : ∃ k r, g k = some r then g (Classical.choose h) else none

theorem mono_le {α : Type} {g : Nat → Option α} (h : ∀ k, LeO (g k) (g (k + 1))) {k m : Nat} (hm : k ≤ m) : LeO (g k) (g m) := by
  obtain ⟨j, rfl⟩ := Nat.exists_eq_add_of_le hm
  induction j with
  | zero => exact fun _ h => h
  | succ j ih => exact fun r hr => h (k + j) r (ih (by omega) r hr)

theorem mono_det {α : Type} {g : Nat → Option α} (h : ∀ k, LeO (g k) (g (k + 1))) {k m : Nat} {r s : α} (hk : g k = some r) (hm : g m = some s) : r = s := by
  have h1 := mono_le h (Nat.le_max_left k m) r hk
  have h2 := mono_le h (Nat.le_max_right k m) s hm
  rw [h1] at h2
  exact Option.some.inj h2

theorem Lim.of {α : Type} {g : Nat → Option α} (h : ∀ k, LeO (g k) (g (k + 1))) : Lim g (limOf g) := by
  refine ⟨h, fun r => ?_⟩
  unfold limOf
  by_cases hx : ∃ k r, g k = some r
  · rw [dif_pos hx]
    constructor
    · exact fun e => ⟨_, e⟩
    · rintro ⟨k, hk⟩
      obtain ⟨s, hs⟩ := Classical.choose_spec hx
      rw [hs, mono_det h hs hk]
  · rw [dif_neg hx]
    exact ⟨fun e => by simp at e, fun ⟨k, hk⟩ => absurd ⟨k, r, hk⟩ hx⟩

theorem Lim.const {α : Type} (v : Option α) : Lim (fun _ => v) v := ⟨fun _ _ h => h, fun _ => ⟨fun h => ⟨0, h⟩, fun ⟨_, h⟩ => h⟩⟩

theorem Lim.ite {α : Type} {c : Prop} [Decidable c] {g h : Nat → Option α} {v w : Option α} (hg : Lim g v) (hh : Lim h w) : Lim (fun k => if c then g k else h k) (if c then v else w) := by
  by_cases hc : c
  · simp only [if_pos hc]; exact hg
  · simp only [if_neg hc]; exact hh

theorem Lim.bind {α β : Type} {g : Nat → Option α} {h : α → Nat → Option β} {v : Option α} {w : α → Option β} (hg : Lim g v) (hh : ∀ a, Lim (h a) (w a)) : Lim (fun k => (g k).bind (fun a => h a k)) (v.bind w) := by
  refine ⟨fun k r hr => ?_, fun r => ⟨fun e => ?_, ?_⟩⟩
  · obtain ⟨a, h1, h2⟩ := Option.bind_eq_some_iff.1 hr
    exact Option.bind_eq_some_iff.2 ⟨a, hg.mono k a h1, (hh a).mono k r h2⟩
  · obtain ⟨a, h1, h2⟩ := Option.bind_eq_some_iff.1 e
    obtain ⟨k, hk⟩ := (hg.iff a).1 h1
    obtain ⟨m, hm⟩ := ((hh a).iff r).1 h2
    exact ⟨max k m, Option.bind_eq_some_iff.2 ⟨a, mono_le hg.mono (Nat.le_max_left k m) a hk, mono_le (hh a).mono (Nat.le_max_right k m) r hm⟩⟩
  · rintro ⟨k, hk⟩
    obtain ⟨a, h1, h2⟩ := Option.bind_eq_some_iff.1 hk
    exact Option.bind_eq_some_iff.2 ⟨a, (hg.iff a).2 ⟨k, h1⟩, ((hh a).iff r).2 ⟨k, h2⟩⟩

theorem Lim.eq {α : Type} {g : Nat → Option α} {v w : Option α} (h : Lim g v) (h' : Lim g w) : v = w := by
  cases v with
  | none =>
    cases w with
    | none => rfl
    | some r => exact ((h.iff r).2 ((h'.iff r).1 rfl))
  | some r => exact ((h'.iff r).2 ((h.iff r).1 rfl)).symm

theorem Lim.succ {α : Type} {g : Nat → Option α} {v w : Option α} (h : Lim g v) (h' : Lim (fun k => g (k + 1)) w) : v = w := by
  refine Lim.eq h ⟨h.mono, fun r => (h'.iff r).trans ⟨fun ⟨k, hk⟩ => ⟨k + 1, hk⟩, fun ⟨k, hk⟩ => ⟨k, h.mono k r hk⟩⟩⟩

/-- With rounds enough it says so. -/
theorem Lim.get {α : Type} {g : Nat → Option α} {v : Option α} {r : α} (h : Lim g v) (e : v = some r) : ∃ k, g k = some r := (h.iff r).1 e

/-! ### numbers -/
open Go.RowKit
theorem wf64 {n : Int} (h : (Lit.int .i64 n).wf = true) : -9223372036854775808 ≤ n ∧ n ≤ 9223372036854775807 := by
  simp only [Lit.wf, Bool.and_eq_true, decide_eq_true_eq] at h
  exact h
theorem wf8 {n : Int} (h : (Lit.int .u8 n).wf = true) : 0 ≤ n ∧ n ≤ 255 := by
  simp only [Lit.wf, Bool.and_eq_true, decide_eq_true_eq] at h
  exact h
theorem wrap_in {n : Int} (h : -9223372036854775808 ≤ n) (h' : n ≤ 9223372036854775807) : wrap64 n = n := by unfold wrap64; omega
theorem len_le {n : Nat} (h : n ≤ maxLen) : n ≤ 9223372036854775807 := by unfold maxLen at h; omega
theorem rd_set (l : List Int) (i j : Nat) (v : Int) (h : i < l.length) : rd (l.set i v) (j : Int) = if j = i then v else rd l (j : Int) := by
  unfold rd
  simp only [Int.toNat_natCast, List.getD_eq_getElem?_getD, List.getElem?_set]
  by_cases e : i = j
  · subst e; simp [h]
  · simp [e, Ne.symm e]
theorem rd_nat (l : List Int) (i : Nat) (h : i < l.length) : rd l (i : Int) = l[i] := by
  unfold rd
  simp [List.getD_eq_getElem?_getD, h]
theorem rdOf_nat {α : Type} (d : α) (l : List α) (i : Nat) (h : i < l.length) : rdOf d l (i : Int) = l[i] := by
  unfold rdOf
  simp [List.getD_eq_getElem?_getD, h]
end Go.Proofs.YtccldchklemogaaW.Lims
