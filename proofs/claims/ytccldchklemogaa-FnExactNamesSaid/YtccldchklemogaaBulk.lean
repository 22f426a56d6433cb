/- Lists that come in: how much they hold, their copies, that each is like itself; marks. For functions given by their equations. -/
import Derived.Test.YtccldchklemogaaLim
set_option linter.unusedVariables false
set_option linter.unusedSimpArgs false
namespace Go.Proofs.YtccldchklemogaaW.Bulk
open Go.RowKit Go.Proofs.YtccldchklemogaaW.PrintWords Go.Proofs.YtccldchklemogaaW.Lims

/-- What is left of l when b is taken; -1 when it does not reach. -/
def dn (b : Nat) (l : Int) : Int := if (b : Int) ≤ l then l - b else -1

theorem dn_end (l : Int) (h : 0 ≤ l) : some l = some (dn 0 l) := by simp [dn, h]
theorem dn_cut {b c : Nat} {l : Int} {R : Option Int} (h0 : 0 ≤ l) (h1 : l ≤ 1048576) (hb : b ≤ 9223372036854775807) (hK : ∀ t : Int, wrap64 (l - (b : Int)) = t → 0 ≤ t → t ≤ 1048576 → R = some (dn c t)) :
    (if wrap64 (l - (b : Int)) < 0 then some (-1) else R) = some (dn (b + c) l) := by
  have hw : wrap64 (l - (b : Int)) = l - b := wrap_in (by omega) (by omega)
  rw [hw]
  by_cases h : l - (b : Int) < 0
  · rw [if_pos h, dn, if_neg (by omega)]
  · rw [if_neg h, hK _ hw (by omega) (by omega), dn, dn]
    by_cases h' : (c : Int) ≤ l - b
    · rw [if_pos h', if_pos (by omega)]; congr 1; omega
    · rw [if_neg h', if_neg (by omega)]
theorem dn_bind {b c : Nat} {l : Int} {g : Option Int} {K : Int → Option Int} (h0 : 0 ≤ l) (h1 : l ≤ 1048576) (hg : g = some (dn b l)) (hK : ∀ t : Int, 0 ≤ t → t ≤ 1048576 → K t = some (dn c t)) :
    (g.bind fun t => if t < 0 then some (-1) else K t) = some (dn (b + c) l) := by
  rw [hg, Option.bind_some]
  by_cases h : (b : Int) ≤ l
  · have e : dn b l = l - b := if_pos h
    rw [e, if_neg (by omega), hK _ (by omega) (by omega), dn, dn]
    by_cases h' : (c : Int) ≤ l - b
    · rw [if_pos h', if_pos (by omega)]; congr 1; omega
    · rw [if_neg h', if_neg (by omega)]
  · have e : dn b l = -1 := if_neg h
    rw [e, if_pos (by omega), dn, if_neg (by omega)]

theorem dn_neg {b : Nat} {l : Int} (h : dn b l < 0) (h0 : 0 ≤ l) : l < (b : Int) := by
  unfold dn at h; split at h <;> omega
theorem dn_pos {b : Nat} {l : Int} (h : ¬ dn b l < 0) (h0 : 0 ≤ l) : (b : Int) ≤ l := by
  unfold dn at h; split at h <;> omega

theorem sz_run {A : Type} (F : List A → Int → Int → Option Int) (g : List A → Int → Int → Option Int) (bulk : A → Nat)
    (hF : ∀ x l i, F x l i = (if i < (x.length : Int) then (if 0 ≤ i then ((g x l i).bind fun t => (if t < 0 then (some (-1)) else (F x t (wrap64 (i + 1))))) else none) else some l))
    (x : List A) (hl : x.length ≤ 9223372036854775807)
    (hg : ∀ (i : Nat) (h : i < x.length) (left : Int), 0 ≤ left → left ≤ 1048576 → g x left i = some (dn (bulk x[i]) left)) (d : Nat) :
    ∀ (i : Nat), x.length - i = d → i ≤ x.length → ∀ (left : Int), 0 ≤ left → left ≤ 1048576 → F x left i = some (dn ((x.drop i).map bulk).sum left) := by
  induction d with
  | zero =>
    intro i h1 h2 left h3 h4
    rw [hF, if_neg (by omega), List.drop_of_length_le (by omega)]
    exact dn_end _ h3
  | succ d ih =>
    intro i h1 h2 left h3 h4
    have hi : i < x.length := by omega
    rw [hF, if_pos (by omega), if_pos (by omega), List.drop_eq_getElem_cons hi, List.map_cons, List.sum_cons, wrap_in (by omega) (by omega), show (i : Int) + 1 = ((i + 1 : Nat) : Int) by omega]
    exact dn_bind (K := fun t => F x t ((i + 1 : Nat) : Int)) h3 h4 (hg i hi left h3 h4) (ih (i + 1) (by omega) (by omega))

theorem sz_all {A : Type} (F : List A → Int → Int → Option Int) (g : List A → Int → Int → Option Int) (bulk : A → Nat)
    (hF : ∀ x l i, F x l i = (if i < (x.length : Int) then (if 0 ≤ i then ((g x l i).bind fun t => (if t < 0 then (some (-1)) else (F x t (wrap64 (i + 1))))) else none) else some l))
    (x : List A) (hl : x.length ≤ 9223372036854775807)
    (hg : ∀ (i : Nat) (h : i < x.length) (left : Int), 0 ≤ left → left ≤ 1048576 → g x left i = some (dn (bulk x[i]) left)) (left : Int) (h0 : 0 ≤ left) (h1 : left ≤ 1048576) :
    F x left 0 = some (dn (x.map bulk).sum left) := by
  have := sz_run F g bulk hF x hl hg x.length 0 (by omega) (by omega) left h0 h1
  rwa [List.drop_zero] at this

theorem le_sum {l : List Nat} {n : Nat} (h : n ∈ l) : n ≤ l.sum := by
  induction l with
  | nil => simp at h
  | cons a l ih =>
    rw [List.sum_cons]
    rcases List.mem_cons.1 h with rfl | h
    · omega
    · have := ih h; omega

theorem to_run {A B P : Type} (F : List A → List B → Int → Option (List B)) (g : List A → Int → Option P) (mk : P → B) (conv : A → B)
    (hF : ∀ x acc i, F x acc i = (if i < (x.length : Int) then (if 0 ≤ i then ((g x i).bind fun p => (if i < (acc.length : Int) then (F x (acc.set i.toNat (mk p)) (wrap64 (i + 1))) else none)) else none) else some acc))
    (x : List A) (hl : x.length ≤ 9223372036854775807) (hg : ∀ (i : Nat) (h : i < x.length), ∃ p, g x i = some p ∧ mk p = conv x[i]) (d : Nat) :
    ∀ (i : Nat) (rest : List B), x.length - i = d → i ≤ x.length → rest.length = x.length - i → F x ((x.take i).map conv ++ rest) (i : Int) = some (x.map conv) := by
  induction d with
  | zero =>
    intro i rest h1 h2 h3
    have : rest = [] := List.eq_nil_of_length_eq_zero (by omega)
    subst this
    rw [hF, if_neg (by omega), List.take_of_length_le (by omega), List.append_nil]
  | succ d ihd =>
    intro i rest h1 h2 h3
    have hi : i < x.length := by omega
    obtain ⟨r, rest, rfl⟩ : ∃ r rs, rest = r :: rs := by cases rest with
      | nil => simp at h3; omega
      | cons r rs => exact ⟨r, rs, rfl⟩
    obtain ⟨p, hp, hc⟩ := hg i hi
    have hlen : ((x.take i).map conv).length = i := by simp; omega
    rw [hF, if_pos (by omega), if_pos (by omega), hp, Option.bind_some, if_pos (by simp; omega), wrap_in (by omega) (by omega), show (i : Int) + 1 = ((i + 1 : Nat) : Int) by omega, Int.toNat_natCast, hc]
    have e : ((x.take i).map conv ++ r :: rest).set i (conv x[i]) = (x.take (i + 1)).map conv ++ rest := by
      rw [List.set_append_right _ _ (by omega), hlen, Nat.sub_self, List.set_cons_zero, List.take_succ_eq_append_getElem hi, List.map_append, List.append_assoc]
      simp
    rw [e]
    exact ihd (i + 1) rest (by omega) (by omega) (by simp at h3; omega)

theorem to_all {A B P : Type} (F : List A → List B → Int → Option (List B)) (g : List A → Int → Option P) (mk : P → B) (conv : A → B)
    (hF : ∀ x acc i, F x acc i = (if i < (x.length : Int) then (if 0 ≤ i then ((g x i).bind fun p => (if i < (acc.length : Int) then (F x (acc.set i.toNat (mk p)) (wrap64 (i + 1))) else none)) else none) else some acc))
    (x : List A) (hl : x.length ≤ 9223372036854775807) (hg : ∀ (i : Nat) (h : i < x.length), ∃ p, g x i = some p ∧ mk p = conv x[i]) (z : B) :
    F x (List.replicate x.length z) 0 = some (x.map conv) := by
  have := to_run F g mk conv hF x hl hg x.length 0 (List.replicate x.length z) (by omega) (by omega) (by simp)
  simpa using this

theorem eq_run {B : Type} (F : List B → List B → Int → Option Bool) (g : List B → List B → Int → Option Bool)
    (hF : ∀ x y i, F x y i = (if i < (x.length : Int) then (if 0 ≤ i then (if i < (y.length : Int) then ((g x y i).bind fun t => (if t = true then (F x y (wrap64 (i + 1))) else (some false))) else none) else none) else some true))
    (x : List B) (hl : x.length ≤ 9223372036854775807) (hg : ∀ (i : Nat) (h : i < x.length), g x x i = some true) (d : Nat) :
    ∀ i : Nat, x.length - i = d → i ≤ x.length → F x x i = some true := by
  induction d with
  | zero =>
    intro i h1 h2
    rw [hF, if_neg (by omega)]
  | succ d ihd =>
    intro i h1 h2
    rw [hF, if_pos (by omega), if_pos (by omega), if_pos (by omega), hg i (by omega), Option.bind_some, if_pos rfl, wrap_in (by omega) (by omega), show (i : Int) + 1 = ((i + 1 : Nat) : Int) by omega]
    exact ihd (i + 1) (by omega) (by omega)

theorem eq_all {B : Type} (F : List B → List B → Int → Option Bool) (g : List B → List B → Int → Option Bool)
    (hF : ∀ x y i, F x y i = (if i < (x.length : Int) then (if 0 ≤ i then (if i < (y.length : Int) then ((g x y i).bind fun t => (if t = true then (F x y (wrap64 (i + 1))) else (some false))) else none) else none) else some true))
    (x : List B) (hl : x.length ≤ 9223372036854775807) (hg : ∀ (i : Nat) (h : i < x.length), g x x i = some true) : F x x 0 = some true :=
  eq_run F g hF x hl hg x.length 0 (by omega) (by omega)

/-- Marks in a row, each element by its own number; what is marked is held. -/
theorem mark_run {B : Type} (F : List B → Int → Int → Option (Int × List B)) (s : Nat) (val : Int → B) (top : Int)
    (hF : ∀ (x : List B) (n : Int) (i : Nat), i < x.length → x.length ≤ 2000000 → 0 < n → n ≤ top → F x n (i : Int) = F (x.set i (val n)) (n + s) ((i + 1 : Nat) : Int))
    (hE : ∀ (x : List B) (n : Int) (i : Nat), ¬ i < x.length → F x n (i : Int) = some (n, x)) (d : Nat) :
    ∀ (x : List B) (n : Int) (i : Nat), x.length - i = d → i ≤ x.length → x.length ≤ 2000000 → 0 < n → n + s * d ≤ top →
      ∃ m, F x n i = some (n + s * d, m) ∧ m.length = x.length ∧ (∀ (j : Nat), j < i → m[j]? = x[j]?) ∧ ∀ j : Nat, i ≤ j → j < x.length → m[j]? = some (val (n + s * (j - i : Nat))) := by
  induction d with
  | zero =>
    intro x n i h1 h2 h3 h4 h5
    refine ⟨x, by rw [hE x n i (by omega)]; simp, rfl, fun _ _ => rfl, fun j h h' => by omega⟩
  | succ d ih =>
    intro x n i h1 h2 h3 h4 h5
    have hs : ((s : Int) * ((d + 1 : Nat) : Int)) = s + s * d := by rw [Int.natCast_succ, Int.mul_add, Int.mul_one, Int.add_comm]
    have hp : (0 : Int) ≤ s * d := Int.mul_nonneg (by omega) (by omega)
    obtain ⟨m, e1, e2, e3, e4⟩ := ih (x.set i (val n)) (n + s) (i + 1) (by simp; omega) (by simp; omega) (by simpa using h3) (by omega) (by omega)
    refine ⟨m, ?_, by simpa using e2, fun j hj => ?_, fun j hj hj' => ?_⟩
    · rw [hF x n i (by omega) h3 h4 (by omega), e1, hs]; congr 2; omega
    · rw [e3 j (by omega), List.getElem?_set_ne (by omega)]
    · by_cases hji : j = i
      · subst hji
        rw [e3 j (by omega), List.getElem?_set_self (by omega)]; simp
      · rw [e4 j (by omega) (by simpa using hj')]
        have : (((j - i : Nat) : Int)) = 1 + ((j - (i + 1) : Nat) : Int) := by omega
        rw [this, Int.mul_add, Int.mul_one, ← Int.add_assoc]

theorem held_run {B : Type} (G : List B → Int → Int → Option Int) (s : Nat) (val : Int → B) (top : Int)
    (hG : ∀ (x : List B) (n : Int) (i : Nat), i < x.length → x.length ≤ 2000000 → x[i]? = some (val n) → 0 < n → n ≤ top → G x n (i : Int) = G x (n + s) ((i + 1 : Nat) : Int))
    (hE : ∀ (x : List B) (n : Int) (i : Nat), ¬ i < x.length → G x n (i : Int) = some n) (d : Nat) :
    ∀ (m : List B) (n : Int) (i : Nat), m.length - i = d → i ≤ m.length → m.length ≤ 2000000 → 0 < n → n + s * d ≤ top →
      (∀ j : Nat, i ≤ j → j < m.length → m[j]? = some (val (n + s * (j - i : Nat)))) → G m n i = some (n + s * d) := by
  induction d with
  | zero =>
    intro x n i h1 h2 h3 h4 h5 h6
    rw [hE x n i (by omega)]; simp
  | succ d ih =>
    intro x n i h1 h2 h3 h4 h5 h6
    have hs : ((s : Int) * ((d + 1 : Nat) : Int)) = s + s * d := by rw [Int.natCast_succ, Int.mul_add, Int.mul_one, Int.add_comm]
    have hp : (0 : Int) ≤ s * d := Int.mul_nonneg (by omega) (by omega)
    have h0 := h6 i (by omega) (by omega)
    rw [Nat.sub_self] at h0
    rw [hG x n i (by omega) h3 (by simpa using h0) h4 (by omega), ih x (n + s) (i + 1) (by omega) (by omega) h3 (by omega) (by omega) (fun j hj hj' => ?_), hs, Int.add_assoc]
    rw [h6 j (by omega) hj']
    have : (((j - i : Nat) : Int)) = 1 + ((j - (i + 1) : Nat) : Int) := by omega
    rw [this, Int.mul_add, Int.mul_one, ← Int.add_assoc]

theorem mark_held {B : Type} (F : List B → Int → Int → Option (Int × List B)) (G : List B → Int → Int → Option Int) (s : Nat) (val : Int → B) (top : Int)
    (hF : ∀ (x : List B) (n : Int) (i : Nat), i < x.length → x.length ≤ 2000000 → 0 < n → n ≤ top → F x n (i : Int) = F (x.set i (val n)) (n + s) ((i + 1 : Nat) : Int))
    (hE : ∀ (x : List B) (n : Int) (i : Nat), ¬ i < x.length → F x n (i : Int) = some (n, x))
    (hG : ∀ (x : List B) (n : Int) (i : Nat), i < x.length → x.length ≤ 2000000 → x[i]? = some (val n) → 0 < n → n ≤ top → G x n (i : Int) = G x (n + s) ((i + 1 : Nat) : Int))
    (hE' : ∀ (x : List B) (n : Int) (i : Nat), ¬ i < x.length → G x n (i : Int) = some n)
    (x : List B) (n : Int) (h3 : x.length ≤ 2000000) (h4 : 0 < n) (h5 : n + s * x.length ≤ top) :
    ∃ m, F x n 0 = some (n + s * x.length, m) ∧ G m n 0 = some (n + s * x.length) ∧ m.length = x.length := by
  obtain ⟨m, e1, e2, e3, e4⟩ := mark_run F s val top hF hE x.length x n 0 (by omega) (by omega) h3 h4 h5
  refine ⟨m, e1, ?_, e2⟩
  have := held_run G s val top hG hE' x.length m n 0 (by omega) (by omega) (by omega) h4 h5 (fun j h h' => e4 j h (by omega))
  exact this
end Go.Proofs.YtccldchklemogaaW.Bulk
