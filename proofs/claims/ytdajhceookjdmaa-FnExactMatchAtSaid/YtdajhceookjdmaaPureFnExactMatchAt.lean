/- The program's MatchAt answers as the reference's, for all arguments. -/
import Derived.Test.YtdajhceookjdmaaFFnExactMatchAt
import Derived.Test.YtdajhceookjdmaaBulk
import Derived.Lib.IndexAny
set_option linter.unusedVariables false
set_option linter.unusedSimpArgs false
namespace Go.Proofs.Ytdajhceookjdmaa.Pure
open Go.RowKit Go.Proofs.Ytdajhceookjdmaa.QFnExactMatchAt Go.Proofs.YtdajhceookjdmaaW.PrintWords Go.Proofs.YtdajhceookjdmaaW.PrintLast Go.Proofs.YtdajhceookjdmaaW.PrintMore Go.Proofs.YtdajhceookjdmaaW.Lims
open Go.Proofs.YtdajhceookjdmaaW.Bulk
namespace FnExactMatchAtAid

theorem rdin59 (xs : List S59) (i : Nat) (h : i < xs.length) : rd_T59 xs (i : Int) = xs[i] := by
  unfold rd_T59
  simp [List.getD_eq_getElem?_getD, h]

theorem rdin62 (xs : List S62) (i : Nat) (h : i < xs.length) : rd_T62 xs (i : Int) = xs[i] := by
  unfold rd_T62
  simp [List.getD_eq_getElem?_getD, h]

def bl_Place (x : S59) : Nat := (x.f2.size + 0)
theorem sz_Place (x : S59) (hx : Wf59 x) (left : Int) (h0 : 0 ≤ left) (h1 : left ≤ 1048576) : laws_szPlace.f (x.f0) (x.f1) (x.f2) (x.f3) (x.f4) (x.f5) left = some (dn (bl_Place x) left) := by
  unfold laws_szPlace.f
  show _ = some (dn (x.f2.size + 0) left)
  refine dn_cut h0 h1 (len_le hx.2.2.1) fun t ht h0 h1 => ?_
  rw [ht]
  exact dn_end _ h0

def bls_Place (l : List S59) : Nat := l.length + (l.map bl_Place).sum
theorem sz_PlaceS (l : List S59) (hx : l.length ≤ maxLen ∧ ∀ x_ ∈ l, Wf59 x_) (left : Int) (h0 : 0 ≤ left) (h1 : left ≤ 1048576) : laws_szPlaceS.fv l left = some (dn (bls_Place l) left) := by
  rw [laws_szPlaceS.fv_eq]
  have hl := len_le hx.1
  refine dn_cut h0 h1 hl fun t ht h0 h1 => ?_
  rw [ht]
  exact sz_all laws_szPlaceS.l0v (fun x0 x1 x5 => (laws_szPlace.f ((rd_T59 x0 x5).f0) ((rd_T59 x0 x5).f1) ((rd_T59 x0 x5).f2) ((rd_T59 x0 x5).f3) ((rd_T59 x0 x5).f4) ((rd_T59 x0 x5).f5) x1)) bl_Place (by intro x l i; exact laws_szPlaceS.l0v_eq x l i) l hl (fun i h left h0 h1 => by simp only [rdin59 l i h]; exact sz_Place l[i] (hx.2 _ (List.getElem_mem h)) left h0 h1) t h0 h1

def cv_Place (x : S59) : S62 := ⟨x.f0, x.f1, x.f2, x.f3, x.f4, x.f5⟩
theorem to_Place (x : S59) (hb : bl_Place x ≤ 1048576) : laws_toPlace.f (x.f0) (x.f1) (x.f2) (x.f3) (x.f4) (x.f5) = some ((cv_Place x).f0, (cv_Place x).f1, (cv_Place x).f2, (cv_Place x).f3, (cv_Place x).f4, (cv_Place x).f5) := by
  unfold bl_Place at hb
  unfold laws_toPlace.f
  all_goals rfl

theorem to_PlaceS (l : List S59) (hb : bls_Place l ≤ 1048576) : laws_toPlaceS.fv l = some (l.map cv_Place) := by
  have hb' := hb
  unfold bls_Place at hb'
  rw [laws_toPlaceS.fv_eq, if_pos (by omega), if_pos (by omega)]
  have := to_all laws_toPlaceS.l0v (fun x0 x4 => (laws_toPlace.f ((rd_T59 x0 x4).f0) ((rd_T59 x0 x4).f1) ((rd_T59 x0 x4).f2) ((rd_T59 x0 x4).f3) ((rd_T59 x0 x4).f4) ((rd_T59 x0 x4).f5))) (fun t20 => (⟨t20.1, t20.2.1, t20.2.2.1, t20.2.2.2.1, t20.2.2.2.2.1, t20.2.2.2.2.2⟩ : S62)) cv_Place (by intro x acc i; exact laws_toPlaceS.l0v_eq x acc i) l (by omega) (fun i h => by
    have hm := le_sum (List.mem_map_of_mem (f := bl_Place) (List.getElem_mem h))
    simp only [rdin59 l i h]; exact ⟨_, to_Place l[i] (by omega), rfl⟩) z62
  simpa using this

theorem eq_Place (y : S62) : laws_eqPlace.f (y.f0) (y.f1) (y.f2) (y.f3) (y.f4) (y.f5) (y.f0) (y.f1) (y.f2) (y.f3) (y.f4) (y.f5) = some true := by
  unfold laws_eqPlace.f
  simp

theorem eq_PlaceS (l : List S62) (h : l.length ≤ 9223372036854775807) : laws_eqPlaceS.fv l l = some true := by
  rw [laws_eqPlaceS.fv_eq, if_pos rfl]
  exact eq_all laws_eqPlaceS.l0v (fun x0 x1 x5 => (laws_eqPlace.f ((rd_T62 x0 x5).f0) ((rd_T62 x0 x5).f1) ((rd_T62 x0 x5).f2) ((rd_T62 x0 x5).f3) ((rd_T62 x0 x5).f4) ((rd_T62 x0 x5).f5) ((rd_T62 x1 x5).f0) ((rd_T62 x1 x5).f1) ((rd_T62 x1 x5).f2) ((rd_T62 x1 x5).f3) ((rd_T62 x1 x5).f4) ((rd_T62 x1 x5).f5))) (by intro x y i; exact laws_eqPlaceS.l0v_eq x y i) l h (fun i hi => by simp only [rdin62 l i hi]; exact eq_Place l[i])


/-! ### what is reached from some places -/
inductive Rch (n : Nat) (nx : Int → List Int) (S : Int → Prop) : Int → Prop
  | base {i : Int} (h : S i) (h0 : 0 ≤ i) (h1 : i < n) : Rch n nx S i
  | step {i j : Int} (h : Rch n nx S i) (hj : j ∈ nx i) (h0 : 0 ≤ j) (h1 : j < n) : Rch n nx S j
theorem rch_in {n : Nat} {nx : Int → List Int} {S : Int → Prop} {i : Int} (h : Rch n nx S i) : 0 ≤ i ∧ i < n := by cases h <;> exact ⟨by assumption, by assumption⟩
theorem rch_min {n : Nat} {nx : Int → List Int} {S : Int → Prop} {X : Int → Prop} (h0 : ∀ i, S i → 0 ≤ i → i < n → X i) (h1 : ∀ i, X i → ∀ j ∈ nx i, 0 ≤ j → j < n → X j) {i : Int} (h : Rch n nx S i) : X i := by
  induction h with
  | base h a b => exact h0 _ h a b
  | step _ hj a b ih => exact h1 _ ih _ hj a b
/-- How many places are not marked. -/
def blanks (l : List Bool) : Nat := l.countP (· == false)
theorem blanks_set : ∀ (l : List Bool) (i : Nat), l[i]? = some false → blanks (l.set i true) + 1 = blanks l
  | [], i, h => by simp at h
  | b :: l, 0, h => by simp at h; subst h; simp [blanks]
  | b :: l, i + 1, h => by
    have := blanks_set l i (by simpa using h)
    unfold blanks at *
    simp only [List.set_cons_succ, List.countP_cons]
    omega
theorem blanks_le (l : List Bool) : blanks l ≤ l.length := List.countP_le_length
theorem blanks_rep (n : Nat) : blanks (List.replicate n false) = n := by simp [blanks, List.countP_replicate]
def Mk (l : List Bool) (i : Int) : Prop := 0 ≤ i ∧ l[i.toNat]? = some true
theorem mk_lt {l : List Bool} {i : Int} (h : Mk l i) : i < (l.length : Int) := by
  have := (List.getElem?_eq_some_iff.1 h.2).1
  have := h.1
  omega
theorem rdb {l : List Bool} {i : Int} (h0 : 0 ≤ i) (h1 : i < (l.length : Int)) : l[i.toNat]? = some (rdOf false l i) := by
  have h : i.toNat < l.length := by omega
  unfold rdOf
  simp [List.getD, h]
theorem mk_rd {l : List Bool} {i : Int} (h0 : 0 ≤ i) (h1 : i < (l.length : Int)) : rdOf false l i = true ↔ Mk l i := by
  have := rdb h0 h1
  constructor
  · intro h; exact ⟨h0, by rw [this, h]⟩
  · intro h; have h2 := h.2; rw [this] at h2; exact Option.some.inj h2
theorem mk_set {l : List Bool} {k i : Int} (h0 : 0 ≤ k) (h1 : k < (l.length : Int)) : Mk (l.set k.toNat true) i ↔ i = k ∨ Mk l i := by
  unfold Mk
  rw [List.getElem?_set]
  by_cases e : k.toNat = i.toNat
  · rw [if_pos e, if_pos (by omega)]
    constructor
    · intro h; left; omega
    · rintro (h | h)
      · subst h; exact ⟨h0, rfl⟩
      · exact ⟨h.1, rfl⟩
  · rw [if_neg e]
    constructor
    · exact .inr
    · rintro (h | h)
      · subst h; exact absurd rfl e
      · exact h
theorem rdi {l : List Int} {i : Int} (h0 : 0 ≤ i) (h1 : i < (l.length : Int)) : l[i.toNat]? = some (rdOf (0 : Int) l i) := by
  have h : i.toNat < l.length := by omega
  unfold rdOf
  simp [List.getD, h]
theorem mem_rdi {l : List Int} {i : Int} (h0 : 0 ≤ i) (h1 : i < (l.length : Int)) : rdOf (0 : Int) l i ∈ l := List.mem_iff_getElem?.2 ⟨_, rdi h0 h1⟩
/-- The marked places, in order. -/
def marked (l : List Bool) (k : Nat) : List Int := ((List.range' k (l.length - k)).filter fun i => l.getD i false).map fun i : Nat => (i : Int)
theorem marked_mem {l : List Bool} {i : Int} : i ∈ marked l 0 ↔ Mk l i := by
  unfold marked Mk
  simp only [List.mem_map, List.mem_filter, List.mem_range'_1]
  constructor
  · rintro ⟨k, ⟨⟨h1, h2⟩, h3⟩, rfl⟩
    refine ⟨by omega, ?_⟩
    have hk : k < l.length := by omega
    simp [List.getD, hk] at h3
    simp [hk, h3]
  · rintro ⟨h0, h1⟩
    have hk := (List.getElem?_eq_some_iff.1 h1).1
    refine ⟨i.toNat, ⟨⟨by omega, by omega⟩, ?_⟩, by omega⟩
    simp [List.getD, h1]
theorem marked_sorted (l : List Bool) (k : Nat) : (marked l k).Pairwise (· < ·) := by
  unfold marked
  rw [List.pairwise_map]
  refine List.Pairwise.imp (R := (· < ·)) (fun h => by omega) ?_
  exact List.Pairwise.filter _ List.pairwise_lt_range'
/-- Sorted, what has each marked place once is the marked places in order. -/
theorem sort_marked {l : List Bool} {out : List Int} (hn : out.Nodup) (hm : ∀ i, i ∈ out ↔ Mk l i) : (out.mergeSort fun x y => decide (x ≤ y)) = marked l 0 := by
  have hs : (out.mergeSort fun x y => decide (x ≤ y)).Pairwise (fun a b => decide (a ≤ b) = true) := List.pairwise_mergeSort (fun a b c h1 h2 => by simp at *; omega) (fun a b => by simp; omega) out
  have hp : (out.mergeSort fun x y => decide (x ≤ y)).Perm (marked l 0) := by
    refine (List.mergeSort_perm _ _).trans ?_
    refine (List.perm_ext_iff_of_nodup hn ?_).2 fun i => (hm i).trans marked_mem.symm
    exact List.Pairwise.imp (fun h => by omega) (marked_sorted l 0)
  refine List.Perm.eq_of_pairwise (le := fun a b => a ≤ b) (fun a b _ _ h1 h2 => by omega) (List.Pairwise.imp (fun h => by simpa using h) hs) (List.Pairwise.imp (fun h => by omega) (marked_sorted l 0)) hp
theorem marked_step {l : List Bool} {k : Nat} (h : k < l.length) : marked l k = if rdOf false l (k : Int) = true then (k : Int) :: marked l (k + 1) else marked l (k + 1) := by
  unfold marked rdOf
  rw [show l.length - k = (l.length - (k + 1)) + 1 by omega, List.range'_succ, List.filter_cons, Int.toNat_natCast]
  split <;> simp
theorem marked_end {l : List Bool} {k : Nat} (h : l.length ≤ k) : marked l k = [] := by
  unfold marked
  rw [show l.length - k = 0 by omega]; rfl

/-! ### both closures are what is reached -/
/-- Where a place goes on without a byte. -/
def nxt (L : List S62) (b e : Bool) (i : Int) : List Int :=
  if (rd_T62 L i).f0 = 6 then [(rd_T62 L i).f4] else if (rd_T62 L i).f0 = 7 then [(rd_T62 L i).f4, (rd_T62 L i).f5] else if (rd_T62 L i).f0 = 4 then (if b = true then [i + 1] else []) else if (rd_T62 L i).f0 = 5 then (if e = true then [i + 1] else []) else []
/-- One start of the reference's walk: what is marked behind it. -/
theorem close_run (L : List S62) (b e : Bool) (S : Int → Prop) (hL : L.length ≤ 1048576) : ∀ (m : Nat) (l : List Bool) (todo : List Int), m ≤ 4194304 → 3 * blanks l + todo.length ≤ m → l.length = L.length →
    (∀ i, Mk l i → Rch L.length (nxt L b e) S i) → (∀ t ∈ todo, 0 ≤ t → t < (L.length : Int) → Rch L.length (nxt L b e) S t) →
    (∀ i, Mk l i → ∀ j ∈ nxt L b e i, 0 ≤ j → j < (L.length : Int) → Mk l j ∨ j ∈ todo) →
    ∃ l', spec_l4Close.l0v L l b e todo = some l' ∧ l'.length = L.length ∧ (∀ i, Mk l' i → Rch L.length (nxt L b e) S i) ∧ (∀ i, Mk l i → Mk l' i) ∧ (∀ t ∈ todo, 0 ≤ t → t < (L.length : Int) → Mk l' t) ∧ ∀ i, Mk l' i → ∀ j ∈ nxt L b e i, 0 ≤ j → j < (L.length : Int) → Mk l' j := by
  intro m
  induction m with
  | zero =>
    intro l todo hm4 hm hl h1 h2 h3
    have ht : todo = [] := List.eq_nil_of_length_eq_zero (by omega)
    subst ht
    rw [spec_l4Close.l0v_eq, if_neg (by simp)]
    refine ⟨l, rfl, hl, h1, fun _ h => h, by simp, fun i hi j hj a c => ?_⟩
    rcases h3 i hi j hj a c with h | h
    · exact h
    · simp at h
  | succ m ih =>
    intro l todo hm4 hm hl h1 h2 h3
    rw [spec_l4Close.l0v_eq]
    by_cases ht : todo = []
    · subst ht
      rw [if_neg (by simp)]
      refine ⟨l, rfl, hl, h1, fun _ h => h, by simp, fun i hi j hj a c => ?_⟩
      rcases h3 i hi j hj a c with h | h
      · exact h
      · simp at h
    · obtain ⟨rest, k, rfl⟩ : ∃ rest k, todo = rest ++ [k] := ⟨todo.dropLast, todo.getLast ht, (List.dropLast_concat_getLast ht).symm⟩
      have hb : blanks l ≤ 1048576 := Nat.le_trans (blanks_le l) (by omega)
      have hlen : (rest ++ [k]).length = rest.length + 1 := by simp
      have hw : wrap64 (((rest ++ [k]).length : Int) - 1) = (rest.length : Int) := by rw [hlen, wrap_in (by omega) (by omega)]; omega
      rw [hw]
      have hk : rdOf (0 : Int) (rest ++ [k]) (rest.length : Int) = k := by
        unfold rdOf
        simp [List.getD]
      have htk : (rest ++ [k]).take ((rest.length : Int)).toNat = rest := by simp
      rw [hk, htk, if_pos (by rw [hlen]; omega), if_pos (by omega), if_pos (by rw [hlen]; omega), if_pos (by rw [hlen]; omega)]
      rw [hlen] at hm
      -- what is left out
      have skip : (0 ≤ k → k < (L.length : Int) → Mk l k) → ∃ l', spec_l4Close.l0v L l b e rest = some l' ∧ l'.length = L.length ∧ (∀ i, Mk l' i → Rch L.length (nxt L b e) S i) ∧ (∀ i, Mk l i → Mk l' i) ∧ (∀ t ∈ rest ++ [k], 0 ≤ t → t < (L.length : Int) → Mk l' t) ∧ ∀ i, Mk l' i → ∀ j ∈ nxt L b e i, 0 ≤ j → j < (L.length : Int) → Mk l' j := fun hkk => by
        obtain ⟨l', q1, q2, q3, q4, q5, q6⟩ := ih l rest (by omega) (by omega) hl h1 (fun t h => h2 t (by simp [h])) (fun i hi j hj a c => by
          rcases h3 i hi j hj a c with h | h
          · exact .inl h
          · rcases List.mem_append.1 h with h | h
            · exact .inr h
            · rw [List.mem_singleton.1 h] at a c ⊢; exact .inl (hkk a c))
        refine ⟨l', q1, q2, q3, q4, fun t h a c => ?_, q6⟩
        rcases List.mem_append.1 h with h | h
        · exact q5 t h a c
        · rw [List.mem_singleton.1 h] at a c ⊢; exact q4 _ (hkk a c)
      by_cases c1 : k ≥ (L.length : Int)
      · rw [if_pos c1, spec_l4Close.j1v_eq, if_pos rfl]; exact skip (fun _ h => by omega)
      rw [if_neg c1]
      by_cases c2 : k < 0
      · rw [if_pos c2, spec_l4Close.j1v_eq, if_pos rfl]; exact skip (fun h _ => by omega)
      rw [if_neg c2, if_pos (by omega), if_pos (by rw [hl]; omega), spec_l4Close.j1v_eq]
      by_cases c3 : rdOf false l k = true
      · rw [if_pos c3]; exact skip (fun h0 h1 => (mk_rd h0 (by rw [hl]; exact h1)).1 c3)
      rw [if_neg c3, spec_l4Close.j0v_eq, if_pos (by omega), if_pos (by rw [hl]; omega), if_pos (by omega)]
      have hkr : Rch L.length (nxt L b e) S k := h2 k (by simp) (by omega) (by omega)
      have hbl : blanks (l.set k.toNat true) + 1 = blanks l := blanks_set l _ (by rw [rdb (by omega) (by rw [hl]; omega)]; simp at c3; rw [c3])
      have hset : ∀ i, Mk (l.set k.toNat true) i ↔ i = k ∨ Mk l i := fun i => mk_set (by omega) (by rw [hl]; omega)
      have go : ∀ add : List Int, add.length ≤ 2 → nxt L b e k = add → ∃ l', spec_l4Close.l0v L (l.set k.toNat true) b e (rest ++ add) = some l' ∧ l'.length = L.length ∧ (∀ i, Mk l' i → Rch L.length (nxt L b e) S i) ∧ (∀ i, Mk l i → Mk l' i) ∧ (∀ t ∈ rest ++ [k], 0 ≤ t → t < (L.length : Int) → Mk l' t) ∧ ∀ i, Mk l' i → ∀ j ∈ nxt L b e i, 0 ≤ j → j < (L.length : Int) → Mk l' j := fun add hadd hnx => by
        obtain ⟨l', q1, q2, q3, q4, q5, q6⟩ := ih (l.set k.toNat true) (rest ++ add) (by omega) (by rw [List.length_append]; omega) (by rw [List.length_set]; exact hl)
          (fun i hi => by rcases (hset i).1 hi with h | h; (· subst h; exact hkr); exact h1 i h)
          (fun t ht a c => by
            rcases List.mem_append.1 ht with h | h
            · exact h2 t (by simp [h]) a c
            · exact .step hkr (by rw [hnx]; exact h) a c)
          (fun i hi j hj a c => by
            rcases (hset i).1 hi with h | h
            · subst h; rw [hnx] at hj; exact .inr (by simp [hj])
            · rcases h3 i h j hj a c with h | h
              · exact .inl ((hset j).2 (.inr h))
              · rcases List.mem_append.1 h with h | h
                · exact .inr (by simp [h])
                · exact .inl ((hset j).2 (.inl (List.mem_singleton.1 h))))
        refine ⟨l', q1, q2, q3, fun i hi => q4 i ((hset i).2 (.inr hi)), fun t h a c => ?_, q6⟩
        rcases List.mem_append.1 h with h | h
        · exact q5 t (by simp [h]) a c
        · rw [List.mem_singleton.1 h] at a c ⊢; exact q4 _ ((hset k).2 (.inl rfl))
      have hr : rest.length ≤ 4194304 := by omega
      have go0 : nxt L b e k = [] → _ := fun hnx => go [] (by simp) hnx
      rw [List.append_nil] at go0
      have hw1 : wrap64 (k + 1) = k + 1 := wrap_in (by omega) (by omega)
      rw [hw1]
      by_cases d6 : (rd_T62 L k).f0 = 6
      · rw [if_pos d6, if_pos (by omega)]; exact go _ (by simp) (by simp [nxt, d6])
      rw [if_neg d6]
      by_cases d7 : (rd_T62 L k).f0 = 7
      · rw [if_pos d7, if_pos (by omega)]; exact go _ (by simp) (by simp [nxt, d7])
      rw [if_neg d7]
      by_cases d4 : (rd_T62 L k).f0 = 4
      · rw [if_pos d4]
        by_cases hbb : b = true
        · rw [if_pos hbb, if_pos (by omega)]; exact go _ (by simp) (by simp [nxt, d4, hbb])
        · rw [if_neg hbb]; exact go0 (by simp [nxt, d4, hbb])
      rw [if_neg d4]
      by_cases d5 : (rd_T62 L k).f0 = 5
      · rw [if_pos d5]
        by_cases hbb : e = true
        · rw [if_pos hbb, if_pos (by omega)]; exact go _ (by simp) (by simp [nxt, d5, hbb])
        · rw [if_neg hbb]; exact go0 (by simp [nxt, d5, hbb])
      rw [if_neg d5]
      exact go0 (by simp [nxt, d4, d5, d6, d7])
theorem list_run (l : List Bool) (hl : l.length ≤ 1048576) : ∀ (d k : Nat) (out : List Int), l.length - k = d → k ≤ l.length → out.length ≤ k → spec_l4List.l0v l out (k : Int) = some (out ++ marked l k) := by
  intro d
  induction d with
  | zero =>
    intro k out h1 h2 h3
    rw [spec_l4List.l0v_eq, if_neg (by omega), marked_end (by omega), List.append_nil]
  | succ d ih =>
    intro k out h1 h2 h3
    rw [spec_l4List.l0v_eq, if_pos (by omega), if_pos (by omega), wrap_in (n := (k : Int) + 1) (by omega) (by omega), show (k : Int) + 1 = ((k + 1 : Nat) : Int) by omega, marked_step (l := l) (k := k) (by omega)]
    by_cases h : rdOf false l (k : Int) = true
    · rw [if_pos h, if_pos h, if_pos (by omega), ih (k + 1) _ (by omega) (by omega) (by simp; omega)]
      simp
    · rw [if_neg h, if_neg h, ih (k + 1) _ (by omega) (by omega) (by omega)]
/-- The places that are marked in the end. -/
def Seeds (at_ : List Int) (i : Int) : Prop := i ∈ at_
theorem specClose_run (L : List S62) (at_ : List Int) (b e : Bool) (hL : L.length ≤ 1048576) (hA : at_.length ≤ 9223372036854775806) : ∀ (d k : Nat) (l : List Bool), at_.length - k = d → k ≤ at_.length → l.length = L.length →
    (∀ i, Mk l i → Rch L.length (nxt L b e) (Seeds at_) i) → (∀ t ∈ at_.take k, 0 ≤ t → t < (L.length : Int) → Mk l t) → (∀ i, Mk l i → ∀ j ∈ nxt L b e i, 0 ≤ j → j < (L.length : Int) → Mk l j) →
    ∃ l' : List Bool, spec_Closure.l0v L at_ b e l (k : Int) = some (marked l' 0) ∧ l'.length = L.length ∧ ∀ i, Mk l' i ↔ Rch L.length (nxt L b e) (Seeds at_) i := by
  intro d
  induction d with
  | zero =>
    intro k l h1 h2 hl q1 q2 q3
    rw [spec_Closure.l0v_eq, if_neg (by omega), spec_l4List.fv_eq, show (0 : Int) = ((0 : Nat) : Int) from rfl, list_run l (by omega) _ 0 [] rfl (by omega) (by simp)]
    refine ⟨l, by simp, hl, fun i => ⟨q1 i, fun h => ?_⟩⟩
    refine rch_min (X := Mk l) (fun i hi a c => ?_) q3 h
    exact q2 i (by rw [List.take_of_length_le (by omega)]; exact hi) a c
  | succ d ih =>
    intro k l h1 h2 hl q1 q2 q3
    rw [spec_Closure.l0v_eq, if_pos (by omega), if_pos (by omega), spec_l4Close.fv_eq]
    have hk : k < at_.length := by omega
    have hx : at_[k]? = some (rdOf (0 : Int) at_ (k : Int)) := by have := rdi (l := at_) (i := (k : Int)) (by omega) (by omega); simpa using this
    have hm : rdOf (0 : Int) at_ (k : Int) ∈ at_ := List.mem_iff_getElem?.2 ⟨_, hx⟩
    obtain ⟨l', r1, r2, r3, r4, r5, r6⟩ := close_run L b e (Seeds at_) hL _ l [rdOf (0 : Int) at_ (k : Int)] (by have := blanks_le l; simp only [List.length_singleton]; omega) (Nat.le_refl _) hl q1 (fun t ht a c => by rw [List.mem_singleton.1 ht] at a c ⊢; exact .base hm a c) (fun i hi j hj a c => .inl (q3 i hi j hj a c))
    rw [r1, Option.bind_some, wrap_in (n := (k : Int) + 1) (by omega) (by omega), show (k : Int) + 1 = ((k + 1 : Nat) : Int) by omega]
    refine ih (k + 1) l' (by omega) (by omega) r2 r3 (fun t ht a c => ?_) r6
    rw [List.take_add_one, hx] at ht
    rcases List.mem_append.1 ht with h | h
    · exact r4 t (q2 t h a c)
    · simp at h; subst h; exact r5 _ (by simp) a c
theorem mk_rep (n : Nat) (i : Int) : ¬ Mk (List.replicate n false) i := by
  rintro ⟨_, h⟩
  rw [List.getElem?_replicate] at h
  split at h <;> simp at h
theorem spec_closure (L : List S62) (at_ : List Int) (b e : Bool) (hL : L.length ≤ 1048576) (hA : at_.length ≤ 9223372036854775806) : ∃ l' : List Bool, spec_Closure.fv L at_ b e = some (marked l' 0) ∧ l'.length = L.length ∧ ∀ i, Mk l' i ↔ Rch L.length (nxt L b e) (Seeds at_) i := by
  rw [spec_Closure.fv_eq, if_pos (by omega), if_pos (by omega)]
  exact specClose_run L at_ b e hL hA _ 0 _ rfl (by omega) (by simp) (fun i h => (mk_rep _ i h).elim) (by simp) (fun i h => (mk_rep _ i h).elim)

structure CInv (L : List S62) (b e : Bool) (S : Int → Prop) (l : List Bool) (out : List Int) : Prop where
  len : l.length = L.length
  nod : out.Nodup
  mem : ∀ i, i ∈ out ↔ Mk l i
  cnt : out.length + blanks l = L.length
  rch : ∀ i, Mk l i → Rch L.length (nxt L b e) S i
theorem put_run {L : List S62} {b e : Bool} {S : Int → Prop} {l : List Bool} {out : List Int} (hL : L.length ≤ 1048576) (h : CInv L b e S l out) (a : Int) (ha : 0 ≤ a → a < (L.length : Int) → Rch L.length (nxt L b e) S a) :
    ∃ l' ext, impl_Closure_1.fv a L l out = some (l', out ++ ext) ∧ CInv L b e S l' (out ++ ext) ∧ (0 ≤ a → a < (L.length : Int) → Mk l' a) ∧ ∀ i, Mk l i → Mk l' i := by
  have hout : out.length ≤ 1048576 := by have := h.cnt; omega
  rw [impl_Closure_1.fv_eq, wrap_in (n := (L.length : Int) - 1) (by omega) (by omega)]
  have skip : (0 ≤ a → a < (L.length : Int) → Mk l a) → ∃ l' ext, (some (l, out) : Option (List Bool × List Int)) = some (l', out ++ ext) ∧ CInv L b e S l' (out ++ ext) ∧ (0 ≤ a → a < (L.length : Int) → Mk l' a) ∧ ∀ i, Mk l i → Mk l' i := fun hk => ⟨l, [], by simp, by simpa using h, hk, fun _ k => k⟩
  unfold impl_in.f
  by_cases c1 : a ≥ 0
  · rw [if_pos c1, Option.bind_some]
    by_cases c2 : a ≤ (L.length : Int) - 1
    · rw [if_pos (by simpa using c2), if_pos (by omega), if_pos (by rw [h.len]; omega), impl_Closure_1.j0v_eq]
      have hal : a < (l.length : Int) := by rw [h.len]; omega
      by_cases c3 : rdOf false l a = true
      · rw [if_neg (by simp [c3])]; exact skip fun h0 _ => (mk_rd h0 hal).1 c3
      · have c3' : rdOf false l a = false := by simpa using c3
        rw [if_pos (by simp [c3']), if_pos (by omega), if_pos hal, if_pos (by omega)]
        have hnot : ¬ Mk l a := fun hm => c3 ((mk_rd c1 hal).2 hm)
        refine ⟨l.set a.toNat true, [a], rfl, ⟨by rw [List.length_set]; exact h.len, ?_, fun i => ?_, ?_, fun i hi => ?_⟩, fun _ _ => (mk_set c1 hal).2 (.inl rfl), fun i hi => (mk_set c1 hal).2 (.inr hi)⟩
        · rw [List.nodup_append]
          refine ⟨h.nod, by simp, fun x hx y hy e => ?_⟩
          rw [List.mem_singleton.1 hy] at e; subst e
          exact hnot ((h.mem x).1 hx)
        · rw [List.mem_append, List.mem_singleton, h.mem i, mk_set c1 hal]
          exact Or.comm
        · have := blanks_set l a.toNat (by rw [rdb c1 hal, c3'])
          have := h.cnt
          simp only [List.length_append, List.length_singleton]
          omega
        · rcases (mk_set c1 hal).1 hi with q | q
          · subst q; exact ha c1 (by omega)
          · exact h.rch i q
    · rw [if_neg (by simpa using c2), impl_Closure_1.j0v_eq, if_neg (by simp)]; exact skip fun _ hh => by omega
  · rw [if_neg c1, Option.bind_some, if_neg (by simp), impl_Closure_1.j0v_eq, if_neg (by simp)]; exact skip fun hh _ => by omega
theorem nxt_rch {L : List S62} {b e : Bool} {S : Int → Prop} {i : Int} (h : Rch L.length (nxt L b e) S i) {j : Int} (hj : j ∈ nxt L b e i) (h0 : 0 ≤ j) (h1 : j < (L.length : Int)) : Rch L.length (nxt L b e) S j := .step h hj h0 h1
theorem main_run (L : List S62) (at_ : List Int) (b e : Bool) (hL : L.length ≤ 1048576) : ∀ (d k : Nat) (l : List Bool) (out : List Int), L.length - k = d → k ≤ out.length → CInv L b e (Seeds at_) l out → (∀ t ∈ at_, 0 ≤ t → t < (L.length : Int) → Mk l t) →
    (∀ x : Nat, x < k → ∀ i, out[x]? = some i → ∀ j ∈ nxt L b e i, 0 ≤ j → j < (L.length : Int) → Mk l j) →
    ∃ l' : List Bool, impl_Closure.l1v b e (k : Int) l out L = some (marked l' 0) ∧ l'.length = L.length ∧ ∀ i, Mk l' i ↔ Rch L.length (nxt L b e) (Seeds at_) i := by
  intro d
  induction d with
  | zero =>
    intro k l out h1 h2 h q1 q2
    have hk : out.length ≤ k := by have := h.cnt; omega
    rw [impl_Closure.l1v_eq, if_neg (by omega)]
    unfold slices_Sort_int.f
    rw [if_pos (by have := h.cnt; omega), Option.bind_some, sort_marked h.nod h.mem]
    refine ⟨l, rfl, h.len, fun i => ⟨h.rch i, fun hh => ?_⟩⟩
    refine rch_min (X := Mk l) (fun i hi a c => q1 i hi a c) (fun i hi j hj a c => ?_) hh
    obtain ⟨x, hx⟩ := List.mem_iff_getElem?.1 ((h.mem i).2 hi)
    exact q2 x (by have := (List.getElem?_eq_some_iff.1 hx).1; omega) i hx j hj a c
  | succ d ih =>
    intro k l out h1 h2 h q1 q2
    have hcnt := h.cnt
    rw [impl_Closure.l1v_eq]
    by_cases hlt : (k : Int) < (out.length : Int)
    · have hx : out[k]? = some (rdOf (0 : Int) out (k : Int)) := by have := rdi (l := out) (i := (k : Int)) (by omega) hlt; simpa using this
      have hm : Mk l (rdOf (0 : Int) out (k : Int)) := (h.mem _).1 (List.mem_iff_getElem?.2 ⟨_, hx⟩)
      rw [if_pos hlt, if_pos (by omega)]
      generalize hi : rdOf (0 : Int) out (k : Int) = i at *
      have hr := h.rch i hm
      obtain ⟨hi0, hi1⟩ := rch_in hr
      rw [if_pos hi0, if_pos hi1, wrap_in (n := (k : Int) + 1) (by omega) (by omega), wrap_in (n := i + 1) (by omega) (by omega), show (k : Int) + 1 = ((k + 1 : Nat) : Int) by omega]
      -- what has been done with a place
      have next : ∀ (l' : List Bool) (ext : List Int), CInv L b e (Seeds at_) l' (out ++ ext) → (∀ i, Mk l i → Mk l' i) → (∀ j ∈ nxt L b e i, 0 ≤ j → j < (L.length : Int) → Mk l' j) →
          ∃ l2 : List Bool, impl_Closure.l1v b e ((k + 1 : Nat) : Int) l' (out ++ ext) L = some (marked l2 0) ∧ l2.length = L.length ∧ ∀ i, Mk l2 i ↔ Rch L.length (nxt L b e) (Seeds at_) i := fun l' ext hv hmono hnx =>
        ih (k + 1) l' (out ++ ext) (by omega) (by rw [List.length_append]; omega) hv (fun t ht a c => hmono t (q1 t ht a c)) (fun x hx' i' hi' j hj a c => by
          rcases Nat.lt_or_ge x k with hxk | hxk
          · rw [List.getElem?_append_left (by omega)] at hi'
            exact hmono j (q2 x hxk i' hi' j hj a c)
          · have : x = k := by omega
            subst this
            rw [List.getElem?_append_left (by omega), hx] at hi'
            cases hi'
            exact hnx j hj a c)
      have next0 : nxt L b e i = [] → _ := fun hn => next l [] (by simpa using h) (fun _ x => x) (by rw [hn]; simp)
      rw [List.append_nil] at next0
      have one : ∀ a, nxt L b e i = [a] → ∃ l2 : List Bool, ((impl_Closure_1.fv a L l out).bind fun t => impl_Closure.l1v b e ((k + 1 : Nat) : Int) t.1 t.2 L) = some (marked l2 0) ∧ l2.length = L.length ∧ ∀ i, Mk l2 i ↔ Rch L.length (nxt L b e) (Seeds at_) i := fun a hn => by
        obtain ⟨l', ext, e1, e2, e3, e4⟩ := put_run hL h a (fun a0 a1 => nxt_rch hr (by rw [hn]; simp) a0 a1)
        rw [e1, Option.bind_some]
        refine next l' ext e2 e4 ?_
        rw [hn]
        intro j hj a0 a1
        rw [List.mem_singleton.1 hj] at a0 a1 ⊢; exact e3 a0 a1
      by_cases d6 : (rd_T62 L i).f0 = 6
      · rw [if_pos d6]; exact one _ (by simp [nxt, d6])
      rw [if_neg d6]
      by_cases d7 : (rd_T62 L i).f0 = 7
      · rw [if_pos d7]
        have hn : nxt L b e i = [(rd_T62 L i).f4, (rd_T62 L i).f5] := by simp [nxt, d7]
        obtain ⟨l', ext, e1, e2, e3, e4⟩ := put_run hL h (rd_T62 L i).f4 (fun a0 a1 => nxt_rch hr (by rw [hn]; simp) a0 a1)
        rw [e1, Option.bind_some]
        obtain ⟨l2, ext2, g1, g2, g3, g4⟩ := put_run hL e2 (rd_T62 L i).f5 (fun a0 a1 => nxt_rch hr (by rw [hn]; simp) a0 a1)
        simp only []
        rw [g1, Option.bind_some, List.append_assoc]
        rw [List.append_assoc] at g2
        refine next l2 (ext ++ ext2) g2 (fun i hi => g4 i (e4 i hi)) ?_
        rw [hn]
        intro j hj a0 a1
        simp only [List.mem_cons, List.not_mem_nil, or_false] at hj
        rcases hj with rfl | rfl
        · exact g4 _ (e3 a0 a1)
        · exact g3 a0 a1
      rw [if_neg d7]
      by_cases d4 : (rd_T62 L i).f0 = 4
      · rw [if_pos d4]
        by_cases hbb : b = true
        · rw [if_pos hbb]; exact one _ (by simp [nxt, d4, hbb])
        · rw [if_neg hbb]; exact next0 (by simp [nxt, d4, hbb])
      rw [if_neg d4]
      by_cases d5 : (rd_T62 L i).f0 = 5
      · rw [if_pos d5]
        by_cases hbb : e = true
        · rw [if_pos hbb]; exact one _ (by simp [nxt, d5, hbb])
        · rw [if_neg hbb]; exact next0 (by simp [nxt, d5, hbb])
      rw [if_neg d5]
      exact next0 (by simp [nxt, d4, d5, d6, d7])
    · rw [if_neg hlt]
      unfold slices_Sort_int.f
      rw [if_pos (by omega), Option.bind_some, sort_marked h.nod h.mem]
      refine ⟨l, rfl, h.len, fun i => ⟨h.rch i, fun hh => ?_⟩⟩
      refine rch_min (X := Mk l) (fun i hi a c => q1 i hi a c) (fun i hi j hj a c => ?_) hh
      obtain ⟨x, hx⟩ := List.mem_iff_getElem?.1 ((h.mem i).2 hi)
      exact q2 x (by have := (List.getElem?_eq_some_iff.1 hx).1; omega) i hx j hj a c
theorem seed_run (L : List S62) (at_ : List Int) (b e : Bool) (hL : L.length ≤ 1048576) (hA : at_.length ≤ 9223372036854775806) : ∀ (d k : Nat) (l : List Bool) (out : List Int), at_.length - k = d → k ≤ at_.length → CInv L b e (Seeds at_) l out → (∀ t ∈ at_.take k, 0 ≤ t → t < (L.length : Int) → Mk l t) →
    ∃ l' : List Bool, impl_Closure.l0v b e at_ (at_.length : Int) (k : Int) l out L = some (marked l' 0) ∧ l'.length = L.length ∧ ∀ i, Mk l' i ↔ Rch L.length (nxt L b e) (Seeds at_) i := by
  intro d
  induction d with
  | zero =>
    intro k l out h1 h2 h q
    rw [impl_Closure.l0v_eq, if_neg (by omega)]
    exact main_run L at_ b e hL _ 0 l out rfl (by omega) h (by rw [List.take_of_length_le (by omega)] at q; exact q) (fun x hx => by omega)
  | succ d ih =>
    intro k l out h1 h2 h q
    rw [impl_Closure.l0v_eq, if_pos (by omega), if_pos (by omega), if_pos (by omega)]
    have hx : at_[k]? = some (rdOf (0 : Int) at_ (k : Int)) := by have := rdi (l := at_) (i := (k : Int)) (by omega) (by omega); simpa using this
    have hm : rdOf (0 : Int) at_ (k : Int) ∈ at_ := List.mem_iff_getElem?.2 ⟨_, hx⟩
    obtain ⟨l', ext, e1, e2, e3, e4⟩ := put_run hL h (rdOf (0 : Int) at_ (k : Int)) (fun a0 a1 => .base hm a0 a1)
    rw [e1, Option.bind_some, wrap_in (n := (k : Int) + 1) (by omega) (by omega), show (k : Int) + 1 = ((k + 1 : Nat) : Int) by omega]
    refine ih (k + 1) l' (out ++ ext) (by omega) (by omega) e2 (fun t ht a c => ?_)
    rw [List.take_add_one, hx] at ht
    rcases List.mem_append.1 ht with hh | hh
    · exact e4 t (q t hh a c)
    · simp at hh; subst hh; exact e3 a c
theorem impl_closure (L : List S62) (at_ : List Int) (b e : Bool) (hL : L.length ≤ 1048576) (hA : at_.length ≤ 9223372036854775806) : ∃ l' : List Bool, impl_Closure.fv L at_ b e = some (marked l' 0) ∧ l'.length = L.length ∧ ∀ i, Mk l' i ↔ Rch L.length (nxt L b e) (Seeds at_) i := by
  rw [impl_Closure.fv_eq, if_pos (by omega), if_pos (by omega)]
  exact seed_run L at_ b e hL hA _ 0 _ [] rfl (by omega) ⟨by simp, by simp, fun i => ⟨by simp, fun h => (mk_rep _ i h).elim⟩, by simp [blanks_rep], fun i h => (mk_rep _ i h).elim⟩ (by simp)
theorem mk_ext {l l' : List Bool} (hl : l.length = l'.length) (h : ∀ i, Mk l i ↔ Mk l' i) : l = l' := by
  apply List.ext_getElem?
  intro k
  by_cases hk : k < l.length
  · have h1 := h (k : Int)
    unfold Mk at h1
    simp only [Int.toNat_natCast] at h1
    rw [List.getElem?_eq_getElem hk, List.getElem?_eq_getElem (by omega)] at h1 ⊢
    have h0 : (0 : Int) ≤ (k : Int) := by omega
    simp only [h0, true_and, Option.some.injEq] at h1
    congr 1
    cases hb : l[k] <;> cases hb' : l'[k] <;> simp [hb, hb'] at h1 ⊢
  · rw [List.getElem?_eq_none (by omega), List.getElem?_eq_none (by omega)]
/-- Both closures are one; what they tell ascends, and lies within. -/
theorem closure_eq (L : List S62) (at_ : List Int) (b e : Bool) (hL : L.length ≤ 1048576) (hA : at_.length ≤ 9223372036854775806) : ∃ r, spec_Closure.fv L at_ b e = some r ∧ impl_Closure.fv L at_ b e = some r ∧ r.Pairwise (· < ·) ∧ (∀ i ∈ r, 0 ≤ i ∧ i < (L.length : Int)) ∧ r.length ≤ L.length := by
  obtain ⟨l1, a1, a2, a3⟩ := spec_closure L at_ b e hL hA
  obtain ⟨l2, b1, b2, b3⟩ := impl_closure L at_ b e hL hA
  have : l1 = l2 := mk_ext (a2.trans b2.symm) fun i => (a3 i).trans (b3 i).symm
  subst this
  refine ⟨_, a1, b1, marked_sorted _ _, fun i hi => ?_, ?_⟩
  · have := marked_mem.1 hi
    exact ⟨this.1, by rw [← a2]; exact mk_lt this⟩
  · unfold marked
    rw [List.length_map]
    exact Nat.le_trans (List.length_filter_le _ _) (by simp; omega)

theorem in_eq (a lo hi : Int) : spec_l1In.f a lo hi = some (decide (lo ≤ a ∧ a ≤ hi)) := by
  unfold spec_l1In.f
  by_cases h : lo ≤ a
  · rw [if_pos h]; simp [h]
  · rw [if_neg h]; simp [h]
theorem in_eq' (a lo hi : Int) : impl_in.f a lo hi = some (decide (lo ≤ a ∧ a ≤ hi)) := by
  unfold impl_in.f
  by_cases h : lo ≤ a
  · rw [if_pos h]; simp [h]
  · rw [if_neg h]; simp [h]

theorem some_iff {p q : Bool} (h : p = true ↔ q = true) : some p = some q := by rw [Bool.eq_iff_iff.2 h]
theorem s3 (p q r t : Bool) (a b : Int) (c : ByteArray) (e : Bool) (f g : Int) : spec_l4Place.j3v p q r t a b c e f g = some (p && q && r && t && decide (1 ≤ a ∧ a ≤ 8)) := by
  rw [spec_l4Place.j3v_eq]
  simp only [in_eq, Option.bind_some, decide_eq_true_eq]
  cases p <;> cases q <;> cases r <;> cases t <;> simp <;> (repeat' split) <;> simp_all
theorem s2 (n : Int) (p q r : Bool) (a b : Int) (c : ByteArray) (e : Bool) (f g : Int) (hn : 1 ≤ n) (hn' : n ≤ 9223372036854775807) :
    spec_l4Place.j2v n p q r a b c e f g = some (p && q && r && decide (1 ≤ a ∧ a ≤ 8 ∧ ((a = 7 ∧ 0 ≤ g ∧ g ≤ n - 1) ∨ (a ≠ 7 ∧ g = 0)))) := by
  rw [spec_l4Place.j2v_eq]
  simp only [in_eq, Option.bind_some, decide_eq_true_eq, s3]
  rw [wrap_in (by omega) (by omega)]
  (repeat' split) <;> (refine some_iff ?_; cases p <;> cases q <;> cases r <;> simp_all <;> omega)
theorem s1 (n : Int) (p q : Bool) (a b : Int) (c : ByteArray) (e : Bool) (f g : Int) (hn : 1 ≤ n) (hn' : n ≤ 9223372036854775807) :
    spec_l4Place.j1v n p q a b c e f g = some (p && q && decide (((a = 6 ∨ a = 7) ∧ 0 ≤ f ∧ f ≤ n - 1) ∨ (a ≠ 6 ∧ a ≠ 7 ∧ f = 0)) && decide (1 ≤ a ∧ a ≤ 8 ∧ ((a = 7 ∧ 0 ≤ g ∧ g ≤ n - 1) ∨ (a ≠ 7 ∧ g = 0)))) := by
  rw [spec_l4Place.j1v_eq]
  simp only [in_eq, Option.bind_some, decide_eq_true_eq, s2 n _ _ _ _ _ _ _ _ _ hn hn']
  rw [wrap_in (by omega) (by omega)]
  (repeat' split) <;> (refine some_iff ?_; cases p <;> cases q <;> simp_all <;> omega)
theorem s0 (n : Int) (p : Bool) (a b : Int) (c : ByteArray) (e : Bool) (f g : Int) (hn : 1 ≤ n) (hn' : n ≤ 9223372036854775807) :
    spec_l4Place.j0v n p a b c e f g = some (p && decide (a = 3 ∨ (c.toList = [] ∧ e = false)) && decide (((a = 6 ∨ a = 7) ∧ 0 ≤ f ∧ f ≤ n - 1) ∨ (a ≠ 6 ∧ a ≠ 7 ∧ f = 0)) && decide (1 ≤ a ∧ a ≤ 8 ∧ ((a = 7 ∧ 0 ≤ g ∧ g ≤ n - 1) ∨ (a ≠ 7 ∧ g = 0)))) := by
  rw [spec_l4Place.j0v_eq]
  simp only [s1 n _ _ _ _ _ _ _ _ hn hn']
  by_cases h3 : a = 3
  · simp [h3]
  · by_cases hc : c.toList = []
    · cases e <;> simp [h3, hc]
    · simp [h3, hc]
/-- What a place must be. -/
def good (n a b : Int) (c : ByteArray) (e : Bool) (f g : Int) : Bool :=
  decide ((a = 1 ∧ 0 ≤ b ∧ b ≤ 255) ∨ b = 0) && decide (a = 3 ∨ (c.toList = [] ∧ e = false)) && decide (((a = 6 ∨ a = 7) ∧ 0 ≤ f ∧ f ≤ n - 1) ∨ (a ≠ 6 ∧ a ≠ 7 ∧ f = 0)) && decide (1 ≤ a ∧ a ≤ 8 ∧ ((a = 7 ∧ 0 ≤ g ∧ g ≤ n - 1) ∨ (a ≠ 7 ∧ g = 0)))
theorem s_place (n a b : Int) (c : ByteArray) (e : Bool) (f g : Int) (hn : 1 ≤ n) (hn' : n ≤ 9223372036854775807) :
    spec_l4Place.fv a b c e f g n = some (good n a b c e f g) := by
  rw [spec_l4Place.fv_eq]
  simp only [in_eq, Option.bind_some, decide_eq_true_eq, s0 n _ _ _ _ _ _ _ hn hn']
  unfold good
  by_cases ha : a = 1
  · by_cases hb : 0 ≤ b ∧ b ≤ 255
    · simp [ha, hb]
    · rw [if_neg hb]
      have hb' : b ≠ 0 := by omega
      have : ¬ ((a = 1 ∧ 0 ≤ b ∧ b ≤ 255) ∨ b = 0) := by omega
      have e0 : decide ((a = 1 ∧ 0 ≤ b ∧ b ≤ 255) ∨ b = 0) = false := decide_eq_false this
      have e1 : (b == 0) = false := by simp [hb']
      rw [e0, e1]
  · rw [if_neg ha]
    by_cases hb : b = 0 <;> simp [ha, hb]
theorem i1 (p : Bool) (a b : Int) (c : ByteArray) (e : Bool) (f g : Int) : impl_placeOk.j2v p a b c e f g = some (p && decide (f = 0 ∧ g = 0)) := by
  rw [impl_placeOk.j2v_eq]
  by_cases hf : f = 0 <;> by_cases hg : g = 0 <;> cases p <;> simp [hf, hg]
theorem i0a (n : Int) (a b : Int) (c : ByteArray) (e : Bool) (f g : Int) (hn : 1 ≤ n) (hn' : n ≤ 9223372036854775807) :
    impl_placeOk.j0v n a b c e f g = some (decide ((a = 6 ∧ 0 ≤ f ∧ f ≤ n - 1 ∧ g = 0) ∨ (a = 7 ∧ 0 ≤ f ∧ f ≤ n - 1 ∧ 0 ≤ g ∧ g ≤ n - 1) ∨ (a = 1 ∧ 0 ≤ b ∧ b ≤ 255 ∧ f = 0 ∧ g = 0) ∨ ((a = 2 ∨ a = 3 ∨ a = 4 ∨ a = 5 ∨ a = 8) ∧ f = 0 ∧ g = 0))) := by
  rw [impl_placeOk.j0v_eq, wrap_in (by omega) (by omega)]
  simp only [in_eq', Option.bind_some, decide_eq_true_eq, i1]
  (repeat' split) <;> first | (exfalso; simp at *; done) | (refine some_iff ?_; simp only [Bool.and_eq_true, beq_iff_eq, decide_eq_true_eq, Bool.not_false, Bool.false_eq_true, true_and, false_iff]; omega)
theorem i0 (n : Int) (p : Bool) (a b : Int) (c : ByteArray) (e : Bool) (f g : Int) (hn : 1 ≤ n) (hn' : n ≤ 9223372036854775807) :
    impl_placeOk.j1v n p a b c e f g = some (!p && decide ((a = 6 ∧ 0 ≤ f ∧ f ≤ n - 1 ∧ g = 0) ∨ (a = 7 ∧ 0 ≤ f ∧ f ≤ n - 1 ∧ 0 ≤ g ∧ g ≤ n - 1) ∨ (a = 1 ∧ 0 ≤ b ∧ b ≤ 255 ∧ f = 0 ∧ g = 0) ∨ ((a = 2 ∨ a = 3 ∨ a = 4 ∨ a = 5 ∨ a = 8) ∧ f = 0 ∧ g = 0))) := by
  rw [impl_placeOk.j1v_eq, i0a n _ _ _ _ _ _ hn hn']
  cases p <;> simp
theorem i_place (n a b : Int) (c : ByteArray) (e : Bool) (f g : Int) (l : Bool) (hn : 1 ≤ n) (hn' : n ≤ 9223372036854775807) :
    impl_placeOk.fv a b c e f g n l = some (good n a b c e f g && (a == 8) == l) := by
  rw [impl_placeOk.fv_eq]
  simp only [i0 n _ _ _ _ _ _ _ hn hn']
  by_cases hl : l = (a == 8)
  · rw [if_pos hl, show ((a == 8) == l) = true by rw [hl]; simp, Bool.and_true]
    unfold good
    by_cases hc : c.toList = []
    · cases e
      · simp only [hc, if_true]
        (repeat' split) <;> (refine some_iff ?_; simp only [Bool.and_eq_true, decide_eq_true_eq, Bool.not_false, Bool.not_true, Bool.false_eq_true, true_and, and_true, or_true, false_and, or_self, false_or, true_or, and_self, false_iff, Bool.true_eq_false, reduceCtorEq, and_false]; try omega)
      · simp only [hc, if_true]
        (repeat' split) <;> (refine some_iff ?_; simp only [Bool.and_eq_true, decide_eq_true_eq, Bool.not_false, Bool.not_true, Bool.false_eq_true, true_and, and_true, or_false, false_and, Bool.true_eq_false, and_false, false_or, or_self, true_or, and_self, false_iff, reduceCtorEq]; try omega)
    · simp only [hc, if_false]
      (repeat' split) <;> (refine some_iff ?_; simp only [Bool.and_eq_true, decide_eq_true_eq, Bool.not_false, Bool.not_true, Bool.false_eq_true, true_and, and_true, or_false, false_and, or_self, false_or, true_or, and_self, false_iff, Bool.true_eq_false, reduceCtorEq, and_false]; try omega)
  · have hl' : ((a == 8) == l) = false := by
      cases hx : (a == 8) <;> cases l <;> simp_all
    rw [hl', Bool.and_false, if_neg hl]
    simp

theorem loops (x : List S62) (hl : x.length ≤ 1048576) (hn : 1 ≤ x.length) (d : Nat) : ∀ i : Nat, x.length - i = d → i ≤ x.length →
    ∃ b : Bool, spec_NfaOk.l0v x (x.length : Int) i = some (b && decide (x.length ≤ 400)) ∧ impl_NfaOk.l0v x x (x.length : Int) i = some b := by
  induction d with
  | zero =>
    intro i h1 h2
    refine ⟨true, ?_, ?_⟩
    · rw [spec_NfaOk.l0v_eq, if_neg (by omega), in_eq]
      have : (1 ≤ (x.length : Int) ∧ (x.length : Int) ≤ 400) ↔ x.length ≤ 400 := by omega
      simp [this]
    · rw [impl_NfaOk.l0v_eq, if_neg (by omega)]
  | succ d ih =>
    intro i h1 h2
    have hi : i < x.length := by omega
    obtain ⟨b, e1, e2⟩ := ih (i + 1) (by omega) (by omega)
    have hw : wrap64 ((i : Int) + 1) = ((i + 1 : Nat) : Int) := by rw [wrap_in (by omega) (by omega)]; omega
    have hw2 : wrap64 ((x.length : Int) - 1) = (x.length : Int) - 1 := wrap_in (by omega) (by omega)
    refine ⟨(good x.length x[i].f0 x[i].f1 x[i].f2 x[i].f3 x[i].f4 x[i].f5 && (x[i].f0 == 8) == ((i : Int) == (x.length : Int) - 1)) && b, ?_, ?_⟩
    · rw [spec_NfaOk.l0v_eq, if_pos (by omega), if_pos (by omega), if_pos (by omega), rdin62 x i hi, s_place _ _ _ _ _ _ _ (by omega) (by omega), Option.bind_some, hw2]
      simp only [spec_NfaOk.j0v_eq, hw, e1]
      cases good x.length x[i].f0 x[i].f1 x[i].f2 x[i].f3 x[i].f4 x[i].f5 <;> cases (x[i].f0 == 8) <;> cases ((i : Int) == (x.length : Int) - 1) <;> simp
    · rw [impl_NfaOk.l0v_eq, if_pos (by omega), if_pos (by omega), if_pos (by omega), rdin62 x i hi, hw2, i_place _ _ _ _ _ _ _ _ (by omega) (by omega), Option.bind_some, hw, e2]
      cases (good x.length x[i].f0 x[i].f1 x[i].f2 x[i].f3 x[i].f4 x[i].f5 && (x[i].f0 == 8) == ((i : Int) == (x.length : Int) - 1)) <;> simp
theorem both (x : List S62) (hl : x.length ≤ 1048576) : ∃ b : Bool, spec_NfaOk.fv x = some b ∧ impl_NfaOk.fv x = some b := by
  rw [spec_NfaOk.fv_eq, impl_NfaOk.fv_eq, in_eq', Option.bind_some]
  by_cases hn : 1 ≤ x.length
  · obtain ⟨b, e1, e2⟩ := loops x hl hn x.length 0 (by omega) (by omega)
    refine ⟨_, e1, ?_⟩
    by_cases h : x.length ≤ 400
    · rw [if_pos (by simp; omega), show (0 : Int) = ((0 : Nat) : Int) from rfl, e2]; simp [h]
    · rw [if_neg (by simp; omega)]; simp [h]
  · refine ⟨false, ?_, by rw [if_neg (by simp; omega)]⟩
    rw [spec_NfaOk.l0v_eq, if_neg (by omega), in_eq]
    have : ¬ (1 ≤ (x.length : Int) ∧ (x.length : Int) ≤ 400) := by omega
    simp [this]

/-! ### texts as rows of bytes -/
def B (l : List UInt8) : ByteArray := ⟨l.toArray⟩
theorem B_self (s : ByteArray) : B s.data.toList = s := by cases s; simp [B]
theorem B_size (l : List UInt8) : (B l).size = l.length := by show l.toArray.size = l.length; simp
theorem B_data (l : List UInt8) : (B l).data.toList = l := by simp [B]
theorem B_append (a b : List UInt8) : B a ++ B b = B (a ++ b) := by
  apply ByteArray.ext
  rw [ByteArray.data_append]
  simp [B]
theorem B_inj {a b : List UInt8} (h : B a = B b) : a = b := by
  have := congrArg (fun s : ByteArray => s.data.toList) h
  simpa [B] using this
theorem B_extract (l : List UInt8) (i j : Nat) : (B l).extract i j = B ((l.drop i).take (j - i)) := by rw [Lib.extract_eq, B_data]; rfl
theorem B_toList (l : List UInt8) : (B l).toList = l := by rw [Lib.toList_data, B_data]
theorem B_bt (l : List UInt8) (i : Nat) (h : i < l.length) : bt (B l) (i : Int) = (l[i].toNat : Int) := by
  have h' : (i : Int).toNat < (B l).size := by rw [Int.toNat_natCast, B_size]; exact h
  rw [← bt_at (B l) i h']
  rfl
theorem wrap_in {n : Int} (h0 : -9223372036854775808 ≤ n) (h1 : n ≤ 9223372036854775807) : wrap64 n = n := by unfold wrap64; omega
theorem byte_is (b c : UInt8) (n : Int) (hc : (c.toNat : Int) = n) : ((b.toNat : Int) = n) ↔ b = c := by
  rw [← UInt8.toNat_inj, ← hc]; omega
theorem byte_ofNat (n : Nat) (h : n < 256) : (UInt8.ofNat n).toNat = n := by rw [UInt8.toNat_ofNat']; omega

/-! ### both matchers say the same -/
theorem in_run (l : List UInt8) (hl : l.length ≤ 1048576) (u : UInt8) : ∀ (d i : Nat), l.length - i = d → i ≤ l.length → spec_l5In.l0v (B l) (u.toNat : Int) (i : Int) = some (decide (u ∈ l.drop i)) := by
  intro d
  induction d with
  | zero =>
    intro i h1 h2
    rw [spec_l5In.l0v_eq, if_neg (by rw [B_size]; omega), List.drop_of_length_le (by omega)]
    simp
  | succ d ih =>
    intro i h1 h2
    have hi : i < l.length := by omega
    rw [spec_l5In.l0v_eq, if_pos (by rw [B_size]; omega), if_pos (by omega), B_bt l i hi, List.drop_eq_getElem_cons hi, wrap_in (n := (i : Int) + 1) (by omega) (by omega), show (i : Int) + 1 = ((i + 1 : Nat) : Int) by omega]
    by_cases h : (l[i].toNat : Int) = (u.toNat : Int)
    · have : l[i] = u := UInt8.toNat_inj.1 (by omega)
      rw [if_pos h]; simp [this]
    · have : ¬ u = l[i] := fun e => h (by rw [e])
      rw [if_neg h, ih (i + 1) (by omega) (by omega)]
      congr 1
      exact decide_eq_decide.2 ⟨fun h => List.mem_cons_of_mem _ h, fun h => (List.mem_cons.1 h).resolve_left this⟩
theorem in_eq5 (s : ByteArray) (hs : s.size ≤ 1048576) (u : UInt8) : spec_l5In.fv s (u.toNat : Int) = some (decide (0 ≤ Lib.indexByte s.data.toList u)) := by
  have hl : s.data.toList.length ≤ 1048576 := by simpa using hs
  have h := in_run s.data.toList hl u _ 0 rfl (by omega)
  rw [B_self] at h
  have h' : spec_l5In.l0v s (u.toNat : Int) 0 = _ := h
  rw [spec_l5In.fv_eq, h', List.drop_zero, ← Lib.contains_iff_indexByte]
  congr 1
  cases hc : s.data.toList.contains u
  · simpa using hc
  · simpa using hc
theorem takes_eq (p : S62) (hs : p.f2.size ≤ 1048576) (u : UInt8) : ∃ v, spec_l5Takes.fv p.f0 p.f1 p.f2 p.f3 p.f4 p.f5 (u.toNat : Int) = some v ∧ impl_takes.f p.f0 p.f1 p.f2 p.f3 p.f4 p.f5 (u.toNat : Int) = some v := by
  have hu := u.toNat_lt
  rw [spec_l5Takes.fv_eq, in_eq5 _ hs]
  unfold impl_takes.f strings_IndexByte.f
  rw [wrap_in (n := (u.toNat : Int)) (by omega) (by omega)]
  by_cases h1 : p.f0 = 1
  · rw [if_pos h1, if_pos h1]; exact ⟨_, rfl, by rw [Bool.beq_comm]⟩
  rw [if_neg h1, if_neg h1]
  by_cases h2 : p.f0 = 2
  · rw [if_pos h2, if_pos h2]; exact ⟨_, rfl, rfl⟩
  rw [if_neg h2, if_neg h2]
  by_cases h3 : p.f0 = 3
  · rw [if_pos h3, if_pos h3, Option.bind_some, Option.bind_some]
    refine ⟨_, rfl, ?_⟩
    have : (u.toNat : Int).toNat.toUInt8 = u := by rw [Int.toNat_natCast]; exact UInt8.ofNat_toNat
    rw [this]
  rw [if_neg h3, if_neg h3]
  exact ⟨_, rfl, rfl⟩
theorem idx_run (l : List Int) (hl : l.length ≤ 1048576) (a : Int) : ∀ (d k : Nat), l.length - k = d → k ≤ l.length → ∃ v, slices_Index_int_int.l0v l a (l.length : Int) (k : Int) = some v ∧ (v ≥ 0 ↔ a ∈ l.drop k) := by
  intro d
  induction d with
  | zero =>
    intro k h1 h2
    rw [slices_Index_int_int.l0v_eq, if_neg (by omega), List.drop_of_length_le (by omega)]
    exact ⟨_, rfl, by simp⟩
  | succ d ih =>
    intro k h1 h2
    have hk : k < l.length := by omega
    have hx : rdOf (0 : Int) l (k : Int) = l[k] := by unfold rdOf; simp [List.getD, hk]
    rw [slices_Index_int_int.l0v_eq, if_pos (by omega), if_pos (by omega), if_pos (by omega), hx, wrap_in (n := (k : Int) + 1) (by omega) (by omega), show (k : Int) + 1 = ((k + 1 : Nat) : Int) by omega, List.drop_eq_getElem_cons hk]
    by_cases h : a = l[k]
    · rw [if_pos h]; exact ⟨_, rfl, ⟨fun _ => by rw [h]; exact List.mem_cons_self, fun _ => by omega⟩⟩
    · rw [if_neg h]
      obtain ⟨v, e1, e2⟩ := ih (k + 1) (by omega) (by omega)
      exact ⟨v, e1, ⟨fun q => List.mem_cons_of_mem _ (e2.1 q), fun q => e2.2 ((List.mem_cons.1 q).resolve_left h)⟩⟩
theorem contains_eq (l : List Int) (hl : l.length ≤ 1048576) (a : Int) : slices_Contains_int_int.fv l a = some (decide (a ∈ l)) := by
  obtain ⟨v, e1, e2⟩ := idx_run l hl a _ 0 rfl (by omega)
  rw [slices_Contains_int_int.fv_eq, slices_Index_int_int.fv_eq, show (0 : Int) = ((0 : Nat) : Int) from rfl, e1, Option.bind_some]
  simp only [List.drop_zero] at e2
  congr 1
  exact decide_eq_decide.2 e2
theorem last_max {r : List Int} {n : Int} (hs : r.Pairwise (· < ·)) (hm : ∀ i ∈ r, 0 ≤ i ∧ i < n) (hr : r ≠ []) : rdOf (0 : Int) r ((r.length : Int) - 1) = n - 1 ↔ n - 1 ∈ r := by
  obtain ⟨q, k, rfl⟩ : ∃ q k, r = q ++ [k] := ⟨r.dropLast, r.getLast hr, (List.dropLast_concat_getLast hr).symm⟩
  have hk : rdOf (0 : Int) (q ++ [k]) (((q ++ [k]).length : Int) - 1) = k := by
    have : ((q ++ [k]).length : Int) - 1 = (q.length : Int) := by simp
    rw [this]; unfold rdOf; simp [List.getD]
  rw [hk]
  constructor
  · intro e; rw [← e]; simp
  · intro h
    rcases List.mem_append.1 h with h | h
    · have := (List.pairwise_append.1 hs).2.2 _ h k (by simp)
      have := (hm k (by simp)).2
      omega
    · simp at h; omega
theorem bt_u (s : ByteArray) (i : Nat) (h : i < s.size) : ∃ u : UInt8, bt s (i : Int) = (u.toNat : Int) := ⟨_, (bt_at s (i : Int) (by simpa using h)).symm⟩
theorem match_run (L : List S62) (s : ByteArray) (hL : L.length ≤ 1048576) (hs : s.size ≤ 1048576) (hp : ∀ p ∈ L, p.f2.size ≤ 1048576) : ∀ (d at_ : Nat) (todo r : List Int) (best : Int), s.size - at_ = d → at_ ≤ s.size → todo.length ≤ 1048576 →
    spec_Closure.fv L todo ((at_ : Int) == 0) ((at_ : Int) == (s.size : Int)) = some r → ∃ v, spec_MatchAt.l0v L s r best (at_ : Int) = some v ∧ impl_MatchAt.l0v L s (at_ : Int) best todo = some v := by
  intro d
  induction d with
  | zero =>
    intro at_ todo r best h1 h2 ht hr
    obtain ⟨r', e1, e2, e3, e4, e5⟩ := closure_eq L todo ((at_ : Int) == 0) ((at_ : Int) == (s.size : Int)) hL (by omega)
    rw [hr] at e1; cases e1
    have hat : (at_ : Int) = (s.size : Int) := by omega
    rw [impl_MatchAt.l0v_eq, e2, Option.bind_some, wrap_in (n := (L.length : Int) - 1) (by omega) (by omega), contains_eq r (by omega), Option.bind_some]
    simp only [impl_MatchAt.j2v_eq, impl_MatchAt.j4v_eq, if_pos hat, if_true]
    rw [spec_MatchAt.l0v_eq]
    by_cases hr0 : r = []
    · subst hr0
      rw [if_neg (by simp), if_neg (by simp)]
      exact ⟨_, rfl, rfl⟩
    · have hlen : 0 < r.length := List.length_pos_iff.2 hr0
      rw [if_pos (by omega), wrap_in (n := (r.length : Int) - 1) (by omega) (by omega), if_pos (by omega), if_pos (by omega), wrap_in (n := (L.length : Int) - 1) (by omega) (by omega)]
      simp only [spec_MatchAt.j2v_eq, if_pos hat]
      by_cases hc : (L.length : Int) - 1 ∈ r
      · rw [if_pos ((last_max e3 e4 hr0).2 hc), if_pos (by simpa using hc)]; exact ⟨_, rfl, rfl⟩
      · rw [if_neg (fun h => hc ((last_max e3 e4 hr0).1 h)), if_neg (by simpa using hc)]; exact ⟨_, rfl, rfl⟩
  | succ d ih =>
    intro at_ todo r best h1 h2 ht hr
    obtain ⟨r', e1, e2, e3, e4, e5⟩ := closure_eq L todo ((at_ : Int) == 0) ((at_ : Int) == (s.size : Int)) hL (by omega)
    rw [hr] at e1; cases e1
    have hat : ¬ (at_ : Int) = (s.size : Int) := by omega
    obtain ⟨u, hu⟩ := bt_u s at_ (by omega)
    have inner : ∀ (b2 : Int) (e k : Nat) (out : List Int), r.length - k = e → k ≤ r.length → out.length ≤ k → ∃ v, spec_MatchAt.l1v L s r b2 (at_ : Int) out (k : Int) = some v ∧ impl_MatchAt.l1v L s (at_ : Int) b2 out r (r.length : Int) (k : Int) = some v := by
      intro b2 e
      induction e with
      | zero =>
        intro k out g1 g2 g3
        rw [spec_MatchAt.l1v_eq, impl_MatchAt.l1v_eq, if_neg (by omega), if_neg (by omega), wrap_in (n := (at_ : Int) + 1) (by omega) (by omega), show (at_ : Int) + 1 = ((at_ + 1 : Nat) : Int) by omega]
        obtain ⟨r2, c1, c2, _⟩ := closure_eq L out false (((at_ + 1 : Nat) : Int) == (s.size : Int)) hL (by omega)
        rw [c1, Option.bind_some]
        refine ih (at_ + 1) out r2 b2 (by omega) (by omega) (by omega) ?_
        have : (((at_ + 1 : Nat) : Int) == 0) = false := by simp; omega
        rw [this]; exact c1
      | succ e ihe =>
        intro k out g1 g2 g3
        have hm := e4 _ (mem_rdi (l := r) (i := (k : Int)) (by omega) (by omega))
        have hpl : rd_T62 L (rdOf (0 : Int) r (k : Int)) ∈ L := by
          have : (rdOf (0 : Int) r (k : Int)).toNat < L.length := by omega
          unfold rd_T62
          rw [List.getD_eq_getElem?_getD, List.getElem?_eq_getElem this]
          exact List.getElem_mem this
        obtain ⟨v, t1, t2⟩ := takes_eq _ (hp _ hpl) u
        rw [spec_MatchAt.l1v_eq, impl_MatchAt.l1v_eq, if_pos (by omega), if_pos (by omega), if_pos hm.1, if_pos hm.2, if_pos (by omega), if_pos (by omega), if_pos (by omega), if_pos (by omega), if_pos (by omega), if_pos hm.1, if_pos hm.2, if_pos (by omega), if_pos (by omega), if_pos (by omega), hu, t1, t2, Option.bind_some, Option.bind_some, wrap_in (n := (k : Int) + 1) (by omega) (by omega), show (k : Int) + 1 = ((k + 1 : Nat) : Int) by omega]
        cases v with
        | true =>
          simp only [if_true]
          try rw [if_pos (by omega)]
          exact ihe (k + 1) _ (by omega) (by omega) (by simp; omega)
        | false =>
          simp only [Bool.false_eq_true, if_false]
          exact ihe (k + 1) _ (by omega) (by omega) (by omega)
    rw [impl_MatchAt.l0v_eq, e2, Option.bind_some, wrap_in (n := (L.length : Int) - 1) (by omega) (by omega), contains_eq r (by omega), Option.bind_some]
    simp only [impl_MatchAt.j2v_eq, if_neg hat, impl_MatchAt.j4v_eq]
    rw [spec_MatchAt.l0v_eq]
    by_cases hr0 : r = []
    · subst hr0
      rw [if_neg (by simp), if_neg (by simp), if_pos (by simp)]
      exact ⟨_, rfl, rfl⟩
    · have hlen : 0 < r.length := List.length_pos_iff.2 hr0
      rw [if_pos (by omega), wrap_in (n := (r.length : Int) - 1) (by omega) (by omega), if_pos (by omega), if_pos (by omega), wrap_in (n := (L.length : Int) - 1) (by omega) (by omega)]
      have hb : ((r.length : Int) == 0) = false := by simp; exact hr0
      simp only [spec_MatchAt.j2v_eq, if_neg hat, hb, Bool.false_eq_true, if_false, impl_MatchAt.j3v_eq]
      by_cases hc : (L.length : Int) - 1 ∈ r
      · rw [if_pos ((last_max e3 e4 hr0).2 hc), if_pos (by simpa using hc)]
        exact inner (at_ : Int) _ 0 [] rfl (by omega) (by simp)
      · rw [if_neg (fun h => hc ((last_max e3 e4 hr0).1 h)), if_neg (by simpa using hc)]
        exact inner best _ 0 [] rfl (by omega) (by simp)
theorem matchAt_eq (L : List S62) (s : ByteArray) (a : Int) (hL : L.length ≤ 1048576) (hs : s.size ≤ 1048576) (hp : ∀ p ∈ L, p.f2.size ≤ 1048576) : ∃ v, spec_MatchAt.fv L s a = some v ∧ impl_MatchAt.fv L s a = some v ∧ (spec_NfaOk.fv L = some false → v = -1) := by
  obtain ⟨b, n1, n2⟩ := both L hL
  rw [spec_MatchAt.fv_eq, impl_MatchAt.fv_eq, n1, n2, Option.bind_some, Option.bind_some, in_eq, in_eq', Option.bind_some, Option.bind_some]
  simp only [spec_MatchAt.j1v_eq, impl_MatchAt.j1v_eq]
  cases b with
  | false => simp only [Bool.false_eq_true, if_false, if_true]; exact ⟨_, rfl, rfl, fun _ => rfl⟩
  | true =>
    simp only [if_true]
    by_cases h : 0 ≤ a ∧ a ≤ (s.size : Int)
    · rw [if_neg (by simp [h]), if_neg (by simp [h])]
      obtain ⟨k, rfl⟩ : ∃ k : Nat, a = (k : Int) := ⟨a.toNat, by omega⟩
      obtain ⟨r, c1, _⟩ := closure_eq L [0] ((k : Int) == 0) ((k : Int) == (s.size : Int)) hL (by simp)
      obtain ⟨v, v1, v2⟩ := match_run L s hL hs hp _ k [0] r (-1) rfl (by omega) (by simp) c1
      rw [spec_MatchAt.j0v_eq, impl_MatchAt.j0v_eq, c1, Option.bind_some]
      exact ⟨v, v1, v2, fun h => by cases h⟩
    · rw [if_pos (by simp [h]), if_pos (by simp [h])]; exact ⟨_, rfl, rfl, fun _ => rfl⟩
end FnExactMatchAtAid
open FnExactMatchAtAid

theorem FnExactMatchAt : laws_FnExactMatchAt.Pure := by
  intro x s a hx hs0 ha
  rw [laws_FnExactMatchAt.fv_eq]
  by_cases hs : (s.size : Int) > 1048576
  · rw [if_pos hs]
  rw [if_neg hs, sz_PlaceS x hx 1048576 (by omega) (by omega), Option.bind_some]
  by_cases h : dn (bls_Place x) 1048576 < 0
  · rw [if_pos h]
  have hn := dn_pos h (by omega)
  have hb1 : bls_Place x ≤ 1048576 := by omega
  have hb2 := hb1
  unfold bls_Place at hb2
  have hto := to_PlaceS x hb1
  have hu : (x.map cv_Place).length ≤ 1048576 := by rw [List.length_map]; omega
  have hp : ∀ p ∈ x.map cv_Place, p.f2.size ≤ 1048576 := fun p hp => by
    obtain ⟨q, hq, rfl⟩ := List.mem_map.1 hp
    have := le_sum (List.mem_map_of_mem (f := bl_Place) hq)
    unfold bl_Place at this
    show q.f2.size ≤ 1048576
    unfold bl_Place at hb2
    omega
  generalize x.map cv_Place = u at hto hu hp
  obtain ⟨v, e1, e2, _⟩ := matchAt_eq u s a hu (by omega) hp
  rw [if_neg h]
  simp only [hto, Option.bind_some, e1, e2, if_true, eq_PlaceS u (by omega)]

end Go.Proofs.Ytdajhceookjdmaa.Pure
