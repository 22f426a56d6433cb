/- The program's Closure answers as the reference's, for all arguments. -/
import Derived.Test.YtfdpehmefgfjgaaFFnExactClosure
import Derived.Test.YtfdpehmefgfjgaaBulk
set_option linter.unusedVariables false
set_option linter.unusedSimpArgs false
namespace Go.Proofs.Ytfdpehmefgfjgaa.Pure
open Go.RowKit Go.Proofs.Ytfdpehmefgfjgaa.QFnExactClosure Go.Proofs.YtfdpehmefgfjgaaW.PrintWords Go.Proofs.YtfdpehmefgfjgaaW.PrintLast Go.Proofs.YtfdpehmefgfjgaaW.PrintMore Go.Proofs.YtfdpehmefgfjgaaW.Lims
open Go.Proofs.YtfdpehmefgfjgaaW.Bulk
namespace FnExactClosureAid

theorem rdin82 (xs : List S82) (i : Nat) (h : i < xs.length) : rd_T82 xs (i : Int) = xs[i] := by
  unfold rd_T82
  simp [List.getD_eq_getElem?_getD, h]

theorem rdin99 (xs : List S99) (i : Nat) (h : i < xs.length) : rd_T99 xs (i : Int) = xs[i] := by
  unfold rd_T99
  simp [List.getD_eq_getElem?_getD, h]

def bl_Place (x : S99) : Nat := (x.f2.size + 0)
theorem sz_Place (x : S99) (hx : Wf99 x) (left : Int) (h0 : 0 ≤ left) (h1 : left ≤ 1048576) : laws_szPlace.f (x.f0) (x.f1) (x.f2) (x.f3) (x.f4) (x.f5) left = some (dn (bl_Place x) left) := by
  unfold laws_szPlace.f
  show _ = some (dn (x.f2.size + 0) left)
  refine dn_cut h0 h1 (len_le hx.2.2.1) fun t ht h0 h1 => ?_
  rw [ht]
  exact dn_end _ h0

def bls_Place (l : List S99) : Nat := l.length + (l.map bl_Place).sum
theorem sz_PlaceS (l : List S99) (hx : l.length ≤ maxLen ∧ ∀ x_ ∈ l, Wf99 x_) (left : Int) (h0 : 0 ≤ left) (h1 : left ≤ 1048576) : laws_szPlaceS.fv l left = some (dn (bls_Place l) left) := by
  rw [laws_szPlaceS.fv_eq]
  have hl := len_le hx.1
  refine dn_cut h0 h1 hl fun t ht h0 h1 => ?_
  rw [ht]
  exact sz_all laws_szPlaceS.l0v (fun x0 x1 x5 => (laws_szPlace.f ((rd_T99 x0 x5).f0) ((rd_T99 x0 x5).f1) ((rd_T99 x0 x5).f2) ((rd_T99 x0 x5).f3) ((rd_T99 x0 x5).f4) ((rd_T99 x0 x5).f5) x1)) bl_Place (by intro x l i; exact laws_szPlaceS.l0v_eq x l i) l hl (fun i h left h0 h1 => by simp only [rdin99 l i h]; exact sz_Place l[i] (hx.2 _ (List.getElem_mem h)) left h0 h1) t h0 h1

def cv_Place (x : S99) : S82 := ⟨x.f0, x.f1, x.f2, x.f3, x.f4, x.f5⟩
theorem to_Place (x : S99) (hb : bl_Place x ≤ 1048576) : laws_toPlace.f (x.f0) (x.f1) (x.f2) (x.f3) (x.f4) (x.f5) = some ((cv_Place x).f0, (cv_Place x).f1, (cv_Place x).f2, (cv_Place x).f3, (cv_Place x).f4, (cv_Place x).f5) := by
  unfold bl_Place at hb
  unfold laws_toPlace.f
  all_goals rfl

theorem to_PlaceS (l : List S99) (hb : bls_Place l ≤ 1048576) : laws_toPlaceS.fv l = some (l.map cv_Place) := by
  have hb' := hb
  unfold bls_Place at hb'
  rw [laws_toPlaceS.fv_eq, if_pos (by omega), if_pos (by omega)]
  have := to_all laws_toPlaceS.l0v (fun x0 x4 => (laws_toPlace.f ((rd_T99 x0 x4).f0) ((rd_T99 x0 x4).f1) ((rd_T99 x0 x4).f2) ((rd_T99 x0 x4).f3) ((rd_T99 x0 x4).f4) ((rd_T99 x0 x4).f5))) (fun t20 => (⟨t20.1, t20.2.1, t20.2.2.1, t20.2.2.2.1, t20.2.2.2.2.1, t20.2.2.2.2.2⟩ : S82)) cv_Place (by intro x acc i; exact laws_toPlaceS.l0v_eq x acc i) l (by omega) (fun i h => by
    have hm := le_sum (List.mem_map_of_mem (f := bl_Place) (List.getElem_mem h))
    simp only [rdin99 l i h]; exact ⟨_, to_Place l[i] (by omega), rfl⟩) z82
  simpa using this

-- TODO laws_toIntS
-- TODO laws_eqIntS
theorem eq_Place (y : S82) : laws_eqPlace.f (y.f0) (y.f1) (y.f2) (y.f3) (y.f4) (y.f5) (y.f0) (y.f1) (y.f2) (y.f3) (y.f4) (y.f5) = some true := by
  unfold laws_eqPlace.f
  simp

theorem eq_PlaceS (l : List S82) (h : l.length ≤ 9223372036854775807) : laws_eqPlaceS.fv l l = some true := by
  rw [laws_eqPlaceS.fv_eq, if_pos rfl]
  exact eq_all laws_eqPlaceS.l0v (fun l0 x1 x5 => (laws_eqPlace.f ((rd_T82 l0 x5).f0) ((rd_T82 l0 x5).f1) ((rd_T82 l0 x5).f2) ((rd_T82 l0 x5).f3) ((rd_T82 l0 x5).f4) ((rd_T82 l0 x5).f5) ((rd_T82 x1 x5).f0) ((rd_T82 x1 x5).f1) ((rd_T82 x1 x5).f2) ((rd_T82 x1 x5).f3) ((rd_T82 x1 x5).f4) ((rd_T82 x1 x5).f5))) (by intro x y i; exact laws_eqPlaceS.l0v_eq x y i) l h (fun i hi => by simp only [rdin82 l i hi]; exact eq_Place l[i])

-- TODO laws_eqIntS_2
theorem wrap_small (t : Int) (h : 0 ≤ t) (h' : t ≤ 2000000000) : wrap64 t = t := wrap_in (by omega) (by omega)
/-! marks: texts by number -/
theorem mt_run (d : Nat) : ∀ (n : Int) (s : ByteArray), 0 ≤ n → n ≤ 2000000000 → n < 10 ^ d → s.size + d ≤ 1000000 → ∃ t, laws_markText.l0v n s = some t := by
  induction d with
  | zero =>
    intro n s h0 hm h1 h2
    have : n = 0 := by simp at h1; omega
    subst this
    have h109 : (⟨#[109]⟩ : ByteArray).size = 1 := rfl
    rw [laws_markText.l0v_eq, if_neg (by omega), if_pos (by omega)]
    exact ⟨_, rfl⟩
  | succ d ih =>
    intro n s h0 hm h1 h2
    rw [laws_markText.l0v_eq]
    by_cases h : n > 0
    · have hsz : (strOfNums ([(wrap64 (48 + (Int.tmod n 10))) % 256] : List Int)).size = 1 := by rw [strOfNums_size]; rfl
      have hd : Int.tdiv n 10 = n / 10 := Int.tdiv_eq_ediv_of_nonneg h0
      have hn : n / 10 < 10 ^ d := by
        have : (10 : Int) ^ (d + 1) = 10 ^ d * 10 := Int.pow_succ 10 d
        omega
      have hp : (10 : Int) ^ d ≤ 10 ^ d := Int.le_refl _
      rw [if_pos h]
      try rw [Option.bind_some]
      rw [if_pos (by omega), hd]
      rw [wrap_in (by omega) (by omega)]
      exact ih _ _ (by omega) (by omega) hn (by rw [ByteArray.size_append, hsz]; omega)
    · have h109 : (⟨#[109]⟩ : ByteArray).size = 1 := rfl
      rw [if_neg h, if_pos (by omega)]
      exact ⟨_, rfl⟩
noncomputable def mt (n : Int) : ByteArray := (laws_markText.fv n).getD ⟨#[]⟩
theorem mt_eq (n : Int) (h : 0 < n) (h' : n ≤ 2000000000) : laws_markText.fv n = some (mt n) := by
  obtain ⟨t, ht⟩ : ∃ t, laws_markText.fv n = some t := by
    rw [laws_markText.fv_eq, if_neg (by omega)]
    exact mt_run 12 n _ (by omega) h' (by omega) (by decide)
  rw [mt, ht]
  rfl
-- TODO marks laws_markIntS

/-! ### what is reached from some places -/
inductive Rch (n : Nat) (nx : Int → List Int) (S : Int → Prop) : Int → Prop
  | base {i : Int} (h : S i) (h0 : 0 ≤ i) (h1 : i < n) : Rch n nx S i
  | step {i j : Int} (h : Rch n nx S i) (hj : j ∈ nx i) (h0 : 0 ≤ j) (h1 : j < n) : Rch n nx S j
theorem rch_in {n : Nat} {nx : Int → List Int} {S : Int → Prop} {i : Int} (h : Rch n nx S i) : 0 ≤ i ∧ i < n := by cases h <;> exact ⟨by assumption, by assumption⟩
theorem rch_min {n : Nat} {nx : Int → List Int} {S : Int → Prop} {X : Int → Prop} (h0 : ∀ i, S i → 0 ≤ i → i < n → X i) (h1 : ∀ i, X i → ∀ j ∈ nx i, 0 ≤ j → j < n → X j) {i : Int} (h : Rch n nx S i) : X i := by
  induction h with
  | base h a b => exact h0 _ h a b
  | step _ hj a b ih => exact h1 _ ih _ hj a b
/-- How many places are not marked. -/
def blanks (l : List Bool) : Nat := l.countP (· == false)
theorem blanks_set : ∀ (l : List Bool) (i : Nat), l[i]? = some false → blanks (l.set i true) + 1 = blanks l
  | [], i, h => by simp at h
  | b :: l, 0, h => by simp at h; subst h; simp [blanks]
  | b :: l, i + 1, h => by
    have := blanks_set l i (by simpa using h)
    unfold blanks at *
    simp only [List.set_cons_succ, List.countP_cons]
    omega
theorem blanks_le (l : List Bool) : blanks l ≤ l.length := List.countP_le_length
theorem blanks_rep (n : Nat) : blanks (List.replicate n false) = n := by simp [blanks, List.countP_replicate]
def Mk (l : List Bool) (i : Int) : Prop := 0 ≤ i ∧ l[i.toNat]? = some true
theorem mk_lt {l : List Bool} {i : Int} (h : Mk l i) : i < (l.length : Int) := by
  have := (List.getElem?_eq_some_iff.1 h.2).1
  have := h.1
  omega
theorem rdb {l : List Bool} {i : Int} (h0 : 0 ≤ i) (h1 : i < (l.length : Int)) : l[i.toNat]? = some (rdOf false l i) := by
  have h : i.toNat < l.length := by omega
  unfold rdOf
  simp [List.getD, h]
theorem mk_rd {l : List Bool} {i : Int} (h0 : 0 ≤ i) (h1 : i < (l.length : Int)) : rdOf false l i = true ↔ Mk l i := by
  have := rdb h0 h1
  constructor
  · intro h; exact ⟨h0, by rw [this, h]⟩
  · intro h; have h2 := h.2; rw [this] at h2; exact Option.some.inj h2
theorem mk_set {l : List Bool} {k i : Int} (h0 : 0 ≤ k) (h1 : k < (l.length : Int)) : Mk (l.set k.toNat true) i ↔ i = k ∨ Mk l i := by
  unfold Mk
  rw [List.getElem?_set]
  by_cases e : k.toNat = i.toNat
  · rw [if_pos e, if_pos (by omega)]
    constructor
    · intro h; left; omega
    · rintro (h | h)
      · subst h; exact ⟨h0, rfl⟩
      · exact ⟨h.1, rfl⟩
  · rw [if_neg e]
    constructor
    · exact .inr
    · rintro (h | h)
      · subst h; exact absurd rfl e
      · exact h
theorem rdi {l : List Int} {i : Int} (h0 : 0 ≤ i) (h1 : i < (l.length : Int)) : l[i.toNat]? = some (rdOf (0 : Int) l i) := by
  have h : i.toNat < l.length := by omega
  unfold rdOf
  simp [List.getD, h]
theorem mem_rdi {l : List Int} {i : Int} (h0 : 0 ≤ i) (h1 : i < (l.length : Int)) : rdOf (0 : Int) l i ∈ l := List.mem_iff_getElem?.2 ⟨_, rdi h0 h1⟩
/-- The marked places, in order. -/
def marked (l : List Bool) (k : Nat) : List Int := ((List.range' k (l.length - k)).filter fun i => l.getD i false).map fun i : Nat => (i : Int)
theorem marked_mem {l : List Bool} {i : Int} : i ∈ marked l 0 ↔ Mk l i := by
  unfold marked Mk
  simp only [List.mem_map, List.mem_filter, List.mem_range'_1]
  constructor
  · rintro ⟨k, ⟨⟨h1, h2⟩, h3⟩, rfl⟩
    refine ⟨by omega, ?_⟩
    have hk : k < l.length := by omega
    simp [List.getD, hk] at h3
    simp [hk, h3]
  · rintro ⟨h0, h1⟩
    have hk := (List.getElem?_eq_some_iff.1 h1).1
    refine ⟨i.toNat, ⟨⟨by omega, by omega⟩, ?_⟩, by omega⟩
    simp [List.getD, h1]
theorem marked_sorted (l : List Bool) (k : Nat) : (marked l k).Pairwise (· < ·) := by
  unfold marked
  rw [List.pairwise_map]
  refine List.Pairwise.imp (R := (· < ·)) (fun h => by omega) ?_
  exact List.Pairwise.filter _ List.pairwise_lt_range'
/-- Sorted, what has each marked place once is the marked places in order. -/
theorem sort_marked {l : List Bool} {out : List Int} (hn : out.Nodup) (hm : ∀ i, i ∈ out ↔ Mk l i) : (out.mergeSort fun x y => decide (x ≤ y)) = marked l 0 := by
  have hs : (out.mergeSort fun x y => decide (x ≤ y)).Pairwise (fun a b => decide (a ≤ b) = true) := List.pairwise_mergeSort (fun a b c h1 h2 => by simp at *; omega) (fun a b => by simp; omega) out
  have hp : (out.mergeSort fun x y => decide (x ≤ y)).Perm (marked l 0) := by
    refine (List.mergeSort_perm _ _).trans ?_
    refine (List.perm_ext_iff_of_nodup hn ?_).2 fun i => (hm i).trans marked_mem.symm
    exact List.Pairwise.imp (fun h => by omega) (marked_sorted l 0)
  refine List.Perm.eq_of_pairwise (le := fun a b => a ≤ b) (fun a b _ _ h1 h2 => by omega) (List.Pairwise.imp (fun h => by simpa using h) hs) (List.Pairwise.imp (fun h => by omega) (marked_sorted l 0)) hp
theorem marked_step {l : List Bool} {k : Nat} (h : k < l.length) : marked l k = if rdOf false l (k : Int) = true then (k : Int) :: marked l (k + 1) else marked l (k + 1) := by
  unfold marked rdOf
  rw [show l.length - k = (l.length - (k + 1)) + 1 by omega, List.range'_succ, List.filter_cons, Int.toNat_natCast]
  split <;> simp
theorem marked_end {l : List Bool} {k : Nat} (h : l.length ≤ k) : marked l k = [] := by
  unfold marked
  rw [show l.length - k = 0 by omega]; rfl

/-! ### both closures are what is reached -/
/-- Where a place goes on without a byte. -/
def nxt (L : List S82) (b e : Bool) (i : Int) : List Int :=
  if (rd_T82 L i).f0 = 6 then [(rd_T82 L i).f4] else if (rd_T82 L i).f0 = 7 then [(rd_T82 L i).f4, (rd_T82 L i).f5] else if (rd_T82 L i).f0 = 4 then (if b = true then [i + 1] else []) else if (rd_T82 L i).f0 = 5 then (if e = true then [i + 1] else []) else []
/-- One start of the reference's walk: what is marked behind it. -/
theorem close_run (L : List S82) (b e : Bool) (S : Int → Prop) (hL : L.length ≤ 1048576) : ∀ (m : Nat) (l : List Bool) (todo : List Int), m ≤ 4194304 → 3 * blanks l + todo.length ≤ m → l.length = L.length →
    (∀ i, Mk l i → Rch L.length (nxt L b e) S i) → (∀ t ∈ todo, 0 ≤ t → t < (L.length : Int) → Rch L.length (nxt L b e) S t) →
    (∀ i, Mk l i → ∀ j ∈ nxt L b e i, 0 ≤ j → j < (L.length : Int) → Mk l j ∨ j ∈ todo) →
    ∃ l', spec_l4Close.l0v L l b e todo = some l' ∧ l'.length = L.length ∧ (∀ i, Mk l' i → Rch L.length (nxt L b e) S i) ∧ (∀ i, Mk l i → Mk l' i) ∧ (∀ t ∈ todo, 0 ≤ t → t < (L.length : Int) → Mk l' t) ∧ ∀ i, Mk l' i → ∀ j ∈ nxt L b e i, 0 ≤ j → j < (L.length : Int) → Mk l' j := by
  intro m
  induction m with
  | zero =>
    intro l todo hm4 hm hl h1 h2 h3
    have ht : todo = [] := List.eq_nil_of_length_eq_zero (by omega)
    subst ht
    rw [spec_l4Close.l0v_eq, if_neg (by simp)]
    refine ⟨l, rfl, hl, h1, fun _ h => h, by simp, fun i hi j hj a c => ?_⟩
    rcases h3 i hi j hj a c with h | h
    · exact h
    · simp at h
  | succ m ih =>
    intro l todo hm4 hm hl h1 h2 h3
    rw [spec_l4Close.l0v_eq]
    by_cases ht : todo = []
    · subst ht
      rw [if_neg (by simp)]
      refine ⟨l, rfl, hl, h1, fun _ h => h, by simp, fun i hi j hj a c => ?_⟩
      rcases h3 i hi j hj a c with h | h
      · exact h
      · simp at h
    · obtain ⟨rest, k, rfl⟩ : ∃ rest k, todo = rest ++ [k] := ⟨todo.dropLast, todo.getLast ht, (List.dropLast_concat_getLast ht).symm⟩
      have hb : blanks l ≤ 1048576 := Nat.le_trans (blanks_le l) (by omega)
      have hlen : (rest ++ [k]).length = rest.length + 1 := by simp
      have hw : wrap64 (((rest ++ [k]).length : Int) - 1) = (rest.length : Int) := by rw [hlen, wrap_in (by omega) (by omega)]; omega
      rw [hw]
      have hk : rdOf (0 : Int) (rest ++ [k]) (rest.length : Int) = k := by
        unfold rdOf
        simp [List.getD]
      have htk : (rest ++ [k]).take ((rest.length : Int)).toNat = rest := by simp
      rw [hk, htk, if_pos (by rw [hlen]; omega), if_pos (by omega), if_pos (by rw [hlen]; omega), if_pos (by rw [hlen]; omega)]
      rw [hlen] at hm
      -- what is left out
      have skip : (0 ≤ k → k < (L.length : Int) → Mk l k) → ∃ l', spec_l4Close.l0v L l b e rest = some l' ∧ l'.length = L.length ∧ (∀ i, Mk l' i → Rch L.length (nxt L b e) S i) ∧ (∀ i, Mk l i → Mk l' i) ∧ (∀ t ∈ rest ++ [k], 0 ≤ t → t < (L.length : Int) → Mk l' t) ∧ ∀ i, Mk l' i → ∀ j ∈ nxt L b e i, 0 ≤ j → j < (L.length : Int) → Mk l' j := fun hkk => by
        obtain ⟨l', q1, q2, q3, q4, q5, q6⟩ := ih l rest (by omega) (by omega) hl h1 (fun t h => h2 t (by simp [h])) (fun i hi j hj a c => by
          rcases h3 i hi j hj a c with h | h
          · exact .inl h
          · rcases List.mem_append.1 h with h | h
            · exact .inr h
            · rw [List.mem_singleton.1 h] at a c ⊢; exact .inl (hkk a c))
        refine ⟨l', q1, q2, q3, q4, fun t h a c => ?_, q6⟩
        rcases List.mem_append.1 h with h | h
        · exact q5 t h a c
        · rw [List.mem_singleton.1 h] at a c ⊢; exact q4 _ (hkk a c)
      by_cases c1 : k ≥ (L.length : Int)
      · rw [if_pos c1, spec_l4Close.j1v_eq, if_pos rfl]; exact skip (fun _ h => by omega)
      rw [if_neg c1]
      by_cases c2 : k < 0
      · rw [if_pos c2, spec_l4Close.j1v_eq, if_pos rfl]; exact skip (fun h _ => by omega)
      rw [if_neg c2, if_pos (by omega), if_pos (by rw [hl]; omega), spec_l4Close.j1v_eq]
      by_cases c3 : rdOf false l k = true
      · rw [if_pos c3]; exact skip (fun h0 h1 => (mk_rd h0 (by rw [hl]; exact h1)).1 c3)
      rw [if_neg c3, spec_l4Close.j0v_eq, if_pos (by omega), if_pos (by rw [hl]; omega), if_pos (by omega)]
      have hkr : Rch L.length (nxt L b e) S k := h2 k (by simp) (by omega) (by omega)
      have hbl : blanks (l.set k.toNat true) + 1 = blanks l := blanks_set l _ (by rw [rdb (by omega) (by rw [hl]; omega)]; simp at c3; rw [c3])
      have hset : ∀ i, Mk (l.set k.toNat true) i ↔ i = k ∨ Mk l i := fun i => mk_set (by omega) (by rw [hl]; omega)
      have go : ∀ add : List Int, add.length ≤ 2 → nxt L b e k = add → ∃ l', spec_l4Close.l0v L (l.set k.toNat true) b e (rest ++ add) = some l' ∧ l'.length = L.length ∧ (∀ i, Mk l' i → Rch L.length (nxt L b e) S i) ∧ (∀ i, Mk l i → Mk l' i) ∧ (∀ t ∈ rest ++ [k], 0 ≤ t → t < (L.length : Int) → Mk l' t) ∧ ∀ i, Mk l' i → ∀ j ∈ nxt L b e i, 0 ≤ j → j < (L.length : Int) → Mk l' j := fun add hadd hnx => by
        obtain ⟨l', q1, q2, q3, q4, q5, q6⟩ := ih (l.set k.toNat true) (rest ++ add) (by omega) (by rw [List.length_append]; omega) (by rw [List.length_set]; exact hl)
          (fun i hi => by rcases (hset i).1 hi with h | h; (· subst h; exact hkr); exact h1 i h)
          (fun t ht a c => by
            rcases List.mem_append.1 ht with h | h
            · exact h2 t (by simp [h]) a c
            · exact .step hkr (by rw [hnx]; exact h) a c)
          (fun i hi j hj a c => by
            rcases (hset i).1 hi with h | h
            · subst h; rw [hnx] at hj; exact .inr (by simp [hj])
            · rcases h3 i h j hj a c with h | h
              · exact .inl ((hset j).2 (.inr h))
              · rcases List.mem_append.1 h with h | h
                · exact .inr (by simp [h])
                · exact .inl ((hset j).2 (.inl (List.mem_singleton.1 h))))
        refine ⟨l', q1, q2, q3, fun i hi => q4 i ((hset i).2 (.inr hi)), fun t h a c => ?_, q6⟩
        rcases List.mem_append.1 h with h | h
        · exact q5 t (by simp [h]) a c
        · rw [List.mem_singleton.1 h] at a c ⊢; exact q4 _ ((hset k).2 (.inl rfl))
      have hr : rest.length ≤ 4194304 := by omega
      have go0 : nxt L b e k = [] → _ := fun hnx => go [] (by simp) hnx
      rw [List.append_nil] at go0
      have hw1 : wrap64 (k + 1) = k + 1 := wrap_in (by omega) (by omega)
      rw [hw1]
      by_cases d6 : (rd_T82 L k).f0 = 6
      · rw [if_pos d6, if_pos (by omega)]; exact go _ (by simp) (by simp [nxt, d6])
      rw [if_neg d6]
      by_cases d7 : (rd_T82 L k).f0 = 7
      · rw [if_pos d7, if_pos (by omega)]; exact go _ (by simp) (by simp [nxt, d7])
      rw [if_neg d7]
      by_cases d4 : (rd_T82 L k).f0 = 4
      · rw [if_pos d4]
        by_cases hbb : b = true
        · rw [if_pos hbb, if_pos (by omega)]; exact go _ (by simp) (by simp [nxt, d4, hbb])
        · rw [if_neg hbb]; exact go0 (by simp [nxt, d4, hbb])
      rw [if_neg d4]
      by_cases d5 : (rd_T82 L k).f0 = 5
      · rw [if_pos d5]
        by_cases hbb : e = true
        · rw [if_pos hbb, if_pos (by omega)]; exact go _ (by simp) (by simp [nxt, d5, hbb])
        · rw [if_neg hbb]; exact go0 (by simp [nxt, d5, hbb])
      rw [if_neg d5]
      exact go0 (by simp [nxt, d4, d5, d6, d7])
theorem list_run (l : List Bool) (hl : l.length ≤ 1048576) : ∀ (d k : Nat) (out : List Int), l.length - k = d → k ≤ l.length → out.length ≤ k → spec_l4List.l0v l out (k : Int) = some (out ++ marked l k) := by
  intro d
  induction d with
  | zero =>
    intro k out h1 h2 h3
    rw [spec_l4List.l0v_eq, if_neg (by omega), marked_end (by omega), List.append_nil]
  | succ d ih =>
    intro k out h1 h2 h3
    rw [spec_l4List.l0v_eq, if_pos (by omega), if_pos (by omega), wrap_in (n := (k : Int) + 1) (by omega) (by omega), show (k : Int) + 1 = ((k + 1 : Nat) : Int) by omega, marked_step (l := l) (k := k) (by omega)]
    by_cases h : rdOf false l (k : Int) = true
    · rw [if_pos h, if_pos h, if_pos (by omega), ih (k + 1) _ (by omega) (by omega) (by simp; omega)]
      simp
    · rw [if_neg h, if_neg h, ih (k + 1) _ (by omega) (by omega) (by omega)]
/-- The places that are marked in the end. -/
def Seeds (at_ : List Int) (i : Int) : Prop := i ∈ at_
theorem specClose_run (L : List S82) (at_ : List Int) (b e : Bool) (hL : L.length ≤ 1048576) (hA : at_.length ≤ 9223372036854775806) : ∀ (d k : Nat) (l : List Bool), at_.length - k = d → k ≤ at_.length → l.length = L.length →
    (∀ i, Mk l i → Rch L.length (nxt L b e) (Seeds at_) i) → (∀ t ∈ at_.take k, 0 ≤ t → t < (L.length : Int) → Mk l t) → (∀ i, Mk l i → ∀ j ∈ nxt L b e i, 0 ≤ j → j < (L.length : Int) → Mk l j) →
    ∃ l' : List Bool, spec_Closure.l0v L at_ b e l (k : Int) = some (marked l' 0) ∧ l'.length = L.length ∧ ∀ i, Mk l' i ↔ Rch L.length (nxt L b e) (Seeds at_) i := by
  intro d
  induction d with
  | zero =>
    intro k l h1 h2 hl q1 q2 q3
    rw [spec_Closure.l0v_eq, if_neg (by omega), spec_l4List.fv_eq, show (0 : Int) = ((0 : Nat) : Int) from rfl, list_run l (by omega) _ 0 [] rfl (by omega) (by simp)]
    refine ⟨l, by simp, hl, fun i => ⟨q1 i, fun h => ?_⟩⟩
    refine rch_min (X := Mk l) (fun i hi a c => ?_) q3 h
    exact q2 i (by rw [List.take_of_length_le (by omega)]; exact hi) a c
  | succ d ih =>
    intro k l h1 h2 hl q1 q2 q3
    rw [spec_Closure.l0v_eq, if_pos (by omega), if_pos (by omega), spec_l4Close.fv_eq]
    have hk : k < at_.length := by omega
    have hx : at_[k]? = some (rdOf (0 : Int) at_ (k : Int)) := by have := rdi (l := at_) (i := (k : Int)) (by omega) (by omega); simpa using this
    have hm : rdOf (0 : Int) at_ (k : Int) ∈ at_ := List.mem_iff_getElem?.2 ⟨_, hx⟩
    obtain ⟨l', r1, r2, r3, r4, r5, r6⟩ := close_run L b e (Seeds at_) hL _ l [rdOf (0 : Int) at_ (k : Int)] (by have := blanks_le l; simp only [List.length_singleton]; omega) (Nat.le_refl _) hl q1 (fun t ht a c => by rw [List.mem_singleton.1 ht] at a c ⊢; exact .base hm a c) (fun i hi j hj a c => .inl (q3 i hi j hj a c))
    rw [r1, Option.bind_some, wrap_in (n := (k : Int) + 1) (by omega) (by omega), show (k : Int) + 1 = ((k + 1 : Nat) : Int) by omega]
    refine ih (k + 1) l' (by omega) (by omega) r2 r3 (fun t ht a c => ?_) r6
    rw [List.take_add_one, hx] at ht
    rcases List.mem_append.1 ht with h | h
    · exact r4 t (q2 t h a c)
    · simp at h; subst h; exact r5 _ (by simp) a c
theorem mk_rep (n : Nat) (i : Int) : ¬ Mk (List.replicate n false) i := by
  rintro ⟨_, h⟩
  rw [List.getElem?_replicate] at h
  split at h <;> simp at h
theorem spec_closure (L : List S82) (at_ : List Int) (b e : Bool) (hL : L.length ≤ 1048576) (hA : at_.length ≤ 9223372036854775806) : ∃ l' : List Bool, spec_Closure.fv L at_ b e = some (marked l' 0) ∧ l'.length = L.length ∧ ∀ i, Mk l' i ↔ Rch L.length (nxt L b e) (Seeds at_) i := by
  rw [spec_Closure.fv_eq, if_pos (by omega), if_pos (by omega)]
  exact specClose_run L at_ b e hL hA _ 0 _ rfl (by omega) (by simp) (fun i h => (mk_rep _ i h).elim) (by simp) (fun i h => (mk_rep _ i h).elim)

structure CInv (L : List S82) (b e : Bool) (S : Int → Prop) (l : List Bool) (out : List Int) : Prop where
  len : l.length = L.length
  nod : out.Nodup
  mem : ∀ i, i ∈ out ↔ Mk l i
  cnt : out.length + blanks l = L.length
  rch : ∀ i, Mk l i → Rch L.length (nxt L b e) S i
theorem put_run {L : List S82} {b e : Bool} {S : Int → Prop} {l : List Bool} {out : List Int} (hL : L.length ≤ 1048576) (h : CInv L b e S l out) (a : Int) (ha : 0 ≤ a → a < (L.length : Int) → Rch L.length (nxt L b e) S a) :
    ∃ l' ext, impl_Closure_1.fv a L l out = some (l', out ++ ext) ∧ CInv L b e S l' (out ++ ext) ∧ (0 ≤ a → a < (L.length : Int) → Mk l' a) ∧ ∀ i, Mk l i → Mk l' i := by
  have hout : out.length ≤ 1048576 := by have := h.cnt; omega
  rw [impl_Closure_1.fv_eq, wrap_in (n := (L.length : Int) - 1) (by omega) (by omega)]
  have skip : (0 ≤ a → a < (L.length : Int) → Mk l a) → ∃ l' ext, (some (l, out) : Option (List Bool × List Int)) = some (l', out ++ ext) ∧ CInv L b e S l' (out ++ ext) ∧ (0 ≤ a → a < (L.length : Int) → Mk l' a) ∧ ∀ i, Mk l i → Mk l' i := fun hk => ⟨l, [], by simp, by simpa using h, hk, fun _ k => k⟩
  unfold impl_in.f
  by_cases c1 : a ≥ 0
  · rw [if_pos c1, Option.bind_some]
    by_cases c2 : a ≤ (L.length : Int) - 1
    · rw [if_pos (by simpa using c2), if_pos (by omega), if_pos (by rw [h.len]; omega), impl_Closure_1.j0v_eq]
      have hal : a < (l.length : Int) := by rw [h.len]; omega
      by_cases c3 : rdOf false l a = true
      · rw [if_neg (by simp [c3])]; exact skip fun h0 _ => (mk_rd h0 hal).1 c3
      · have c3' : rdOf false l a = false := by simpa using c3
        rw [if_pos (by simp [c3']), if_pos (by omega), if_pos hal, if_pos (by omega)]
        have hnot : ¬ Mk l a := fun hm => c3 ((mk_rd c1 hal).2 hm)
        refine ⟨l.set a.toNat true, [a], rfl, ⟨by rw [List.length_set]; exact h.len, ?_, fun i => ?_, ?_, fun i hi => ?_⟩, fun _ _ => (mk_set c1 hal).2 (.inl rfl), fun i hi => (mk_set c1 hal).2 (.inr hi)⟩
        · rw [List.nodup_append]
          refine ⟨h.nod, by simp, fun x hx y hy e => ?_⟩
          rw [List.mem_singleton.1 hy] at e; subst e
          exact hnot ((h.mem x).1 hx)
        · rw [List.mem_append, List.mem_singleton, h.mem i, mk_set c1 hal]
          exact Or.comm
        · have := blanks_set l a.toNat (by rw [rdb c1 hal, c3'])
          have := h.cnt
          simp only [List.length_append, List.length_singleton]
          omega
        · rcases (mk_set c1 hal).1 hi with q | q
          · subst q; exact ha c1 (by omega)
          · exact h.rch i q
    · rw [if_neg (by simpa using c2), impl_Closure_1.j0v_eq, if_neg (by simp)]; exact skip fun _ hh => by omega
  · rw [if_neg c1, Option.bind_some, if_neg (by simp), impl_Closure_1.j0v_eq, if_neg (by simp)]; exact skip fun hh _ => by omega
theorem nxt_rch {L : List S82} {b e : Bool} {S : Int → Prop} {i : Int} (h : Rch L.length (nxt L b e) S i) {j : Int} (hj : j ∈ nxt L b e i) (h0 : 0 ≤ j) (h1 : j < (L.length : Int)) : Rch L.length (nxt L b e) S j := .step h hj h0 h1
theorem main_run (L : List S82) (at_ : List Int) (b e : Bool) (hL : L.length ≤ 1048576) : ∀ (d k : Nat) (l : List Bool) (out : List Int), L.length - k = d → k ≤ out.length → CInv L b e (Seeds at_) l out → (∀ t ∈ at_, 0 ≤ t → t < (L.length : Int) → Mk l t) →
    (∀ x : Nat, x < k → ∀ i, out[x]? = some i → ∀ j ∈ nxt L b e i, 0 ≤ j → j < (L.length : Int) → Mk l j) →
    ∃ l' : List Bool, impl_Closure.l1v b e (k : Int) L at_ l out = some (marked l' 0) ∧ l'.length = L.length ∧ ∀ i, Mk l' i ↔ Rch L.length (nxt L b e) (Seeds at_) i := by
  intro d
  induction d with
  | zero =>
    intro k l out h1 h2 h q1 q2
    have hk : out.length ≤ k := by have := h.cnt; omega
    rw [impl_Closure.l1v_eq, if_neg (by omega)]
    unfold slices_Sort_int.f
    rw [if_pos (by have := h.cnt; omega), Option.bind_some, sort_marked h.nod h.mem]
    refine ⟨l, rfl, h.len, fun i => ⟨h.rch i, fun hh => ?_⟩⟩
    refine rch_min (X := Mk l) (fun i hi a c => q1 i hi a c) (fun i hi j hj a c => ?_) hh
    obtain ⟨x, hx⟩ := List.mem_iff_getElem?.1 ((h.mem i).2 hi)
    exact q2 x (by have := (List.getElem?_eq_some_iff.1 hx).1; omega) i hx j hj a c
  | succ d ih =>
    intro k l out h1 h2 h q1 q2
    have hcnt := h.cnt
    rw [impl_Closure.l1v_eq]
    by_cases hlt : (k : Int) < (out.length : Int)
    · have hx : out[k]? = some (rdOf (0 : Int) out (k : Int)) := by have := rdi (l := out) (i := (k : Int)) (by omega) hlt; simpa using this
      have hm : Mk l (rdOf (0 : Int) out (k : Int)) := (h.mem _).1 (List.mem_iff_getElem?.2 ⟨_, hx⟩)
      rw [if_pos hlt, if_pos (by omega)]
      generalize hi : rdOf (0 : Int) out (k : Int) = i at *
      have hr := h.rch i hm
      obtain ⟨hi0, hi1⟩ := rch_in hr
      rw [if_pos hi0, if_pos hi1, wrap_in (n := (k : Int) + 1) (by omega) (by omega), wrap_in (n := i + 1) (by omega) (by omega), show (k : Int) + 1 = ((k + 1 : Nat) : Int) by omega]
      -- what has been done with a place
      have next : ∀ (l' : List Bool) (ext : List Int), CInv L b e (Seeds at_) l' (out ++ ext) → (∀ i, Mk l i → Mk l' i) → (∀ j ∈ nxt L b e i, 0 ≤ j → j < (L.length : Int) → Mk l' j) →
          ∃ l2 : List Bool, impl_Closure.l1v b e ((k + 1 : Nat) : Int) L at_ l' (out ++ ext) = some (marked l2 0) ∧ l2.length = L.length ∧ ∀ i, Mk l2 i ↔ Rch L.length (nxt L b e) (Seeds at_) i := fun l' ext hv hmono hnx =>
        ih (k + 1) l' (out ++ ext) (by omega) (by rw [List.length_append]; omega) hv (fun t ht a c => hmono t (q1 t ht a c)) (fun x hx' i' hi' j hj a c => by
          rcases Nat.lt_or_ge x k with hxk | hxk
          · rw [List.getElem?_append_left (by omega)] at hi'
            exact hmono j (q2 x hxk i' hi' j hj a c)
          · have : x = k := by omega
            subst this
            rw [List.getElem?_append_left (by omega), hx] at hi'
            cases hi'
            exact hnx j hj a c)
      have next0 : nxt L b e i = [] → _ := fun hn => next l [] (by simpa using h) (fun _ x => x) (by rw [hn]; simp)
      rw [List.append_nil] at next0
      have one : ∀ a, nxt L b e i = [a] → ∃ l2 : List Bool, ((impl_Closure_1.fv a L l out).bind fun t => impl_Closure.l1v b e ((k + 1 : Nat) : Int) L at_ t.1 t.2) = some (marked l2 0) ∧ l2.length = L.length ∧ ∀ i, Mk l2 i ↔ Rch L.length (nxt L b e) (Seeds at_) i := fun a hn => by
        obtain ⟨l', ext, e1, e2, e3, e4⟩ := put_run hL h a (fun a0 a1 => nxt_rch hr (by rw [hn]; simp) a0 a1)
        rw [e1, Option.bind_some]
        refine next l' ext e2 e4 ?_
        rw [hn]
        intro j hj a0 a1
        rw [List.mem_singleton.1 hj] at a0 a1 ⊢; exact e3 a0 a1
      by_cases d6 : (rd_T82 L i).f0 = 6
      · rw [if_pos d6]; exact one _ (by simp [nxt, d6])
      rw [if_neg d6]
      by_cases d7 : (rd_T82 L i).f0 = 7
      · rw [if_pos d7]
        have hn : nxt L b e i = [(rd_T82 L i).f4, (rd_T82 L i).f5] := by simp [nxt, d7]
        obtain ⟨l', ext, e1, e2, e3, e4⟩ := put_run hL h (rd_T82 L i).f4 (fun a0 a1 => nxt_rch hr (by rw [hn]; simp) a0 a1)
        rw [e1, Option.bind_some]
        obtain ⟨l2, ext2, g1, g2, g3, g4⟩ := put_run hL e2 (rd_T82 L i).f5 (fun a0 a1 => nxt_rch hr (by rw [hn]; simp) a0 a1)
        simp only []
        rw [g1, Option.bind_some, List.append_assoc]
        rw [List.append_assoc] at g2
        refine next l2 (ext ++ ext2) g2 (fun i hi => g4 i (e4 i hi)) ?_
        rw [hn]
        intro j hj a0 a1
        simp only [List.mem_cons, List.not_mem_nil, or_false] at hj
        rcases hj with rfl | rfl
        · exact g4 _ (e3 a0 a1)
        · exact g3 a0 a1
      rw [if_neg d7]
      by_cases d4 : (rd_T82 L i).f0 = 4
      · rw [if_pos d4]
        by_cases hbb : b = true
        · rw [if_pos hbb]; exact one _ (by simp [nxt, d4, hbb])
        · rw [if_neg hbb]; exact next0 (by simp [nxt, d4, hbb])
      rw [if_neg d4]
      by_cases d5 : (rd_T82 L i).f0 = 5
      · rw [if_pos d5]
        by_cases hbb : e = true
        · rw [if_pos hbb]; exact one _ (by simp [nxt, d5, hbb])
        · rw [if_neg hbb]; exact next0 (by simp [nxt, d5, hbb])
      rw [if_neg d5]
      exact next0 (by simp [nxt, d4, d5, d6, d7])
    · rw [if_neg hlt]
      unfold slices_Sort_int.f
      rw [if_pos (by omega), Option.bind_some, sort_marked h.nod h.mem]
      refine ⟨l, rfl, h.len, fun i => ⟨h.rch i, fun hh => ?_⟩⟩
      refine rch_min (X := Mk l) (fun i hi a c => q1 i hi a c) (fun i hi j hj a c => ?_) hh
      obtain ⟨x, hx⟩ := List.mem_iff_getElem?.1 ((h.mem i).2 hi)
      exact q2 x (by have := (List.getElem?_eq_some_iff.1 hx).1; omega) i hx j hj a c
theorem seed_run (L : List S82) (at_ : List Int) (b e : Bool) (hL : L.length ≤ 1048576) (hA : at_.length ≤ 9223372036854775806) : ∀ (d k : Nat) (l : List Bool) (out : List Int), at_.length - k = d → k ≤ at_.length → CInv L b e (Seeds at_) l out → (∀ t ∈ at_.take k, 0 ≤ t → t < (L.length : Int) → Mk l t) →
    ∃ l' : List Bool, impl_Closure.l0v b e at_ (at_.length : Int) (k : Int) L l out = some (marked l' 0) ∧ l'.length = L.length ∧ ∀ i, Mk l' i ↔ Rch L.length (nxt L b e) (Seeds at_) i := by
  intro d
  induction d with
  | zero =>
    intro k l out h1 h2 h q
    rw [impl_Closure.l0v_eq, if_neg (by omega)]
    exact main_run L at_ b e hL _ 0 l out rfl (by omega) h (by rw [List.take_of_length_le (by omega)] at q; exact q) (fun x hx => by omega)
  | succ d ih =>
    intro k l out h1 h2 h q
    rw [impl_Closure.l0v_eq, if_pos (by omega), if_pos (by omega), if_pos (by omega)]
    have hx : at_[k]? = some (rdOf (0 : Int) at_ (k : Int)) := by have := rdi (l := at_) (i := (k : Int)) (by omega) (by omega); simpa using this
    have hm : rdOf (0 : Int) at_ (k : Int) ∈ at_ := List.mem_iff_getElem?.2 ⟨_, hx⟩
    obtain ⟨l', ext, e1, e2, e3, e4⟩ := put_run hL h (rdOf (0 : Int) at_ (k : Int)) (fun a0 a1 => .base hm a0 a1)
    rw [e1, Option.bind_some, wrap_in (n := (k : Int) + 1) (by omega) (by omega), show (k : Int) + 1 = ((k + 1 : Nat) : Int) by omega]
    refine ih (k + 1) l' (out ++ ext) (by omega) (by omega) e2 (fun t ht a c => ?_)
    rw [List.take_add_one, hx] at ht
    rcases List.mem_append.1 ht with hh | hh
    · exact e4 t (q t hh a c)
    · simp at hh; subst hh; exact e3 a c
theorem impl_closure (L : List S82) (at_ : List Int) (b e : Bool) (hL : L.length ≤ 1048576) (hA : at_.length ≤ 9223372036854775806) : ∃ l' : List Bool, impl_Closure.fv L at_ b e = some (marked l' 0) ∧ l'.length = L.length ∧ ∀ i, Mk l' i ↔ Rch L.length (nxt L b e) (Seeds at_) i := by
  rw [impl_Closure.fv_eq, if_pos (by omega), if_pos (by omega)]
  exact seed_run L at_ b e hL hA _ 0 _ [] rfl (by omega) ⟨by simp, by simp, fun i => ⟨by simp, fun h => (mk_rep _ i h).elim⟩, by simp [blanks_rep], fun i h => (mk_rep _ i h).elim⟩ (by simp)
theorem mk_ext {l l' : List Bool} (hl : l.length = l'.length) (h : ∀ i, Mk l i ↔ Mk l' i) : l = l' := by
  apply List.ext_getElem?
  intro k
  by_cases hk : k < l.length
  · have h1 := h (k : Int)
    unfold Mk at h1
    simp only [Int.toNat_natCast] at h1
    rw [List.getElem?_eq_getElem hk, List.getElem?_eq_getElem (by omega)] at h1 ⊢
    have h0 : (0 : Int) ≤ (k : Int) := by omega
    simp only [h0, true_and, Option.some.injEq] at h1
    congr 1
    cases hb : l[k] <;> cases hb' : l'[k] <;> simp [hb, hb'] at h1 ⊢
  · rw [List.getElem?_eq_none (by omega), List.getElem?_eq_none (by omega)]
/-- Both closures are one; what they tell ascends, and lies within. -/
theorem closure_eq (L : List S82) (at_ : List Int) (b e : Bool) (hL : L.length ≤ 1048576) (hA : at_.length ≤ 9223372036854775806) : ∃ r, spec_Closure.fv L at_ b e = some r ∧ impl_Closure.fv L at_ b e = some r ∧ r.Pairwise (· < ·) ∧ (∀ i ∈ r, 0 ≤ i ∧ i < (L.length : Int)) ∧ r.length ≤ L.length := by
  obtain ⟨l1, a1, a2, a3⟩ := spec_closure L at_ b e hL hA
  obtain ⟨l2, b1, b2, b3⟩ := impl_closure L at_ b e hL hA
  have : l1 = l2 := mk_ext (a2.trans b2.symm) fun i => (a3 i).trans (b3 i).symm
  subst this
  refine ⟨_, a1, b1, marked_sorted _ _, fun i hi => ?_, ?_⟩
  · have := marked_mem.1 hi
    exact ⟨this.1, by rw [← a2]; exact mk_lt this⟩
  · unfold marked
    rw [List.length_map]
    exact Nat.le_trans (List.length_filter_le _ _) (by simp; omega)
structure CInv_2 (L : List S82) (b e : Bool) (S : Int → Prop) (l : List Bool) (out : List Int) : Prop where
  len : l.length = L.length
  nod : out.Nodup
  mem : ∀ i, i ∈ out ↔ Mk l i
  cnt : out.length + blanks l = L.length
  rch : ∀ i, Mk l i → Rch L.length (nxt L b e) S i
theorem put_run_2 {L : List S82} {b e : Bool} {S : Int → Prop} {l : List Bool} {out : List Int} (hL : L.length ≤ 1048576) (h : CInv_2 L b e S l out) (a : Int) (ha : 0 ≤ a → a < (L.length : Int) → Rch L.length (nxt L b e) S a) :
    ∃ l' ext, impl_Closure_1_2.fv a L l out = some (l', out ++ ext) ∧ CInv_2 L b e S l' (out ++ ext) ∧ (0 ≤ a → a < (L.length : Int) → Mk l' a) ∧ ∀ i, Mk l i → Mk l' i := by
  have hout : out.length ≤ 1048576 := by have := h.cnt; omega
  rw [impl_Closure_1_2.fv_eq, wrap_in (n := (L.length : Int) - 1) (by omega) (by omega)]
  have skip : (0 ≤ a → a < (L.length : Int) → Mk l a) → ∃ l' ext, (some (l, out) : Option (List Bool × List Int)) = some (l', out ++ ext) ∧ CInv_2 L b e S l' (out ++ ext) ∧ (0 ≤ a → a < (L.length : Int) → Mk l' a) ∧ ∀ i, Mk l i → Mk l' i := fun hk => ⟨l, [], by simp, by simpa using h, hk, fun _ k => k⟩
  unfold impl_in.f
  by_cases c1 : a ≥ 0
  · rw [if_pos c1, Option.bind_some]
    by_cases c2 : a ≤ (L.length : Int) - 1
    · rw [if_pos (by simpa using c2), if_pos (by omega), if_pos (by rw [h.len]; omega), impl_Closure_1_2.j0v_eq]
      have hal : a < (l.length : Int) := by rw [h.len]; omega
      by_cases c3 : rdOf false l a = true
      · rw [if_neg (by simp [c3])]; exact skip fun h0 _ => (mk_rd h0 hal).1 c3
      · have c3' : rdOf false l a = false := by simpa using c3
        rw [if_pos (by simp [c3']), if_pos (by omega), if_pos hal, if_pos (by omega)]
        have hnot : ¬ Mk l a := fun hm => c3 ((mk_rd c1 hal).2 hm)
        refine ⟨l.set a.toNat true, [a], rfl, ⟨by rw [List.length_set]; exact h.len, ?_, fun i => ?_, ?_, fun i hi => ?_⟩, fun _ _ => (mk_set c1 hal).2 (.inl rfl), fun i hi => (mk_set c1 hal).2 (.inr hi)⟩
        · rw [List.nodup_append]
          refine ⟨h.nod, by simp, fun x hx y hy e => ?_⟩
          rw [List.mem_singleton.1 hy] at e; subst e
          exact hnot ((h.mem x).1 hx)
        · rw [List.mem_append, List.mem_singleton, h.mem i, mk_set c1 hal]
          exact Or.comm
        · have := blanks_set l a.toNat (by rw [rdb c1 hal, c3'])
          have := h.cnt
          simp only [List.length_append, List.length_singleton]
          omega
        · rcases (mk_set c1 hal).1 hi with q | q
          · subst q; exact ha c1 (by omega)
          · exact h.rch i q
    · rw [if_neg (by simpa using c2), impl_Closure_1_2.j0v_eq, if_neg (by simp)]; exact skip fun _ hh => by omega
  · rw [if_neg c1, Option.bind_some, if_neg (by simp), impl_Closure_1_2.j0v_eq, if_neg (by simp)]; exact skip fun hh _ => by omega
theorem nxt_rch_2 {L : List S82} {b e : Bool} {S : Int → Prop} {i : Int} (h : Rch L.length (nxt L b e) S i) {j : Int} (hj : j ∈ nxt L b e i) (h0 : 0 ≤ j) (h1 : j < (L.length : Int)) : Rch L.length (nxt L b e) S j := .step h hj h0 h1
theorem main_run_2 (L : List S82) (at_ : List Int) (b e : Bool) (hL : L.length ≤ 1048576) : ∀ (d k : Nat) (l : List Bool) (out : List Int), L.length - k = d → k ≤ out.length → CInv_2 L b e (Seeds at_) l out → (∀ t ∈ at_, 0 ≤ t → t < (L.length : Int) → Mk l t) →
    (∀ x : Nat, x < k → ∀ i, out[x]? = some i → ∀ j ∈ nxt L b e i, 0 ≤ j → j < (L.length : Int) → Mk l j) →
    ∃ l' : List Bool, impl_Closure_2.l1v b e (k : Int) l out L = some (marked l' 0) ∧ l'.length = L.length ∧ ∀ i, Mk l' i ↔ Rch L.length (nxt L b e) (Seeds at_) i := by
  intro d
  induction d with
  | zero =>
    intro k l out h1 h2 h q1 q2
    have hk : out.length ≤ k := by have := h.cnt; omega
    rw [impl_Closure_2.l1v_eq, if_neg (by omega)]
    unfold slices_Sort_int.f
    rw [if_pos (by have := h.cnt; omega), Option.bind_some, sort_marked h.nod h.mem]
    refine ⟨l, rfl, h.len, fun i => ⟨h.rch i, fun hh => ?_⟩⟩
    refine rch_min (X := Mk l) (fun i hi a c => q1 i hi a c) (fun i hi j hj a c => ?_) hh
    obtain ⟨x, hx⟩ := List.mem_iff_getElem?.1 ((h.mem i).2 hi)
    exact q2 x (by have := (List.getElem?_eq_some_iff.1 hx).1; omega) i hx j hj a c
  | succ d ih =>
    intro k l out h1 h2 h q1 q2
    have hcnt := h.cnt
    rw [impl_Closure_2.l1v_eq]
    by_cases hlt : (k : Int) < (out.length : Int)
    · have hx : out[k]? = some (rdOf (0 : Int) out (k : Int)) := by have := rdi (l := out) (i := (k : Int)) (by omega) hlt; simpa using this
      have hm : Mk l (rdOf (0 : Int) out (k : Int)) := (h.mem _).1 (List.mem_iff_getElem?.2 ⟨_, hx⟩)
      rw [if_pos hlt, if_pos (by omega)]
      generalize hi : rdOf (0 : Int) out (k : Int) = i at *
      have hr := h.rch i hm
      obtain ⟨hi0, hi1⟩ := rch_in hr
      rw [if_pos hi0, if_pos hi1, wrap_in (n := (k : Int) + 1) (by omega) (by omega), wrap_in (n := i + 1) (by omega) (by omega), show (k : Int) + 1 = ((k + 1 : Nat) : Int) by omega]
      -- what has been done with a place
      have next : ∀ (l' : List Bool) (ext : List Int), CInv_2 L b e (Seeds at_) l' (out ++ ext) → (∀ i, Mk l i → Mk l' i) → (∀ j ∈ nxt L b e i, 0 ≤ j → j < (L.length : Int) → Mk l' j) →
          ∃ l2 : List Bool, impl_Closure_2.l1v b e ((k + 1 : Nat) : Int) l' (out ++ ext) L = some (marked l2 0) ∧ l2.length = L.length ∧ ∀ i, Mk l2 i ↔ Rch L.length (nxt L b e) (Seeds at_) i := fun l' ext hv hmono hnx =>
        ih (k + 1) l' (out ++ ext) (by omega) (by rw [List.length_append]; omega) hv (fun t ht a c => hmono t (q1 t ht a c)) (fun x hx' i' hi' j hj a c => by
          rcases Nat.lt_or_ge x k with hxk | hxk
          · rw [List.getElem?_append_left (by omega)] at hi'
            exact hmono j (q2 x hxk i' hi' j hj a c)
          · have : x = k := by omega
            subst this
            rw [List.getElem?_append_left (by omega), hx] at hi'
            cases hi'
            exact hnx j hj a c)
      have next0 : nxt L b e i = [] → _ := fun hn => next l [] (by simpa using h) (fun _ x => x) (by rw [hn]; simp)
      rw [List.append_nil] at next0
      have one : ∀ a, nxt L b e i = [a] → ∃ l2 : List Bool, ((impl_Closure_1_2.fv a L l out).bind fun t => impl_Closure_2.l1v b e ((k + 1 : Nat) : Int) t.1 t.2 L) = some (marked l2 0) ∧ l2.length = L.length ∧ ∀ i, Mk l2 i ↔ Rch L.length (nxt L b e) (Seeds at_) i := fun a hn => by
        obtain ⟨l', ext, e1, e2, e3, e4⟩ := put_run_2 hL h a (fun a0 a1 => nxt_rch_2 hr (by rw [hn]; simp) a0 a1)
        rw [e1, Option.bind_some]
        refine next l' ext e2 e4 ?_
        rw [hn]
        intro j hj a0 a1
        rw [List.mem_singleton.1 hj] at a0 a1 ⊢; exact e3 a0 a1
      by_cases d6 : (rd_T82 L i).f0 = 6
      · rw [if_pos d6]; exact one _ (by simp [nxt, d6])
      rw [if_neg d6]
      by_cases d7 : (rd_T82 L i).f0 = 7
      · rw [if_pos d7]
        have hn : nxt L b e i = [(rd_T82 L i).f4, (rd_T82 L i).f5] := by simp [nxt, d7]
        obtain ⟨l', ext, e1, e2, e3, e4⟩ := put_run_2 hL h (rd_T82 L i).f4 (fun a0 a1 => nxt_rch_2 hr (by rw [hn]; simp) a0 a1)
        rw [e1, Option.bind_some]
        obtain ⟨l2, ext2, g1, g2, g3, g4⟩ := put_run_2 hL e2 (rd_T82 L i).f5 (fun a0 a1 => nxt_rch_2 hr (by rw [hn]; simp) a0 a1)
        simp only []
        rw [g1, Option.bind_some, List.append_assoc]
        rw [List.append_assoc] at g2
        refine next l2 (ext ++ ext2) g2 (fun i hi => g4 i (e4 i hi)) ?_
        rw [hn]
        intro j hj a0 a1
        simp only [List.mem_cons, List.not_mem_nil, or_false] at hj
        rcases hj with rfl | rfl
        · exact g4 _ (e3 a0 a1)
        · exact g3 a0 a1
      rw [if_neg d7]
      by_cases d4 : (rd_T82 L i).f0 = 4
      · rw [if_pos d4]
        by_cases hbb : b = true
        · rw [if_pos hbb]; exact one _ (by simp [nxt, d4, hbb])
        · rw [if_neg hbb]; exact next0 (by simp [nxt, d4, hbb])
      rw [if_neg d4]
      by_cases d5 : (rd_T82 L i).f0 = 5
      · rw [if_pos d5]
        by_cases hbb : e = true
        · rw [if_pos hbb]; exact one _ (by simp [nxt, d5, hbb])
        · rw [if_neg hbb]; exact next0 (by simp [nxt, d5, hbb])
      rw [if_neg d5]
      exact next0 (by simp [nxt, d4, d5, d6, d7])
    · rw [if_neg hlt]
      unfold slices_Sort_int.f
      rw [if_pos (by omega), Option.bind_some, sort_marked h.nod h.mem]
      refine ⟨l, rfl, h.len, fun i => ⟨h.rch i, fun hh => ?_⟩⟩
      refine rch_min (X := Mk l) (fun i hi a c => q1 i hi a c) (fun i hi j hj a c => ?_) hh
      obtain ⟨x, hx⟩ := List.mem_iff_getElem?.1 ((h.mem i).2 hi)
      exact q2 x (by have := (List.getElem?_eq_some_iff.1 hx).1; omega) i hx j hj a c
theorem seed_run_2 (L : List S82) (at_ : List Int) (b e : Bool) (hL : L.length ≤ 1048576) (hA : at_.length ≤ 9223372036854775806) : ∀ (d k : Nat) (l : List Bool) (out : List Int), at_.length - k = d → k ≤ at_.length → CInv_2 L b e (Seeds at_) l out → (∀ t ∈ at_.take k, 0 ≤ t → t < (L.length : Int) → Mk l t) →
    ∃ l' : List Bool, impl_Closure_2.l0v b e at_ (at_.length : Int) (k : Int) l out L = some (marked l' 0) ∧ l'.length = L.length ∧ ∀ i, Mk l' i ↔ Rch L.length (nxt L b e) (Seeds at_) i := by
  intro d
  induction d with
  | zero =>
    intro k l out h1 h2 h q
    rw [impl_Closure_2.l0v_eq, if_neg (by omega)]
    exact main_run_2 L at_ b e hL _ 0 l out rfl (by omega) h (by rw [List.take_of_length_le (by omega)] at q; exact q) (fun x hx => by omega)
  | succ d ih =>
    intro k l out h1 h2 h q
    rw [impl_Closure_2.l0v_eq, if_pos (by omega), if_pos (by omega), if_pos (by omega)]
    have hx : at_[k]? = some (rdOf (0 : Int) at_ (k : Int)) := by have := rdi (l := at_) (i := (k : Int)) (by omega) (by omega); simpa using this
    have hm : rdOf (0 : Int) at_ (k : Int) ∈ at_ := List.mem_iff_getElem?.2 ⟨_, hx⟩
    obtain ⟨l', ext, e1, e2, e3, e4⟩ := put_run_2 hL h (rdOf (0 : Int) at_ (k : Int)) (fun a0 a1 => .base hm a0 a1)
    rw [e1, Option.bind_some, wrap_in (n := (k : Int) + 1) (by omega) (by omega), show (k : Int) + 1 = ((k + 1 : Nat) : Int) by omega]
    refine ih (k + 1) l' (out ++ ext) (by omega) (by omega) e2 (fun t ht a c => ?_)
    rw [List.take_add_one, hx] at ht
    rcases List.mem_append.1 ht with hh | hh
    · exact e4 t (q t hh a c)
    · simp at hh; subst hh; exact e3 a c
theorem impl_closure_2 (L : List S82) (at_ : List Int) (b e : Bool) (hL : L.length ≤ 1048576) (hA : at_.length ≤ 9223372036854775806) : ∃ l' : List Bool, impl_Closure_2.fv L at_ b e = some (marked l' 0) ∧ l'.length = L.length ∧ ∀ i, Mk l' i ↔ Rch L.length (nxt L b e) (Seeds at_) i := by
  rw [impl_Closure_2.fv_eq, if_pos (by omega), if_pos (by omega)]
  exact seed_run_2 L at_ b e hL hA _ 0 _ [] rfl (by omega) ⟨by simp, by simp, fun i => ⟨by simp, fun h => (mk_rep _ i h).elim⟩, by simp [blanks_rep], fun i h => (mk_rep _ i h).elim⟩ (by simp)
/-- Both closures are one; what they tell ascends, and lies within. -/
theorem closure_eq_2 (L : List S82) (at_ : List Int) (b e : Bool) (hL : L.length ≤ 1048576) (hA : at_.length ≤ 9223372036854775806) : ∃ r, spec_Closure.fv L at_ b e = some r ∧ impl_Closure_2.fv L at_ b e = some r ∧ r.Pairwise (· < ·) ∧ (∀ i ∈ r, 0 ≤ i ∧ i < (L.length : Int)) ∧ r.length ≤ L.length := by
  obtain ⟨l1, a1, a2, a3⟩ := spec_closure L at_ b e hL hA
  obtain ⟨l2, b1, b2, b3⟩ := impl_closure_2 L at_ b e hL hA
  have : l1 = l2 := mk_ext (a2.trans b2.symm) fun i => (a3 i).trans (b3 i).symm
  subst this
  refine ⟨_, a1, b1, marked_sorted _ _, fun i hi => ?_, ?_⟩
  · have := marked_mem.1 hi
    exact ⟨this.1, by rw [← a2]; exact mk_lt this⟩
  · unfold marked
    rw [List.length_map]
    exact Nat.le_trans (List.length_filter_le _ _) (by simp; omega)

/-! ### rows of numbers: copies, alike, marked, held -/
theorem set_mid {α : Type} (pre rest : List α) (x v : α) : (pre ++ x :: rest).set pre.length v = pre ++ v :: rest := by
  rw [List.set_append]
  simp
theorem toIntS_run (l : List Int) (hl : l.length ≤ 1048576) : ∀ (d k : Nat), l.length - k = d → k ≤ l.length → laws_toIntS.l0v l (l.take k ++ List.replicate (l.length - k) 0) (k : Int) = some l := by
  intro d
  induction d with
  | zero =>
    intro k h1 h2
    rw [laws_toIntS.l0v_eq, if_neg (by omega), List.take_of_length_le (by omega), show l.length - k = 0 by omega]
    simp
  | succ d ih =>
    intro k h1 h2
    have hk : k < l.length := by omega
    have hlen : (l.take k ++ List.replicate (l.length - k) (0 : Int)).length = l.length := by simp; omega
    have hx : rdOf (0 : Int) l (k : Int) = l[k] := by unfold rdOf; simp [List.getD, hk]
    have hs : (l.take k ++ List.replicate (l.length - k) (0 : Int)).set k l[k] = l.take (k + 1) ++ List.replicate (l.length - (k + 1)) 0 := by
      rw [show l.length - k = (l.length - (k + 1)) + 1 by omega, List.replicate_succ]
      have := set_mid (l.take k) (List.replicate (l.length - (k + 1)) (0 : Int)) 0 l[k]
      rw [List.length_take, Nat.min_eq_left (by omega)] at this
      rw [this, List.take_add_one, List.getElem?_eq_getElem hk, Option.toList_some, List.append_assoc]
      rfl
    rw [laws_toIntS.l0v_eq, if_pos (by omega), if_pos (by omega), if_pos (by rw [hlen]; omega), wrap_in (n := (k : Int) + 1) (by omega) (by omega), show (k : Int) + 1 = ((k + 1 : Nat) : Int) by omega, hx, Int.toNat_natCast, hs]
    exact ih (k + 1) (by omega) (by omega)
theorem to_IntS (l : List Int) (hl : l.length ≤ 1048576) : laws_toIntS.fv l = some l := by
  rw [laws_toIntS.fv_eq, if_pos (by omega), if_pos (by omega), Int.toNat_natCast]
  exact toIntS_run l hl _ 0 rfl (by omega)
theorem markI_run : ∀ (d k : Nat) (l : List Int) (m : Int), l.length - k = d → k ≤ l.length → l.length ≤ 1048576 → 0 ≤ m → m + d ≤ 20000000 →
    ∃ l', laws_markIntS.l0v l m (k : Int) = some (m + d, l') ∧ l'.length = l.length ∧ l'.take k = l.take k ∧ ∀ j : Nat, k ≤ j → j < l.length → l'[j]? = some (m + (j : Int) - (k : Int)) := by
  intro d
  induction d with
  | zero =>
    intro k l m h1 h2 hl hm hb
    rw [laws_markIntS.l0v_eq, if_neg (by omega)]
    exact ⟨l, by simp, rfl, rfl, fun j h3 h4 => by omega⟩
  | succ d ih =>
    intro k l m h1 h2 hl hm hb
    rw [laws_markIntS.l0v_eq, if_pos (by omega), if_pos (by omega), wrap_in (n := m + 1) (by omega) (by omega), wrap_in (n := (k : Int) + 1) (by omega) (by omega), show (k : Int) + 1 = ((k + 1 : Nat) : Int) by omega, Int.toNat_natCast]
    obtain ⟨l', q1, q2, q3, q4⟩ := ih (k + 1) (l.set k m) (m + 1) (by rw [List.length_set]; omega) (by rw [List.length_set]; omega) (by rw [List.length_set]; exact hl) (by omega) (by omega)
    rw [List.length_set] at q2 q4
    refine ⟨l', by rw [q1]; congr 2; omega, q2, ?_, fun j h3 h4 => ?_⟩
    · have := congrArg (List.take k) q3
      rw [List.take_take, List.take_take, Nat.min_eq_left (by omega)] at this
      rw [this, List.take_set_of_le (by omega)]
    · by_cases hj : j = k
      · subst hj
        have := congrArg (fun x : List Int => x[j]?) q3
        simp only [List.getElem?_take] at this
        rw [if_pos (by omega), if_pos (by omega), List.getElem?_set_self (by omega)] at this
        rw [this]; congr 1; omega
      · rw [q4 j (by omega) h4]; congr 1; omega
theorem heldI_run (l : List Int) (m : Int) (hl : l.length ≤ 1048576) (hm : 0 ≤ m) (hb : m ≤ 10000000) (h : ∀ j : Nat, j < l.length → l[j]? = some (m + (j : Int))) : ∀ (d k : Nat), l.length - k = d → k ≤ l.length → laws_heldIntS.l0v l (m + k) (k : Int) = some (m + l.length) := by
  intro d
  induction d with
  | zero =>
    intro k h1 h2
    rw [laws_heldIntS.l0v_eq, if_neg (by omega), show k = l.length by omega]
  | succ d ih =>
    intro k h1 h2
    have hk : k < l.length := by omega
    have hx : rdOf (0 : Int) l (k : Int) = m + k := by
      have := h k hk
      unfold rdOf
      simp [List.getD, this]
    rw [laws_heldIntS.l0v_eq, if_pos (by omega), if_pos (by omega), hx, if_pos rfl, wrap_in (n := m + (k : Int) + 1) (by omega) (by omega), wrap_in (n := (k : Int) + 1) (by omega) (by omega), show m + (k : Int) + 1 = m + ((k + 1 : Nat) : Int) by omega, show (k : Int) + 1 = ((k + 1 : Nat) : Int) by omega]
    exact ih (k + 1) (by omega) (by omega)
theorem mark_IntS (l : List Int) (m : Int) (hl : l.length ≤ 1048576) (hm : 0 ≤ m) (hb : m ≤ 10000000) : ∃ l', laws_markIntS.fv l m = some (m + l.length, l') ∧ laws_heldIntS.fv l' m = some (m + l.length) := by
  obtain ⟨l', q1, q2, q3, q4⟩ := markI_run _ 0 l m rfl (by omega) hl hm (by omega)
  refine ⟨l', by rw [laws_markIntS.fv_eq]; simpa using q1, ?_⟩
  rw [laws_heldIntS.fv_eq]
  have := heldI_run l' m (by omega) hm hb (fun j hj => by rw [q4 j (by omega) (by omega)]; congr 1; omega) _ 0 rfl (by omega)
  rw [q2] at this
  simpa using this

theorem eq_run (l : List Int) (hl : l.length ≤ 1048576) : ∀ (d k : Nat), l.length - k = d → k ≤ l.length → laws_eqIntS.l0v l l (k : Int) = some true := by
  intro d
  induction d with
  | zero =>
    intro k h1 h2
    rw [laws_eqIntS.l0v_eq, if_neg (by omega)]
  | succ d ih =>
    intro k h1 h2
    rw [laws_eqIntS.l0v_eq, if_pos (by omega), if_pos (by omega), if_pos (by omega), if_pos rfl, wrap_in (n := (k : Int) + 1) (by omega) (by omega), show (k : Int) + 1 = ((k + 1 : Nat) : Int) by omega]
    exact ih (k + 1) (by omega) (by omega)
theorem eq_IntS (l : List Int) (hl : l.length ≤ 1048576) : laws_eqIntS.fv l l = some true := by
  rw [laws_eqIntS.fv_eq, if_pos rfl]
  exact eq_run l hl _ 0 rfl (by omega)
theorem eq_run_2 (l : List Int) (hl : l.length ≤ 1048576) : ∀ (d k : Nat), l.length - k = d → k ≤ l.length → laws_eqIntS_2.l0v l l (k : Int) = some true := by
  intro d
  induction d with
  | zero =>
    intro k h1 h2
    rw [laws_eqIntS_2.l0v_eq, if_neg (by omega)]
  | succ d ih =>
    intro k h1 h2
    rw [laws_eqIntS_2.l0v_eq, if_pos (by omega), if_pos (by omega), if_pos (by omega), if_pos rfl, wrap_in (n := (k : Int) + 1) (by omega) (by omega), show (k : Int) + 1 = ((k + 1 : Nat) : Int) by omega]
    exact ih (k + 1) (by omega) (by omega)
theorem eq_IntS_2 (l : List Int) (hl : l.length ≤ 1048576) : laws_eqIntS_2.fv l l = some true := by
  rw [laws_eqIntS_2.fv_eq, if_pos rfl]
  exact eq_run_2 l hl _ 0 rfl (by omega)

theorem mset {α β : Type} {l : List α} {i : Nat} {v : α} {f : List α → Option β} {P : Option β → Prop} (h : ∀ y : List α, y.length = l.length → P (f y)) : P ((some (l.set i v)).bind f) := h _ (by simp)
theorem markP_run : ∀ (d k : Nat) (l : List S82) (m : Int), l.length - k = d → k ≤ l.length → l.length ≤ 1048576 → 0 < m → m + 6 * d ≤ 20000000 → ∃ l', laws_markPlaceS.l0v l m (k : Int) = some (m + 6 * d, l') := by
  intro d
  induction d with
  | zero =>
    intro k l m h1 h2 hl hm hb
    rw [laws_markPlaceS.l0v_eq, if_neg (by omega)]
    exact ⟨l, by simp⟩
  | succ d ih =>
    intro k l m h1 h2 hl hm hb
    rw [laws_markPlaceS.l0v_eq, if_pos (by omega), if_pos (by omega)]
    simp only [show wrap64 (m + 1) = m + 1 from wrap_in (by omega) (by omega), show wrap64 (m + 1 + 1) = m + 1 + 1 from wrap_in (by omega) (by omega), show wrap64 (m + 1 + 1 + 1) = m + 1 + 1 + 1 from wrap_in (by omega) (by omega), show wrap64 (m + 1 + 1 + 1 + 1) = m + 1 + 1 + 1 + 1 from wrap_in (by omega) (by omega), show wrap64 (m + 1 + 1 + 1 + 1 + 1) = m + 1 + 1 + 1 + 1 + 1 from wrap_in (by omega) (by omega), show wrap64 (m + 1 + 1 + 1 + 1 + 1 + 1) = m + 1 + 1 + 1 + 1 + 1 + 1 from wrap_in (by omega) (by omega), show wrap64 ((k : Int) + 1) = ((k + 1 : Nat) : Int) by rw [wrap_in (by omega) (by omega)]; omega, mt_eq (m + 1 + 1) (by omega) (by omega)]
    refine mset (P := fun o => ∃ l', o = some (_, l')) fun y1 g1 => ?_
    rw [if_pos (by omega)]
    refine mset (P := fun o => ∃ l', o = some (_, l')) fun y2 g2 => ?_
    rw [Option.bind_some, if_pos (by omega)]
    refine mset (P := fun o => ∃ l', o = some (_, l')) fun y3 g3 => ?_
    rw [if_pos (by omega)]
    refine mset (P := fun o => ∃ l', o = some (_, l')) fun y4 g4 => ?_
    rw [if_pos (by omega)]
    refine mset (P := fun o => ∃ l', o = some (_, l')) fun y5 g5 => ?_
    rw [if_pos (by omega)]
    refine mset (P := fun o => ∃ l', o = some (_, l')) fun y6 g6 => ?_
    obtain ⟨l', q⟩ := ih (k + 1) y6 (m + 1 + 1 + 1 + 1 + 1 + 1) (by omega) (by omega) (by omega) (by omega) (by omega)
    exact ⟨l', by rw [q]; congr 2; omega⟩
theorem mark_PlaceS (l : List S82) (hl : l.length ≤ 1048576) : ∃ l', laws_markPlaceS.fv l 1 = some (1 + 6 * (l.length : Int), l') := by
  rw [laws_markPlaceS.fv_eq]
  exact markP_run _ 0 l 1 rfl (by omega) hl (by omega) (by omega)
end FnExactClosureAid
open FnExactClosureAid

theorem FnExactClosure : laws_FnExactClosure.Pure := by
  intro x a b e hx ha
  rw [laws_FnExactClosure.fv_eq]
  by_cases hs : (a.length : Int) > 1048576
  · rw [if_pos hs]
  rw [if_neg hs, sz_PlaceS x hx 1048576 (by omega) (by omega), Option.bind_some]
  by_cases h : dn (bls_Place x) 1048576 < 0
  · rw [if_pos h]
  have hn := dn_pos h (by omega)
  have hb1 : bls_Place x ≤ 1048576 := by omega
  have hb2 := hb1
  unfold bls_Place at hb2
  have hto := to_PlaceS x hb1
  have hti := to_IntS a (by omega)
  have hu : (x.map cv_Place).length ≤ 1048576 := by rw [List.length_map]; omega
  generalize x.map cv_Place = u at hto hu
  obtain ⟨r, e1, e2, e3, e4, e5⟩ := closure_eq u a b e hu (by omega)
  obtain ⟨r', f1, f2, _⟩ := closure_eq_2 u a b e hu (by omega)
  rw [e1] at f1
  cases f1
  have hr : r.length ≤ 1048576 := by omega
  obtain ⟨m1, k1⟩ := mark_PlaceS u hu
  obtain ⟨m2, k2, _⟩ := mark_IntS a (1 + 6 * u.length) (by omega) (by omega) (by omega)
  obtain ⟨m3, k3, k4⟩ := mark_IntS r 1 hr (by omega) (by omega)
  rw [if_neg h]
  simp only [hto, hti, Option.bind_some, e1, e2, eq_IntS r hr, eq_IntS a (by omega), eq_PlaceS u (by omega), k1, k2, if_true]
  rw [if_neg (by omega), laws_FnExactClosure.j1v_eq, if_neg (by decide), laws_FnExactClosure.j0v_eq]
  simp only [hto, hti, Option.bind_some, k3, k4, f2, eq_IntS_2 r hr, if_true]
  rw [if_neg (by omega), if_neg (by omega)]

end Go.Proofs.Ytfdpehmefgfjgaa.Pure
