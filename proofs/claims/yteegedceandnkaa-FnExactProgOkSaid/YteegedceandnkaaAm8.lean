/- The abstract machine: calls of functions. -/
import Derived.Test.YteegedceandnkaaAm7
set_option linter.unusedSectionVars false
set_option linter.unusedVariables false
set_option linter.unusedSimpArgs false
namespace Go.Proofs.YteegedceandnkaaW.AM
open Go Go.RowKit

/-- Memory behind a call: what was handed over, and a row that came back. -/
def heapR (o : Option Ob) (obs : List Ob) : Hp := match o with | none => heap0 obs | some ob => upd 16 ob (heap0 obs)
/-- What a call may be taken for. -/
def CFS (G : Env) (cf : CF) : Prop := ∀ f as obs rs obs', cf f as obs rs obs' → ∀ (C : Cx) (w : World) (args : List Value), FA (RepA C) as args → WR C (heap0 obs) w → obs.length ≤ 16 →
  Calls G.P f args.toArray w fun e w' => ∃ x C' l o, e = .returned x ∧ backs 16 rs = some (l, o) ∧ RepAV C' (tupOf l) x ∧ WR C' (heapR o obs') w' ∧ Stp C C' w w' ∧ obs'.length = obs.length ∧ obs'.all flat = true

theorem find_get {L : List Nat} {id j : Nat} (h : L.findIdx? (Nat.beq id) = some j) : L[j]? = some id := by
  obtain ⟨h1, h2, _⟩ := List.findIdx?_eq_some_iff_getElem.1 h
  have := Nat.eq_of_beq_eq_true h2
  rw [List.getElem?_eq_getElem h1, ← this]
/-- The context of a callee. -/
def Cx.sub (C : Cx) (L : List Nat) : Cx := { C with loc := fun j => (L[j]?).bind C.loc }
theorem sub_loc {C : Cx} {L : List Nat} {id j : Nat} (h : L[j]? = some id) : (C.sub L).loc j = C.loc id := by simp [Cx.sub, h]

theorem ren_rep {C : Cx} {L : List Nat} {a b : A0} {x : Value} (h : a.ren L = some b) (hr : RepA C a x) : RepA (C.sub L) b x := by
  cases a <;> simp only [A0.ren] at h <;> first | (cases h; done) | skip
  case val v => cases h; exact hr
  case nilrow => cases h; rw [show x = _ from hr]; exact .row0 _ _ fun _ => rfl
  case nilp => cases h; exact hr
  case ptr id off =>
    obtain ⟨j, hj, rfl⟩ := Option.map_eq_some_iff.1 h
    obtain ⟨b, hb, hx⟩ := hr
    exact ⟨b, by rw [sub_loc (find_get hj)]; exact hb, hx⟩
  case ref id g =>
    obtain ⟨j, hj, rfl⟩ := Option.map_eq_some_iff.1 h
    obtain ⟨h0, g', sz, v, h1, h2⟩ := hr
    exact ⟨h0, g', sz, v, by rw [sub_loc (find_get hj)]; exact h1, h2⟩
  case fn f caps =>
    obtain ⟨js, hj, rfl⟩ := Option.map_eq_some_iff.1 h
    obtain ⟨vs, hx, hfa⟩ := hr
    refine ⟨vs, hx, fa_of (by rw [← fa_len (mapO_fa hj), fa_len hfa]) fun i j v hj' hv => ?_⟩
    obtain ⟨id, hid, hf⟩ := fa_get' (mapO_fa hj) hj'
    obtain ⟨v', hv', b, hb, he⟩ := fa_get hfa hid
    rw [hv] at hv'; cases hv'
    exact ⟨b, by rw [sub_loc (find_get hf)]; exact hb, he⟩
theorem argsO_rep {C : Cx} {L : List Nat} : ∀ {as : List AV} {bs : List A0} {xs : List Value}, argsO L as = some bs → FA (RepAV C) as xs → FA (RepA (C.sub L)) bs xs
  | [], bs, xs, h, hr => by simp [argsO] at h; subst h; cases hr; exact .nil
  | .one a :: as, bs, xs, h, hr => by
    simp only [argsO] at h
    split at h
    · rename_i b l h1 h2
      cases h
      cases hr with
      | cons hab t => exact .cons (ren_rep h1 hab) (argsO_rep h2 t)
    · cases h
  | .tup _ :: as, bs, xs, h, hr => by simp [argsO] at h

/-- Things without names of memory. -/
theorem flat_rep {C C' : Cx} (hI : ∀ b j v, C.I b j = some v → C'.I b j = some v) {cs : List A0} {vs : List Value} (hf : flat (.box cs) = true) (h : FA (RepA C) cs vs) : FA (RepA C') cs vs := by
  have hf' := List.all_eq_true.1 hf
  refine fa_of (fa_len h) fun i a b ha hb => ?_
  obtain ⟨b', hb', hr⟩ := fa_get h ha
  rw [hb] at hb'; cases hb'
  have := hf' a (List.mem_iff_getElem?.2 ⟨i, ha⟩)
  cases a <;> simp at this
  · exact RepV.mono hI hr
  · exact hr
  · exact hr
theorem flat_ob {C C' : Cx} {w : World} (hI : ∀ b j, C'.I b j = C.I b j) {o : Ob} {l : Loc} (hf : flat o = true) (h : ObR C w o l) : ObR C' w o l := by
  have hI' : ∀ b j v, C.I b j = some v → C'.I b j = some v := fun b j v h => by rw [hI]; exact h
  cases o <;> cases l <;> try exact h.elim
  · obtain ⟨T, vs, h1, h2, h3, h4⟩ := h
    exact ⟨T, vs, h1, flat_rep hI' hf h2, h3, fun j => by rw [hI]; exact h4 j⟩
  · obtain ⟨h1, h2, h3, xs, h4, h5, h6⟩ := h
    exact ⟨h1, h2, h3, xs, h4, h5.mono hI', fun b j u hb hu => h6 b j u hb (by rw [← hI]; exact hu)⟩

theorem nodup_inj {L : List Nat} (h : L.Nodup) {i j x : Nat} (hi : L[i]? = some x) (hj : L[j]? = some x) : i = j := by
  obtain ⟨a1, a2⟩ := List.getElem?_eq_some_iff.1 hi
  obtain ⟨b1, b2⟩ := List.getElem?_eq_some_iff.1 hj
  rcases Nat.lt_trichotomy i j with h1 | h1 | h1
  · exact absurd (a2.trans b2.symm) (List.pairwise_iff_getElem.1 h i j a1 b1 h1)
  · exact h1
  · exact absurd (b2.trans a2.symm) (List.pairwise_iff_getElem.1 h j i b1 a1 h1)
theorem sub_wr {C : Cx} {hp : Hp} {w : World} (h : WR C hp w) {L : List Nat} (hn : L.Nodup) {obs : List Ob} (ho : mapO hp L = some obs) (hf : obs.all flat = true) : WR (C.sub L) (heap0 obs) w := by
  have hm := mapO_fa ho
  have hb : ∀ j b, blk (C.sub L) j = some b → ∃ id, L[j]? = some id ∧ blk C id = some b := fun j b hb => by
    unfold blk at hb
    cases hL : L[j]? with
    | none => simp [Cx.sub, hL] at hb
    | some id => exact ⟨id, rfl, by rw [sub_loc hL] at hb; exact hb⟩
  refine ⟨h.inI, fun j hj => ?_, fun j o hj => ?_, fun j j' b h1 h2 => ?_, fun j b h1 => ?_⟩
  · have : L[j]? = none := by
      cases hL : L[j]? with
      | none => rfl
      | some id => obtain ⟨o, h1, _⟩ := fa_get hm hL; simp [heap0, h1] at hj
    simp [Cx.sub, this]
  · obtain ⟨id, h1, h2⟩ := fa_get' hm hj
    obtain ⟨l, h3, h4⟩ := h.ob id o h2
    exact ⟨l, by rw [sub_loc h1]; exact h3, flat_ob (C := C) (C' := C.sub L) (fun _ _ => rfl) (List.all_eq_true.1 hf o (List.mem_iff_getElem?.2 ⟨j, hj⟩)) h4⟩
  · obtain ⟨id, e1, e2⟩ := hb j b h1
    obtain ⟨id', e3, e4⟩ := hb j' b h2
    have := h.sep id id' b e2 e4
    subst this
    exact nodup_inj hn e1 e3
  · obtain ⟨id, e1, e2⟩ := hb j b h1
    exact h.lt id b e2


/-- The place of an id among those handed over. -/
def idx (L : List Nat) (id : Nat) : Option Nat := L.findIdx? (Nat.beq id)
theorem idx_some {L : List Nat} {id j : Nat} (h : idx L id = some j) : L[j]? = some id := find_get h
theorem idx_none {L : List Nat} {id : Nat} (h : idx L id = none) (j : Nat) : L[j]? ≠ some id := fun e => by
  have := List.findIdx?_eq_none_iff.1 h id (List.mem_iff_getElem?.2 ⟨j, e⟩)
  simp at this
theorem idx_of {L : List Nat} (hn : L.Nodup) {id j : Nat} (h : L[j]? = some id) : idx L id = some j := by
  cases hi : idx L id with
  | none => exact absurd h (idx_none hi j)
  | some k => rw [nodup_inj hn (idx_some hi) h]

theorem updL_get : ∀ {L : List Nat} {obs : List Ob} {hp : Hp}, L.Nodup → L.length = obs.length → ∀ id, updL L obs hp id = match idx L id with | some j => obs[j]? | none => hp id
  | [], [], hp, _, _, id => rfl
  | a :: L, o :: obs, hp, hn, hl, id => by
    have hn' := List.nodup_cons.1 hn
    simp only [updL, upd]
    by_cases e : id = a
    · subst e
      rw [if_pos rfl]
      have : idx (id :: L) id = some 0 := by simp [idx, List.findIdx?_cons]
      rw [this]; rfl
    · rw [if_neg e, updL_get hn'.2 (by simpa using hl) id]
      have hb : Nat.beq id a = false := by
        cases hh : Nat.beq id a with
        | false => rfl
        | true => exact absurd (Nat.eq_of_beq_eq_true hh) e
      have : idx (a :: L) id = (idx L id).map (· + 1) := by simp [idx, List.findIdx?_cons, hb]
      rw [this]
      cases idx L id <;> simp

/-- The caller's context behind a call. -/
def Cx.back (C C' : Cx) (L : List Nat) (k : Nat) (own : Bool) : Cx :=
  { I := C'.I, loc := fun id => match idx L id with | some j => C'.loc j | none => if own = true ∧ id = k then C'.loc 16 else C.loc id }

theorem backs_rep {C' C2 : Cx} {k : Nat} (hI : C2.I = C'.I) (hloc : ∀ sz v g, C'.loc 16 = some (.own g sz v) → C2.loc k = some (.own g sz v)) : ∀ {rs : List RV} {l l' : List A0} {o o' : Option Ob}, backs 16 rs = some (l, o) → backs k rs = some (l', o') → o = o' ∧ ∀ xs, FA (RepA C') l xs → FA (RepA C2) l' xs
  | [], l, l', o, o', h, h' => by simp [backs] at h h'; obtain ⟨rfl, rfl⟩ := h; obtain ⟨rfl, rfl⟩ := h'; exact ⟨rfl, fun xs hx => by cases hx; exact .nil⟩
  | .val v :: rs, l, l', o, o', h, h' => by
    simp only [backs] at h h'
    split at h
    · rename_i l1 o1 h1
      cases h
      split at h'
      · rename_i l2 o2 h2
        cases h'
        obtain ⟨rfl, hh⟩ := backs_rep hI hloc h1 h2
        refine ⟨rfl, fun xs hx => ?_⟩
        cases hx with
        | cons hab t => exact .cons (show RepV _ _ _ by rw [hI]; exact hab) (hh _ t)
      · cases h'
    · cases h
  | .own e sz es pin :: rs, l, l', o, o', h, h' => by
    simp only [backs] at h h'
    split at h
    · rename_i l1 h1
      cases h
      split at h'
      · rename_i l2 h2
        cases h'
        obtain ⟨_, hh⟩ := backs_rep hI hloc h1 h2
        refine ⟨rfl, fun xs hx => ?_⟩
        cases hx with
        | cons hab t =>
          refine .cons ?_ (hh _ t)
          obtain ⟨h0, g', sz, v, k1, k2, k3⟩ := hab
          exact ⟨h0, g', sz, v, hloc _ _ _ k1, k2, k3⟩
      · cases h'
    · cases h

theorem tupOf_fa {C : Cx} {l : List A0} {x : Value} (h : RepAV C (tupOf l) x) : ∃ xs, FA (RepA C) l xs ∧ ∀ {C2 : Cx} {l2 : List A0}, FA (RepA C2) l2 xs → RepAV C2 (tupOf l2) x := by
  match l, h with
  | [], h => obtain ⟨vs, rfl, hf⟩ := h; cases hf; exact ⟨[], .nil, fun h2 => by cases h2; exact ⟨[], rfl, .nil⟩⟩
  | [a], h => exact ⟨[x], .cons h .nil, fun h2 => by cases h2 with | cons hab t => cases t; exact hab⟩
  | a :: b :: l, h =>
    obtain ⟨vs, rfl, hf⟩ := h
    refine ⟨vs, hf, fun {C2 l2} h2 => ?_⟩
    match l2, h2 with
    | [], h2 => cases h2; cases hf
    | [_], h2 => cases h2 with | cons _ t => cases t; cases hf with | cons _ t => cases t
    | _ :: _ :: _, h2 => exact ⟨vs, rfl, h2⟩

end Go.Proofs.YteegedceandnkaaW.AM
