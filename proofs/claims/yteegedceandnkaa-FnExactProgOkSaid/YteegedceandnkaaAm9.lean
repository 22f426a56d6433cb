/- The abstract machine: calls are sound. -/
import Derived.Test.YteegedceandnkaaAm8
set_option linter.unusedSectionVars false
set_option linter.unusedVariables false
set_option linter.unusedSimpArgs false
namespace Go.Proofs.YteegedceandnkaaW.AM
open Go Go.RowKit

def addO (k : Nat) (o : Option Ob) (hp : Hp) : Hp := match o with | none => hp | some ob => upd k ob hp
theorem updL_in {L : List Nat} {obs : List Ob} {hp : Hp} (hn : L.Nodup) (hl : L.length = obs.length) {id j : Nat} (h : idx L id = some j) : updL L obs hp id = obs[j]? := by rw [updL_get hn hl, h]
theorem updL_out {L : List Nat} {obs : List Ob} {hp : Hp} (hn : L.Nodup) (hl : L.length = obs.length) {id : Nat} (h : idx L id = none) : updL L obs hp id = hp id := by rw [updL_get hn hl, h]

section
variable {G : Env} {C : Cx} {hp : Hp} {w : World} {K : KO}

theorem mapO_len {α β : Type} {f : α → Option β} {l : List α} {m : List β} (h : mapO f l = some m) : l.length = m.length := fa_len (mapO_fa h)

theorem call_core {cf : CF} (hcf : CFS G cf) (hw : WR C hp w) {args : List AV} {xs : List Value} (hargs : FA (RepAV C) args xs) {f : FuncId} {L : List Nat} {k : Nat} (hk : 16 ≤ k) {as : List A0} {obs obs' : List Ob} {rs : List RV} {l : List A0} {o : Option Ob}
    (hn : L.Nodup) (h16 : L.length ≤ 16) (has : argsO L args = some as) (hobs : mapO hp L = some obs) (hflat : obs.all flat = true) (hc : cf f as obs rs obs') (hb : backs k rs = some (l, o))
    (hnew : o ≠ none → hp k = none) (hK : K (tupOf l) (addO k o (updL L obs' hp))) :
    Calls G.P f xs.toArray w fun e w' => ∃ x, e = .returned x ∧ Step C w K x w' := by
  have hm := mapO_fa hobs
  have hLl : L.length = obs.length := fa_len hm
  refine (hcf f as obs rs obs' hc (C.sub L) w xs (argsO_rep has hargs) (sub_wr hw hn hobs hflat) (by omega)).mono ?_
  rintro e w' ⟨x, C', l', o', rfl, hb', hrep, hwr, hst, hlen, hflat'⟩
  have hLl' : L.length = obs'.length := by omega
  refine ⟨x, rfl, ?_⟩
  -- o and o' are one
  have hoo : o = none ↔ o' = none := by
    have key : ∀ (rs : List RV) (k k' : Nat) l l' o o', backs k rs = some (l, o) → backs k' rs = some (l', o') → (o = none ↔ o' = none) := by
      intro rs
      induction rs with
      | nil => intro k k' l l' o o' h h'; simp [backs] at h h'; simp [← h.2, ← h'.2]
      | cons r rs ih =>
        intro k k' l l' o o' h h'
        cases r with
        | val v =>
          simp only [backs] at h h'
          split at h
          · rename_i h1
            cases h
            split at h'
            · rename_i h2; cases h'; exact ih _ _ _ _ _ _ h1 h2
            · cases h'
          · cases h
        | own e sz es pin =>
          simp only [backs] at h h'
          split at h
          · cases h
            split at h'
            · cases h'; simp
            · cases h'
          · cases h
    exact key rs k 16 l l' o o' hb hb'
  let own : Bool := o.isSome
  let C2 := C.back C' L k own
  have hobj : ∀ j id, L[j]? = some id → ∃ ob ob' lo lo', obs[j]? = some ob ∧ hp id = some ob ∧ obs'[j]? = some ob' ∧ C.loc id = some lo ∧ C'.loc j = some lo' ∧ ObR C' w' ob' lo' := fun j id hj => by
    obtain ⟨ob, h1, h2⟩ := fa_get hm hj
    have hjl : j < obs'.length := by rw [← hLl']; exact (List.getElem?_eq_some_iff.1 hj).1
    obtain ⟨lo, h3, _⟩ := hw.ob id ob h2
    have h4 : heapR o' obs' j = some obs'[j] := by
      unfold heapR
      cases o' with
      | none => simp [heap0, hjl]
      | some q =>
        simp only [upd]
        rw [if_neg (by omega)]
        simp [heap0, hjl]
    obtain ⟨lo', h5, h6⟩ := hwr.ob j _ h4
    exact ⟨ob, obs'[j], lo, lo', h1, h2, by simp [hjl], h3, h5, h6⟩
  have hloc1 : ∀ j id, L[j]? = some id → C2.loc id = C'.loc j := fun j id hj => by
    show (match idx L id with | some j => C'.loc j | none => _) = _
    rw [idx_of hn hj]
  have hloc2 : ∀ id, idx L id = none → ¬ (own = true ∧ id = k) → C2.loc id = C.loc id := fun id hi hne => by
    show (match idx L id with | some j => C'.loc j | none => if own = true ∧ id = k then C'.loc 16 else C.loc id) = _
    rw [hi]; simp only []; rw [if_neg hne]
  have hkL : own = true → idx L k = none := fun ho => by
    cases hi : idx L k with
    | none => rfl
    | some j =>
      obtain ⟨_, _, _, _, _, h2, _⟩ := hobj j k (idx_some hi)
      rw [hnew (by intro e; simp [own, e] at ho)] at h2; cases h2
  have hloc3 : own = true → C2.loc k = C'.loc 16 := fun ho => by
    show (match idx L k with | some j => C'.loc j | none => if own = true ∧ k = k then C'.loc 16 else C.loc k) = _
    rw [hkL ho]; simp only []; rw [if_pos ⟨ho, trivial⟩]
  have hknone : own = true → C.loc k = none := fun ho => hw.dom k (hnew (by intro e; simp [own, e] at ho))
  have hle : Le C C2 := by
    refine ⟨hst.I, fun id b hid => ?_, fun id g sz v hid => ?_⟩
    · cases hi : idx L id with
      | none =>
        rw [hloc2 id hi (fun h => by obtain ⟨h1, rfl⟩ := h; rw [hknone h1] at hid; cases hid)]; exact hid
      | some j =>
        have hj := idx_some hi
        rw [hloc1 j id hj]
        have hs : (C.sub L).loc j = some (.box b) := by rw [sub_loc hj]; exact hid
        rcases hst.low j (by have := (List.getElem?_eq_some_iff.1 hj).1; omega) with h1 | ⟨b', h1, h2⟩ | ⟨g, sz, v, g', v', h1, _⟩
        · obtain ⟨_, _, _, lo', _, _, _, _, h5, _⟩ := hobj j id hj; rw [h1] at h5; cases h5
        · rw [hs] at h1; cases h1; exact h2
        · rw [hs] at h1; cases h1
    · cases hi : idx L id with
      | none =>
        exact ⟨g, v, by rw [hloc2 id hi (fun h => by obtain ⟨h1, rfl⟩ := h; rw [hknone h1] at hid; cases hid)]; exact hid, Nat.le_refl _, fun _ => rfl⟩
      | some j =>
        have hj := idx_some hi
        have hs : (C.sub L).loc j = some (.own g sz v) := by rw [sub_loc hj]; exact hid
        rcases hst.low j (by have := (List.getElem?_eq_some_iff.1 hj).1; omega) with h1 | ⟨b', h1, h2⟩ | ⟨g0, sz0, v0, g', v', h1, h2, h3, h4⟩
        · obtain ⟨_, _, _, lo', _, _, _, _, h5, _⟩ := hobj j id hj; rw [h1] at h5; cases h5
        · rw [hs] at h1; cases h1
        · rw [hs] at h1; cases h1
          exact ⟨g', v', by rw [hloc1 j id hj]; exact h2, h3, h4⟩
  have hsubblk : ∀ j b, blk (C.sub L) j = some b → ∃ id, L[j]? = some id ∧ blk C id = some b := fun j b hb => by
    unfold blk at hb
    cases hL : L[j]? with
    | none => simp [Cx.sub, hL] at hb
    | some id => exact ⟨id, rfl, by rw [sub_loc hL] at hb; exact hb⟩
  -- blocks that were not handed over
  have hother : ∀ id, idx L id = none → ∀ b, blk C id = some b → ¬ ∃ j, blk (C.sub L) j = some b := fun id hi b hb => by
    rintro ⟨j, hj⟩
    obtain ⟨id', h1, h2⟩ := hsubblk j b hj
    have := hw.sep id id' b hb h2
    subst this
    exact idx_none hi j h1
  have hblk2 : ∀ id b, blk C2 id = some b → (∃ j, (L[j]? = some id ∨ (j = 16 ∧ own = true ∧ id = k)) ∧ blk C' j = some b) ∨ (idx L id = none ∧ ¬ (own = true ∧ id = k) ∧ blk C id = some b) := fun id b hb => by
    cases hi : idx L id with
    | some j => exact .inl ⟨j, .inl (idx_some hi), by unfold blk at hb ⊢; rwa [hloc1 j id (idx_some hi)] at hb⟩
    | none =>
      by_cases ho : own = true ∧ id = k
      · refine .inl ⟨16, .inr ⟨rfl, ho⟩, ?_⟩
        obtain ⟨h1, rfl⟩ := ho
        unfold blk at hb ⊢; rwa [hloc3 h1] at hb
      · exact .inr ⟨rfl, ho, by unfold blk at hb ⊢; rwa [hloc2 id hi ho] at hb⟩
  have hfar : ∀ id b, idx L id = none → blk C id = some b → ∀ j, blk C' j ≠ some b := fun id b hi hb j hj => by
    rcases hst.new j b hj with h1 | ⟨j', h1⟩
    · have := hw.lt id b hb; omega
    · exact hother id hi b hb ⟨j', h1⟩
  have hget1 : ∀ id j, idx L id = some j → (addO k o (updL L obs' hp)) id = obs'[j]? := fun id j hi => by
    cases ho : o with
    | none => exact updL_in hn hLl' hi
    | some ob =>
      show (if id = k then some ob else updL L obs' hp id) = _
      rw [if_neg (fun e => by subst e; rw [hkL (by simp [own, ho])] at hi; cases hi)]
      exact updL_in hn hLl' hi
  have hget2 : ∀ id, idx L id = none → (addO k o (updL L obs' hp)) id = if own = true ∧ id = k then o else hp id := fun id hi => by
    cases ho : o with
    | none => rw [if_neg (by simp [own, ho])]; exact updL_out hn hLl' hi
    | some ob =>
      show (if id = k then some ob else updL L obs' hp id) = _
      by_cases e : id = k
      · rw [if_pos e, if_pos ⟨by simp [own, ho], e⟩]
      · rw [if_neg e, if_neg (fun h => e h.2)]; exact updL_out hn hLl' hi
  have hwr2 : WR C2 (addO k o (updL L obs' hp)) w' := by
    refine ⟨hwr.inI, fun id hid => ?_, fun id ob hid => ?_, fun id id' b h1 h2 => ?_, fun id b h1 => ?_⟩
    · cases hi : idx L id with
      | some j =>
        rw [hget1 id j hi] at hid
        obtain ⟨_, _, _, _, _, _, h3, _⟩ := hobj j id (idx_some hi)
        rw [h3] at hid; cases hid
      | none =>
        rw [hget2 id hi] at hid
        split at hid
        · rename_i ho; simp [own, hid] at ho
        · rename_i ho; rw [hloc2 id hi ho]; exact hw.dom id hid
    · cases hi : idx L id with
      | some j =>
        rw [hget1 id j hi] at hid
        obtain ⟨_, ob', _, lo', _, _, h3, _, h5, h6⟩ := hobj j id (idx_some hi)
        rw [h3] at hid; cases hid
        exact ⟨lo', by rw [hloc1 j id (idx_some hi)]; exact h5, flat_ob (C := C') (C' := C2) (fun _ _ => rfl) (List.all_eq_true.1 hflat' _ (List.mem_iff_getElem?.2 ⟨j, h3⟩)) h6⟩
      | none =>
        rw [hget2 id hi] at hid
        split at hid
        · rename_i ho
          obtain ⟨ho1, rfl⟩ := ho
          cases ho' : o' with
          | none => rw [hoo.2 ho'] at hid; cases hid
          | some q =>
            -- the same row
            have key : ∀ (rs : List RV) (k' : Nat) l l' q, backs id rs = some (l, some ob) → backs k' rs = some (l', some q) → ob = q := by
              intro rs
              induction rs with
              | nil => intro k' l l' q h; simp [backs] at h
              | cons r rs ih =>
                intro k' l l' q h h'
                cases r with
                | val v =>
                  simp only [backs] at h h'
                  split at h
                  · rename_i h1
                    cases h
                    split at h'
                    · rename_i h2; cases h'; exact ih _ _ _ _ h1 h2
                    · cases h'
                  · cases h
                | own e sz es pin =>
                  simp only [backs] at h h'
                  split at h
                  · cases h
                    split at h'
                    · cases h'; rfl
                    · cases h'
                  · cases h
            have e0 := key rs 16 l l' q (by rw [← hid]; exact hb) (by rw [← ho']; exact hb')
            subst e0
            obtain ⟨lo, h8, h9⟩ := hwr.ob 16 ob (by simp [heapR, ho', upd])
            refine ⟨lo, by rw [hloc3 ho1]; exact h8, flat_ob (C := C') (C' := C2) (fun _ _ => rfl) ?_ h9⟩
            -- what comes back is a row
            have key2 : ∀ (rs : List RV) (k' : Nat) l q, backs k' rs = some (l, some q) → flat q = true := by
              intro rs
              induction rs with
              | nil => intro k' l q h; simp [backs] at h
              | cons r rs ih =>
                intro k' l q h
                cases r with
                | val v =>
                  simp only [backs] at h
                  split at h
                  · rename_i h1; cases h; exact ih _ _ _ h1
                  · cases h
                | own e sz es pin =>
                  simp only [backs] at h
                  split at h
                  · cases h; rfl
                  · cases h
            exact key2 rs 16 l' ob (by rw [← ho']; exact hb')
        · rename_i ho
          obtain ⟨lo, h3, h4⟩ := hw.ob id ob hid
          refine ⟨lo, by rw [hloc2 id hi ho]; exact h3, h4.mono hle fun b hb => ?_⟩
          have hbk : blk C id = some b := by simp [blk, h3, hb]
          exact ⟨hst.fp.block b (hw.lt id b hbk) (hother id hi b hbk), fun j => hst.fp.same b j (hw.lt id b hbk) (hother id hi b hbk)⟩
    · rcases hblk2 id b h1 with ⟨j, hj, hjb⟩ | ⟨hi, hne, hbk⟩
      · rcases hblk2 id' b h2 with ⟨j', hj', hjb'⟩ | ⟨hi', hne', hbk'⟩
        · have e := hwr.sep j j' b hjb hjb'
          subst e
          rcases hj with hj | ⟨e1, e2, e3⟩
          · rcases hj' with hj' | ⟨e1, _, _⟩
            · rw [hj] at hj'; exact Option.some.inj hj'
            · have := (List.getElem?_eq_some_iff.1 hj).1; omega
          · rcases hj' with hj' | ⟨_, _, e4⟩
            · have := (List.getElem?_eq_some_iff.1 hj').1; omega
            · rw [e3, e4]
        · exact absurd hjb (hfar id' b hi' hbk' j)
      · rcases hblk2 id' b h2 with ⟨j', hj', hjb'⟩ | ⟨hi', hne', hbk'⟩
        · exact absurd hjb' (hfar id b hi hbk j')
        · exact hw.sep id id' b hbk hbk'
    · rcases hblk2 id b h1 with ⟨j, hj, hjb⟩ | ⟨hi, hne, hbk⟩
      · exact hwr.lt j b hjb
      · exact Nat.lt_of_lt_of_le (hw.lt id b hbk) hst.fp.size
  obtain ⟨ys, hfa, hfin⟩ := tupOf_fa hrep
  obtain ⟨_, hrr⟩ := backs_rep (C' := C') (C2 := C2) (k := k) rfl (fun sz v g h16' => by
    by_cases ho : own = true
    · rw [hloc3 ho]; exact h16'
    · exfalso
      have : o' = none := hoo.1 (by cases h : o with | none => rfl | some q => simp [own, h] at ho)
      have := hwr.dom 16 (by rw [this]; simp [heapR, heap0]; omega)
      rw [h16'] at this; cases this) hb' hb
  refine ⟨tupOf l, C2, _, hK, hfin (hrr ys hfa), hle, hwr2, ⟨hst.I, fun id hid => ?_, ⟨hst.fp.os, hst.fp.tape, hst.fp.output, hst.fp.size, fun q hq hs => hst.fp.block q hq fun ⟨j, hj⟩ => ?_, fun q j hq hs => hst.fp.same q j hq fun ⟨j', hj⟩ => ?_⟩, fun id b h1 => ?_⟩⟩
  · cases hi : idx L id with
    | some j =>
      have hj := idx_some hi
      rw [hloc1 j id hj]
      have := hst.low j (by have := (List.getElem?_eq_some_iff.1 hj).1; omega)
      rw [sub_loc hj] at this
      exact this
    | none =>
      rw [hloc2 id hi (fun h => by omega)]
      exact (Stp.refl C w).low id hid
  · obtain ⟨id, _, h⟩ := hsubblk j q hj; exact hs ⟨id, h⟩
  · obtain ⟨id, _, h⟩ := hsubblk j' q hj; exact hs ⟨id, h⟩
  · rcases hblk2 id b h1 with ⟨j, hj, hjb⟩ | ⟨hi, hne, hbk⟩
    · rcases hst.new j b hjb with h | ⟨j', h⟩
      · exact .inl h
      · obtain ⟨id', _, h'⟩ := hsubblk j' b h; exact .inr ⟨id', h'⟩
    · exact .inr ⟨id, hbk⟩

theorem dedup_nodup : ∀ l, (dedup l).Nodup
  | [] => .nil
  | a :: l => by
    simp only [dedup]
    cases h : (dedup l).any (Nat.beq a) with
    | true => exact dedup_nodup l
    | false =>
      refine .cons (fun b hb e => ?_) (dedup_nodup l)
      subst e
      rw [List.any_eq_false] at h
      exact h a hb (Nat.beq_refl a)
theorem call_sound {cf : CF} (hcf : CFS G cf) (hw : WR C hp w) {args : List AV} {xs : List Value} (hargs : FA (RepAV C) args xs) {f rid i : Nat} (h : callP G cf rid i f args hp K) :
    (G.fn f).isSome = true ∧ Calls G.P f xs.toArray w fun e w' => ∃ x, e = .returned x ∧ Step C w K x w' := by
  unfold callP at h
  obtain ⟨hf, h⟩ := h
  refine ⟨hf, ?_⟩
  split at h
  · split at h
    · rename_i as obs has hobs
      obtain ⟨⟨h16, hflat⟩, rs, obs', hc, h⟩ := h
      split at h
      · rename_i l hb
        exact call_core hcf hw hargs (pid_ge rid i) (dedup_nodup _) h16 has hobs hflat hc hb (fun h => absurd rfl h) h
      · rename_i l o hb
        exact call_core hcf hw hargs (pid_ge rid i) (dedup_nodup _) h16 has hobs hflat hc hb (fun _ => h.1) h.2
      · exact h.elim
    · exact h.elim
  · split at h
    · rename_i as has
      obtain ⟨rs, hc, h⟩ := h
      split at h
      · rename_i l hb
        exact call_core (L := []) (obs := []) (obs' := []) hcf hw hargs (pid_ge rid i) List.nodup_nil (by simp) has rfl rfl hc hb (fun h => absurd rfl h) h
      · exact h.elim
    · exact h.elim
end
end Go.Proofs.YteegedceandnkaaW.AM
