/- The abstract machine: calls are sound. -/
import Derived.Test.YtccldchklemogaaAm8
set_option linter.unusedSectionVars false
set_option linter.unusedVariables false
set_option linter.unusedSimpArgs false
namespace Go.Proofs.YtccldchklemogaaW.AM
open Go Go.RowKit
variable {TT : Tab}

theorem updL_in {L : List Nat} {obs : List Ob} {hp : Hp} (hn : L.Nodup) (hl : L.length = obs.length) {id j : Nat} (h : idx L id = some j) : updL L obs hp id = obs[j]? := by rw [updL_get hn hl, h]
theorem updL_out {L : List Nat} {obs : List Ob} {hp : Hp} (hn : L.Nodup) (hl : L.length = obs.length) {id : Nat} (h : idx L id = none) : updL L obs hp id = hp id := by rw [updL_get hn hl, h]
theorem obsAt_get {hp : Hp} {L : List Nat} {os : List (Nat × Ob)} (h : obsAt hp L = some os) : L.length = os.length ∧ ∀ (k : Nat) (p : Nat × Ob), os[k]? = some p → L[k]? = some p.1 ∧ hp p.1 = some p.2 := by
  have hm := mapO_fa h
  refine ⟨fa_len hm, fun k p hk => ?_⟩
  obtain ⟨id, h1, h2⟩ := fa_get' hm hk
  split at h2
  · rename_i o ho; cases h2; exact ⟨h1, ho⟩
  · cases h2
theorem tag_get (m : Nat) : ∀ (l : List Ob) (j k : Nat), (tag m j l)[k]? = (l[k]?).map fun o => (nu m (j + k), o)
  | [], j, k => by simp [tag]
  | o :: l, j, 0 => by simp [tag]
  | o :: l, j, k + 1 => by simp only [tag, List.getElem?_cons_succ, tag_get m l (j + 1) k]; rw [show j + 1 + k = j + (k + 1) by omega]
theorem tag_len (m : Nat) : ∀ (l : List Ob) (j : Nat), (tag m j l).length = l.length
  | [], j => rfl
  | o :: l, j => by simp [tag, tag_len m l (j + 1)]
theorem freshB_out {hp : Hp} : ∀ {l : List Nat}, freshB hp l = true → ∀ id ∈ l, hp id = none
  | [], _, id, h => by simp at h
  | a :: l, h, id, hm => by
    simp only [freshB, Bool.and_eq_true] at h
    rcases List.mem_cons.1 hm with rfl | hm
    · cases e : hp id with
      | none => rfl
      | some o => rw [e] at h; exact absurd h.1 (by simp)
    · exact freshB_out h.2 id hm
theorem newIds_len (rid i : Nat) : ∀ n, (newIds rid i n).length = n
  | 0 => rfl
  | n + 1 => by simp [newIds, newIds_len rid i n]
theorem newIds_mem {rid i : Nat} : ∀ {n id : Nat}, id ∈ newIds rid i n → ∃ k, k < n ∧ id = nid rid i k
  | 0, id, h => by simp [newIds] at h
  | n + 1, id, h => by
    simp only [newIds, List.mem_append, List.mem_singleton] at h
    rcases h with h | h
    · obtain ⟨k, h1, h2⟩ := newIds_mem h; exact ⟨k, by omega, h2⟩
    · exact ⟨n, by omega, h⟩
theorem newIds_nodup (rid i : Nat) : ∀ n, (newIds rid i n).Nodup
  | 0 => .nil
  | n + 1 => by
    simp only [newIds]
    refine List.nodup_append.2 ⟨newIds_nodup rid i n, by simp, fun a ha b hb => ?_⟩
    rw [List.mem_singleton.1 hb]
    obtain ⟨k, h1, h2⟩ := newIds_mem ha
    rw [h2]; unfold nid; omega
theorem ixf_idx (L : List Nat) : ixf L = idx L := rfl
theorem dedup_nodup : ∀ l, (dedup l).Nodup
  | [] => .nil
  | a :: l => by
    simp only [dedup]
    cases h : (dedup l).any (Nat.beq a) with
    | true => exact dedup_nodup l
    | false =>
      refine .cons (fun b hb e => ?_) (dedup_nodup l)
      subst e
      rw [List.any_eq_false] at h
      exact h a hb (Nat.beq_refl a)

section
variable {G : Env} {C : Cx G.tab} {hp : Hp} {w : World} {K : KO}

/-- The caller's context behind a call. -/
def Cx.back (C C' : Cx TT) (P : List Nat) (m : Nat) : Cx TT := { I := C'.I, loc := fun id => match idx P id with | some k => C'.loc (nu m k) | none => C.loc id, ft := fun id => match idx P id with | some k => C'.ft (nu m k) | none => C.ft id }

/-- What is handed over, as the callee sees it. -/
theorem hand_wr {C : Cx TT} {hp : Hp} {w : World} (hw : WR C hp w) {L : List Nat} (hn : L.Nodup) {os : List (Nat × Ob)} (hos : obsAt hp L = some os) {K : List Ob → Prop} (h : mapObK (ixf L) noG os K) :
    ∃ obs, K obs ∧ obs.length = L.length ∧ WR (C.sub L) (heap0 obs) w := by
  obtain ⟨hlen, hget⟩ := obsAt_get hos
  obtain ⟨obs, hk, hl, hobs⟩ := mapObK_rep (C := C) (D := C.sub L) (w := w) (fun _ _ => rfl) (fun id j hj => by rw [sub_loc (find_get hj)]; exact (gl_none _).symm) (fun id j p hj hp => by cases hp) h (fun p hp => by
    obtain ⟨k, hk⟩ := List.mem_iff_getElem?.1 hp
    obtain ⟨_, h2⟩ := hget k p hk
    exact hw.ob _ _ h2)
  have hb : ∀ j b, blk (C.sub L) j b → ∃ id, L[j]? = some id ∧ blk C id b := fun j b hb => sub_blk0 hb
  have hp' : ∀ j, j < L.length → ∃ p, os[j]? = some p := fun j hj => ⟨os[j]'(by omega), by simp⟩
  refine ⟨obs, hk, by omega, hw.inI, fun j hj => ?_, fun j o hj => ?_, fun j j' b h1 h2 => ?_, fun j b h1 => ?_, hw.inT, fun b n hh => ⟨(hw.inZ b n hh).1, fun j h1 => by
    obtain ⟨id, _, e2⟩ := hb j b h1
    exact (hw.inZ b n hh).2 id e2⟩, fun j => ?_⟩
  · have hge : obs.length ≤ j := List.getElem?_eq_none_iff.1 hj
    have : L[j]? = none := List.getElem?_eq_none_iff.2 (by omega)
    simp [Cx.sub, this]
  · have hjl : j < L.length := by have := (List.getElem?_eq_some_iff.1 hj).1; omega
    obtain ⟨p, hpj⟩ := hp' j hjl
    obtain ⟨o', lo', h1, hs, h2, h3⟩ := hobs j p hpj
    have h1' : obs[j]? = some o := hj
    rw [h1] at h1'; cases h1'
    obtain ⟨h4, _⟩ := hget j p hpj
    rw [show noG p.1 = none from rfl, gl_none] at h2
    exact ⟨lo', by rw [sub_loc h4]; exact h2, h3⟩
  · obtain ⟨id, e1, e2⟩ := hb j b h1
    obtain ⟨id', e3, e4⟩ := hb j' b h2
    have := hw.sep id id' b e2 e4
    subst this
    exact nodup_inj hn e1 e3
  · obtain ⟨id, e1, e2⟩ := hb j b h1
    exact hw.lt id b e2
  · show TrOK _ w j obs[j]?
    cases ho : obs[j]? with
    | none =>
      have : L[j]? = none := List.getElem?_eq_none_iff.2 (by have := List.getElem?_eq_none_iff.1 ho; omega)
      intro k; simp [Cx.sub, this]
    | some o =>
      have hjl : j < L.length := by have := (List.getElem?_eq_some_iff.1 ho).1; omega
      obtain ⟨p, hpj⟩ := hp' j hjl
      obtain ⟨o', lo', h1, hs, h2, h3⟩ := hobs j p hpj
      rw [h1] at ho; cases ho
      obtain ⟨h4, h5⟩ := hget j p hpj
      rw [show noG p.1 = none from rfl, gl_none] at h2
      have ht := hw.tr p.1
      rw [h5] at ht
      exact ht.same (γ := none) hs (by rw [sub_loc h4]; exact h2) h3 (by rw [sub_loc h4, gl_none]) (sub_ft h4) rfl

theorem call_end (hw : WR C hp w) {L N : List Nat} {obs obs' : List Ob} {rs : List A0}
    (hn : (L ++ N).Nodup) (h16 : L.length ≤ 16) (hLl : obs.length = L.length) (hN : ∀ id ∈ N, hp id = none ∧ 16 ≤ id) (hLs : ∀ id ∈ L, hp id ≠ none) (hlen : obs'.length = (L ++ N).length)
    (hb : mapK (beta L.length (L ++ N)) noG rs fun l => mapObK (beta L.length (L ++ N)) noG (tag L.length 0 obs') fun os' => K (tupOf l) (updL (L ++ N) os' hp))
    {x : Value} {C' : Cx G.tab} {w' : World} (hrep : RepAV C' (tupOf rs) x) (hwr : WR C' (heapN obs.length obs') w') (hst : Stp (C.sub L) C' w w') : Step C w K x w' := by
  rw [hLl] at hwr
  generalize hP : L ++ N = P at *
  have hLP : ∀ k id, L[k]? = some id → P[k]? = some id := fun k id h => by rw [← hP, List.getElem?_append_left (List.getElem?_eq_some_iff.1 h).1]; exact h
  have hPk : ∀ k id, P[k]? = some id → (k < L.length ∧ L[k]? = some id) ∨ (L.length ≤ k ∧ id ∈ N) := fun k id h => by
    rw [← hP] at h
    by_cases hk : k < L.length
    · rw [List.getElem?_append_left hk] at h; exact .inl ⟨hk, h⟩
    · rw [List.getElem?_append_right (by omega)] at h; exact .inr ⟨by omega, List.mem_iff_getElem?.2 ⟨_, h⟩⟩
  let C2 := C.back C' P L.length
  have hobj : ∀ k id, P[k]? = some id → ∃ ob' lo', obs'[k]? = some ob' ∧ C'.loc (nu L.length k) = some lo' ∧ ObR C' w' ob' lo' := fun k id hk => by
    have hkl : k < obs'.length := by rw [hlen]; exact (List.getElem?_eq_some_iff.1 hk).1
    obtain ⟨lo', h5, h6⟩ := hwr.ob (nu L.length k) obs'[k] (by rw [heapN_nu h16]; simp [hkl])
    exact ⟨obs'[k], lo', by simp [hkl], h5, h6⟩
  have hloc1 : ∀ k id, P[k]? = some id → C2.loc id = C'.loc (nu L.length k) := fun k id hk => by
    show (match idx P id with | some k => C'.loc (nu L.length k) | none => _) = _
    rw [idx_of hn hk]
  have hloc2 : ∀ id, idx P id = none → C2.loc id = C.loc id := fun id hi => by
    show (match idx P id with | some k => C'.loc (nu L.length k) | none => C.loc id) = _
    rw [hi]
  have hnew : ∀ id, id ∈ N → C.loc id = none := fun id h => hw.dom id (hN id h).1
  have hnuL : ∀ k, k < L.length → nu L.length k = k := fun k hk => by simp [nu, hk]
  have hle : Le C C2 := by
    refine ⟨hst.I, fun id b hid => ?_, fun id g sz v hid => ?_, fun id vs hid => ?_⟩
    · cases hi : idx P id with
      | none => rw [hloc2 id hi]; exact hid
      | some k =>
        have hk := idx_some hi
        rcases hPk k id hk with ⟨hkl, hj⟩ | ⟨_, hm⟩
        · rw [hloc1 k id hk, hnuL k hkl]
          have hs : (C.sub L).loc k = some (.box b) := by rw [sub_loc hj]; exact hid
          rcases hst.low k (by omega) with h1 | ⟨b', h1, h2⟩ | ⟨g, sz, v, g', v', h1, _⟩ | ⟨us, h1, h2⟩
          · obtain ⟨_, lo', _, h5, _⟩ := hobj k id hk; rw [hnuL k hkl, h1] at h5; cases h5
          · rw [hs] at h1; cases h1; exact h2
          · rw [hs] at h1; cases h1
          · rw [hs] at h1; cases h1
        · rw [hnew id hm] at hid; cases hid
    · cases hi : idx P id with
      | none => exact ⟨g, v, by rw [hloc2 id hi]; exact hid, Nat.le_refl _, fun _ => rfl⟩
      | some k =>
        have hk := idx_some hi
        rcases hPk k id hk with ⟨hkl, hj⟩ | ⟨_, hm⟩
        · have hs : (C.sub L).loc k = some (.own g sz v) := by rw [sub_loc hj]; exact hid
          rcases hst.low k (by omega) with h1 | ⟨b', h1, h2⟩ | ⟨g0, sz0, v0, g', v', h1, h2, h3, h4⟩ | ⟨us, h1, h2⟩
          · obtain ⟨_, lo', _, h5, _⟩ := hobj k id hk; rw [hnuL k hkl, h1] at h5; cases h5
          · rw [hs] at h1; cases h1
          · rw [hs] at h1; cases h1
            exact ⟨g', v', by rw [hloc1 k id hk, hnuL k hkl]; exact h2, h3, h4⟩
          · rw [hs] at h1; cases h1
        · rw [hnew id hm] at hid; cases hid
    · cases hi : idx P id with
      | none => rw [hloc2 id hi]; exact hid
      | some k =>
        have hk := idx_some hi
        rcases hPk k id hk with ⟨hkl, hj⟩ | ⟨_, hm⟩
        · rw [hloc1 k id hk, hnuL k hkl]
          have hs : (C.sub L).loc k = some (.virt vs) := by rw [sub_loc hj]; exact hid
          rcases hst.low k (by omega) with h1 | ⟨b', h1, h2⟩ | ⟨g, sz, v, g', v', h1, _⟩ | ⟨us, h1, h2⟩
          · obtain ⟨_, lo', _, h5, _⟩ := hobj k id hk; rw [hnuL k hkl, h1] at h5; cases h5
          · rw [hs] at h1; cases h1
          · rw [hs] at h1; cases h1
          · rw [hs] at h1; cases h1; exact h2
        · rw [hnew id hm] at hid; cases hid
  have hsubblk : ∀ j b, blk (C.sub L) j b → ∃ id, L[j]? = some id ∧ blk C id b := fun j b hb => sub_blk0 hb
  have hft1 : ∀ k id, P[k]? = some id → C2.ft id = C'.ft (nu L.length k) := fun k id hk => by
    show (match idx P id with | some k => C'.ft (nu L.length k) | none => _) = _
    rw [idx_of hn hk]
  have hft2 : ∀ id, idx P id = none → C2.ft id = C.ft id := fun id hi => by
    show (match idx P id with | some k => C'.ft (nu L.length k) | none => C.ft id) = _
    rw [hi]
  have hother : ∀ id, idx P id = none → ∀ b, blk C id b → ¬ ∃ j, blk (C.sub L) j b := fun id hi b hb => by
    rintro ⟨j, hj⟩
    obtain ⟨id', h1, h2⟩ := hsubblk j b hj
    have := hw.sep id id' b hb h2
    subst this
    exact idx_none hi j (hLP j _ h1)
  have hblk2 : ∀ id b, blk C2 id b → (∃ k, P[k]? = some id ∧ blk C' (nu L.length k) b) ∨ (idx P id = none ∧ blk C id b) := fun id b hb => by
    cases hi : idx P id with
    | some k => exact .inl ⟨k, idx_some hi, by unfold blk at hb ⊢; rwa [hloc1 k id (idx_some hi), hft1 k id (idx_some hi)] at hb⟩
    | none => exact .inr ⟨rfl, by unfold blk at hb ⊢; rwa [hloc2 id hi, hft2 id hi] at hb⟩
  have hfar : ∀ id b, idx P id = none → blk C id b → ∀ j, ¬ blk C' j b := fun id b hi hb j hj => by
    rcases hst.new j b hj with h1 | ⟨j', h1⟩
    · have := hw.lt id b hb; omega
    · exact hother id hi b hb ⟨j', h1⟩
  -- names back
  have hI2 : ∀ b j, C2.I b j = C'.I b j := fun _ _ => rfl
  have hl2 : ∀ id j, beta L.length P id = some j → C2.loc j = gl (noG id) (C'.loc id) := fun id j hj => by
    obtain ⟨k, h1, h2⟩ := beta_nu hj
    rw [show noG id = none from rfl, gl_none, ← h1]
    exact hloc1 k j h2
  obtain ⟨ys, hfa, hfin⟩ := tupOf_fa hrep
  obtain ⟨l, hl, hb2⟩ := mapK_rep (C := C') (D := C2) (fun _ _ _ h => h) hl2 (fun _ _ _ _ h => by cases h) hb hfa
  obtain ⟨os', hK, hol, hos⟩ := mapObK_rep (C := C') (D := C2) (w := w') hI2 (ρ := beta L.length P) (γ := noG) (fun id j hj => hl2 id j hj) (fun _ _ _ _ h => by cases h) hb2 (fun p hp => by
    obtain ⟨k, hk⟩ := List.mem_iff_getElem?.1 hp
    rw [tag_get, Nat.zero_add] at hk
    obtain ⟨o, ho, rfl⟩ := Option.map_eq_some_iff.1 hk
    exact hwr.ob _ _ (by rw [heapN_nu h16]; exact ho))
  rw [tag_len] at hol
  have hPl : P.length = os'.length := by omega
  have hosk : ∀ k id, P[k]? = some id → ∃ o2 lo', os'[k]? = some o2 ∧ C2.loc id = some lo' ∧ ObR C2 w' o2 lo' ∧ TrOK C2 w' id (some o2) := fun k id hk => by
    obtain ⟨ob', lo1, h1, h2, h3⟩ := hobj k id hk
    obtain ⟨o', lo', q1, qs, q2, q3⟩ := hos k (nu L.length k, ob') (by rw [tag_get, Nat.zero_add, h1]; rfl)
    rw [show noG _ = none from rfl, gl_none] at q2
    have ht := hwr.tr (nu L.length k)
    rw [heapN_nu h16, h1] at ht
    exact ⟨o', lo', q1, by rw [hloc1 k id hk]; exact q2, q3, ht.same (γ := none) qs (by rw [hloc1 k id hk]; exact q2) q3 (by rw [hloc1 k id hk, gl_none]) (hft1 k id hk) rfl⟩
  have hwr2 : WR C2 (updL P os' hp) w' := by
    refine ⟨hwr.inI, fun id hid => ?_, fun id ob hid => ?_, fun id id' b h1 h2 => ?_, fun id b h1 => ?_, hwr.inT, fun b n hh => ⟨(hwr.inZ b n hh).1, fun id h1 => by
      rcases hblk2 id b h1 with ⟨k, hk, hkb⟩ | ⟨hi, hbk⟩
      · exact (hwr.inZ b n hh).2 _ hkb
      · exact (hw.inZ b n hh).2 id hbk⟩, fun id => ?_⟩
    · cases hi : idx P id with
      | some k =>
        rw [updL_in hn hPl hi] at hid
        obtain ⟨o2, _, h1, _⟩ := hosk k id (idx_some hi)
        rw [h1] at hid; cases hid
      | none => rw [updL_out hn hPl hi] at hid; rw [hloc2 id hi]; exact hw.dom id hid
    · cases hi : idx P id with
      | some k =>
        rw [updL_in hn hPl hi] at hid
        obtain ⟨o2, lo', h1, h2, h3, _⟩ := hosk k id (idx_some hi)
        rw [h1] at hid; cases hid
        exact ⟨lo', h2, h3⟩
      | none =>
        rw [updL_out hn hPl hi] at hid
        obtain ⟨lo, h3, h4⟩ := hw.ob id ob hid
        refine ⟨lo, by rw [hloc2 id hi]; exact h3, h4.mono hle fun b hb => ?_⟩
        have hbk : blk C id b := by simp [blk, blkO, h3, hb]
        exact ⟨hst.fp.block b (hw.lt id b hbk) (hother id hi b hbk), fun j => hst.fp.same b j (hw.lt id b hbk) (hother id hi b hbk)⟩
    · rcases hblk2 id b h1 with ⟨k, hk, hkb⟩ | ⟨hi, hbk⟩
      · rcases hblk2 id' b h2 with ⟨k', hk', hkb'⟩ | ⟨hi', hbk'⟩
        · have e := nu_inj h16 (hwr.sep _ _ b hkb hkb')
          subst e
          rw [hk] at hk'; exact Option.some.inj hk'
        · exact absurd hkb (hfar id' b hi' hbk' _)
      · rcases hblk2 id' b h2 with ⟨k', hk', hkb'⟩ | ⟨hi', hbk'⟩
        · exact absurd hkb' (hfar id b hi hbk _)
        · exact hw.sep id id' b hbk hbk'
    · rcases hblk2 id b h1 with ⟨k, hk, hkb⟩ | ⟨hi, hbk⟩
      · exact hwr.lt _ b hkb
      · exact Nat.lt_of_lt_of_le (hw.lt id b hbk) hst.fp.size
    · cases hi : idx P id with
      | some k =>
        rw [updL_in hn hPl hi]
        obtain ⟨o2, lo', h1, h2, h3, h4⟩ := hosk k id (idx_some hi)
        rw [h1]; exact h4
      | none =>
        rw [updL_out hn hPl hi]
        exact (hw.tr id).mono (hloc2 id hi) (hft2 id hi) (fun b hbk => ⟨hst.fp.block b (hw.lt id b hbk) (hother id hi b hbk), fun j => hst.fp.same b j (hw.lt id b hbk) (hother id hi b hbk)⟩) hle.own
  refine ⟨tupOf l, C2, _, hK, hfin hl, hle, hwr2, ⟨hst.I, fun id hid => ?_, ⟨hst.fp.os, hst.fp.tape, hst.fp.output, hst.fp.size, fun q hq hs => hst.fp.block q hq fun ⟨j, hj⟩ => ?_, fun q j hq hs => hst.fp.same q j hq fun ⟨j', hj⟩ => ?_⟩, fun id b h1 => ?_⟩⟩
  · cases hi : idx P id with
    | some k =>
      have hk := idx_some hi
      rcases hPk k id hk with ⟨hkl, hj⟩ | ⟨_, hm⟩
      · rw [hloc1 k id hk, hnuL k hkl]
        have := hst.low k (by omega)
        rw [sub_loc hj] at this
        exact this
      · have := (hN id hm).2; omega
    | none =>
      rw [hloc2 id hi]
      exact (Stp.refl C w).low id hid
  · obtain ⟨id, _, h⟩ := hsubblk j q hj; exact hs ⟨id, h⟩
  · obtain ⟨id, _, h⟩ := hsubblk j' q hj; exact hs ⟨id, h⟩
  · rcases hblk2 id b h1 with ⟨k, hk, hkb⟩ | ⟨hi, hbk⟩
    · rcases hst.new _ b hkb with h | ⟨j', h⟩
      · exact .inl h
      · obtain ⟨id', _, h'⟩ := hsubblk j' b h; exact .inr ⟨id', h'⟩
    · exact .inr ⟨id, hbk⟩

theorem call_core {cf : CF} (hcf : CFS G cf) (hw : WR C hp w) {args : List AV} {xs : List Value} (hargs : FA (RepAV C) args xs) {f : FuncId} {L N : List Nat} {as : List A0} {obs obs' : List Ob} {rs : List A0}
    (hn : (L ++ N).Nodup) (h16 : L.length ≤ 16) (has : argsO L args = some as) (hwL : WR (C.sub L) (heap0 obs) w) (hLl : obs.length = L.length) (hN : ∀ id ∈ N, hp id = none ∧ 16 ≤ id) (hLs : ∀ id ∈ L, hp id ≠ none) (hc : cf f as obs rs obs') (hlen : obs'.length = (L ++ N).length)
    (hb : mapK (beta L.length (L ++ N)) noG rs fun l => mapObK (beta L.length (L ++ N)) noG (tag L.length 0 obs') fun os' => K (tupOf l) (updL (L ++ N) os' hp)) :
    Calls G.P f xs.toArray w fun e w' => ∃ x, e = .returned x ∧ Step C w K x w' := by
  refine (hcf f as obs rs obs' hc (C.sub L) w xs (argsO_rep has hargs) hwL (by omega)).mono ?_
  rintro e w' ⟨x, C', rfl, hrep, hwr, hst, hge⟩
  exact ⟨x, rfl, call_end hw hn h16 hLl hN hLs hlen hb hrep hwr hst⟩

theorem call_sound {cf : CF} (hcf : CFS G cf) (hw : WR C hp w) {args : List AV} {xs : List Value} (hargs : FA (RepAV C) args xs) {f rid i : Nat} (h : callP G cf rid i f args hp K) :
    (G.fn f).isSome = true ∧ Calls G.P f xs.toArray w fun e w' => ∃ x, e = .returned x ∧ Step C w K x w' := by
  rw [callP_eq] at h
  obtain ⟨hf, h⟩ := h
  refine ⟨hf, ?_⟩
  split at h
  · split at h
    · rename_i as os has hos
      obtain ⟨h16, h⟩ := h
      obtain ⟨obs, h, hol, hwL⟩ := hand_wr hw (dedup_nodup _) hos h
      obtain ⟨rs, obs', hc, ⟨hge, hfr⟩, h⟩ := h
      obtain ⟨hll, hget⟩ := obsAt_get hos
      have hLs : ∀ id ∈ clo hp args, hp id ≠ none := fun id hm => by
        obtain ⟨k, hk⟩ := List.mem_iff_getElem?.1 hm
        have hkl : k < os.length := by rw [← hll]; exact (List.getElem?_eq_some_iff.1 hk).1
        obtain ⟨h1, h2⟩ := hget k os[k] (by simp [hkl])
        rw [hk] at h1
        rw [Option.some.inj h1, h2]; simp
      have hN : ∀ id ∈ newIds rid i (obs'.length - (clo hp args).length), hp id = none ∧ 16 ≤ id := fun id hm => ⟨freshB_out hfr id hm, by
        obtain ⟨k, _, rfl⟩ := newIds_mem hm; unfold nid; omega⟩
      refine call_core hcf hw hargs (L := clo hp args) (N := newIds rid i (obs'.length - (clo hp args).length)) ?_ h16 has hwL hol hN hLs hc (by rw [List.length_append, newIds_len]; omega) h
      refine List.nodup_append.2 ⟨dedup_nodup _, newIds_nodup _ _ _, fun a ha b hb e => ?_⟩
      subst e
      exact hLs a ha (hN a hb).1
    · exact h.elim
  · split at h
    · rename_i as has
      obtain ⟨rs, hc, h⟩ := h
      refine call_core (L := []) (N := []) (obs := []) (obs' := []) hcf hw hargs (by simp) (by simp) has ?_ rfl (by simp) (by simp) hc rfl ?_
      · exact ⟨hw.inI, fun _ _ => by simp [Cx.sub], fun id o ho => by simp [heap0] at ho, fun id id' b h1 => by simp [blk, blkO, Cx.sub] at h1, fun id b h1 => by simp [blk, blkO, Cx.sub] at h1, hw.inT, fun b n hh => ⟨(hw.inZ b n hh).1, fun id h1 => by simp [blk, blkO, Cx.sub] at h1⟩, fun id => by simp [heap0, TrOK, Cx.sub]⟩
      · have hb0 : beta 0 [] = fun _ => none := by
          funext j; unfold beta
          split
          · simp
          · split <;> simp
        show mapK (beta 0 []) noG rs _
        rw [hb0]
        exact h
    · exact h.elim
/-! ### lending -/
/-- The same objects, told to stand in part. -/
def LK (hp hp1 : Hp) : Prop := ∀ id, match hp id with
  | some (.own e sz es g p) => ∃ p', hp1 id = some (.own e sz es g p')
  | some (.tree e sz es g) => hp1 id = some (.tree e sz es g) ∨ hp1 id = some (.own e sz es g true)
  | o => hp1 id = o
theorem LK.refl (hp : Hp) : LK hp hp := fun id => by
  cases h : hp id with
  | none => rfl
  | some o => cases o <;> first | rfl | exact ⟨_, rfl⟩ | exact .inl rfl
theorem LK.own {hp hp1 : Hp} (h : LK hp hp1) {id e sz es g p} (hid : hp id = some (.own e sz es g p)) : LK hp (upd id (.own e sz es g true) hp1) := fun j => by
  by_cases ej : j = id
  · subst ej; rw [hid]; exact ⟨true, by simp [upd]⟩
  · have := h j; rw [show upd id (Ob.own e sz es g true) hp1 j = hp1 j by simp [upd, ej]]; exact this
theorem LK.tree {hp hp1 : Hp} (h : LK hp hp1) {id e sz es g} (hid : hp id = some (.tree e sz es g)) : LK hp (upd id (.own e sz es g true) hp1) := fun j => by
  by_cases ej : j = id
  · subst ej; rw [hid]; exact .inr (by simp [upd])
  · have := h j; rw [show upd id (Ob.own e sz es g true) hp1 j = hp1 j by simp [upd, ej]]; exact this
theorem lendC_sound : ∀ (cs : List A0) {C1 : Cx G.tab} {hp1 : Hp} (_ : WR C1 hp1 w) (_ : LK hp hp1) {xs : List Value} (_ : FA (RepA C1) cs xs) {K : List VV → Prop} (_ : lendC hp cs K),
    ∃ (C2 : Cx G.tab) (hp2 : Hp) (vs : List VV), K vs ∧ FA (RepV C2.I) vs xs ∧ Le C1 C2 ∧ WR C2 hp2 w ∧ LK hp hp2
  | [], C1, hp1, hw, hk, xs, hr, K, h => by cases hr; exact ⟨C1, hp1, [], h, .nil, Le.refl _, hw, hk⟩
  | a :: l, C1, hp1, hw, hk, xs, hr, K, h => by
    cases hr with
    | cons hab t =>
      rename_i x xs
      simp only [lendC] at h
      have pinned : ∀ {id g e sz es g' p}, a = .ref id g → g = g' → hp1 id = some (.own e sz es g' p) → LK hp (upd id (.own e sz es g' true) hp1) → lendC hp l (fun vs => K (.row es :: vs)) → ∃ (C2 : Cx G.tab) (hp2 : Hp) (vs : List VV), K vs ∧ FA (RepV C2.I) vs (x :: xs) ∧ Le C1 C2 ∧ WR C2 hp2 w ∧ LK hp hp2 := fun {id g e sz es g' p} ea eg h1 hk' hin => by
        subst ea eg
        obtain ⟨C2, v', hloc, hr1, hl, hwr, hst⟩ := pin_own hw id e sz g es p h1
        obtain ⟨_, g3, sz3, v3, k1, k2, k3⟩ := hab
        rw [hloc] at k1; cases k1
        obtain ⟨C3, hp3, vs, q1, q2, q3, q4, q5⟩ := lendC_sound l hwr hk' (fa_imp (fun _ _ h => h.mono hl) t) hin
        refine ⟨C3, hp3, _, q1, .cons ?_ q2, hl.trans q3, q4, q5⟩
        rw [k3 rfl]; exact RepV.mono q3.I hr1
      split at h
      · rename_i id g
        split at h
        · rename_i e sz es g' p hid
          obtain ⟨eg, h⟩ := h
          have := hk id
          rw [hid] at this
          obtain ⟨p', h1⟩ := this
          exact pinned rfl eg h1 (hk.own hid) h
        · rename_i e sz es g' hid
          obtain ⟨eg, h⟩ := h
          have := hk id
          rw [hid] at this
          rcases this with h1 | h1
          · subst eg
            obtain ⟨C2, v', hloc, _, hr1, hl, hwr, hst⟩ := pin_tree hw id e sz g es h1
            obtain ⟨_, g3, sz3, v3, k1, k2, k3⟩ := hab
            rw [hloc] at k1; cases k1
            obtain ⟨C3, hp3, vs, q1, q2, q3, q4, q5⟩ := lendC_sound l hwr (hk.tree hid) (fa_imp (fun _ _ h => h.mono hl) t) h
            refine ⟨C3, hp3, _, q1, .cons ?_ q2, hl.trans q3, q4, q5⟩
            rw [k3 rfl]; exact RepV.mono q3.I hr1
          · exact pinned rfl eg h1 (hk.tree hid) h
        · exact h.elim
      · split at h
        · rename_i v hv
          obtain ⟨C2, hp2, vs, q1, q2, q3, q4, q5⟩ := lendC_sound l hw hk t h
          exact ⟨C2, hp2, _, q1, .cons (RepV.mono q3.I (toVV_rep hv hab)) q2, q3, q4, q5⟩
        · exact h.elim
theorem lendL_sound : ∀ (as : List AV) {C1 : Cx G.tab} {hp1 : Hp} (_ : WR C1 hp1 w) (_ : LK hp hp1) {xs : List Value} (_ : FA (RepAV C1) as xs) {K : List A0 → Prop} (_ : lendL hp as K),
    ∃ (C2 : Cx G.tab) (hp2 : Hp) (vs : List VV), K (vs.map .val) ∧ FA (RepV C2.I) vs xs ∧ Le C1 C2 ∧ WR C2 hp2 w ∧ LK hp hp2
  | [], C1, hp1, hw, hk, xs, hr, K, h => by cases hr; exact ⟨C1, hp1, [], h, .nil, Le.refl _, hw, hk⟩
  | v :: l, C1, hp1, hw, hk, xs, hr, K, h => by
    cases hr with
    | cons hab t =>
      rename_i x xs
      simp only [lendL] at h
      split at h
      · rename_i j
        split at h
        · rename_i cs hcs
          have h1 := hk j
          rw [hcs] at h1
          obtain ⟨lo, hloc, hob⟩ := hw.ob _ _ h1
          cases lo with
          | box _ => exact hob.elim
          | own _ _ _ => exact hob.elim
          | virt us =>
            obtain ⟨us', hu', rfl⟩ := hab
            rw [hloc] at hu'; cases hu'
            obtain ⟨C2, hp2, vs, q1, q2, q3, q4, q5⟩ := lendC_sound cs hw hk hob.1 h
            obtain ⟨C3, hp3, as, r1, r2, r3, r4, r5⟩ := lendL_sound l q4 q5 (fa_imp (fun _ _ h => h.mono q3) t) q1
            refine ⟨C3, hp3, .agg vs :: as, r1, .cons ?_ r2, q3.trans r3, r4, r5⟩
            exact RepV.mono r3.I (.agg _ _ (fa_len q2).symm (fun j u hu => hob.2 u (List.mem_iff_getElem?.2 ⟨j, hu⟩)) (fun j c u hc hu => by
              obtain ⟨b, h2, h3⟩ := fa_get q2 hc
              rw [hu] at h2; cases h2; exact h3))
        · exact h.elim
      · rename_i a hns
        obtain ⟨C2, hp2, vs, q1, q2, q3, q4, q5⟩ := lendC_sound [a] hw hk (.cons hab .nil) h
        split at q1
        · rename_i u
          obtain ⟨C3, hp3, as, r1, r2, r3, r4, r5⟩ := lendL_sound l q4 q5 (fa_imp (fun _ _ h => h.mono q3) t) q1
          cases q2 with
          | cons hu _ => exact ⟨C3, hp3, u :: as, r1, .cons (RepV.mono r3.I hu) r2, q3.trans r3, r4, r5⟩
        · exact q1.elim
      · exact h.elim
theorem flatO_get : ∀ {obs : List Ob}, flatO obs → ∀ {k : Nat} {o : Ob}, obs[k]? = some o → ∃ e sz es g, o = .own e sz es g false ∧ FlatR es
  | [], h, k, o, hk => by simp at hk
  | a :: l, h, k, o, hk => by
    cases a <;> simp only [flatO] at h <;> try exact h.elim
    obtain ⟨⟨rfl, hf⟩, h⟩ := h
    cases k with
    | zero => simp at hk; subst hk; exact ⟨_, _, _, _, rfl, hf⟩
    | succ k => exact flatO_get h (by simpa using hk)
theorem plain_any {I I' : Nat → Nat → Option Value} {v : VV} {x : Value} (h : RepV I v x) (hp : plainV v = true) : RepV I' v x := by
  cases h <;> first | (cases hp; done) | constructor
theorem flatA_rep {C C' : Cx TT} {obs : List Ob} (hl : ∀ id, C'.loc id = C.loc id) : ∀ {l : List A0}, flatA obs l = true → ∀ {xs : List Value}, FA (RepA C) l xs → FA (RepA C') l xs
  | [], _, xs, h => by cases h; exact .nil
  | a :: l, h, _, .cons hab t => by
    cases a <;> simp only [flatA, Bool.and_eq_true] at h <;> try (cases h; done)
    · exact .cons (plain_any hab h.1) (flatA_rep hl h.2 t)
    · obtain ⟨h1, g', sz, v, h2, h3⟩ := hab
      exact .cons ⟨h1, g', sz, v, by rw [hl]; exact h2, h3⟩ (flatA_rep hl h.2 t)
theorem lend_sound {cf : CF} (hcf : CFS G cf) (hw : WR C hp w) {args : List AV} {xs : List Value} (hargs : FA (RepAV C) args xs) {f rid i : Nat} (h : lendL hp args fun as => ∃ rs obs', cf f as [] rs obs' ∧ (flatA obs' rs = true ∧ flatO obs' ∧ freshB hp (newIds rid i obs'.length) = true) ∧
        mapK (beta 0 (newIds rid i obs'.length)) noG rs fun l => mapObK (beta 0 (newIds rid i obs'.length)) noG (tag 0 0 obs') fun os' => K (tupOf l) (updL (newIds rid i obs'.length) os' hp)) :
    Calls G.P f xs.toArray w fun e w' => ∃ x, e = .returned x ∧ Step C w K x w' := by
  obtain ⟨C2, hp2, vs, ⟨rs, obs', hc, ⟨hfa, hfo, hfr⟩, hb⟩, q2, q3, q4, q5⟩ := lendL_sound args hw (LK.refl hp) hargs h
  have hwL : WR (C2.sub []) (heap0 []) w := ⟨q4.inI, fun _ _ => by simp [Cx.sub], fun id o ho => by simp [heap0] at ho, fun id id' b h1 => by simp [blk, blkO, Cx.sub] at h1, fun id b h1 => by simp [blk, blkO, Cx.sub] at h1, q4.inT, fun b n hh => ⟨(q4.inZ b n hh).1, fun id h1 => by simp [blk, blkO, Cx.sub] at h1⟩, fun id => by simp [heap0, TrOK, Cx.sub]⟩
  refine (hcf f _ [] rs obs' hc (C2.sub []) w xs (fa_map_l (fa_imp (fun _ _ h => h) q2)) hwL (by simp)).mono ?_
  rintro e w' ⟨x, C', rfl, hrep, hwr, hst, hge⟩
  refine ⟨x, rfl, ?_⟩
  have hnob : ∀ (D : Cx G.tab) j b, ¬ blk (D.sub []) j b := fun D j b h1 => by simp [blk, blkO, Cx.sub] at h1
  have hkeep : ∀ k, k < w.heap.size → w'.heap[k]? = w.heap[k]? := fun k hk => hst.fp.block k hk fun ⟨j, hj⟩ => hnob _ j k hj
  let C'' : Cx G.tab := { C' with I := C.I }
  have hblk : ∀ id, blk C'' id = blk C' id := fun id => rfl
  have hwr'' : WR C'' (heapN 0 obs') w' := by
    refine ⟨fun b j v hv => ?_, hwr.dom, fun id o ho => ?_, hwr.sep, hwr.lt, hw.inT, fun b n hh => ⟨(hwr.inZ b n hh).1, (hwr.inZ b n hh).2⟩, fun id => ?_⟩
    · have h2 := hw.inI b j v hv
      rw [World.cell?_of_block (hkeep _ (block_lt_of_cell h2))]; exact h2
    · obtain ⟨l, hl, hob⟩ := hwr.ob id o ho
      obtain ⟨k, hk, hok⟩ := heapN_inv (by omega) ho
      obtain ⟨e, sz, es, g, rfl, hf⟩ := flatO_get hfo hok
      refine ⟨l, hl, ?_⟩
      cases l with
      | box _ => exact hob.elim
      | virt _ => exact hob.elim
      | own g' sz' v =>
        obtain ⟨h1, h2, h3, ys, h4, h5, h6⟩ := hob
        refine ⟨h1, h2, h3, ys, h4, ⟨h5.1, fun i e he => ⟨(h5.2 i e he).1, fun j c hc => ?_⟩⟩, fun b j u hb hu => ?_⟩
        · obtain ⟨u, hu, hr⟩ := (h5.2 i e he).2 j c hc
          exact ⟨u, hu, plain_any hr (hf e (List.mem_iff_getElem?.2 ⟨i, he⟩) c (List.mem_iff_getElem?.2 ⟨j, hc⟩))⟩
        · have hbb : blk C' id b := .inl (by rw [hl]; exact hb)
          rcases hst.new id b hbb with h7 | ⟨j', h7⟩
          · rw [hw.fresh b j h7] at hu; cases hu
          · exact absurd h7 (hnob _ _ _)
    · have : TrOK C' w' id (heapN 0 obs' id) := hwr.tr id
      cases e : heapN 0 obs' id with
      | none => rw [e] at this; exact this
      | some o =>
        rw [e] at this
        obtain ⟨k, hk, hok⟩ := heapN_inv (by omega) e
        obtain ⟨_, _, _, _, rfl, _⟩ := flatO_get hfo hok
        exact this
  have hst'' : Stp (C.sub []) C'' w w' := ⟨fun _ _ _ h => h, fun id hid => by
      have := hst.low id hid
      simpa [Cx.sub] using this, ⟨hst.fp.os, hst.fp.tape, hst.fp.output, hst.fp.size, fun k hk _ => hkeep k hk, fun _ _ _ _ => rfl⟩, fun id b hb => by
      rcases hst.new id b hb with h7 | ⟨j', h7⟩
      · exact .inl h7
      · exact absurd h7 (hnob _ _ _)⟩
  obtain ⟨ys, hfa1, hfin⟩ := tupOf_fa hrep
  have hN : ∀ id ∈ newIds rid i obs'.length, hp id = none ∧ 16 ≤ id := fun id hm => ⟨freshB_out hfr id hm, by
    obtain ⟨k, _, rfl⟩ := newIds_mem hm; unfold nid; omega⟩
  exact call_end (L := []) (N := newIds rid i obs'.length) (obs := []) hw (by simpa using newIds_nodup _ _ _) (by simp) rfl hN (by simp) (by simp [newIds_len]) (by simpa using hb) (hfin (flatA_rep (C := C') (C' := C'') (fun _ => rfl) hfa hfa1)) hwr'' hst''
end
end Go.Proofs.YtccldchklemogaaW.AM
