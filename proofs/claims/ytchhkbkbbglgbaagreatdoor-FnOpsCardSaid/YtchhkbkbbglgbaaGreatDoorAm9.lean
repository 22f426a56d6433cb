/- The abstract machine: calls are sound. -/
import Derived.Test.YtchhkbkbbglgbaaGreatDoorAm8
set_option linter.unusedSectionVars false
set_option linter.unusedVariables false
set_option linter.unusedSimpArgs false
namespace Go.Proofs.YtchhkbkbbglgbaaGreatDoorW.AM
open Go Go.RowKit
variable {TT : Tab}
theorem updL_in {L : List Nat} {obs : List Ob} {hp : Hp} (hn : L.Nodup) (hl : L.length = obs.length) {id j : Nat} (h : idx L id = some j) : updL L obs hp id = obs[j]? := by rw [updL_get hn hl, h]
theorem updL_out {L : List Nat} {obs : List Ob} {hp : Hp} (hn : L.Nodup) (hl : L.length = obs.length) {id : Nat} (h : idx L id = none) : updL L obs hp id = hp id := by rw [updL_get hn hl, h]
theorem obsAt_get {hp : Hp} {L : List Nat} {os : List (Nat × Ob)} (h : obsAt hp L = some os) : L.length = os.length ∧ ∀ (k : Nat) (p : Nat × Ob), os[k]? = some p → L[k]? = some p.1 ∧ hp p.1 = some p.2 := by
 have hm := mapO_fa h
 refine ⟨fa_len hm, fun k p hk => ?_⟩
 obtain ⟨id, h1, h2⟩ := fa_get' hm hk
 split at h2
 ·rename_i o ho; cases h2; exact ⟨h1, ho⟩
 ·cases h2
theorem tag_get (m : Nat) : ∀ (l : List Ob) (j k : Nat), (tag m j l)[k]? = (l[k]?).map fun o => (nu m (j + k), o)
 | [], j, k => by simp [tag]
 | o :: l, j, 0 => by simp [tag]
 | o :: l, j, k + 1 => by simp only [tag, List.getElem?_cons_succ, tag_get m l (j + 1) k]; rw [show j + 1 + k = j + (k + 1) by omega]
theorem tag_len (m : Nat) : ∀ (l : List Ob) (j : Nat), (tag m j l).length = l.length
 | [], j => rfl
 | o :: l, j => by simp [tag, tag_len m l (j + 1)]
theorem freshB_out {hp : Hp} : ∀ {l : List Nat}, freshB hp l = true → ∀ id ∈ l, hp id = none
 | [], _, id, h => by simp at h
 | a :: l, h, id, hm => by
  simp only [freshB, Bool.and_eq_true] at h
  rcases List.mem_cons.1 hm with rfl | hm
  ·cases e : hp id with
   | none => rfl
   | some o => rw [e] at h; exact absurd h.1 (by simp)
  ·exact freshB_out h.2 id hm
theorem newIds_len (rid i : Nat) : ∀ n, (newIds rid i n).length = n
 | 0 => rfl
 | n + 1 => by simp [newIds, newIds_len rid i n]
theorem newIds_mem {rid i : Nat} : ∀ {n id : Nat}, id ∈ newIds rid i n → ∃ k, k < n ∧ id = nid rid i k
 | 0, id, h => by simp [newIds] at h
 | n + 1, id, h => by
  simp only [newIds, List.mem_append, List.mem_singleton] at h
  rcases h with h | h
  ·obtain ⟨k, h1, h2⟩ := newIds_mem h; exact ⟨k, by omega, h2⟩
  ·exact ⟨n, by omega, h⟩
theorem newIds_nodup (rid i : Nat) : ∀ n, (newIds rid i n).Nodup
 | 0 => .nil
 | n + 1 => by
  simp only [newIds]
  refine List.nodup_append.2 ⟨newIds_nodup rid i n, by simp, fun a ha b hb => ?_⟩
  rw [List.mem_singleton.1 hb]
  obtain ⟨k, h1, h2⟩ := newIds_mem ha
  rw [h2]; unfold nid; omega
theorem dedup_nodup : ∀ l, (dedup l).Nodup
 | [] => .nil
 | a :: l => by
  simp only [dedup]
  cases h : (dedup l).any (Nat.beq a) with
  | true => exact dedup_nodup l
  | false =>
   refine .cons (fun b hb e => ?_) (dedup_nodup l)
   subst e
   rw [List.any_eq_false] at h
   exact h a hb (Nat.beq_refl a)
section
variable {G : Env} {C : Cx G.tab} {hp : Hp} {w : World} {K : KO}
def Cx.back (C C' : Cx TT) (P : List Nat) (m : Nat) : Cx TT := { I := C'.I, loc := fun id => match idx P id with | some k => C'.loc (nu m k) | none => C.loc id }
theorem hand_wr {C : Cx TT} {hp : Hp} {w : World} (hw : WR C hp w) {L : List Nat} (hn : L.Nodup) {os : List (Nat × Ob)} (hos : obsAt hp L = some os) {K : List Ob → Prop} (h : mapObK (ixf L) noG os K) :
  ∃ obs, K obs ∧ obs.length = L.length ∧ WR (C.sub L) (heap0 obs) w := by
 obtain ⟨hlen, hget⟩ := obsAt_get hos
 obtain ⟨obs, hk, hl, hobs⟩ := mapObK_rep (C := C) (D := C.sub L) (w := w) (fun _ _ => rfl) (fun id j hj => by rw [sub_loc (find_get hj)]; exact (gl_none _).symm) (fun id j p hj hp => by cases hp) h (fun p hp => by
  obtain ⟨k, hk⟩ := List.mem_iff_getElem?.1 hp
  obtain ⟨_, h2⟩ := hget k p hk
  exact hw.ob _ _ h2)
 have hb : ∀ j b, blk (C.sub L) j = some b → ∃ id, L[j]? = some id ∧ blk C id = some b := fun j b hb => by
  unfold blk at hb
  cases hL : L[j]? with
  | none => simp [Cx.sub, hL] at hb
  | some id => exact ⟨id, rfl, by rw [sub_loc hL] at hb; exact hb⟩
 have hp' : ∀ j, j < L.length → ∃ p, os[j]? = some p := fun j hj => ⟨os[j]'(by omega), by simp⟩
 refine ⟨obs, hk, by omega, hw.inI, fun j hj => ?_, fun j o hj => ?_, fun j j' b h1 h2 => ?_, fun j b h1 => ?_, hw.inT, fun b n hh => ⟨(hw.inZ b n hh).1, fun j h1 => by
  obtain ⟨id, _, e2⟩ := hb j b h1
  exact (hw.inZ b n hh).2 id e2⟩⟩
 ·have hge : obs.length ≤ j := List.getElem?_eq_none_iff.1 hj
  have : L[j]? = none := List.getElem?_eq_none_iff.2 (by omega)
  simp [Cx.sub, this]
 ·have hjl : j < L.length := by have := (List.getElem?_eq_some_iff.1 hj).1; omega
  obtain ⟨p, hpj⟩ := hp' j hjl
  obtain ⟨o', lo', h1, h2, h3⟩ := hobs j p hpj
  have h1' : obs[j]? = some o := hj
  rw [h1] at h1'; cases h1'
  obtain ⟨h4, _⟩ := hget j p hpj
  rw [show noG p.1 = none from rfl, gl_none] at h2
  exact ⟨lo', by rw [sub_loc h4]; exact h2, h3⟩
 ·obtain ⟨id, e1, e2⟩ := hb j b h1
  obtain ⟨id', e3, e4⟩ := hb j' b h2
  have := hw.sep id id' b e2 e4
  subst this
  exact nodup_inj hn e1 e3
 ·obtain ⟨id, e1, e2⟩ := hb j b h1
  exact hw.lt id b e2
theorem call_core {cf : CF} (hcf : CFS G cf) (hw : WR C hp w) {args : List AV} {xs : List Value} (hargs : FA (RepAV C) args xs) {f : FuncId} {L N : List Nat} {as : List A0} {obs obs' : List Ob} {rs : List A0}
  (hn : (L ++ N).Nodup) (h16 : L.length ≤ 16) (has : argsO L args = some as) (hwL : WR (C.sub L) (heap0 obs) w) (hLl : obs.length = L.length) (hN : ∀ id ∈ N, hp id = none ∧ 16 ≤ id) (hLs : ∀ id ∈ L, hp id ≠ none) (hc : cf f as obs rs obs') (hlen : obs'.length = (L ++ N).length)
  (hb : mapK (beta L.length (L ++ N)) noG rs fun l => mapObK (beta L.length (L ++ N)) noG (tag L.length 0 obs') fun os' => K (tupOf l) (updL (L ++ N) os' hp)) :
  Calls G.P f xs.toArray w fun e w' => ∃ x, e = .returned x ∧ Step C w K x w' := by
 refine (hcf f as obs rs obs' hc (C.sub L) w xs (argsO_rep has hargs) hwL (by omega)).mono ?_
 rintro e w' ⟨x, C', rfl, hrep, hwr, hst, hge⟩
 refine ⟨x, rfl, ?_⟩
 rw [hLl] at hwr
 generalize hP : L ++ N = P at *
 have hLP : ∀ k id, L[k]? = some id → P[k]? = some id := fun k id h => by rw [← hP, List.getElem?_append_left (List.getElem?_eq_some_iff.1 h).1]; exact h
 have hPk : ∀ k id, P[k]? = some id → (k < L.length ∧ L[k]? = some id) ∨ (L.length ≤ k ∧ id ∈ N) := fun k id h => by
  rw [← hP] at h
  by_cases hk : k < L.length
  ·rw [List.getElem?_append_left hk] at h; exact .inl ⟨hk, h⟩
  ·rw [List.getElem?_append_right (by omega)] at h; exact .inr ⟨by omega, List.mem_iff_getElem?.2 ⟨_, h⟩⟩
 let C2 := C.back C' P L.length
 have hobj : ∀ k id, P[k]? = some id → ∃ ob' lo', obs'[k]? = some ob' ∧ C'.loc (nu L.length k) = some lo' ∧ ObR C' w' ob' lo' := fun k id hk => by
  have hkl : k < obs'.length := by rw [hlen]; exact (List.getElem?_eq_some_iff.1 hk).1
  obtain ⟨lo', h5, h6⟩ := hwr.ob (nu L.length k) obs'[k] (by rw [heapN_nu h16]; simp [hkl])
  exact ⟨obs'[k], lo', by simp [hkl], h5, h6⟩
 have hloc1 : ∀ k id, P[k]? = some id → C2.loc id = C'.loc (nu L.length k) := fun k id hk => by
  show (match idx P id with | some k => C'.loc (nu L.length k) | none => _) = _
  rw [idx_of hn hk]
 have hloc2 : ∀ id, idx P id = none → C2.loc id = C.loc id := fun id hi => by
  show (match idx P id with | some k => C'.loc (nu L.length k) | none => C.loc id) = _
  rw [hi]
 have hnew : ∀ id, id ∈ N → C.loc id = none := fun id h => hw.dom id (hN id h).1
 have hnuL : ∀ k, k < L.length → nu L.length k = k := fun k hk => by simp [nu, hk]
 have hle : Le C C2 := by
  refine ⟨hst.I, fun id b hid => ?_, fun id g sz v hid => ?_, fun id vs hid => ?_⟩
  ·cases hi : idx P id with
   | none => rw [hloc2 id hi]; exact hid
   | some k =>
    have hk := idx_some hi
    rcases hPk k id hk with ⟨hkl, hj⟩ | ⟨_, hm⟩
    ·rw [hloc1 k id hk, hnuL k hkl]
     have hs : (C.sub L).loc k = some (.box b) := by rw [sub_loc hj]; exact hid
     rcases hst.low k (by omega) with h1 | ⟨b', h1, h2⟩ | ⟨g, sz, v, g', v', h1, _⟩ | ⟨us, h1, h2⟩
     ·obtain ⟨_, lo', _, h5, _⟩ := hobj k id hk; rw [hnuL k hkl, h1] at h5; cases h5
     ·rw [hs] at h1; cases h1; exact h2
     ·rw [hs] at h1; cases h1
     ·rw [hs] at h1; cases h1
    ·rw [hnew id hm] at hid; cases hid
  ·cases hi : idx P id with
   | none => exact ⟨g, v, by rw [hloc2 id hi]; exact hid, Nat.le_refl _, fun _ => rfl⟩
   | some k =>
    have hk := idx_some hi
    rcases hPk k id hk with ⟨hkl, hj⟩ | ⟨_, hm⟩
    ·have hs : (C.sub L).loc k = some (.own g sz v) := by rw [sub_loc hj]; exact hid
     rcases hst.low k (by omega) with h1 | ⟨b', h1, h2⟩ | ⟨g0, sz0, v0, g', v', h1, h2, h3, h4⟩ | ⟨us, h1, h2⟩
     ·obtain ⟨_, lo', _, h5, _⟩ := hobj k id hk; rw [hnuL k hkl, h1] at h5; cases h5
     ·rw [hs] at h1; cases h1
     ·rw [hs] at h1; cases h1
      exact ⟨g', v', by rw [hloc1 k id hk, hnuL k hkl]; exact h2, h3, h4⟩
     ·rw [hs] at h1; cases h1
    ·rw [hnew id hm] at hid; cases hid
  ·cases hi : idx P id with
   | none => rw [hloc2 id hi]; exact hid
   | some k =>
    have hk := idx_some hi
    rcases hPk k id hk with ⟨hkl, hj⟩ | ⟨_, hm⟩
    ·rw [hloc1 k id hk, hnuL k hkl]
     have hs : (C.sub L).loc k = some (.virt vs) := by rw [sub_loc hj]; exact hid
     rcases hst.low k (by omega) with h1 | ⟨b', h1, h2⟩ | ⟨g, sz, v, g', v', h1, _⟩ | ⟨us, h1, h2⟩
     ·obtain ⟨_, lo', _, h5, _⟩ := hobj k id hk; rw [hnuL k hkl, h1] at h5; cases h5
     ·rw [hs] at h1; cases h1
     ·rw [hs] at h1; cases h1
     ·rw [hs] at h1; cases h1; exact h2
    ·rw [hnew id hm] at hid; cases hid
 have hsubblk : ∀ j b, blk (C.sub L) j = some b → ∃ id, L[j]? = some id ∧ blk C id = some b := fun j b hb => by
  unfold blk at hb
  cases hL : L[j]? with
  | none => simp [Cx.sub, hL] at hb
  | some id => exact ⟨id, rfl, by rw [sub_loc hL] at hb; exact hb⟩
 have hother : ∀ id, idx P id = none → ∀ b, blk C id = some b → ¬ ∃ j, blk (C.sub L) j = some b := fun id hi b hb => by
  rintro ⟨j, hj⟩
  obtain ⟨id', h1, h2⟩ := hsubblk j b hj
  have := hw.sep id id' b hb h2
  subst this
  exact idx_none hi j (hLP j _ h1)
 have hblk2 : ∀ id b, blk C2 id = some b → (∃ k, P[k]? = some id ∧ blk C' (nu L.length k) = some b) ∨ (idx P id = none ∧ blk C id = some b) := fun id b hb => by
  cases hi : idx P id with
  | some k => exact .inl ⟨k, idx_some hi, by unfold blk at hb ⊢; rwa [hloc1 k id (idx_some hi)] at hb⟩
  | none => exact .inr ⟨rfl, by unfold blk at hb ⊢; rwa [hloc2 id hi] at hb⟩
 have hfar : ∀ id b, idx P id = none → blk C id = some b → ∀ j, blk C' j ≠ some b := fun id b hi hb j hj => by
  rcases hst.new j b hj with h1 | ⟨j', h1⟩
  ·have := hw.lt id b hb; omega
  ·exact hother id hi b hb ⟨j', h1⟩
 -- names back
 have hI2 : ∀ b j, C2.I b j = C'.I b j := fun _ _ => rfl
 have hl2 : ∀ id j, beta L.length P id = some j → C2.loc j = gl (noG id) (C'.loc id) := fun id j hj => by
  obtain ⟨k, h1, h2⟩ := beta_nu hj
  rw [show noG id = none from rfl, gl_none, ← h1]
  exact hloc1 k j h2
 obtain ⟨ys, hfa, hfin⟩ := tupOf_fa hrep
 obtain ⟨l, hl, hb2⟩ := mapK_rep (C := C') (D := C2) (fun _ _ _ h => h) hl2 (fun _ _ _ _ h => by cases h) hb hfa
 obtain ⟨os', hK, hol, hos⟩ := mapObK_rep (C := C') (D := C2) (w := w') hI2 (ρ := beta L.length P) (γ := noG) (fun id j hj => hl2 id j hj) (fun _ _ _ _ h => by cases h) hb2 (fun p hp => by
  obtain ⟨k, hk⟩ := List.mem_iff_getElem?.1 hp
  rw [tag_get, Nat.zero_add] at hk
  obtain ⟨o, ho, rfl⟩ := Option.map_eq_some_iff.1 hk
  exact hwr.ob _ _ (by rw [heapN_nu h16]; exact ho))
 rw [tag_len] at hol
 have hPl : P.length = os'.length := by omega
 have hosk : ∀ k id, P[k]? = some id → ∃ o2 lo', os'[k]? = some o2 ∧ C2.loc id = some lo' ∧ ObR C2 w' o2 lo' := fun k id hk => by
  obtain ⟨ob', lo1, h1, h2, h3⟩ := hobj k id hk
  obtain ⟨o', lo', q1, q2, q3⟩ := hos k (nu L.length k, ob') (by rw [tag_get, Nat.zero_add, h1]; rfl)
  rw [show noG _ = none from rfl, gl_none] at q2
  exact ⟨o', lo', q1, by rw [hloc1 k id hk]; exact q2, q3⟩
 have hwr2 : WR C2 (updL P os' hp) w' := by
  refine ⟨hwr.inI, fun id hid => ?_, fun id ob hid => ?_, fun id id' b h1 h2 => ?_, fun id b h1 => ?_, hwr.inT, fun b n hh => ⟨(hwr.inZ b n hh).1, fun id h1 => by
   rcases hblk2 id b h1 with ⟨k, hk, hkb⟩ | ⟨hi, hbk⟩
   ·exact (hwr.inZ b n hh).2 _ hkb
   ·exact (hw.inZ b n hh).2 id hbk⟩⟩
  ·cases hi : idx P id with
   | some k =>
    rw [updL_in hn hPl hi] at hid
    obtain ⟨o2, _, h1, _⟩ := hosk k id (idx_some hi)
    rw [h1] at hid; cases hid
   | none => rw [updL_out hn hPl hi] at hid; rw [hloc2 id hi]; exact hw.dom id hid
  ·cases hi : idx P id with
   | some k =>
    rw [updL_in hn hPl hi] at hid
    obtain ⟨o2, lo', h1, h2, h3⟩ := hosk k id (idx_some hi)
    rw [h1] at hid; cases hid
    exact ⟨lo', h2, h3⟩
   | none =>
    rw [updL_out hn hPl hi] at hid
    obtain ⟨lo, h3, h4⟩ := hw.ob id ob hid
    refine ⟨lo, by rw [hloc2 id hi]; exact h3, h4.mono hle fun b hb => ?_⟩
    have hbk : blk C id = some b := by simp [blk, h3, hb]
    exact ⟨hst.fp.block b (hw.lt id b hbk) (hother id hi b hbk), fun j => hst.fp.same b j (hw.lt id b hbk) (hother id hi b hbk)⟩
  ·rcases hblk2 id b h1 with ⟨k, hk, hkb⟩ | ⟨hi, hbk⟩
   ·rcases hblk2 id' b h2 with ⟨k', hk', hkb'⟩ | ⟨hi', hbk'⟩
    ·have e := nu_inj h16 (hwr.sep _ _ b hkb hkb')
     subst e
     rw [hk] at hk'; exact Option.some.inj hk'
    ·exact absurd hkb (hfar id' b hi' hbk' _)
   ·rcases hblk2 id' b h2 with ⟨k', hk', hkb'⟩ | ⟨hi', hbk'⟩
    ·exact absurd hkb' (hfar id b hi hbk _)
    ·exact hw.sep id id' b hbk hbk'
  ·rcases hblk2 id b h1 with ⟨k, hk, hkb⟩ | ⟨hi, hbk⟩
   ·exact hwr.lt _ b hkb
   ·exact Nat.lt_of_lt_of_le (hw.lt id b hbk) hst.fp.size
 refine ⟨tupOf l, C2, _, hK, hfin hl, hle, hwr2, ⟨hst.I, fun id hid => ?_, ⟨hst.fp.os, hst.fp.tape, hst.fp.output, hst.fp.size, fun q hq hs => hst.fp.block q hq fun ⟨j, hj⟩ => ?_, fun q j hq hs => hst.fp.same q j hq fun ⟨j', hj⟩ => ?_⟩, fun id b h1 => ?_⟩⟩
 ·cases hi : idx P id with
  | some k =>
   have hk := idx_some hi
   rcases hPk k id hk with ⟨hkl, hj⟩ | ⟨_, hm⟩
   ·rw [hloc1 k id hk, hnuL k hkl]
    have := hst.low k (by omega)
    rw [sub_loc hj] at this
    exact this
   ·have := (hN id hm).2; omega
  | none =>
   rw [hloc2 id hi]
   exact (Stp.refl C w).low id hid
 ·obtain ⟨id, _, h⟩ := hsubblk j q hj; exact hs ⟨id, h⟩
 ·obtain ⟨id, _, h⟩ := hsubblk j' q hj; exact hs ⟨id, h⟩
 ·rcases hblk2 id b h1 with ⟨k, hk, hkb⟩ | ⟨hi, hbk⟩
  ·rcases hst.new _ b hkb with h | ⟨j', h⟩
   ·exact .inl h
   ·obtain ⟨id', _, h'⟩ := hsubblk j' b h; exact .inr ⟨id', h'⟩
  ·exact .inr ⟨id, hbk⟩
theorem call_sound {cf : CF} (hcf : CFS G cf) (hw : WR C hp w) {args : List AV} {xs : List Value} (hargs : FA (RepAV C) args xs) {f rid i : Nat} (h : callP G cf rid i f args hp K) :
  (G.fn f).isSome = true ∧ Calls G.P f xs.toArray w fun e w' => ∃ x, e = .returned x ∧ Step C w K x w' := by
 rw [callP_eq] at h
 obtain ⟨hf, h⟩ := h
 refine ⟨hf, ?_⟩
 split at h
 ·split at h
  ·rename_i as os has hos
   obtain ⟨h16, h⟩ := h
   obtain ⟨obs, h, hol, hwL⟩ := hand_wr hw (dedup_nodup _) hos h
   obtain ⟨rs, obs', hc, ⟨hge, hfr⟩, h⟩ := h
   obtain ⟨hll, hget⟩ := obsAt_get hos
   have hLs : ∀ id ∈ clo hp args, hp id ≠ none := fun id hm => by
    obtain ⟨k, hk⟩ := List.mem_iff_getElem?.1 hm
    have hkl : k < os.length := by rw [← hll]; exact (List.getElem?_eq_some_iff.1 hk).1
    obtain ⟨h1, h2⟩ := hget k os[k] (by simp [hkl])
    rw [hk] at h1
    rw [Option.some.inj h1, h2]; simp
   have hN : ∀ id ∈ newIds rid i (obs'.length - (clo hp args).length), hp id = none ∧ 16 ≤ id := fun id hm => ⟨freshB_out hfr id hm, by
    obtain ⟨k, _, rfl⟩ := newIds_mem hm; unfold nid; omega⟩
   refine call_core hcf hw hargs (L := clo hp args) (N := newIds rid i (obs'.length - (clo hp args).length)) ?_ h16 has hwL hol hN hLs hc (by rw [List.length_append, newIds_len]; omega) h
   refine List.nodup_append.2 ⟨dedup_nodup _, newIds_nodup _ _ _, fun a ha b hb e => ?_⟩
   subst e
   exact hLs a ha (hN a hb).1
  ·exact h.elim
 ·split at h
  ·rename_i as has
   obtain ⟨rs, hc, h⟩ := h
   refine call_core (L := []) (N := []) (obs := []) (obs' := []) hcf hw hargs (by simp) (by simp) has ?_ rfl (by simp) (by simp) hc rfl ?_
   ·exact ⟨hw.inI, fun _ _ => by simp [Cx.sub], fun id o ho => by simp [heap0] at ho, fun id id' b h1 => by simp [blk, Cx.sub] at h1, fun id b h1 => by simp [blk, Cx.sub] at h1, hw.inT, fun b n hh => ⟨(hw.inZ b n hh).1, fun id h1 => by simp [blk, Cx.sub] at h1⟩⟩
   ·have hb0 : beta 0 [] = fun _ => none := by
     funext j; unfold beta
     split
     ·simp
     ·split <;> simp
    show mapK (beta 0 []) noG rs _
    rw [hb0]
    exact h
  ·exact h.elim
end
end Go.Proofs.YtchhkbkbbglgbaaGreatDoorW.AM
