/- Trees: rows within rows as objects for a while, and put back. -/
import Derived.Test.YtccldchklemogaaAm7
set_option linter.unusedVariables false
set_option linter.unusedSimpArgs false
namespace Go.Proofs.YtccldchklemogaaW.AM
open Go Go.RowKit
variable {TT : Tab}

theorem RepT.owns {ty : Nat → Nat → Nat} {w : World} {T : Nat} {ks : List VV} {u : Value} {Q : Nat → Prop} (h : RepT ty w T (.row ks) u Q) (hz : 0 < szT ty T) : ∃ xs, w.ownsRow 0 T (szT ty T) u ks.length xs := by
  cases h with
  | row0 T F hF => exact ⟨[], World.ownsRow_nil w 0 _ _⟩
  | row es b cap T sz cur P F hz hzt hbb hn hm hs hsz h1 hh hP hd hF =>
    subst hzt
    refine ⟨cur.toList.take (ks.length * szT ty T), ?_, .inr ⟨b, cap, cur, rfl, Nat.zero_le _, hbb, hn, hm, hs, rfl⟩⟩
    have := Nat.mul_le_mul_right (szT ty T) hn
    have e : cur.toList.length = cap * szT ty T := by simpa using hs
    rw [List.length_take, e]; exact Nat.min_eq_left this
theorem RepT.ownF {ty : Nat → Nat → Nat} {w : World} {T : Nat} {ks : List VV} {u : Value} {Q : Nat → Prop} (h : RepT ty w T (.row ks) u Q) : ∀ b, u.ownBlock = some b → Q b := by
  cases h with
  | row0 T F hF => intro b hb; cases hb
  | row es b cap T sz cur P F hz hzt hbb hn hm hs hsz h1 hh hP hd hF => intro b2 hb; exact (hF b2).2 (.inl (Option.some.inj hb).symm)
/-- A row of nothing. -/
theorem new_nilT {C : Cx TT} {hp : Hp} {w : World} (h : WR C hp w) (id : Nat) (hid : hp id = none) (h16 : 16 ≤ id) (e : TypeId) (sz : Nat) (hsz : 0 < sz) :
    let C' := C.set id (.own 0 sz (.slice none 0 0))
    Le C C' ∧ WR C' (upd id (.tree e sz [] 0) hp) w ∧ Stp C C' w w := by
  intro C'
  have hno := h.no_ft id (by simp [hid])
  have hl : Le C C' := Cx.set_le _ (h.dom id hid)
  have hb : ∀ k, ¬ blk C' id k := fun k hk => by
    rcases hk with hk | hk
    · rw [show C'.loc id = _ from Cx.set_same _ _ _] at hk; cases hk
    · exact hno k hk
  refine ⟨hl, h.updT id _ (.own 0 sz (.slice none 0 0)) hl (fun j hj => Cx.set_ne _ _ _ _ hj) (fun _ _ => rfl) (Cx.set_same _ _ _) h.inI (Nat.le_refl _) (fun _ _ _ _ => ⟨rfl, fun _ => rfl⟩) ⟨rfl, rfl, hsz, [], World.ownsRow_nil w 0 e sz⟩ ⟨_, Cx.set_same _ _ _, .row0 _ _ hb, fun k j hk => absurd hk (hb k)⟩ (fun j hj b _ hb' => hb b hb') (fun b hb' => absurd hb' (hb b)) (fun b _ _ _ _ => ⟨rfl, hb b⟩), ?_⟩
  exact Stp.of hl id hno (fun j hj => Cx.set_ne _ _ _ _ hj) (.inl h16) _ (Cx.set_same _ _ _) rfl rfl rfl (Nat.le_refl _) (fun k _ _ => ⟨rfl, fun _ => rfl⟩) fun b hb' => by cases hb'
/-- A row that nobody has becomes an object. -/
theorem new_kid {C0 C : Cx TT} {hp0 hp : Hp} {w : World} (h0 : WR C0 hp0 w) (h : WR C hp w) (hst : Stp C0 C w w) (q6 : C.I = C0.I) {T : Nat} {ks : List VV} {u : Value} {Q : Nat → Prop} (hrep : RepT TT.ty w T (.row ks) u Q) (hsz0 : 0 < szT TT.ty T)
    (hQ : ∀ k, Q k → (∀ j, ¬ blk C j k) ∧ (∀ j, C.I k j = none) ∧ ∃ j, blk C0 j k) (id : Nat) (hid : hp id = none) (h16 : 16 ≤ id) :
    ∃ C2 : Cx TT, C2.loc id = some (.own 0 (szT TT.ty T) u) ∧ Le C C2 ∧ WR C2 (upd id (.tree T (szT TT.ty T) ks 0) hp) w ∧ Stp C0 C2 w w ∧ C2.I = C0.I ∧ (∀ k, blk C2 id k ↔ Q k) ∧ ∀ j, j ≠ id → C2.loc j = C.loc j ∧ blk C2 j = blk C j := by
  have hno := h.dom id hid
  let C2 : Cx TT := { I := C.I, loc := fun j => if j = id then some (.own 0 (szT TT.ty T) u) else C.loc j, ft := fun j => if j = id then Q else C.ft j }
  have hl1 : C2.loc id = some (.own 0 (szT TT.ty T) u) := if_pos rfl
  have hl2 : ∀ j, j ≠ id → C2.loc j = C.loc j := fun j hj => if_neg hj
  have hf1 : C2.ft id = Q := if_pos rfl
  have hf2 : ∀ j, j ≠ id → C2.ft j = C.ft j := fun j hj => if_neg hj
  have hb1 : ∀ k, blk C2 id k ↔ Q k := fun k => by
    unfold blk; rw [hl1, hf1]
    exact ⟨fun h => h.elim (fun h => hrep.ownF k h) (fun h => h), .inr⟩
  have hb2 : ∀ j, j ≠ id → blk C2 j = blk C j := fun j hj => by funext k; simp only [blk, hl2 j hj, hf2 j hj]
  have hle : Le C C2 := by
    refine ⟨fun _ _ _ h => h, fun j b hj => ?_, fun j g0 s0 v0 hj => ?_, fun j vs hj => ?_⟩
    · by_cases e : j = id
      · subst e; rw [hno] at hj; cases hj
      · rw [hl2 j e]; exact hj
    · by_cases e : j = id
      · subst e; rw [hno] at hj; cases hj
      · exact ⟨g0, v0, by rw [hl2 j e]; exact hj, Nat.le_refl _, fun _ => rfl⟩
    · by_cases e : j = id
      · subst e; rw [hno] at hj; cases hj
      · rw [hl2 j e]; exact hj
  obtain ⟨xs, hrow⟩ := hrep.owns hsz0
  refine ⟨C2, hl1, hle, ?_, ?_, q6, hb1, fun j hj => ⟨hl2 j hj, hb2 j hj⟩⟩
  · refine h.updT id _ _ hle hl2 hf2 hl1 h.inI (Nat.le_refl _) (fun _ _ _ _ => ⟨rfl, fun _ => rfl⟩) ⟨rfl, rfl, hsz0, xs, hrow⟩ ⟨u, hl1, ?_, fun k j hk => (hQ k ((hb1 k).1 hk)).2.1 j⟩ (fun j hj b hb hb' => (hQ b ((hb1 b).1 hb')).1 j hb) (fun b hb => hrep.lt b ((hb1 b).1 hb)) (fun b n hz _ _ => ⟨rfl, fun hb => ?_⟩)
    · have : blk C2 id = Q := funext fun k => propext (hb1 k)
      rw [this]; exact hrep
    · obtain ⟨j, hj⟩ := (hQ b ((hb1 b).1 hb)).2.2
      exact (h0.inZ b n hz).2 j hj
  · refine ⟨fun b j v hv => by show C.I b j = some v; rw [q6]; exact hv, fun j hj => ?_, ⟨rfl, rfl, rfl, Nat.le_refl _, fun _ _ _ => rfl, fun k j _ _ => by show C.I k j = C0.I k j; rw [q6]⟩, fun j b hb => ?_⟩
    · rw [hl2 j (by omega)]; exact hst.low j hj
    · by_cases e : j = id
      · subst e; exact .inr (hQ b ((hb1 b).1 hb)).2.2
      · rw [hb2 j e] at hb; exact hst.new j b hb
/-- Cells: nil rows get homes. -/
theorem homesL_sound {T rid i : Nat} : ∀ (cs : List A0) (k m : Nat) {C : Cx TT} {hp : Hp} {w : World} (_ : WR C hp w) {xs : List Value} (_ : FA (RepA C) cs xs) {K : List A0 → Hp → Prop} (_ : homesL TT.ty T rid i k m cs hp K),
    ∃ (C' : Cx TT) (hp' : Hp) (cs' : List A0), K cs' hp' ∧ FA (RepA C') cs' xs ∧ Le C C' ∧ WR C' hp' w ∧ Stp C C' w w
  | [], k, m, C, hp, w, hw, xs, hr, K, h => by
    cases hr; exact ⟨C, hp, [], h, .nil, Le.refl _, hw, Stp.refl _ _⟩
  | a :: l, k, m, C, hp, w, hw, xs, hr, K, h => by
    cases hr with
    | cons hab t =>
      rename_i x xs
      have other : homesL TT.ty T rid i (k + 1) m l hp (fun cs hp' => K (a :: cs) hp') → ∃ (C' : Cx TT) (hp' : Hp) (cs' : List A0), K cs' hp' ∧ FA (RepA C') cs' (x :: xs) ∧ Le C C' ∧ WR C' hp' w ∧ Stp C C' w w := fun h => by
        obtain ⟨C', hp', cs', q1, q2, q3, q4, q5⟩ := homesL_sound l _ _ hw t h
        exact ⟨C', hp', _, q1, .cons (hab.mono q3) q2, q3, q4, q5⟩
      simp only [homesL] at h
      cases a
      case nilrow =>
        obtain ⟨⟨hz, hn⟩, h⟩ := h
        obtain ⟨n1, n2, n3⟩ := new_nilT hw (tid rid i m) hn (by unfold tid; omega) (TT.ty T k) (szT TT.ty (TT.ty T k)) hz
        obtain ⟨C', hp', cs', q1, q2, q3, q4, q5⟩ := homesL_sound l _ _ n2 (fa_imp (fun _ _ h => h.mono n1) t) h
        refine ⟨C', hp', _, q1, .cons (RepA.mono q3 ?_) q2, n1.trans q3, q4, n3.trans q5⟩
        rw [show x = _ from hab]
        exact ⟨rfl, 0, _, _, Cx.set_same _ _ _, Nat.le_refl _, fun _ => rfl⟩
      all_goals exact other h
/-- Cells whose rows nobody has: the rows become objects. -/
theorem outL_sound {T rid i : Nat} {C0 : Cx TT} {hp0 : Hp} {w : World} (h0 : WR C0 hp0 w) : ∀ (cs : List VV) (k m : Nat) {C : Cx TT} {hp : Hp} (_ : WR C hp w) (_ : Stp C0 C w w) (_ : C.I = C0.I) {xs : List Value} {P : Nat → Nat → Prop} (_ : cs.length = xs.length)
    (_ : ∀ (q : Nat) c u, cs[q]? = some c → xs[q]? = some u → RepT TT.ty w (TT.ty T (k + q)) c u (P q)) (_ : ∀ q b, P q b → (∀ j, ¬ blk C j b) ∧ (∀ j, C.I b j = none) ∧ ∃ j, blk C0 j b) (_ : ∀ q r b, P q b → P r b → q = r) {K : List A0 → Hp → Prop} (_ : outL TT.ty T rid i k m cs hp K),
    ∃ (C' : Cx TT) (hp' : Hp) (cs' : List A0), K cs' hp' ∧ FA (RepA C') cs' xs ∧ Le C C' ∧ WR C' hp' w ∧ Stp C0 C' w w
  | [], k, m, C, hp, hw, hst, hI, xs, P, hl, hr, hP, hd, K, h => by
    have : xs = [] := List.eq_nil_of_length_eq_zero (by simpa using hl.symm)
    subst this
    exact ⟨C, hp, [], h, .nil, Le.refl _, hw, hst⟩
  | a :: l, k, m, C, hp, hw, hst, hI, xs, P, hl, hr, hP, hd, K, h => by
    cases xs with
    | nil => simp at hl
    | cons x xs =>
      have hl' : l.length = xs.length := by simpa using hl
      have h1 := hr 0 a x rfl rfl
      have hr' : ∀ (q : Nat) c u, l[q]? = some c → xs[q]? = some u → RepT TT.ty w (TT.ty T (k + 1 + q)) c u (P (q + 1)) := fun q c u hc hu => by
        have := hr (q + 1) c u (by simpa using hc) (by simpa using hu)
        rwa [show k + (q + 1) = k + 1 + q by omega] at this
      have plain : plainV a = true → outL TT.ty T rid i (k + 1) m l hp (fun cs hp' => K (.val a :: cs) hp') → ∃ (C' : Cx TT) (hp' : Hp) (cs' : List A0), K cs' hp' ∧ FA (RepA C') cs' (x :: xs) ∧ Le C C' ∧ WR C' hp' w ∧ Stp C0 C' w w := fun hp1 h => by
        obtain ⟨C', hp', cs', q1, q2, q3, q4, q5⟩ := outL_sound h0 l _ _ hw hst hI (P := fun q => P (q + 1)) hl' hr' (fun q b hb => hP (q + 1) b hb) (fun q r b h1 h2 => by have := hd _ _ b h1 h2; omega) h
        exact ⟨C', hp', _, q1, .cons (show RepV C'.I a x from h1.plain hp1) q2, q3, q4, q5⟩
      cases a
      case row ks =>
        obtain ⟨⟨hz, hn⟩, h⟩ := h
        have h1' : RepT TT.ty w (TT.ty T k) (.row ks) x (P 0) := h1
        obtain ⟨C2, n1, n2, n3, n4, n5, n6, n7⟩ := new_kid h0 hw hst hI h1' hz (fun b hb => hP 0 b hb) (tid rid i m) hn (by unfold tid; omega)
        obtain ⟨C', hp', cs', q1, q2, q3, q4, q5⟩ := outL_sound h0 l _ _ n3 n4 n5 (P := fun q => P (q + 1)) hl' hr' (fun q b hb => ⟨fun j hj => by
          by_cases e : j = tid rid i m
          · subst e; have := hd _ _ b hb ((n6 b).1 hj); omega
          · rw [(n7 j e).2] at hj; exact (hP (q + 1) b hb).1 j hj, fun j => by rw [n5, ← hI]; exact (hP (q + 1) b hb).2.1 j, (hP (q + 1) b hb).2.2⟩) (fun q r b h1 h2 => by have := hd _ _ b h1 h2; omega) h
        exact ⟨C', hp', _, q1, .cons (RepA.mono q3 ⟨h1.one, 0, _, _, n1, Nat.le_refl _, fun _ => rfl⟩) q2, n2.trans q3, q4, q5⟩
      all_goals first | exact plain h.1 h.2 | (exact absurd h.1 (by simp [plainV]))
theorem flat_set {sz : Nat} : ∀ {es : List VV}, (∀ e ∈ es, e.cells.length = sz) → ∀ {k off : Nat} {u u' c : VV}, es[k]? = some u → u'.cells = setAt u.cells off [c] → off < sz → flatC (es.set k u') = (flatC es).set (k * sz + off) c
  | [], _, k, off, u, u', c, h, _, _ => by simp at h
  | a :: es, hs, 0, off, u, u', c, h, hu, ho => by
    simp at h; subst h
    have h0 := hs a (by simp)
    unfold flatC
    rw [List.set_cons_zero, List.flatMap_cons, List.flatMap_cons, hu, Nat.zero_mul, Nat.zero_add, List.set_append_left _ _ (by omega)]
    congr 1
    unfold setAt
    apply List.ext_getElem?
    intro j
    rw [List.getElem?_set]
    by_cases e : off = j
    · subst e; rw [if_pos rfl, if_pos (by omega), List.append_assoc, List.getElem?_append_right (by simp; omega)]; simp [show off - min off a.cells.length = 0 by omega]
    · rw [if_neg e]
      by_cases e2 : j < off
      · rw [List.append_assoc, List.getElem?_append_left (by simp; omega), List.getElem?_take, if_pos e2]
      · rw [List.append_assoc, List.getElem?_append_right (by simp; omega), List.getElem?_append_right (by simp; omega), List.getElem?_drop]
        congr 1; simp; omega
  | a :: es, hs, k + 1, off, u, u', c, h, hu, ho => by
    simp at h
    have h0 := hs a (by simp)
    have ih := flat_set (es := es) (fun e he => hs e (by simp [he])) h hu ho
    unfold flatC at ih ⊢
    rw [List.set_cons_succ, List.flatMap_cons, List.flatMap_cons, ih, List.set_append_right _ _ (by rw [Nat.add_mul]; omega)]
    congr 2
    rw [h0, Nat.add_mul]; omega
/-- A row within a tree becomes an object for a while. -/
theorem split_tree {C : Cx TT} {hp : Hp} {w : World} (h : WR C hp w) (id : Nat) {e sz g k off j : Nat} {es ks : List VV} {u : VV} (hid : hp id = some (.tree e sz es g)) (hu : es[k]? = some u) (hc : u.cells[off]? = some (.row ks)) (hsz0 : 0 < szT TT.ty (TT.ty e off)) (hj : hp j = none) (h16 : 16 ≤ j) :
    ∃ (C2 : Cx TT) (b cap : Nat) (x : Value), C.loc id = some (.own g sz (.slice (some ⟨b, 0, none⟩) es.length cap)) ∧ w.cell? ⟨b, k * sz + off, none⟩ = some x ∧ x.oneCell' = true ∧ C2.loc j = some (.own 0 (szT TT.ty (TT.ty e off)) x) ∧ Le C C2 ∧ WR C2 (upd j (.tree (TT.ty e off) (szT TT.ty (TT.ty e off)) ks 0) (upd id (.hole e sz es g k off j) hp)) w ∧ Stp C C2 w w := by
  have hne : j ≠ id := fun e => by subst e; rw [hid] at hj; cases hj
  have ht := h.tr id
  rw [hid] at ht
  obtain ⟨v, hloc, hrep, hI0⟩ := ht
  obtain ⟨l, hl, hob⟩ := h.ob id _ hid
  rw [hloc] at hl; cases hl
  obtain ⟨_, _, hsz, xs, hrow⟩ := hob
  generalize hF : blk C id = F at hrep
  cases hrep with
  | row0 T F hF => simp at hu
  | row es b cap T sz1 cur P F hz hzt hbb hn hm hs hsz1 h1 hh hP hd hFF =>
    have hkl : k < es.length := (List.getElem?_eq_some_iff.1 hu).1
    have hszz : sz1 = sz := by
      rcases hrow.2 with ⟨e1, _⟩ | ⟨b2, cap2, cur2, e1, _, hb2, hn2, hm2, hs2, htk⟩
      · cases e1
      · cases e1
        rw [hbb] at hb2; cases hb2
        have h3 : cap * sz1 = cap * sz := by rw [← hs, hs2]
        exact Nat.eq_of_mul_eq_mul_left (by omega) h3
    subst hszz
    have hul : u.cells.length = sz1 := hsz1 u (List.mem_iff_getElem?.2 ⟨k, hu⟩)
    have hoff : off < sz1 := by rw [← hul]; exact (List.getElem?_eq_some_iff.1 hc).1
    have hfl := flat_get hsz1 hu hc
    have hmlt : k * sz1 + off < es.length * sz1 := by rw [← flatC_len hsz1]; exact (List.getElem?_eq_some_iff.1 hfl).1
    have hmc : k * sz1 + off < cur.size := by
      have := Nat.mul_le_mul_right sz1 hn
      omega
    have hmod : (k * sz1 + off) % sz1 = off := by rw [Nat.add_comm, Nat.add_mul_mod_self_right, Nat.mod_eq_of_lt hoff]
    have hkid := hh _ _ hfl
    rw [hmod] at hkid
    have hbF : ∀ k, F k ↔ blk C id k := fun k => by rw [hF]
    -- the blocks of the row within are taken off
    let m := k * sz1 + off
    let C1 : Cx TT := { I := C.I, loc := C.loc, ft := fun q => if q = id then fun k => F k ∧ ¬ P m k else C.ft q }
    have hf1 : C1.ft id = fun k => F k ∧ ¬ P m k := if_pos rfl
    have hf2 : ∀ q, q ≠ id → C1.ft q = C.ft q := fun q hq => if_neg hq
    have hb1 : ∀ k, blk C1 id k ↔ F k ∧ ¬ P m k := fun k => by
      unfold blk
      rw [hf1, show C1.loc id = C.loc id from rfl, hloc]
      constructor
      · rintro (h | h)
        · have e : b = k := Option.some.inj h
          subst e; exact ⟨(hFF b).2 (.inl rfl), hP m hmlt⟩
        · exact h
      · exact .inr
    have hb2 : ∀ q, q ≠ id → blk C1 q = blk C q := fun q hq => by funext k; simp only [blk, show C1.loc q = C.loc q from rfl, hf2 q hq]
    have hle1 : Le C C1 := ⟨fun _ _ _ h => h, fun _ _ h => h, fun _ g _ v h => ⟨g, v, h, Nat.le_refl _, fun _ => rfl⟩, fun _ _ h => h⟩
    have hw1 : WR C1 (upd id (.lost g sz1) hp) w := by
      refine h.updT id _ _ hle1 (fun _ _ => rfl) hf2 hloc h.inI (Nat.le_refl _) (fun _ _ _ _ => ⟨rfl, fun _ => rfl⟩) ⟨rfl, rfl, hsz⟩ trivial (fun q hq b' hb' hb'' => hq (h.sep q id b' hb' ((hbF b').1 ((hb1 b').1 hb'').1))) (fun b' hb' => h.lt id b' ((hbF b').1 ((hb1 b').1 hb').1)) (fun b' n hz' _ hn' => ⟨rfl, fun hb' => hn' id ((hbF b').1 ((hb1 b').1 hb').1)⟩)
    have hst1 : Stp C C1 w w := ⟨fun _ _ _ h => h, (Stp.refl C w).low, Fp.refl _ _ _ _, fun q b' hb' => by
      by_cases e : q = id
      · subst e; exact .inr ⟨q, (hbF b').1 ((hb1 b').1 hb').1⟩
      · rw [hb2 q e] at hb'; exact .inr ⟨q, hb'⟩⟩
    have hPF : ∀ k, P m k → F k := fun k hk => (hFF k).2 (.inr ⟨m, hmlt, hk⟩)
    obtain ⟨C2, n1, n2, n3, n4, n5, n6, n7⟩ := new_kid h hw1 hst1 rfl hkid hsz0 (fun k hk => ⟨fun q hq => by
      by_cases e : q = id
      · subst e; exact ((hb1 k).1 hq).2 hk
      · rw [hb2 q e] at hq; exact e (h.sep q id k hq ((hbF k).1 (hPF k hk))), fun q => hI0 k q ((hbF k).1 (hPF k hk)), id, (hbF k).1 (hPF k hk)⟩) j (by simp [upd, hne, hj]) h16
    have hloc2 : C2.loc id = some (.own g sz1 (.slice (some ⟨b, 0, none⟩) es.length cap)) := by rw [(n7 id (Ne.symm hne)).1]; exact hloc
    have hb3 : ∀ k, blk C2 id k ↔ F k ∧ ¬ P m k := fun k => by rw [(n7 id (Ne.symm hne)).2]; exact hb1 k
    refine ⟨C2, b, cap, cur.getD m undef, hloc, by simp [World.cell?, hbb, Array.getD, m, hmc], h1 _ hmlt, n1, hle1.trans n2, ?_, n4⟩
    have e0 : upd j (.tree (TT.ty e off) (szT TT.ty (TT.ty e off)) ks 0) (upd id (.hole e sz1 es g k off j) hp) = upd id (.hole e sz1 es g k off j) (upd j (.tree (TT.ty e off) (szT TT.ty (TT.ty e off)) ks 0) (upd id (.lost g sz1) hp)) := by
      funext q
      simp only [upd]
      by_cases e1 : q = j
      · subst e1; rw [if_pos rfl, if_neg hne, if_pos rfl]
      · rw [if_neg e1, if_neg e1]; split <;> rfl
    rw [e0]
    have hhole : RepH TT.ty w e sz1 es m (.slice (some ⟨b, 0, none⟩) es.length cap) (cur.getD m undef) (blk C2 id) := by
      refine ⟨b, cap, cur, fun i k => i ≠ m ∧ P i k, rfl, hbb, hn, hm, hs, hsz1, h1, ⟨hmlt, hz, hzt⟩, rfl, fun i c hi hc => ?_, fun i hi hp => hP i hi hp.2, fun i j k hi hj h1 h2 => hd i j k hi hj h1.2 h2.2, fun k hk => hk.1 rfl, fun k' => ?_⟩
      · have e : P i = fun k => i ≠ m ∧ P i k := funext fun k => propext ⟨fun h => ⟨hi, h⟩, fun h => h.2⟩
        have h9 := hh i c hc
        rw [e] at h9; exact h9
      · rw [hb3, hFF]
        constructor
        · rintro ⟨h | ⟨i, hi, hp⟩, hn⟩
          · exact .inl h
          · exact .inr ⟨i, hi, fun e => by subst e; exact hn hp, hp⟩
        · rintro (h | ⟨i, hi, hne', hp⟩)
          · subst h; exact ⟨.inl rfl, hP m hmlt⟩
          · exact ⟨.inr ⟨i, hi, hp⟩, fun hq => hne' (hd i m k' hi hmlt hp hq)⟩
    refine n3.updT id _ _ (Le.refl _) (fun _ _ => rfl) (fun _ _ => rfl) hloc2 n3.inI (Nat.le_refl _) (fun _ _ _ _ => ⟨rfl, fun _ => rfl⟩) ⟨rfl, rfl, hsz⟩ ⟨_, _, hloc2, hhole, fun k q hk => ?_, Ne.symm hne, 0, _, _, n1, fun _ => rfl⟩ (fun q hq b' hb' hb'' => hq (n3.sep q id b' hb' hb'')) (fun b' hb' => n3.lt id b' hb') (fun b' n hz' _ hn' => ⟨rfl, hn' id⟩)
    rw [n5]; exact hI0 k q ((hbF k).1 ((hb3 k).1 hk).1)
/-- What a row within a tree has become is put back. -/
theorem fill_tree {C : Cx TT} {hp : Hp} {w w' : World} (h : WR C hp w) (id : Nat) {e sz g k off j : Nat} {es ks : List VV} {u u' : VV} {x : Value} {sz2 gj : Nat} (hid : hp id = some (.hole e sz es g k off j)) (hj : hp j = some (.tree (TT.ty e off) sz2 ks gj)) (hu : es[k]? = some u) (hst : stE u off (.row ks) = some u')
    (hlocj : C.loc j = some (.own gj sz2 x)) {b cap : Nat} {cur cur' : Array Value} (hloc : C.loc id = some (.own g sz (.slice (some ⟨b, 0, none⟩) es.length cap))) (hbb : w.heap[b]? = some (.cells cur e (0, 0)))
    (hb' : w'.heap[b]? = some (.cells cur' e (0, 0))) (hs' : cur'.size = cur.size) (hget : ∀ i, cur'.getD i undef = if i = k * sz + off then x else cur.getD i undef) (hg : w.grownBy w' (some b)) :
    ∃ C2 : Cx TT, Le C C2 ∧ WR C2 (upd id (.tree e sz (es.set k u') g) (upd j (.tree (TT.ty e off) sz2 [] (gj + 1)) hp)) w' ∧ Stp C C2 w w' := by
  have ht := h.tr id
  rw [hid] at ht
  obtain ⟨v0, u00, hloc0, hhole, hI0, hne, _⟩ := ht
  rw [hloc] at hloc0; cases hloc0
  obtain ⟨b1, cap1, cur1, P, e1, hbb1, hn, hm, hs, hsz1, h1, ⟨hmlt, hz, hzt⟩, hmu, hh, hP, hd, hPm, hFF⟩ := hhole
  cases e1
  rw [hbb] at hbb1; cases hbb1
  obtain ⟨C1, v1, hl1, hrep, hfree, hI, hIj, hsub, hle, hwr, hst1, hsame, hlj1, hfj1⟩ := take_tree' h j _ sz2 gj ks hj
  rw [hlocj] at hl1; cases hl1
  obtain ⟨hput, hle2⟩ := stE_cells hst
  have hul : u.cells.length = sz := hsz1 u (List.mem_iff_getElem?.2 ⟨k, hu⟩)
  have hoff : off < sz := by
    have : (VV.row ks).cells.length = 1 := rfl
    omega
  have hkl : k < es.length := (List.getElem?_eq_some_iff.1 hu).1
  have hfl : flatC (es.set k u') = (flatC es).set (k * sz + off) (.row ks) := flat_set hsz1 hu hput hoff
  have hmod : (k * sz + off) % sz = off := by rw [Nat.add_comm, Nat.add_mul_mod_self_right, Nat.mod_eq_of_lt hoff]
  have hl0 : C1.loc id = some (.own g sz (.slice (some ⟨b, 0, none⟩) es.length cap)) := by rw [(hsame id hne).1]; exact hloc
  have hf0 : C1.ft id = C.ft id := (hsame id hne).2
  have hbid : blk C1 id = blk C id := by funext q; simp only [blk, hl0, hloc, hf0]
  have hbF : blk C id b := (hFF b).2 (.inl rfl)
  have hkeep : ∀ q, q < w.heap.size → q ≠ b → w'.heap[q]? = w.heap[q]? := fun q hq hn => hg.block q hq fun e => hn (Option.some.inj e)
  have hjb : ∀ q, blk C j q → q ≠ b := fun q hq e => by subst e; exact hne (h.sep id j q hbF hq)
  let C2 : Cx TT := { I := C.I, loc := C1.loc, ft := fun q => if q = id then fun k => C.ft id k ∨ blk C j k else C1.ft q }
  have hf1 : C2.ft id = fun k => C.ft id k ∨ blk C j k := if_pos rfl
  have hf2 : ∀ q, q ≠ id → C2.ft q = C1.ft q := fun q hq => if_neg hq
  have hb1 : ∀ q, blk C2 id q ↔ blk C id q ∨ blk C j q := fun q => by
    unfold blk
    rw [hf1, show C2.loc id = C1.loc id from rfl, hl0, hloc]
    constructor
    · rintro (h | h | h)
      · exact .inl (.inl h)
      · exact .inl (.inr h)
      · exact .inr h
    · rintro ((h | h) | h)
      · exact .inl h
      · exact .inr (.inl h)
      · exact .inr (.inr h)
  have hb2 : ∀ q, q ≠ id → blk C2 q = blk C1 q := fun q hq => by funext k; simp only [blk, show C2.loc q = C1.loc q from rfl, hf2 q hq]
  have hle12 : Le C1 C2 := ⟨fun b j v hv => by rw [hI] at hv; exact hv, fun _ _ h => h, fun _ g _ v h => ⟨g, v, h, Nat.le_refl _, fun _ => rfl⟩, fun _ _ h => h⟩
  have hrep' : RepT TT.ty w' e (.row (es.set k u')) (.slice (some ⟨b, 0, none⟩) es.length cap) (blk C2 id) := by
    have hlen : (es.set k u').length = es.length := by simp
    rw [← hlen]
    refine .row (es.set k u') b cap e sz cur' (fun i => if i = k * sz + off then blk C j else P i) _ hz hzt hb' (by rw [hlen]; exact hn) hm (by rw [hs', hs]) (fun x hx => ?_) (fun i hi => ?_) (fun i c hc => ?_) (fun i hi hp => ?_) (fun i q r hi hq h1 h2 => ?_) (fun q => ?_)
    · rcases List.mem_or_eq_of_mem_set hx with h | h
      · exact hsz1 x h
      · rw [h, hput, setAt_len _ _ _ (by have : (VV.row ks).cells.length = 1 := rfl; omega)]; exact hul
    · rw [hget]
      split
      · exact hrep.one
      · exact h1 i (by rw [← hlen]; exact hi)
    · rw [hfl] at hc
      rw [hget]
      by_cases e : i = k * sz + off
      · subst e
        rw [List.getElem?_set_self (by rw [flatC_len hsz1]; exact hmlt)] at hc
        cases hc
        rw [if_pos rfl, if_pos rfl, hmod]
        exact hrep.kept fun q hq => hkeep q (hrep.lt q hq) (hjb q hq)
      · rw [List.getElem?_set_ne (Ne.symm e)] at hc
        rw [if_neg e, if_neg e]
        have hi : i < es.length * sz := by rw [← flatC_len hsz1]; exact (List.getElem?_eq_some_iff.1 hc).1
        exact (hh i c e hc).kept fun q hq => hkeep q (h.lt id q ((hFF q).2 (.inr ⟨i, hi, hq⟩))) fun e2 => by subst e2; exact hP i hi hq
    · rw [hlen] at hi
      split at hp
      · exact hjb b hp rfl
      · exact hP i hi hp
    · rw [hlen] at hi hq
      have hx : ∀ i, i < es.length * sz → P i r → ¬ blk C j r := fun i hi hp hj => hne (h.sep id j r ((hFF r).2 (.inr ⟨i, hi, hp⟩)) hj)
      split at h1
      · split at h2
        · omega
        · exact absurd h1 (hx q hq h2)
      · split at h2
        · exact absurd h2 (hx i hi h1)
        · exact hd i q r hi hq h1 h2
    · rw [hb1, hFF, hlen]
      constructor
      · rintro ((h | ⟨i, hi, hp⟩) | h)
        · exact .inl h
        · exact .inr ⟨i, hi, by rw [if_neg fun e => by subst e; exact hPm _ hp]; exact hp⟩
        · exact .inr ⟨_, hmlt, by rw [if_pos rfl]; exact h⟩
      · rintro (h | ⟨i, hi, hp⟩)
        · exact .inl (.inl h)
        · split at hp
          · exact .inr hp
          · exact .inl (.inr ⟨i, hi, hp⟩)
  obtain ⟨xs, hrow'⟩ := hrep'.owns (by rw [← hzt]; exact hz)
  rw [← hzt] at hrow'
  refine ⟨C2, hle.trans hle12, ?_, ?_⟩
  · refine hwr.updT id _ _ hle12 (fun _ _ => rfl) hf2 hl0 (fun q i u hu => ?_) hg.size (fun q hq b' hbq => ⟨hkeep b' (hwr.lt q b' hbq) fun e => hq (h.sep q id b' (hsub q b' hbq) (by rw [e]; exact hbF)), fun i => by rw [hI]⟩) ⟨rfl, rfl, hz, xs, hrow'⟩ ⟨_, hl0, hrep', fun q i hq => ?_⟩ (fun q hq b' hb' hb'' => ?_) (fun b' hb' => hrep'.lt b' hb') (fun b' n hz' hlt hn' => ⟨hkeep b' hlt fun e => ?_, fun hb'' => ?_⟩)
    · have h2 := h.inI q i u hu
      rw [World.cell?_of_block (hkeep _ (block_lt_of_cell h2) fun e => by have e2 : q = b := e; subst e2; rw [hI0 q i hbF] at hu; cases hu)]; exact h2
    · rcases (hb1 q).1 hq with h2 | h2
      · exact hI0 q i h2
      · exact hIj q i h2
    · rcases (hb1 b').1 hb'' with h2 | h2
      · exact hq (h.sep q id b' (hsub q b' hb') h2)
      · exact hfree b' q h2 hb'
    · subst e
      exact hn' id (by rw [hbid]; exact hbF)
    · rcases (hb1 b').1 hb'' with h2 | h2
      · exact hn' id (by rw [hbid]; exact h2)
      · exact (h.inZ b' n hz').2 j h2
  · refine ⟨fun b j v hv => hv, fun q hq => hst1.low q hq, ⟨hg.os, hg.tape, hg.output, hg.size, fun q hq hs => hkeep q hq fun e => hs ⟨id, by rw [e]; exact hbF⟩, fun _ _ _ _ => rfl⟩, fun q b' hb' => ?_⟩
    by_cases e : q = id
    · subst e
      rcases (hb1 b').1 hb' with h2 | h2
      · exact .inr ⟨q, h2⟩
      · exact .inr ⟨j, h2⟩
    · rw [hb2 q e] at hb'; exact .inr ⟨q, hsub q b' hb'⟩
/-- The row within was written in its place alone. -/
theorem join_tree {C : Cx TT} {hp : Hp} {w : World} (h : WR C hp w) (id : Nat) {e sz g k off j : Nat} {es ks : List VV} {u u' : VV} {sz2 : Nat} (hid : hp id = some (.hole e sz es g k off j)) (hj : hp j = some (.tree (TT.ty e off) sz2 ks 0)) (hu : es[k]? = some u) (hst : stE u off (.row ks) = some u') :
    ∃ C2 : Cx TT, Le C C2 ∧ WR C2 (upd id (.tree e sz (es.set k u') g) (upd j (.tree (TT.ty e off) sz2 [] 1) hp)) w ∧ Stp C C2 w w := by
  have ht := h.tr id
  rw [hid] at ht
  obtain ⟨v0, u00, hloc0, hhole, hI0, hne, g', sz', v', hlj, hgen⟩ := ht
  obtain ⟨b, cap, cur, P, rfl, hbb, hn, hm, hs, hsz1, h1, ⟨hmlt, hz, hzt⟩, hmu, _⟩ := hhole
  have htj := h.tr j
  rw [hj] at htj
  obtain ⟨vj, hlj2, _⟩ := htj
  rw [hlj] at hlj2; cases hlj2
  have e1 := hgen rfl
  subst e1
  exact fill_tree h id hid hj hu hst hlj hloc0 hbb hbb rfl (fun i => by
    split
    · rename_i e; subst e; exact hmu
    · rfl) ⟨rfl, rfl, rfl, Nat.le_refl _, fun _ _ _ => rfl⟩
theorem ofS_tree (ty : Nat → Nat → Nat) (w : World) (T : Nat) {x : Value} {v : VV} (h : ofS x = some v) : RepT ty w T v x (fun _ => False) := by
  unfold ofS at h
  split at h <;> first | (cases h; constructor; exact fun _ h => h) | cases h
theorem flat_rep (z : VV) (n : Nat) : flatC (List.replicate n z) = (List.replicate n z.cells).flatten := by
  unfold flatC; rw [List.flatMap_def, List.map_replicate]
/-- A new row of elements without rows of their own: a tree. -/
theorem new_flat {C : Cx TT} {hp : Hp} {w w' : World} (h : WR C hp w) {es : List VV} {xs : List Value} {v : Value} (e : TypeId) (sz : Nat) (hsz0 : 0 < sz) (hzt : sz = szT TT.ty e) (id : Nat) (hid : hp id = none) (h16 : 16 ≤ id) (hsz : ∀ e ∈ es, e.cells.length = sz) (hone : ∀ u ∈ xs, u.oneCell' = true)
    (hrow : w'.ownsRow 0 e sz v es.length xs) (hg : w.grownBy w' none) (hv : ∀ b, v.ownBlock = some b → w.heap.size ≤ b) (q3 : ∀ (i : Nat) c u, (flatC es)[i]? = some c → xs[i]? = some u → ∀ T, RepT TT.ty w' T c u (fun _ => False)) :
    ∃ C2 : Cx TT, C2.loc id = some (.own 0 sz v) ∧ Le C C2 ∧ WR C2 (upd id (.tree e sz es 0) hp) w' ∧ Stp C C2 w w' := by
  have hno := h.no_ft id (by simp [hid])
  let C2 := C.set id (.own 0 sz v)
  have hle : Le C C2 := Cx.set_le _ (h.dom id hid)
  have hold : ∀ k, k < w.heap.size → w'.heap[k]? = w.heap[k]? := fun k hk => hg.block k hk (by simp)
  have hb1 : ∀ k, blk C2 id k ↔ v.ownBlock = some k := fun k => by
    unfold blk
    rw [show C2.loc id = _ from Cx.set_same _ _ _]
    exact ⟨fun h => h.elim (fun h => h) (fun h => absurd h (hno k)), .inl⟩
  have hrep : RepT TT.ty w' e (.row es) v (blk C2 id) := by
    rcases hrow.2 with ⟨rfl, hn⟩ | ⟨b, cap, cur, rfl, _, hbb, hn, hm, hs, htk⟩
    · have : es = [] := List.eq_nil_of_length_eq_zero hn
      subst this
      exact .row0 _ _ fun k hk => by have := (hb1 k).1 hk; cases this
    · have hget : ∀ i, i < es.length * sz → xs[i]? = some (cur.getD i undef) := fun i hi => by
        have : i < cur.size := by
          have := Nat.mul_le_mul_right sz hn
          omega
        rw [← htk, List.getElem?_take, if_pos hi]
        simp [Array.getD, this]
      refine .row es b cap e sz cur (fun _ _ => False) _ hsz0 hzt hbb hn hm hs hsz (fun i hi => hone _ (List.mem_iff_getElem?.2 ⟨i, hget i hi⟩)) (fun i c hc => ?_) (fun _ _ h => h) (fun _ _ _ _ _ h => h.elim) (fun k => ?_)
      · have hi : i < es.length * sz := by rw [← flatC_len hsz]; exact (List.getElem?_eq_some_iff.1 hc).1
        exact q3 i c _ hc (hget i hi) _
      · rw [hb1]
        constructor
        · intro h; exact .inl (Option.some.inj h).symm
        · rintro (h | ⟨_, _, h⟩)
          · subst h; rfl
          · exact h.elim
  refine ⟨C2, Cx.set_same _ _ _, hle, ?_, ?_⟩
  · refine h.updT id _ _ hle (fun j hj => Cx.set_ne _ _ _ _ hj) (fun _ _ => rfl) (Cx.set_same _ _ _) (fun b j u hu => ?_) hg.size (fun j _ b hb => ⟨hold b (h.lt j b hb), fun _ => rfl⟩) ⟨rfl, rfl, hsz0, xs, hrow⟩ ⟨v, Cx.set_same _ _ _, hrep, fun k j hk => h.fresh _ _ (hv k ((hb1 k).1 hk))⟩ (fun j hj b hb hb' => ?_) (fun b hb => hrep.lt b hb) (fun b n hz hb hn => ⟨hold b hb, fun hb' => ?_⟩)
    · have h2 := h.inI b j u hu
      rw [World.cell?_of_block (hold _ (block_lt_of_cell h2))]; exact h2
    · have := h.lt j b hb; have := hv b ((hb1 b).1 hb'); omega
    · have := hv b ((hb1 b).1 hb'); omega
  · exact Stp.of hle id hno (fun j hj => Cx.set_ne _ _ _ _ hj) (.inl h16) _ (Cx.set_same _ _ _) hg.os hg.tape hg.output hg.size (fun k hk _ => ⟨hold k hk, fun _ => rfl⟩) fun b hb => .inl (hv b hb)
theorem flat_put {sz : Nat} : ∀ {es : List VV}, (∀ e ∈ es, e.cells.length = sz) → ∀ {k : Nat} {u : VV} {vs : List VV}, es[k]? = some u → vs.length = sz → (flatC (es.set k (.agg vs))).length = (flatC es).length ∧ ∀ i, (flatC (es.set k (.agg vs)))[i]? = if k * sz ≤ i ∧ i < k * sz + sz then vs[i - k * sz]? else (flatC es)[i]?
  | [], _, k, u, vs, h, _ => by simp at h
  | a :: es, hs, 0, u, vs, h, hv => by
    have h0 := hs a (by simp)
    have hv2 : (VV.agg vs).cells.length = sz := hv
    unfold flatC
    rw [List.set_cons_zero, List.flatMap_cons, List.flatMap_cons]
    refine ⟨by rw [List.length_append, List.length_append, hv2, h0], fun i => ?_⟩
    rw [Nat.zero_mul, Nat.zero_add, Nat.sub_zero]
    by_cases hi : i < sz
    · rw [if_pos ⟨Nat.zero_le _, hi⟩, List.getElem?_append_left (by omega)]; rfl
    · rw [if_neg fun e => hi e.2, List.getElem?_append_right (by omega), List.getElem?_append_right (by omega), hv2, h0]
  | a :: es, hs, k + 1, u, vs, h, hv => by
    simp at h
    have h0 := hs a (by simp)
    obtain ⟨ih1, ih2⟩ := flat_put (es := es) (fun e he => hs e (by simp [he])) h hv
    unfold flatC at ih1 ih2 ⊢
    rw [List.set_cons_succ, List.flatMap_cons, List.flatMap_cons]
    refine ⟨by simp only [List.length_append, ih1], fun i => ?_⟩
    have hk : (k + 1) * sz = k * sz + sz := by rw [Nat.add_mul, Nat.one_mul]
    by_cases hi : i < sz
    · rw [List.getElem?_append_left (by omega), if_neg (by omega), List.getElem?_append_left (by omega)]
    · rw [List.getElem?_append_right (by omega), ih2, h0, List.getElem?_append_right (by omega), h0]
      by_cases hc : k * sz ≤ i - sz ∧ i - sz < k * sz + sz
      · rw [if_pos hc, if_pos (by omega), hk]; congr 1; omega
      · rw [if_neg hc, if_neg (by omega)]
/-- A whole element of a tree is written. -/
theorem put_tree {C0 C : Cx TT} {hp0 hp : Hp} {w w' : World} (h0 : WR C0 hp0 w) (h : WR C hp w) (hst : Stp C0 C w w) (q6 : C.I = C0.I) (q7 : ∀ j b, blk C j b → blk C0 j b) (id : Nat) {e sz g k : Nat} {es vs : List VV} {u : VV} {xs2 : List Value} {P : Nat → Nat → Prop} (hid : hp id = some (.tree e sz es g)) (hu : es[k]? = some u) (hvl : vs.length = sz) (hxl : xs2.length = sz)
    {b cap : Nat} {cur cur' : Array Value} {P1 : Nat → Nat → Prop} (hloc : C.loc id = some (.own g sz (.slice (some ⟨b, 0, none⟩) es.length cap))) (hz : 0 < sz) (hzt : sz = szT TT.ty e) (hn : es.length ≤ cap) (hm : cap ≤ maxLen) (hcs : cur.size = cap * sz) (hbb : w.heap[b]? = some (.cells cur e (0, 0))) (hsz1 : ∀ e ∈ es, e.cells.length = sz) (hone1 : ∀ i, i < es.length * sz → (cur.getD i undef).oneCell' = true)
    (hh : ∀ (i : Nat) c, (flatC es)[i]? = some c → RepT TT.ty w (TT.ty e (i % sz)) c (cur.getD i undef) (P1 i)) (hPF : ∀ i k, i < es.length * sz → P1 i k → blk C id k ∧ k ≠ b) (hd : ∀ i j k, i < es.length * sz → j < es.length * sz → P1 i k → P1 j k → i = j) (hI0 : ∀ k j, blk C id k → C.I k j = none)
    (h1 : ∀ u ∈ xs2, u.oneCell' = true) (q3 : ∀ (i : Nat) c u, vs[i]? = some c → xs2[i]? = some u → RepT TT.ty w (TT.ty e i) c u (P i)) (q4 : ∀ i k, P i k → i < xs2.length ∧ k < w.heap.size ∧ (∀ j, ¬ blk C j k) ∧ (∀ j, C.I k j = none) ∧ ∃ j, blk C0 j k) (q5 : ∀ i j k, P i k → P j k → i = j)
    (hb' : w'.heap[b]? = some (.cells cur' e (0, 0))) (hs' : cur'.size = cur.size) (hget : ∀ i, cur'.getD i undef = if k * sz ≤ i ∧ i < k * sz + sz then (xs2[i - k * sz]?).getD undef else cur.getD i undef) (hg : w.grownBy w' (some b)) :
    ∃ C2 : Cx TT, Le C C2 ∧ WR C2 (upd id (.tree e sz (es.set k (.agg vs)) g) hp) w' ∧ Stp C0 C2 w w' := by
  have hkl : k < es.length := (List.getElem?_eq_some_iff.1 hu).1
  have hksz : k * sz + sz ≤ es.length * sz := by have := Nat.mul_le_mul_right sz (show k + 1 ≤ es.length from hkl); rwa [Nat.add_mul, Nat.one_mul] at this
  obtain ⟨hfl1, hfl2⟩ := flat_put hsz1 hu hvl
  have hbF : blk C id b := .inl (by rw [hloc]; rfl)
  have hkeep : ∀ q, q < w.heap.size → q ≠ b → w'.heap[q]? = w.heap[q]? := fun q hq hn => hg.block q hq fun e => hn (Option.some.inj e)
  let P' : Nat → Nat → Prop := fun i q => if k * sz ≤ i ∧ i < k * sz + sz then P (i - k * sz) q else P1 i q
  have hPa : ∀ i, (k * sz ≤ i ∧ i < k * sz + sz) → P' i = P (i - k * sz) := fun i hi => by funext q; show (if _ then _ else _) = _; rw [if_pos hi]
  have hPb : ∀ i, ¬ (k * sz ≤ i ∧ i < k * sz + sz) → P' i = P1 i := fun i hi => by funext q; show (if _ then _ else _) = _; rw [if_neg hi]
  let F' : Nat → Prop := fun q => q = b ∨ ∃ i, i < es.length * sz ∧ P' i q
  have hF' : ∀ q, F' q → blk C id q ∨ ((∀ j, ¬ blk C j q) ∧ (∀ j, C.I q j = none) ∧ ∃ j, blk C0 j q) := fun q hq => by
    rcases hq with rfl | ⟨i, hi, hp⟩
    · exact .inl hbF
    · by_cases hc : k * sz ≤ i ∧ i < k * sz + sz
      · rw [hPa i hc] at hp; exact .inr (q4 _ q hp).2.2
      · rw [hPb i hc] at hp; exact .inl (hPF i q hi hp).1
  let C2 : Cx TT := { I := C.I, loc := C.loc, ft := fun j => if j = id then F' else C.ft j }
  have hf1 : C2.ft id = F' := if_pos rfl
  have hf2 : ∀ j, j ≠ id → C2.ft j = C.ft j := fun j hj => if_neg hj
  have hb1 : ∀ q, blk C2 id q ↔ F' q := fun q => by
    unfold blk
    rw [hf1, show C2.loc id = C.loc id from rfl, hloc]
    exact ⟨fun h => h.elim (fun h => .inl (Option.some.inj h).symm) (fun h => h), .inr⟩
  have hb2 : ∀ j, j ≠ id → blk C2 j = blk C j := fun j hj => by funext q; simp only [blk, show C2.loc j = C.loc j from rfl, hf2 j hj]
  have hle : Le C C2 := ⟨fun _ _ _ h => h, fun _ _ h => h, fun _ g _ v h => ⟨g, v, h, Nat.le_refl _, fun _ => rfl⟩, fun _ _ h => h⟩
  have hlen : (es.set k (.agg vs)).length = es.length := by simp
  have hrep' : RepT TT.ty w' e (.row (es.set k (.agg vs))) (.slice (some ⟨b, 0, none⟩) es.length cap) (blk C2 id) := by
    rw [← hlen]
    refine .row (es.set k (.agg vs)) b cap e sz cur' P' _ hz hzt hb' (by rw [hlen]; exact hn) hm (by rw [hs', hcs]) (fun x hx => ?_) (fun i hi => ?_) (fun i c hc => ?_) (fun i hi hp => ?_) (fun i j q hi hj h1 h2 => ?_) (fun q => by rw [hb1, hlen])
    · rcases List.mem_or_eq_of_mem_set hx with h | h
      · exact hsz1 x h
      · rw [h]; exact hvl
    · rw [hlen] at hi
      rw [hget]
      by_cases hc : k * sz ≤ i ∧ i < k * sz + sz
      · rw [if_pos hc]
        have hj : i - k * sz < xs2.length := by omega
        rw [List.getElem?_eq_getElem hj]
        exact h1 _ (List.getElem_mem hj)
      · rw [if_neg hc]; exact hone1 i hi
    · rw [hfl2] at hc
      rw [hget]
      by_cases hcc : k * sz ≤ i ∧ i < k * sz + sz
      · rw [if_pos hcc] at hc ⊢
        have hj : i - k * sz < xs2.length := by omega
        rw [List.getElem?_eq_getElem hj, hPa i hcc]
        have hmod : i % sz = i - k * sz := by
          rw [show i = (i - k * sz) + k * sz by omega, Nat.add_mul_mod_self_right, Nat.mod_eq_of_lt (by omega)]; omega
        rw [hmod]
        exact (q3 _ c _ hc (List.getElem?_eq_getElem hj)).kept fun q hq => hkeep q (q4 _ q hq).2.1 fun e2 => by subst e2; exact (q4 _ _ hq).2.2.1 id hbF
      · rw [if_neg hcc] at hc ⊢
        rw [hPb i hcc]
        have hi : i < es.length * sz := by rw [← flatC_len hsz1]; exact (List.getElem?_eq_some_iff.1 hc).1
        exact (hh i c hc).kept fun q hq => hkeep q (h.lt id q (hPF i q hi hq).1) (hPF i q hi hq).2
    · rw [hlen] at hi
      by_cases hc : k * sz ≤ i ∧ i < k * sz + sz
      · rw [hPa i hc] at hp; exact (q4 _ _ hp).2.2.1 id hbF
      · rw [hPb i hc] at hp; exact (hPF i b hi hp).2 rfl
    · rw [hlen] at hi hj
      by_cases hc : k * sz ≤ i ∧ i < k * sz + sz
      · rw [hPa i hc] at h1
        by_cases hc2 : k * sz ≤ j ∧ j < k * sz + sz
        · rw [hPa j hc2] at h2; have := q5 _ _ q h1 h2; omega
        · rw [hPb j hc2] at h2; exact absurd (hPF j q hj h2).1 ((q4 _ q h1).2.2.1 id)
      · rw [hPb i hc] at h1
        by_cases hc2 : k * sz ≤ j ∧ j < k * sz + sz
        · rw [hPa j hc2] at h2; exact absurd (hPF i q hi h1).1 ((q4 _ q h2).2.2.1 id)
        · rw [hPb j hc2] at h2; exact hd i j q hi hj h1 h2
  obtain ⟨xs, hrow'⟩ := hrep'.owns (by rw [← hzt]; exact hz)
  rw [← hzt] at hrow'
  refine ⟨C2, hle, ?_, ?_⟩
  · refine h.updT id _ _ hle (fun _ _ => rfl) hf2 hloc (fun q i u hu => ?_) hg.size (fun j hj b' hbj => ⟨hkeep b' (h.lt j b' hbj) fun e => hj (h.sep j id b' hbj (by rw [e]; exact hbF)), fun _ => rfl⟩) ⟨rfl, rfl, hz, xs, hrow'⟩ ⟨_, hloc, hrep', fun q i hq => ?_⟩ (fun j hj b' hbj hb'' => ?_) (fun b' hb'' => hrep'.lt b' hb'') (fun b' n hz' hlt hn' => ⟨hkeep b' hlt fun e => hn' id (by rw [e]; exact hbF), fun hb'' => ?_⟩)
    · have h2 := h.inI q i u hu
      rw [World.cell?_of_block (hkeep _ (block_lt_of_cell h2) fun e => by have e2 : q = b := e; subst e2; rw [hI0 q i hbF] at hu; cases hu)]; exact h2
    · rcases hF' q ((hb1 q).1 hq) with h2 | h2
      · exact hI0 q i h2
      · exact h2.2.1 i
    · rcases hF' b' ((hb1 b').1 hb'') with h2 | h2
      · exact hj (h.sep j id b' hbj h2)
      · exact h2.1 j hbj
    · rcases hF' b' ((hb1 b').1 hb'') with h2 | h2
      · exact hn' id h2
      · obtain ⟨j, hj⟩ := h2.2.2
        exact (h0.inZ b' n hz').2 j hj
  · refine ⟨fun b j v hv => by show C.I b j = some v; rw [q6]; exact hv, fun j hj => hst.low j hj, ⟨hg.os, hg.tape, hg.output, hg.size, fun q hq hs => hkeep q hq fun e => hs ⟨id, by rw [e]; exact q7 id b hbF⟩, fun q j _ _ => by show C.I q j = C0.I q j; rw [q6]⟩, fun j b' hb'' => ?_⟩
    by_cases e : j = id
    · subst e
      rcases hF' b' ((hb1 b').1 hb'') with h2 | h2
      · exact .inr ⟨j, q7 j b' h2⟩
      · exact .inr h2.2.2
    · rw [hb2 j e] at hb''; exact .inr ⟨j, q7 j b' hb''⟩
end Go.Proofs.YtccldchklemogaaW.AM
