/- The abstract machine: code, and calls of any depth. -/
import Derived.Test.YteegedceandnkaaAm12
set_option linter.unusedSectionVars false
set_option linter.unusedVariables false
set_option linter.unusedSimpArgs false
namespace Go.Proofs.YteegedceandnkaaW.AM
open Go Go.RowKit

/-! ### what a loop forgets -/
def Cx.keep (C : Cx) (L : List Nat) : Cx := { C with loc := fun id => if id ∈ L then C.loc id else none }
theorem any_beq {L : List Nat} {id : Nat} : L.any (Nat.beq id) = true ↔ id ∈ L := by
  rw [List.any_eq_true]
  exact ⟨fun ⟨x, hx, hb⟩ => by rw [Nat.eq_of_beq_eq_true hb]; exact hx, fun h => ⟨id, h, Nat.beq_refl id⟩⟩
theorem keep_loc {C : Cx} {L : List Nat} {id : Nat} (h : id ∈ L) : (C.keep L).loc id = C.loc id := by simp [Cx.keep, h]
theorem clean_rep {C : Cx} {L : List Nat} {a : A0} {x : Value} (h : RepA C a x) : RepA (C.keep L) (a.clean L) x := by
  unfold A0.clean
  cases hw : a.within L with
  | false => trivial
  | true =>
    simp only [cond_true]
    cases a with
    | val v => exact h
    | ptr id off => obtain ⟨b, hb, hx⟩ := h; exact ⟨b, by rw [keep_loc (any_beq.1 hw)]; exact hb, hx⟩
    | nilp => exact h
    | ref id g => obtain ⟨h0, g', sz, v, hb, hx⟩ := h; exact ⟨h0, g', sz, v, by rw [keep_loc (any_beq.1 hw)]; exact hb, hx⟩
    | ep id g i off => obtain ⟨h0, g', sz, v, hb, hx⟩ := h; exact ⟨h0, g', sz, v, by rw [keep_loc (any_beq.1 hw)]; exact hb, hx⟩
    | vp e off => exact h
    | fn f caps =>
      obtain ⟨vs, hx, hfa⟩ := h
      refine ⟨vs, hx, fa_of (fa_len hfa) fun i id v hid hv => ?_⟩
      obtain ⟨v', hv', b, hb, he⟩ := fa_get hfa hid
      rw [hv] at hv'; cases hv'
      have := List.all_eq_true.1 hw id (List.mem_iff_getElem?.2 ⟨i, hid⟩)
      exact ⟨b, by rw [keep_loc (any_beq.1 this)]; exact hb, he⟩
    | nilrow => exact h
    | dead => trivial
theorem fa_map_same {α β γ : Type} {R : α → β → Prop} {S : γ → β → Prop} {f : α → γ} (hf : ∀ a b, R a b → S (f a) b) {l : List α} {m : List β} (h : FA R l m) : FA S (l.map f) m := fa_map_l (fa_imp hf h)
theorem cleanV_rep {C : Cx} {L : List Nat} {a : AV} {x : Value} (h : RepAV C a x) : RepAV (C.keep L) (a.clean L) x := by
  cases a with
  | one a => exact clean_rep h
  | tup as => obtain ⟨vs, hx, hf⟩ := h; exact ⟨vs, hx, fa_map_same (fun _ _ h => clean_rep h) hf⟩
theorem cleanH_get {L : List Nat} {hp : Hp} : ∀ (ids : List Nat) (id : Nat), cleanH L hp ids id = if id ∈ ids then (hp id).map (·.clean L) else none
  | [], id => by simp [cleanH]
  | a :: ids, id => by
    cases ho : hp a with
    | some o =>
      have e0 : cleanH L hp (a :: ids) = upd a (o.clean L) (cleanH L hp ids) := by simp [cleanH, ho]
      rw [e0]
      simp only [upd]
      by_cases e : id = a
      · subst e; rw [if_pos rfl, if_pos (by simp), ho]; rfl
      · rw [if_neg e, cleanH_get ids id]; simp [e]
    | none =>
      have e0 : cleanH L hp (a :: ids) = cleanH L hp ids := by simp [cleanH, ho]
      rw [e0, cleanH_get ids id]
      by_cases e : id = a
      · subst e; rw [ho]; simp
      · simp [e]
theorem keep_wr {C : Cx} {hp : Hp} {w : World} (h : WR C hp w) (L : List Nat) : WR (C.keep L) (cleanH L hp L) w := by
  have hblk : ∀ id b, blk (C.keep L) id = some b → blk C id = some b := fun id b hb => by
    by_cases hm : id ∈ L
    · unfold blk at hb ⊢; rwa [keep_loc hm] at hb
    · simp [blk, Cx.keep, hm] at hb
  refine ⟨h.inI, fun id hid => ?_, fun id o hid => ?_, fun id id' b h1 h2 => h.sep id id' b (hblk _ _ h1) (hblk _ _ h2), fun id b h1 => h.lt id b (hblk _ _ h1)⟩
  · rw [cleanH_get] at hid
    by_cases hm : id ∈ L
    · rw [if_pos hm] at hid
      rw [keep_loc hm]; exact h.dom id (by simpa using hid)
    · simp [Cx.keep, hm]
  · rw [cleanH_get] at hid
    by_cases hm : id ∈ L
    · rw [if_pos hm] at hid
      obtain ⟨o', ho', rfl⟩ := Option.map_eq_some_iff.1 hid
      obtain ⟨l, hl, hob⟩ := h.ob id o' ho'
      refine ⟨l, by rw [keep_loc hm]; exact hl, ?_⟩
      cases o' <;> cases l <;> try exact hob.elim
      · obtain ⟨T, vs, h1, h2, h3, h4⟩ := hob
        exact ⟨T, vs, h1, fa_map_same (fun _ _ h => clean_rep h) h2, h3, h4⟩
      · exact hob
    · rw [if_neg hm] at hid; cases hid
theorem keep_stp {C : Cx} {w : World} (L : List Nat) : Stp C (C.keep L) w w := by
  have hblk : ∀ id b, blk (C.keep L) id = some b → blk C id = some b := fun id b hb => by
    by_cases hm : id ∈ L
    · unfold blk at hb ⊢; rwa [keep_loc hm] at hb
    · simp [blk, Cx.keep, hm] at hb
  refine ⟨fun _ _ _ h => h, fun id hid => ?_, Fp.refl _ _ _ _, fun id b h => .inr ⟨id, hblk _ _ h⟩⟩
  by_cases hm : id ∈ L
  · rw [keep_loc hm]; exact (Stp.refl C w).low id hid
  · left; simp [Cx.keep, hm]
theorem keep_st {nt C fr hp a w} (h : St nt C fr hp a w) (L : List Nat) : St nt (C.keep L) (cleanF L fr) (cleanH L hp L) a w :=
  ⟨h.defers, h.size, fun t => cleanV_rep (h.slots t), keep_wr h.wr L⟩

def X.exit : X → Exit
  | .nrm => .normal
  | .ext id => .exit id
  | .ret => .ret

section
variable {G : Env} {cf : CF}

theorem seq_open {fid : FuncId} {x y : Code} {fr : Fr} {hp : Hp} {K : KX} (h : exec G cf fid (.seq x y) fr hp K) :
    (exec G cf fid x fr hp fun z fr hp => match z with
      | .nrm => exec G cf fid y fr hp K
      | z => K z fr hp) ∨ ∃ L : List Nat, ∃ Mid : Fr → Hp → Prop, (exec G cf fid x fr hp fun z fr hp => match z with
        | .nrm => Mid (cleanF L fr) (cleanH L hp L)
        | z => K z fr hp) ∧ ∀ fr hp, Mid fr hp → exec G cf fid y fr hp K := by
  rw [exec_seq] at h
  simp only [seqP] at h
  split at h
  · exact .inl h
  · split at h
    · exact .inl h
    · exact .inr h.out
theorem exec_wp (hG : G.Ok) (hcf : CFS G cf) {nt : Nat} {fid : FuncId} : ∀ (c : Code), codeOK nt c = true → ∀ {C : Cx} {fr : Fr} {hp : Hp} {a : Act} {w : World} {K : KX}, St nt C fr hp a w → exec G cf fid c fr hp K →
    ∀ {Q : Exit → Act → World → Prop}, (∀ x C' fr' hp' a' w', K x fr' hp' → St nt C' fr' hp' a' w' → Stp C C' w w' → Q x.exit a' w') → c.wp G.P Q a w := by
  intro c
  induction c with
  | skip => intro _ C fr hp a w K st h Q hQ; exact wp_skip (hQ .nrm C fr hp a w h st (Stp.refl _ _))
  | region rid ops d =>
    intro hok C fr hp a w K st h Q hQ
    cases d with
    | true => exact draw_wp hG hcf hok h.1 st h.2 fun C' fr' hp' a' w' k1 k2 k3 => hQ .nrm C' fr' hp' a' w' k1 k2 k3
    | false => exact region_wp hG hcf hok st h fun C' fr' hp' a' w' k1 k2 k3 => hQ .nrm C' fr' hp' a' w' k1 k2 k3
  | seq x y ihx ihy =>
    intro hok C fr hp a w K st h Q hQ
    simp only [codeOK, Bool.and_eq_true] at hok
    rcases seq_open h with h | ⟨L, Mid, h, hm⟩
    · refine wp_seq (ihx hok.1 st h fun z C' fr' hp' a' w' k1 k2 k3 => ?_)
      cases z with
      | nrm => exact ihy hok.2 k2 k1 fun z2 C2 fr2 hp2 a2 w2 q1 q2 q3 => hQ z2 C2 fr2 hp2 a2 w2 q1 q2 (k3.trans q3)
      | ext id => exact hQ (.ext id) C' fr' hp' a' w' k1 k2 k3
      | ret => exact hQ .ret C' fr' hp' a' w' k1 k2 k3
    · refine wp_seq (ihx hok.1 st h fun z C' fr' hp' a' w' k1 k2 k3 => ?_)
      cases z with
      | nrm => exact ihy hok.2 (keep_st k2 L) (hm _ _ k1) fun z2 C2 fr2 hp2 a2 w2 q1 q2 q3 => hQ z2 C2 fr2 hp2 a2 w2 q1 q2 ((k3.trans (keep_stp L)).trans q3)
      | ext id => exact hQ (.ext id) C' fr' hp' a' w' k1 k2 k3
      | ret => exact hQ .ret C' fr' hp' a' w' k1 k2 k3
  | cond cnd x y ihx ihy =>
    intro hok C fr hp a w K st h Q hQ
    simp only [codeOK, Bool.and_eq_true] at hok
    rw [exec_cond] at h
    split at h
    · rename_i b hb
      have hr := st.ev cnd
      rw [hb] at hr
      have hr' : RepV C.I (.bool b) (a.eval cnd) := hr
      have hev : a.eval cnd = .bool b := by generalize a.eval cnd = z at hr'; cases hr'; rfl
      rcases h with ⟨rfl, h⟩ | ⟨rfl, h⟩
      · exact wp_cond_true hev (ihx hok.1 st h hQ)
      · exact wp_cond_false hev (ihy hok.2 st h hQ)
    · exact h.elim
  | block id x ih =>
    intro hok C fr hp a w K st h Q hQ
    refine wp_block (ih hok st h fun z C' fr' hp' a' w' k1 k2 k3 => ?_)
    cases z with
    | nrm => exact hQ .nrm C' fr' hp' a' w' k1 k2 k3
    | ext j =>
      simp only [X.exit, Exit.inBlock]
      simp only at k1
      by_cases e : j = id
      · subst e
        rw [if_pos rfl]
        rw [Nat.beq_refl j] at k1
        exact hQ .nrm C' fr' hp' a' w' k1 k2 k3
      · rw [if_neg e]
        have hb : Nat.beq j id = false := by
          cases hh : Nat.beq j id with
          | false => rfl
          | true => exact absurd (Nat.eq_of_beq_eq_true hh) e
        rw [hb] at k1
        exact hQ (.ext j) C' fr' hp' a' w' k1 k2 k3
    | ret => exact hQ .ret C' fr' hp' a' w' k1 k2 k3
  | loop x ih =>
    intro hok C fr hp a w K st h Q hQ
    obtain ⟨L, h⟩ := h
    intro b k cs
    have key := h (fun fr' hp' => ∀ (C' : Cx) (a' : Act) (w' : World), St nt C' fr' hp' a' w' → Stp C C' w w' → ∃ e a2 w2, Q e a2 w2 ∧ Arrives G.P (lone (b.at a' (.code x :: .inLoop x :: k)) cs w') b k cs e a2 w2) (fun fr' hp' hb0 C' a' w' st' hs => by
      obtain ⟨K', hK', hb⟩ := hb0
      have hx := ih hok st' hb (Q := fun e a2 w2 => match e with
        | .normal => ∃ e2 a3 w3, Q e2 a3 w3 ∧ Arrives G.P (lone (b.at a2 (.code x :: .inLoop x :: k)) cs w2) b k cs e2 a3 w3
        | e => Q e a2 w2) (fun z C2 fr2 hp2 a2 w2 k1 k2 k3 => by
          replace k1 := hK' _ _ _ k1
          cases z with
          | nrm => exact k1 _ _ _ (keep_st k2 L) (hs.trans (k3.trans (keep_stp L)))
          | ext id => exact hQ (.ext id) C2 fr2 hp2 a2 w2 k1 k2 (hs.trans k3)
          | ret => exact hQ .ret C2 fr2 hp2 a2 w2 k1 k2 (hs.trans k3))
      obtain ⟨e, a₁, w₁, hq, harr⟩ := hx b (.inLoop x :: k) cs
      cases e with
      | normal =>
        obtain ⟨e₂, a₂, w₂, hq₂, harr₂⟩ := hq
        exact ⟨e₂, a₂, w₂, hq₂, .of_steps (Steps.trans harr (.one step_inLoop)) harr₂⟩
      | exit id => exact ⟨_, a₁, w₁, hq, .pass (x := .inLoop x) rfl (fun _ _ => .inl (by simp)) harr⟩
      | goto l => exact ⟨_, a₁, w₁, hq, .pass (x := .inLoop x) rfl (fun _ _ => .inl (by simp)) harr⟩
      | ret => exact ⟨_, a₁, w₁, hq, .pass (x := .inLoop x) rfl (fun _ _ => .inl (by simp)) harr⟩
      | panic ch => exact ⟨_, a₁, w₁, hq, .pass (x := .inLoop x) rfl (fun _ _ => .inl (by simp)) harr⟩
      | outgrown => exact ⟨_, a₁, w₁, hq, .pass (x := .inLoop x) rfl (fun _ _ => .inl (by simp)) harr⟩)
    obtain ⟨e, a2, w2, hq, harr⟩ := key _ _ _ (keep_st st L) (keep_stp L)
    exact ⟨e, a2, w2, hq, .of_steps (.one step_loop) harr⟩
  | exit id => intro _ C fr hp a w K st h Q hQ; exact wp_exit (hQ (.ext id) C fr hp a w h st (Stp.refl _ _))
  | ret => intro _ C fr hp a w K st h Q hQ; exact wp_ret (hQ .ret C fr hp a w h st (Stp.refl _ _))
  | rangeFunc f ps x y => intro _ C fr hp a w K st h; exact h.elim
  | scope x => intro _ C fr hp a w K st h; exact h.elim
  | label l => intro _ C fr hp a w K st h; exact h.elim
  | goto l => intro _ C fr hp a w K st h; exact h.elim
  | refuse s => intro _ C fr hp a w K st h; exact h.elim

/-! ### the end of a call -/
def resS (a : Act) : ResultVar → Sem Value
  | .tmp t => pure (a.tmps.getD t undef)
  | .cell t ty => do loadVar ty (← asAddr (a.tmps.getD t undef))
theorem run_results (hG : G.Ok) {w : World} {C : Cx} {hp : Hp} {nt : Nat} {fr : Fr} {a : Act} (st : St nt C fr hp a w) : ∀ {rs : List ResultVar} {l : List A0}, mapO (resA G fr hp) rs = some l →
    ∃ vs : List Value, (rs.mapM (resS a)).run G.P w = .ok vs w ∧ FA (RepA C) l vs
  | [], l, h => by simp [mapO] at h; subst h; exact ⟨[], by simp, .nil⟩
  | r :: rs, l, h => by
    simp only [mapO] at h
    split at h
    · rename_i b bs h1 h2
      cases h
      obtain ⟨vs, hr, hf⟩ := run_results hG st h2
      have key : ∃ v, (resS a r).run G.P w = .ok v w ∧ RepA C b v := by
        cases r with
        | tmp t =>
          simp only [resA] at h1
          split at h1
          · rename_i a0 ha
            cases h1
            have := st.slots t
            rw [ha] at this
            exact ⟨_, by simp [resS], this⟩
          · cases h1
        | cell t ty =>
          simp only [resA] at h1
          split at h1
          · rename_i ti id off hti ht
            split at h1
            · rename_i cs hcs
              have hsl := st.slots t
              rw [ht] at hsl
              obtain ⟨bb, hb, hx⟩ := hsl
              obtain ⟨i, d, z, hs⟩ := ti_spec (hG.ti _ _ hti)
              obtain ⟨lo, hlo, hob⟩ := st.wr.ob id _ hcs
              rw [hb] at hlo; cases hlo
              obtain ⟨T, us, hbb, hrr, hone, _⟩ := hob
              have hp1 := partA_rep h1 hrr hone
              obtain ⟨u, hu1, hu2⟩ := run_part (w := w) hs bb 0 off us (fun j u hu => by simp [World.cell?, hbb, hu]) hp1
              rw [Nat.zero_add] at hu1
              exact ⟨u, by simp [resS, hx, asAddr, hu1], hu2⟩
            · cases h1
          · cases h1
      obtain ⟨v, hv, hrep⟩ := key
      refine ⟨v :: vs, ?_, .cons hrep hf⟩
      rw [List.mapM_cons]
      simp only [Sem.run_bind]
      rw [hv]
      simp only [Result.andThen_ok, hr, Sem.run_pure]
    · cases h

theorem rv_vals {m : Nat} : ∀ {l : List A0} {rs : List RV} {C : Cx} {hp : Hp} {vs : List Value} {own : Bool}, rvP own m hp l rs → (∀ id g, l ≠ [.ref id g]) → FA (RepA C) l vs →
    ∃ ls, backs 16 rs = some (ls, none) ∧ ∀ {C2 : Cx}, (∀ b j v, C.I b j = some v → C2.I b j = some v) → FA (RepA C2) ls vs
  | [], rs, C, hp, vs, own, h, _, hf => by
    simp only [rvP] at h; subst h; cases hf
    exact ⟨[], rfl, fun _ => .nil⟩
  | a :: l, rs, C, hp, vs, own, h, hn, hf => by
    cases hf with
    | cons hab t =>
      rename_i x xs
      have hl : rvP false m hp l rs = rvP false m hp l rs := rfl
      have nref : ∀ rest, rvP false m hp l rest → ∀ id g, l ≠ [.ref id g] := fun rest hr id g e => by
        subst e
        simp only [rvP] at hr
        split at hr
        · exact Bool.noConfusion hr.2.1
        · exact hr
      cases a with
      | val v =>
        obtain ⟨rest, rfl, h⟩ := h
        obtain ⟨ls, h1, h2⟩ := rv_vals h (nref rest h) t
        exact ⟨.val v :: ls, by simp [backs, h1], fun hI => .cons (RepV.mono hI hab) (h2 hI)⟩
      | nilrow =>
        obtain ⟨rest, rfl, h⟩ := h
        obtain ⟨ls, h1, h2⟩ := rv_vals h (nref rest h) t
        refine ⟨.val (.row []) :: ls, by simp [backs, h1], fun hI => .cons ?_ (h2 hI)⟩
        rw [show x = _ from hab]; exact .row0 _ _ fun _ => rfl
      | ref id g =>
        simp only [rvP] at h
        split at h
        · obtain ⟨_, _, _, _, rfl⟩ := h; exact absurd rfl (hn id g)
        · exact h.elim
      | _ => exact h.elim

/-- What a call leaves: what it was handed, and a row of its own. -/
def Cx.fin (C : Cx) (m : Nat) (own : Option Loc) : Cx := { C with loc := fun id => if id < m then C.loc id else if id = 16 then own else none }

theorem fin_wr {C : Cx} {hp : Hp} {w : World} (h : WR C hp w) {m : Nat} (hm : m ≤ 16) {obs : List Ob} (ho : mapO hp (List.range m) = some obs) (hf : obs.all flat = true) {own : Option Loc} {o : Option Ob} (hoo : match own, o with | none, none => True | some l, some ob => ObR C w ob l ∧ flat ob = true ∧ ∃ id, m ≤ id ∧ ∀ b, l.blk = some b → blk C id = some b | _, _ => False) :
    WR (C.fin m own) (heapR o obs) w ∧ obs.length = m := by
  have hm' := mapO_fa ho
  have hlen : obs.length = m := by have := fa_len hm'; simpa using this.symm
  have hget : ∀ j, j < m → hp j = obs[j]? := fun j hj => by
    obtain ⟨ob, h1, h2⟩ := fa_get (i := j) (a := j) hm' (by simp [hj])
    rw [h1]; exact h2
  have hblk : ∀ id b, blk (C.fin m own) id = some b → (id < m ∧ blk C id = some b) ∨ (id = 16 ∧ ∃ id', m ≤ id' ∧ blk C id' = some b) := fun id b hb => by
    unfold blk Cx.fin at hb
    simp only at hb
    split at hb
    · rename_i h1; exact .inl ⟨h1, hb⟩
    · split at hb
      · rename_i h1
        cases own with
        | none => simp at hb
        | some l =>
          cases o with
          | none => exact hoo.elim
          | some ob => obtain ⟨_, _, id', h2, h3⟩ := hoo; exact .inr ⟨h1, id', h2, h3 b (by simpa using hb)⟩
      · simp at hb
  refine ⟨⟨h.inI, fun id hid => ?_, fun id ob hid => ?_, fun id id' b h1 h2 => ?_, fun id b h1 => ?_⟩, hlen⟩
  · unfold Cx.fin
    simp only
    split
    · rename_i h1
      refine h.dom id ?_
      rw [hget id h1]
      cases o with
      | none => exact hid
      | some q => simp only [heapR, upd] at hid; rw [if_neg (by omega)] at hid; exact hid
    · split
      · rename_i h1 h2
        cases own with
        | none => rfl
        | some l =>
          cases o with
          | none => exact hoo.elim
          | some q => simp [heapR, upd, h2] at hid
      · rfl
  · by_cases h16 : id = 16 ∧ o ≠ none
    · obtain ⟨rfl, ho⟩ := h16
      cases o with
      | none => exact absurd rfl ho
      | some q =>
        cases own with
        | none => exact hoo.elim
        | some l =>
          simp only [heapR, upd, if_pos] at hid
          cases hid
          refine ⟨l, ?_, flat_ob (C := C) (C' := C.fin m (some l)) (fun _ _ => rfl) hoo.2.1 hoo.1⟩
          simp only [Cx.fin]
          rw [if_neg (by omega)]; simp
    · have hid' : obs[id]? = some ob := by
        cases o with
        | none => exact hid
        | some q =>
          simp only [heapR, upd] at hid
          rw [if_neg (fun e => h16 ⟨e, by simp⟩)] at hid
          exact hid
      have hlt : id < m := by rw [← hlen]; exact (List.getElem?_eq_some_iff.1 hid').1
      obtain ⟨l, h1, h2⟩ := h.ob id ob (by rw [hget id hlt]; exact hid')
      refine ⟨l, ?_, flat_ob (C := C) (C' := C.fin m own) (fun _ _ => rfl) (List.all_eq_true.1 hf ob (List.mem_iff_getElem?.2 ⟨id, hid'⟩)) h2⟩
      simp only [Cx.fin]; rw [if_pos hlt]; exact h1
  · rcases hblk id b h1 with ⟨a1, a2⟩ | ⟨a1, i1, a2, a3⟩
    · rcases hblk id' b h2 with ⟨b1, b2⟩ | ⟨b1, i2, b2, b3⟩
      · exact h.sep id id' b a2 b2
      · have := h.sep id i2 b a2 b3; omega
    · rcases hblk id' b h2 with ⟨b1, b2⟩ | ⟨b1, i2, b2, b3⟩
      · have := h.sep id' i1 b b2 a3; omega
      · rw [a1, b1]
  · rcases hblk id b h1 with ⟨a1, a2⟩ | ⟨a1, i1, a2, a3⟩
    · exact h.lt id b a2
    · exact h.lt i1 b a3
theorem fin_stp {C : Cx} {w : World} {m : Nat} {own : Option Loc} (hown : ∀ l, own = some l → ∃ id, ∀ b, l.blk = some b → blk C id = some b) : Stp C (C.fin m own) w w := by
  refine ⟨fun _ _ _ h => h, fun id hid => ?_, Fp.refl _ _ _ _, fun id b hb => ?_⟩
  · by_cases h1 : id < m
    · have : (C.fin m own).loc id = C.loc id := by simp [Cx.fin, h1]
      rw [this]; exact (Stp.refl C w).low id hid
    · left; simp only [Cx.fin]; rw [if_neg h1, if_neg (by omega)]
  · right
    unfold blk Cx.fin at hb
    simp only at hb
    split at hb
    · exact ⟨id, hb⟩
    · split at hb
      · cases own with
        | none => simp at hb
        | some l => obtain ⟨id', h3⟩ := hown l rfl; exact ⟨id', h3 b (by simpa using hb)⟩
      · simp at hb

theorem body_sound (hG : G.Ok) (hcf : CFS G cf) : CFS G (bodyP G cf) := by
        intro f as obs rs obs' h C w args hargs hw h16
        obtain ⟨F, c, hF, hc, ⟨hok, hal, _⟩, h⟩ := h
        refine calls_of_wp (hG.fn f F hF) hc ?_
        have hlen : args.length = as.length := (fa_len hargs).symm
        have st : St F.ntmps C (frame0 as) (heap0 obs) { tmps := args.toArray ++ Array.replicate (F.ntmps - args.toArray.size) undef, defers := [] } w := by
          refine ⟨rfl, by simp; omega, fun t => ?_, hw⟩
          simp only [frame0]
          split
          · rename_i a ha
            obtain ⟨x, hx, hr⟩ := fa_get hargs ha
            have hlt : t < args.length := (List.getElem?_eq_some_iff.1 hx).1
            have : (args.toArray ++ Array.replicate (F.ntmps - args.toArray.size) undef).getD t undef = x := by
              rw [Array.getD_eq_getD_getElem?, Array.getElem?_append, if_pos (by simpa using hlt)]
              simp [hx]
            rw [this]; exact hr
          · rename_i ha
            have hge : as.length ≤ t := List.getElem?_eq_none_iff.1 ha
            have : (args.toArray ++ Array.replicate (F.ntmps - args.toArray.size) undef).getD t undef = undef := by
              rw [Array.getD_eq_getD_getElem?, Array.getElem?_append, if_neg (by simp; omega)]
              rw [Array.getElem?_replicate]
              split <;> rfl
            rw [this]; exact ⟨[], rfl, .nil⟩
        refine exec_wp hG hcf c hok st h fun x C' fr' hp' a' w' k1 k2 k3 => ?_
        obtain ⟨hx, l, hl, hrv, hobs, hfl⟩ := k1
        obtain ⟨vs, hvs, hfa⟩ := run_results hG k2 hl
        have hres : (results F a'.tmps).run G.P w' = .ok (if h : vs.length = 1 then vs[0] else .tuple vs.toArray) w' := by
          have e1 : (F.results.mapM (resS a')).run G.P w' = .ok vs.toArray w' := by
            rw [Array.mapM_eq_mapM_toList]
            simp [hvs]
          have e2 : results F a'.tmps = (do let vs ← F.results.mapM (resS a'); pure (if h : vs.size = 1 then vs[0] else .tuple vs)) := by
            unfold results
            congr 1
          rw [e2]
          simp only [Sem.run_bind, e1, Result.andThen_ok, Sem.run_pure]
          simp
        have fin : ∀ ls (C2 : Cx), FA (RepA C2) ls vs → RepAV C2 (tupOf ls) (if h : vs.length = 1 then vs[0] else .tuple vs.toArray) := fun ls C2 hf => by
          have hl2 := fa_len hf
          match ls, vs, hf with
          | [], [], _ => exact ⟨[], rfl, .nil⟩
          | [a], [x], hf => cases hf with | cons h _ => exact h
          | a :: b :: ls, x :: y :: vs, hf => exact ⟨x :: y :: vs, rfl, hf⟩
        suffices hh : ∃ x C' l o, Ending.returned (if h : vs.length = 1 then vs[0] else .tuple vs.toArray) = .returned x ∧ backs 16 rs = some (l, o) ∧ RepAV C' (tupOf l) x ∧ WR C' (heapR o obs') w' ∧ Stp C C' w w' ∧ obs'.length = obs.length ∧ obs'.all flat = true by
          cases x with
          | nrm => exact ⟨k2.defers, _, hres, hh⟩
          | ret => exact ⟨k2.defers, _, hres, hh⟩
          | ext id => exact hx.elim
        by_cases hsingle : ∃ id g, l = [.ref id g]
        · obtain ⟨id, g, rfl⟩ := hsingle
          simp only [rvP] at hrv
          split at hrv
          · rename_i e sz es g' pin hcs
            obtain ⟨rfl, _, hmid, rfl, _⟩ := hrv
            obtain ⟨lo, hlo, hob⟩ := k2.wr.ob id _ hcs
            cases lo with
            | box b => exact hob.elim
            | own g2 sz2 v =>
              have hob' := hob
              obtain ⟨rfl, rfl, hsz, xs, hrow, hrr, hpin⟩ := hob
              have hown : ObR C' w' (.own e sz es 0 pin) (.own 0 sz v) := ⟨rfl, rfl, hsz, xs, hrow, hrr, hpin⟩
              have hbid : ∀ b, (Loc.own 0 sz v).blk = some b → blk C' id = some b := fun b hb => by rw [blk_of_own hlo]; exact hb
              obtain ⟨hw3, hlen3⟩ := fin_wr k2.wr h16 hobs hfl (own := some (.own 0 sz v)) (o := some (.own e sz es 0 pin)) ⟨hown, rfl, id, hmid, hbid⟩
              refine ⟨_, C'.fin obs.length (some (.own 0 sz v)), [.ref 16 0], some (.own e sz es 0 pin), rfl, rfl, fin _ _ ?_, hw3, k3.trans (fin_stp fun l hl => ⟨id, by cases hl; exact hbid⟩), hlen3, hfl⟩
              cases hfa with
              | cons hab t =>
                cases t
                obtain ⟨h0, g3, sz3, v3, q1, q2, q3⟩ := hab
                rw [hlo] at q1; cases q1
                refine .cons ⟨h0, 0, sz, v, ?_, Nat.le_refl _, fun _ => q3 rfl⟩ .nil
                simp only [Cx.fin]
                rw [if_neg (by omega)]; simp
          · exact hrv.elim
        · obtain ⟨ls, hb, hrep⟩ := rv_vals hrv (fun id g e => hsingle ⟨id, g, e⟩) hfa
          obtain ⟨hw3, hlen3⟩ := fin_wr k2.wr h16 hobs hfl (own := none) (o := none) trivial
          exact ⟨_, C'.fin obs.length none, ls, none, rfl, hb, fin _ _ (hrep fun _ _ _ h => h), hw3, k3.trans (fin_stp fun l hl => by cases hl), hlen3, hfl⟩

/-- What is told of calls comes true. -/
theorem CE_sound (hG : G.Ok) (hO : CFS G G.orc) : CFS G (CE G) := by
  intro f as obs rs obs' h
  refine h (fun f as obs rs obs' => ∀ (C : Cx) (w : World) (args : List Value), FA (RepA C) as args → WR C (heap0 obs) w → obs.length ≤ 16 →
    Calls G.P f args.toArray w fun e w' => ∃ x C' l o, e = .returned x ∧ backs 16 rs = some (l, o) ∧ RepAV C' (tupOf l) x ∧ WR C' (heapR o obs') w' ∧ Stp C C' w w' ∧ obs'.length = obs.length ∧ obs'.all flat = true) ?_ ?_
  · intro f as obs rs obs' hb
    exact body_sound hG (fun f as obs rs obs' h => h) f as obs rs obs' hb
  · intro f as obs rs obs' hb
    exact hO f as obs rs obs' hb

/-! ### more is told of calls, more is told -/
theorem opQ_mono {cf' : CF} (hm : ∀ f as obs rs obs', cf f as obs rs obs' → cf' f as obs rs obs') {fid rid i : Nat} {o : Oper} {ρ : Operand → AV} {hp : Hp} {K K' : KO} (hK : ∀ v hp, K v hp → K' v hp) (h : opQ G cf fid rid i o ρ hp K) (hρ : ∀ f, ρ (.func f) = .one (.fn f [])) : opQ G cf' fid rid i o ρ hp K' := by
  obtain ⟨v, hp', hk, hd⟩ := (opQ_kind hρ h).2.2.2
  have h2 := hd (fun v2 h2 => K' v2 h2) (hK _ _ hk)
  by_cases hc : ∃ c f, o.op = .call c ∧ c.callee = .value f
  · obtain ⟨c, f, ho, hcal⟩ := hc
    obtain ⟨dst, op, ty, pos, aft, gd⟩ := o
    obtain ⟨cal, args, ats⟩ := c
    simp only at ho hcal
    subst ho hcal
    unfold opQ at h2 ⊢
    simp only at h2 ⊢
    split
    · rename_i f' caps hf
      simp only [hf] at h2
      unfold callP at h2 ⊢
      obtain ⟨q1, h2⟩ := h2
      refine ⟨q1, ?_⟩
      split at h2
      · rename_i he
        (try simp only [he])
        split at h2
        · rename_i as obs has hobs
          (try simp only [has, hobs])
          obtain ⟨a1, rs, obs', a2, a3⟩ := h2
          exact ⟨a1, rs, obs', hm _ _ _ _ _ a2, a3⟩
        · exact h2.elim
      · rename_i he
        (try simp only [he])
        split at h2
        · rename_i as has
          (try simp only [has])
          obtain ⟨rs, a1, a2⟩ := h2
          exact ⟨rs, hm _ _ _ _ _ a1, a2⟩
        · exact h2.elim
    · rename_i hn
      exfalso
      split at h2
      · rename_i f' caps hf; exact hn _ _ hf
      · exact h2
  · obtain ⟨dst, op, ty, pos, aft, gd⟩ := o
    have : opQ G cf' fid rid i ⟨dst, op, ty, pos, aft, gd⟩ ρ hp K' = opQ G cf fid rid i ⟨dst, op, ty, pos, aft, gd⟩ ρ hp K' := by
      unfold opQ
      cases op
      case call c =>
        obtain ⟨cal, args, ats⟩ := c
        cases cal <;> try rfl
        exact absurd ⟨_, _, rfl, rfl⟩ hc
      case makeFunc fn x y => cases fn <;> rfl
      case slice t x lo hi mx => cases mx <;> rfl
      all_goals rfl
    rw [this]; exact h2
theorem opP_mono {cf' : CF} (hm : ∀ f as obs rs obs', cf f as obs rs obs' → cf' f as obs rs obs') {fid rid i : Nat} {o : Oper} {ρ : Operand → AV} {hp : Hp} {K K' : KO} (hK : ∀ v hp, K v hp → K' v hp) (h : opP G cf fid rid i o ρ hp K) (hρ : ∀ f, ρ (.func f) = .one (.fn f [])) : opP G cf' fid rid i o ρ hp K' := by
  unfold opP at h ⊢
  split at h
  · rename_i h4
    refine opQ_mono hm (fun v hp hk => ?_) h hρ
    unfold fz at hk ⊢
    split at hk
    · split at hk
      · exact ⟨hk.1, hK _ _ hk.2⟩
      · exact hk.elim
    · exact hK _ _ hk
  · exact opQ_mono hm hK h hρ
theorem stepP_mono {cf' : CF} (hm : ∀ f as obs rs obs', cf f as obs rs obs' → cf' f as obs rs obs') {fid rid i : Nat} {ops : Array Oper} {o : Oper} {fr : Fr} {hp : Hp} {K K' : KO} (hK : ∀ v hp, K v hp → K' v hp) (h : stepP G cf fid rid ops i o fr hp K) : stepP G cf' fid rid ops i o fr hp K' := by
  unfold stepP at h ⊢
  split
  · rename_i hg
    simp only [hg] at h
    exact opP_mono hm hK h fun _ => rfl
  · rename_i j want hg
    simp only [hg] at h
    split
    · rename_i hd; simp only [hd] at h
    · rename_i d hd
      simp only [hd] at h
      split
      · rename_i b hb
        simp only [hb] at h
        rcases h with ⟨q, h⟩ | ⟨q, h⟩
        · exact .inl ⟨q, opP_mono hm hK h fun _ => rfl⟩
        · exact .inr ⟨q, hK _ _ h⟩
      · rename_i hb
        simp only [hb] at h
        exact hK _ _ h
      · rename_i n1 n2
        split at h
        · rename_i b hb; exact n1 b hb
        · rename_i hb; exact n2 hb
        · exact h
theorem runP_mono {cf' : CF} (hm : ∀ f as obs rs obs', cf f as obs rs obs' → cf' f as obs rs obs') {fid rid : Nat} {ops : Array Oper} : ∀ {l : List (Nat × Oper)} {fr : Fr} {hp : Hp} {K K' : Fr → Hp → Prop}, (∀ fr hp, K fr hp → K' fr hp) → runP G cf fid rid ops l fr hp K → runP G cf' fid rid ops l fr hp K'
  | [], fr, hp, K, K', hK, h => hK _ _ h
  | (i, o) :: l, fr, hp, K, K', hK, h => by
    rw [runP_cons] at h ⊢
    exact stepP_mono hm (fun v hp' hh => runP_mono hm hK hh) h
theorem exec_mono {cf' : CF} (hm : ∀ f as obs rs obs', cf f as obs rs obs' → cf' f as obs rs obs') {fid : FuncId} : ∀ (c : Code) {fr : Fr} {hp : Hp} {K K' : KX}, (∀ x fr hp, K x fr hp → K' x fr hp) → exec G cf fid c fr hp K → exec G cf' fid c fr hp K' := by
  intro c
  induction c with
  | skip => intro fr hp K K' hK h; exact hK _ _ _ h
  | region rid ops d =>
    intro fr hp K K' hK h
    cases d with
    | true => exact ⟨h.1, runP_mono hm (fun _ _ hh => hK _ _ _ hh) h.2⟩
    | false => exact runP_mono (K' := fun fr hp => K' .nrm fr hp) hm (fun _ _ hh => hK _ _ _ hh) h
  | seq x y ihx ihy =>
    intro fr hp K K' hK h
    have hs : ∀ {fr : Fr} {hp : Hp}, (exec G cf fid x fr hp fun z fr hp => match z with
        | .nrm => exec G cf fid y fr hp K
        | z => K z fr hp) → exec G cf' fid x fr hp fun z fr hp => match z with
        | .nrm => exec G cf' fid y fr hp K'
        | z => K' z fr hp := fun h => ihx (fun z fr hp hh => by
      cases z with
      | nrm => exact ihy hK hh
      | ext id => exact hK _ _ _ hh
      | ret => exact hK _ _ _ hh) h
    rw [exec_seq] at h ⊢
    simp only [seqP] at h ⊢
    cases hj : joinAt x with
    | none => rw [hj] at h; exact hs h
    | some n =>
      rw [hj] at h
      simp only at h ⊢
      cases hq : G.cut fid n with
      | false => rw [hq] at h; exact hs h
      | true =>
        rw [hq] at h
        obtain ⟨L, Mid, h1, h2⟩ := h.out
        exact Jn.go ⟨L, Mid, ihx (fun z fr hp hh => by
          cases z with
          | nrm => exact hh
          | ext id => exact hK _ _ _ hh
          | ret => exact hK _ _ _ hh) h1, fun fr hp hh => ihy hK (h2 fr hp hh)⟩
  | cond cnd x y ihx ihy =>
    intro fr hp K K' hK h
    have e : ∀ cf K, exec G cf fid (.cond cnd x y) fr hp K = (match ev fr cnd with | .one (.val (.bool b)) => (b = true ∧ exec G cf fid x fr hp K) ∨ (b = false ∧ exec G cf fid y fr hp K) | _ => False) := fun _ _ => rfl
    rw [e] at h ⊢
    generalize ev fr cnd = v at h ⊢
    split at h
    · rcases h with ⟨q, h⟩ | ⟨q, h⟩
      · exact .inl ⟨q, ihx hK h⟩
      · exact .inr ⟨q, ihy hK h⟩
    · exact h.elim
  | block id x ih =>
    intro fr hp K K' hK h
    refine ih (fun z fr hp hh => ?_) h
    cases z with
    | nrm => exact hK _ _ _ hh
    | ext j =>
      simp only at hh ⊢
      cases e : Nat.beq j id with
      | true => rw [e] at hh; exact hK _ _ _ hh
      | false => rw [e] at hh; exact hK _ _ _ hh
    | ret => exact hK _ _ _ hh
  | loop x ih =>
    intro fr hp K K' hK h
    obtain ⟨L, h⟩ := h
    refine ⟨L, fun I hI => h I fun fr' hp' hb => hI _ _ ?_⟩
    obtain ⟨K1, hK1, hb⟩ := hb
    refine ⟨_, fun z fr hp hh => ?_, ih (fun _ _ _ hh => hh) hb⟩
    replace hh := hK1 _ _ _ hh
    cases z with
    | nrm => exact hh
    | ext id => exact hK _ _ _ hh
    | ret => exact hK _ _ _ hh
  | exit id => intro fr hp K K' hK h; exact hK _ _ _ h
  | ret => intro fr hp K K' hK h; exact hK _ _ _ h
  | rangeFunc f ps x y => intro fr hp K K' hK h; exact h.elim
  | scope x => intro fr hp K K' hK h; exact h.elim
  | label l => intro fr hp K K' hK h; exact h.elim
  | goto l => intro fr hp K K' hK h; exact h.elim
  | refuse s => intro fr hp K K' hK h; exact h.elim
theorem CE.orc {f : FuncId} {as : List A0} {obs : List Ob} {rs : List RV} {obs' : List Ob} (h : G.orc f as obs rs obs') : CE G f as obs rs obs' := fun _ _ ho => ho _ _ _ _ _ h
/-- A body tells it. -/
theorem CE.mk {f : FuncId} {as : List A0} {obs : List Ob} {rs : List RV} {obs' : List Ob} (h : bodyP G (CE G) f as obs rs obs') : CE G f as obs rs obs' := by
  intro cf hcf ho
  refine hcf _ _ _ _ _ ?_
  obtain ⟨F, c, h1, h2, h3, h4⟩ := h
  exact ⟨F, c, h1, h2, h3, exec_mono (fun f as obs rs obs' hh => hh cf hcf ho) c (fun _ _ _ hh => hh) h4⟩
end
end Go.Proofs.YteegedceandnkaaW.AM
