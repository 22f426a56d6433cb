/- The abstract machine: code, and calls of any depth. -/
import Derived.Test.YtccldchklemogaaAm12
set_option linter.unusedSectionVars false
set_option linter.unusedVariables false
set_option linter.unusedSimpArgs false
namespace Go.Proofs.YtccldchklemogaaW.AM
open Go Go.RowKit
variable {TT : Tab}

/-! ### what a loop forgets -/
def bwd : List (Nat × Nat) → Nat → Option Nat
  | [], _ => none
  | p :: l, id => match Nat.beq p.2 id with
    | true => some p.1
    | false => bwd l id
theorem nodupA_nodup : ∀ {l : List Nat}, nodupA l = true → l.Nodup
  | [], _ => List.nodup_nil
  | a :: l, h => by
    simp only [nodupA, Bool.and_eq_true, Bool.not_eq_true'] at h
    refine List.nodup_cons.2 ⟨fun hm => ?_, nodupA_nodup h.2⟩
    rw [List.any_eq_false] at h
    exact h.1 a hm (Nat.beq_refl a)
theorem fwd_mem : ∀ {R : List (Nat × Nat)} {o n : Nat}, fwd R o = some n → (o, n) ∈ R
  | [], o, n, h => by cases h
  | p :: l, o, n, h => by
    simp only [fwd] at h
    split at h
    · rename_i hb
      cases h
      have := Nat.eq_of_beq_eq_true hb
      subst this; simp
    · exact List.mem_cons_of_mem _ (fwd_mem h)
theorem bwd_mem : ∀ {R : List (Nat × Nat)} {o n : Nat}, bwd R n = some o → (o, n) ∈ R
  | [], o, n, h => by cases h
  | p :: l, o, n, h => by
    simp only [bwd] at h
    split at h
    · rename_i hb
      cases h
      have := Nat.eq_of_beq_eq_true hb
      subst this; simp
    · exact List.mem_cons_of_mem _ (bwd_mem h)
theorem bwd_of : ∀ {R : List (Nat × Nat)}, (R.map (·.2)).Nodup → ∀ {o n : Nat}, (o, n) ∈ R → bwd R n = some o
  | [], _, o, n, h => by cases h
  | p :: l, hn, o, n, h => by
    rw [List.map_cons, List.nodup_cons] at hn
    simp only [bwd]
    rcases List.mem_cons.1 h with h | h
    · subst h; rw [Nat.beq_refl]
    · have : ¬ p.2 = n := fun e => hn.1 (List.mem_map.2 ⟨(o, n), h, e.symm⟩)
      rw [show Nat.beq p.2 n = false from by cases hb : Nat.beq p.2 n with | false => rfl | true => exact absurd (Nat.eq_of_beq_eq_true hb) this]
      exact bwd_of hn.2 h
theorem fwd_of : ∀ {R : List (Nat × Nat)}, (R.map (·.1)).Nodup → ∀ {o n : Nat}, (o, n) ∈ R → fwd R o = some n
  | [], _, o, n, h => by cases h
  | p :: l, hn, o, n, h => by
    rw [List.map_cons, List.nodup_cons] at hn
    simp only [fwd]
    rcases List.mem_cons.1 h with h | h
    · subst h; rw [Nat.beq_refl]
    · have : ¬ p.1 = o := fun e => hn.1 (List.mem_map.2 ⟨(o, n), h, e.symm⟩)
      rw [show Nat.beq p.1 o = false from by cases hb : Nat.beq p.1 o with | false => rfl | true => exact absurd (Nat.eq_of_beq_eq_true hb) this]
      exact fwd_of hn.2 h
structure RenOK (R : List (Nat × Nat)) : Prop where
  old : (R.map (·.1)).Nodup
  new : (R.map (·.2)).Nodup
  low : ∀ o n, (o, n) ∈ R → 16 ≤ n ∨ o = n
theorem renOK {R : List (Nat × Nat)} (h : okR R = true) : RenOK R := by
  simp only [okR, Bool.and_eq_true, List.all_eq_true, Bool.or_eq_true] at h
  exact ⟨nodupA_nodup h.1.1, nodupA_nodup h.1.2, fun o n hm => (h.2 (o, n) hm).elim (fun h => .inl (Nat.le_of_ble_eq_true h)) fun h => .inr (Nat.eq_of_beq_eq_true h)⟩
theorem RenOK.fb {R : List (Nat × Nat)} (h : RenOK R) {o n : Nat} (hf : fwd R o = some n) : bwd R n = some o := bwd_of h.new (fwd_mem hf)
theorem RenOK.inj {R : List (Nat × Nat)} (h : RenOK R) {o n m : Nat} (h1 : bwd R n = some o) (h2 : bwd R m = some o) : n = m := by
  have a := fwd_of h.old (bwd_mem h1)
  have b := fwd_of h.old (bwd_mem h2)
  rw [a] at b; exact Option.some.inj b
def Cx.keep (C : Cx TT) (R : List (Nat × Nat)) : Cx TT := { C with loc := fun id => (bwd R id).bind C.loc, ft := fun id => match bwd R id with | some o => C.ft o | none => fun _ => False }
theorem keep_ft {C : Cx TT} {R : List (Nat × Nat)} {id o : Nat} (h : bwd R id = some o) : (C.keep R).ft id = C.ft o := by simp [Cx.keep, h]
theorem keep_loc {C : Cx TT} {R : List (Nat × Nat)} {id o : Nat} (h : bwd R id = some o) : (C.keep R).loc id = C.loc o := by simp [Cx.keep, h]
theorem keep_blk {C : Cx TT} {R : List (Nat × Nat)} {id b : Nat} (hb : blk (C.keep R) id b) : ∃ o, bwd R id = some o ∧ blk C o b := by
  cases h : bwd R id with
  | none => simp [blk, blkO, Cx.keep, h] at hb
  | some o => exact ⟨o, rfl, by unfold blk at hb ⊢; rwa [keep_loc h, keep_ft h] at hb⟩
theorem keep_blk' {C : Cx TT} {R : List (Nat × Nat)} {id o : Nat} (h : bwd R id = some o) : blk (C.keep R) id = blk C o := by funext k; simp only [blk, keep_loc h, keep_ft h]
theorem clean_rep {C : Cx TT} {R : List (Nat × Nat)} (hR : RenOK R) {a : A0} {x : Value} (h : RepA C a x) : RepA (C.keep R) (a.clean R) x := by
  unfold A0.clean
  split
  · split
    · rename_i hf; obtain ⟨b, h1, h2⟩ := h; exact ⟨b, by rw [keep_loc (hR.fb hf)]; exact h1, h2⟩
    · trivial
  · split
    · rename_i hf; obtain ⟨h0, g', sz, v, h1, h2⟩ := h; exact ⟨h0, g', sz, v, by rw [keep_loc (hR.fb hf)]; exact h1, h2⟩
    · trivial
  · split
    · rename_i hf; obtain ⟨h0, g', sz, v, h1, h2⟩ := h; exact ⟨h0, g', sz, v, by rw [keep_loc (hR.fb hf)]; exact h1, h2⟩
    · trivial
  · split
    · rename_i hf; obtain ⟨vs, h1, h2⟩ := h; exact ⟨vs, by rw [keep_loc (hR.fb hf)]; exact h1, h2⟩
    · trivial
  · split
    · rename_i js hf
      obtain ⟨vs, h1, h2⟩ := h
      have hm := mapO_fa hf
      refine ⟨vs, h1, fa_of (by rw [← fa_len hm]; exact fa_len h2) fun i j v hj hv => ?_⟩
      obtain ⟨id, hid, hid2⟩ := fa_get' hm hj
      obtain ⟨v', hv', b, hb, hb2⟩ := fa_get h2 hid
      rw [hv] at hv'; cases hv'
      exact ⟨b, by rw [keep_loc (hR.fb hid2)]; exact hb, hb2⟩
    · trivial
  · cases a <;> first | exact h | (rename_i q1 q2 q3 q4 q5; first | exact absurd rfl (q1 _ _) | exact absurd rfl (q2 _ _) | exact absurd rfl (q3 _ _ _ _) | exact absurd rfl (q4 _) | exact absurd rfl (q5 _ _))
theorem fa_map_same {α β γ : Type} {R : α → β → Prop} {S : γ → β → Prop} {f : α → γ} (hf : ∀ a b, R a b → S (f a) b) {l : List α} {m : List β} (h : FA R l m) : FA S (l.map f) m := fa_map_l (fa_imp hf h)
theorem cleanV_rep {C : Cx TT} {R : List (Nat × Nat)} (hR : RenOK R) {a : AV} {x : Value} (h : RepAV C a x) : RepAV (C.keep R) (a.clean R) x := by
  cases a with
  | one a => exact clean_rep hR h
  | tup as => obtain ⟨vs, h1, h2⟩ := h; exact ⟨vs, h1, fa_map_same (fun _ _ h => clean_rep hR h) h2⟩
theorem cleanH_get {R : List (Nat × Nat)} {hp : Hp} : ∀ (l : List (Nat × Nat)), (l.map (·.2)).Nodup → ∀ id, cleanH R hp l id = (bwd l id).bind fun o => (hp o).map (·.clean R)
  | [], _, id => rfl
  | p :: l, hn, id => by
    rw [List.map_cons, List.nodup_cons] at hn
    have ih := cleanH_get (R := R) (hp := hp) l hn.2 id
    have hno : bwd l p.2 = none := by
      cases h : bwd l p.2 with
      | none => rfl
      | some o => exact absurd (List.mem_map.2 ⟨_, bwd_mem h, rfl⟩) hn.1
    simp only [cleanH, bwd]
    cases hb : Nat.beq p.2 id with
    | true =>
      have e := Nat.eq_of_beq_eq_true hb
      subst e
      cases ho : hp p.1 with
      | none => simp only [Option.bind_some]; rw [ih, hno, ho]; rfl
      | some o => simp [upd, ho]
    | false =>
      have e : ¬ id = p.2 := fun e => by subst e; rw [Nat.beq_refl] at hb; cases hb
      cases ho : hp p.1 with
      | none => exact ih
      | some o => simp only [upd, if_neg e]; exact ih
theorem keep_wr {C : Cx TT} {hp : Hp} {w : World} (h : WR C hp w) {R : List (Nat × Nat)} (hR : RenOK R) : WR (C.keep R) (cleanH R hp R) w := by
  refine ⟨h.inI, fun id hid => ?_, fun id o hid => ?_, fun id id' b h1 h2 => ?_, fun id b h1 => ?_, h.inT, fun b n hh => ⟨(h.inZ b n hh).1, fun id h1 => ?_⟩, fun id => ?_⟩
  · rw [cleanH_get R hR.new] at hid
    cases hb : bwd R id with
    | none => simp [Cx.keep, hb]
    | some o =>
      rw [hb] at hid
      rw [keep_loc hb]; exact h.dom o (by simpa using hid)
  · rw [cleanH_get R hR.new] at hid
    cases hb : bwd R id with
    | none => rw [hb] at hid; cases hid
    | some j =>
      rw [hb] at hid
      obtain ⟨o', ho', rfl⟩ := Option.map_eq_some_iff.1 hid
      obtain ⟨l, hl, hob⟩ := h.ob j o' ho'
      refine ⟨l, by rw [keep_loc hb]; exact hl, ?_⟩
      cases o' <;> cases l <;> try exact hob.elim
      · obtain ⟨T, vs, h1, h2, h3, h4⟩ := hob
        exact ⟨T, vs, h1, fa_map_same (fun _ _ h => clean_rep hR h) h2, h3, h4⟩
      · exact hob
      · exact hob
      · exact ⟨fa_map_same (fun _ _ h => clean_rep hR h) hob.1, hob.2⟩
      · exact hob
      · exact hob
      · exact hob
  · obtain ⟨o, e1, k1⟩ := keep_blk h1
    obtain ⟨o', e2, k2⟩ := keep_blk h2
    have := h.sep o o' b k1 k2
    subst this
    exact hR.inj e1 e2
  · obtain ⟨o, e1, k1⟩ := keep_blk h1; exact h.lt o b k1
  · obtain ⟨o, e1, k1⟩ := keep_blk h1; exact (h.inZ b n hh).2 o k1
  · rw [cleanH_get R hR.new]
    cases hb : bwd R id with
    | none => intro k; simp [Cx.keep, hb]
    | some j =>
      have ht := h.tr j
      show TrOK _ _ _ ((hp j).map (·.clean R))
      cases e : hp j with
      | none => rw [e] at ht; intro k; rw [keep_ft hb]; exact ht k
      | some o =>
        rw [e] at ht
        cases o with
        | tree e sz es g =>
          obtain ⟨v, h1, h2, h3⟩ := ht
          exact ⟨v, by rw [keep_loc hb]; exact h1, by rw [keep_blk' hb]; exact h2, fun k i hk => by rw [keep_blk' hb] at hk; exact h3 k i hk⟩
        | hole e sz es g i off j => trivial
        | lost g sz => trivial
        | _ => intro k; rw [keep_ft hb]; exact ht k
theorem keep_stp {C : Cx TT} {w : World} {R : List (Nat × Nat)} (hR : RenOK R) : Stp C (C.keep R) w w := by
  refine ⟨fun _ _ _ h => h, fun id hid => ?_, Fp.refl _ _ _ _, fun id b h => ?_⟩
  · cases hb : bwd R id with
    | none => left; simp [Cx.keep, hb]
    | some o =>
      rcases hR.low o id (bwd_mem hb) with h | h
      · omega
      · subst h
        rw [keep_loc hb]; exact (Stp.refl C w).low o hid
  · obtain ⟨o, _, k1⟩ := keep_blk h; exact .inr ⟨o, k1⟩
theorem keep_st {nt} {C : Cx TT} {fr hp a w} (h : St nt C fr hp a w) {R : List (Nat × Nat)} (hR : RenOK R) : St nt (C.keep R) (cleanF R fr) (cleanH R hp R) a w :=
  ⟨h.defers, h.size, fun t => cleanV_rep hR (h.slots t), keep_wr h.wr hR⟩

def X.exit : X → Exit
  | .nrm => .normal
  | .ext id => .exit id
  | .ret => .ret

section
variable {G : Env} {cf : CF}

theorem seq_open {fid : FuncId} {x y : Code} {fr : Fr} {hp : Hp} {K : KX} (h : exec G cf fid (.seq x y) fr hp K) :
    (exec G cf fid x fr hp fun z fr hp => match z with
      | .nrm => exec G cf fid y fr hp K
      | z => K z fr hp) ∨ ∃ Mid : Fr → Hp → Prop, (exec G cf fid x fr hp fun z fr hp => match z with
        | .nrm => ∃ R, okR R = true ∧ Mid (cleanF R fr) (cleanH R hp R)
        | z => K z fr hp) ∧ ∀ fr hp, Mid fr hp → exec G cf fid y fr hp K := by
  rw [exec_seq] at h
  simp only [seqP] at h
  split at h
  · exact .inl h
  · split at h
    · exact .inl h
    · exact .inr h.out
theorem exec_wp (hG : G.Ok) (hcf : CFS G cf) {nt : Nat} {fid : FuncId} : ∀ (c : Code), codeOK nt c = true → ∀ {C : Cx G.tab} {fr : Fr} {hp : Hp} {a : Act} {w : World} {K : KX}, St nt C fr hp a w → exec G cf fid c fr hp K →
    ∀ {Q : Exit → Act → World → Prop}, (∀ x C' fr' hp' a' w', K x fr' hp' → St nt C' fr' hp' a' w' → Stp C C' w w' → Q x.exit a' w') → c.wp G.P Q a w := by
  intro c
  induction c with
  | skip => intro _ C fr hp a w K st h Q hQ; exact wp_skip (hQ .nrm C fr hp a w h st (Stp.refl _ _))
  | region rid ops d =>
    intro hok C fr hp a w K st h Q hQ
    cases d with
    | true => exact draw_wp hG hcf hok h.1 st h.2 fun C' fr' hp' a' w' k1 k2 k3 => hQ .nrm C' fr' hp' a' w' k1 k2 k3
    | false => exact region_wp hG hcf hok st h fun C' fr' hp' a' w' k1 k2 k3 => hQ .nrm C' fr' hp' a' w' k1 k2 k3
  | seq x y ihx ihy =>
    intro hok C fr hp a w K st h Q hQ
    simp only [codeOK, Bool.and_eq_true] at hok
    rcases seq_open h with h | ⟨Mid, h, hm⟩
    · refine wp_seq (ihx hok.1 st h fun z C' fr' hp' a' w' k1 k2 k3 => ?_)
      cases z with
      | nrm => exact ihy hok.2 k2 k1 fun z2 C2 fr2 hp2 a2 w2 q1 q2 q3 => hQ z2 C2 fr2 hp2 a2 w2 q1 q2 (k3.trans q3)
      | ext id => exact hQ (.ext id) C' fr' hp' a' w' k1 k2 k3
      | ret => exact hQ .ret C' fr' hp' a' w' k1 k2 k3
    · refine wp_seq (ihx hok.1 st h fun z C' fr' hp' a' w' k1 k2 k3 => ?_)
      cases z with
      | nrm =>
        obtain ⟨R, hR, k1⟩ := k1
        exact ihy hok.2 (keep_st k2 (renOK hR)) (hm _ _ k1) fun z2 C2 fr2 hp2 a2 w2 q1 q2 q3 => hQ z2 C2 fr2 hp2 a2 w2 q1 q2 ((k3.trans (keep_stp (renOK hR))).trans q3)
      | ext id => exact hQ (.ext id) C' fr' hp' a' w' k1 k2 k3
      | ret => exact hQ .ret C' fr' hp' a' w' k1 k2 k3
  | cond cnd x y ihx ihy =>
    intro hok C fr hp a w K st h Q hQ
    simp only [codeOK, Bool.and_eq_true] at hok
    rw [exec_cond] at h
    split at h
    · rename_i b hb
      have hr := st.ev cnd
      rw [hb] at hr
      have hr' : RepV C.I (.bool b) (a.eval cnd) := hr
      have hev : a.eval cnd = .bool b := by generalize a.eval cnd = z at hr'; cases hr'; rfl
      rcases h with ⟨rfl, h⟩ | ⟨rfl, h⟩
      · exact wp_cond_true hev (ihx hok.1 st h hQ)
      · exact wp_cond_false hev (ihy hok.2 st h hQ)
    · exact h.elim
  | block id x ih =>
    intro hok C fr hp a w K st h Q hQ
    refine wp_block (ih hok st h fun z C' fr' hp' a' w' k1 k2 k3 => ?_)
    cases z with
    | nrm => exact hQ .nrm C' fr' hp' a' w' k1 k2 k3
    | ext j =>
      simp only [X.exit, Exit.inBlock]
      simp only at k1
      by_cases e : j = id
      · subst e
        rw [if_pos rfl]
        rw [Nat.beq_refl j] at k1
        exact hQ .nrm C' fr' hp' a' w' k1 k2 k3
      · rw [if_neg e]
        have hb : Nat.beq j id = false := by
          cases hh : Nat.beq j id with
          | false => rfl
          | true => exact absurd (Nat.eq_of_beq_eq_true hh) e
        rw [hb] at k1
        exact hQ (.ext j) C' fr' hp' a' w' k1 k2 k3
    | ret => exact hQ .ret C' fr' hp' a' w' k1 k2 k3
  | loop x ih =>
    intro hok C fr hp a w K st h Q hQ
    intro b k cs
    have key := h (fun fr' hp' => ∀ (C' : Cx G.tab) (a' : Act) (w' : World), St nt C' fr' hp' a' w' → Stp C C' w w' → ∃ e a2 w2, Q e a2 w2 ∧ Arrives G.P (lone (b.at a' (.code x :: .inLoop x :: k)) cs w') b k cs e a2 w2) (fun fr' hp' hb0 C' a' w' st' hs => by
      obtain ⟨K', hK', hb⟩ := hb0
      have hx := ih hok st' hb (Q := fun e a2 w2 => match e with
        | .normal => ∃ e2 a3 w3, Q e2 a3 w3 ∧ Arrives G.P (lone (b.at a2 (.code x :: .inLoop x :: k)) cs w2) b k cs e2 a3 w3
        | e => Q e a2 w2) (fun z C2 fr2 hp2 a2 w2 k1 k2 k3 => by
          replace k1 := hK' _ _ _ k1
          cases z with
          | nrm =>
            obtain ⟨R, hR, k1⟩ := k1
            exact k1 _ _ _ (keep_st k2 (renOK hR)) (hs.trans (k3.trans (keep_stp (renOK hR))))
          | ext id => exact hQ (.ext id) C2 fr2 hp2 a2 w2 k1 k2 (hs.trans k3)
          | ret => exact hQ .ret C2 fr2 hp2 a2 w2 k1 k2 (hs.trans k3))
      obtain ⟨e, a₁, w₁, hq, harr⟩ := hx b (.inLoop x :: k) cs
      cases e with
      | normal =>
        obtain ⟨e₂, a₂, w₂, hq₂, harr₂⟩ := hq
        exact ⟨e₂, a₂, w₂, hq₂, .of_steps (Steps.trans harr (.one step_inLoop)) harr₂⟩
      | exit id => exact ⟨_, a₁, w₁, hq, .pass (x := .inLoop x) rfl (fun _ _ => .inl (by simp)) harr⟩
      | goto l => exact ⟨_, a₁, w₁, hq, .pass (x := .inLoop x) rfl (fun _ _ => .inl (by simp)) harr⟩
      | ret => exact ⟨_, a₁, w₁, hq, .pass (x := .inLoop x) rfl (fun _ _ => .inl (by simp)) harr⟩
      | panic ch => exact ⟨_, a₁, w₁, hq, .pass (x := .inLoop x) rfl (fun _ _ => .inl (by simp)) harr⟩
      | outgrown => exact ⟨_, a₁, w₁, hq, .pass (x := .inLoop x) rfl (fun _ _ => .inl (by simp)) harr⟩)
    obtain ⟨R, hR, key⟩ := key
    obtain ⟨e, a2, w2, hq, harr⟩ := key _ _ _ (keep_st st (renOK hR)) (keep_stp (renOK hR))
    exact ⟨e, a2, w2, hq, .of_steps (.one step_loop) harr⟩
  | exit id => intro _ C fr hp a w K st h Q hQ; exact wp_exit (hQ (.ext id) C fr hp a w h st (Stp.refl _ _))
  | ret => intro _ C fr hp a w K st h Q hQ; exact wp_ret (hQ .ret C fr hp a w h st (Stp.refl _ _))
  | rangeFunc f ps x y => intro _ C fr hp a w K st h; exact h.elim
  | scope x => intro _ C fr hp a w K st h; exact h.elim
  | label l => intro _ C fr hp a w K st h; exact h.elim
  | goto l => intro _ C fr hp a w K st h; exact h.elim
  | refuse s => intro _ C fr hp a w K st h; exact h.elim

/-! ### the end of a call -/
def resS (a : Act) : ResultVar → Sem Value
  | .tmp t => pure (a.tmps.getD t undef)
  | .cell t ty => do loadVar ty (← asAddr (a.tmps.getD t undef))
theorem run_results (hG : G.Ok) {w : World} {C : Cx TT} {hp : Hp} {nt : Nat} {fr : Fr} {a : Act} (st : St nt C fr hp a w) : ∀ {rs : List ResultVar} {l : List A0}, mapO (resA G fr hp) rs = some l →
    ∃ vs : List Value, (rs.mapM (resS a)).run G.P w = .ok vs w ∧ FA (RepA C) l vs
  | [], l, h => by simp [mapO] at h; subst h; exact ⟨[], by simp, .nil⟩
  | r :: rs, l, h => by
    simp only [mapO] at h
    split at h
    · rename_i b bs h1 h2
      cases h
      obtain ⟨vs, hr, hf⟩ := run_results hG st h2
      have key : ∃ v, (resS a r).run G.P w = .ok v w ∧ RepA C b v := by
        cases r with
        | tmp t =>
          simp only [resA] at h1
          split at h1
          · rename_i a0 ha
            cases h1
            have := st.slots t
            rw [ha] at this
            exact ⟨_, by simp [resS], this⟩
          · cases h1
        | cell t ty =>
          simp only [resA] at h1
          split at h1
          · rename_i ti id off hti ht
            split at h1
            · rename_i cs hcs
              have hsl := st.slots t
              rw [ht] at hsl
              obtain ⟨bb, hb, hx⟩ := hsl
              obtain ⟨i, d, z, hs⟩ := ti_spec (hG.ti _ _ hti)
              obtain ⟨lo, hlo, hob⟩ := st.wr.ob id _ hcs
              rw [hb] at hlo; cases hlo
              obtain ⟨T, us, hbb, hrr, hone, _⟩ := hob
              have hp1 := partA_rep h1 hrr hone
              obtain ⟨u, hu1, hu2⟩ := run_part (w := w) hs bb 0 off us (fun j u hu => by simp [World.cell?, hbb, hu]) hp1
              rw [Nat.zero_add] at hu1
              exact ⟨u, by simp [resS, hx, asAddr, hu1], hu2⟩
            · cases h1
          · cases h1
      obtain ⟨v, hv, hrep⟩ := key
      refine ⟨v :: vs, ?_, .cons hrep hf⟩
      rw [List.mapM_cons]
      simp only [Sem.run_bind]
      rw [hv]
      simp only [Result.andThen_ok, hr, Sem.run_pure]
    · cases h

theorem run_resO (hG : G.Ok) {w : World} {fid : FuncId} {nt : Nat} {fr : Fr} {a : Act} : ∀ {rs : List ResultVar} {n : Nat} {C : Cx TT} {hp hp2 : Hp} {l : List A0}, St nt C fr hp a w → resO G fid fr n hp rs = some (l, hp2) →
    ∃ (vs : List Value) (C2 : Cx TT), (rs.mapM (resS a)).run G.P w = .ok vs w ∧ FA (RepA C2) l vs ∧ Le C C2 ∧ WR C2 hp2 w ∧ Stp C C2 w w
  | [], n, C, hp, hp2, l, st, h => by
    simp only [resO, Option.some.injEq, Prod.mk.injEq] at h
    obtain ⟨rfl, rfl⟩ := h
    exact ⟨[], C, by simp, .nil, Le.refl _, st.wr, Stp.refl _ _⟩
  | r :: rs, n, C, hp, hp2, l, st, h => by
    simp only [resO] at h
    split at h
    · split at h
      · rename_i t ty
        split at h
        · rename_i ti id off hti ht
          split at h
          · rename_i cs hcs hnn
            split at h
            · rename_i hcond
              rw [Bool.and_eq_true] at hcond
              have hagg := hcond.1
              have hle := Nat.le_of_ble_eq_true hcond.2
              split at h
              · rename_i p hp
                obtain ⟨l', hp3⟩ := p
                simp only [Option.some.injEq, Prod.mk.injEq] at h
                obtain ⟨rfl, rfl⟩ := h
                have hsl := st.slots t
                rw [ht] at hsl
                obtain ⟨bb, hb, hx⟩ := hsl
                obtain ⟨i, d, z, hs⟩ := ti_spec (hG.ti _ _ hti)
                obtain ⟨lo, hlo, hob⟩ := st.wr.ob id _ hcs
                rw [hb] at hlo; cases hlo
                obtain ⟨T, us, hbb, hrr, hone, _⟩ := hob
                have hl := fa_len hrr
                obtain ⟨u, hu1, hu2⟩ := run_part (w := w) hs bb 0 off us (fun j u hu => by simp [World.cell?, hbb, hu]) (R := fun u => u = .agg ((us.drop off).take ti.size).toArray) (by rw [if_pos hagg]; exact ⟨by omega, rfl⟩)
                rw [Nat.zero_add] at hu1
                obtain ⟨n1, n2, n3⟩ := new_virt st.wr (pid 900000 n) hnn (pid_ge _ _) ((cs.drop off).take ti.size) ((us.drop off).take ti.size) (fa_take (fa_drop hrr off) _) (fun u hu => hone u (List.drop_subset _ _ (List.take_subset _ _ hu)))
                obtain ⟨vs, C2, q1, q2, q3, q4, q5⟩ := run_resO hG (rs := rs) (n := n + 1) ⟨st.defers, st.size, fun t => (st.slots t).mono n1, n2⟩ hp
                refine ⟨u :: vs, C2, ?_, .cons (RepA.mono q3 ⟨_, Cx.set_same _ _ _, hu2⟩) q2, n1.trans q3, q4, n3.trans q5⟩
                rw [List.mapM_cons]
                simp only [Sem.run_bind]
                rw [show (resS a (.cell t ty)).run G.P w = .ok u w by simp [resS, hx, asAddr, hu1]]
                simp only [Result.andThen_ok, q1, Sem.run_pure]
              · cases h
            · cases h
          · cases h
        · cases h
      · cases h
    · split at h
      · rename_i a0 p ha hp
        obtain ⟨l', hp3⟩ := p
        simp only [Option.some.injEq, Prod.mk.injEq] at h
        obtain ⟨rfl, rfl⟩ := h
        obtain ⟨vs, C2, q1, q2, q3, q4, q5⟩ := run_resO hG (rs := rs) (n := n + 1) st hp
        obtain ⟨us, hr, hf⟩ := run_results hG st (rs := [r]) (l := [a0]) (by simp [mapO, ha])
        cases hf with
        | cons h1 t =>
          cases t
          rename_i v
          have hv : (resS a r).run G.P w = .ok v w := by
            rw [List.mapM_cons, List.mapM_nil] at hr
            simp only [Sem.run_bind] at hr
            cases e : (resS a r).run G.P w with
            | ok x w1 => rw [e] at hr; simp at hr; rw [hr.1, hr.2]
            | _ => rw [e] at hr; simp [Result.andThen] at hr
          refine ⟨v :: vs, C2, ?_, .cons (h1.mono q3) q2, q3, q4, q5⟩
          rw [List.mapM_cons]
          simp only [Sem.run_bind]
          rw [hv]
          simp only [Result.andThen_ok, q1, Sem.run_pure]
      · cases h

theorem nodupB_nodup : ∀ {l : List Nat}, nodupB l = true → l.Nodup
  | [], _ => .nil
  | a :: l, h => by
    simp only [nodupB, Bool.and_eq_true, Bool.not_eq_true'] at h
    refine .cons (fun b hb e => ?_) (nodupB_nodup h.2)
    subst e
    have := h.1
    rw [List.any_eq_false] at this
    exact this a hb (Nat.beq_refl a)
theorem okG_look {obs : List Ob} : ∀ {gs : List (Nat × (Nat × Nat))}, okG obs gs → ∀ {id p}, lookG gs id = some p → match obs[id]? with
    | some (.own _ _ _ g _) => p.2 = g + 1
    | some (.tree _ _ _ g) => p.2 = g + 1
    | some (.box _) => False
    | some (.iter _ _) => False
    | some (.hole ..) => False
    | some (.lost ..) => False
    | some (.vbox _) => False
    | none => True
  | [], _, id, p, h => by simp [lookG] at h
  | q :: l, hg, id, p, h => by
    simp only [lookG] at h
    obtain ⟨h1, h2⟩ := hg
    split at h
    · rename_i hb
      have := Nat.eq_of_beq_eq_true hb
      cases h
      rw [← this]; exact h1
    · exact okG_look h2 h
/-- What a call leaves. -/
def Cx.out (C : Cx TT) (m : Nat) (M : List Nat) (γ : Nat → Option (Nat × Nat)) : Cx TT := { C with loc := fun j => if j < m then gl (γ j) (C.loc j) else if 16 ≤ j then (match M[j - 16]? with | some id => gl (γ id) (C.loc id) | none => none) else none, ft := fun j => if j < m then C.ft j else if 16 ≤ j then (match M[j - 16]? with | some id => C.ft id | none => fun _ => False) else fun _ => False }
theorem out_loc {C : Cx TT} {m : Nat} (hm : m ≤ 16) {M : List Nat} {γ} {k id : Nat} (h : (List.range m ++ M)[k]? = some id) : (C.out m M γ).loc (nu m k) = gl (γ id) (C.loc id) := by
  unfold Cx.out nu
  simp only
  by_cases hk : k < m
  · rw [List.getElem?_append_left (by simpa using hk), List.getElem?_range hk] at h
    cases h
    rw [if_pos hk, if_pos hk]
  · rw [List.getElem?_append_right (by simpa using hk), List.length_range] at h
    rw [if_neg hk, if_neg (by omega), if_pos (by omega), show 16 + (k - m) - 16 = k - m by omega, h]
theorem out_ft {C : Cx TT} {m : Nat} (hm : m ≤ 16) {M : List Nat} {γ} {k id : Nat} (h : (List.range m ++ M)[k]? = some id) : (C.out m M γ).ft (nu m k) = C.ft id := by
  unfold Cx.out nu
  simp only
  by_cases hk : k < m
  · rw [List.getElem?_append_left (by simpa using hk), List.getElem?_range hk] at h
    cases h
    rw [if_pos hk, if_pos hk]
  · rw [List.getElem?_append_right (by simpa using hk), List.length_range] at h
    rw [if_neg hk, if_neg (by omega), if_pos (by omega), show 16 + (k - m) - 16 = k - m by omega, h]
theorem out_inv {C : Cx TT} {m : Nat} (hm : m ≤ 16) {M : List Nat} {γ} {j b : Nat} (h : blk (C.out m M γ) j b) : ∃ k id, nu m k = j ∧ (List.range m ++ M)[k]? = some id ∧ blk C id b := by
  have key : ∀ k id, nu m k = j → (List.range m ++ M)[k]? = some id → blk C id b := fun k id h1 h2 => by
    subst h1
    unfold blk at h ⊢
    rwa [out_loc hm h2, gl_blk, out_ft hm h2] at h
  by_cases hj : j < m
  · have h1 : nu m j = j := by simp [nu, hj]
    have h2 : (List.range m ++ M)[j]? = some j := by rw [List.getElem?_append_left (by simpa using hj), List.getElem?_range hj]
    exact ⟨j, j, h1, h2, key _ _ h1 h2⟩
  · by_cases h16 : 16 ≤ j
    · cases hM : M[j - 16]? with
      | none =>
        unfold blk Cx.out at h; simp only at h; rw [if_neg hj, if_pos h16, hM, if_neg hj, if_pos h16] at h
        rcases h with h | h <;> exact h.elim
      | some id =>
        have h1 : nu m (j - 16 + m) = j := by unfold nu; rw [if_neg (by omega)]; omega
        have h2 : (List.range m ++ M)[j - 16 + m]? = some id := by rw [List.getElem?_append_right (by simp), List.length_range, show j - 16 + m - m = j - 16 by omega]; exact hM
        exact ⟨_, id, h1, h2, key _ _ h1 h2⟩
    · unfold blk Cx.out at h; simp only at h; rw [if_neg hj, if_neg h16, if_neg hj, if_neg h16] at h
      rcases h with h | h <;> exact h.elim
theorem outI_some {m : Nat} {M : List Nat} {id j : Nat} (h : outI m M id = some j) : ∃ k, (List.range m ++ M)[k]? = some id ∧ nu m k = j := by
  unfold outI at h
  split at h
  · rename_i hb
    rw [Nat.blt_eq] at hb
    cases h
    exact ⟨id, by rw [List.getElem?_append_left (by simpa using hb), List.getElem?_range hb], by simp [nu, hb]⟩
  · obtain ⟨q, hq, rfl⟩ := Option.map_eq_some_iff.1 h
    refine ⟨m + q, by rw [List.getElem?_append_right (by simp), List.length_range, show m + q - m = q by omega]; exact find_get hq, ?_⟩
    unfold nu; rw [if_neg (by omega)]; omega
theorem out_end {C0 C : Cx TT} {hp : Hp} {w0 w : World} {obs : List Ob} (h0 : WR C0 (heap0 obs) w0) (h : WR C hp w) (hst : Stp C0 C w0 w) (h16 : obs.length ≤ 16) {M : List Nat} {gs : List (Nat × (Nat × Nat))} (hM : okM obs.length M = true) (hG : okG obs gs) {l : List A0} {vs : List Value} (hl : FA (RepA C) l vs)
    {os : List (Nat × Ob)} (hos : obsAt hp (List.range obs.length ++ M) = some os) {rs : List A0} {obs' : List Ob}
    (hk : mapK (outI obs.length M) (lookG gs) l fun rs' => rs' = rs ∧ mapObK (outI obs.length M) (lookG gs) os fun os' => os' = obs') :
    ∃ D : Cx TT, FA (RepA D) rs vs ∧ WR D (heapN obs.length obs') w ∧ Stp C0 D w0 w ∧ obs.length ≤ obs'.length := by
  simp only [okM, Bool.and_eq_true, List.all_eq_true] at hM
  obtain ⟨hM1, hM2⟩ := hM
  have hnd : (List.range obs.length ++ M).Nodup := List.nodup_append.2 ⟨List.nodup_range, nodupB_nodup hM2, fun a ha b hb e => by
    subst e
    have h1 := List.mem_range.1 ha
    have h2 := Nat.le_of_ble_eq_true (hM1 a hb)
    omega⟩
  obtain ⟨hll, hget⟩ := obsAt_get hos
  have hat : ∀ k id, (List.range obs.length ++ M)[k]? = some id → ∃ o, os[k]? = some (id, o) ∧ hp id = some o := fun k id hk => by
    have hkl : k < os.length := by rw [← hll]; exact (List.getElem?_eq_some_iff.1 hk).1
    obtain ⟨h1, h2⟩ := hget k os[k] (by simp [hkl])
    rw [hk] at h1
    have e := Option.some.inj h1
    exact ⟨os[k].2, by rw [e, List.getElem?_eq_getElem hkl], by rw [e]; exact h2⟩
  have hgen : ∀ id j p, outI obs.length M id = some j → lookG gs id = some p → ∀ g sz v, C.loc id = some (.own g sz v) → g = p.1 := fun id j p hj hp' g sz v hloc => by
    obtain ⟨rs', ⟨_, hE⟩, _⟩ := mapK_pick hk
    obtain ⟨k, h1, _⟩ := outI_some hj
    obtain ⟨o, h2, h3⟩ := hat k id h1
    obtain ⟨lo, h4, h5⟩ := h.ob id o h3
    rw [hloc] at h4; cases h4
    cases o with
    | box cs => exact h5.elim
    | vbox _ => exact h5.elim
    | iter s1 p1 => exact h5.elim
    | own e1 sz1 es1 g1 pin1 =>
      have := h5.1
      subst this
      exact mapObK_gen hE (List.mem_iff_getElem?.2 ⟨k, h2⟩) hp'
    | tree e1 sz1 es1 g1 =>
      have := h5.1
      subst this
      exact mapObK_genT hE (List.mem_iff_getElem?.2 ⟨k, h2⟩) hp'
    | hole e1 sz1 es1 g1 i1 off1 j1 => exact absurd rfl ((mapObK_no hE (List.mem_iff_getElem?.2 ⟨k, h2⟩)).1 _ _ _ _ _ _ _)
    | lost g1 sz1 => exact absurd rfl ((mapObK_no hE (List.mem_iff_getElem?.2 ⟨k, h2⟩)).2 _ _)
  have hl2 : ∀ id j, outI obs.length M id = some j → (C.out obs.length M (lookG gs)).loc j = gl (lookG gs id) (C.loc id) := fun id j hj => by
    obtain ⟨k, h1, rfl⟩ := outI_some hj
    exact out_loc h16 h1
  obtain ⟨rs', hfa, rfl, hE⟩ := mapK_rep (C := C) (D := C.out obs.length M (lookG gs)) (fun _ _ _ h => h) hl2 hgen hk hl
  obtain ⟨os', rfl, hol, hoq⟩ := mapObK_rep (C := C) (D := C.out obs.length M (lookG gs)) (w := w) (fun _ _ => rfl) hl2 hgen hE (fun p hp' => by
    obtain ⟨k, hk'⟩ := List.mem_iff_getElem?.1 hp'
    exact h.ob _ _ (hget k p hk').2)
  have hlen : os'.length = obs.length + M.length := by rw [hol, ← hll]; simp
  refine ⟨C.out obs.length M (lookG gs), hfa, ⟨h.inI, fun j hj => ?_, fun j o hj => ?_, fun j j' b h1 h2 => ?_, fun j b h1 => ?_, h.inT, fun b n hh => ⟨(h.inZ b n hh).1, fun j h1 => by
    obtain ⟨k, id, _, _, e2⟩ := out_inv (by omega) h1
    exact (h.inZ b n hh).2 id e2⟩, fun j => ?_⟩, ⟨hst.I, fun id hid => ?_, hst.fp, fun j b h1 => ?_⟩, by omega⟩
  · cases hb : (C.out obs.length M (lookG gs)).loc j with
    | none => rfl
    | some lo =>
      exfalso
      unfold Cx.out at hb
      simp only at hb
      unfold heapN at hj
      split at hb
      · rename_i h1
        rw [blt_t h1] at hj
        have := List.getElem?_eq_none_iff.1 hj
        omega
      · rename_i h1
        rw [blt_f h1] at hj
        split at hb
        · rename_i h2
          rw [show Nat.ble 16 j = true from Nat.ble_eq_true_of_le h2] at hj
          have h3 := List.getElem?_eq_none_iff.1 hj
          rw [show M[j - 16]? = none from List.getElem?_eq_none_iff.2 (by omega)] at hb
          cases hb
        · cases hb
  · obtain ⟨k, rfl, h1⟩ := heapN_inv h16 hj
    have hkl : k < (List.range obs.length ++ M).length := by have := (List.getElem?_eq_some_iff.1 h1).1; rw [hll, ← hol]; exact this
    obtain ⟨id, hid⟩ : ∃ id, (List.range obs.length ++ M)[k]? = some id := ⟨_, List.getElem?_eq_getElem hkl⟩
    obtain ⟨o0, h2, _⟩ := hat k id hid
    obtain ⟨o', lo', h3, _, h4, h5⟩ := hoq k (id, o0) h2
    rw [h1] at h3; cases h3
    exact ⟨lo', by rw [out_loc h16 hid]; exact h4, h5⟩
  · obtain ⟨k, id, rfl, e1, e2⟩ := out_inv h16 h1
    obtain ⟨k', id', rfl, e3, e4⟩ := out_inv h16 h2
    have := h.sep id id' b e2 e4
    subst this
    rw [nodup_inj hnd e1 e3]
  · obtain ⟨k, id, rfl, e1, e2⟩ := out_inv h16 h1
    exact h.lt id b e2
  · cases hj : heapN obs.length os' j with
    | none =>
      intro k hk
      have hb : blk (C.out obs.length M (lookG gs)) j k := .inr hk
      obtain ⟨q, id, rfl, e1, _⟩ := out_inv h16 hb
      rw [heapN_nu h16] at hj
      have h3 := List.getElem?_eq_none_iff.1 hj
      have h4 := (List.getElem?_eq_some_iff.1 e1).1
      simp at h4
      omega
    | some o =>
      obtain ⟨k, rfl, h1⟩ := heapN_inv h16 hj
      have hkl : k < (List.range obs.length ++ M).length := by have := (List.getElem?_eq_some_iff.1 h1).1; rw [hll, ← hol]; exact this
      obtain ⟨id, hid⟩ : ∃ id, (List.range obs.length ++ M)[k]? = some id := ⟨_, List.getElem?_eq_getElem hkl⟩
      obtain ⟨o0, h2, h6⟩ := hat k id hid
      obtain ⟨o', lo', h3, hs, h4, h5⟩ := hoq k (id, o0) h2
      rw [h1] at h3; cases h3
      have ht := h.tr id
      rw [h6] at ht
      exact ht.same (γ := lookG gs id) hs (by rw [out_loc h16 hid]; exact h4) h5 (out_loc h16 hid) (out_ft h16 hid) rfl
  · by_cases hm : id < obs.length
    · have e : (C.out obs.length M (lookG gs)).loc id = gl (lookG gs id) (C.loc id) := by unfold Cx.out; simp only; rw [if_pos hm]
      rw [e]
      rcases hst.low id hid with h1 | ⟨b, h1, h2⟩ | ⟨g, sz, v, g', v', h1, h2, h3, h4⟩ | ⟨vs, h1, h2⟩
      · rw [h1]; left; unfold gl; split <;> first | rfl | (rename_i q _; cases q)
      · rw [h2]; right; left; refine ⟨b, h1, ?_⟩; unfold gl; split <;> first | rfl | (rename_i q _; cases q)
      · rw [h2]
        cases hq : lookG gs id with
        | none => rw [gl_none]; exact .inr (.inr (.inl ⟨g, sz, v, g', v', h1, rfl, h3, h4⟩))
        | some p =>
          have hp2 := okG_look hG hq
          obtain ⟨ob, hob⟩ : ∃ ob, obs[id]? = some ob := ⟨obs[id], by simp [hm]⟩
          obtain ⟨lo, k1, k2⟩ := h0.ob id ob hob
          rw [h1] at k1; cases k1
          cases ob with
          | box cs => exact k2.elim
          | vbox _ => exact k2.elim
          | iter s1 p1 => exact k2.elim
          | hole e1 sz1 es1 g1 i1 off1 j1 => rw [hob] at hp2; exact hp2.elim
          | lost g1 sz1 => rw [hob] at hp2; exact hp2.elim
          | tree e1 sz1 es1 g1 =>
            rw [hob] at hp2
            have := k2.1
            subst this
            exact .inr (.inr (.inl ⟨g1, sz, v, p.2, v', h1, rfl, by omega, fun e => by omega⟩))
          | own e1 sz1 es1 g1 pin1 =>
            rw [hob] at hp2
            have := k2.1
            subst this
            exact .inr (.inr (.inl ⟨g1, sz, v, p.2, v', h1, rfl, by omega, fun e => by omega⟩))
      · rw [h2]; right; right; right; refine ⟨vs, h1, ?_⟩; unfold gl; split <;> first | rfl | (rename_i q _; cases q)
    · left; unfold Cx.out; simp only; rw [if_neg hm, if_neg (by omega)]
  · obtain ⟨k, id, rfl, e1, e2⟩ := out_inv h16 h1
    exact hst.new id b e2

theorem body_sound (hG : G.Ok) (hcf : CFS G cf) : CFS G (bodyP G cf) := by
        intro f as obs rs obs' h C w args hargs hw h16
        obtain ⟨F, c, hF, hc, ⟨hok, hal, _⟩, h⟩ := h
        refine calls_of_wp (hG.fn f F hF) hc ?_
        have hlen : args.length = as.length := (fa_len hargs).symm
        have st : St F.ntmps C (frame0 as) (heap0 obs) { tmps := args.toArray ++ Array.replicate (F.ntmps - args.toArray.size) undef, defers := [] } w := by
          refine ⟨rfl, by simp; omega, fun t => ?_, hw⟩
          simp only [frame0]
          split
          · rename_i a ha
            obtain ⟨x, hx, hr⟩ := fa_get hargs ha
            have hlt : t < args.length := (List.getElem?_eq_some_iff.1 hx).1
            have : (args.toArray ++ Array.replicate (F.ntmps - args.toArray.size) undef).getD t undef = x := by
              rw [Array.getD_eq_getD_getElem?, Array.getElem?_append, if_pos (by simpa using hlt)]
              simp [hx]
            rw [this]; exact hr
          · rename_i ha
            have hge : as.length ≤ t := List.getElem?_eq_none_iff.1 ha
            have : (args.toArray ++ Array.replicate (F.ntmps - args.toArray.size) undef).getD t undef = undef := by
              rw [Array.getD_eq_getD_getElem?, Array.getElem?_append, if_neg (by simp; omega)]
              rw [Array.getElem?_replicate]
              split <;> rfl
            rw [this]; exact ⟨[], rfl, .nil⟩
        refine exec_wp hG hcf c hok st h fun x C' fr' hp' a' w' k1 k2 k3 => ?_
        obtain ⟨hx, M, gs, ⟨hM, hGs⟩, l, hl, os, hos, hk⟩ := k1
        obtain ⟨l, hp2⟩ := l
        obtain ⟨vs, C2, hvs, hfa, hle2, hwr2, hst2⟩ := run_resO hG k2 hl
        have hres : (results F a'.tmps).run G.P w' = .ok (if h : vs.length = 1 then vs[0] else .tuple vs.toArray) w' := by
          have e1 : (F.results.mapM (resS a')).run G.P w' = .ok vs.toArray w' := by
            rw [Array.mapM_eq_mapM_toList]
            simp [hvs]
          have e2 : results F a'.tmps = (do let vs ← F.results.mapM (resS a'); pure (if h : vs.size = 1 then vs[0] else .tuple vs)) := by
            unfold results
            congr 1
          rw [e2]
          simp only [Sem.run_bind, e1, Result.andThen_ok, Sem.run_pure]
          simp
        have fin : ∀ ls (C2 : Cx G.tab), FA (RepA C2) ls vs → RepAV C2 (tupOf ls) (if h : vs.length = 1 then vs[0] else .tuple vs.toArray) := fun ls C2 hf => by
          have hl2 := fa_len hf
          match ls, vs, hf with
          | [], [], _ => exact ⟨[], rfl, .nil⟩
          | [a], [x], hf => cases hf with | cons h _ => exact h
          | a :: b :: ls, x :: y :: vs, hf => exact ⟨x :: y :: vs, rfl, hf⟩
        obtain ⟨D, hrs, hwr, hstp, hge⟩ := out_end hw hwr2 (k3.trans hst2) h16 hM hGs (wkL_rep 3 hfa) hos hk
        cases x with
        | nrm => exact ⟨k2.defers, _, hres, _, D, rfl, fin _ _ hrs, hwr, hstp, hge⟩
        | ret => exact ⟨k2.defers, _, hres, _, D, rfl, fin _ _ hrs, hwr, hstp, hge⟩
        | ext id => exact hx.elim

/-- What is told of calls comes true. -/
theorem CE_sound (hG : G.Ok) (hO : CFS G G.orc) : CFS G (CE G) := by
  intro f as obs rs obs' h
  refine h (fun f as obs rs obs' => ∀ (C : Cx G.tab) (w : World) (args : List Value), FA (RepA C) as args → WR C (heap0 obs) w → obs.length ≤ 16 →
    Calls G.P f args.toArray w fun e w' => ∃ (x : Value) (C' : Cx G.tab), e = .returned x ∧ RepAV C' (tupOf rs) x ∧ WR C' (heapN obs.length obs') w' ∧ Stp C C' w w' ∧ obs.length ≤ obs'.length) ?_ ?_
  · intro f as obs rs obs' hb
    exact body_sound hG (fun f as obs rs obs' h => h) f as obs rs obs' hb
  · intro f as obs rs obs' hb
    exact hO f as obs rs obs' hb

/-! ### more is told of calls, more is told -/
theorem opQ_mono {cf' : CF} (hm : ∀ f as obs rs obs', cf f as obs rs obs' → cf' f as obs rs obs') {fid rid i : Nat} {o : Oper} {ρ : Operand → AV} {hp : Hp} {K K' : KO} (hK : ∀ v hp, K v hp → K' v hp) (h : opQ G cf fid rid i o ρ hp K) (hρ : ∀ f, ρ (.func f) = .one (.fn f [])) : opQ G cf' fid rid i o ρ hp K' := by
  obtain ⟨v, hp', hk, hd⟩ := (opQ_kind hρ h).2.2.2
  have h2 := hd (fun v2 h2 => K' v2 h2) (hK _ _ hk)
  by_cases hc : ∃ c f, o.op = .call c ∧ c.callee = .value f
  · obtain ⟨c, f, ho, hcal⟩ := hc
    obtain ⟨dst, op, ty, pos, aft, gd⟩ := o
    obtain ⟨cal, args, ats⟩ := c
    simp only at ho hcal
    subst ho hcal
    unfold opQ at h2 ⊢
    simp only at h2 ⊢
    split
    · rename_i f' caps hf
      simp only [hf] at h2
      rw [callP_eq] at h2 ⊢
      obtain ⟨q1, h2⟩ := h2
      refine ⟨q1, ?_⟩
      split at h2
      · rename_i he
        (try simp only [he])
        split at h2
        · rename_i as os has hos
          (try simp only [has, hos])
          obtain ⟨a1, h2⟩ := h2
          obtain ⟨obs, ⟨rs, obs', hc, hfr, h2⟩, hob⟩ := mapObK_pick h2
          exact ⟨a1, hob ⟨rs, obs', hm _ _ _ _ _ hc, hfr, h2⟩⟩
        · exact h2.elim
      · rename_i he
        (try simp only [he])
        split at h2
        · rename_i as has
          (try simp only [has])
          obtain ⟨rs, a1, a2⟩ := h2
          exact ⟨rs, hm _ _ _ _ _ a1, a2⟩
        · exact h2.elim
    · rename_i hn
      exfalso
      split at h2
      · rename_i f' caps hf; exact hn _ _ hf
      · exact h2
  · obtain ⟨dst, op, ty, pos, aft, gd⟩ := o
    have : opQ G cf' fid rid i ⟨dst, op, ty, pos, aft, gd⟩ ρ hp K' = opQ G cf fid rid i ⟨dst, op, ty, pos, aft, gd⟩ ρ hp K' := by
      unfold opQ
      cases op
      case call c =>
        obtain ⟨cal, args, ats⟩ := c
        cases cal <;> try rfl
        exact absurd ⟨_, _, rfl, rfl⟩ hc
      case makeFunc fn x y => cases fn <;> rfl
      case slice t x lo hi mx => cases mx <;> rfl
      case next x b => cases b <;> rfl
      all_goals rfl
    rw [this]; exact h2
theorem opR_mono {cf' : CF} (hm : ∀ f as obs rs obs', cf f as obs rs obs' → cf' f as obs rs obs') {fid rid i : Nat} {o : Oper} {ρ : Operand → AV} {hp : Hp} {K K' : KO} (hK : ∀ v hp, K v hp → K' v hp) (h : opR G cf fid rid i o ρ hp K) (hρ : ∀ f, ρ (.func f) = .one (.fn f [])) : opR G cf' fid rid i o ρ hp K' := by
  unfold opR at h ⊢
  split at h
  · rename_i h4
    refine opQ_mono hm (fun v hp hk => ?_) h hρ
    unfold fz at hk ⊢
    split at hk
    · split at hk
      · obtain ⟨vs, hq, h3, h4'⟩ := frzL_pick hk
        exact h4' _ (hK _ _ h3)
      · exact hk.elim
    · split at hk
      · exact ⟨hk.1, hK _ _ hk.2⟩
      · exact ⟨hk.1, hK _ _ hk.2⟩
      · exact hk.elim
    · exact hK _ _ hk
  · unfold truncP at h ⊢
    split at h
    · rename_i t x hi ho
      split at h
      · rename_i ti id g k n hti hx hhi
        split at h
        · rename_i e hel
          split at h
          · rename_i te e' sz es g' pin hte hcs
            rw [named_eq] at h ⊢
            exact ⟨h.1, h.2.1, h.2.2.1, h.2.2.2.1, h.2.2.2.2.1, hK _ _ h.2.2.2.2.2⟩
          · exact h.elim
        · exact h.elim
      · exact h.elim
    · exact h.elim
  · unfold homeP at h ⊢
    split at h
    · split at h
      · split at h
        · split at h
          · split at h
            · exact ⟨h.1, h.2.1, opQ_mono hm hK h.2.2 fun f => hρ f⟩
            · exact h.elim
          · exact h.elim
        · exact h.elim
      · exact h.elim
    · exact h.elim
  · exact ⟨h.1, opQ_mono hm hK h.2 hρ⟩
  · exact opQ_mono hm (fun v hp' hk => ⟨hk.1, hK _ _ hk.2⟩) h hρ
  · obtain ⟨v, hp', hk, hd⟩ := treP_pick h; exact hd _ (hK _ _ hk)
  · obtain ⟨v, hp', hk, hd⟩ := treP_pick h; exact hd _ (hK _ _ hk)
  · obtain ⟨v, hp', hk, hd⟩ := lendP_pick h
    have h := hd _ (hK _ _ hk)
    unfold lendP at h ⊢
    split at h
    rotate_left
    · exact h.elim
    rename_i c ho
    split at h
    rotate_left
    · exact h.elim
    rename_i f hc
    split at h
    rotate_left
    · exact h.elim
    rename_i f' hf
    obtain ⟨h1, h⟩ := h
    obtain ⟨bs, ⟨rs, obs', q1, q2⟩, hd⟩ := lendL_pick h
    exact ⟨h1, hd _ ⟨rs, obs', hm _ _ _ _ _ q1, q2⟩⟩
  · exact opQ_mono hm hK h hρ
theorem opP_mono {cf' : CF} (hm : ∀ f as obs rs obs', cf f as obs rs obs' → cf' f as obs rs obs') {fid rid i : Nat} {o : Oper} {ρ : Operand → AV} {hp : Hp} {K K' : KO} (hK : ∀ v hp, K v hp → K' v hp) (h : opP G cf fid rid i o ρ hp K) (hρ : ∀ f, ρ (.func f) = .one (.fn f [])) : opP G cf' fid rid i o ρ hp K' := by
  unfold opP at h ⊢
  split at h
  · exact opR_mono hm hK h hρ
  · refine opR_mono hm (fun v hp' hk => ?_) h hρ
    obtain ⟨hp2, h1, h2⟩ := joinP_pick hk
    exact h2 _ (hK _ _ h1)
theorem stepP_mono {cf' : CF} (hm : ∀ f as obs rs obs', cf f as obs rs obs' → cf' f as obs rs obs') {fid rid i : Nat} {ops : Array Oper} {o : Oper} {fr : Fr} {hp : Hp} {K K' : KO} (hK : ∀ v hp, K v hp → K' v hp) (h : stepP G cf fid rid ops i o fr hp K) : stepP G cf' fid rid ops i o fr hp K' := by
  unfold stepP at h ⊢
  split
  · rename_i hg
    simp only [hg] at h
    exact opP_mono hm hK h fun _ => rfl
  · rename_i j want hg
    simp only [hg] at h
    split
    · rename_i hd; simp only [hd] at h
    · rename_i d hd
      simp only [hd] at h
      split
      · rename_i b hb
        simp only [hb] at h
        rcases h with ⟨q, h⟩ | ⟨q, h⟩
        · exact .inl ⟨q, opP_mono hm hK h fun _ => rfl⟩
        · exact .inr ⟨q, hK _ _ h⟩
      · rename_i hb
        simp only [hb] at h
        exact hK _ _ h
      · rename_i n1 n2
        split at h
        · rename_i b hb; exact n1 b hb
        · rename_i hb; exact n2 hb
        · exact h
theorem runP_mono {cf' : CF} (hm : ∀ f as obs rs obs', cf f as obs rs obs' → cf' f as obs rs obs') {fid rid : Nat} {ops : Array Oper} : ∀ {l : List (Nat × Oper)} {fr : Fr} {hp : Hp} {K K' : Fr → Hp → Prop}, (∀ fr hp, K fr hp → K' fr hp) → runP G cf fid rid ops l fr hp K → runP G cf' fid rid ops l fr hp K'
  | [], fr, hp, K, K', hK, h => hK _ _ h
  | (i, o) :: l, fr, hp, K, K', hK, h => by
    rw [runP_cons] at h ⊢
    exact stepP_mono hm (fun v hp' hh => runP_mono hm hK hh) h
theorem exec_mono {cf' : CF} (hm : ∀ f as obs rs obs', cf f as obs rs obs' → cf' f as obs rs obs') {fid : FuncId} : ∀ (c : Code) {fr : Fr} {hp : Hp} {K K' : KX}, (∀ x fr hp, K x fr hp → K' x fr hp) → exec G cf fid c fr hp K → exec G cf' fid c fr hp K' := by
  intro c
  induction c with
  | skip => intro fr hp K K' hK h; exact hK _ _ _ h
  | region rid ops d =>
    intro fr hp K K' hK h
    cases d with
    | true => exact ⟨h.1, runP_mono hm (fun _ _ hh => hK _ _ _ hh) h.2⟩
    | false => exact runP_mono (K' := fun fr hp => K' .nrm fr hp) hm (fun _ _ hh => hK _ _ _ hh) h
  | seq x y ihx ihy =>
    intro fr hp K K' hK h
    have hs : ∀ {fr : Fr} {hp : Hp}, (exec G cf fid x fr hp fun z fr hp => match z with
        | .nrm => exec G cf fid y fr hp K
        | z => K z fr hp) → exec G cf' fid x fr hp fun z fr hp => match z with
        | .nrm => exec G cf' fid y fr hp K'
        | z => K' z fr hp := fun h => ihx (fun z fr hp hh => by
      cases z with
      | nrm => exact ihy hK hh
      | ext id => exact hK _ _ _ hh
      | ret => exact hK _ _ _ hh) h
    rw [exec_seq] at h ⊢
    simp only [seqP] at h ⊢
    cases hj : joinAt x with
    | none => rw [hj] at h; exact hs h
    | some n =>
      rw [hj] at h
      simp only at h ⊢
      cases hq : G.cut fid n with
      | false => rw [hq] at h; exact hs h
      | true =>
        rw [hq] at h
        obtain ⟨Mid, h1, h2⟩ := h.out
        exact Jn.go ⟨Mid, ihx (fun z fr hp hh => by
          cases z with
          | nrm => exact hh
          | ext id => exact hK _ _ _ hh
          | ret => exact hK _ _ _ hh) h1, fun fr hp hh => ihy hK (h2 fr hp hh)⟩
  | cond cnd x y ihx ihy =>
    intro fr hp K K' hK h
    have e : ∀ cf K, exec G cf fid (.cond cnd x y) fr hp K = (match ev fr cnd with | .one (.val (.bool b)) => (b = true ∧ exec G cf fid x fr hp K) ∨ (b = false ∧ exec G cf fid y fr hp K) | _ => False) := fun _ _ => rfl
    rw [e] at h ⊢
    generalize ev fr cnd = v at h ⊢
    split at h
    · rcases h with ⟨q, h⟩ | ⟨q, h⟩
      · exact .inl ⟨q, ihx hK h⟩
      · exact .inr ⟨q, ihy hK h⟩
    · exact h.elim
  | block id x ih =>
    intro fr hp K K' hK h
    refine ih (fun z fr hp hh => ?_) h
    cases z with
    | nrm => exact hK _ _ _ hh
    | ext j =>
      simp only at hh ⊢
      cases e : Nat.beq j id with
      | true => rw [e] at hh; exact hK _ _ _ hh
      | false => rw [e] at hh; exact hK _ _ _ hh
    | ret => exact hK _ _ _ hh
  | loop x ih =>
    intro fr hp K K' hK h
    refine fun I hI => h I fun fr' hp' hb => hI _ _ ?_
    obtain ⟨K1, hK1, hb⟩ := hb
    refine ⟨_, fun z fr hp hh => ?_, ih (fun _ _ _ hh => hh) hb⟩
    replace hh := hK1 _ _ _ hh
    cases z with
    | nrm => exact hh
    | ext id => exact hK _ _ _ hh
    | ret => exact hK _ _ _ hh
  | exit id => intro fr hp K K' hK h; exact hK _ _ _ h
  | ret => intro fr hp K K' hK h; exact hK _ _ _ h
  | rangeFunc f ps x y => intro fr hp K K' hK h; exact h.elim
  | scope x => intro fr hp K K' hK h; exact h.elim
  | label l => intro fr hp K K' hK h; exact h.elim
  | goto l => intro fr hp K K' hK h; exact h.elim
  | refuse s => intro fr hp K K' hK h; exact h.elim
theorem CE.orc {f : FuncId} {as : List A0} {obs : List Ob} {rs : List A0} {obs' : List Ob} (h : G.orc f as obs rs obs') : CE G f as obs rs obs' := fun _ _ ho => ho _ _ _ _ _ h
/-- A body tells it. -/
theorem CE.mk {f : FuncId} {as : List A0} {obs : List Ob} {rs : List A0} {obs' : List Ob} (h : bodyP G (CE G) f as obs rs obs') : CE G f as obs rs obs' := by
  intro cf hcf ho
  refine hcf _ _ _ _ _ ?_
  obtain ⟨F, c, h1, h2, h3, h4⟩ := h
  exact ⟨F, c, h1, h2, h3, exec_mono (fun f as obs rs obs' hh => hh cf hcf ho) c (fun _ _ _ hh => hh) h4⟩
end
end Go.Proofs.YtccldchklemogaaW.AM
