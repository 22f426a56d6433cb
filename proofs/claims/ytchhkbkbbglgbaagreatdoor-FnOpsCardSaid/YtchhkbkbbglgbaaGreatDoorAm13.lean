/- The abstract machine: code, and calls of any depth. -/
import Derived.Test.YtchhkbkbbglgbaaGreatDoorAm12
set_option linter.unusedSectionVars false
set_option linter.unusedVariables false
set_option linter.unusedSimpArgs false
namespace Go.Proofs.YtchhkbkbbglgbaaGreatDoorW.AM
open Go Go.RowKit
variable {TT : Tab}
/-! ### what a loop forgets -/
def Cx.keep (C : Cx TT) (L : List Nat) : Cx TT := { C with loc := fun id => if id ∈ L then C.loc id else none }
theorem any_beq {L : List Nat} {id : Nat} : L.any (Nat.beq id) = true ↔ id ∈ L := by
 rw [List.any_eq_true]
 exact ⟨fun ⟨x, hx, hb⟩ => by rw [Nat.eq_of_beq_eq_true hb]; exact hx, fun h => ⟨id, h, Nat.beq_refl id⟩⟩
theorem keep_loc {C : Cx TT} {L : List Nat} {id : Nat} (h : id ∈ L) : (C.keep L).loc id = C.loc id := by simp [Cx.keep, h]
theorem clean_rep {C : Cx TT} {L : List Nat} {a : A0} {x : Value} (h : RepA C a x) : RepA (C.keep L) (a.clean L) x := by
 unfold A0.clean
 cases hw : a.within L with
 | false => trivial
 | true =>
  simp only [cond_true]
  cases a with
  | val v => exact h
  | ptr id off => obtain ⟨b, hb, hx⟩ := h; exact ⟨b, by rw [keep_loc (any_beq.1 hw)]; exact hb, hx⟩
  | nilp => exact h
  | ref id g => obtain ⟨h0, g', sz, v, hb, hx⟩ := h; exact ⟨h0, g', sz, v, by rw [keep_loc (any_beq.1 hw)]; exact hb, hx⟩
  | ep id g i off => obtain ⟨h0, g', sz, v, hb, hx⟩ := h; exact ⟨h0, g', sz, v, by rw [keep_loc (any_beq.1 hw)]; exact hb, hx⟩
  | vp e off => exact h
  | fn f caps =>
   obtain ⟨vs, hx, hfa⟩ := h
   refine ⟨vs, hx, fa_of (fa_len hfa) fun i id v hid hv => ?_⟩
   obtain ⟨v', hv', b, hb, he⟩ := fa_get hfa hid
   rw [hv] at hv'; cases hv'
   have := List.all_eq_true.1 hw id (List.mem_iff_getElem?.2 ⟨i, hid⟩)
   exact ⟨b, by rw [keep_loc (any_beq.1 this)]; exact hb, he⟩
  | nilrow => exact h
  | dead => trivial
  | sp id => obtain ⟨vs, hb, hx⟩ := h; exact ⟨vs, by rw [keep_loc (any_beq.1 hw)]; exact hb, hx⟩
theorem fa_map_same {α β γ : Type} {R : α → β → Prop} {S : γ → β → Prop} {f : α → γ} (hf : ∀ a b, R a b → S (f a) b) {l : List α} {m : List β} (h : FA R l m) : FA S (l.map f) m := fa_map_l (fa_imp hf h)
theorem cleanV_rep {C : Cx TT} {L : List Nat} {a : AV} {x : Value} (h : RepAV C a x) : RepAV (C.keep L) (a.clean L) x := by
 cases a with
 | one a => exact clean_rep h
 | tup as => obtain ⟨vs, hx, hf⟩ := h; exact ⟨vs, hx, fa_map_same (fun _ _ h => clean_rep h) hf⟩
theorem cleanH_get {L : List Nat} {hp : Hp} : ∀ (ids : List Nat) (id : Nat), cleanH L hp ids id = if id ∈ ids then (hp id).map (·.clean L) else none
 | [], id => by simp [cleanH]
 | a :: ids, id => by
  cases ho : hp a with
  | some o =>
   have e0 : cleanH L hp (a :: ids) = upd a (o.clean L) (cleanH L hp ids) := by simp [cleanH, ho]
   rw [e0]
   simp only [upd]
   by_cases e : id = a
   ·subst e; rw [if_pos rfl, if_pos (by simp), ho]; rfl
   ·rw [if_neg e, cleanH_get ids id]; simp [e]
  | none =>
   have e0 : cleanH L hp (a :: ids) = cleanH L hp ids := by simp [cleanH, ho]
   rw [e0, cleanH_get ids id]
   by_cases e : id = a
   ·subst e; rw [ho]; simp
   ·simp [e]
theorem keep_wr {C : Cx TT} {hp : Hp} {w : World} (h : WR C hp w) (L : List Nat) : WR (C.keep L) (cleanH L hp L) w := by
 have hblk : ∀ id b, blk (C.keep L) id = some b → blk C id = some b := fun id b hb => by
  by_cases hm : id ∈ L
  ·unfold blk at hb ⊢; rwa [keep_loc hm] at hb
  ·simp [blk, Cx.keep, hm] at hb
 refine ⟨h.inI, fun id hid => ?_, fun id o hid => ?_, fun id id' b h1 h2 => h.sep id id' b (hblk _ _ h1) (hblk _ _ h2), fun id b h1 => h.lt id b (hblk _ _ h1), h.inT, fun b n hh => ⟨(h.inZ b n hh).1, fun id h1 => (h.inZ b n hh).2 id (hblk _ _ h1)⟩⟩
 ·rw [cleanH_get] at hid
  by_cases hm : id ∈ L
  ·rw [if_pos hm] at hid
   rw [keep_loc hm]; exact h.dom id (by simpa using hid)
  ·simp [Cx.keep, hm]
 ·rw [cleanH_get] at hid
  by_cases hm : id ∈ L
  ·rw [if_pos hm] at hid
   obtain ⟨o', ho', rfl⟩ := Option.map_eq_some_iff.1 hid
   obtain ⟨l, hl, hob⟩ := h.ob id o' ho'
   refine ⟨l, by rw [keep_loc hm]; exact hl, ?_⟩
   cases o' <;> cases l <;> try exact hob.elim
   ·obtain ⟨T, vs, h1, h2, h3, h4⟩ := hob
    exact ⟨T, vs, h1, fa_map_same (fun _ _ h => clean_rep h) h2, h3, h4⟩
   ·exact hob
   ·exact hob
   ·exact ⟨fa_map_same (fun _ _ h => clean_rep h) hob.1, hob.2⟩
  ·rw [if_neg hm] at hid; cases hid
theorem keep_stp {C : Cx TT} {w : World} (L : List Nat) : Stp C (C.keep L) w w := by
 have hblk : ∀ id b, blk (C.keep L) id = some b → blk C id = some b := fun id b hb => by
  by_cases hm : id ∈ L
  ·unfold blk at hb ⊢; rwa [keep_loc hm] at hb
  ·simp [blk, Cx.keep, hm] at hb
 refine ⟨fun _ _ _ h => h, fun id hid => ?_, Fp.refl _ _ _ _, fun id b h => .inr ⟨id, hblk _ _ h⟩⟩
 by_cases hm : id ∈ L
 ·rw [keep_loc hm]; exact (Stp.refl C w).low id hid
 ·left; simp [Cx.keep, hm]
theorem keep_st {nt} {C : Cx TT} {fr hp a w} (h : St nt C fr hp a w) (L : List Nat) : St nt (C.keep L) (cleanF L fr) (cleanH L hp L) a w :=
 ⟨h.defers, h.size, fun t => cleanV_rep (h.slots t), keep_wr h.wr L⟩
def X.exit : X → Exit
 | .nrm => .normal
 | .ext id => .exit id
 | .ret => .ret
section
variable {G : Env} {cf : CF}
theorem seq_open {fid : FuncId} {x y : Code} {fr : Fr} {hp : Hp} {K : KX} (h : exec G cf fid (.seq x y) fr hp K) :
  (exec G cf fid x fr hp fun z fr hp => match z with
   | .nrm => exec G cf fid y fr hp K
   | z => K z fr hp) ∨ ∃ L : List Nat, ∃ Mid : Fr → Hp → Prop, (exec G cf fid x fr hp fun z fr hp => match z with
    | .nrm => Mid (cleanF L fr) (cleanH L hp L)
    | z => K z fr hp) ∧ ∀ fr hp, Mid fr hp → exec G cf fid y fr hp K := by
 rw [exec_seq] at h
 simp only [seqP] at h
 split at h
 ·exact .inl h
 ·split at h
  ·exact .inl h
  ·exact .inr h.out
theorem exec_wp (hG : G.Ok) (hcf : CFS G cf) {nt : Nat} {fid : FuncId} : ∀ (c : Code), codeOK nt c = true → ∀ {C : Cx G.tab} {fr : Fr} {hp : Hp} {a : Act} {w : World} {K : KX}, St nt C fr hp a w → exec G cf fid c fr hp K →
  ∀ {Q : Exit → Act → World → Prop}, (∀ x C' fr' hp' a' w', K x fr' hp' → St nt C' fr' hp' a' w' → Stp C C' w w' → Q x.exit a' w') → c.wp G.P Q a w := by
 intro c
 induction c with
 | skip => intro _ C fr hp a w K st h Q hQ; exact wp_skip (hQ .nrm C fr hp a w h st (Stp.refl _ _))
 | region rid ops d =>
  intro hok C fr hp a w K st h Q hQ
  cases d with
  | true => exact draw_wp hG hcf hok h.1 st h.2 fun C' fr' hp' a' w' k1 k2 k3 => hQ .nrm C' fr' hp' a' w' k1 k2 k3
  | false => exact region_wp hG hcf hok st h fun C' fr' hp' a' w' k1 k2 k3 => hQ .nrm C' fr' hp' a' w' k1 k2 k3
 | seq x y ihx ihy =>
  intro hok C fr hp a w K st h Q hQ
  simp only [codeOK, Bool.and_eq_true] at hok
  rcases seq_open h with h | ⟨L, Mid, h, hm⟩
  ·refine wp_seq (ihx hok.1 st h fun z C' fr' hp' a' w' k1 k2 k3 => ?_)
   cases z with
   | nrm => exact ihy hok.2 k2 k1 fun z2 C2 fr2 hp2 a2 w2 q1 q2 q3 => hQ z2 C2 fr2 hp2 a2 w2 q1 q2 (k3.trans q3)
   | ext id => exact hQ (.ext id) C' fr' hp' a' w' k1 k2 k3
   | ret => exact hQ .ret C' fr' hp' a' w' k1 k2 k3
  ·refine wp_seq (ihx hok.1 st h fun z C' fr' hp' a' w' k1 k2 k3 => ?_)
   cases z with
   | nrm => exact ihy hok.2 (keep_st k2 L) (hm _ _ k1) fun z2 C2 fr2 hp2 a2 w2 q1 q2 q3 => hQ z2 C2 fr2 hp2 a2 w2 q1 q2 ((k3.trans (keep_stp L)).trans q3)
   | ext id => exact hQ (.ext id) C' fr' hp' a' w' k1 k2 k3
   | ret => exact hQ .ret C' fr' hp' a' w' k1 k2 k3
 | cond cnd x y ihx ihy =>
  intro hok C fr hp a w K st h Q hQ
  simp only [codeOK, Bool.and_eq_true] at hok
  rw [exec_cond] at h
  split at h
  ·rename_i b hb
   have hr := st.ev cnd
   rw [hb] at hr
   have hr' : RepV C.I (.bool b) (a.eval cnd) := hr
   have hev : a.eval cnd = .bool b := by generalize a.eval cnd = z at hr'; cases hr'; rfl
   rcases h with ⟨rfl, h⟩ | ⟨rfl, h⟩
   ·exact wp_cond_true hev (ihx hok.1 st h hQ)
   ·exact wp_cond_false hev (ihy hok.2 st h hQ)
  ·exact h.elim
 | block id x ih =>
  intro hok C fr hp a w K st h Q hQ
  refine wp_block (ih hok st h fun z C' fr' hp' a' w' k1 k2 k3 => ?_)
  cases z with
  | nrm => exact hQ .nrm C' fr' hp' a' w' k1 k2 k3
  | ext j =>
   simp only [X.exit, Exit.inBlock]
   simp only at k1
   by_cases e : j = id
   ·subst e
    rw [if_pos rfl]
    rw [Nat.beq_refl j] at k1
    exact hQ .nrm C' fr' hp' a' w' k1 k2 k3
   ·rw [if_neg e]
    have hb : Nat.beq j id = false := by
     cases hh : Nat.beq j id with
     | false => rfl
     | true => exact absurd (Nat.eq_of_beq_eq_true hh) e
    rw [hb] at k1
    exact hQ (.ext j) C' fr' hp' a' w' k1 k2 k3
  | ret => exact hQ .ret C' fr' hp' a' w' k1 k2 k3
 | loop x ih =>
  intro hok C fr hp a w K st h Q hQ
  obtain ⟨L, h⟩ := h
  intro b k cs
  have key := h (fun fr' hp' => ∀ (C' : Cx G.tab) (a' : Act) (w' : World), St nt C' fr' hp' a' w' → Stp C C' w w' → ∃ e a2 w2, Q e a2 w2 ∧ Arrives G.P (lone (b.at a' (.code x :: .inLoop x :: k)) cs w') b k cs e a2 w2) (fun fr' hp' hb0 C' a' w' st' hs => by
   obtain ⟨K', hK', hb⟩ := hb0
   have hx := ih hok st' hb (Q := fun e a2 w2 => match e with
    | .normal => ∃ e2 a3 w3, Q e2 a3 w3 ∧ Arrives G.P (lone (b.at a2 (.code x :: .inLoop x :: k)) cs w2) b k cs e2 a3 w3
    | e => Q e a2 w2) (fun z C2 fr2 hp2 a2 w2 k1 k2 k3 => by
     replace k1 := hK' _ _ _ k1
     cases z with
     | nrm => exact k1 _ _ _ (keep_st k2 L) (hs.trans (k3.trans (keep_stp L)))
     | ext id => exact hQ (.ext id) C2 fr2 hp2 a2 w2 k1 k2 (hs.trans k3)
     | ret => exact hQ .ret C2 fr2 hp2 a2 w2 k1 k2 (hs.trans k3))
   obtain ⟨e, a₁, w₁, hq, harr⟩ := hx b (.inLoop x :: k) cs
   cases e with
   | normal =>
    obtain ⟨e₂, a₂, w₂, hq₂, harr₂⟩ := hq
    exact ⟨e₂, a₂, w₂, hq₂, .of_steps (Steps.trans harr (.one step_inLoop)) harr₂⟩
   | exit id => exact ⟨_, a₁, w₁, hq, .pass (x := .inLoop x) rfl (fun _ _ => .inl (by simp)) harr⟩
   | goto l => exact ⟨_, a₁, w₁, hq, .pass (x := .inLoop x) rfl (fun _ _ => .inl (by simp)) harr⟩
   | ret => exact ⟨_, a₁, w₁, hq, .pass (x := .inLoop x) rfl (fun _ _ => .inl (by simp)) harr⟩
   | panic ch => exact ⟨_, a₁, w₁, hq, .pass (x := .inLoop x) rfl (fun _ _ => .inl (by simp)) harr⟩
   | outgrown => exact ⟨_, a₁, w₁, hq, .pass (x := .inLoop x) rfl (fun _ _ => .inl (by simp)) harr⟩)
  obtain ⟨e, a2, w2, hq, harr⟩ := key _ _ _ (keep_st st L) (keep_stp L)
  exact ⟨e, a2, w2, hq, .of_steps (.one step_loop) harr⟩
 | exit id => intro _ C fr hp a w K st h Q hQ; exact wp_exit (hQ (.ext id) C fr hp a w h st (Stp.refl _ _))
 | ret => intro _ C fr hp a w K st h Q hQ; exact wp_ret (hQ .ret C fr hp a w h st (Stp.refl _ _))
 | rangeFunc f ps x y => intro _ C fr hp a w K st h; exact h.elim
 | scope x => intro _ C fr hp a w K st h; exact h.elim
 | label l => intro _ C fr hp a w K st h; exact h.elim
 | goto l => intro _ C fr hp a w K st h; exact h.elim
 | refuse s => intro _ C fr hp a w K st h; exact h.elim
/-! ### the end of a call -/
def resS (a : Act) : ResultVar → Sem Value
 | .tmp t => pure (a.tmps.getD t undef)
 | .cell t ty => do loadVar ty (← asAddr (a.tmps.getD t undef))
theorem run_results (hG : G.Ok) {w : World} {C : Cx TT} {hp : Hp} {nt : Nat} {fr : Fr} {a : Act} (st : St nt C fr hp a w) : ∀ {rs : List ResultVar} {l : List A0}, mapO (resA G fr hp) rs = some l →
  ∃ vs : List Value, (rs.mapM (resS a)).run G.P w = .ok vs w ∧ FA (RepA C) l vs
 | [], l, h => by simp [mapO] at h; subst h; exact ⟨[], by simp, .nil⟩
 | r :: rs, l, h => by
  simp only [mapO] at h
  split at h
  ·rename_i b bs h1 h2
   cases h
   obtain ⟨vs, hr, hf⟩ := run_results hG st h2
   have key : ∃ v, (resS a r).run G.P w = .ok v w ∧ RepA C b v := by
    cases r with
    | tmp t =>
     simp only [resA] at h1
     split at h1
     ·rename_i a0 ha
      cases h1
      have := st.slots t
      rw [ha] at this
      exact ⟨_, by simp [resS], this⟩
     ·cases h1
    | cell t ty =>
     simp only [resA] at h1
     split at h1
     ·rename_i ti id off hti ht
      split at h1
      ·rename_i cs hcs
       have hsl := st.slots t
       rw [ht] at hsl
       obtain ⟨bb, hb, hx⟩ := hsl
       obtain ⟨i, d, z, hs⟩ := ti_spec (hG.ti _ _ hti)
       obtain ⟨lo, hlo, hob⟩ := st.wr.ob id _ hcs
       rw [hb] at hlo; cases hlo
       obtain ⟨T, us, hbb, hrr, hone, _⟩ := hob
       have hp1 := partA_rep h1 hrr hone
       obtain ⟨u, hu1, hu2⟩ := run_part (w := w) hs bb 0 off us (fun j u hu => by simp [World.cell?, hbb, hu]) hp1
       rw [Nat.zero_add] at hu1
       exact ⟨u, by simp [resS, hx, asAddr, hu1], hu2⟩
      ·cases h1
     ·cases h1
   obtain ⟨v, hv, hrep⟩ := key
   refine ⟨v :: vs, ?_, .cons hrep hf⟩
   rw [List.mapM_cons]
   simp only [Sem.run_bind]
   rw [hv]
   simp only [Result.andThen_ok, hr, Sem.run_pure]
  ·cases h
theorem run_resO (hG : G.Ok) {w : World} {fid : FuncId} {nt : Nat} {fr : Fr} {a : Act} : ∀ {rs : List ResultVar} {n : Nat} {C : Cx TT} {hp hp2 : Hp} {l : List A0}, St nt C fr hp a w → resO G fid fr n hp rs = some (l, hp2) →
  ∃ (vs : List Value) (C2 : Cx TT), (rs.mapM (resS a)).run G.P w = .ok vs w ∧ FA (RepA C2) l vs ∧ Le C C2 ∧ WR C2 hp2 w ∧ Stp C C2 w w
 | [], n, C, hp, hp2, l, st, h => by
  simp only [resO, Option.some.injEq, Prod.mk.injEq] at h
  obtain ⟨rfl, rfl⟩ := h
  exact ⟨[], C, by simp, .nil, Le.refl _, st.wr, Stp.refl _ _⟩
 | r :: rs, n, C, hp, hp2, l, st, h => by
  simp only [resO] at h
  split at h
  ·split at h
   ·rename_i t ty
    split at h
    ·rename_i ti id off hti ht
     split at h
     ·rename_i cs hcs hnn
      split at h
      ·rename_i hcond
       rw [Bool.and_eq_true] at hcond
       have hagg := hcond.1
       have hle := Nat.le_of_ble_eq_true hcond.2
       split at h
       ·rename_i p hp
        obtain ⟨l', hp3⟩ := p
        simp only [Option.some.injEq, Prod.mk.injEq] at h
        obtain ⟨rfl, rfl⟩ := h
        have hsl := st.slots t
        rw [ht] at hsl
        obtain ⟨bb, hb, hx⟩ := hsl
        obtain ⟨i, d, z, hs⟩ := ti_spec (hG.ti _ _ hti)
        obtain ⟨lo, hlo, hob⟩ := st.wr.ob id _ hcs
        rw [hb] at hlo; cases hlo
        obtain ⟨T, us, hbb, hrr, hone, _⟩ := hob
        have hl := fa_len hrr
        obtain ⟨u, hu1, hu2⟩ := run_part (w := w) hs bb 0 off us (fun j u hu => by simp [World.cell?, hbb, hu]) (R := fun u => u = .agg ((us.drop off).take ti.size).toArray) (by rw [if_pos hagg]; exact ⟨by omega, rfl⟩)
        rw [Nat.zero_add] at hu1
        obtain ⟨n1, n2, n3⟩ := new_virt st.wr (pid 900000 n) hnn (pid_ge _ _) ((cs.drop off).take ti.size) ((us.drop off).take ti.size) (fa_take (fa_drop hrr off) _) (fun u hu => hone u (List.drop_subset _ _ (List.take_subset _ _ hu)))
        obtain ⟨vs, C2, q1, q2, q3, q4, q5⟩ := run_resO hG (rs := rs) (n := n + 1) ⟨st.defers, st.size, fun t => (st.slots t).mono n1, n2⟩ hp
        refine ⟨u :: vs, C2, ?_, .cons (RepA.mono q3 ⟨_, Cx.set_same _ _ _, hu2⟩) q2, n1.trans q3, q4, n3.trans q5⟩
        rw [List.mapM_cons]
        simp only [Sem.run_bind]
        rw [show (resS a (.cell t ty)).run G.P w = .ok u w by simp [resS, hx, asAddr, hu1]]
        simp only [Result.andThen_ok, q1, Sem.run_pure]
       ·cases h
      ·cases h
     ·cases h
    ·cases h
   ·cases h
  ·split at h
   ·rename_i a0 p ha hp
    obtain ⟨l', hp3⟩ := p
    simp only [Option.some.injEq, Prod.mk.injEq] at h
    obtain ⟨rfl, rfl⟩ := h
    obtain ⟨vs, C2, q1, q2, q3, q4, q5⟩ := run_resO hG (rs := rs) (n := n + 1) st hp
    obtain ⟨us, hr, hf⟩ := run_results hG st (rs := [r]) (l := [a0]) (by simp [mapO, ha])
    cases hf with
    | cons h1 t =>
     cases t
     rename_i v
     have hv : (resS a r).run G.P w = .ok v w := by
      rw [List.mapM_cons, List.mapM_nil] at hr
      simp only [Sem.run_bind] at hr
      cases e : (resS a r).run G.P w with
      | ok x w1 => rw [e] at hr; simp at hr; rw [hr.1, hr.2]
      | _ => rw [e] at hr; simp [Result.andThen] at hr
     refine ⟨v :: vs, C2, ?_, .cons (h1.mono q3) q2, q3, q4, q5⟩
     rw [List.mapM_cons]
     simp only [Sem.run_bind]
     rw [hv]
     simp only [Result.andThen_ok, q1, Sem.run_pure]
   ·cases h
theorem nodupB_nodup : ∀ {l : List Nat}, nodupB l = true → l.Nodup
 | [], _ => .nil
 | a :: l, h => by
  simp only [nodupB, Bool.and_eq_true, Bool.not_eq_true'] at h
  refine .cons (fun b hb e => ?_) (nodupB_nodup h.2)
  subst e
  have := h.1
  rw [List.any_eq_false] at this
  exact this a hb (Nat.beq_refl a)
theorem okG_look {obs : List Ob} : ∀ {gs : List (Nat × (Nat × Nat))}, okG obs gs → ∀ {id p}, lookG gs id = some p → match obs[id]? with
  | some (.own _ _ _ g _) => p.2 = g + 1
  | some (.box _) => False
  | some (.iter _ _) => False
  | some (.vbox _) => False
  | none => True
 | [], _, id, p, h => by simp [lookG] at h
 | q :: l, hg, id, p, h => by
  simp only [lookG] at h
  obtain ⟨h1, h2⟩ := hg
  split at h
  ·rename_i hb
   have := Nat.eq_of_beq_eq_true hb
   cases h
   rw [← this]; exact h1
  ·exact okG_look h2 h
def Cx.out (C : Cx TT) (m : Nat) (M : List Nat) (γ : Nat → Option (Nat × Nat)) : Cx TT := { C with loc := fun j => if j < m then gl (γ j) (C.loc j) else if 16 ≤ j then (match M[j - 16]? with | some id => gl (γ id) (C.loc id) | none => none) else none }
theorem out_loc {C : Cx TT} {m : Nat} (hm : m ≤ 16) {M : List Nat} {γ} {k id : Nat} (h : (List.range m ++ M)[k]? = some id) : (C.out m M γ).loc (nu m k) = gl (γ id) (C.loc id) := by
 unfold Cx.out nu
 simp only
 by_cases hk : k < m
 ·rw [List.getElem?_append_left (by simpa using hk), List.getElem?_range hk] at h
  cases h
  rw [if_pos hk, if_pos hk]
 ·rw [List.getElem?_append_right (by simpa using hk), List.length_range] at h
  rw [if_neg hk, if_neg (by omega), if_pos (by omega), show 16 + (k - m) - 16 = k - m by omega, h]
theorem out_inv {C : Cx TT} {m : Nat} (hm : m ≤ 16) {M : List Nat} {γ} {j b : Nat} (h : blk (C.out m M γ) j = some b) : ∃ k id, nu m k = j ∧ (List.range m ++ M)[k]? = some id ∧ blk C id = some b := by
 by_cases hj : j < m
 ·refine ⟨j, j, by simp [nu, hj], by rw [List.getElem?_append_left (by simpa using hj), List.getElem?_range hj], ?_⟩
  have e : (C.out m M γ).loc j = gl (γ j) (C.loc j) := by unfold Cx.out; simp only; rw [if_pos hj]
  unfold blk at h ⊢
  rw [e, gl_blk] at h; exact h
 ·by_cases h16 : 16 ≤ j
  ·cases hM : M[j - 16]? with
   | none =>
    have e : (C.out m M γ).loc j = none := by unfold Cx.out; simp only; rw [if_neg hj, if_pos h16, hM]
    unfold blk at h; rw [e] at h; cases h
   | some id =>
    have e : (C.out m M γ).loc j = gl (γ id) (C.loc id) := by unfold Cx.out; simp only; rw [if_neg hj, if_pos h16, hM]
    refine ⟨j - 16 + m, id, by unfold nu; rw [if_neg (by omega)]; omega, by rw [List.getElem?_append_right (by simp), List.length_range, show j - 16 + m - m = j - 16 by omega]; exact hM, ?_⟩
    unfold blk at h ⊢
    rw [e, gl_blk] at h; exact h
  ·have e : (C.out m M γ).loc j = none := by unfold Cx.out; simp only; rw [if_neg hj, if_neg h16]
   unfold blk at h; rw [e] at h; cases h
theorem outI_some {m : Nat} {M : List Nat} {id j : Nat} (h : outI m M id = some j) : ∃ k, (List.range m ++ M)[k]? = some id ∧ nu m k = j := by
 unfold outI at h
 split at h
 ·rename_i hb
  rw [Nat.blt_eq] at hb
  cases h
  exact ⟨id, by rw [List.getElem?_append_left (by simpa using hb), List.getElem?_range hb], by simp [nu, hb]⟩
 ·obtain ⟨q, hq, rfl⟩ := Option.map_eq_some_iff.1 h
  refine ⟨m + q, by rw [List.getElem?_append_right (by simp), List.length_range, show m + q - m = q by omega]; exact find_get hq, ?_⟩
  unfold nu; rw [if_neg (by omega)]; omega
theorem out_end {C0 C : Cx TT} {hp : Hp} {w0 w : World} {obs : List Ob} (h0 : WR C0 (heap0 obs) w0) (h : WR C hp w) (hst : Stp C0 C w0 w) (h16 : obs.length ≤ 16) {M : List Nat} {gs : List (Nat × (Nat × Nat))} (hM : okM obs.length M = true) (hG : okG obs gs) {l : List A0} {vs : List Value} (hl : FA (RepA C) l vs)
  {os : List (Nat × Ob)} (hos : obsAt hp (List.range obs.length ++ M) = some os) {rs : List A0} {obs' : List Ob}
  (hk : mapK (outI obs.length M) (lookG gs) l fun rs' => rs' = rs ∧ mapObK (outI obs.length M) (lookG gs) os fun os' => os' = obs') :
  ∃ D : Cx TT, FA (RepA D) rs vs ∧ WR D (heapN obs.length obs') w ∧ Stp C0 D w0 w ∧ obs.length ≤ obs'.length := by
 simp only [okM, Bool.and_eq_true, List.all_eq_true] at hM
 obtain ⟨hM1, hM2⟩ := hM
 have hnd : (List.range obs.length ++ M).Nodup := List.nodup_append.2 ⟨List.nodup_range, nodupB_nodup hM2, fun a ha b hb e => by
  subst e
  have h1 := List.mem_range.1 ha
  have h2 := Nat.le_of_ble_eq_true (hM1 a hb)
  omega⟩
 obtain ⟨hll, hget⟩ := obsAt_get hos
 have hat : ∀ k id, (List.range obs.length ++ M)[k]? = some id → ∃ o, os[k]? = some (id, o) ∧ hp id = some o := fun k id hk => by
  have hkl : k < os.length := by rw [← hll]; exact (List.getElem?_eq_some_iff.1 hk).1
  obtain ⟨h1, h2⟩ := hget k os[k] (by simp [hkl])
  rw [hk] at h1
  have e := Option.some.inj h1
  exact ⟨os[k].2, by rw [e, List.getElem?_eq_getElem hkl], by rw [e]; exact h2⟩
 have hgen : ∀ id j p, outI obs.length M id = some j → lookG gs id = some p → ∀ g sz v, C.loc id = some (.own g sz v) → g = p.1 := fun id j p hj hp' g sz v hloc => by
  obtain ⟨rs', ⟨_, hE⟩, _⟩ := mapK_pick hk
  obtain ⟨k, h1, _⟩ := outI_some hj
  obtain ⟨o, h2, h3⟩ := hat k id h1
  obtain ⟨lo, h4, h5⟩ := h.ob id o h3
  rw [hloc] at h4; cases h4
  cases o with
  | box cs => exact h5.elim
  | vbox _ => exact h5.elim
  | iter s1 p1 => exact h5.elim
  | own e1 sz1 es1 g1 pin1 =>
   have := h5.1
   subst this
   exact mapObK_gen hE (List.mem_iff_getElem?.2 ⟨k, h2⟩) hp'
 have hl2 : ∀ id j, outI obs.length M id = some j → (C.out obs.length M (lookG gs)).loc j = gl (lookG gs id) (C.loc id) := fun id j hj => by
  obtain ⟨k, h1, rfl⟩ := outI_some hj
  exact out_loc h16 h1
 obtain ⟨rs', hfa, rfl, hE⟩ := mapK_rep (C := C) (D := C.out obs.length M (lookG gs)) (fun _ _ _ h => h) hl2 hgen hk hl
 obtain ⟨os', rfl, hol, hoq⟩ := mapObK_rep (C := C) (D := C.out obs.length M (lookG gs)) (w := w) (fun _ _ => rfl) hl2 hgen hE (fun p hp' => by
  obtain ⟨k, hk'⟩ := List.mem_iff_getElem?.1 hp'
  exact h.ob _ _ (hget k p hk').2)
 have hlen : os'.length = obs.length + M.length := by rw [hol, ← hll]; simp
 refine ⟨C.out obs.length M (lookG gs), hfa, ⟨h.inI, fun j hj => ?_, fun j o hj => ?_, fun j j' b h1 h2 => ?_, fun j b h1 => ?_, h.inT, fun b n hh => ⟨(h.inZ b n hh).1, fun j h1 => by
  obtain ⟨k, id, _, _, e2⟩ := out_inv (by omega) h1
  exact (h.inZ b n hh).2 id e2⟩⟩, ⟨hst.I, fun id hid => ?_, hst.fp, fun j b h1 => ?_⟩, by omega⟩
 ·cases hb : (C.out obs.length M (lookG gs)).loc j with
  | none => rfl
  | some lo =>
   exfalso
   unfold Cx.out at hb
   simp only at hb
   unfold heapN at hj
   split at hb
   ·rename_i h1
    rw [blt_t h1] at hj
    have := List.getElem?_eq_none_iff.1 hj
    omega
   ·rename_i h1
    rw [blt_f h1] at hj
    split at hb
    ·rename_i h2
     rw [show Nat.ble 16 j = true from Nat.ble_eq_true_of_le h2] at hj
     have h3 := List.getElem?_eq_none_iff.1 hj
     rw [show M[j - 16]? = none from List.getElem?_eq_none_iff.2 (by omega)] at hb
     cases hb
    ·cases hb
 ·obtain ⟨k, rfl, h1⟩ := heapN_inv h16 hj
  have hkl : k < (List.range obs.length ++ M).length := by have := (List.getElem?_eq_some_iff.1 h1).1; rw [hll, ← hol]; exact this
  obtain ⟨id, hid⟩ : ∃ id, (List.range obs.length ++ M)[k]? = some id := ⟨_, List.getElem?_eq_getElem hkl⟩
  obtain ⟨o0, h2, _⟩ := hat k id hid
  obtain ⟨o', lo', h3, h4, h5⟩ := hoq k (id, o0) h2
  rw [h1] at h3; cases h3
  exact ⟨lo', by rw [out_loc h16 hid]; exact h4, h5⟩
 ·obtain ⟨k, id, rfl, e1, e2⟩ := out_inv h16 h1
  obtain ⟨k', id', rfl, e3, e4⟩ := out_inv h16 h2
  have := h.sep id id' b e2 e4
  subst this
  rw [nodup_inj hnd e1 e3]
 ·obtain ⟨k, id, rfl, e1, e2⟩ := out_inv h16 h1
  exact h.lt id b e2
 ·by_cases hm : id < obs.length
  ·have e : (C.out obs.length M (lookG gs)).loc id = gl (lookG gs id) (C.loc id) := by unfold Cx.out; simp only; rw [if_pos hm]
   rw [e]
   rcases hst.low id hid with h1 | ⟨b, h1, h2⟩ | ⟨g, sz, v, g', v', h1, h2, h3, h4⟩ | ⟨vs, h1, h2⟩
   ·rw [h1]; left; unfold gl; split <;> first | rfl | (rename_i q _; cases q)
   ·rw [h2]; right; left; refine ⟨b, h1, ?_⟩; unfold gl; split <;> first | rfl | (rename_i q _; cases q)
   ·rw [h2]
    cases hq : lookG gs id with
    | none => rw [gl_none]; exact .inr (.inr (.inl ⟨g, sz, v, g', v', h1, rfl, h3, h4⟩))
    | some p =>
     have hp2 := okG_look hG hq
     obtain ⟨ob, hob⟩ : ∃ ob, obs[id]? = some ob := ⟨obs[id], by simp [hm]⟩
     obtain ⟨lo, k1, k2⟩ := h0.ob id ob hob
     rw [h1] at k1; cases k1
     cases ob with
     | box cs => exact k2.elim
     | vbox _ => exact k2.elim
     | iter s1 p1 => exact k2.elim
     | own e1 sz1 es1 g1 pin1 =>
      rw [hob] at hp2
      have := k2.1
      subst this
      exact .inr (.inr (.inl ⟨g1, sz, v, p.2, v', h1, rfl, by omega, fun e => by omega⟩))
   ·rw [h2]; right; right; right; refine ⟨vs, h1, ?_⟩; unfold gl; split <;> first | rfl | (rename_i q _; cases q)
  ·left; unfold Cx.out; simp only; rw [if_neg hm, if_neg (by omega)]
 ·obtain ⟨k, id, rfl, e1, e2⟩ := out_inv h16 h1
  exact hst.new id b e2
theorem body_sound (hG : G.Ok) (hcf : CFS G cf) : CFS G (bodyP G cf) := by
    intro f as obs rs obs' h C w args hargs hw h16
    obtain ⟨F, c, hF, hc, ⟨hok, hal, _⟩, h⟩ := h
    refine calls_of_wp (hG.fn f F hF) hc ?_
    have hlen : args.length = as.length := (fa_len hargs).symm
    have st : St F.ntmps C (frame0 as) (heap0 obs) { tmps := args.toArray ++ Array.replicate (F.ntmps - args.toArray.size) undef, defers := [] } w := by
     refine ⟨rfl, by simp; omega, fun t => ?_, hw⟩
     simp only [frame0]
     split
     ·rename_i a ha
      obtain ⟨x, hx, hr⟩ := fa_get hargs ha
      have hlt : t < args.length := (List.getElem?_eq_some_iff.1 hx).1
      have : (args.toArray ++ Array.replicate (F.ntmps - args.toArray.size) undef).getD t undef = x := by
       rw [Array.getD_eq_getD_getElem?, Array.getElem?_append, if_pos (by simpa using hlt)]
       simp [hx]
      rw [this]; exact hr
     ·rename_i ha
      have hge : as.length ≤ t := List.getElem?_eq_none_iff.1 ha
      have : (args.toArray ++ Array.replicate (F.ntmps - args.toArray.size) undef).getD t undef = undef := by
       rw [Array.getD_eq_getD_getElem?, Array.getElem?_append, if_neg (by simp; omega)]
       rw [Array.getElem?_replicate]
       split <;> rfl
      rw [this]; exact ⟨[], rfl, .nil⟩
    refine exec_wp hG hcf c hok st h fun x C' fr' hp' a' w' k1 k2 k3 => ?_
    obtain ⟨hx, M, gs, ⟨hM, hGs⟩, l, hl, os, hos, hk⟩ := k1
    obtain ⟨l, hp2⟩ := l
    obtain ⟨vs, C2, hvs, hfa, hle2, hwr2, hst2⟩ := run_resO hG k2 hl
    have hres : (results F a'.tmps).run G.P w' = .ok (if h : vs.length = 1 then vs[0] else .tuple vs.toArray) w' := by
     have e1 : (F.results.mapM (resS a')).run G.P w' = .ok vs.toArray w' := by
      rw [Array.mapM_eq_mapM_toList]
      simp [hvs]
     have e2 : results F a'.tmps = (do let vs ← F.results.mapM (resS a'); pure (if h : vs.size = 1 then vs[0] else .tuple vs)) := by
      unfold results
      congr 1
     rw [e2]
     simp only [Sem.run_bind, e1, Result.andThen_ok, Sem.run_pure]
     simp
    have fin : ∀ ls (C2 : Cx G.tab), FA (RepA C2) ls vs → RepAV C2 (tupOf ls) (if h : vs.length = 1 then vs[0] else .tuple vs.toArray) := fun ls C2 hf => by
     have hl2 := fa_len hf
     match ls, vs, hf with
     | [], [], _ => exact ⟨[], rfl, .nil⟩
     | [a], [x], hf => cases hf with | cons h _ => exact h
     | a :: b :: ls, x :: y :: vs, hf => exact ⟨x :: y :: vs, rfl, hf⟩
    obtain ⟨D, hrs, hwr, hstp, hge⟩ := out_end hw hwr2 (k3.trans hst2) h16 hM hGs (wkL_rep 3 hfa) hos hk
    cases x with
    | nrm => exact ⟨k2.defers, _, hres, _, D, rfl, fin _ _ hrs, hwr, hstp, hge⟩
    | ret => exact ⟨k2.defers, _, hres, _, D, rfl, fin _ _ hrs, hwr, hstp, hge⟩
    | ext id => exact hx.elim
theorem CE_sound (hG : G.Ok) (hO : CFS G G.orc) : CFS G (CE G) := by
 intro f as obs rs obs' h
 refine h (fun f as obs rs obs' => ∀ (C : Cx G.tab) (w : World) (args : List Value), FA (RepA C) as args → WR C (heap0 obs) w → obs.length ≤ 16 →
  Calls G.P f args.toArray w fun e w' => ∃ (x : Value) (C' : Cx G.tab), e = .returned x ∧ RepAV C' (tupOf rs) x ∧ WR C' (heapN obs.length obs') w' ∧ Stp C C' w w' ∧ obs.length ≤ obs'.length) ?_ ?_
 ·intro f as obs rs obs' hb
  exact body_sound hG (fun f as obs rs obs' h => h) f as obs rs obs' hb
 ·intro f as obs rs obs' hb
  exact hO f as obs rs obs' hb
/-! ### more is told of calls, more is told -/
theorem opQ_mono {cf' : CF} (hm : ∀ f as obs rs obs', cf f as obs rs obs' → cf' f as obs rs obs') {fid rid i : Nat} {o : Oper} {ρ : Operand → AV} {hp : Hp} {K K' : KO} (hK : ∀ v hp, K v hp → K' v hp) (h : opQ G cf fid rid i o ρ hp K) (hρ : ∀ f, ρ (.func f) = .one (.fn f [])) : opQ G cf' fid rid i o ρ hp K' := by
 obtain ⟨v, hp', hk, hd⟩ := (opQ_kind hρ h).2.2.2
 have h2 := hd (fun v2 h2 => K' v2 h2) (hK _ _ hk)
 by_cases hc : ∃ c f, o.op = .call c ∧ c.callee = .value f
 ·obtain ⟨c, f, ho, hcal⟩ := hc
  obtain ⟨dst, op, ty, pos, aft, gd⟩ := o
  obtain ⟨cal, args, ats⟩ := c
  simp only at ho hcal
  subst ho hcal
  unfold opQ at h2 ⊢
  simp only at h2 ⊢
  split
  ·rename_i f' caps hf
   simp only [hf] at h2
   rw [callP_eq] at h2 ⊢
   obtain ⟨q1, h2⟩ := h2
   refine ⟨q1, ?_⟩
   split at h2
   ·rename_i he
    (try simp only [he])
    split at h2
    ·rename_i as os has hos
     (try simp only [has, hos])
     obtain ⟨a1, h2⟩ := h2
     obtain ⟨obs, ⟨rs, obs', hc, hfr, h2⟩, hob⟩ := mapObK_pick h2
     exact ⟨a1, hob ⟨rs, obs', hm _ _ _ _ _ hc, hfr, h2⟩⟩
    ·exact h2.elim
   ·rename_i he
    (try simp only [he])
    split at h2
    ·rename_i as has
     (try simp only [has])
     obtain ⟨rs, a1, a2⟩ := h2
     exact ⟨rs, hm _ _ _ _ _ a1, a2⟩
    ·exact h2.elim
  ·rename_i hn
   exfalso
   split at h2
   ·rename_i f' caps hf; exact hn _ _ hf
   ·exact h2
 ·obtain ⟨dst, op, ty, pos, aft, gd⟩ := o
  have : opQ G cf' fid rid i ⟨dst, op, ty, pos, aft, gd⟩ ρ hp K' = opQ G cf fid rid i ⟨dst, op, ty, pos, aft, gd⟩ ρ hp K' := by
   unfold opQ
   cases op
   case call c =>
    obtain ⟨cal, args, ats⟩ := c
    cases cal <;> try rfl
    exact absurd ⟨_, _, rfl, rfl⟩ hc
   case makeFunc fn x y => cases fn <;> rfl
   case slice t x lo hi mx => cases mx <;> rfl
   case next x b => cases b <;> rfl
   all_goals rfl
  rw [this]; exact h2
theorem opP_mono {cf' : CF} (hm : ∀ f as obs rs obs', cf f as obs rs obs' → cf' f as obs rs obs') {fid rid i : Nat} {o : Oper} {ρ : Operand → AV} {hp : Hp} {K K' : KO} (hK : ∀ v hp, K v hp → K' v hp) (h : opP G cf fid rid i o ρ hp K) (hρ : ∀ f, ρ (.func f) = .one (.fn f [])) : opP G cf' fid rid i o ρ hp K' := by
 unfold opP at h ⊢
 split at h
 ·rename_i h4
  refine opQ_mono hm (fun v hp hk => ?_) h hρ
  unfold fz at hk ⊢
  split at hk
  ·split at hk
   ·obtain ⟨vs, hq, h3, h4'⟩ := frzL_pick hk
    exact h4' _ (hK _ _ h3)
   ·exact hk.elim
  ·split at hk
   ·exact ⟨hk.1, hK _ _ hk.2⟩
   ·exact hk.elim
  ·exact hK _ _ hk
 ·unfold truncP at h ⊢
  split at h
  ·rename_i t x hi ho
   split at h
   ·rename_i ti id g k n hti hx hhi
    split at h
    ·rename_i e hel
     split at h
     ·rename_i te e' sz es g' pin hte hcs
      rw [named_eq] at h ⊢
      exact ⟨h.1, h.2.1, h.2.2.1, h.2.2.2.1, h.2.2.2.2.1, hK _ _ h.2.2.2.2.2⟩
     ·exact h.elim
    ·exact h.elim
   ·exact h.elim
  ·exact h.elim
 ·unfold homeP at h ⊢
  split at h
  ·split at h
   ·split at h
    ·split at h
     ·split at h
      ·exact ⟨h.1, h.2.1, opQ_mono hm hK h.2.2 fun f => hρ f⟩
      ·exact h.elim
     ·exact h.elim
    ·exact h.elim
   ·exact h.elim
  ·exact h.elim
 ·exact ⟨h.1, opQ_mono hm hK h.2 hρ⟩
 ·exact opQ_mono hm (fun v hp' hk => ⟨hk.1, hK _ _ hk.2⟩) h hρ
 ·exact opQ_mono hm hK h hρ
theorem stepP_mono {cf' : CF} (hm : ∀ f as obs rs obs', cf f as obs rs obs' → cf' f as obs rs obs') {fid rid i : Nat} {ops : Array Oper} {o : Oper} {fr : Fr} {hp : Hp} {K K' : KO} (hK : ∀ v hp, K v hp → K' v hp) (h : stepP G cf fid rid ops i o fr hp K) : stepP G cf' fid rid ops i o fr hp K' := by
 unfold stepP at h ⊢
 split
 ·rename_i hg
  simp only [hg] at h
  exact opP_mono hm hK h fun _ => rfl
 ·rename_i j want hg
  simp only [hg] at h
  split
  ·rename_i hd; simp only [hd] at h
  ·rename_i d hd
   simp only [hd] at h
   split
   ·rename_i b hb
    simp only [hb] at h
    rcases h with ⟨q, h⟩ | ⟨q, h⟩
    ·exact .inl ⟨q, opP_mono hm hK h fun _ => rfl⟩
    ·exact .inr ⟨q, hK _ _ h⟩
   ·rename_i hb
    simp only [hb] at h
    exact hK _ _ h
   ·rename_i n1 n2
    split at h
    ·rename_i b hb; exact n1 b hb
    ·rename_i hb; exact n2 hb
    ·exact h
theorem runP_mono {cf' : CF} (hm : ∀ f as obs rs obs', cf f as obs rs obs' → cf' f as obs rs obs') {fid rid : Nat} {ops : Array Oper} : ∀ {l : List (Nat × Oper)} {fr : Fr} {hp : Hp} {K K' : Fr → Hp → Prop}, (∀ fr hp, K fr hp → K' fr hp) → runP G cf fid rid ops l fr hp K → runP G cf' fid rid ops l fr hp K'
 | [], fr, hp, K, K', hK, h => hK _ _ h
 | (i, o) :: l, fr, hp, K, K', hK, h => by
  rw [runP_cons] at h ⊢
  exact stepP_mono hm (fun v hp' hh => runP_mono hm hK hh) h
theorem exec_mono {cf' : CF} (hm : ∀ f as obs rs obs', cf f as obs rs obs' → cf' f as obs rs obs') {fid : FuncId} : ∀ (c : Code) {fr : Fr} {hp : Hp} {K K' : KX}, (∀ x fr hp, K x fr hp → K' x fr hp) → exec G cf fid c fr hp K → exec G cf' fid c fr hp K' := by
 intro c
 induction c with
 | skip => intro fr hp K K' hK h; exact hK _ _ _ h
 | region rid ops d =>
  intro fr hp K K' hK h
  cases d with
  | true => exact ⟨h.1, runP_mono hm (fun _ _ hh => hK _ _ _ hh) h.2⟩
  | false => exact runP_mono (K' := fun fr hp => K' .nrm fr hp) hm (fun _ _ hh => hK _ _ _ hh) h
 | seq x y ihx ihy =>
  intro fr hp K K' hK h
  have hs : ∀ {fr : Fr} {hp : Hp}, (exec G cf fid x fr hp fun z fr hp => match z with
    | .nrm => exec G cf fid y fr hp K
    | z => K z fr hp) → exec G cf' fid x fr hp fun z fr hp => match z with
    | .nrm => exec G cf' fid y fr hp K'
    | z => K' z fr hp := fun h => ihx (fun z fr hp hh => by
   cases z with
   | nrm => exact ihy hK hh
   | ext id => exact hK _ _ _ hh
   | ret => exact hK _ _ _ hh) h
  rw [exec_seq] at h ⊢
  simp only [seqP] at h ⊢
  cases hj : joinAt x with
  | none => rw [hj] at h; exact hs h
  | some n =>
   rw [hj] at h
   simp only at h ⊢
   cases hq : G.cut fid n with
   | false => rw [hq] at h; exact hs h
   | true =>
    rw [hq] at h
    obtain ⟨L, Mid, h1, h2⟩ := h.out
    exact Jn.go ⟨L, Mid, ihx (fun z fr hp hh => by
     cases z with
     | nrm => exact hh
     | ext id => exact hK _ _ _ hh
     | ret => exact hK _ _ _ hh) h1, fun fr hp hh => ihy hK (h2 fr hp hh)⟩
 | cond cnd x y ihx ihy =>
  intro fr hp K K' hK h
  have e : ∀ cf K, exec G cf fid (.cond cnd x y) fr hp K = (match ev fr cnd with | .one (.val (.bool b)) => (b = true ∧ exec G cf fid x fr hp K) ∨ (b = false ∧ exec G cf fid y fr hp K) | _ => False) := fun _ _ => rfl
  rw [e] at h ⊢
  generalize ev fr cnd = v at h ⊢
  split at h
  ·rcases h with ⟨q, h⟩ | ⟨q, h⟩
   ·exact .inl ⟨q, ihx hK h⟩
   ·exact .inr ⟨q, ihy hK h⟩
  ·exact h.elim
 | block id x ih =>
  intro fr hp K K' hK h
  refine ih (fun z fr hp hh => ?_) h
  cases z with
  | nrm => exact hK _ _ _ hh
  | ext j =>
   simp only at hh ⊢
   cases e : Nat.beq j id with
   | true => rw [e] at hh; exact hK _ _ _ hh
   | false => rw [e] at hh; exact hK _ _ _ hh
  | ret => exact hK _ _ _ hh
 | loop x ih =>
  intro fr hp K K' hK h
  obtain ⟨L, h⟩ := h
  refine ⟨L, fun I hI => h I fun fr' hp' hb => hI _ _ ?_⟩
  obtain ⟨K1, hK1, hb⟩ := hb
  refine ⟨_, fun z fr hp hh => ?_, ih (fun _ _ _ hh => hh) hb⟩
  replace hh := hK1 _ _ _ hh
  cases z with
  | nrm => exact hh
  | ext id => exact hK _ _ _ hh
  | ret => exact hK _ _ _ hh
 | exit id => intro fr hp K K' hK h; exact hK _ _ _ h
 | ret => intro fr hp K K' hK h; exact hK _ _ _ h
 | rangeFunc f ps x y => intro fr hp K K' hK h; exact h.elim
 | scope x => intro fr hp K K' hK h; exact h.elim
 | label l => intro fr hp K K' hK h; exact h.elim
 | goto l => intro fr hp K K' hK h; exact h.elim
 | refuse s => intro fr hp K K' hK h; exact h.elim
theorem CE.orc {f : FuncId} {as : List A0} {obs : List Ob} {rs : List A0} {obs' : List Ob} (h : G.orc f as obs rs obs') : CE G f as obs rs obs' := fun _ _ ho => ho _ _ _ _ _ h
theorem CE.mk {f : FuncId} {as : List A0} {obs : List Ob} {rs : List A0} {obs' : List Ob} (h : bodyP G (CE G) f as obs rs obs') : CE G f as obs rs obs' := by
 intro cf hcf ho
 refine hcf _ _ _ _ _ ?_
 obtain ⟨F, c, h1, h2, h3, h4⟩ := h
 exact ⟨F, c, h1, h2, h3, exec_mono (fun f as obs rs obs' hh => hh cf hcf ho) c (fun _ _ _ hh => hh) h4⟩
end
end Go.Proofs.YtchhkbkbbglgbaaGreatDoorW.AM
