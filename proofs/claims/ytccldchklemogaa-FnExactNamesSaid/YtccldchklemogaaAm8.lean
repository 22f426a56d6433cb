/- The abstract machine: calls of functions. -/
import Derived.Test.YtccldchklemogaaAm7t
set_option linter.unusedSectionVars false
set_option linter.unusedVariables false
set_option linter.unusedSimpArgs false
namespace Go.Proofs.YtccldchklemogaaW.AM
open Go Go.RowKit
variable {TT : Tab}

/-- Memory behind a call: what was handed over; what is new, from the name 16 on. -/
def heapN (m : Nat) (obs : List Ob) : Hp := fun id => match Nat.blt id m with
  | true => obs[id]?
  | false => match Nat.ble 16 id with
    | true => obs[id - 16 + m]?
    | false => none
/-- What a call may be taken for. -/
def CFS (G : Env) (cf : CF) : Prop := ∀ f as obs rs obs', cf f as obs rs obs' → ∀ (C : Cx G.tab) (w : World) (args : List Value), FA (RepA C) as args → WR C (heap0 obs) w → obs.length ≤ 16 →
  Calls G.P f args.toArray w fun e w' => ∃ (x : Value) (C' : Cx G.tab), e = .returned x ∧ RepAV C' (tupOf rs) x ∧ WR C' (heapN obs.length obs') w' ∧ Stp C C' w w' ∧ obs.length ≤ obs'.length
theorem blt_t {a b : Nat} (h : a < b) : Nat.blt a b = true := by rw [Nat.blt_eq]; exact h
theorem blt_f {a b : Nat} (h : ¬ a < b) : Nat.blt a b = false := by
  cases e : Nat.blt a b with
  | false => rfl
  | true => rw [Nat.blt_eq] at e; exact absurd e h
theorem heapN_nu {m : Nat} (hm : m ≤ 16) (obs : List Ob) (k : Nat) : heapN m obs (nu m k) = obs[k]? := by
  unfold heapN nu
  by_cases h : k < m
  · rw [if_pos h, blt_t h]
  · rw [if_neg h, blt_f (by omega)]
    simp only
    rw [show Nat.ble 16 (16 + (k - m)) = true from Nat.ble_eq_true_of_le (by omega)]
    simp only
    rw [show 16 + (k - m) - 16 + m = k by omega]
theorem heapN_inv {m : Nat} (hm : m ≤ 16) {obs : List Ob} {j : Nat} {o : Ob} (h : heapN m obs j = some o) : ∃ k, nu m k = j ∧ obs[k]? = some o := by
  unfold heapN at h
  split at h
  · rename_i hb
    rw [Nat.blt_eq] at hb
    exact ⟨j, by simp [nu, hb], h⟩
  · rename_i hb
    have hb' : ¬ j < m := fun e => by rw [blt_t e] at hb; cases hb
    split at h
    · rename_i hc
      have hc' := Nat.le_of_ble_eq_true hc
      refine ⟨j - 16 + m, ?_, h⟩
      unfold nu; rw [if_neg (by omega)]; omega
    · cases h
theorem heapN_nil (id : Nat) : heapN ([] : List Ob).length [] id = heap0 [] id := by
  unfold heapN heap0
  rw [blt_f (by simp)]
  simp only
  split <;> simp
theorem nu_inj {m : Nat} (hm : m ≤ 16) {a b : Nat} (h : nu m a = nu m b) : a = b := by
  unfold nu at h; split at h <;> split at h <;> omega
theorem beta_nu {m : Nat} {P : List Nat} {j id : Nat} (h : beta m P j = some id) : ∃ k, nu m k = j ∧ P[k]? = some id := by
  unfold beta at h
  split at h
  · rename_i hb
    rw [Nat.blt_eq] at hb
    exact ⟨j, by simp [nu, hb], h⟩
  · rename_i hb
    have hb' : ¬ j < m := fun e => by rw [blt_t e] at hb; cases hb
    split at h
    · rename_i hc
      have hc' := Nat.le_of_ble_eq_true hc
      refine ⟨j - 16 + m, ?_, h⟩
      unfold nu; rw [if_neg (by omega)]; omega
    · cases h

theorem find_get {L : List Nat} {id j : Nat} (h : L.findIdx? (Nat.beq id) = some j) : L[j]? = some id := by
  obtain ⟨h1, h2, _⟩ := List.findIdx?_eq_some_iff_getElem.1 h
  have := Nat.eq_of_beq_eq_true h2
  rw [List.getElem?_eq_getElem h1, ← this]
/-- The context of a callee. -/
def Cx.sub (C : Cx TT) (L : List Nat) : Cx TT := { C with loc := fun j => (L[j]?).bind C.loc, ft := fun j => match L[j]? with | some id => C.ft id | none => fun _ => False }
theorem sub_ft {C : Cx TT} {L : List Nat} {id j : Nat} (h : L[j]? = some id) : (C.sub L).ft j = C.ft id := by simp [Cx.sub, h]
theorem sub_blk {C : Cx TT} {L : List Nat} {id j : Nat} (h : L[j]? = some id) : blk (C.sub L) j = blk C id := by funext k; simp [blk, Cx.sub, h]
theorem sub_blk0 {C : Cx TT} {L : List Nat} {j b : Nat} (hb : blk (C.sub L) j b) : ∃ id, L[j]? = some id ∧ blk C id b := by
  cases hL : L[j]? with
  | none => simp [blk, blkO, Cx.sub, hL] at hb
  | some id => rw [sub_blk hL] at hb; exact ⟨id, rfl, hb⟩
theorem sub_loc {C : Cx TT} {L : List Nat} {id j : Nat} (h : L[j]? = some id) : (C.sub L).loc j = C.loc id := by simp [Cx.sub, h]

theorem ren_rep {C : Cx TT} {L : List Nat} {a b : A0} {x : Value} (h : a.ren L = some b) (hr : RepA C a x) : RepA (C.sub L) b x := by
  cases a <;> simp only [A0.ren] at h <;> first | (cases h; done) | skip
  case val v => cases h; exact hr
  case nilrow => cases h; rw [show x = _ from hr]; exact .row0 _ _ fun _ => rfl
  case nilp => cases h; exact hr
  case ptr id off =>
    obtain ⟨j, hj, rfl⟩ := Option.map_eq_some_iff.1 h
    obtain ⟨b, hb, hx⟩ := hr
    exact ⟨b, by rw [sub_loc (find_get hj)]; exact hb, hx⟩
  case sp id =>
    obtain ⟨j, hj, rfl⟩ := Option.map_eq_some_iff.1 h
    obtain ⟨vs, hb, hx⟩ := hr
    exact ⟨vs, by rw [sub_loc (find_get hj)]; exact hb, hx⟩
  case ref id g =>
    obtain ⟨j, hj, rfl⟩ := Option.map_eq_some_iff.1 h
    obtain ⟨h0, g', sz, v, h1, h2⟩ := hr
    exact ⟨h0, g', sz, v, by rw [sub_loc (find_get hj)]; exact h1, h2⟩
  case fn f caps =>
    obtain ⟨js, hj, rfl⟩ := Option.map_eq_some_iff.1 h
    obtain ⟨vs, hx, hfa⟩ := hr
    refine ⟨vs, hx, fa_of (by rw [← fa_len (mapO_fa hj), fa_len hfa]) fun i j v hj' hv => ?_⟩
    obtain ⟨id, hid, hf⟩ := fa_get' (mapO_fa hj) hj'
    obtain ⟨v', hv', b, hb, he⟩ := fa_get hfa hid
    rw [hv] at hv'; cases hv'
    exact ⟨b, by rw [sub_loc (find_get hf)]; exact hb, he⟩
theorem argsO_rep {C : Cx TT} {L : List Nat} : ∀ {as : List AV} {bs : List A0} {xs : List Value}, argsO L as = some bs → FA (RepAV C) as xs → FA (RepA (C.sub L)) bs xs
  | [], bs, xs, h, hr => by simp [argsO] at h; subst h; cases hr; exact .nil
  | .one a :: as, bs, xs, h, hr => by
    simp only [argsO] at h
    split at h
    · rename_i b l h1 h2
      cases h
      cases hr with
      | cons hab t => exact .cons (ren_rep h1 hab) (argsO_rep h2 t)
    · cases h
  | .tup _ :: as, bs, xs, h, hr => by simp [argsO] at h

/-- Where an object lies, its generation told anew. -/
def gl (γ : Option (Nat × Nat)) (l : Option Loc) : Option Loc := match l, γ with
  | some (.own _ sz v), some p => some (.own p.2 sz v)
  | l, _ => l
theorem gl_none (l : Option Loc) : gl none l = l := by unfold gl; split <;> first | rfl | (rename_i h; cases h)
theorem gl_blk (γ : Option (Nat × Nat)) (l : Option Loc) : blkO (gl γ l) = blkO l := by
  unfold gl; split <;> rfl
section
variable {C D : Cx TT} {ρ : Nat → Option Nat} {γ : Nat → Option (Nat × Nat)}
theorem mapK_rep (hI : ∀ b j v, C.I b j = some v → D.I b j = some v) (hl : ∀ id j, ρ id = some j → D.loc j = gl (γ id) (C.loc id)) (hg : ∀ id j p, ρ id = some j → γ id = some p → ∀ g sz v, C.loc id = some (.own g sz v) → g = p.1) :
    ∀ {l : List A0} {K : List A0 → Prop}, mapK ρ γ l K → ∀ {xs}, FA (RepA C) l xs → ∃ l', FA (RepA D) l' xs ∧ K l'
  | [], K, h, xs, hx => by cases hx; exact ⟨[], .nil, h⟩
  | a :: l, K, h, _, .cons (b := x) hab t => by
    cases a <;> simp only [mapK] at h <;> try exact h.elim
    case val v => obtain ⟨l', h1, h2⟩ := mapK_rep hI hl hg h t; exact ⟨.val v :: l', .cons (show RepA D (.val v) x from RepV.mono hI hab) h1, h2⟩
    case nilp => obtain ⟨l', h1, h2⟩ := mapK_rep hI hl hg h t; exact ⟨.nilp :: l', .cons (show RepA D .nilp x from hab) h1, h2⟩
    case dead => obtain ⟨l', h1, h2⟩ := mapK_rep hI hl hg h t; exact ⟨.dead :: l', .cons (show RepA D .dead x from trivial) h1, h2⟩
    case nilrow => obtain ⟨l', h1, h2⟩ := mapK_rep hI hl hg h t; exact ⟨.nilrow :: l', .cons (show RepA D .nilrow x from hab) h1, h2⟩
    case ptr id off =>
      split at h
      · rename_i j hj
        obtain ⟨l', h1, h2⟩ := mapK_rep hI hl hg h t
        obtain ⟨b, hb, hx⟩ := hab
        refine ⟨.ptr j off :: l', .cons (show RepA D (.ptr j off) x from ⟨b, ?_, hx⟩) h1, h2⟩
        rw [hl id j hj, hb]; unfold gl; split <;> first | rfl | (rename_i e _; cases e)
      · exact h.elim
    case sp id =>
      split at h
      · rename_i j hj
        obtain ⟨l', h1, h2⟩ := mapK_rep hI hl hg h t
        obtain ⟨vs, hb, hx⟩ := hab
        refine ⟨.sp j :: l', .cons (show RepA D (.sp j) x from ⟨vs, ?_, hx⟩) h1, h2⟩
        rw [hl id j hj, hb]; unfold gl; split <;> first | rfl | (rename_i e _; cases e)
      · exact h.elim
    case ref id g =>
      split at h
      · rename_i j hj
        obtain ⟨h0, g', sz, v, k1, k2, k3⟩ := hab
        split at h
        · rename_i p hp
          obtain ⟨e, h⟩ := h
          obtain ⟨l', h1, h2⟩ := mapK_rep hI hl hg h t
          have e2 := hg id j p hj hp _ _ _ k1
          exact ⟨.ref j p.2 :: l', .cons (show RepA D (.ref j p.2) x from ⟨h0, p.2, sz, v, by rw [hl id j hj, k1, hp]; rfl, Nat.le_refl _, fun _ => k3 (by omega)⟩) h1, h2⟩
        · rename_i hp
          obtain ⟨l', h1, h2⟩ := mapK_rep hI hl hg h t
          exact ⟨.ref j g :: l', .cons (show RepA D (.ref j g) x from ⟨h0, g', sz, v, by rw [hl id j hj, k1, hp, gl_none], k2, k3⟩) h1, h2⟩
      · exact h.elim
    case fn f caps =>
      split at h
      · rename_i js hj
        obtain ⟨l', h1, h2⟩ := mapK_rep hI hl hg h t
        obtain ⟨vs, hx, hfa⟩ := hab
        refine ⟨.fn f js :: l', .cons (show RepA D (.fn f js) x from ⟨vs, hx, fa_of (by rw [← fa_len (mapO_fa hj), fa_len hfa]) fun i j v hj' hv => ?_⟩) h1, h2⟩
        obtain ⟨id, hid, hf⟩ := fa_get' (mapO_fa hj) hj'
        obtain ⟨v', hv', b, hb, he⟩ := fa_get hfa hid
        rw [hv] at hv'; cases hv'
        refine ⟨b, ?_, he⟩
        rw [hl id j hf, hb]; unfold gl; split <;> first | rfl | (rename_i e _; cases e)
      · exact h.elim
/-- A tree stays a tree under its new name. -/
def SameT (o o' : Ob) : Prop := match o with
  | .tree e sz es _ => ∃ g', o' = .tree e sz es g'
  | .hole .. => False
  | .lost .. => False
  | _ => treeish o' = false
theorem TrOK.same {C D : Cx TT} {w : World} {id j : Nat} {o o' : Ob} {lo : Loc} {γ : Option (Nat × Nat)} (h : TrOK C w id (some o)) (hs : SameT o o') (hloc : D.loc j = some lo) (hor : ObR D w o' lo) (hl : D.loc j = gl γ (C.loc id)) (hft : D.ft j = C.ft id) (hI : D.I = C.I) : TrOK D w j (some o') := by
  cases o with
  | tree e sz es g =>
    obtain ⟨v, h1, h2, h3⟩ := h
    obtain ⟨g', rfl⟩ := hs
    have hbl : blk D j = blk C id := by funext k; simp only [blk, hl, gl_blk, hft]
    obtain ⟨g2, hg2⟩ : ∃ g2, D.loc j = some (.own g2 sz v) := by
      cases γ with
      | none => exact ⟨g, by rw [hl, h1, gl_none]⟩
      | some p => exact ⟨p.2, by rw [hl, h1]; rfl⟩
    rw [hg2] at hloc; cases hloc
    obtain ⟨rfl, _, _⟩ := hor
    exact ⟨v, hg2, by rw [hbl]; exact h2, fun k i hk => by rw [hI]; rw [hbl] at hk; exact h3 k i hk⟩
  | hole e sz es g i off j => exact hs.elim
  | lost g sz => exact hs.elim
  | _ =>
    cases o' <;> first | (cases hs; done) | (intro k; rw [hft]; exact h k)
theorem mapObK_rep {w : World} (hI : ∀ b j, D.I b j = C.I b j) (hl : ∀ id j, ρ id = some j → D.loc j = gl (γ id) (C.loc id)) (hg : ∀ id j p, ρ id = some j → γ id = some p → ∀ g sz v, C.loc id = some (.own g sz v) → g = p.1) :
    ∀ {os : List (Nat × Ob)} {K : List Ob → Prop}, mapObK ρ γ os K → (∀ p ∈ os, ∃ lo, C.loc p.1 = some lo ∧ ObR C w p.2 lo) →
      ∃ os', K os' ∧ os'.length = os.length ∧ ∀ (k : Nat) (p : Nat × Ob), os[k]? = some p → ∃ o' lo', os'[k]? = some o' ∧ SameT p.2 o' ∧ gl (γ p.1) (C.loc p.1) = some lo' ∧ ObR D w o' lo'
  | [], K, h, _ => ⟨[], h, rfl, fun k p hk => by simp at hk⟩
  | (id, .box cs) :: os, K, h, ho => by
    simp only [mapObK] at h
    have hI' : ∀ b j v, C.I b j = some v → D.I b j = some v := fun b j v h => by rw [hI]; exact h
    obtain ⟨lo, hlo, hob⟩ := ho (id, .box cs) (by simp)
    cases lo with
    | virt _ => exact hob.elim
    | own _ _ _ => exact hob.elim
    | box b =>
      obtain ⟨T, vs, h1, h2, h3, h4⟩ := hob
      obtain ⟨cs', q1, q2⟩ := mapK_rep hI' hl hg h h2
      obtain ⟨os', q3, q4, q5⟩ := mapObK_rep hI hl hg q2 fun p hp => ho p (by simp [hp])
      refine ⟨_, q3, by simp [q4], fun k p hk => ?_⟩
      cases k with
      | zero =>
        simp at hk; subst hk
        refine ⟨.box cs', .box b, rfl, rfl, ?_, T, vs, h1, q1, h3, fun j => by rw [hI]; exact h4 j⟩
        rw [hlo]; unfold gl; split <;> first | rfl | (rename_i e _; cases e)
      | succ k => rw [List.getElem?_cons_succ] at hk; obtain ⟨o9, l9, r1, r2, r3⟩ := q5 k p hk; exact ⟨o9, l9, by rw [List.getElem?_cons_succ]; exact r1, r2, r3⟩
  | (id, .vbox cs) :: os, K, h, ho => by
    simp only [mapObK] at h
    have hI' : ∀ b j v, C.I b j = some v → D.I b j = some v := fun b j v h => by rw [hI]; exact h
    obtain ⟨lo, hlo, hob⟩ := ho (id, .vbox cs) (by simp)
    cases lo with
    | box _ => exact hob.elim
    | own _ _ _ => exact hob.elim
    | virt vs =>
      obtain ⟨h2, h3⟩ := hob
      obtain ⟨cs', q1, q2⟩ := mapK_rep hI' hl hg h h2
      obtain ⟨os', q3, q4, q5⟩ := mapObK_rep hI hl hg q2 fun p hp => ho p (by simp [hp])
      refine ⟨_, q3, by simp [q4], fun k p hk => ?_⟩
      cases k with
      | zero =>
        simp at hk; subst hk
        refine ⟨.vbox cs', .virt vs, rfl, rfl, ?_, q1, h3⟩
        rw [hlo]; unfold gl; split <;> first | rfl | (rename_i e _; cases e)
      | succ k => rw [List.getElem?_cons_succ] at hk; obtain ⟨o9, l9, r1, r2, r3⟩ := q5 k p hk; exact ⟨o9, l9, by rw [List.getElem?_cons_succ]; exact r1, r2, r3⟩
  | (id, .tree e sz es g) :: os, K, h, ho => by
    simp only [mapObK] at h
    obtain ⟨lo, hlo, hob⟩ := ho (id, .tree e sz es g) (by simp)
    cases lo with
    | virt _ => exact hob.elim
    | box b => exact hob.elim
    | own g' sz' v =>
      obtain ⟨rfl, rfl, h3⟩ := hob
      split at h
      · rename_i q hq
        obtain ⟨e1, h⟩ := h
        obtain ⟨os', q3, q4, q5⟩ := mapObK_rep hI hl hg h fun p hp => ho p (by simp [hp])
        refine ⟨_, q3, by simp [q4], fun k p hk => ?_⟩
        cases k with
        | zero =>
          simp at hk; subst hk
          exact ⟨.tree e sz es q.2, .own q.2 sz v, rfl, ⟨_, rfl⟩, by rw [hlo, hq]; rfl, rfl, rfl, h3⟩
        | succ k => rw [List.getElem?_cons_succ] at hk; obtain ⟨o9, l9, r1, r2, r3⟩ := q5 k p hk; exact ⟨o9, l9, by rw [List.getElem?_cons_succ]; exact r1, r2, r3⟩
      · rename_i hq
        obtain ⟨os', q3, q4, q5⟩ := mapObK_rep hI hl hg h fun p hp => ho p (by simp [hp])
        refine ⟨_, q3, by simp [q4], fun k p hk => ?_⟩
        cases k with
        | zero =>
          simp at hk; subst hk
          exact ⟨.tree e sz es g, .own g sz v, rfl, ⟨_, rfl⟩, by rw [hlo, hq, gl_none], rfl, rfl, h3⟩
        | succ k => rw [List.getElem?_cons_succ] at hk; obtain ⟨o9, l9, r1, r2, r3⟩ := q5 k p hk; exact ⟨o9, l9, by rw [List.getElem?_cons_succ]; exact r1, r2, r3⟩
  | (id, .iter _ _) :: os, K, h, ho => False.elim h
  | (id, .hole _ _ _ _ _ _ _) :: os, K, h, ho => False.elim h
  | (id, .lost _ _) :: os, K, h, ho => False.elim h
  | (id, .own e sz es g pin) :: os, K, h, ho => by
    simp only [mapObK] at h
    have hI' : ∀ b j v, C.I b j = some v → D.I b j = some v := fun b j v h => by rw [hI]; exact h
    obtain ⟨lo, hlo, hob⟩ := ho (id, .own e sz es g pin) (by simp)
    cases lo with
    | virt _ => exact hob.elim
    | box b => exact hob.elim
    | own g' sz' v =>
      obtain ⟨rfl, rfl, h3, xs, h4, h5, h6⟩ := hob
      split at h
      · rename_i q hq
        obtain ⟨e1, h⟩ := h
        obtain ⟨os', q3, q4, q5⟩ := mapObK_rep hI hl hg h fun p hp => ho p (by simp [hp])
        refine ⟨_, q3, by simp [q4], fun k p hk => ?_⟩
        cases k with
        | zero =>
          simp at hk; subst hk
          exact ⟨.own e sz es q.2 pin, .own q.2 sz v, rfl, rfl, by rw [hlo, hq]; rfl, rfl, rfl, h3, xs, h4, h5.mono hI', fun b j u hb hu => h6 b j u hb (by rw [← hI]; exact hu)⟩
        | succ k => rw [List.getElem?_cons_succ] at hk; obtain ⟨o9, l9, r1, r2, r3⟩ := q5 k p hk; exact ⟨o9, l9, by rw [List.getElem?_cons_succ]; exact r1, r2, r3⟩
      · rename_i hq
        obtain ⟨os', q3, q4, q5⟩ := mapObK_rep hI hl hg h fun p hp => ho p (by simp [hp])
        refine ⟨_, q3, by simp [q4], fun k p hk => ?_⟩
        cases k with
        | zero =>
          simp at hk; subst hk
          exact ⟨.own e sz es g pin, .own g sz v, rfl, rfl, by rw [hlo, hq, gl_none], rfl, rfl, h3, xs, h4, h5.mono hI', fun b j u hb hu => h6 b j u hb (by rw [← hI]; exact hu)⟩
        | succ k => rw [List.getElem?_cons_succ] at hk; obtain ⟨o9, l9, r1, r2, r3⟩ := q5 k p hk; exact ⟨o9, l9, by rw [List.getElem?_cons_succ]; exact r1, r2, r3⟩
end
/-- What is turned, for all that is asked of it. -/
theorem mapK_pick {ρ γ} : ∀ {l : List A0} {K : List A0 → Prop}, mapK ρ γ l K → ∃ l', K l' ∧ ∀ {K' : List A0 → Prop}, K' l' → mapK ρ γ l K'
  | [], K, h => ⟨[], h, fun h => h⟩
  | a :: l, K, h => by
    cases a <;> simp only [mapK] at h <;> try exact h.elim
    case ptr id off =>
      split at h
      · rename_i j hj
        obtain ⟨l', h1, h2⟩ := mapK_pick h
        exact ⟨_, h1, fun hk => by simp only [mapK, hj]; exact h2 hk⟩
      · exact h.elim
    case sp id =>
      split at h
      · rename_i j hj
        obtain ⟨l', h1, h2⟩ := mapK_pick h
        exact ⟨_, h1, fun hk => by simp only [mapK, hj]; exact h2 hk⟩
      · exact h.elim
    case ref id g =>
      split at h
      · rename_i j hj
        split at h
        · rename_i p hp
          obtain ⟨e, h⟩ := h
          obtain ⟨l', h1, h2⟩ := mapK_pick h
          exact ⟨_, h1, fun hk => by simp only [mapK, hj, hp]; exact ⟨e, h2 hk⟩⟩
        · rename_i hp
          obtain ⟨l', h1, h2⟩ := mapK_pick h
          exact ⟨_, h1, fun hk => by simp only [mapK, hj, hp]; exact h2 hk⟩
      · exact h.elim
    case fn f caps =>
      split at h
      · rename_i js hj
        obtain ⟨l', h1, h2⟩ := mapK_pick h
        exact ⟨_, h1, fun hk => by simp only [mapK, hj]; exact h2 hk⟩
      · exact h.elim
    all_goals
      obtain ⟨l', h1, h2⟩ := mapK_pick h
      exact ⟨_, h1, fun hk => by simp only [mapK]; exact h2 hk⟩
theorem mapObK_gen {ρ γ} : ∀ {l : List (Nat × Ob)} {K : List Ob → Prop}, mapObK ρ γ l K → ∀ {id e sz es g pin}, (id, Ob.own e sz es g pin) ∈ l → ∀ {q}, γ id = some q → g = q.1
  | [], K, h, id, e, sz, es, g, pin, hm, q, hq => by simp at hm
  | (id0, .box cs) :: l, K, h, id, e, sz, es, g, pin, hm, q, hq => by
    simp only [mapObK] at h
    obtain ⟨c', h1, h2⟩ := mapK_pick h
    simp only [List.mem_cons, Prod.mk.injEq, reduceCtorEq, and_false, false_or] at hm
    exact mapObK_gen h1 hm hq
  | (id0, .vbox cs) :: l, K, h, id, e, sz, es, g, pin, hm, q, hq => by
    simp only [mapObK] at h
    obtain ⟨c', h1, h2⟩ := mapK_pick h
    simp only [List.mem_cons, Prod.mk.injEq, reduceCtorEq, and_false, false_or] at hm
    exact mapObK_gen h1 hm hq
  | (id0, .tree e0 sz0 es0 g0) :: l, K, h, id, e, sz, es, g, pin, hm, q, hq => by
    simp only [mapObK] at h
    simp only [List.mem_cons, Prod.mk.injEq, reduceCtorEq, and_false, false_or] at hm
    split at h
    · exact mapObK_gen h.2 hm hq
    · exact mapObK_gen h hm hq
  | (id0, .iter _ _) :: l, K, h, id, e, sz, es, g, pin, hm, q, hq => False.elim h
  | (id0, .hole _ _ _ _ _ _ _) :: l, K, h, id, e, sz, es, g, pin, hm, q, hq => False.elim h
  | (id0, .lost _ _) :: l, K, h, id, e, sz, es, g, pin, hm, q, hq => False.elim h
  | (id0, .own e0 sz0 es0 g0 pin0) :: l, K, h, id, e, sz, es, g, pin, hm, q, hq => by
    simp only [mapObK] at h
    rcases List.mem_cons.1 hm with hm | hm
    · cases hm
      rw [hq] at h
      exact h.1
    · split at h
      · exact mapObK_gen h.2 hm hq
      · exact mapObK_gen h hm hq
theorem mapObK_genT {ρ γ} : ∀ {l : List (Nat × Ob)} {K : List Ob → Prop}, mapObK ρ γ l K → ∀ {id e sz es g}, (id, Ob.tree e sz es g) ∈ l → ∀ {q}, γ id = some q → g = q.1
  | [], K, h, id, e, sz, es, g, hm, q, hq => by simp at hm
  | (id0, .box cs) :: l, K, h, id, e, sz, es, g, hm, q, hq => by
    simp only [mapObK] at h
    obtain ⟨c', h1, h2⟩ := mapK_pick h
    simp only [List.mem_cons, Prod.mk.injEq, reduceCtorEq, and_false, false_or] at hm
    exact mapObK_genT h1 hm hq
  | (id0, .vbox cs) :: l, K, h, id, e, sz, es, g, hm, q, hq => by
    simp only [mapObK] at h
    obtain ⟨c', h1, h2⟩ := mapK_pick h
    simp only [List.mem_cons, Prod.mk.injEq, reduceCtorEq, and_false, false_or] at hm
    exact mapObK_genT h1 hm hq
  | (id0, .own e0 sz0 es0 g0 p0) :: l, K, h, id, e, sz, es, g, hm, q, hq => by
    simp only [mapObK] at h
    simp only [List.mem_cons, Prod.mk.injEq, reduceCtorEq, and_false, false_or] at hm
    split at h
    · exact mapObK_genT h.2 hm hq
    · exact mapObK_genT h hm hq
  | (id0, .iter _ _) :: l, K, h, id, e, sz, es, g, hm, q, hq => False.elim h
  | (id0, .hole _ _ _ _ _ _ _) :: l, K, h, id, e, sz, es, g, hm, q, hq => False.elim h
  | (id0, .lost _ _) :: l, K, h, id, e, sz, es, g, hm, q, hq => False.elim h
  | (id0, .tree e0 sz0 es0 g0) :: l, K, h, id, e, sz, es, g, hm, q, hq => by
    simp only [mapObK] at h
    rcases List.mem_cons.1 hm with hm | hm
    · cases hm
      rw [hq] at h
      exact h.1
    · split at h
      · exact mapObK_genT h.2 hm hq
      · exact mapObK_genT h hm hq
theorem mapObK_no {ρ γ} : ∀ {l : List (Nat × Ob)} {K : List Ob → Prop}, mapObK ρ γ l K → ∀ {id o}, (id, o) ∈ l → (∀ e sz es g i off j, o ≠ .hole e sz es g i off j) ∧ ∀ g sz, o ≠ .lost g sz
  | [], K, h, id, o, hm => by simp at hm
  | (id0, .box cs) :: l, K, h, id, o, hm => by
    simp only [mapObK] at h
    obtain ⟨c', h1, h2⟩ := mapK_pick h
    rcases List.mem_cons.1 hm with hm | hm
    · cases hm; exact ⟨by intros; simp, by intros; simp⟩
    · exact mapObK_no h1 hm
  | (id0, .vbox cs) :: l, K, h, id, o, hm => by
    simp only [mapObK] at h
    obtain ⟨c', h1, h2⟩ := mapK_pick h
    rcases List.mem_cons.1 hm with hm | hm
    · cases hm; exact ⟨by intros; simp, by intros; simp⟩
    · exact mapObK_no h1 hm
  | (id0, .iter _ _) :: l, K, h, id, o, hm => False.elim h
  | (id0, .hole _ _ _ _ _ _ _) :: l, K, h, id, o, hm => False.elim h
  | (id0, .lost _ _) :: l, K, h, id, o, hm => False.elim h
  | (id0, .own e0 sz0 es0 g0 p0) :: l, K, h, id, o, hm => by
    simp only [mapObK] at h
    rcases List.mem_cons.1 hm with hm | hm
    · cases hm; exact ⟨by intros; simp, by intros; simp⟩
    · split at h
      · exact mapObK_no h.2 hm
      · exact mapObK_no h hm
  | (id0, .tree e0 sz0 es0 g0) :: l, K, h, id, o, hm => by
    simp only [mapObK] at h
    rcases List.mem_cons.1 hm with hm | hm
    · cases hm; exact ⟨by intros; simp, by intros; simp⟩
    · split at h
      · exact mapObK_no h.2 hm
      · exact mapObK_no h hm
theorem mapObK_pick {ρ γ} : ∀ {l : List (Nat × Ob)} {K : List Ob → Prop}, mapObK ρ γ l K → ∃ l', K l' ∧ ∀ {K' : List Ob → Prop}, K' l' → mapObK ρ γ l K'
  | [], K, h => ⟨[], h, fun h => h⟩
  | (id, .box cs) :: l, K, h => by
    simp only [mapObK] at h
    obtain ⟨c', h1, h2⟩ := mapK_pick h
    obtain ⟨l', h3, h4⟩ := mapObK_pick h1
    exact ⟨_, h3, fun hk => by simp only [mapObK]; exact h2 (h4 hk)⟩
  | (id, .vbox cs) :: l, K, h => by
    simp only [mapObK] at h
    obtain ⟨c', h1, h2⟩ := mapK_pick h
    obtain ⟨l', h3, h4⟩ := mapObK_pick h1
    exact ⟨_, h3, fun hk => by simp only [mapObK]; exact h2 (h4 hk)⟩
  | (id, .tree e sz es g) :: l, K, h => by
    simp only [mapObK] at h
    split at h
    · rename_i q hq
      obtain ⟨e1, h⟩ := h
      obtain ⟨l', h3, h4⟩ := mapObK_pick h
      exact ⟨_, h3, fun hk => by simp only [mapObK, hq]; exact ⟨e1, h4 hk⟩⟩
    · rename_i hq
      obtain ⟨l', h3, h4⟩ := mapObK_pick h
      exact ⟨_, h3, fun hk => by simp only [mapObK, hq]; exact h4 hk⟩
  | (id, .iter _ _) :: l, K, h => False.elim h
  | (id, .hole _ _ _ _ _ _ _) :: l, K, h => False.elim h
  | (id, .lost _ _) :: l, K, h => False.elim h
  | (id, .own e sz es g pin) :: l, K, h => by
    simp only [mapObK] at h
    split at h
    · rename_i q hq
      obtain ⟨e1, h⟩ := h
      obtain ⟨l', h3, h4⟩ := mapObK_pick h
      exact ⟨_, h3, fun hk => by simp only [mapObK, hq]; exact ⟨e1, h4 hk⟩⟩
    · rename_i hq
      obtain ⟨l', h3, h4⟩ := mapObK_pick h
      exact ⟨_, h3, fun hk => by simp only [mapObK, hq]; exact h4 hk⟩

theorem nodup_inj {L : List Nat} (h : L.Nodup) {i j x : Nat} (hi : L[i]? = some x) (hj : L[j]? = some x) : i = j := by
  obtain ⟨a1, a2⟩ := List.getElem?_eq_some_iff.1 hi
  obtain ⟨b1, b2⟩ := List.getElem?_eq_some_iff.1 hj
  rcases Nat.lt_trichotomy i j with h1 | h1 | h1
  · exact absurd (a2.trans b2.symm) (List.pairwise_iff_getElem.1 h i j a1 b1 h1)
  · exact h1
  · exact absurd (b2.trans a2.symm) (List.pairwise_iff_getElem.1 h j i b1 a1 h1)
/-- The place of an id among those handed over. -/
def idx (L : List Nat) (id : Nat) : Option Nat := L.findIdx? (Nat.beq id)
theorem idx_some {L : List Nat} {id j : Nat} (h : idx L id = some j) : L[j]? = some id := find_get h
theorem idx_none {L : List Nat} {id : Nat} (h : idx L id = none) (j : Nat) : L[j]? ≠ some id := fun e => by
  have := List.findIdx?_eq_none_iff.1 h id (List.mem_iff_getElem?.2 ⟨j, e⟩)
  simp at this
theorem idx_of {L : List Nat} (hn : L.Nodup) {id j : Nat} (h : L[j]? = some id) : idx L id = some j := by
  cases hi : idx L id with
  | none => exact absurd h (idx_none hi j)
  | some k => rw [nodup_inj hn (idx_some hi) h]

theorem updL_get : ∀ {L : List Nat} {obs : List Ob} {hp : Hp}, L.Nodup → L.length = obs.length → ∀ id, updL L obs hp id = match idx L id with | some j => obs[j]? | none => hp id
  | [], [], hp, _, _, id => rfl
  | a :: L, o :: obs, hp, hn, hl, id => by
    have hn' := List.nodup_cons.1 hn
    simp only [updL, upd]
    by_cases e : id = a
    · subst e
      rw [if_pos rfl]
      have : idx (id :: L) id = some 0 := by simp [idx, List.findIdx?_cons]
      rw [this]; rfl
    · rw [if_neg e, updL_get hn'.2 (by simpa using hl) id]
      have hb : Nat.beq id a = false := by
        cases hh : Nat.beq id a with
        | false => rfl
        | true => exact absurd (Nat.eq_of_beq_eq_true hh) e
      have : idx (a :: L) id = (idx L id).map (· + 1) := by simp [idx, List.findIdx?_cons, hb]
      rw [this]
      cases idx L id <;> simp

theorem tupOf_fa {C : Cx TT} {l : List A0} {x : Value} (h : RepAV C (tupOf l) x) : ∃ xs, FA (RepA C) l xs ∧ ∀ {C2 : Cx TT} {l2 : List A0}, FA (RepA C2) l2 xs → RepAV C2 (tupOf l2) x := by
  match l, h with
  | [], h => obtain ⟨vs, rfl, hf⟩ := h; cases hf; exact ⟨[], .nil, fun h2 => by cases h2; exact ⟨[], rfl, .nil⟩⟩
  | [a], h => exact ⟨[x], .cons h .nil, fun h2 => by cases h2 with | cons hab t => cases t; exact hab⟩
  | a :: b :: l, h =>
    obtain ⟨vs, rfl, hf⟩ := h
    refine ⟨vs, hf, fun {C2 l2} h2 => ?_⟩
    match l2, h2 with
    | [], h2 => cases h2; cases hf
    | [_], h2 => cases h2 with | cons _ t => cases t; cases hf with | cons _ t => cases t
    | _ :: _ :: _, h2 => exact ⟨vs, rfl, h2⟩

end Go.Proofs.YtccldchklemogaaW.AM
