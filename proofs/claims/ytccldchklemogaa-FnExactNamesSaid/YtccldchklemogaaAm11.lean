/- The abstract machine: regions that draw their order. -/
import Derived.Test.YtccldchklemogaaAm10
set_option linter.unusedSectionVars false
set_option linter.unusedVariables false
set_option linter.unusedSimpArgs false
namespace Go.Proofs.YtccldchklemogaaW.AM
open Go Go.RowKit
variable {TT : Tab}

section
variable {G : Env} {cf : CF}

/-- Operands that an operation looks at. -/
theorem parts_congr {ρ ρ' : Operand → AV} : ∀ {l : List (Nat × Operand)}, (∀ x ∈ l.map (·.2), ρ x = ρ' x) → parts ρ l = parts ρ' l
  | [], _ => rfl
  | (i, x) :: l, h => by
    simp only [parts]
    rw [h x (by simp), parts_congr fun y hy => h y (by simp at hy ⊢; exact .inr hy)]
theorem optV_congr {ρ ρ' : Operand → AV} {o : Option Operand} (h : ∀ x ∈ o.toList, ρ x = ρ' x) : optV ρ o = optV ρ' o := by
  cases o with
  | none => rfl
  | some x => simp only [optV]; rw [h x (by simp)]
theorem mapO_congr {α β : Type} {f g : α → Option β} : ∀ {l : List α}, (∀ x ∈ l, f x = g x) → mapO f l = mapO g l
  | [], _ => rfl
  | a :: l, h => by simp only [mapO]; rw [h a (by simp), mapO_congr fun x hx => h x (by simp [hx])]

theorem partsA_congr {ρ ρ' : Operand → AV} : ∀ {l : List (Nat × Operand)}, (∀ x ∈ l.map (·.2), ρ x = ρ' x) → partsA ρ l = partsA ρ' l
  | [], _ => rfl
  | (i, x) :: l, h => by
    simp only [partsA]
    rw [h x (by simp), partsA_congr fun y hy => h y (by simp at hy ⊢; exact .inr hy)]
theorem frzL_pick : ∀ {cs : List A0} {hp : Hp} {K : List VV → Hp → Prop}, frzL cs hp K → ∃ vs hp', K vs hp' ∧ ∀ K' : List VV → Hp → Prop, K' vs hp' → frzL cs hp K'
  | [], hp, K, h => ⟨_, _, h, fun K' hk => hk⟩
  | a :: l, hp, K, h => by
    simp only [frzL] at h
    split at h
    · split at h
      · rename_i hcs
        obtain ⟨h0, h⟩ := h
        obtain ⟨vs, hp', h1, h2⟩ := frzL_pick h
        exact ⟨_, _, h1, fun K' hk => by simp only [frzL, hcs]; exact ⟨h0, h2 _ hk⟩⟩
      · rename_i hcs
        obtain ⟨h0, h⟩ := h
        obtain ⟨vs, hp', h1, h2⟩ := frzL_pick h
        exact ⟨_, _, h1, fun K' hk => by simp only [frzL, hcs]; exact ⟨h0, h2 _ hk⟩⟩
      · exact h.elim
    · rename_i hn
      split at h
      · rename_i v hv
        obtain ⟨vs, hp', h1, h2⟩ := frzL_pick h
        refine ⟨_, _, h1, fun K' hk => ?_⟩
        simp only [frzL]
        cases a <;> first | exact (hn _ _ rfl).elim | (simp only [hv]; exact h2 _ hk)
      · exact h.elim

theorem opQ_congr {fid rid i : Nat} {o : Oper} {ρ ρ' : Operand → AV} {hp : Hp} {K : KO} (h : ∀ x ∈ o.op.operands, ρ x = ρ' x) : opQ G cf fid rid i o ρ hp K = opQ G cf fid rid i o ρ' hp K := by
  obtain ⟨dst, op, ty, pos, aft, gd⟩ := o
  simp only at h
  unfold opQ
  simp only
  cases op <;> simp only [Op.operands] at h ⊢ <;> try rfl
  case next x b =>
    cases b with
    | false => rfl
    | true => simp only; rw [h x (by simp)]
  case build t ps => rw [parts_congr (fun x hx => h x (by simpa using hx)), partsA_congr (fun x hx => h x (by simpa using hx))]
  case buildSlice t n ps => rw [parts_congr (fun x hx => h x (by simpa using hx))]
  case slice t x lo hi mx =>
    cases mx with
    | some _ => rfl
    | none =>
      simp only
      rw [h x (by simp), optV_congr (fun y hy => h y (by simp at hy ⊢; exact .inr (.inl hy))), optV_congr (o := hi) (fun y hy => h y (by simp at hy ⊢; exact .inr (.inr hy)))]
  case makeFunc fn first caps =>
    cases fn <;> try rfl
    simp only
    rw [mapO_congr (fun x hx => by rw [h x (by simp at hx ⊢; exact .inr hx)])]
  case call c =>
    obtain ⟨cal, args, ats⟩ := c
    have ha : ∀ x ∈ args.toList, ρ x = ρ' x := fun x hx => h x (by simp [Call.operands]; right; simpa using hx)
    cases cal <;> simp only
    case builtin b =>
      have e : ∀ x, args.toList = [x] → ρ x = ρ' x := fun x hx => ha x (by simp [hx])
      have e2 : ∀ x y, args.toList = [x, y] → ρ x = ρ' x ∧ ρ y = ρ' y := fun x y hx => ⟨ha x (by simp [hx]), ha y (by simp [hx])⟩
      split
      · rename_i x t h1 h2; rw [e x h1]
      · rename_i s x t t' h1 h2; obtain ⟨q1, q2⟩ := e2 s x h1; rw [q1, q2]
      · rename_i x y h1; obtain ⟨q1, q2⟩ := e2 x y h1; rw [q1, q2]
      · rename_i x y h1; obtain ⟨q1, q2⟩ := e2 x y h1; rw [q1, q2]
      · rfl
    case value f =>
      rw [h f (by simp [Call.operands])]
      have : args.toList.map ρ = args.toList.map ρ' := List.map_congr_left ha
      rw [this]
  all_goals (simp only [List.mem_toArray, List.mem_cons, List.not_mem_nil, or_false, forall_eq_or_imp, forall_eq, List.mem_toArray] at h; first | rw [h] | (rw [h.1, h.2]) | (rw [h.1, h.2.1, h.2.2]) | skip)

theorem truncP_congr {o : Oper} {ρ ρ' : Operand → AV} {hp : Hp} {K : KO} (h : ∀ x ∈ o.op.operands, ρ x = ρ' x) : truncP G o ρ hp K = truncP G o ρ' hp K := by
  obtain ⟨dst, op, ty, pos, aft, gd⟩ := o
  simp only at h
  unfold truncP
  simp only
  cases op <;> simp only [Op.operands] at h ⊢ <;> try rfl
  case slice t x lo hi mx =>
    cases lo with
    | some _ => rfl
    | none => cases hi with
      | none => rfl
      | some y => cases mx with
        | some _ => rfl
        | none =>
          simp only
          rw [h x (by simp), h y (by simp)]
theorem homeP_congr {fid rid i : Nat} {o : Oper} {ρ ρ' : Operand → AV} {hp : Hp} {K : KO} (h : ∀ x ∈ o.op.operands, ρ x = ρ' x) : homeP G cf fid rid i o ρ hp K = homeP G cf fid rid i o ρ' hp K := by
  unfold homeP
  have e : ∀ (q : A0) (hp' : Hp), opQ G cf fid rid i o (fun x => bif isNil x then .one q else ρ x) hp' K = opQ G cf fid rid i o (fun x => bif isNil x then .one q else ρ' x) hp' K := fun q hp' => opQ_congr fun x hx => by rw [h x hx]
  split
  · split
    · split
      · split
        · split
          · rw [e]
          · rfl
        · rfl
      · rfl
    · rfl
  · rfl
theorem all_congr {α : Type} {f g : α → Bool} : ∀ {l : List α}, (∀ x ∈ l, f x = g x) → l.all f = l.all g
  | [], _ => rfl
  | a :: l, h => by rw [List.all_cons, List.all_cons, h a (by simp), all_congr fun x hx => h x (by simp [hx])]
theorem lookP_congr {fid rid i : Nat} {o : Oper} {ρ ρ' : Operand → AV} {hp : Hp} {K : KO} (h : ∀ x ∈ o.op.operands, ρ x = ρ' x) : lookP G cf fid rid i o ρ hp K = lookP G cf fid rid i o ρ' hp K := by
  unfold lookP
  rw [opQ_congr h, all_congr fun x hx => by rw [h x (by simpa using hx)]]
theorem rowP_congr {fid rid i : Nat} {o : Oper} {ρ ρ' : Operand → AV} {hp : Hp} {K : KO} (h : ∀ x ∈ o.op.operands, ρ x = ρ' x) : rowP G cf fid rid i o ρ hp K = rowP G cf fid rid i o ρ' hp K := by
  unfold rowP
  rw [opQ_congr h]
theorem elemA_congr {ρ ρ' : Operand → AV} {hp : Hp} {x : Operand} (h : ρ x = ρ' x) : elemA ρ hp x = elemA ρ' hp x := by
  unfold elemA
  split
  · rfl
  · rw [h]
theorem elemsA_congr {ρ ρ' : Operand → AV} {hp : Hp} : ∀ {l : List (Nat × Operand)}, (∀ x ∈ l.map (·.2), ρ x = ρ' x) → elemsA ρ hp l = elemsA ρ' hp l
  | [], _ => rfl
  | (i, x) :: l, h => by
    simp only [elemsA]
    rw [elemA_congr (h x (by simp)), elemsA_congr fun y hy => h y (by simp at hy ⊢; exact .inr hy)]
theorem treP_congr {h0 rid i : Nat} {o : Oper} {ρ ρ' : Operand → AV} {hp : Hp} {K : KO} (h : ∀ x ∈ o.op.operands, ρ x = ρ' x) : treP G h0 rid i o ρ hp K = treP G h0 rid i o ρ' hp K := by
  obtain ⟨dst, op, ty, pos, aft, gd⟩ := o
  simp only at h
  unfold treP
  cases op <;> simp only [Op.operands] at h ⊢ <;> try rfl
  case move x => cases x <;> try rfl
                 rename_i v; cases v <;> rfl
  case assign x => cases x <;> try rfl
                   rename_i v; cases v <;> rfl
  case build t ps =>
    rw [elemsA_congr (l := ps.toList) fun x hx => h x (by simpa using hx)]
  case buildSlice t len ps =>
    rw [elemsA_congr (l := ps.toList) fun x hx => h x (by simpa using hx)]
  case load t a => rw [h a (by simp)]
  case store t a x => rw [h a (by simp), h x (by simp)]
  case makeSlice t l c => rw [h l (by simp), h c (by simp)]
  case indexAddr t x ix => rw [h x (by simp), h ix (by simp)]
  case call c =>
    obtain ⟨cal, args, ats⟩ := c
    simp only at h ⊢
    cases cal with
    | builtin b =>
      simp only at h ⊢
      have hm : ∀ x ∈ args.toList, ρ x = ρ' x := fun x hx => h x (by simp [Call.operands]; simpa using hx)
      split
      · rename_i x t hargs hats
        rw [hm x (by rw [hargs]; simp)]
      · rename_i s x t t' hargs hats
        rw [hm s (by rw [hargs]; simp), hm x (by rw [hargs]; simp)]
      · rfl
    | _ => rfl
theorem lendP_congr {rid i : Nat} {o : Oper} {ρ ρ' : Operand → AV} {hp : Hp} {K : KO} (h : ∀ x ∈ o.op.operands, ρ x = ρ' x) : lendP G cf rid i o ρ hp K = lendP G cf rid i o ρ' hp K := by
  obtain ⟨dst, op, ty, pos, aft, gd⟩ := o
  simp only at h
  unfold lendP
  cases op <;> simp only [Op.operands] at h ⊢ <;> try rfl
  case call c =>
    obtain ⟨cal, args, ats⟩ := c
    simp only at h ⊢
    cases cal with
    | value f =>
      simp only at h ⊢
      have e : args.toList.map ρ = args.toList.map ρ' := List.map_congr_left fun x hx => h x (by simp [Call.operands]; right; simpa using hx)
      rw [h f (by simp [Call.operands]), e]
    | _ => rfl
theorem opR_congr {fid rid i : Nat} {o : Oper} {ρ ρ' : Operand → AV} {hp : Hp} {K : KO} (h : ∀ x ∈ o.op.operands, ρ x = ρ' x) : opR G cf fid rid i o ρ hp K = opR G cf fid rid i o ρ' hp K := by
  unfold opR
  rw [opQ_congr h, opQ_congr h, truncP_congr h, homeP_congr h, lookP_congr h, rowP_congr h, treP_congr h, treP_congr h, lendP_congr h]
theorem opP_congr {fid rid i : Nat} {o : Oper} {ρ ρ' : Operand → AV} {hp : Hp} {K : KO} (h : ∀ x ∈ o.op.operands, ρ x = ρ' x) : opP G cf fid rid i o ρ hp K = opP G cf fid rid i o ρ' hp K := by
  unfold opP
  split
  · exact opR_congr h
  · exact opR_congr h
theorem stepP_congr {fid rid i : Nat} {ops : Array Oper} {o : Oper} {fr fr' : Fr} {hp : Hp} {K : KO} (h : ∀ t ∈ o.looksAt ops, fr t = fr' t) : stepP G cf fid rid ops i o fr hp K = stepP G cf fid rid ops i o fr' hp K := by
  have hop : opP G cf fid rid i o (ev fr) hp K = opP G cf fid rid i o (ev fr') hp K := opP_congr fun x hx => by
    cases x with
    | tmp t => exact h t (by unfold Oper.looksAt; refine List.mem_append_left _ (List.mem_filterMap.2 ⟨.tmp t, by simpa using hx, rfl⟩))
    | _ => rfl
  unfold stepP
  split
  · exact hop
  · rename_i j want hg
    split
    · rfl
    · rename_i d hd
      rw [hop, h d (by unfold Oper.looksAt; rw [hg]; simp [hd])]

def A0.ment : A0 → Nat → Prop
  | .ptr id _, j | .ref id _, j | .ep id _ _ _, j => id = j
  | _, _ => False
def AV.ment : AV → Nat → Prop
  | .one a, j => a.ment j
  | _, _ => False
theorem ment_dom {C : Cx TT} {hp : Hp} {w : World} (hw : WR C hp w) {v : AV} {x : Value} (hv : RepAV C v x) {id : Nat} (h : v.ment id) : hp id ≠ none := by
  intro hn
  have hl := hw.dom id hn
  cases v with
  | tup as => exact h.elim
  | one a =>
    cases a <;> simp only [AV.ment, A0.ment] at h <;> try exact h.elim
    · subst h; obtain ⟨b, hb, _⟩ := hv; rw [hl] at hb; cases hb
    · subst h; obtain ⟨_, _, _, _, hb, _⟩ := hv; rw [hl] at hb; cases hb
    · subst h; obtain ⟨_, _, _, _, hb, _⟩ := hv; rw [hl] at hb; cases hb

/-- What a step does to memory: nothing, and it asks nothing of it; it reads; it makes something. -/
def S0 (s : Hp → KO → Prop) (hp : Hp) (K : KO) : Prop := ∃ v, K v hp ∧ ∀ hp' (K' : KO), K' v hp' → s hp' K'
def S1 (ids : Nat → Prop) (s : Hp → KO → Prop) (hp : Hp) (K : KO) : Prop := ∃ v, K v hp ∧ ∀ hp' (K' : KO), (∀ id, ids id → hp id = hp' id) → K' v hp' → s hp' K'
def S3 (p : Nat) (s : Hp → KO → Prop) (hp : Hp) (K : KO) : Prop := ∃ v ob, hp p = none ∧ K v (upd p ob hp) ∧ ∀ hp' (K' : KO), hp' p = none → K' v (upd p ob hp') → s hp' K'
def S2 (s : Hp → KO → Prop) (hp : Hp) (K : KO) : Prop := ∃ v hp', K v hp' ∧ ∀ K' : KO, K' v hp' → s hp K'
theorem S0.s1 {ids s hp K} (h : S0 s hp K) : S1 ids s hp K := let ⟨v, h1, h2⟩ := h; ⟨v, h1, fun hp' K' _ hk => h2 hp' K' hk⟩
theorem S0.s2 {s hp K} (h : S0 s hp K) : S2 s hp K := let ⟨v, h1, h2⟩ := h; ⟨v, hp, h1, fun K' hk => h2 hp K' hk⟩
theorem S1.s2 {ids s hp K} (h : S1 ids s hp K) : S2 s hp K := let ⟨v, h1, h2⟩ := h; ⟨v, hp, h1, fun K' hk => h2 hp K' (fun _ _ => rfl) hk⟩
theorem S3.s2 {p s hp K} (h : S3 p s hp K) : S2 s hp K := let ⟨v, ob, h0, h1, h2⟩ := h; ⟨v, _, h1, fun K' hk => h2 hp K' h0 hk⟩

def S5 (T : List Nat) (s : Hp → KO → Prop) (hp : Hp) (K : KO) : Prop := ∃ v, K v hp ∧ ∀ hp' (K' : KO), BX T hp hp' → K' v hp' → s hp' K'
def S6 (T : List Nat) (s : Hp → KO → Prop) (hp : Hp) (K : KO) : Prop := ∃ v hp1, K v hp1 ∧ BX T hp hp1 ∧ ∀ K' : KO, K' v hp1 → s hp K'
theorem S0.s5 {T s hp K} (h : S0 s hp K) : S5 T s hp K := let ⟨v, h1, h2⟩ := h; ⟨v, h1, fun hp' K' _ hk => h2 hp' K' hk⟩
theorem S0.s6 {T s hp K} (h : S0 s hp K) : S6 T s hp K := let ⟨v, h1, h2⟩ := h; ⟨v, hp, h1, fun _ _ _ => Iff.rfl, fun K' hk => h2 hp K' hk⟩
theorem S6.s2 {T s hp K} (h : S6 T s hp K) : S2 s hp K := let ⟨v, hp1, h1, _, h2⟩ := h; ⟨v, hp1, h1, h2⟩
theorem bx_upd {hp : Hp} {id : Nat} {e sz es g pin} {T : List Nat} (h : ∀ cs, hp id ≠ some (.box cs)) : BX T hp (upd id (.own e sz es g pin) hp) := by
  intro j cs _
  unfold upd
  by_cases hj : j = id
  · subst hj; rw [if_pos rfl]; exact ⟨fun k => absurd k (h cs), fun k => by cases k⟩
  · rw [if_neg hj]
theorem okBox_bx {T : List Nat} {hp hp' : Hp} {v : AV} (hb : BX T hp hp') (hok : okBox T hp v = true) : okBox T hp' v = true ∧ ∀ id, v.ment id → hp id = hp' id := by
  cases v with
  | tup as => exact ⟨rfl, fun j hj => hj.elim⟩
  | one a =>
    cases a with
    | ptr id off =>
      unfold okBox at hok ⊢
      simp only at hok ⊢
      split at hok
      · rename_i cs hcs
        have h2 := (hb id cs hok).1 hcs
        refine ⟨by rw [h2]; exact hok, fun j hj => ?_⟩
        have e : id = j := hj
        subst e
        rw [hcs, h2]
      · cases hok
    | ref id g => cases hok
    | ep id g i off => cases hok
    | _ => exact ⟨rfl, fun j hj => hj.elim⟩
theorem bin_pick {op : BinOp} {ti : TI} {x y : VV} {K : VV → Prop} (h : bin op ti x y K) : ∃ v, K v ∧ ∀ K' : VV → Prop, K' v → bin op ti x y K' := by
  cases x <;> cases y <;> simp only [bin] at h <;> try exact h.elim
  · cases op <;> simp only [bin2] at h <;> first
      | (obtain ⟨h1, h2, z, h3, h4⟩ := h; exact ⟨_, h4, fun K' hk => by simp only [bin]; exact ⟨h1, h2, z, h3, hk⟩⟩)
      | (obtain ⟨h1, z, h3, h4⟩ := h; exact ⟨_, h4, fun K' hk => by first | (simp only [bin]; exact ⟨h1, z, h3, hk⟩) | (simp only [bin, bin2]; exact ⟨h1, z, h3, hk⟩)⟩)
      | (obtain ⟨h1, h4⟩ := h; exact ⟨_, h4, fun K' hk => by simp only [bin]; exact ⟨h1, hk⟩⟩)
      | exact h.elim
  · obtain ⟨h0, h⟩ := h
    cases op <;> simp only at h <;> first
      | exact ⟨_, h, fun K' hk => by simp only [bin]; exact ⟨h0, hk⟩⟩
      | exact h.elim
  · cases op <;> simp only at h <;> first
      | (obtain ⟨h1, h4⟩ := h; refine ⟨_, h4, fun K' hk => ?_⟩; simp only [bin]; exact ⟨h1, hk⟩)
      | exact ⟨_, h, fun K' hk => by simp only [bin]; exact hk⟩
      | exact h.elim
theorem cutH_pick {lo : Option VV} {K : Nat → Nat → Prop} {h : Nat} (hc : cutH lo K h) : ∃ l, K l h ∧ ∀ K' : Nat → Nat → Prop, K' l h → cutH lo K' h := by
  unfold cutH at hc
  split at hc
  · exact ⟨0, hc, fun K' hk => hk⟩
  · exact ⟨_, hc.2, fun K' hk => ⟨hc.1, hk⟩⟩
  · exact hc.elim
theorem cutB_pick {len : Nat} {lo hi : Option VV} {K : Nat → Nat → Prop} (hc : cutB len lo hi K) : ∃ l h, K l h ∧ ∀ K' : Nat → Nat → Prop, K' l h → cutB len lo hi K' := by
  unfold cutB at hc
  split at hc
  · obtain ⟨l, h1, h2⟩ := cutH_pick hc; exact ⟨l, _, h1, fun K' hk => h2 K' hk⟩
  · obtain ⟨h0, hc⟩ := hc; obtain ⟨l, h1, h2⟩ := cutH_pick hc; exact ⟨l, _, h1, fun K' hk => ⟨h0, h2 K' hk⟩⟩
  · exact hc.elim

set_option maxHeartbeats 1000000 in
theorem opQ_kind {fid rid i : Nat} {o : Oper} {ρ : Operand → AV} (hρ : ∀ f, ρ (.func f) = .one (.fn f [])) {hp : Hp} {K : KO} (h : opQ G cf fid rid i o ρ hp K) :
    (cls0 G fid rid i o = 0 → S0 (opQ G cf fid rid i o ρ) hp K) ∧ (cls0 G fid rid i o = 1 → S1 (fun id => ∃ x ∈ o.op.operands, (ρ x).ment id) (opQ G cf fid rid i o ρ) hp K) ∧ (cls0 G fid rid i o = 3 → S0 (opQ G cf fid rid i o ρ) hp K ∨ S3 (pid rid i) (opQ G cf fid rid i o ρ) hp K) ∧ S2 (opQ G cf fid rid i o ρ) hp K := by
  obtain ⟨dst, op, ty, pos, aft, gd⟩ := o
  have hh := h
  unfold opQ at h
  simp only at h
  have fin0 : S0 (opQ G cf fid rid i ⟨dst, op, ty, pos, aft, gd⟩ ρ) hp K → cls0 G fid rid i ⟨dst, op, ty, pos, aft, gd⟩ = 0 → (cls0 G fid rid i ⟨dst, op, ty, pos, aft, gd⟩ = 0 → S0 (opQ G cf fid rid i ⟨dst, op, ty, pos, aft, gd⟩ ρ) hp K) ∧ (cls0 G fid rid i ⟨dst, op, ty, pos, aft, gd⟩ = 1 → S1 (fun id => ∃ x ∈ op.operands, (ρ x).ment id) (opQ G cf fid rid i ⟨dst, op, ty, pos, aft, gd⟩ ρ) hp K) ∧ (cls0 G fid rid i ⟨dst, op, ty, pos, aft, gd⟩ = 3 → S0 (opQ G cf fid rid i ⟨dst, op, ty, pos, aft, gd⟩ ρ) hp K ∨ S3 (pid rid i) (opQ G cf fid rid i ⟨dst, op, ty, pos, aft, gd⟩ ρ) hp K) ∧ S2 (opQ G cf fid rid i ⟨dst, op, ty, pos, aft, gd⟩ ρ) hp K :=
    fun k e => ⟨fun _ => k, fun c => by omega, fun c => by omega, k.s2⟩
  have fin1 : S1 (fun id => ∃ x ∈ op.operands, (ρ x).ment id) (opQ G cf fid rid i ⟨dst, op, ty, pos, aft, gd⟩ ρ) hp K → cls0 G fid rid i ⟨dst, op, ty, pos, aft, gd⟩ = 1 → (cls0 G fid rid i ⟨dst, op, ty, pos, aft, gd⟩ = 0 → S0 (opQ G cf fid rid i ⟨dst, op, ty, pos, aft, gd⟩ ρ) hp K) ∧ (cls0 G fid rid i ⟨dst, op, ty, pos, aft, gd⟩ = 1 → S1 (fun id => ∃ x ∈ op.operands, (ρ x).ment id) (opQ G cf fid rid i ⟨dst, op, ty, pos, aft, gd⟩ ρ) hp K) ∧ (cls0 G fid rid i ⟨dst, op, ty, pos, aft, gd⟩ = 3 → S0 (opQ G cf fid rid i ⟨dst, op, ty, pos, aft, gd⟩ ρ) hp K ∨ S3 (pid rid i) (opQ G cf fid rid i ⟨dst, op, ty, pos, aft, gd⟩ ρ) hp K) ∧ S2 (opQ G cf fid rid i ⟨dst, op, ty, pos, aft, gd⟩ ρ) hp K :=
    fun k e => ⟨fun c => by omega, fun _ => k, fun c => by omega, k.s2⟩
  have fin3 : S3 (pid rid i) (opQ G cf fid rid i ⟨dst, op, ty, pos, aft, gd⟩ ρ) hp K → cls0 G fid rid i ⟨dst, op, ty, pos, aft, gd⟩ = 3 → (cls0 G fid rid i ⟨dst, op, ty, pos, aft, gd⟩ = 0 → S0 (opQ G cf fid rid i ⟨dst, op, ty, pos, aft, gd⟩ ρ) hp K) ∧ (cls0 G fid rid i ⟨dst, op, ty, pos, aft, gd⟩ = 1 → S1 (fun id => ∃ x ∈ op.operands, (ρ x).ment id) (opQ G cf fid rid i ⟨dst, op, ty, pos, aft, gd⟩ ρ) hp K) ∧ (cls0 G fid rid i ⟨dst, op, ty, pos, aft, gd⟩ = 3 → S0 (opQ G cf fid rid i ⟨dst, op, ty, pos, aft, gd⟩ ρ) hp K ∨ S3 (pid rid i) (opQ G cf fid rid i ⟨dst, op, ty, pos, aft, gd⟩ ρ) hp K) ∧ S2 (opQ G cf fid rid i ⟨dst, op, ty, pos, aft, gd⟩ ρ) hp K :=
    fun k e => ⟨fun c => by omega, fun c => by omega, fun _ => .inr k, k.s2⟩
  have fin2 : S2 (opQ G cf fid rid i ⟨dst, op, ty, pos, aft, gd⟩ ρ) hp K → cls0 G fid rid i ⟨dst, op, ty, pos, aft, gd⟩ = 2 → (cls0 G fid rid i ⟨dst, op, ty, pos, aft, gd⟩ = 0 → S0 (opQ G cf fid rid i ⟨dst, op, ty, pos, aft, gd⟩ ρ) hp K) ∧ (cls0 G fid rid i ⟨dst, op, ty, pos, aft, gd⟩ = 1 → S1 (fun id => ∃ x ∈ op.operands, (ρ x).ment id) (opQ G cf fid rid i ⟨dst, op, ty, pos, aft, gd⟩ ρ) hp K) ∧ (cls0 G fid rid i ⟨dst, op, ty, pos, aft, gd⟩ = 3 → S0 (opQ G cf fid rid i ⟨dst, op, ty, pos, aft, gd⟩ ρ) hp K ∨ S3 (pid rid i) (opQ G cf fid rid i ⟨dst, op, ty, pos, aft, gd⟩ ρ) hp K) ∧ S2 (opQ G cf fid rid i ⟨dst, op, ty, pos, aft, gd⟩ ρ) hp K :=
    fun k e => ⟨fun c => by omega, fun c => by omega, fun c => by omega, k⟩
  clear hh
  have moves : ∀ (x : Operand), moveP G (G.hint fid rid i) rid i ty (ρ x) hp K → (op = .move x ∨ op = .assign x) → (cls0 G fid rid i ⟨dst, op, ty, pos, aft, gd⟩ = 0 → S0 (opQ G cf fid rid i ⟨dst, op, ty, pos, aft, gd⟩ ρ) hp K) ∧ (cls0 G fid rid i ⟨dst, op, ty, pos, aft, gd⟩ = 1 → S1 (fun id => ∃ x ∈ op.operands, (ρ x).ment id) (opQ G cf fid rid i ⟨dst, op, ty, pos, aft, gd⟩ ρ) hp K) ∧ (cls0 G fid rid i ⟨dst, op, ty, pos, aft, gd⟩ = 3 → S0 (opQ G cf fid rid i ⟨dst, op, ty, pos, aft, gd⟩ ρ) hp K ∨ S3 (pid rid i) (opQ G cf fid rid i ⟨dst, op, ty, pos, aft, gd⟩ ρ) hp K) ∧ S2 (opQ G cf fid rid i ⟨dst, op, ty, pos, aft, gd⟩ ρ) hp K := by
    intro x hm hop
    have e : ∀ hp' K', opQ G cf fid rid i ⟨dst, op, ty, pos, aft, gd⟩ ρ hp' K' = moveP G (G.hint fid rid i) rid i ty (ρ x) hp' K' := fun hp' K' => by rcases hop with rfl | rfl <;> rfl
    have ec : cls0 G fid rid i ⟨dst, op, ty, pos, aft, gd⟩ = (match G.hint fid rid i with | 0 => 0 | 2 => 3 | 3 => 0 | _ => 2) := by rcases hop with rfl | rfl <;> rfl
    have e1 : ∀ hp' K', moveP G 1 rid i ty (ρ x) hp' K' → True := fun _ _ _ => trivial
    unfold moveP at hm
    split at hm
    · rename_i h1 id g hh hx
      split at hm
      · rename_i e0 sz es g' pin hcs
        obtain ⟨q1, q2⟩ := hm
        refine fin2 ⟨_, _, q2, fun K' hk => ?_⟩ (by rw [ec, hh]; rfl)
        rw [e]; unfold moveP; rw [hh, hx]; simp only [hcs]; exact ⟨q1, hk⟩
      · exact hm.elim
    · rename_i h1 hh hx
      split at hm
      · rename_i ti hti
        split at hm
        · rename_i e0 he
          split at hm
          · rename_i te hte
            obtain ⟨q0, q1, q2⟩ := hm
            refine fin3 ⟨_, _, q1, q2, fun hp' K' hn hk => ?_⟩ (by rw [ec, hh]; rfl)
            rw [e]; unfold moveP; rw [hh, hx]; simp only [hti, he, hte]; exact ⟨q0, hn, hk⟩
          · exact hm.elim
        · exact hm.elim
      · exact hm.elim
    · rename_i h1 hv hh
      have s0 : S0 (opQ G cf fid rid i ⟨dst, op, ty, pos, aft, gd⟩ ρ) hp K := ⟨_, hm, fun hp' K' hk => by
        rw [e]; unfold moveP; rw [hh]; exact hk⟩
      exact ⟨fun _ => s0, fun _ => s0.s1, fun _ => .inl s0, s0.s2⟩
    · rename_i h1 hv n3 n1 n2
      have gen : ∀ hp' (K' : KO), K' (ρ x) hp' → opQ G cf fid rid i ⟨dst, op, ty, pos, aft, gd⟩ ρ hp' K' := fun hp' K' hk => by
        rw [e]; unfold moveP
        split
        · rename_i a1 a2 a3 a4; exact absurd (by rw [a4]) (n1 _ _ a3)
        · rename_i a1 a2 a3; exact absurd (by rw [a3]) (n2 a2)
        · rename_i a1 a2; exact absurd a2 n3
        · exact hk
      have s0 : S0 (opQ G cf fid rid i ⟨dst, op, ty, pos, aft, gd⟩ ρ) hp K := ⟨_, hm, fun hp' K' hk => gen hp' K' hk⟩
      exact ⟨fun _ => s0, fun _ => s0.s1, fun _ => .inl s0, s0.s2⟩
  cases op <;> (try simp only at h) <;> try exact h.elim
  case move x => exact moves x h (.inl rfl)
  case assign x => exact moves x h (.inr rfl)
  case pick c a b =>
    refine fin0 ?_ rfl
    split at h
    · rename_i t ht
      rcases h with ⟨h1, h2⟩ | ⟨h1, h2⟩
      · exact ⟨_, h2, fun hp' K' hk => by unfold opQ; simp only [ht]; exact .inl ⟨h1, hk⟩⟩
      · exact ⟨_, h2, fun hp' K' hk => by unfold opQ; simp only [ht]; exact .inr ⟨h1, hk⟩⟩
    · exact h.elim
  case alloc e =>
    refine fin3 ?_ rfl
    split at h
    · rename_i ti hti
      obtain ⟨⟨h1, h2⟩, h3⟩ := h
      exact ⟨_, _, h2, h3, fun hp' K' hn hk => by unfold opQ; simp only [hti]; exact ⟨⟨h1, hn⟩, hk⟩⟩
    · exact h.elim
  case box e x =>
    split at h
    · rename_i h9
      refine fin2 ?_ (by simp only [cls0, h9])
      split at h
      · rename_i j hj
        split at h
        · rename_i ds hds
          obtain ⟨h2, h3⟩ := h
          exact ⟨_, _, h3, fun K' hk => by unfold opQ; simp only [h9, hj, hds]; exact ⟨h2, hk⟩⟩
        · exact h.elim
      · exact h.elim
    rename_i h9
    refine fin3 ?_ (by simp only [cls0])
    split at h
    · exact h.elim
    · exact h.elim
    · rename_i a hnd hns ha
      obtain ⟨h2, h3⟩ := h
      refine ⟨_, _, h2, h3, fun hp' K' hn hk => ?_⟩
      unfold opQ
      simp only [ha]
      exact ⟨hn, hk⟩
    · exact h.elim
  case build t ps =>
    split at h
    · rename_i h9
      refine fin3 ?_ (by simp only [cls0, h9])
      split at h
      · rename_i ti hti
        split at h
        · rename_i zl l hz hl
          obtain ⟨h1, h⟩ := h
          split at h
          · rename_i cs hcs
            obtain ⟨h2, h3⟩ := h
            exact ⟨_, _, h2, h3, fun hp' K' hn hk => by unfold opQ; simp only [h9, hti, hz, hl, hcs]; exact ⟨h1, hn, hk⟩⟩
          · exact h.elim
        · exact h.elim
      · exact h.elim
    · rename_i h9
      refine fin2 ?_ (by simp only [cls0, h9])
      split at h
      · rename_i ti hti
        split at h
        · rename_i zl l hz hl
          obtain ⟨h1, h⟩ := h
          split at h
          · rename_i cs hcs
            unfold homeB at h
            split at h
            · rename_i k hk0
              split at h
              · rename_i e0 he0
                split at h
                · rename_i te hte
                  obtain ⟨h2, h3, h4⟩ := h
                  exact ⟨_, _, h4, fun K' hk => by unfold opQ; simp only [h9, hti, hz, hl, hcs]; refine ⟨h1, ?_⟩; unfold homeB; simp only [hk0, he0, hte]; exact ⟨h2, h3, hk⟩⟩
                · exact h.elim
              · exact h.elim
            · exact h.elim
          · exact h.elim
        · exact h.elim
      · exact h.elim
    rename_i h9 h10
    refine fin0 ?_ (by simp only [cls0])
    split at h
    · rename_i ti hti
      split at h
      · rename_i zl l hz hl
        obtain ⟨h1, h⟩ := h
        split at h
        · rename_i cs hcs
          exact ⟨_, h, fun hp' K' hk => by unfold opQ; simp only [hti, hz, hl, hcs]; exact ⟨h1, hk⟩⟩
        · exact h.elim
      · exact h.elim
    · exact h.elim
  case buildSlice t len ps =>
    refine fin3 ?_ rfl
    split at h
    · rename_i ti hti
      split at h
      · rename_i e he
        split at h
        · rename_i te hte
          split at h
          · rename_i zl l hz hl
            obtain ⟨h1, h⟩ := h
            split at h
            · rename_i hr hall
              rw [named_eq] at h
              obtain ⟨h2, h3⟩ := h
              exact ⟨_, _, h2, h3, fun hp' K' hn hk => by unfold opQ; simp only [hti, he, hte, hz, hl, hr, hall, named_eq]; exact ⟨h1, hn, hk⟩⟩
            · exact h.elim
          · exact h.elim
        · exact h.elim
      · exact h.elim
    · exact h.elim
  case load t a =>
    split at h
    · rename_i h9
      refine fin2 ?_ (by simp only [cls0, h9])
      have e : ∀ hp' K', opQ G cf fid rid i ⟨dst, .load t a, ty, pos, aft, gd⟩ ρ hp' K' = loadS G rid i t (ρ a) hp' K' := fun _ _ => by unfold opQ; simp only [h9]
      unfold loadS at h
      split at h
      · exact h.elim
      · rename_i ti hti
        split at h
        · rename_i id off ha
          split at h
          · rename_i cs hcs
            obtain ⟨h1, h2, h3⟩ := h
            exact ⟨_, _, h3, fun K' hk => by rw [e]; unfold loadS; simp only [hti, ha, hcs]; exact ⟨h1, h2, hk⟩⟩
          · exact h.elim
        · exact h.elim
    · rename_i h9
      refine fin2 ?_ (by simp only [cls0, h9])
      have e : ∀ hp' K', opQ G cf fid rid i ⟨dst, .load t a, ty, pos, aft, gd⟩ ρ hp' K' = loadF G t (ρ a) hp' K' := fun _ _ => by unfold opQ; simp only [h9]
      unfold loadF at h
      split at h
      · exact h.elim
      · rename_i ti hti
        split at h
        · rename_i id off ha
          split at h
          · rename_i cs hcs
            obtain ⟨h1, h2⟩ := h
            obtain ⟨vs, hq, h3, h4⟩ := frzL_pick h2
            exact ⟨_, _, h3, fun K' hk => by rw [e]; unfold loadF; simp only [hti, ha, hcs]; exact ⟨h1, h4 _ hk⟩⟩
          · exact h.elim
        · exact h.elim
    rename_i h9 h11
    refine fin1 ?_ (by simp only [cls0])
    have e : ∀ hp' K', opQ G cf fid rid i ⟨dst, .load t a, ty, pos, aft, gd⟩ ρ hp' K' = loadP G t (ρ a) hp' K' := fun _ _ => by
      unfold opQ
      simp only
    unfold loadP at h
    split at h
    · exact h.elim
    · rename_i ti hti
      split at h
      · rename_i id off ha
        split at h
        · rename_i cs hcs
          split at h
          · rename_i v hv
            refine ⟨_, h, fun hp' K' hag hk => ?_⟩
            have hcs' : hp' id = some (.box cs) := by rw [← hag id ⟨a, by simp [Op.operands], by rw [ha]; rfl⟩]; exact hcs
            rw [e]; unfold loadP; simp only [hti, ha, hcs', hv]; exact hk
          · exact h.elim
        · exact h.elim
      · rename_i el off ha
        split at h
        · rename_i v hv
          exact ⟨_, h, fun hp' K' hag hk => by rw [e]; unfold loadP; simp only [hti, ha, hv]; exact hk⟩
        · exact h.elim
      · rename_i id g j off ha
        split at h
        · rename_i e1 sz es g' pin hcs
          obtain ⟨h1, el, hel, h⟩ := h
          split at h
          · rename_i v hv
            refine ⟨_, h, fun hp' K' hag hk => ?_⟩
            have hcs' : hp' id = some (.own e1 sz es g' pin) := by rw [← hag id ⟨a, by simp [Op.operands], by rw [ha]; rfl⟩]; exact hcs
            rw [e]; unfold loadP; simp only [hti, ha, hcs']; exact ⟨h1, el, hel, by simp only [hv]; exact hk⟩
          · exact h.elim
        · exact h.elim
      · exact h.elim
  case store t a x =>
    refine fin2 ?_ rfl
    have e : ∀ hp' K', opQ G cf fid rid i ⟨dst, .store t a x, ty, pos, aft, gd⟩ ρ hp' K' = storeP G (G.hint fid rid i) t (ρ a) (ρ x) hp' K' := fun _ _ => rfl
    unfold storeP at h
    split at h
    · exact h.elim
    · rename_i ti hti
      split at h
      · exact h.elim
      · rename_i id off j ha hx
        split at h
        · rename_i cs ds hcs hds
          obtain ⟨h1, h2, h3⟩ := h
          refine ⟨_, _, h3, fun K' hk => ?_⟩
          rw [e]; unfold storeP; simp only [hti, ha, hx, hcs, hds]
          exact ⟨h1, h2, hk⟩
        · exact h.elim
      · exact h.elim
      · rename_i id off v hnd hns ha hx
        split at h
        · rename_i cs hcs
          obtain ⟨h1, h2, h3⟩ := h
          refine ⟨_, _, h3, fun K' hk => ?_⟩
          rw [e]; unfold storeP; simp only [hti, ha, hx]
          cases v <;> first | exact absurd rfl hnd | exact (hns _ _ _ rfl rfl).elim | (simp only [hcs]; exact ⟨h1, h2, hk⟩)
        · exact h.elim
      · rename_i id g j off v ha hx
        split at h
        · rename_i e1 sz es g' pin hcs
          obtain ⟨h1, h2, h3, u, hu, h⟩ := h
          split at h
          · rename_i u' hu'
            rw [named_eq] at h
            refine ⟨_, _, h, fun K' hk => ?_⟩
            rw [e]; unfold storeP; simp only [hti, ha, hx, hcs]
            exact ⟨h1, h2, h3, u, hu, by simp only [hu', named_eq]; exact hk⟩
          · exact h.elim
        · exact h.elim
      · exact h.elim
  case nilCheck x =>
    refine fin0 ?_ rfl
    split at h <;> first
      | exact h.elim
      | (rename_i hx; exact ⟨_, h, fun hp' K' hk => by unfold opQ; simp only [hx]; exact hk⟩)
  case binOp op t x y t2 =>
    refine fin0 ?_ rfl
    split at h
    · rename_i ti u v hti hu hv
      obtain ⟨r, h1, h2⟩ := bin_pick h
      exact ⟨_, h1, fun hp' K' hk => by unfold opQ; simp only [hti, hu, hv]; exact h2 _ hk⟩
    · exact h.elim
  case unOp op t x =>
    refine fin0 ?_ rfl
    split at h
    · rename_i b hb
      exact ⟨_, h, fun hp' K' hk => by unfold opQ; simp only [hb]; exact hk⟩
    · rename_i k n hb
      obtain ⟨z, hz, h⟩ := h
      exact ⟨_, h, fun hp' K' hk => by unfold opQ; simp only [hb]; exact ⟨z, hz, hk⟩⟩
    · exact h.elim
  case convert s d x =>
    split at h
    · rename_i ti hti
      split at h
      · rename_i hstr
        refine fin1 ?_ (by simp only [cls0, hti, hstr])
        have hx' : x ∈ (Op.convert s d x).operands := by simp [Op.operands]
        have e : ∀ hp' K', bytesP G s (ρ x) hp' K' → opQ G cf fid rid i ⟨dst, .convert s d x, ty, pos, aft, gd⟩ ρ hp' K' := fun hp' K' hk => by
          unfold opQ; simp only [hti, hstr]; exact hk
        unfold bytesP at h
        split at h
        · exact h.elim
        rename_i si hsi
        split at h
        · exact h.elim
        rename_i el he
        split at h
        · exact h.elim
        rename_i te hte
        obtain ⟨hk, h⟩ := h
        have e2 : ∀ hp' K', (srcP (ρ x) hp' fun es => ∃ xs : List Int, es = xs.map (VV.int .u8) ∧ K' (.one (.val (.str (strOfNums xs)))) hp') → opQ G cf fid rid i ⟨dst, .convert s d x, ty, pos, aft, gd⟩ ρ hp' K' := fun hp' K' hh => e _ _ (by
          unfold bytesP; simp only [hsi, he, hte]; exact ⟨hk, hh⟩)
        unfold srcP at h
        split at h
        · rename_i xs hxs
          obtain ⟨l, h1, h2⟩ := h
          exact ⟨_, h2, fun hp' K' _ hh => e2 _ _ (by rw [hxs]; exact ⟨l, h1, hh⟩)⟩
        · rename_i hxs
          obtain ⟨l, h1, h2⟩ := h
          exact ⟨_, h2, fun hp' K' _ hh => e2 _ _ (by rw [hxs]; exact ⟨l, h1, hh⟩)⟩
        · rename_i id g hxs
          split at h
          · rename_i e1 sz es g' pin hcs
            obtain ⟨h0, l, h1, h2⟩ := h
            refine ⟨_, h2, fun hp' K' hag hh => e2 _ _ ?_⟩
            have hcs' : hp' id = some (.own e1 sz es g' pin) := by rw [← hag id ⟨x, hx', by rw [hxs]; rfl⟩]; exact hcs
            rw [hxs]; unfold srcP; simp only [hcs']; exact ⟨h0, l, h1, hh⟩
          · exact h.elim
        · exact h.elim
      · rename_i hstr
        refine fin0 ?_ (by simp only [cls0, hti, hstr])
        split at h
        · rename_i k n hq
          split at h
          · rename_i k2 hk2
            obtain ⟨z, hz, h0, h⟩ := h
            exact ⟨_, h, fun hp' K' hk => by unfold opQ; simp only [hti, hstr, hq, hk2]; exact ⟨z, hz, h0, hk⟩⟩
          · exact h.elim
        · exact h.elim
    · exact h.elim
  case makeFunc fn first caps =>
    refine fin0 ?_ rfl
    cases fn <;> simp only at h <;> try exact h.elim
    obtain ⟨h0, h⟩ := h
    split at h
    · rename_i l hl
      exact ⟨_, h, fun hp' K' hk => by unfold opQ; simp only [hl]; exact ⟨h0, hk⟩⟩
    · exact h.elim
  case makeSlice t l c =>
    refine fin3 ?_ rfl
    split at h
    · rename_i ti k n k' m hti hl hc
      split at h
      · rename_i e he
        split at h
        · rename_i te hte
          split at h
          · rename_i zl hz
            simp only [named_eq] at h
            obtain ⟨h1, h2, h3, h4⟩ := h
            exact ⟨_, _, h3, h4, fun hp' K' hn hk => by unfold opQ; simp only [hti, hl, hc, he, hte, hz, named_eq]; exact ⟨h1, h2, hn, hk⟩⟩
          · exact h.elim
        · exact h.elim
      · exact h.elim
    · exact h.elim
  case slice t x lo hi mx =>
    refine fin0 ?_ rfl
    cases mx <;> simp only at h <;> try exact h.elim
    split at h
    · rename_i ti s lo' hi' hti hx hlo hhi
      obtain ⟨h0, h⟩ := h
      obtain ⟨l, u, h1, h2⟩ := cutB_pick h
      exact ⟨_, h1, fun hp' K' hk => by unfold opQ; simp only [hti, hx, hlo, hhi]; exact ⟨h0, h2 _ hk⟩⟩
    · rename_i ti es lo' hi' hti hx hlo hhi
      split at h
      · rename_i e he
        split at h
        · rename_i te hte
          obtain ⟨h0, h⟩ := h
          simp only [named_eq] at h
          obtain ⟨l, u, h1, h2⟩ := cutB_pick h
          exact ⟨_, h1, fun hp' K' hk => by unfold opQ; simp only [hti, hx, hlo, hhi, he, hte, named_eq]; exact ⟨h0, h2 _ hk⟩⟩
        · exact h.elim
      · exact h.elim
    · exact h.elim
  case fieldAddr t x f =>
    refine fin0 ?_ rfl
    split at h
    · rename_i ti hti
      split at h
      · rename_i off ft sz hf
        obtain ⟨h0, h⟩ := h
        split at h <;> first
          | exact h.elim
          | (rename_i hx; exact ⟨_, h, fun hp' K' hk => by unfold opQ; simp only [hti, hf, hx]; exact ⟨h0, hk⟩⟩)
      · exact h.elim
    · exact h.elim
  case field t x f =>
    split at h
    · rename_i h9
      refine fin2 ?_ (by simp only [cls0, h9])
      split at h
      · rename_i ti id hti hx
        split at h
        · rename_i cs off ft sz hcs hf
          split at h
          · rename_i tf htf
            split at h
            · rename_i v hv
              exact ⟨_, _, h, fun K' hk => by unfold opQ; simp only [h9, hti, hx, hcs, hf, htf, hv]; exact hk⟩
            · exact h.elim
          · exact h.elim
        · exact h.elim
      · exact h.elim
    rename_i h9
    refine fin0 ?_ (by simp only [cls0])
    split at h
    · rename_i ti cs hti hx
      split at h
      · rename_i off ft sz hf
        split at h
        · rename_i tf htf
          split at h
          · rename_i v hv
            exact ⟨_, h, fun hp' K' hk => by unfold opQ; simp only [hti, hx, hf, htf, hv]; exact hk⟩
          · exact h.elim
        · exact h.elim
      · exact h.elim
    · exact h.elim
  case indexAddr t x ix =>
    refine fin1 ?_ rfl
    split at h
    · rename_i ti es k n hti hx hi
      split at h
      · rename_i e he
        split at h
        · rename_i te hte
          obtain ⟨h0, u, hu, h1, h2, h⟩ := h
          exact ⟨_, h, fun hp' K' _ hk => by unfold opQ; simp only [hti, hx, hi, he, hte]; exact ⟨h0, u, hu, h1, h2, hk⟩⟩
        · exact h.elim
      · exact h.elim
    · rename_i ti id g k n hti hx hi
      split at h
      · rename_i e he
        split at h
        · rename_i te e1 sz es g' pin hte hcs
          obtain ⟨h0, h1, h2, h3, h⟩ := h
          refine ⟨_, h, fun hp' K' hag hk => ?_⟩
          have hcs' : hp' id = some (.own e1 sz es g' pin) := by rw [← hag id ⟨x, by simp [Op.operands], by rw [hx]; rfl⟩]; exact hcs
          unfold opQ; simp only [hti, hx, hi, he, hte, hcs']; exact ⟨h0, h1, h2, h3, hk⟩
        · exact h.elim
      · exact h.elim
    · exact h.elim
  case index t x ix =>
    refine fin0 ?_ rfl
    split at h
    · rename_i ti s k n hti hx hi
      obtain ⟨h0, h1, b, hb, h⟩ := h
      exact ⟨_, h, fun hp' K' hk => by unfold opQ; simp only [hti, hx, hi]; exact ⟨h0, h1, b, hb, hk⟩⟩
    · exact h.elim
  case range t x =>
    refine fin2 ?_ rfl
    split at h
    · rename_i ti s hti hs
      obtain ⟨h0, h1, h2⟩ := h
      exact ⟨_, _, h2, fun K' hk => by unfold opQ; simp only [hti, hs]; exact ⟨h0, h1, hk⟩⟩
    · exact h.elim
  case next x isS =>
    cases isS with
    | false => exact h.elim
    | true =>
      refine fin2 ?_ rfl
      simp only at h
      split at h
      · rename_i id hxe
        split at h
        · rename_i s p hcs
          rcases h with ⟨h1, h2⟩ | ⟨h1, h2⟩
          · exact ⟨_, _, h2, fun K' hk => by unfold opQ; simp only [hxe, hcs]; exact .inl ⟨h1, hk⟩⟩
          · exact ⟨_, _, h2, fun K' hk => by unfold opQ; simp only [hxe, hcs]; exact .inr ⟨h1, hk⟩⟩
        · exact h.elim
      · exact h.elim
  case extract x j =>
    refine fin0 ?_ rfl
    split at h
    · rename_i as has
      split at h
      · rename_i a ha
        exact ⟨_, h, fun hp' K' hk => by unfold opQ; simp only [has, ha]; exact hk⟩
      · exact h.elim
    · exact h.elim
  case call c =>
    obtain ⟨cal, args, ats⟩ := c
    cases cal <;> (try simp only at h) <;> try exact h.elim
    case value f =>
      have e : ∀ hp' K' f' caps, ρ f = .one (.fn f' caps) → callP G cf rid i f' (args.toList.map ρ ++ caps.map fun id => .one (.ptr id 0)) hp' K' → opQ G cf fid rid i ⟨dst, .call { callee := .value f, args := args, argTypes := ats }, ty, pos, aft, gd⟩ ρ hp' K' := fun hp' K' f' caps hf hk => by
        unfold opQ; simp only [hf]; exact hk
      split at h
      · rename_i f' caps hf
        have hcall := h
        rw [callP_eq] at h
        obtain ⟨hsome, h⟩ := h
        have s2 : S2 (opQ G cf fid rid i ⟨dst, .call { callee := .value f, args := args, argTypes := ats }, ty, pos, aft, gd⟩ ρ) hp K ∧ (G.eff f' = false → S0 (opQ G cf fid rid i ⟨dst, .call { callee := .value f, args := args, argTypes := ats }, ty, pos, aft, gd⟩ ρ) hp K) := by
          split at h
          · rename_i heff
            refine ⟨?_, fun hf => by rw [heff] at hf; cases hf⟩
            split at h
            · rename_i as os has hos
              obtain ⟨q, h⟩ := h
              obtain ⟨obs, ⟨rs, obs', hc, hfr, h⟩, hob⟩ := mapObK_pick h
              obtain ⟨l, h, hl⟩ := mapK_pick h
              obtain ⟨os', h, ho⟩ := mapObK_pick h
              refine ⟨_, _, h, fun K' hk => e _ _ _ _ hf (Eq.mpr (callP_eq G cf rid i f' _ _ K') ⟨hsome, ?_⟩)⟩
              simp only [heff, has, hos]
              exact ⟨q, hob ⟨rs, obs', hc, hfr, hl (ho hk)⟩⟩
            · exact h.elim
          · rename_i heff
            split at h
            · rename_i as has
              obtain ⟨rs, hc, h⟩ := h
              obtain ⟨l, h, hl⟩ := mapK_pick h
              have s0 : S0 (opQ G cf fid rid i ⟨dst, .call { callee := .value f, args := args, argTypes := ats }, ty, pos, aft, gd⟩ ρ) hp K := ⟨_, h, fun hp' K' hk => e _ _ _ _ hf (Eq.mpr (callP_eq G cf rid i f' _ _ K') ⟨hsome, by simp only [heff, has]; exact ⟨rs, hc, hl hk⟩⟩)⟩
              exact ⟨s0.s2, fun _ => s0⟩
            · exact h.elim
        cases f with
        | func f0 =>
          rw [hρ f0] at hf
          cases hf
          by_cases he : G.eff f' = true
          · exact fin2 s2.1 (by simp [cls0, he])
          · exact fin0 (s2.2 (by simpa using he)) (by simp [cls0, he])
        | tmp t => exact fin2 s2.1 rfl
        | const v => exact fin2 s2.1 rfl
        | global g => exact fin2 s2.1 rfl
      · exact h.elim
    case builtin b =>
      split at h
      · rename_i x t hargs hats
        refine fin1 ?_ rfl
        split at h
        · rename_i ti hti
          have hx' : x ∈ (Op.call { callee := .builtin .len, args := args, argTypes := ats }).operands := by
            simp [Op.operands, Call.operands]; have : x ∈ args.toList := by rw [hargs]; simp
            simpa using this
          have e : ∀ hp' K', lenP ti (ρ x) hp' K' → opQ G cf fid rid i ⟨dst, .call { callee := .builtin .len, args := args, argTypes := ats }, ty, pos, aft, gd⟩ ρ hp' K' := fun hp' K' hk => by
            unfold opQ; simp only [hargs, hats, hti]; exact hk
          unfold lenP at h
          split at h
          · rename_i s hs; exact ⟨_, h.2, fun hp' K' _ hk => e _ _ (by rw [hs]; exact ⟨h.1, hk⟩)⟩
          · rename_i es hs; obtain ⟨h0, m, hm, h⟩ := h; exact ⟨_, h, fun hp' K' _ hk => e _ _ (by rw [hs]; exact ⟨h0, m, hm, hk⟩)⟩
          · rename_i hs; exact ⟨_, h.2, fun hp' K' _ hk => e _ _ (by rw [hs]; exact ⟨h.1, hk⟩)⟩
          · rename_i id g hs
            obtain ⟨h0, h⟩ := h
            split at h
            · rename_i e1 sz es g' pin hcs
              obtain ⟨h1, m, hm, h⟩ := h
              refine ⟨_, h, fun hp' K' hag hk => e _ _ ?_⟩
              have hcs' : hp' id = some (.own e1 sz es g' pin) := by rw [← hag id ⟨x, hx', by rw [hs]; rfl⟩]; exact hcs
              rw [hs]; unfold lenP; simp only [hcs']; exact ⟨h0, h1, m, hm, hk⟩
            · exact h.elim
          · exact h.elim
        · exact h.elim
      · rename_i s x t t' hargs hats
        refine fin2 ?_ rfl
        obtain ⟨h0, h⟩ := h
        have e : ∀ K', appendP G rid i t (ρ s) (ρ x) hp K' → opQ G cf fid rid i ⟨dst, .call { callee := .builtin .append, args := args, argTypes := ats }, ty, pos, aft, gd⟩ ρ hp K' := fun K' hk => by
          unfold opQ; simp only [hargs, hats]; exact ⟨h0, hk⟩
        have src : ∀ (K1 : List VV → Prop), srcP (ρ x) hp K1 → ∃ xs, K1 xs ∧ ∀ K2 : List VV → Prop, K2 xs → srcP (ρ x) hp K2 := fun K1 hk => by
          unfold srcP at hk
          split at hk
          · rename_i xs hx; exact ⟨xs, hk, fun K2 h2 => by rw [hx]; exact h2⟩
          · rename_i hx; exact ⟨[], hk, fun K2 h2 => by rw [hx]; exact h2⟩
          · rename_i id g hx
            split at hk
            · rename_i e1 sz xs g' pin hcs
              exact ⟨xs, hk.2, fun K2 h2 => by rw [hx]; unfold srcP; simp only [hcs]; exact ⟨hk.1, h2⟩⟩
            · exact hk.elim
          · exact hk.elim
        unfold appendP at h
        split at h
        · exact h.elim
        rename_i ti hti
        split at h
        · exact h.elim
        rename_i el he
        split at h
        · exact h.elim
        rename_i te hte
        dsimp only at h
        simp only [named_eq] at h
        split at h
        · rename_i hs
          obtain ⟨xs, ⟨h1, h2, h3, h4⟩, hsrc⟩ := src _ h
          refine ⟨_, _, h4, fun K' hk => e K' ?_⟩
          unfold appendP; simp only [hti, he, hte, hs, named_eq]
          exact hsrc _ ⟨h1, h2, h3, hk⟩
        · rename_i id g hs
          split at h
          · rename_i e1 sz es g' pin hcs
            obtain ⟨q1, q2, q3, h⟩ := h
            obtain ⟨xs, ⟨h1, h2, h4⟩, hsrc⟩ := src _ h
            refine ⟨_, _, h4, fun K' hk => e K' ?_⟩
            unfold appendP; simp only [hti, he, hte, hs, hcs, named_eq]
            exact ⟨q1, q2, q3, hsrc _ ⟨h1, h2, hk⟩⟩
          · exact h.elim
        · exact h.elim
      · rename_i x y hargs
        refine fin0 ?_ rfl
        split at h
        · rename_i k a k' b hx hy
          obtain ⟨z, hz, h⟩ := h
          exact ⟨_, h, fun hp' K' hk => by unfold opQ; simp only [hargs, hx, hy]; exact ⟨z, hz, hk⟩⟩
        · exact h.elim
      · rename_i x y hargs
        refine fin0 ?_ rfl
        split at h
        · rename_i k a k' b hx hy
          obtain ⟨z, hz, h⟩ := h
          exact ⟨_, h, fun hp' K' hk => by unfold opQ; simp only [hargs, hx, hy]; exact ⟨z, hz, hk⟩⟩
        · exact h.elim
      · exact h.elim
end
section
variable {G : Env} {cf : CF}
theorem takeL_pick : ∀ {cs : List A0} {hp : Hp} {K : List VV → List (Option Nat) → Hp → Prop}, takeL cs hp K → ∃ vs ts hp', K vs ts hp' ∧ ∀ K' : List VV → List (Option Nat) → Hp → Prop, K' vs ts hp' → takeL cs hp K'
  | [], hp, K, h => ⟨_, _, _, h, fun K' hk => hk⟩
  | a :: l, hp, K, h => by
    simp only [takeL] at h
    cases a <;> simp only at h <;> try exact h.elim
    case val v =>
      obtain ⟨h0, h⟩ := h
      obtain ⟨vs, ts, hp', h1, h2⟩ := takeL_pick h
      exact ⟨_, _, _, h1, fun K' hk => by simp only [takeL]; exact ⟨h0, h2 _ hk⟩⟩
    case nilrow =>
      obtain ⟨vs, ts, hp', h1, h2⟩ := takeL_pick h
      exact ⟨_, _, _, h1, fun K' hk => by simp only [takeL]; exact h2 _ hk⟩
    case ref id g =>
      split at h
      · rename_i hcs
        obtain ⟨h0, h⟩ := h
        obtain ⟨vs, ts, hp', h1, h2⟩ := takeL_pick h
        exact ⟨_, _, _, h1, fun K' hk => by simp only [takeL, hcs]; exact ⟨h0, h2 _ hk⟩⟩
      · exact h.elim
theorem homesL_pick {ty : Nat → Nat → Nat} {T rid i : Nat} : ∀ {cs : List A0} {k m : Nat} {hp : Hp} {K : List A0 → Hp → Prop}, homesL ty T rid i k m cs hp K → ∃ cs' hp', K cs' hp' ∧ ∀ K' : List A0 → Hp → Prop, K' cs' hp' → homesL ty T rid i k m cs hp K'
  | [], k, m, hp, K, h => ⟨_, _, h, fun K' hk => hk⟩
  | a :: l, k, m, hp, K, h => by
    cases a
    case nilrow =>
      simp only [homesL] at h
      obtain ⟨h0, h⟩ := h
      obtain ⟨vs, hp', h1, h2⟩ := homesL_pick h
      exact ⟨_, _, h1, fun K' hk => by simp only [homesL]; exact ⟨h0, h2 _ hk⟩⟩
    all_goals
      simp only [homesL] at h
      obtain ⟨vs, hp', h1, h2⟩ := homesL_pick h
      exact ⟨_, _, h1, fun K' hk => by simp only [homesL]; exact h2 _ hk⟩
theorem outL_pick {ty : Nat → Nat → Nat} {T rid i : Nat} : ∀ {cs : List VV} {k m : Nat} {hp : Hp} {K : List A0 → Hp → Prop}, outL ty T rid i k m cs hp K → ∃ cs' hp', K cs' hp' ∧ ∀ K' : List A0 → Hp → Prop, K' cs' hp' → outL ty T rid i k m cs hp K'
  | [], k, m, hp, K, h => ⟨_, _, h, fun K' hk => hk⟩
  | a :: l, k, m, hp, K, h => by
    cases a
    case row ks =>
      simp only [outL] at h
      obtain ⟨h0, h⟩ := h
      obtain ⟨vs, hp', h1, h2⟩ := outL_pick h
      exact ⟨_, _, h1, fun K' hk => by simp only [outL]; exact ⟨h0, h2 _ hk⟩⟩
    all_goals
      simp only [outL] at h
      obtain ⟨h0, h⟩ := h
      obtain ⟨vs, hp', h1, h2⟩ := outL_pick h
      exact ⟨_, _, h1, fun K' hk => by simp only [outL]; exact ⟨h0, h2 _ hk⟩⟩
theorem tLoad_pick {h0 rid i : Nat} {t : TypeId} {a : AV} {hp : Hp} {K : KO} (h : tLoad G h0 rid i t a hp K) : S2 (fun hp K => tLoad G h0 rid i t a hp K) hp K := by
  unfold tLoad at h
  split at h
  rotate_left
  · exact h.elim
  rename_i ti id g k off hti
  split at h
  rotate_left
  · exact h.elim
  rename_i e sz es g' hid
  obtain ⟨hg, u, hu, h⟩ := h
  split at h
  · rename_i h12 hagg
    split at h
    · rename_i v hv
      exact ⟨_, _, h.2, fun K' hk => by simp only [tLoad, hti, hid, hagg, h12]; exact ⟨hg, u, hu, by simp only [hv]; exact ⟨h.1, hk⟩⟩⟩
    · exact h.elim
  · rename_i h12 hagg
    obtain ⟨h1, h⟩ := h
    obtain ⟨cs, hp', ⟨hn, hk⟩, hd⟩ := outL_pick h
    exact ⟨_, _, hk, fun K' hk' => by simp only [tLoad, hti, hid, hagg, h12]; exact ⟨hg, u, hu, h1, hd _ ⟨hn, hk'⟩⟩⟩
  · rename_i h12 hagg
    split at h
    · rename_i ks hks
      exact ⟨_, _, h.2, fun K' hk => by simp only [tLoad, hti, hid, hagg, h12]; exact ⟨hg, u, hu, by simp only [hks]; exact ⟨h.1, hk⟩⟩⟩
    · exact h.elim
  · rename_i h12 hagg
    split at h
    · rename_i q ks hq
      obtain ⟨h1, hn, hk⟩ := h
      exact ⟨_, _, hk, fun K' hk' => by simp only [tLoad, hti, hid, hagg, h12]; exact ⟨hg, u, hu, by simp only [hq]; exact ⟨h1, hn, hk'⟩⟩⟩
    · exact h.elim
theorem tStore_pick {t : TypeId} {a v : AV} {hp : Hp} {K : KO} (h : tStore G t a v hp K) : S2 (fun hp K => tStore G t a v hp K) hp K := by
  unfold tStore at h
  split at h
  rotate_left
  · exact h.elim
  rename_i ti id g k off hti
  split at h
  · split at h
    rotate_left
    · exact h.elim
    rename_i hid
    obtain ⟨h1, u, hu, h⟩ := h
    split at h
    rotate_left
    · exact h.elim
    rename_i hc hst
    rw [named_eq] at h
    exact ⟨_, _, h.2, fun K' hk => by simp only [tStore, hti, hid]; exact ⟨h1, u, hu, by simp only [hc, hst, named_eq]; exact ⟨h.1, hk⟩⟩⟩
  · split at h
    rotate_left
    · exact h.elim
    rename_i hid hj
    obtain ⟨h1, h2, u, hu, h⟩ := h
    split at h
    rotate_left
    · exact h.elim
    rename_i hst
    rw [named_eq] at h
    exact ⟨_, _, h, fun K' hk => by simp only [tStore, hti, hid, hj]; exact ⟨h1, h2, u, hu, by simp only [hst, named_eq]; exact hk⟩⟩
  · exact h.elim
theorem tPut_pick {t : TypeId} {a v : AV} {hp : Hp} {K : KO} (h : tPut G t a v hp K) : S2 (fun hp K => tPut G t a v hp K) hp K := by
  unfold tPut at h
  split at h
  rotate_left
  · exact h.elim
  rename_i hti
  split at h
  rotate_left
  · exact h.elim
  rename_i hcs
  obtain ⟨vs, ts, hp', h, hd⟩ := takeL_pick h
  split at h
  rotate_left
  · exact h.elim
  rename_i hid
  obtain ⟨h1, u, hu, h⟩ := h
  rw [named_eq] at h
  exact ⟨_, _, h, fun K' hk => by simp only [tPut, hti, hcs]; exact hd _ (by simp only [hid]; exact ⟨h1, u, hu, by rw [named_eq]; exact hk⟩)⟩
theorem tMake_pick {rid i : Nat} {t : TypeId} {a v : AV} {hp : Hp} {K : KO} (h : tMake G rid i t a v hp K) : S2 (fun hp K => tMake G rid i t a v hp K) hp K := by
  unfold tMake at h
  split at h
  rotate_left
  · exact h.elim
  rename_i hti
  split at h
  rotate_left
  · exact h.elim
  rename_i he
  split at h
  rotate_left
  · exact h.elim
  rename_i hte
  split at h
  rotate_left
  · exact h.elim
  rename_i hz
  rw [named_eq] at h
  obtain ⟨h1, h2, h3, h⟩ := h
  exact ⟨_, _, h, fun K' hk => by simp only [tMake, hti, he, hte, hz]; exact ⟨h1, h2, by rw [named_eq]; exact ⟨h3, hk⟩⟩⟩
theorem tAppend_pick {t : TypeId} {a v : AV} {hp : Hp} {K : KO} (h : tAppend G t a v hp K) : S2 (fun hp K => tAppend G t a v hp K) hp K := by
  unfold tAppend at h
  split at h
  rotate_left
  · exact h.elim
  rename_i hti
  split at h
  rotate_left
  · exact h.elim
  rename_i he
  split at h
  rotate_left
  · exact h.elim
  rename_i hte hid hj
  rw [named_eq] at h
  obtain ⟨h1, h2, h3, h⟩ := h
  exact ⟨_, _, h, fun K' hk => by simp only [tAppend, hti, he, hte, hid, hj, named_eq]; exact ⟨h1, h2, h3, hk⟩⟩
theorem tLen_pick {ti : TI} {v : AV} {hp : Hp} {K : KO} (h : tLen ti v hp K) : S2 (fun hp K => tLen ti v hp K) hp K := by
  unfold tLen at h
  split at h
  · obtain ⟨h1, h⟩ := h
    split at h
    · rename_i hid
      obtain ⟨h2, m, hm, h⟩ := h
      exact ⟨_, _, h, fun K' hk => by simp only [tLen, hid]; exact ⟨h1, h2, m, hm, hk⟩⟩
    · exact h.elim
  · exact h.elim
theorem treP_pick {h0 rid i : Nat} {o : Oper} {ρ : Operand → AV} {hp : Hp} {K : KO} (h : treP G h0 rid i o ρ hp K) : S2 (treP G h0 rid i o ρ) hp K := by
  obtain ⟨dst, op, ty, pos, aft, gd⟩ := o
  unfold treP at h
  simp only at h
  split at h
  · split at h
    · rename_i hcs
      obtain ⟨cs, hp', ⟨hn, hk⟩, hd⟩ := homesL_pick h
      exact ⟨_, _, hk, fun K' hk' => by simp only [treP, hcs]; exact hd _ ⟨hn, hk'⟩⟩
    · exact h.elim
  · split at h
    · rename_i hcs
      obtain ⟨cs, hp', ⟨hn, hk⟩, hd⟩ := homesL_pick h
      exact ⟨_, _, hk, fun K' hk' => by simp only [treP, hcs]; exact hd _ ⟨hn, hk'⟩⟩
    · exact h.elim
  · split at h
    rotate_left
    · exact h.elim
    rename_i hti
    split at h
    rotate_left
    · exact h.elim
    rename_i hl
    obtain ⟨h1, h⟩ := h
    split at h
    rotate_left
    · exact h.elim
    rename_i hf
    obtain ⟨cs, hp', ⟨hn, hk⟩, hd⟩ := homesL_pick h
    exact ⟨_, _, hk, fun K' hk' => by simp only [treP, hti, hl, hf]; exact ⟨h1, hd _ ⟨hn, hk'⟩⟩⟩
  · split at h
    rotate_left
    · exact h.elim
    rename_i hti
    split at h
    rotate_left
    · exact h.elim
    rename_i he
    split at h
    rotate_left
    · exact h.elim
    rename_i hte
    split at h
    rotate_left
    · exact h.elim
    rename_i hz hl
    obtain ⟨h1, h⟩ := h
    split at h
    rotate_left
    · exact h.elim
    rename_i hr hall
    obtain ⟨vs, ts, hp', ⟨hok, hk⟩, hd⟩ := takeL_pick h
    rw [named_eq] at hk
    exact ⟨_, _, hk.2, fun K' hk' => by simp only [treP, hti, he, hte, hz, hl, hr, hall]; exact ⟨h1, hd _ ⟨hok, by rw [named_eq]; exact ⟨hk.1, hk'⟩⟩⟩⟩
  · exact tLoad_pick h
  · rename_i t a x
    split at h
    · rename_i j hj
      obtain ⟨v, hp', hk, hd⟩ := tPut_pick h
      exact ⟨v, hp', hk, fun K' hk' => by simp only [treP, hj]; exact hd _ hk'⟩
    · rename_i hn
      obtain ⟨v, hp', hk, hd⟩ := tStore_pick h
      exact ⟨v, hp', hk, fun K' hk' => by
        simp only [treP]
        exact hd _ hk'⟩
  · exact tMake_pick h
  · split at h
    rotate_left
    · exact h.elim
    rename_i hti hx hix
    split at h
    rotate_left
    · exact h.elim
    rename_i he
    split at h
    rotate_left
    · exact h.elim
    rename_i hte hid
    obtain ⟨h1, h2, h3, h4, h⟩ := h
    exact ⟨_, _, h, fun K' hk' => by simp only [treP, hti, hx, hix, he, hte, hid]; exact ⟨h1, h2, h3, h4, hk'⟩⟩
  · rename_i c
    obtain ⟨cal, args, ats⟩ := c
    simp only at h
    split at h
    rotate_left
    · exact h.elim
    rename_i b
    split at h
    · rename_i x t hargs hats
      split at h
      rotate_left
      · exact h.elim
      rename_i hti
      obtain ⟨v, hp', hk, hd⟩ := tLen_pick h
      exact ⟨v, hp', hk, fun K' hk' => by simp only [treP, hargs, hats, hti]; exact hd _ hk'⟩
    · rename_i s x t t' hargs hats
      obtain ⟨h1, h⟩ := h
      obtain ⟨v, hp', hk, hd⟩ := tAppend_pick h
      exact ⟨v, hp', hk, fun K' hk' => by simp only [treP, hargs, hats]; exact ⟨h1, hd _ hk'⟩⟩
    · exact h.elim
  · exact h.elim
theorem lendC_pick {hp : Hp} : ∀ {cs : List A0} {K : List VV → Prop}, lendC hp cs K → ∃ vs, K vs ∧ ∀ K' : List VV → Prop, K' vs → lendC hp cs K'
  | [], K, h => ⟨_, h, fun K' hk => hk⟩
  | a :: l, K, h => by
    simp only [lendC] at h
    split at h
    · split at h
      · rename_i hcs
        obtain ⟨h0, h⟩ := h
        obtain ⟨vs, h1, h2⟩ := lendC_pick h
        exact ⟨_, h1, fun K' hk => by simp only [lendC, hcs]; exact ⟨h0, h2 _ hk⟩⟩
      · rename_i hcs
        obtain ⟨h0, h⟩ := h
        obtain ⟨vs, h1, h2⟩ := lendC_pick h
        exact ⟨_, h1, fun K' hk => by simp only [lendC, hcs]; exact ⟨h0, h2 _ hk⟩⟩
      · exact h.elim
    · rename_i hn
      split at h
      · rename_i v hv
        obtain ⟨vs, h1, h2⟩ := lendC_pick h
        refine ⟨_, h1, fun K' hk => ?_⟩
        simp only [lendC]
        cases a <;> first | exact (hn _ _ rfl).elim | (simp only [hv]; exact h2 _ hk)
      · exact h.elim
theorem lendL_pick {hp : Hp} : ∀ {as : List AV} {K : List A0 → Prop}, lendL hp as K → ∃ bs, K bs ∧ ∀ K' : List A0 → Prop, K' bs → lendL hp as K'
  | [], K, h => ⟨_, h, fun K' hk => hk⟩
  | v :: l, K, h => by
    simp only [lendL] at h
    split at h
    · split at h
      · rename_i hcs
        obtain ⟨vs, h1, h2⟩ := lendC_pick h
        obtain ⟨bs, h3, h4⟩ := lendL_pick h1
        exact ⟨_, h3, fun K' hk => by simp only [lendL, hcs]; exact h2 _ (h4 _ hk)⟩
      · exact h.elim
    · rename_i a hns
      obtain ⟨vs, h1, h2⟩ := lendC_pick h
      split at h1
      · obtain ⟨bs, h3, h4⟩ := lendL_pick h1
        refine ⟨_, h3, fun K' hk => ?_⟩
        simp only [lendL]
        exact h2 _ (by simp only; exact h4 _ hk)
      · exact h1.elim
    · exact h.elim
theorem lendP_pick {rid i : Nat} {o : Oper} {ρ : Operand → AV} {hp : Hp} {K : KO} (h : lendP G cf rid i o ρ hp K) : S2 (lendP G cf rid i o ρ) hp K := by
  unfold lendP at h
  split at h
  rotate_left
  · exact h.elim
  rename_i c ho
  split at h
  rotate_left
  · exact h.elim
  rename_i f hc
  split at h
  rotate_left
  · exact h.elim
  rename_i f' hf
  obtain ⟨h1, h⟩ := h
  obtain ⟨bs, ⟨rs, obs', q1, q2, q3⟩, hd⟩ := lendL_pick h
  obtain ⟨l, q4, hd2⟩ := mapK_pick q3
  obtain ⟨os, q5, hd3⟩ := mapObK_pick q4
  exact ⟨_, _, q5, fun K' hk' => by simp only [lendP, ho, hc, hf]; exact ⟨h1, hd _ ⟨rs, obs', q1, q2, hd2 (hd3 hk')⟩⟩⟩
theorem joinP_pick {n : Nat} {hp : Hp} {K : Hp → Prop} (h : joinP G n hp K) : ∃ hp', K hp' ∧ ∀ K' : Hp → Prop, K' hp' → joinP G n hp K' := by
  unfold joinP at h
  split at h
  rotate_left
  · exact h.elim
  rename_i hid
  split at h
  rotate_left
  · exact h.elim
  rename_i hj
  obtain ⟨h1, u, hu, h⟩ := h
  split at h
  rotate_left
  · exact h.elim
  rename_i hst
  rw [named_eq] at h
  exact ⟨_, h, fun K' hk => by simp only [joinP, hid, hj]; exact ⟨h1, u, hu, by simp only [hst, named_eq]; exact hk⟩⟩
theorem opR_kind {fid rid i : Nat} {o : Oper} {ρ : Operand → AV} (hρ : ∀ f, ρ (.func f) = .one (.fn f [])) {hp : Hp} {K : KO} (h : opR G cf fid rid i o ρ hp K) :
    (clsR G fid rid i o = 0 → S0 (opR G cf fid rid i o ρ) hp K) ∧ ((clsR G fid rid i o = 1 ∨ clsR G fid rid i o = 5) → S1 (fun id => ∃ x ∈ o.op.operands, (ρ x).ment id) (opR G cf fid rid i o ρ) hp K) ∧ (clsR G fid rid i o = 3 → S0 (opR G cf fid rid i o ρ) hp K ∨ S3 (pid rid i) (opR G cf fid rid i o ρ) hp K) ∧ S2 (opR G cf fid rid i o ρ) hp K := by
  by_cases h4 : G.hint fid rid i = 4
  · have hc : clsR G fid rid i o = 2 := by unfold clsR; rw [h4]; rfl
    have he : ∀ hp (K : KO), opR G cf fid rid i o ρ hp K = opQ G cf fid rid i o ρ hp (fz K) := fun hp K => by unfold opR; rw [h4]; rfl
    rw [hc]
    refine ⟨fun c => by omega, fun c => by omega, fun c => by omega, ?_⟩
    rw [he] at h
    obtain ⟨v, hp', hk, hd⟩ := (opQ_kind hρ h).2.2.2
    unfold fz at hk
    split at hk
    · rename_i id
      split at hk
      · rename_i cs hcs
        obtain ⟨vs, hq, h3, h4'⟩ := frzL_pick hk
        refine ⟨_, _, h3, fun K' hk' => ?_⟩
        rw [he]
        refine hd _ ?_
        unfold fz
        simp only [hcs]
        exact h4' _ hk'
      · exact hk.elim
    · rename_i id g
      split at hk
      · rename_i e sz es g' pin hcs
        refine ⟨_, _, hk.2, fun K' hk' => ?_⟩
        rw [he]
        refine hd _ ?_
        unfold fz
        simp only [hcs]
        exact ⟨hk.1, hk'⟩
      · rename_i e sz es g' hcs
        refine ⟨_, _, hk.2, fun K' hk' => ?_⟩
        rw [he]
        refine hd _ ?_
        unfold fz
        simp only [hcs]
        exact ⟨hk.1, hk'⟩
      · exact hk.elim
    · rename_i hn0 hn
      refine ⟨_, _, hk, fun K' hk' => ?_⟩
      rw [he]
      refine hd _ ?_
      unfold fz
      split
      · rename_i id; exact absurd rfl (hn0 id)
      · rename_i id g; exact absurd rfl (hn id g)
      · exact hk'
  by_cases h5 : G.hint fid rid i = 5
  · have hc : clsR G fid rid i o = 2 := by unfold clsR; rw [h5]; rfl
    have he : ∀ hp (K : KO), opR G cf fid rid i o ρ hp K = truncP G o ρ hp K := fun hp K => by unfold opR; rw [h5]; rfl
    rw [hc]
    refine ⟨fun c => by omega, fun c => by omega, fun c => by omega, ?_⟩
    rw [he] at h
    obtain ⟨dst, op, ty, pos, aft, gd⟩ := o
    unfold truncP at h
    simp only at h
    split at h
    · rename_i t x hi
      split at h
      · rename_i ti id g k n hti hx hhi
        split at h
        · rename_i e hel
          split at h
          · rename_i te e' sz es g' pin hte hcs
            obtain ⟨k1, k2, k3, k4, k5, h⟩ := h
            rw [named_eq] at h
            refine ⟨_, _, h, fun K' hk' => ?_⟩
            rw [he]
            unfold truncP
            simp only [hti, hx, hhi, hel, hte, hcs, named_eq]
            exact ⟨k1, k2, k3, k4, k5, hk'⟩
          · exact h.elim
        · exact h.elim
      · exact h.elim
    · exact h.elim
  by_cases h6 : G.hint fid rid i = 6
  · have hc : clsR G fid rid i o = 2 := by unfold clsR; rw [h6]; rfl
    have he : ∀ hp (K : KO), opR G cf fid rid i o ρ hp K = homeP G cf fid rid i o ρ hp K := fun hp K => by unfold opR; rw [h6]; rfl
    rw [hc]
    refine ⟨fun c => by omega, fun c => by omega, fun c => by omega, ?_⟩
    rw [he] at h
    unfold homeP at h
    split at h
    · rename_i c hop
      split at h
      · rename_i t l hat
        split at h
        · rename_i ti hti
          split at h
          · rename_i e hel
            split at h
            · rename_i te hte
              obtain ⟨h0, h1, h⟩ := h
              obtain ⟨v, hp', hk, hd⟩ := (opQ_kind (fun f => by show (bif isNil (.func f) then _ else _) = _; exact hρ f) h).2.2.2
              refine ⟨v, hp', hk, fun K' hk' => ?_⟩
              rw [he]
              unfold homeP
              rw [hop]
              simp only [hat, hti, hel, hte]
              exact ⟨h0, h1, hd K' hk'⟩
            · exact h.elim
          · exact h.elim
        · exact h.elim
      · exact h.elim
    · exact h.elim
  by_cases h7 : G.hint fid rid i = 7
  · have he : ∀ hp (K : KO), opR G cf fid rid i o ρ hp K = lookP G cf fid rid i o ρ hp K := fun hp K => by unfold opR; rw [h7]; rfl
    rw [he] at h
    obtain ⟨h0, h⟩ := h
    obtain ⟨_, k1, _, k2⟩ := opQ_kind hρ h
    have hcc : clsR G fid rid i o = 2 ∨ (clsR G fid rid i o = 5 ∧ cls0 G fid rid i o = 1) := by
      unfold clsR; rw [h7]; simp only
      split
      · rename_i hq; exact .inr ⟨rfl, hq⟩
      · exact .inl rfl
    refine ⟨fun c => by omega, fun c => ?_, fun c => by omega, ?_⟩
    · obtain ⟨v, q1, q2⟩ := k1 (by omega)
      refine ⟨v, q1, fun hp' K' hag hk => ?_⟩
      rw [he]
      refine ⟨?_, q2 hp' K' hag hk⟩
      rw [List.all_eq_true] at h0 ⊢
      intro x hx
      have := h0 x hx
      unfold okBox at this ⊢
      split at this
      · rename_i id off hv
        rw [← hag id ⟨x, by simpa using hx, by rw [hv]; rfl⟩]
        exact this
      · exact this
      · exact this
      · rfl
    · obtain ⟨v, hp', hk, hd⟩ := k2
      exact ⟨v, hp', hk, fun K' hk' => by rw [he]; exact ⟨h0, hd K' hk'⟩⟩
  by_cases h8 : G.hint fid rid i = 8
  · have he : ∀ hp (K : KO), opR G cf fid rid i o ρ hp K = rowP G cf fid rid i o ρ hp K := fun hp K => by unfold opR; rw [h8]; rfl
    have hc : clsR G fid rid i o = 6 := by unfold clsR; rw [h8]; rfl
    rw [he] at h
    rw [hc]
    refine ⟨fun c => by omega, fun c => by omega, fun c => by omega, ?_⟩
    obtain ⟨v, hp', hk, hd⟩ := (opQ_kind hρ h).2.2.2
    exact ⟨v, hp', hk.2, fun K' hk' => by rw [he]; exact hd _ ⟨hk.1, hk'⟩⟩
  by_cases h12 : G.hint fid rid i = 12
  · have hc : clsR G fid rid i o = 2 := by unfold clsR; rw [h12]; rfl
    have he : ∀ hp (K : KO), opR G cf fid rid i o ρ hp K = treP G 12 rid i o ρ hp K := fun hp K => by unfold opR; rw [h12]; rfl
    rw [he] at h
    rw [hc]
    refine ⟨fun c => by omega, fun c => by omega, fun c => by omega, ?_⟩
    obtain ⟨v, hp', hk, hd⟩ := treP_pick h
    exact ⟨v, hp', hk, fun K' hk' => by rw [he]; exact hd _ hk'⟩
  by_cases h13 : G.hint fid rid i = 13
  · have hc : clsR G fid rid i o = 2 := by unfold clsR; rw [h13]; rfl
    have he : ∀ hp (K : KO), opR G cf fid rid i o ρ hp K = treP G 13 rid i o ρ hp K := fun hp K => by unfold opR; rw [h13]; rfl
    rw [he] at h
    rw [hc]
    refine ⟨fun c => by omega, fun c => by omega, fun c => by omega, ?_⟩
    obtain ⟨v, hp', hk, hd⟩ := treP_pick h
    exact ⟨v, hp', hk, fun K' hk' => by rw [he]; exact hd _ hk'⟩
  by_cases h14 : G.hint fid rid i = 14
  · have hc : clsR G fid rid i o = 2 := by unfold clsR; rw [h14]; rfl
    have he : ∀ hp (K : KO), opR G cf fid rid i o ρ hp K = lendP G cf rid i o ρ hp K := fun hp K => by unfold opR; rw [h14]; rfl
    rw [he] at h
    rw [hc]
    refine ⟨fun c => by omega, fun c => by omega, fun c => by omega, ?_⟩
    obtain ⟨v, hp', hk, hd⟩ := lendP_pick h
    exact ⟨v, hp', hk, fun K' hk' => by rw [he]; exact hd _ hk'⟩
  · have hc : clsR G fid rid i o = cls0 G fid rid i o := by unfold clsR; split <;> first | rfl | (rename_i q; exact absurd q h4) | (rename_i q; exact absurd q h5) | (rename_i q; exact absurd q h6) | (rename_i q; exact absurd q h7) | (rename_i q; exact absurd q h8) | (rename_i q; exact absurd q h12) | (rename_i q; exact absurd q h13) | (rename_i q; exact absurd q h14)
    have he : opR G cf fid rid i o ρ = opQ G cf fid rid i o ρ := by
      funext hp K
      unfold opR; split <;> first | rfl | (rename_i q; exact absurd q h4) | (rename_i q; exact absurd q h5) | (rename_i q; exact absurd q h6) | (rename_i q; exact absurd q h7) | (rename_i q; exact absurd q h8) | (rename_i q; exact absurd q h12) | (rename_i q; exact absurd q h13) | (rename_i q; exact absurd q h14)
    rw [hc, he]
    rw [he] at h
    obtain ⟨q0, q1, q3, q2⟩ := opQ_kind hρ h
    refine ⟨q0, fun c => q1 ?_, q3, q2⟩
    have h5' : cls0 G fid rid i o ≠ 5 := by
      unfold cls0
      split <;> (try split) <;> (try split) <;> (try split) <;> simp
    omega
theorem opR_kind2 {fid rid i : Nat} {o : Oper} {ρ : Operand → AV} (hρ : ∀ f, ρ (.func f) = .one (.fn f [])) {hp : Hp} {K : KO} (h : opR G cf fid rid i o ρ hp K) :
    (clsR G fid rid i o = 5 → S5 (G.far fid rid) (opR G cf fid rid i o ρ) hp K) ∧ (clsR G fid rid i o = 6 → S6 (G.far fid rid) (opR G cf fid rid i o ρ) hp K) := by
  have h50 : cls0 G fid rid i o ≠ 5 ∧ cls0 G fid rid i o ≠ 6 := by
    unfold cls0
    split <;> (try split) <;> (try split) <;> (try split) <;> simp
  refine ⟨fun hc => ?_, fun hc => ?_⟩
  · have h7 : G.hint fid rid i = 7 ∧ cls0 G fid rid i o = 1 := by
      unfold clsR at hc
      split at hc <;> try (exfalso; omega)
      rename_i hq
      split at hc
      · rename_i h1; exact ⟨hq, h1⟩
      · exfalso; omega
    have he : ∀ hp (K : KO), opR G cf fid rid i o ρ hp K = lookP G cf fid rid i o ρ hp K := fun hp K => by unfold opR; rw [h7.1]; rfl
    rw [he] at h
    obtain ⟨h0, h⟩ := h
    obtain ⟨v, q1, q2⟩ := (opQ_kind hρ h).2.1 h7.2
    rw [List.all_eq_true] at h0
    refine ⟨v, q1, fun hp' K' hb hk => ?_⟩
    rw [he]
    refine ⟨List.all_eq_true.2 fun x hx => (okBox_bx hb (h0 x hx)).1, q2 hp' K' (fun id hid => ?_) hk⟩
    obtain ⟨x, hx, hm⟩ := hid
    exact (okBox_bx hb (h0 x (by simpa using hx))).2 id hm
  · have h8 : G.hint fid rid i = 8 := by
      unfold clsR at hc
      split at hc <;> first | assumption | (exfalso; omega) | (split at hc <;> (exfalso; omega))
    have he : ∀ hp (K : KO), opR G cf fid rid i o ρ hp K = rowP G cf fid rid i o ρ hp K := fun hp K => by unfold opR; rw [h8]; rfl
    rw [he] at h
    obtain ⟨v, hp1, hk, hd⟩ := (opQ_kind hρ h).2.2.2
    exact ⟨v, hp1, hk.2, hk.1, fun K' hk' => by rw [he]; exact hd _ ⟨hk.1, hk'⟩⟩
theorem op_kind {fid rid i : Nat} {o : Oper} {ρ : Operand → AV} (hρ : ∀ f, ρ (.func f) = .one (.fn f [])) {hp : Hp} {K : KO} (h : opP G cf fid rid i o ρ hp K) :
    (cls G fid rid i o = 0 → S0 (opP G cf fid rid i o ρ) hp K) ∧ ((cls G fid rid i o = 1 ∨ cls G fid rid i o = 5) → S1 (fun id => ∃ x ∈ o.op.operands, (ρ x).ment id) (opP G cf fid rid i o ρ) hp K) ∧ (cls G fid rid i o = 3 → S0 (opP G cf fid rid i o ρ) hp K ∨ S3 (pid rid i) (opP G cf fid rid i o ρ) hp K) ∧ S2 (opP G cf fid rid i o ρ) hp K := by
  cases hp0 : G.post fid rid i with
  | zero =>
    have he : opP G cf fid rid i o ρ = opR G cf fid rid i o ρ := by funext hp K; unfold opP; simp only [hp0]
    have hc : cls G fid rid i o = clsR G fid rid i o := by unfold cls; simp only [hp0]
    rw [hc, he]
    rw [he] at h
    exact opR_kind hρ h
  | succ n =>
    have he : ∀ hp (K : KO), opP G cf fid rid i o ρ hp K = opR G cf fid rid i o ρ hp fun v hp' => joinP G n hp' (K v) := fun hp K => by unfold opP; simp only [hp0]
    have hc : cls G fid rid i o = 2 := by unfold cls; simp only [hp0]
    rw [hc]
    refine ⟨fun c => by omega, fun c => by omega, fun c => by omega, ?_⟩
    rw [he] at h
    obtain ⟨v, hp', hk, hd⟩ := (opR_kind hρ h).2.2.2
    obtain ⟨hp2, h1, h2⟩ := joinP_pick hk
    exact ⟨v, hp2, h1, fun K' hk' => by rw [he]; exact hd _ (h2 _ hk')⟩
theorem op_kind2 {fid rid i : Nat} {o : Oper} {ρ : Operand → AV} (hρ : ∀ f, ρ (.func f) = .one (.fn f [])) {hp : Hp} {K : KO} (h : opP G cf fid rid i o ρ hp K) :
    (cls G fid rid i o = 5 → S5 (G.far fid rid) (opP G cf fid rid i o ρ) hp K) ∧ (cls G fid rid i o = 6 → S6 (G.far fid rid) (opP G cf fid rid i o ρ) hp K) := by
  cases hp0 : G.post fid rid i with
  | zero =>
    have he : opP G cf fid rid i o ρ = opR G cf fid rid i o ρ := by funext hp K; unfold opP; simp only [hp0]
    have hc : cls G fid rid i o = clsR G fid rid i o := by unfold cls; simp only [hp0]
    rw [hc, he]
    rw [he] at h
    exact opR_kind2 hρ h
  | succ n =>
    have hc : cls G fid rid i o = 2 := by unfold cls; simp only [hp0]
    rw [hc]
    exact ⟨fun c => by omega, fun c => by omega⟩
end
end Go.Proofs.YtccldchklemogaaW.AM
