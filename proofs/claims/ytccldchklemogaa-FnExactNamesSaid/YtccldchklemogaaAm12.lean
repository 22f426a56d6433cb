/- The abstract machine: a drawn region does what it does in the order of the text. -/
import Derived.Test.YtccldchklemogaaAm11
set_option linter.unusedSectionVars false
set_option linter.unusedVariables false
set_option linter.unusedSimpArgs false
namespace Go.Proofs.YtccldchklemogaaW.AM
open Go Go.RowKit
variable {TT : Tab}

theorem put_same {d : Option Nat} {v : AV} {fr : Fr} {t : Nat} (h : ∀ d', d = some d' → t ≠ d') : put d v fr t = fr t := by
  cases d with
  | none => rfl
  | some d =>
    have hb : Nat.beq t d = false := by
      cases hh : Nat.beq t d with
      | false => rfl
      | true => exact absurd (Nat.eq_of_beq_eq_true hh) (h d rfl)
    simp [put, hb]
theorem put_comm {d d' : Option Nat} {v v' : AV} {fr : Fr} (h : ∀ x, d = some x → d' ≠ some x) : put d' v' (put d v fr) = put d v (put d' v' fr) := by
  cases d with
  | none => rfl
  | some d =>
    cases d' with
    | none => rfl
    | some d' =>
      have hne : d ≠ d' := fun e => h d rfl (by rw [e])
      funext t
      simp only [put]
      cases h1 : Nat.beq t d' with
      | false => simp
      | true =>
        cases h2 : Nat.beq t d with
        | false => simp
        | true => exact absurd ((Nat.eq_of_beq_eq_true h2).symm.trans (Nat.eq_of_beq_eq_true h1)) hne

section
variable {G : Env} {cf : CF}

theorem step_kind {fid rid i : Nat} {ops : Array Oper} {o : Oper} {fr : Fr} {hp : Hp} {K : KO} (h : stepP G cf fid rid ops i o fr hp K) :
    (cls G fid rid i o = 0 → S0 (stepP G cf fid rid ops i o fr) hp K) ∧ ((cls G fid rid i o = 1 ∨ cls G fid rid i o = 5) → S1 (fun id => ∃ t ∈ o.looksAt ops, (fr t).ment id) (stepP G cf fid rid ops i o fr) hp K) ∧ (cls G fid rid i o = 3 → S0 (stepP G cf fid rid ops i o fr) hp K ∨ S3 (pid rid i) (stepP G cf fid rid ops i o fr) hp K) ∧ S2 (stepP G cf fid rid ops i o fr) hp K := by
  have hids : ∀ id, (∃ x ∈ o.op.operands, (ev fr x).ment id) → ∃ t ∈ o.looksAt ops, (fr t).ment id := by
    rintro id ⟨x, hx, hm⟩
    cases x with
    | tmp t => exact ⟨t, by unfold Oper.looksAt; exact List.mem_append_left _ (List.mem_filterMap.2 ⟨.tmp t, by simpa using hx, rfl⟩), hm⟩
    | const v =>
      exfalso
      have : ∀ v, ¬ (ofC v).ment id := fun v => by
        unfold ofC
        split
        · exact fun h => h
        · exact fun h => h
        · split <;> exact fun h => h
        · split <;> exact fun h => h
      exact this v hm
    | func f => exact hm.elim
    | global g => exact hm.elim
  -- where it is carried out
  have lift : ∀ (e : ∀ hp' K', opP G cf fid rid i o (ev fr) hp' K' → stepP G cf fid rid ops i o fr hp' K'), opP G cf fid rid i o (ev fr) hp K → (cls G fid rid i o = 0 → S0 (stepP G cf fid rid ops i o fr) hp K) ∧ ((cls G fid rid i o = 1 ∨ cls G fid rid i o = 5) → S1 (fun id => ∃ t ∈ o.looksAt ops, (fr t).ment id) (stepP G cf fid rid ops i o fr) hp K) ∧ (cls G fid rid i o = 3 → S0 (stepP G cf fid rid ops i o fr) hp K ∨ S3 (pid rid i) (stepP G cf fid rid ops i o fr) hp K) ∧ S2 (stepP G cf fid rid ops i o fr) hp K := by
    intro e h
    obtain ⟨k0, k1, k3, k2⟩ := op_kind (fun f => rfl) h
    refine ⟨fun c => ?_, fun c => ?_, fun c => ?_, ?_⟩
    · obtain ⟨v, h1, h2⟩ := k0 c; exact ⟨v, h1, fun hp' K' hk => e _ _ (h2 _ _ hk)⟩
    · obtain ⟨v, h1, h2⟩ := k1 c; exact ⟨v, h1, fun hp' K' ha hk => e _ _ (h2 _ _ (fun id hid => ha id (hids id hid)) hk)⟩
    · rcases k3 c with ⟨v, h1, h2⟩ | ⟨v, ob, h0, h1, h2⟩
      · exact .inl ⟨v, h1, fun hp' K' hk => e _ _ (h2 _ _ hk)⟩
      · exact .inr ⟨v, ob, h0, h1, fun hp' K' hn hk => e _ _ (h2 _ _ hn hk)⟩
    · obtain ⟨v, hp', h1, h2⟩ := k2; exact ⟨v, hp', h1, fun K' hk => e _ _ (h2 _ hk)⟩
  have skip : S0 (stepP G cf fid rid ops i o fr) hp K → (cls G fid rid i o = 0 → S0 (stepP G cf fid rid ops i o fr) hp K) ∧ ((cls G fid rid i o = 1 ∨ cls G fid rid i o = 5) → S1 (fun id => ∃ t ∈ o.looksAt ops, (fr t).ment id) (stepP G cf fid rid ops i o fr) hp K) ∧ (cls G fid rid i o = 3 → S0 (stepP G cf fid rid ops i o fr) hp K ∨ S3 (pid rid i) (stepP G cf fid rid ops i o fr) hp K) ∧ S2 (stepP G cf fid rid ops i o fr) hp K := fun s => ⟨fun _ => s, fun _ => s.s1, fun _ => .inl s, s.s2⟩
  have hs := h
  unfold stepP at h
  split at h
  · rename_i hg
    exact lift (fun hp' K' hk => by unfold stepP; simp only [hg]; exact hk) h
  · rename_i j want hg
    split at h
    · exact h.elim
    · rename_i d hd
      split at h
      · rename_i b hb
        rcases h with ⟨h1, h⟩ | ⟨h1, h⟩
        · exact lift (fun hp' K' hk => by unfold stepP; simp only [hg, hd, hb]; exact .inl ⟨h1, hk⟩) h
        · exact skip ⟨_, h, fun hp' K' hk => by unfold stepP; simp only [hg, hd, hb]; exact .inr ⟨h1, hk⟩⟩
      · rename_i hb
        exact skip ⟨_, h, fun hp' K' hk => by unfold stepP; simp only [hg, hd, hb]; exact hk⟩
      · exact h.elim

theorem step_kind2 {fid rid i : Nat} {ops : Array Oper} {o : Oper} {fr : Fr} {hp : Hp} {K : KO} (h : stepP G cf fid rid ops i o fr hp K) :
    (cls G fid rid i o = 5 → S5 (G.far fid rid) (stepP G cf fid rid ops i o fr) hp K) ∧ (cls G fid rid i o = 6 → S6 (G.far fid rid) (stepP G cf fid rid ops i o fr) hp K) := by
  have lift : ∀ (e : ∀ hp' K', opP G cf fid rid i o (ev fr) hp' K' → stepP G cf fid rid ops i o fr hp' K'), opP G cf fid rid i o (ev fr) hp K → (cls G fid rid i o = 5 → S5 (G.far fid rid) (stepP G cf fid rid ops i o fr) hp K) ∧ (cls G fid rid i o = 6 → S6 (G.far fid rid) (stepP G cf fid rid ops i o fr) hp K) := by
    intro e h
    obtain ⟨k5, k6⟩ := op_kind2 (fun f => rfl) h
    refine ⟨fun c => ?_, fun c => ?_⟩
    · obtain ⟨v, h1, h2⟩ := k5 c; exact ⟨v, h1, fun hp' K' hb hk => e _ _ (h2 _ _ hb hk)⟩
    · obtain ⟨v, hp1, h1, hb, h2⟩ := k6 c; exact ⟨v, hp1, h1, hb, fun K' hk => e _ _ (h2 _ hk)⟩
  have skip : S0 (stepP G cf fid rid ops i o fr) hp K → (cls G fid rid i o = 5 → S5 (G.far fid rid) (stepP G cf fid rid ops i o fr) hp K) ∧ (cls G fid rid i o = 6 → S6 (G.far fid rid) (stepP G cf fid rid ops i o fr) hp K) := fun s => ⟨fun _ => s.s5, fun _ => s.s6⟩
  have hs := h
  unfold stepP at h
  split at h
  · rename_i hg
    exact lift (fun hp' K' hk => by unfold stepP; simp only [hg]; exact hk) h
  · rename_i j want hg
    split at h
    · exact h.elim
    · rename_i d hd
      split at h
      · rename_i b hb
        rcases h with ⟨h1, h⟩ | ⟨h1, h⟩
        · exact lift (fun hp' K' hk => by unfold stepP; simp only [hg, hd, hb]; exact .inl ⟨h1, hk⟩) h
        · exact skip ⟨_, h, fun hp' K' hk => by unfold stepP; simp only [hg, hd, hb]; exact .inr ⟨h1, hk⟩⟩
      · rename_i hb
        exact skip ⟨_, h, fun hp' K' hk => by unfold stepP; simp only [hg, hd, hb]; exact hk⟩
      · exact h.elim

theorem upd_ne {id j : Nat} {o : Ob} {hp : Hp} (h : j ≠ id) : upd id o hp j = hp j := by simp [upd, h]
theorem upd_comm {i j : Nat} {a b : Ob} {hp : Hp} (h : i ≠ j) : upd i a (upd j b hp) = upd j b (upd i a hp) := by
  funext k
  simp only [upd]
  by_cases h1 : k = i
  · by_cases h2 : k = j
    · exact absurd (h1.symm.trans h2) h
    · simp [h1, h]
  · simp [h1]

theorem swap {nt : Nat} {C : Cx G.tab} {fr : Fr} {hp : Hp} {w : World} {act : Act} (st : St nt C fr hp act w) {fid rid ia ib : Nat} {ops : Array Oper} {a b : Oper} (hap : a.apart ops b = true) (hne : ia ≠ ib) (hco : compat (cls G fid rid ia a) (cls G fid rid ib b) = true) {R : Fr → Hp → Prop}
    (h : stepP G cf fid rid ops ia a fr hp fun va h1 => stepP G cf fid rid ops ib b (put a.dst va fr) h1 fun vb h2 => R (put b.dst vb (put a.dst va fr)) h2) :
    stepP G cf fid rid ops ib b fr hp fun vb h1 => stepP G cf fid rid ops ia a (put b.dst vb fr) h1 fun va h2 => R (put a.dst va (put b.dst vb fr)) h2 := by
  obtain ⟨hab, hd, hba⟩ := Oper.apart_spec hap
  have eb : ∀ va h1 K', stepP G cf fid rid ops ib b (put a.dst va fr) h1 K' = stepP G cf fid rid ops ib b fr h1 K' := fun va h1 K' => stepP_congr fun t ht => put_same fun d hd e => hab d hd (by rw [← e]; exact ht)
  have ea : ∀ vb h1 K', stepP G cf fid rid ops ia a (put b.dst vb fr) h1 K' = stepP G cf fid rid ops ia a fr h1 K' := fun vb h1 K' => stepP_congr fun t ht => put_same fun d hd e => hba d hd (by rw [← e]; exact ht)
  have ep : ∀ va vb, put b.dst vb (put a.dst va fr) = put a.dst va (put b.dst vb fr) := fun va vb => put_comm hd
  simp only [eb, ep] at h
  simp only [ea]
  have hdom : ∀ (o : Oper) id, (∃ t ∈ o.looksAt ops, (fr t).ment id) → hp id ≠ none := fun o id ⟨t, _, hm⟩ => ment_dom st.wr (st.slots t) hm
  obtain ⟨a0, a1, a3, a2⟩ := step_kind h
  have hpid : pid rid ia ≠ pid rid ib := by unfold pid; omega
  -- by the classes
  have hcases : (cls G fid rid ia a = 0) ∨ (cls G fid rid ib b = 0) ∨ (((cls G fid rid ia a = 1 ∨ cls G fid rid ia a = 5) ∨ cls G fid rid ia a = 3) ∧ ((cls G fid rid ib b = 1 ∨ cls G fid rid ib b = 5) ∨ cls G fid rid ib b = 3)) ∨ (cls G fid rid ia a = 5 ∧ cls G fid rid ib b = 6) ∨ (cls G fid rid ia a = 6 ∧ cls G fid rid ib b = 5) := by
    unfold compat at hco
    simp only [Bool.or_eq_true, Bool.and_eq_true, beq_iff_eq] at hco
    omega
  have fromA0 : S0 (stepP G cf fid rid ops ia a fr) hp (fun va h1 => stepP G cf fid rid ops ib b fr h1 fun vb h2 => R (put a.dst va (put b.dst vb fr)) h2) → stepP G cf fid rid ops ib b fr hp fun vb h1 => stepP G cf fid rid ops ia a fr h1 fun va h2 => R (put a.dst va (put b.dst vb fr)) h2 := by
    rintro ⟨va, h1, h2⟩
    obtain ⟨_, _, _, vb, hb', h3, h4⟩ := step_kind h1
    exact h4 _ (h2 _ _ h3)
  have fromB0 : ∀ va h1, (S0 (stepP G cf fid rid ops ib b fr) h1 (fun vb h2 => R (put a.dst va (put b.dst vb fr)) h2)) → (∀ K' : KO, K' va h1 → stepP G cf fid rid ops ia a fr hp K') → stepP G cf fid rid ops ib b fr hp fun vb h1 => stepP G cf fid rid ops ia a fr h1 fun va h2 => R (put a.dst va (put b.dst vb fr)) h2 := by
    rintro va h1 ⟨vb, h3, h4⟩ hA
    exact h4 _ _ (hA _ h3)
  rcases hcases with hc | hc | ⟨hca, hcb⟩ | ⟨hca, hcb⟩ | ⟨hca, hcb⟩
  · exact fromA0 (a0 hc)
  · obtain ⟨va, h1, h2, h3⟩ := a2
    exact fromB0 va h1 ((step_kind h2).1 hc) h3
  · rcases hca with hca | hca
    · obtain ⟨va, h1, h2⟩ := a1 hca
      obtain ⟨_, b1, b3, _⟩ := step_kind h1
      rcases hcb with hcb | hcb
      · obtain ⟨vb, h3, h4⟩ := b1 hcb
        exact h4 _ _ (fun _ _ => rfl) (h2 _ _ (fun _ _ => rfl) h3)
      · rcases b3 hcb with h5 | ⟨vb, ob, h6, h7, h8⟩
        · exact fromB0 va hp h5 (fun K' hk => h2 _ _ (fun _ _ => rfl) hk)
        · refine h8 _ _ h6 (h2 _ _ (fun id hid => ?_) h7)
          rw [upd_ne]
          intro e; subst e; exact hdom a _ hid h6
    · rcases a3 hca with h0 | ⟨va, oa, h0, h1, h2⟩
      · exact fromA0 h0
      · obtain ⟨_, b1, b3, _⟩ := step_kind h1
        rcases hcb with hcb | hcb
        · obtain ⟨vb, h3, h4⟩ := b1 hcb
          refine h4 _ _ (fun id hid => ?_) (h2 _ _ h0 h3)
          rw [upd_ne]
          intro e; subst e; exact hdom b _ hid h0
        · rcases b3 hcb with h5 | ⟨vb, ob, h6, h7, h8⟩
          · exact fromB0 va _ h5 (fun K' hk => h2 _ _ h0 hk)
          · rw [upd_ne (Ne.symm hpid)] at h6
            refine h8 _ _ h6 (h2 _ _ (by rw [upd_ne hpid]; exact h0) ?_)
            rw [upd_comm hpid]
            exact h7
  · obtain ⟨va, h1, h2⟩ := (step_kind2 h).1 hca
    obtain ⟨vb, hp1, h3, hb, h4⟩ := (step_kind2 h1).2 hcb
    exact h4 _ (h2 _ _ hb h3)
  · obtain ⟨va, hp1, h1, hb, h2⟩ := (step_kind2 h).2 hca
    obtain ⟨vb, h3, h4⟩ := (step_kind2 h1).1 hcb
    exact h4 _ _ (fun id cs ht => (hb id cs ht).symm) (h2 _ h3)


/-- There is a state behind each step. -/
theorem opQ_ex (hG : G.Ok) (hcf : CFS G cf) {C : Cx G.tab} {ρ : Operand → AV} {hp : Hp} {a : Act} {w : World} (hw : WR C hp w) (hρ : ∀ x, RepAV C (ρ x) (a.eval x)) {fid rid i : Nat} {o : Oper} {K : KO} (h : opQ G cf fid rid i o ρ hp K) : ∃ x w', Step C w K x w' := by
  by_cases hc : ∃ c f, o.op = .call c ∧ c.callee = .value f
  · obtain ⟨c, f, ho, hcal⟩ := hc
    obtain ⟨cal, args, ats⟩ := c
    simp only at hcal
    subst hcal
    unfold opQ at h
    simp only [ho] at h
    split at h
    · rename_i f' caps hf
      have hff := hρ f
      rw [hf] at hff
      obtain ⟨vs, hfv, hcaps⟩ := hff
      have hargs : FA (RepAV C) (args.toList.map ρ ++ caps.map fun id => .one (.ptr id 0)) (args.toList.map a.eval ++ vs) := by
        refine fa_app ?_ ?_
        · refine fa_of (by simp) fun j x y hx hy => ?_
          rw [List.getElem?_map] at hx hy
          obtain ⟨z, hz, rfl⟩ := Option.map_eq_some_iff.1 hx
          rw [hz] at hy
          simp at hy; subst hy
          exact hρ z
        · exact fa_map_l (fa_imp (fun id v ⟨b, h1, h2⟩ => ⟨b, h1, h2⟩) hcaps)
      obtain ⟨_, hcall⟩ := call_sound hcf hw hargs h
      obtain ⟨e, w', _, ⟨x, _, hs⟩, _⟩ := hcall []
      exact ⟨x, w', hs⟩
    · exact h.elim
  · obtain ⟨x, v, C', hp', w', _, k⟩ := op_good (σ := a.eval) hG hw hρ h (fun c f ho hcal => hc ⟨c, f, ho, hcal⟩)
    exact ⟨x, w', v, C', hp', k⟩
theorem opR_ex (hG : G.Ok) (hcf : CFS G cf) {nt : Nat} {C : Cx G.tab} {fr : Fr} {hp : Hp} {a : Act} {w : World} (st : St nt C fr hp a w) {fid rid i : Nat} {o : Oper} {K : KO} (h : opR G cf fid rid i o (ev fr) hp K) : ∃ x w', Step C w K x w' := by
  unfold opR at h
  split at h
  · obtain ⟨x, w', hs⟩ := opQ_ex hG hcf st.wr st.ev h; exact ⟨x, w', fz_step hs⟩
  · obtain ⟨x, _, hs⟩ := trunc_good hG st.wr st.ev h; exact ⟨x, w, hs⟩
  · unfold homeP at h
    split at h
    · split at h
      · split at h
        · split at h
          · split at h
            · obtain ⟨h0, h1, h⟩ := h
              obtain ⟨C', k1, k2, k3, k4⟩ := home_rep st.wr st.ev (isNil_eval a) h0 h1
              obtain ⟨x, w', hs⟩ := opQ_ex hG hcf k2 k4 h
              exact ⟨x, w', step_home k1 k3 hs⟩
            · exact h.elim
          · exact h.elim
        · exact h.elim
      · exact h.elim
    · exact h.elim
  · exact opQ_ex hG hcf st.wr st.ev h.2
  · obtain ⟨x, w', hs⟩ := opQ_ex hG hcf st.wr st.ev h; exact ⟨x, w', step_and hs⟩
  · obtain ⟨x, v, C', hp', w', _, k⟩ := tre_good (σ := a.eval) hG st.wr st.ev (fun _ => rfl) h
    exact ⟨x, w', v, C', hp', k⟩
  · obtain ⟨x, v, C', hp', w', _, k⟩ := tre_good (σ := a.eval) hG st.wr st.ev (fun _ => rfl) h
    exact ⟨x, w', v, C', hp', k⟩
  · unfold lendP at h
    split at h
    rotate_left
    · exact h.elim
    rename_i c ho
    obtain ⟨cal, args, ats⟩ := c
    simp only at h
    split at h
    rotate_left
    · exact h.elim
    rename_i f
    split at h
    rotate_left
    · exact h.elim
    rename_i f' hf
    obtain ⟨hsome, h⟩ := h
    have hargs : FA (RepAV C) (args.toList.map (ev fr)) (args.toList.map a.eval) := by
      refine fa_of (by simp) fun j x y hx hy => ?_
      rw [List.getElem?_map] at hx hy
      obtain ⟨z, hz, rfl⟩ := Option.map_eq_some_iff.1 hx
      rw [hz] at hy
      simp at hy; subst hy
      exact st.ev z
    have hcall := lend_sound hcf st.wr hargs (f := f') h
    obtain ⟨e, w', _, ⟨x, _, hs⟩, _⟩ := hcall []
    exact ⟨x, w', hs⟩
  · exact opQ_ex hG hcf st.wr st.ev h
theorem op_ex (hG : G.Ok) (hcf : CFS G cf) {nt : Nat} {C : Cx G.tab} {fr : Fr} {hp : Hp} {a : Act} {w : World} (st : St nt C fr hp a w) {fid rid i : Nat} {o : Oper} {K : KO} (h : opP G cf fid rid i o (ev fr) hp K) : ∃ x w', Step C w K x w' := by
  unfold opP at h
  split at h
  · exact opR_ex hG hcf st h
  · obtain ⟨x, w', hs⟩ := opR_ex hG hcf st h; exact ⟨x, w', join_step hs⟩
theorem step_ex (hG : G.Ok) (hcf : CFS G cf) {nt : Nat} {C : Cx G.tab} {fr : Fr} {hp : Hp} {a : Act} {w : World} (st : St nt C fr hp a w) {fid rid i : Nat} {ops : Array Oper} {o : Oper} (hfit : ∀ t, o.dst = some t → t < nt) {K : KO} (h : stepP G cf fid rid ops i o fr hp K) :
    ∃ (v : AV) (C' : Cx G.tab) (hp' : Hp) (a' : Act) (w' : World), K v hp' ∧ St nt C' (put o.dst v fr) hp' a' w' := by
  have key : opP G cf fid rid i o (ev fr) hp K → ∃ (v : AV) (C' : Cx G.tab) (hp' : Hp) (a' : Act) (w' : World), K v hp' ∧ St nt C' (put o.dst v fr) hp' a' w' := fun h => by
    obtain ⟨x, w', v, C', hp', k1, k2, k3, k4, k5⟩ := op_ex hG hcf st h
    exact ⟨v, C', hp', _, w', k1, st.put hfit k2 k3 k4⟩
  have skip : K (.tup []) hp → ∃ (v : AV) (C' : Cx G.tab) (hp' : Hp) (a' : Act) (w' : World), K v hp' ∧ St nt C' (put o.dst v fr) hp' a' w' := fun h => ⟨.tup [], C, hp, _, w, h, st.put (x := undef) hfit ⟨[], rfl, .nil⟩ (Le.refl _) st.wr⟩
  unfold stepP at h
  split at h
  · exact key h
  · split at h
    · exact h.elim
    · split at h
      · rcases h with ⟨_, h⟩ | ⟨_, h⟩
        · exact key h
        · exact skip h
      · exact skip h
      · exact h.elim

theorem front (hG : G.Ok) (hcf : CFS G cf) {nt fid rid ib : Nat} {ops : Array Oper} {b : Oper} {B : List (Nat × Oper)} {R : Fr → Hp → Prop} : ∀ (A : List (Nat × Oper)), (∀ p ∈ A, p.1 ≠ ib ∧ p.2.apart ops b = true ∧ compat (cls G fid rid p.1 p.2) (cls G fid rid ib b) = true ∧ ∀ t, p.2.dst = some t → t < nt) →
    ∀ {C : Cx G.tab} {fr : Fr} {hp : Hp} {act : Act} {w : World}, St nt C fr hp act w → runP G cf fid rid ops (A ++ (ib, b) :: B) fr hp R → runP G cf fid rid ops ((ib, b) :: (A ++ B)) fr hp R
  | [], _, C, fr, hp, act, w, _, h => h
  | (ia, a) :: A, hA, C, fr, hp, act, w, st, h => by
    obtain ⟨hne, hap, hco, hfit⟩ := hA (ia, a) (by simp)
    have h' : stepP G cf fid rid ops ia a fr hp fun v h1 => runP G cf fid rid ops (A ++ (ib, b) :: B) (put a.dst v fr) h1 R := by rw [List.cons_append, runP_cons] at h; exact h
    obtain ⟨_, _, _, v, h1, hk, hd⟩ := step_kind h'
    obtain ⟨v', C', hp', a', w', ⟨rfl, rfl⟩, st'⟩ := step_ex hG hcf st hfit (hd (fun v2 h2 => v2 = v ∧ h2 = h1) ⟨rfl, rfl⟩)
    have ih := front hG hcf A (fun p hp => hA p (by simp [hp])) st' hk
    have h2 : stepP G cf fid rid ops ia a fr hp fun va h1 => stepP G cf fid rid ops ib b (put a.dst va fr) h1 fun vb h2 => runP G cf fid rid ops (A ++ B) (put b.dst vb (put a.dst va fr)) h2 R := hd _ (by rw [runP_cons] at ih; exact ih)
    rw [runP_cons]
    simp only [List.cons_append, runP_cons]
    exact swap (a := a) (b := b) (ia := ia) (ib := ib) (R := fun f h => runP G cf fid rid ops (A ++ B) f h R) st hap hne hco h2

/-- What an operation waits for, through others too. -/
inductive Rch (ops : List Oper) : Nat → Nat → Prop
  | one {j o e} (h : ops[j]? = some o) (he : e ∈ o.after) (hb : Region.binds .any e = true) : Rch ops j e.on
  | more {j o e k} (h : ops[j]? = some o) (he : e ∈ o.after) (hb : Region.binds .any e = true) (hr : Rch ops e.on k) : Rch ops j k

theorem mask_fold (done : List Nat) (k : Nat) : ∀ (l : List Edge) (m : Nat), (l.foldl (fun m e => bif Region.binds .any e then m ||| 2 ^ e.on ||| done.getD e.on 0 else m) m).testBit k = true → m.testBit k = true ∨ ∃ e ∈ l, Region.binds .any e = true ∧ (k = e.on ∨ (done.getD e.on 0).testBit k = true)
  | [], m, h => .inl h
  | e :: l, m, h => by
    rw [List.foldl_cons] at h
    rcases mask_fold done k l _ h with h1 | ⟨e', h1, h2⟩
    · cases hb : Region.binds .any e with
      | false => rw [hb] at h1; exact .inl h1
      | true =>
        rw [hb] at h1
        simp only [cond_true, Nat.testBit_or, Bool.or_eq_true, Nat.testBit_two_pow] at h1
        rcases h1 with (h1 | h1) | h1
        · exact .inl h1
        · exact .inr ⟨e, by simp, hb, .inl (by simp at h1; exact h1.symm)⟩
        · exact .inr ⟨e, by simp, hb, .inr h1⟩
    · exact .inr ⟨e', by simp [h1], h2⟩
theorem masks_rch (full : List Oper) : ∀ (rest : List Oper) (done : List Nat) (pre : List Oper), pre.length = done.length → full = pre ++ rest → (∀ j k, (done.getD j 0).testBit k = true → Rch full j k) → ∀ j k, ((masks rest done).getD j 0).testBit k = true → Rch full j k
  | [], done, pre, _, _, h, j, k, hk => h j k hk
  | o :: rest, done, pre, hl, hf, h, j, k, hk => by
    refine masks_rch full rest _ (pre ++ [o]) (by simp [hl]) (by simp [hf]) (fun j k hk => ?_) j k hk
    by_cases hj : j < done.length
    · refine h j k ?_
      simpa [List.getD, List.getElem?_append, hj] using hk
    · by_cases hj2 : j = done.length
      · subst hj2
        have hk' : ((o.after.toList.foldl (fun m e => bif Region.binds .any e then m ||| 2 ^ e.on ||| done.getD e.on 0 else m) 0)).testBit k = true := by
          simpa [List.getD, List.getElem?_append] using hk
        have ho : full[done.length]? = some o := by rw [hf, ← hl]; simp
        rcases mask_fold done k _ _ hk' with h1 | ⟨e, h1, h2, h3⟩
        · simp at h1
        · rcases h3 with rfl | h3
          · exact .one ho (by simpa using h1) h2
          · exact .more ho (by simpa using h1) h2 (h _ _ h3)
      · exfalso
        have : (done ++ [o.after.toList.foldl (fun m e => bif Region.binds .any e then m ||| 2 ^ e.on ||| done.getD e.on 0 else m) 0])[j]? = none := List.getElem?_eq_none (by simp; omega)
        have e0 : (done ++ [o.after.toList.foldl (fun m e => bif Region.binds .any e then m ||| 2 ^ e.on ||| done.getD e.on 0 else m) 0]).getD j 0 = 0 := by rw [List.getD_eq_getElem?_getD, this]; rfl
        rw [e0] at hk
        simp at hk

theorem rch_listed {ops : List Oper} {listed : Array Bool} (hcl : ∀ j o, ops[j]? = some o → listed.getD j false = true → ∀ e ∈ o.after, Region.binds .any e = true → listed.getD e.on false = true) {i k : Nat} (h : Rch ops i k) : (∀ o, ops[i]? = some o → ∀ e ∈ o.after, Region.binds .any e = true → listed.getD e.on false = true) → listed.getD k false = true := by
  induction h with
  | one h he hb => exact fun hh => hh _ h _ he hb
  | more h he hb hr ih => exact fun hh => ih fun o ho => hcl _ o ho (hh _ h _ he hb)

def remL (ops : Array Oper) (listed : Array Bool) : List (Nat × Oper) := (number 0 ops.toList).filter fun p => !listed.getD p.1 true
theorem number_sorted {α : Type} : ∀ (l : List α) (k : Nat), (number k l).Pairwise fun p q => p.1 < q.1
  | [], k => .nil
  | a :: l, k => by
    refine .cons (fun q hq => ?_) (number_sorted l (k + 1))
    have := (number_get l (k + 1) q.1 q.2).1 hq
    omega
theorem number_take {α : Type} : ∀ (l : List α) (k j : Nat) (p : Nat × α), p ∈ number k l → p.1 < k + j → p ∈ (number k l).take j
  | [], k, j, p, h, _ => by simp [number] at h
  | a :: l, k, j, p, h, hj => by
    cases j with
    | zero =>
      have := (number_get (a :: l) k p.1 p.2).1 h
      omega
    | succ j =>
      simp only [number, List.take_succ_cons, List.mem_cons] at h ⊢
      rcases h with h | h
      · exact .inl h
      · exact .inr (number_take l (k + 1) j p h (by omega))

structure Inv (ops : Array Oper) (listed : Array Bool) : Prop where
  size : listed.size = ops.size
  closed : ∀ (j : Nat) o, ops.toList[j]? = some o → listed.getD j false = true → ∀ e ∈ o.after, Region.binds .any e = true → listed.getD e.on false = true

theorem mem_rem {ops : Array Oper} {listed : Array Bool} {p : Nat × Oper} : p ∈ remL ops listed ↔ ops[p.1]? = some p.2 ∧ listed.getD p.1 true = false := by
  unfold remL
  rw [List.mem_filter, number_get]
  simp

theorem draw_any (hG : G.Ok) (hcf : CFS G cf) {nt fid rid : Nat} {ops : Array Oper} (hall : ops.toList.all (Oper.fits nt) = true) (hdr : drawOK G fid rid ops = true) {Q : Exit → Act → World → Prop} {K : Fr → Hp → Prop} : ∀ (fuel : Nat) (listed : Array Bool), (remL ops listed).length ≤ fuel → Inv ops listed →
    ∀ {C : Cx G.tab} {fr : Fr} {hp : Hp} {a : Act} {w : World}, St nt C fr hp a w → runP G cf fid rid ops (remL ops listed) fr hp K →
    (∀ C' fr' hp' a' w', K fr' hp' → St nt C' fr' hp' a' w' → Stp C C' w w' → Q .normal a' w') → wpAny G.P .any ops Q fuel listed a w := by
  have hpair : ∀ (b : Nat) (ob : Oper), ops[b]? = some ob → (∀ e ∈ ob.after, Region.binds .any e = true → e.on < b) ∧ ∀ (i : Nat) (oa : Oper), ops[i]? = some oa → i < b → ((masks ops.toList []).getD b 0).testBit i = true ∨ (oa.apart ops ob = true ∧ compat (cls G fid rid i oa) (cls G fid rid b ob) = true) := fun b ob hb => by
    have h1 := List.all_eq_true.1 hdr (b, ob) ((number_get _ 0 b ob).2 ⟨Nat.zero_le _, by simpa using hb⟩)
    simp only [Bool.and_eq_true] at h1
    refine ⟨fun e he hbn => ?_, fun i oa hi hlt => ?_⟩
    · have := List.all_eq_true.1 h1.1 e (by simpa using he)
      rw [hbn] at this
      simp at this
      exact this
    · have h2 := List.all_eq_true.1 h1.2 (i, oa) (number_take _ 0 b (i, oa) ((number_get _ 0 i oa).2 ⟨Nat.zero_le _, by simpa using hi⟩) (by simpa using hlt))
      simpa using h2
  have hfit : ∀ (j : Nat) o', ops[j]? = some o' → ∀ t, o'.dst = some t → t < nt := fun j o' hj t ht => by
    have := List.all_eq_true.1 hall o' (List.mem_iff_getElem?.2 ⟨j, by simpa using hj⟩)
    simp [Oper.fits, ht] at this
    exact this
  -- where nothing is ready nothing is left
  have hdone : ∀ listed, Inv ops listed → Region.ready .any ops listed = [] → remL ops listed = [] := fun listed inv hr => by
    cases hrem : remL ops listed with
    | nil => rfl
    | cons p l =>
      exfalso
      have hp := mem_rem.1 (by rw [hrem]; simp : p ∈ remL ops listed)
      have hsorted : (remL ops listed).Pairwise fun p q => p.1 < q.1 := (number_sorted _ 0).filter _
      rw [hrem] at hsorted
      have hmem : p.1 ∈ Region.ready .any ops listed := by
        refine mem_ready.2 ⟨hp.2, p.2, hp.1, fun e he hb => ?_⟩
        have hlt := (hpair p.1 p.2 hp.1).1 e he hb
        have hps : p.1 < ops.size := (Array.getElem?_eq_some_iff.1 hp.1).1
        have hes : e.on < listed.size := by rw [inv.size]; omega
        cases hl : listed.getD e.on false with
        | true => rfl
        | false =>
          exfalso
          have hl' : listed.getD e.on true = false := by simp [hes] at hl ⊢; exact hl
          have hes' : e.on < ops.size := by rw [← inv.size]; exact hes
          have hin : (e.on, ops[e.on]) ∈ remL ops listed := mem_rem.2 ⟨by simp [hes'], hl'⟩
          rw [hrem] at hin
          rcases List.mem_cons.1 hin with h | h
          · have := congrArg Prod.fst h; simp at this; omega
          · have := (List.pairwise_cons.1 hsorted).1 _ h; simp at this; omega
      rw [hr] at hmem
      cases hmem
  intro fuel
  induction fuel with
  | zero =>
    intro listed hlen inv C fr hp a w st h hQ
    have hrem : remL ops listed = [] := List.eq_nil_of_length_eq_zero (by omega)
    rw [hrem] at h
    refine ⟨?_, hQ C fr hp a w h st (Stp.refl _ _)⟩
    cases hr : Region.ready .any ops listed with
    | nil => rfl
    | cons i l =>
      exfalso
      obtain ⟨h1, o, h2, _⟩ := mem_ready.1 (by rw [hr]; simp : i ∈ Region.ready .any ops listed)
      have : (i, o) ∈ remL ops listed := mem_rem.2 ⟨h2, h1⟩
      rw [hrem] at this; cases this
  | succ fuel ih =>
    intro listed hlen inv C fr hp a w st h hQ
    refine ⟨fun hr => ?_, fun i hi => ?_⟩
    · rw [hdone listed inv hr] at h
      exact hQ C fr hp a w h st (Stp.refl _ _)
    · obtain ⟨h1, o, h2, h3⟩ := mem_ready.1 hi
      have hmem : (i, o) ∈ remL ops listed := mem_rem.2 ⟨h2, h1⟩
      obtain ⟨A, B, hAB⟩ := List.append_of_mem hmem
      have hsorted : (remL ops listed).Pairwise fun p q => p.1 < q.1 := (number_sorted _ 0).filter _
      rw [hAB] at hsorted h
      have hA : ∀ p ∈ A, p.1 < i := fun p hp => (List.pairwise_append.1 hsorted).2.2 p hp (i, o) (by simp)
      have hB : ∀ p ∈ B, i < p.1 := fun p hp => (List.pairwise_cons.1 (List.pairwise_append.1 hsorted).2.1).1 p hp
      have hAm : ∀ p ∈ A, ops[p.1]? = some p.2 ∧ listed.getD p.1 true = false := fun p hp => mem_rem.1 (by rw [hAB]; simp [hp])
      have hf := front hG hcf A (fun p hp => by
        obtain ⟨q1, q2⟩ := hAm p hp
        refine ⟨by have := hA p hp; omega, ?_⟩
        rcases (hpair i o h2).2 p.1 p.2 q1 (hA p hp) with hm | hm
        · exfalso
          have hr := masks_rch ops.toList ops.toList [] [] rfl rfl (fun j k hk => by simp at hk) i p.1 hm
          have := rch_listed inv.closed hr (fun o' ho' e he hb => by
            have : o' = o := by simp at ho'; rw [h2] at ho'; exact (Option.some.inj ho').symm
            subst this
            exact h3 e he hb)
          have hps : p.1 < listed.size := by rw [inv.size]; exact (Array.getElem?_eq_some_iff.1 q1).1
          simp [hps] at q2 this
          rw [q2] at this; cases this
        · exact ⟨hm.1, hm.2, hfit p.1 p.2 q1⟩) st h
      have his : i < listed.size := by rw [inv.size]; exact (Array.getElem?_eq_some_iff.1 h2).1
      have hrem' : remL ops (listed.setIfInBounds i true) = A ++ B := by
        have e1 : ∀ p : Nat × Oper, p.1 ≠ i → (listed.setIfInBounds i true).getD p.1 true = listed.getD p.1 true := fun p hp => getD_set_ne true (fun e => hp e.symm)
        have e2 : remL ops (listed.setIfInBounds i true) = (remL ops listed).filter fun p => p.1 != i := by
          unfold remL
          rw [List.filter_filter]
          refine List.filter_congr fun p _ => ?_
          by_cases hpi : p.1 = i
          · have : (listed.setIfInBounds i true).getD p.1 true = true := by rw [hpi]; simp [his]
            rw [this]; simp [hpi]
          · rw [e1 p hpi]; simp [hpi]
        rw [e2, hAB, List.filter_append]
        have a1 : A.filter (fun p => p.1 != i) = A := List.filter_eq_self.2 fun p hp => by have := hA p hp; simp; omega
        have a2 : B.filter (fun p => p.1 != i) = B := List.filter_eq_self.2 fun p hp => by have := hB p hp; simp; omega
        rw [a1, List.filter_cons_of_neg (by simp), a2]
      have inv' : Inv ops (listed.setIfInBounds i true) := by
        refine ⟨by simp [inv.size], fun j o' hj hl e he hb => ?_⟩
        by_cases hji : j = i
        · subst hji
          have : o' = o := by simp at hj; rw [h2] at hj; exact (Option.some.inj hj).symm
          subst this
          exact getD_set_true (h3 e he hb)
        · rw [getD_set_ne false (fun e => hji e.symm)] at hl
          exact getD_set_true (inv.closed j o' hj hl e he hb)
      have hlen' : (A ++ B).length ≤ fuel := by rw [hAB] at hlen; simp at hlen ⊢; omega
      refine step_wp hG hcf st h2 hall (by rw [runP_cons] at hf; exact hf) fun v C' hp' a' w' hk st' hs => ?_
      refine ih _ (by rw [hrem']; exact hlen') inv' st' (by rw [hrem']; exact hk) fun C2 fr2 hp2 a2 w2 q1 q2 q3 => hQ C2 fr2 hp2 a2 w2 q1 q2 (hs.trans q3)

theorem draw_wp (hG : G.Ok) (hcf : CFS G cf) {nt fid rid : Nat} {ops : Array Oper} (hall : ops.toList.all (Oper.fits nt) = true) (hdr : drawOK G fid rid ops = true) {Q : Exit → Act → World → Prop} {K : Fr → Hp → Prop} {C : Cx G.tab} {fr : Fr} {hp : Hp} {a : Act} {w : World} (st : St nt C fr hp a w) (h : runP G cf fid rid ops (number 0 ops.toList) fr hp K)
    (hQ : ∀ C' fr' hp' a' w', K fr' hp' → St nt C' fr' hp' a' w' → Stp C C' w w' → Q .normal a' w') : (Code.region rid ops true).wp G.P Q a w := by
  have hrem : remL ops (Array.replicate ops.size false) = number 0 ops.toList := by
    unfold remL
    refine List.filter_eq_self.2 fun p hp => ?_
    have := (number_get _ 0 p.1 p.2).1 hp
    have hlt : p.1 < ops.size := by have := (List.getElem?_eq_some_iff.1 this.2).1; simpa using this
    simp [hlt]
  have hkeep : Stp C C w w.drew := Stp.keep rfl rfl rfl (Nat.le_refl _) fun _ _ => rfl
  have st' : St nt C fr hp a w.drew := ⟨st.defers, st.size, st.slots, st.wr.keep (Nat.le_refl _) fun _ _ => rfl⟩
  refine wp_region_any hG.mixed ?_
  refine draw_any hG hcf hall hdr ops.size _ ?_ ⟨by simp, fun j o hj hl => ?_⟩ (w := w.drew) st' (by rw [hrem]; exact h) fun C' fr' hp' a' w' q1 q2 q3 => hQ C' fr' hp' a' w' q1 q2 (hkeep.trans q3)
  · rw [hrem]
    have := congrArg List.length (number_fst ops.toList 0)
    simp at this; omega
  · exfalso
    by_cases hj' : j < ops.size <;> simp [hj'] at hl
end
end Go.Proofs.YtccldchklemogaaW.AM
