/- The abstract machine: regions in the order of the text, control, loops. -/
import Derived.Test.YtccldchklemogaaAm9
import Derived.LoopN
set_option linter.unusedSectionVars false
set_option linter.unusedVariables false
set_option linter.unusedSimpArgs false
namespace Go.Proofs.YtccldchklemogaaW.AM
open Go Go.RowKit
variable {TT : Tab}

structure St (nt : Nat) (C : Cx TT) (fr : Fr) (hp : Hp) (a : Act) (w : World) : Prop where
  defers : a.defers = []
  size : a.tmps.size = nt
  slots : ∀ t, RepAV C (fr t) (a.tmps.getD t undef)
  wr : WR C hp w

theorem St.ev {nt} {C : Cx TT} {fr hp a w} (h : St nt C fr hp a w) (x : Operand) : RepAV C (ev fr x) (a.eval x) := by
  cases x with
  | tmp t => exact h.slots t
  | const v => exact ofC_rep C v
  | func f => exact ⟨[], rfl, .nil⟩
  | global g => trivial
theorem St.put {nt} {C C' : Cx TT} {fr hp hp' a w w'} (h : St nt C fr hp a w) {d : Option Nat} (hd : ∀ t, d = some t → t < nt) {v : AV} {x : Value} (hv : RepAV C' v x) (hl : Le C C') (hw : WR C' hp' w') : St nt C' (put d v fr) hp' (a.put d x) w' := by
  cases d with
  | none => exact ⟨h.defers, h.size, fun t => (h.slots t).mono hl, hw⟩
  | some d =>
    have hlt := hd d rfl
    refine ⟨h.defers, by simp [Act.put, h.size], fun t => ?_, hw⟩
    simp only [AM.put, Act.put]
    by_cases e : t = d
    · subst e
      have hb : Nat.beq t t = true := Nat.beq_refl t
      rw [hb]
      have hts : t < a.tmps.size := by rw [h.size]; exact hlt
      simpa [hts] using hv
    · have hb : Nat.beq t d = false := by
        cases hh : Nat.beq t d with
        | false => rfl
        | true => exact absurd (Nat.eq_of_beq_eq_true hh) e
      rw [hb]
      have := (h.slots t).mono hl
      have he : (a.tmps.setIfInBounds d x).getD t undef = a.tmps.getD t undef := by
        simp only [Array.getD_eq_getD_getElem?, Array.getElem?_setIfInBounds]
        rw [if_neg (fun h => e h.symm)]
      rw [he]; exact this

section
variable {G : Env} {cf : CF}

theorem opQ_wp (hG : G.Ok) (hcf : CFS G cf) {C : Cx G.tab} {ρ : Operand → AV} {hp : Hp} {a : Act} {w : World} (hw : WR C hp w) (hρ : ∀ x, RepAV C (ρ x) (a.eval x)) {fid rid i : Nat} {o : Oper} {K : KO} (h : opQ G cf fid rid i o ρ hp K) {N : Act → World → Prop} {Q : Exit → Act → World → Prop}
    (hN : ∀ x w', Step C w K x w' → N (a.put o.dst x) w') : o.wp G.P a w N Q := by
  unfold Oper.wp
  by_cases hc : ∃ c f, o.op = .call c ∧ c.callee = .value f
  · obtain ⟨c, f, ho, hcal⟩ := hc
    obtain ⟨cal, args, ats⟩ := c
    simp only at hcal
    subst hcal
    unfold opQ at h
    simp only [ho] at h
    split at h
    · rename_i f' caps hf
      have hff := hρ f
      rw [hf] at hff
      obtain ⟨vs, hfv, hcaps⟩ := hff
      have hargs : FA (RepAV C) (args.toList.map ρ ++ caps.map fun id => .one (.ptr id 0)) (args.toList.map a.eval ++ vs) := by
        refine fa_app ?_ ?_
        · refine fa_of (by simp) fun j x y hx hy => ?_
          rw [List.getElem?_map] at hx hy
          obtain ⟨z, hz, rfl⟩ := Option.map_eq_some_iff.1 hx
          rw [hz] at hy
          simp at hy; subst hy
          exact hρ z
        · exact fa_map_l (fa_imp (fun id v ⟨b, h1, h2⟩ => ⟨b, h1, h2⟩) hcaps)
      obtain ⟨hsome, hcall⟩ := call_sound hcf hw hargs h
      obtain ⟨F, hF⟩ := Option.isSome_iff_exists.1 hsome
      have hrun : (execOp a.eval o).run G.P w = .ok (.enter f' (args.toList.map a.eval ++ vs).toArray) w := by
        obtain ⟨hn, hb⟩ := hG.name _ _ hF
        have hn' : ¬ F.name = "runtime.NumGoroutine" := by simpa using hn
        have hb' : ¬ F.body = none := by cases h : F.body <;> simp_all
        have harr : (List.map a.eval args.toList ++ vs).toArray = Array.map a.eval args ++ vs.toArray := by apply Array.ext'; simp
        rw [harr]
        simp [execOp, ho, resolve, hfv, Deferred.ofValue, invoke, callFunc, program, Sem.run, hG.fn _ _ hF, hn', hb']
      rw [hrun]
      refine hcall.mono ?_
      rintro e w' ⟨x, rfl, hs⟩
      exact hN x w' hs
    · exact h.elim
  · have hg := op_good (σ := a.eval) hG hw hρ h (fun c f ho hcal => hc ⟨c, f, ho, hcal⟩)
    obtain ⟨x, v, C', hp', w', hr, k1, k2, k3, k4, k5⟩ := hg
    rcases hr with hr | ⟨hr, rfl⟩
    · rw [hr]; exact hN x w' ⟨v, C', hp', k1, k2, k3, k4, k5⟩
    · rw [hr]; exact hN undef w' ⟨v, C', hp', k1, k2, k3, k4, k5⟩

theorem fz_step {C : Cx TT} {w w' : World} {K : KO} {x : Value} (h : Step C w (fz K) x w') : Step C w K x w' := by
  obtain ⟨v, C', hp', hk, hv, hl, hw, hs⟩ := h
  unfold fz at hk
  split at hk
  · rename_i id
    split at hk
    · rename_i cs hcs
      obtain ⟨l, hloc, hob⟩ := hw.ob _ _ hcs
      cases l with
      | box _ => exact hob.elim
      | own _ _ _ => exact hob.elim
      | virt vs =>
        obtain ⟨hr, h1⟩ := hob
        obtain ⟨vs', hv', hxe⟩ := hv
        rw [hloc] at hv'; cases hv'
        obtain ⟨C2, hp2, us, q1, q2, q3, q4, q5⟩ := frzL_sound _ hw hr hk
        refine ⟨_, C2, hp2, q1, ?_, hl.trans q3, q4, hs.trans q5⟩
        rw [hxe]
        exact .agg _ _ (fa_len q2).symm (fun j u hu => h1 u (List.mem_iff_getElem?.2 ⟨j, hu⟩)) (fun j c u hc hu => by
          obtain ⟨b, h2, h3⟩ := fa_get q2 hc
          rw [hu] at h2; cases h2; exact h3)
    · exact hk.elim
  · rename_i id g
    split at hk
    · rename_i e sz es g' pin hcs
      obtain ⟨rfl, hk⟩ := hk
      obtain ⟨C2, v2, hloc, hr, hl2, hwr, hst⟩ := pin_own hw id e sz g es pin hcs
      obtain ⟨_, g3, sz3, v3, k1, k2, k3⟩ := hv
      rw [hloc] at k1; cases k1
      rw [k3 rfl]
      exact ⟨_, C2, _, hk, hr, hl.trans hl2, hwr, hs.trans hst⟩
    · rename_i e sz es g' hcs
      obtain ⟨rfl, hk⟩ := hk
      obtain ⟨C2, v2, hloc, _, hr, hl2, hwr, hst⟩ := pin_tree hw id e sz g es hcs
      obtain ⟨_, g3, sz3, v3, k1, k2, k3⟩ := hv
      rw [hloc] at k1; cases k1
      rw [k3 rfl]
      exact ⟨_, C2, _, hk, hr, hl.trans hl2, hwr, hs.trans hst⟩
    · exact hk.elim
  · exact ⟨v, C', hp', hk, hv, hl, hw, hs⟩
theorem trunc_good (hG : G.Ok) {C : Cx G.tab} {hp : Hp} {w : World} {ρ : Operand → AV} {σ : Operand → Value} {K : KO} {o : Oper} (hw : WR C hp w) (hρ : ∀ x, RepAV C (ρ x) (σ x)) (h : truncP G o ρ hp K) : ∃ x, (execOp σ o).run G.P w = .ok (.value x) w ∧ Step C w K x w := by
  obtain ⟨dst, op, ty, pos, aft, gd⟩ := o
  unfold truncP at h
  simp only at h
  split at h
  · rename_i t x hi
    split at h
    · rename_i ti id g k n hti hx hhi
      split at h
      · rename_i e he
        split at h
        · rename_i te e' sz es g' pin hte hcs
          obtain ⟨rfl, rfl, rfl, rfl, hb, h⟩ := h
          rw [named_eq] at h
          obtain ⟨ii, d, z, hs⟩ := ti_spec (hG.ti _ _ hti)
          obtain ⟨ie, de, ze, hse⟩ := ti_spec (hG.ti _ _ hte)
          have hd : d = .slice e := by have := hs.sl; rw [he] at this; cases d <;> simp [dSl] at this; rw [this]
          subst hd
          have hsize : (sizeOf e).run G.P w = .ok te.size w := run_sizeOf hse
          obtain ⟨l, hloc, hob⟩ := hw.ob _ _ hcs
          cases l with
          | virt _ => exact hob.elim
          | box b => exact hob.elim
          | own g2 sz2 v =>
            obtain ⟨rfl, rfl, hsz0, xs, hrow, hrr, hpin⟩ := hob
            have hxx := hρ x
            rw [hx] at hxx
            obtain ⟨_, g3, sz3, v3, k1, k2, k3⟩ := hxx
            rw [hloc] at k1; cases k1
            have hsv := k3 rfl
            have hh := hρ hi
            rw [hhi] at hh
            have hh' : RepV C.I (.int k n) (σ hi) := hh
            have hlen : (es.take n.toNat).length = n.toNat := by simp; omega
            have hrr' : RowR C.I te.size (es.take n.toNat) (xs.take (n.toNat * te.size)) := by
              refine ⟨fun u hu => hrr.1 u (List.take_subset _ _ hu), fun i e0 he0 => ?_⟩
              rw [List.getElem?_take] at he0
              split at he0
              · rename_i hin
                obtain ⟨h1, h2⟩ := hrr.2 i e0 he0
                refine ⟨h1, fun j c hc => ?_⟩
                obtain ⟨u, hu, hru⟩ := h2 j c hc
                have hj : j < te.size := by rw [← h1]; exact (List.getElem?_eq_some_iff.1 hc).1
                refine ⟨u, ?_, hru⟩
                rw [List.getElem?_take, if_pos, hu]
                have : (i + 1) * te.size ≤ n.toNat * te.size := Nat.mul_le_mul_right _ hin
                rw [Nat.add_mul] at this; omega
              · cases he0
            have fin : ∀ v', (∀ b, v'.ownBlock = some b → v.ownBlock = some b) → v'.oneCell' = true → w.ownsRow 0 e te.size v' (es.take n.toNat).length (xs.take (n.toNat * te.size)) → (execOp σ ⟨dst, .slice t x none (some hi) none, ty, pos, aft, gd⟩).run G.P w = .ok (.value v') w → ∃ x', (execOp σ ⟨dst, .slice t x none (some hi) none, ty, pos, aft, gd⟩).run G.P w = .ok (.value x') w ∧ Step C w K x' w := fun v' hbk h1c hrow' hrun => by
              obtain ⟨h1, h2, h3⟩ := next_own hw id e te.size g (g + 1) es (es.take n.toNat) false false v v' xs _ hcs hloc hsz0 (by omega) (by omega) hrow' hrr' ⟨rfl, rfl, rfl, Nat.le_refl _, fun _ _ _ => rfl⟩ (fun b hb => .inr (hbk b hb))
                (fun b j u hb hu => hw.inI b j u hu) (fun b j u hb hu => by have := (hpin b j u (hbk b hb) hu).1; cases this)
              exact ⟨v', hrun, _, _, _, h, ⟨h1c, g + 1, te.size, v', Cx.set_same _ _ _, Nat.le_refl _, fun _ => rfl⟩, h1, h2, h3⟩
            rcases hrow.2 with ⟨hv, hn⟩ | ⟨b, cap, cur, hv, hb0, hb1, hnc, hcm, hcs1, htake⟩
            · have hn0 : n.toNat = 0 := by omega
              obtain ⟨l, m, h1, h2, h3, h4⟩ := cut_sound (G := G) (w := w) (K := fun a b => a = 0 ∧ b = n.toNat) (isS := true) (C := C) (lo := none) (lov := none) (hi := some (.int k n)) (hiv := some (σ hi)) (len := es.length) (cap := 0) (by omega) trivial hh' ⟨hb, rfl, rfl⟩
              obtain ⟨rfl, rfl⟩ := h2
              refine fin v (fun b hb => hb) (by rw [hv]; rfl) ⟨by rw [List.length_take, hrow.1, hlen, hn0]; simp, .inl ⟨hv, by rw [hlen, hn0]⟩⟩ ?_
              unfold execOp
              simp only [Option.map]
              rw [hsv, hv]
              simp only [Instr.sliceAt, Instr.slice, Sem.run_bind, run_underlying hs.und, Result.andThen_ok, hsize, Option.map]
              rw [show es.length = 0 by omega] at h1
              rw [h1, hn0]
              simp [hsize]
            · obtain ⟨l, m, h1, h2, h3, h4⟩ := cut_sound (G := G) (w := w) (K := fun a b => a = 0 ∧ b = n.toNat) (isS := true) (C := C) (lo := none) (lov := none) (hi := some (.int k n)) (hiv := some (σ hi)) (len := es.length) (cap := cap) hnc trivial hh' ⟨hb, rfl, rfl⟩
              obtain ⟨rfl, rfl⟩ := h2
              have hm : n.toNat * te.size ≤ es.length * te.size := Nat.mul_le_mul_right _ (by omega)
              refine fin (.slice (some ⟨b, 0, none⟩) n.toNat cap) (fun b' hb' => by rw [hv]; exact hb') rfl ⟨by rw [List.length_take, hrow.1, hlen]; omega, .inr ⟨b, cap, cur, by rw [hlen], hb0, hb1, by rw [hlen]; omega, hcm, hcs1, ?_⟩⟩ ?_
              · rw [hlen, ← htake, List.take_take, Nat.min_eq_left hm]
              · unfold execOp
                simp only [Option.map]
                rw [hsv, hv]
                simp only [Instr.sliceAt, Instr.slice, Sem.run_bind, run_underlying hs.und, Result.andThen_ok, hsize, Option.map]
                rw [h1]
                simp [hsize, Addr.add]
        · exact h.elim
      · exact h.elim
    · exact h.elim
  · exact h.elim
theorem home_rep {C : Cx G.tab} {hp : Hp} {w : World} {ρ : Operand → AV} {σ : Operand → Value} (hw : WR C hp w) (hρ : ∀ x, RepAV C (ρ x) (σ x)) (hσ : ∀ x, isNil x = true → σ x = .slice none 0 0) {e : TypeId} {sz rid i : Nat} (h0 : 0 < sz) (h1 : hp (pid rid i) = none) :
    ∃ C', Le C C' ∧ WR C' (upd (pid rid i) (.own e sz [] 0 false) hp) w ∧ Stp C C' w w ∧ ∀ x, RepAV C' (bif isNil x then .one (.ref (pid rid i) 0) else ρ x) (σ x) := by
  obtain ⟨k1, k2, k3⟩ := new_own hw (pid rid i) h1 (pid_ge _ _) e sz 0 [] false (.slice none 0 0) [] h0 (World.ownsRow_nil w 0 e sz) ⟨by simp, by simp⟩ ⟨rfl, rfl, rfl, Nat.le_refl _, fun _ _ _ => rfl⟩ (fun b hb => by cases hb)
  refine ⟨_, k1, k2, k3, fun x => ?_⟩
  cases hx : isNil x with
  | true =>
    rw [hσ x hx]
    exact ⟨rfl, 0, sz, _, Cx.set_same _ _ _, Nat.le_refl _, fun _ => rfl⟩
  | false => exact (hρ x).mono k1
theorem isNil_eval (a : Act) (x : Operand) (h : isNil x = true) : a.eval x = .slice none 0 0 := by
  unfold isNil at h
  split at h
  · rfl
  · cases h
theorem step_home {C C' : Cx TT} {w w' : World} {K : KO} {x : Value} (hl : Le C C') (hs : Stp C C' w w) (h : Step C' w K x w') : Step C w K x w' := by
  obtain ⟨v, C2, hp2, k1, k2, k3, k4, k5⟩ := h
  exact ⟨v, C2, hp2, k1, k2, hl.trans k3, k4, hs.trans k5⟩
theorem step_and {T : List Nat} {C : Cx TT} {w w' : World} {hp : Hp} {K : KO} {x : Value} (h : Step C w (fun v hp' => BX T hp hp' ∧ K v hp') x w') : Step C w K x w' := by
  obtain ⟨v, C', hp', hk, h2⟩ := h
  exact ⟨v, C', hp', hk.2, h2⟩
theorem lend_wp (hG : G.Ok) (hcf : CFS G cf) {C : Cx G.tab} {ρ : Operand → AV} {hp : Hp} {a : Act} {w : World} (hw : WR C hp w) (hρ : ∀ x, RepAV C (ρ x) (a.eval x)) {rid i : Nat} {o : Oper} {K : KO} (h : lendP G cf rid i o ρ hp K) {N : Act → World → Prop} {Q : Exit → Act → World → Prop}
    (hN : ∀ x w', Step C w K x w' → N (a.put o.dst x) w') : o.wp G.P a w N Q := by
  unfold Oper.wp
  unfold lendP at h
  split at h
  rotate_left
  · exact h.elim
  rename_i c ho
  obtain ⟨cal, args, ats⟩ := c
  simp only at h
  split at h
  rotate_left
  · exact h.elim
  rename_i f
  split at h
  rotate_left
  · exact h.elim
  rename_i f' hf
  obtain ⟨hsome, h⟩ := h
  have hff := hρ f
  rw [hf] at hff
  obtain ⟨vs, hfv, hcaps⟩ := hff
  cases hcaps
  have hargs : FA (RepAV C) (args.toList.map ρ) (args.toList.map a.eval) := by
    refine fa_of (by simp) fun j x y hx hy => ?_
    rw [List.getElem?_map] at hx hy
    obtain ⟨z, hz, rfl⟩ := Option.map_eq_some_iff.1 hx
    rw [hz] at hy
    simp at hy; subst hy
    exact hρ z
  have hcall := lend_sound hcf hw hargs (f := f') h
  obtain ⟨F, hF⟩ := Option.isSome_iff_exists.1 hsome
  have hrun : (execOp a.eval o).run G.P w = .ok (.enter f' (args.toList.map a.eval).toArray) w := by
    obtain ⟨hn, hb⟩ := hG.name _ _ hF
    have hn' : ¬ F.name = "runtime.NumGoroutine" := by simpa using hn
    have hb' : ¬ F.body = none := by cases h : F.body <;> simp_all
    have harr : (List.map a.eval args.toList).toArray = Array.map a.eval args := by apply Array.ext'; simp
    rw [harr]
    simp [execOp, ho, resolve, hfv, Deferred.ofValue, invoke, callFunc, program, Sem.run, hG.fn _ _ hF, hn', hb']
  rw [hrun]
  refine hcall.mono ?_
  rintro e w' ⟨x, rfl, hs⟩
  exact hN x w' hs
theorem tre_wp (hG : G.Ok) {C : Cx G.tab} {fr : Fr} {hp : Hp} {a : Act} {w : World} {nt : Nat} (st : St nt C fr hp a w) {h0 rid i : Nat} {o : Oper} {K : KO} (h : treP G h0 rid i o (ev fr) hp K) {N : Act → World → Prop} {Q : Exit → Act → World → Prop}
    (hN : ∀ x w', Step C w K x w' → N (a.put o.dst x) w') : o.wp G.P a w N Q := by
  unfold Oper.wp
  obtain ⟨x, v, C', hp', w', hr, k1, k2, k3, k4, k5⟩ := tre_good (σ := a.eval) hG st.wr st.ev (fun _ => rfl) h
  rcases hr with hr | ⟨hr, rfl⟩
  · rw [hr]; exact hN x w' ⟨v, C', hp', k1, k2, k3, k4, k5⟩
  · rw [hr]; exact hN undef w' ⟨v, C', hp', k1, k2, k3, k4, k5⟩
theorem opR_wp (hG : G.Ok) (hcf : CFS G cf) {nt : Nat} {C : Cx G.tab} {fr : Fr} {hp : Hp} {a : Act} {w : World} (st : St nt C fr hp a w) {fid rid i : Nat} {o : Oper} {K : KO} (h : opR G cf fid rid i o (ev fr) hp K) {N : Act → World → Prop} {Q : Exit → Act → World → Prop}
    (hN : ∀ x w', Step C w K x w' → N (a.put o.dst x) w') : o.wp G.P a w N Q := by
  unfold opR at h
  split at h
  · exact opQ_wp hG hcf st.wr st.ev h fun x w' hs => hN x w' (fz_step hs)
  · obtain ⟨x, hr, hs⟩ := trunc_good hG st.wr st.ev h
    unfold Oper.wp
    rw [hr]; exact hN x w hs
  · unfold homeP at h
    split at h
    · rename_i c hop
      split at h
      · split at h
        · split at h
          · split at h
            · obtain ⟨h0, h1, h⟩ := h
              obtain ⟨C', k1, k2, k3, k4⟩ := home_rep st.wr st.ev (isNil_eval a) h0 h1
              exact opQ_wp hG hcf k2 k4 h fun x w' hs => hN x w' (step_home k1 k3 hs)
            · exact h.elim
          · exact h.elim
        · exact h.elim
      · exact h.elim
    · exact h.elim
  · exact opQ_wp hG hcf st.wr st.ev h.2 hN
  · exact opQ_wp hG hcf st.wr st.ev h fun x w' hs => hN x w' (step_and hs)
  · exact tre_wp hG st h hN
  · exact tre_wp hG st h hN
  · exact lend_wp hG hcf st.wr st.ev h hN
  · exact opQ_wp hG hcf st.wr st.ev h hN
theorem op_wp (hG : G.Ok) (hcf : CFS G cf) {nt : Nat} {C : Cx G.tab} {fr : Fr} {hp : Hp} {a : Act} {w : World} (st : St nt C fr hp a w) {fid rid i : Nat} {o : Oper} {K : KO} (h : opP G cf fid rid i o (ev fr) hp K) {N : Act → World → Prop} {Q : Exit → Act → World → Prop}
    (hN : ∀ x w', Step C w K x w' → N (a.put o.dst x) w') : o.wp G.P a w N Q := by
  unfold opP at h
  split at h
  · exact opR_wp hG hcf st h hN
  · exact opR_wp hG hcf st h fun x w' hs => hN x w' (join_step hs)

theorem step_wp (hG : G.Ok) (hcf : CFS G cf) {nt : Nat} {C : Cx G.tab} {fr : Fr} {hp : Hp} {a : Act} {w : World} (st : St nt C fr hp a w) {fid rid i : Nat} {ops : Array Oper} {o : Oper} (ho : ops[i]? = some o) (hall : ops.toList.all (Oper.fits nt) = true) {K : KO} (h : stepP G cf fid rid ops i o fr hp K)
    {N : Act → World → Prop} {Q : Exit → Act → World → Prop} (hN : ∀ v C' hp' a' w', K v hp' → St nt C' (put o.dst v fr) hp' a' w' → Stp C C' w w' → N a' w') : wpOp G.P ops Q i N a w := by
  have hfit : ∀ (j : Nat) o', ops[j]? = some o' → ∀ t, o'.dst = some t → t < nt := fun j o' hj t ht => by
    have := List.all_eq_true.1 hall o' (List.mem_iff_getElem?.2 ⟨j, by simpa using hj⟩)
    simp [Oper.fits, ht] at this
    exact this
  have hN' : ∀ x w', Step C w K x w' → N (a.put o.dst x) w' := fun x w' ⟨v, C', hp', k1, k2, k3, k4, k5⟩ => hN v C' hp' _ w' k1 (st.put (hfit i o ho) k2 k3 k4) k5
  have hskip : K (.tup []) hp → N (a.put o.dst undef) w := fun hk => hN (.tup []) C hp _ w hk (st.put (hfit i o ho) ⟨[], rfl, .nil⟩ (Le.refl _) st.wr) (Stp.refl _ _)
  unfold wpOp
  rw [ho]
  simp only []
  unfold stepP at h
  split at h
  · rename_i hg
    have : Region.wanted o (yielded ops a.tmps) = true := by simp [Region.wanted, hg]
    rw [if_pos this]
    exact .inl (op_wp hG hcf st h hN')
  · rename_i j want hg
    split at h
    · exact h.elim
    · rename_i d hd
      obtain ⟨oj, hoj, hdj⟩ := Option.bind_eq_some_iff.1 hd
      have hdn := hfit j oj hoj d hdj
      have hget : a.tmps[d]? = some (a.tmps.getD d undef) := by
        have : d < a.tmps.size := by rw [st.size]; exact hdn
        simp [this]
      have hsl := st.slots d
      split at h
      · rename_i b hb
        rw [hb] at hsl
        have hsl' : RepV C.I (.bool b) (a.tmps.getD d undef) := hsl
        have hy : yielded ops a.tmps j = some b := by
          unfold yielded
          rw [hd]
          simp only [Option.bind_some, hget]
          generalize a.tmps.getD d undef = x at hsl'
          cases hsl'
          rfl
        rcases h with ⟨rfl, h⟩ | ⟨rfl, h⟩
        · have : Region.wanted o (yielded ops a.tmps) = true := by simp [Region.wanted, hg, hy]
          rw [if_pos this]
          exact .inl (op_wp hG hcf st h hN')
        · have : ¬ Region.wanted o (yielded ops a.tmps) = true := by simp [Region.wanted, hg, hy]
          rw [if_neg this]
          exact hskip h
      · rename_i hb
        rw [hb] at hsl
        obtain ⟨vs, hx, hf⟩ := hsl
        cases hf
        have hy : yielded ops a.tmps j = none := by
          unfold yielded
          rw [hd]
          simp only [Option.bind_some, hget, hx]
        have : ¬ Region.wanted o (yielded ops a.tmps) = true := by simp [Region.wanted, hg, hy]
        rw [if_neg this]
        exact hskip h
      · exact h.elim

theorem run_wp (hG : G.Ok) (hcf : CFS G cf) {nt fid rid : Nat} {ops : Array Oper} (hall : ops.toList.all (Oper.fits nt) = true) {Q : Exit → Act → World → Prop} : ∀ (l : List (Nat × Oper)), (∀ p ∈ l, ops[p.1]? = some p.2) → ∀ {C : Cx G.tab} {fr : Fr} {hp : Hp} {a : Act} {w : World} {K : Fr → Hp → Prop}, St nt C fr hp a w → runP G cf fid rid ops l fr hp K →
    (∀ C' fr' hp' a' w', K fr' hp' → St nt C' fr' hp' a' w' → Stp C C' w w' → Q .normal a' w') → wpOps G.P ops Q (l.map (·.1)) a w
  | [], _, C, fr, hp, a, w, K, st, h, hQ => hQ C fr hp a w h st (Stp.refl _ _)
  | (i, o) :: l, hl, C, fr, hp, a, w, K, st, h, hQ => by
    rw [List.map_cons, wpOps_cons]
    rw [runP_cons] at h
    refine step_wp hG hcf st (hl (i, o) (by simp)) hall h fun v C' hp' a' w' hk st' hs => ?_
    exact run_wp hG hcf hall l (fun p hp => hl p (by simp [hp])) st' hk fun C2 fr2 hp2 a2 w2 h1 h2 h3 => hQ C2 fr2 hp2 a2 w2 h1 h2 (hs.trans h3)

theorem number_get {α : Type} : ∀ (l : List α) (k j : Nat) (a : α), (j, a) ∈ number k l ↔ k ≤ j ∧ l[j - k]? = some a
  | [], k, j, a => by simp [number]
  | b :: l, k, j, a => by
    simp only [number, List.mem_cons, Prod.mk.injEq, number_get l (k + 1) j a]
    constructor
    · rintro (⟨rfl, rfl⟩ | ⟨h1, h2⟩)
      · simp
      · refine ⟨by omega, ?_⟩
        have : j - k = (j - (k + 1)) + 1 := by omega
        rw [this]; simpa using h2
    · rintro ⟨h1, h2⟩
      by_cases e : j = k
      · subst e; simp at h2; exact .inl ⟨rfl, h2.symm⟩
      · right
        refine ⟨by omega, ?_⟩
        have : j - k = (j - (k + 1)) + 1 := by omega
        rw [this] at h2; simpa using h2
theorem number_fst {α : Type} : ∀ (l : List α) (k : Nat), (number k l).map (·.1) = List.range' k l.length
  | [], k => rfl
  | a :: l, k => by simp [number, number_fst l (k + 1), List.range'_succ]

theorem region_wp (hG : G.Ok) (hcf : CFS G cf) {nt fid rid : Nat} {ops : Array Oper} (hall : ops.toList.all (Oper.fits nt) = true) {Q : Exit → Act → World → Prop} {C : Cx G.tab} {fr : Fr} {hp : Hp} {a : Act} {w : World} {K : Fr → Hp → Prop} (st : St nt C fr hp a w) (h : runP G cf fid rid ops (number 0 ops.toList) fr hp K)
    (hQ : ∀ C' fr' hp' a' w', K fr' hp' → St nt C' fr' hp' a' w' → Stp C C' w w' → Q .normal a' w') : (Code.region rid ops false).wp G.P Q a w := by
  refine wp_region ?_
  have := run_wp hG hcf hall (number 0 ops.toList) (fun p hp => by have := (number_get _ 0 p.1 p.2).1 hp; simpa using this.2) st h hQ
  rw [number_fst] at this
  rw [List.range_eq_range']
  simpa using this
end
end Go.Proofs.YtccldchklemogaaW.AM
