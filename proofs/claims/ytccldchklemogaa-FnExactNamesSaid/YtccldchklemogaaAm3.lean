/- The abstract machine: single operations that touch no memory, or only read it. -/
import Derived.Test.YtccldchklemogaaAm2t
import Derived.Great.BuildSlice
import Derived.Laws.MakeOwn
set_option linter.unusedSectionVars false
set_option linter.unusedVariables false
set_option linter.unusedSimpArgs false
namespace Go.Proofs.YtccldchklemogaaW.AM
open Go Go.RowKit
variable {TT : Tab}

structure TiS (P : Program) (t : TypeId) (ti : TI) (i : TypeInfo) (d : TypeDesc) (z : Value) : Prop where
  info : P.info? t = some i
  und : P.underlying t = some d
  zero : i.zero = some z
  size : ti.size = i.size
  bytes : ti.bytes = i.bytes
  zeros : ti.zero = z.cells.toList
  agg : ti.agg = dAgg d
  sl : ti.sl = dSl d
  flds : dFl P d = some ti.flds
  knd : ti.knd = dKnd d
  str : ti.str = dStr d
  bool : ti.bool = dBool d
theorem ti_spec {P : Program} {t : TypeId} {ti : TI} (h : tiOf P t = some ti) : ∃ i d z, TiS P t ti i d z := by
  unfold tiOf at h
  split at h
  · rename_i i d hi hd
    split at h
    · rename_i z fl hz hf
      cases h
      exact ⟨i, d, z, hi, hd, hz, rfl, rfl, rfl, rfl, rfl, hf, rfl, rfl, rfl⟩
    · cases h
  · cases h

theorem run_isAgg {P : Program} {w : World} {t ti i d z} (h : TiS P t ti i d z) : (isAgg t).run P w = .ok ti.agg w := by
  have hd := h.agg
  cases d <;> simp [isAgg, run_underlying h.und, hd, dAgg]
theorem run_sizeOf {P : Program} {w : World} {t ti i d z} (h : TiS P t ti i d z) : (sizeOf t).run P w = .ok ti.size w := by
  simp [sizeOf, typeInfo, h.info, h.size]
theorem run_zero {P : Program} {w : World} {t ti i d z} (h : TiS P t ti i d z) : (zeroValue t).run P w = .ok z w := by
  simp [zeroValue, typeInfo, h.info, h.zero]

/-- A variable is loaded out of cells that are known. -/
theorem run_part {P : Program} {w : World} {t ti i d z} (h : TiS P t ti i d z) (b o off : Nat) (vs : List Value) (hc : ∀ (j : Nat) u, vs[j]? = some u → w.cell? ⟨b, o + j, none⟩ = some u) {R : Value → Prop}
    (hr : if ti.agg = true then off + ti.size ≤ vs.length ∧ R (.agg ((vs.drop off).take ti.size).toArray) else ∃ u, vs[off]? = some u ∧ R u) : ∃ x, (loadVar t ⟨b, o + off, none⟩).run P w = .ok x w ∧ R x := by
  by_cases ha : ti.agg = true
  · rw [if_pos ha] at hr
    obtain ⟨hle, hR⟩ := hr
    refine ⟨_, ?_, hR⟩
    have hlen : ((vs.drop off).take ti.size).length = ti.size := by simp; omega
    have hl := run_loadCells_list (P := P) w ⟨b, o + off, none⟩ ((vs.drop off).take ti.size) (fun j v hv => by
      rw [Addr.add_lit]
      rw [List.getElem?_take] at hv
      split at hv
      · rw [List.getElem?_drop] at hv
        have := hc (off + j) v hv
        rw [← Nat.add_assoc] at this
        exact this
      · cases hv)
    rw [hlen] at hl
    simp only [loadVar, Sem.run_bind, run_isAgg h, Result.andThen_ok, ha, if_true, run_sizeOf h, hl, Sem.run_pure]
  · rw [if_neg ha] at hr
    obtain ⟨u, hu, hR⟩ := hr
    refine ⟨u, ?_, hR⟩
    have := hc off u hu
    simp only [loadVar, Sem.run_bind, run_isAgg h, Result.andThen_ok, ha, Bool.false_eq_true, if_false, run_load, this]

theorem list_of {α β : Type} {Q : Nat → α → β → Prop} : ∀ (cs : List α) (k : Nat), (∀ j c, cs[j]? = some c → ∃ u, Q (k + j) c u) → ∃ vs : List β, vs.length = cs.length ∧ ∀ j c u, cs[j]? = some c → vs[j]? = some u → Q (k + j) c u
  | [], _, _ => ⟨[], rfl, fun j c u h => by simp at h⟩
  | c :: cs, k, h => by
    obtain ⟨u, hu⟩ := h 0 c rfl
    obtain ⟨vs, hl, hv⟩ := list_of cs (k + 1) (fun j c' hc => by have := h (j + 1) c' (by simpa using hc); rwa [show k + (j + 1) = k + 1 + j by omega] at this)
    refine ⟨u :: vs, by simp [hl], fun j c' u' h1 h2 => ?_⟩
    cases j with
    | zero => simp at h1 h2; subst h1 h2; exact hu
    | succ j => have := hv j c' u' (by simpa using h1) (by simpa using h2); rwa [show k + (j + 1) = k + 1 + j by omega]

section
variable {G : Env} (hG : G.Ok) {C : Cx TT} {hp : Hp} {w : World} (hw : WR C hp w) {ρ : Operand → AV} {σ : Operand → Value} (hρ : ∀ x, RepAV C (ρ x) (σ x)) {K : KO}

/-- What an operation comes to. -/
def Good (G : Env) (C : Cx TT) (hp : Hp) (w : World) (K : KO) (r : Result Next) : Prop :=
  ∃ x v C' hp' w', (r = .ok (.value x) w' ∨ (r = .ok .skip w' ∧ x = undef)) ∧ K v hp' ∧ RepAV C' v x ∧ Le C C' ∧ WR C' hp' w' ∧ Stp C C' w w'
include hw in
theorem Good.pure {v : AV} {x : Value} {r : Result Next} (hr : r = .ok (.value x) w) (hk : K v hp) (hv : RepAV C v x) : Good G C hp w K r :=
  ⟨x, v, C, hp, w, .inl hr, hk, hv, Le.refl _, hw, Stp.refl _ _⟩

include hw in
theorem load_sound (t : TypeId) (a : AV) (x : Value) (ha : RepAV C a x) (h : loadP G t a hp K) (hG : G.Ok) : ∃ u v, (Instr.loadAt t x).run G.P w = .ok u w ∧ K v hp ∧ RepAV C v u := by
  unfold loadP at h
  split at h
  · exact h.elim
  · rename_i ti hti
    obtain ⟨i, d, z, hs⟩ := ti_spec (hG.ti _ _ hti)
    split at h
    · rename_i id off
      split at h
      · rename_i cs hcs
        split at h
        · rename_i v hv
          obtain ⟨l, hloc, hob⟩ := hw.ob _ _ hcs
          cases l with
          | virt _ => exact hob.elim
          | own _ _ _ => exact hob.elim
          | box b =>
            obtain ⟨T, vs, hb, hr, h1, _⟩ := hob
            obtain ⟨b', hb', rfl⟩ := ha
            rw [hloc] at hb'; cases hb'
            have hp1 := partA_rep hv hr h1
            obtain ⟨u, hu1, hu2⟩ := run_part (w := w) hs b 0 off vs (fun j u hu => by simp [World.cell?, hb, hu]) hp1
            rw [Nat.zero_add] at hu1
            exact ⟨u, .one v, by simpa [Instr.loadAt, Instr.sureAddr] using hu1, h, hu2⟩
        · exact h.elim
      · exact h.elim
    · rename_i e off
      split at h
      · rename_i v hv
        obtain ⟨b, o, rfl, hcell⟩ := ha
        obtain ⟨vs, hl, hvs⟩ := list_of (Q := fun j c u => C.I b (o + j) = some u ∧ u.oneCell' = true ∧ RepV C.I c u) e.cells 0 (fun j c hc => by simpa using hcell j c hc)
        have hfa : FA (RepV C.I) e.cells vs := fa_of hl.symm fun i a b ha hb => (hvs i a b ha hb).2.2
        have hvv : ∀ (j : Nat) u, vs[j]? = some u → C.I b (o + j) = some u ∧ u.oneCell' = true := fun j u hu => by
          obtain ⟨c, hc, _⟩ := fa_get' hfa hu
          have := hvs j c u hc hu
          simp at this
          exact ⟨this.1, this.2.1⟩
        have hp1 := partV_rep hv hfa (fun u hu => by obtain ⟨j, hj⟩ := List.mem_iff_getElem?.1 hu; exact (hvv j u hj).2)
        obtain ⟨u, hu1, hu2⟩ := run_part (w := w) hs b o off vs (fun j u hu => hw.inI _ _ _ (hvv j u hu).1) hp1
        exact ⟨u, _, by simpa [Instr.loadAt, Instr.sureAddr] using hu1, h, hu2⟩
      · exact h.elim
    · rename_i id g k off
      split at h
      · rename_i e sz es g' pin hcs
        obtain ⟨rfl, el, hel, h⟩ := h
        split at h
        · rename_i v hv
          obtain ⟨l, hloc, hob⟩ := hw.ob _ _ hcs
          cases l with
          | virt _ => exact hob.elim
          | box b => exact hob.elim
          | own g2 sz2 vv =>
            obtain ⟨rfl, rfl, hsz, xs, hrow, hrr, _⟩ := hob
            obtain ⟨_, g3, sz3, v3, k1, k2, k3⟩ := ha
            rw [hloc] at k1; cases k1
            obtain ⟨b, n, cap, e1, rfl⟩ := k3 rfl
            subst e1
            have hrw := hrr.2 k el hel
            have hxl : xs.length = es.length * sz := hrow.1
            have hk : k < es.length := (List.getElem?_eq_some_iff.1 hel).1
            have hseg : ((xs.drop (k * sz)).take sz).length = sz := by
              have : k * sz + sz ≤ es.length * sz := by have := Nat.mul_le_mul_right sz (show k + 1 ≤ es.length from hk); rwa [Nat.add_mul, Nat.one_mul] at this
              simp; omega
            have hget : ∀ j u, ((xs.drop (k * sz)).take sz)[j]? = some u → xs[k * sz + j]? = some u := fun j u hu => by
              rw [List.getElem?_take] at hu
              split at hu
              · rwa [List.getElem?_drop] at hu
              · cases hu
            have hfa : FA (RepV C.I) el.cells ((xs.drop (k * sz)).take sz) := fa_of (by rw [hseg, hrw.1]) fun j c u hc hu => by
              obtain ⟨u', hu', hr'⟩ := hrw.2 j c hc
              rw [hget j u hu] at hu'; cases hu'; exact hr'
            have hp1 := partV_rep hv hfa (fun u hu => hrr.1 u (List.drop_subset _ _ (List.take_subset _ _ hu)))
            have hn : n = es.length := by
              rcases hrow.2 with ⟨hh, _⟩ | ⟨_, _, _, hh, _⟩
              · cases hh
              · cases hh; rfl
            subst hn
            obtain ⟨u, hu1, hu2⟩ := run_part (w := w) hs b (k * sz) off _ (fun j u hu => by
              have := hget j u hu
              have hj : k * sz + j < es.length * sz := by rw [← hxl]; exact (List.getElem?_eq_some_iff.1 this).1
              rw [hrow.cellAt _ hj, this]) hp1
            exact ⟨u, _, by simpa [Instr.loadAt, Instr.sureAddr] using hu1, h, hu2⟩
        · exact h.elim
      · exact h.elim
    · exact h.elim

theorem equalIn_bool {P : Program} {w : World} {t : TypeId} (h : P.underlying t = some .bool) (d : Nat) (a b : Bool) : (Op.equalIn (d + 1) t (.bool a) (.bool b)).run P w = .ok (a == b) w := by
  simp only [Op.equalIn, Sem.run_bind, run_underlying h, Result.andThen_ok, Sem.run_pure]
theorem bin_sound {op : BinOp} {t : TypeId} {ti : TI} (hti : tiOf G.P t = some ti) {X Y : Operand} {x y : VV} {xv yv : Value} (hx : RepV C.I x xv) (hy : RepV C.I y yv) {K : VV → Prop} (h : bin op ti x y K) :
    ∃ v u, ((do eqGuard op t X Y xv yv; binOp op t xv yv) : Sem Value).run G.P w = .ok u w ∧ K v ∧ RepV C.I v u := by
  obtain ⟨i, d, z, hs⟩ := ti_spec hti
  cases hx <;> cases hy <;> try exact h.elim
  case int.int k a k' b =>
    have hg : (eqGuard op t X Y (.int k a) (.int k' b)).run G.P w = .ok () w := by unfold eqGuard; cases op <;> simp
    cases op <;> simp only [bin, bin2] at h <;> first
      | (obtain ⟨rfl, hb, z, hz, hk⟩ := h; exact ⟨_, _, by simp [hg, binOp, Op.intDiv, hb, hz], hk, .int _ _⟩)
      | (obtain ⟨rfl, z, hz, hk⟩ := h; exact ⟨_, _, by first | (simp [hg, binOp, Op.intArith, hz]; done) | (simp only [Sem.run_bind, hg, Result.andThen_ok, binOp_and, binOp_or, binOp_xor, intBits_and, intBits_or, intBits_xor, Sem.run_pure]; rw [hz]), hk, .int _ _⟩)
      | (obtain ⟨hb, z, hz, hk⟩ := h; exact ⟨_, _, by simp only [Sem.run_bind, hg, Result.andThen_ok, binOp, Op.shift]; rw [if_neg (by omega)]; simp only [Sem.run_pure]; rw [hz], hk, .int _ _⟩)
      | (obtain ⟨rfl, hk⟩ := h; refine ⟨_, .bool _, ?_, hk, .bool _⟩; simp [hg, binOp, Op.intCmp]; done)
      | exact h.elim
  case str.str a b =>
    have hg : (eqGuard op t X Y (.string a) (.string b)).run G.P w = .ok () w := by unfold eqGuard; cases op <;> simp
    cases op <;> simp only [bin] at h <;> first
      | (obtain ⟨hb, hk⟩ := h; exact ⟨_, _, by simp only [Sem.run_bind, hg, Result.andThen_ok, binOp, Op.stringOp]; rw [if_neg (by omega)]; rfl, hk, .str _⟩)
      | exact ⟨_, _, by simp only [Sem.run_bind, hg, Result.andThen_ok, binOp, Op.stringOp]; rfl, h, .bool _⟩
      | exact h.elim
  case bool.bool a b =>
    have hg : (eqGuard op t X Y (.bool a) (.bool b)).run G.P w = .ok () w := by unfold eqGuard; cases op <;> simp
    obtain ⟨hb, h⟩ := h
    have hd : d = .bool := by have := hs.bool; rw [hb] at this; cases d <;> simp [dBool] at this ⊢
    subst hd
    have heq : (Op.equal t (.bool a) (.bool b)).run G.P w = .ok (a == b) w := equalIn_bool hs.und 9999 a b
    cases op <;> simp only [] at h <;> first
      | (refine ⟨_, .bool _, ?_, h, .bool _⟩; simp only [Sem.run_bind, hg, Result.andThen_ok, binOp, heq, Sem.run_pure]; done)
      | exact h.elim

def RepO (I : Nat → Nat → Option Value) : Option VV → Option Value → Prop
  | none, none => True
  | some a, some x => RepV I a x
  | _, _ => False
theorem cutH_sound {lo : Option VV} {lov : Option Value} (hlo : RepO C.I lo lov) {K : Nat → Nat → Prop} (hh : Nat) (hk : cutH lo K hh) :
    ∃ l, (match lov with | some v => Instr.sliceBound v hh .sliceB | none => Pure.pure 0 : Sem Nat).run G.P w = .ok l w ∧ K l hh ∧ l ≤ hh := by
  cases lo with
  | none =>
    cases lov with
    | none => exact ⟨0, rfl, hk, Nat.zero_le _⟩
    | some x => exact hlo.elim
  | some a =>
    cases lov with
    | none => exact hlo.elim
    | some x =>
      cases a <;> try exact hk.elim
      rename_i k n
      obtain ⟨⟨h1, h2⟩, h3⟩ := hk
      have hlo' : RepV C.I (.int k n) x := hlo
      cases hlo'
      exact ⟨n.toNat, by simp [Instr.sliceBound, asIntOf, h1, h2], h3, by omega⟩
theorem cut_sound {isS : Bool} {len cap : Nat} {lo hi : Option VV} {lov hiv : Option Value} (hc : len ≤ cap) (hlo : RepO C.I lo lov) (hhi : RepO C.I hi hiv) {K : Nat → Nat → Prop} (h : cutB len lo hi K) :
    ∃ l hh, (Instr.sliceBounds isS len cap lov hiv none).run G.P w = .ok (l, hh, cap) w ∧ K l hh ∧ l ≤ hh ∧ hh ≤ len := by
  cases hi with
  | none =>
    cases hiv with
    | some x => exact hhi.elim
    | none =>
      obtain ⟨l, h1, h2, h3⟩ := cutH_sound (G := G) (w := w) hlo len h
      refine ⟨l, len, ?_, h2, h3, Nat.le_refl _⟩
      simp only [Instr.sliceBounds, Sem.run_bind, Sem.run_pure, Result.andThen_ok]
      cases lov with
      | none => simp at h1; subst h1; simp
      | some v => simp at h1; simp [h1]
  | some b =>
    cases hiv with
    | none => exact hhi.elim
    | some x =>
      cases b <;> try exact h.elim
      rename_i k n
      obtain ⟨⟨h1, h2⟩, h4⟩ := h
      have hhi' : RepV C.I (.int k n) x := hhi
      cases hhi'
      obtain ⟨l, h5, h6, h7⟩ := cutH_sound (G := G) (w := w) hlo n.toNat h4
      refine ⟨l, n.toNat, ?_, h6, h7, by omega⟩
      have hb : n ≤ (cap : Int) := by omega
      have hsb : ∀ c, (Instr.sliceBound (.int k n) cap c).run G.P w = .ok n.toNat w := fun c => by simp [Instr.sliceBound, asIntOf, h1, hb]
      simp only [Instr.sliceBounds, Sem.run_bind, Sem.run_pure, Result.andThen_ok, hsb]
      cases lov with
      | none => simp at h5; subst h5; simp
      | some v => simp at h5; simp [h5]

end
end Go.Proofs.YtccldchklemogaaW.AM
