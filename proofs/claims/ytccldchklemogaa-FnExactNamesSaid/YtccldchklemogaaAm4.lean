/- The abstract machine: single operations. -/
import Derived.Test.YtccldchklemogaaAm3
set_option linter.unusedSectionVars false
set_option linter.unusedVariables false
set_option linter.unusedSimpArgs false
namespace Go.Proofs.YtccldchklemogaaW.AM
open Go Go.RowKit
variable {TT : Tab}

theorem pid_ge (r i : Nat) : 16 ≤ pid r i := by unfold pid; omega
theorem setAt_len {α : Type} (cs : List α) (off : Nat) (vs : List α) (h : off + vs.length ≤ cs.length) : (setAt cs off vs).length = cs.length := by unfold setAt; simp; omega
theorem fa_setAt {α β : Type} {R : α → β → Prop} {cs vs : List α} {ds us : List β} (h : FA R cs ds) (h' : FA R vs us) (off : Nat) : FA R (setAt cs off vs) (setAt ds off us) := by
  unfold setAt
  rw [fa_len h']
  exact fa_app (fa_app (fa_take h off) h') (fa_drop h _)
theorem mem_setAt {α : Type} {cs : List α} {off : Nat} {vs : List α} {x : α} (h : x ∈ setAt cs off vs) : x ∈ cs ∨ x ∈ vs := by
  unfold setAt at h
  simp at h
  rcases h with h | h | h
  · exact .inl (List.take_subset _ _ h)
  · exact .inr h
  · exact .inl (List.drop_subset _ _ h)

theorem run_storeVar {P : Program} {w : World} {t ti i d z} (h : TiS P t ti i d z) (b o T : Nat) (cur : List Value) (x : Value) (hb : w.heap[b]? = some (.cells cur.toArray T (0, 0))) (hx : x.cells.size = ti.size) (h1 : ∀ u ∈ x.cells.toList, u.oneCell' = true) (hle : o + x.cells.size ≤ cur.length) :
    (storeVar t ⟨b, o, none⟩ x).run P w = .ok () (w.setRow b (setAt cur o x.cells.toList).toArray) := by
  have hst := run_storeCells_at P b o T x.cells.toList 0 cur.toArray w hb (by simpa using hle) h1
  simp only [storeVar, Sem.run_bind, run_sizeOf h, Result.andThen_ok, hx, ne_eq, not_true, if_false]
  rw [hst]
  simp [setAt]

theorem zeroVV_rep (I : Nat → Nat → Option Value) {ti : TI} {l : List VV} (h : zeroVV ti = some l) : FA (RepV I) l ti.zero ∧ ∀ u ∈ ti.zero, u.oneCell' = true := by
  have hm := mapO_fa h
  refine ⟨fa_of (fa_len hm).symm fun j a b ha hb => ?_, fun u hu => ?_⟩
  · obtain ⟨c, h1, h2⟩ := fa_get hm hb
    rw [ha] at h1; cases h1
    exact (ofS_rep I h2).1
  · obtain ⟨j, hj⟩ := List.mem_iff_getElem?.1 hu
    obtain ⟨c, _, h2⟩ := fa_get hm hj
    exact (ofS_rep I h2).2

section
variable {G : Env} {C : Cx TT} {hp : Hp} {w : World} {ρ : Operand → AV} {σ : Operand → Value} {K : KO}

theorem parts_rep (hρ : ∀ x, RepAV C (ρ x) (σ x)) : ∀ {ps : List (Nat × Operand)} {l : List (Nat × VV)}, parts ρ ps = some l → FA (fun a (b : Nat × Value) => a.1 = b.1 ∧ RepV C.I a.2 b.2) l (ps.map fun p => (p.1, σ p.2))
  | [], l, h => by simp [parts] at h; subst h; exact .nil
  | (i, x) :: ps, l, h => by
    simp only [parts] at h
    split at h
    · rename_i a l' ha hl'
      split at h
      · rename_i v hv
        cases h
        refine .cons ⟨rfl, ?_⟩ (parts_rep hρ hl')
        have := hρ x
        rw [ha] at this
        exact toVV_rep hv this
      · cases h
    · cases h

theorem foldl_setAt : ∀ (vs : List Value) (off k : Nat) (cs : Array Value), off + k + vs.length ≤ cs.size →
    (vs.zipIdx k).foldl (fun cs (x : Value × Nat) => cs.setIfInBounds (off + x.2) x.1) cs = (setAt cs.toList (off + k) vs).toArray
  | [], off, k, cs, _ => by simp [setAt]
  | v :: vs, off, k, cs, h => by
    simp only [List.length_cons] at h
    rw [List.zipIdx_cons, List.foldl_cons, foldl_setAt vs off (k + 1) _ (by simp; omega)]
    congr 1
    have e := list_seg_step cs.toList (off + k) v vs (by simp; omega)
    simpa [setAt, Array.toList_setIfInBounds, Nat.add_assoc] using e

theorem fill_sound {I : Nat → Nat → Option Value} {place : Nat → Option (Nat × Nat)} : ∀ {l : List (Nat × VV)} {ps : List (Nat × Value)} {cs cs' : List VV} {us : List Value}, FA (fun a (b : Nat × Value) => a.1 = b.1 ∧ RepV I a.2 b.2) l ps → FA (RepV I) cs us → (∀ u ∈ us, u.oneCell' = true) → fillV place cs l = some cs' →
    ∃ us' : List Value, Instr.fill place us.toArray ps = some us'.toArray ∧ FA (RepV I) cs' us' ∧ ∀ u ∈ us', u.oneCell' = true
  | [], ps, cs, cs', us, h, hc, h1, hf => by
    cases h
    simp [fillV] at hf; subst hf
    exact ⟨us, rfl, hc, h1⟩
  | (i, v) :: l, ps, cs, cs', us, h, hc, h1, hf => by
    cases h with
    | cons hab t =>
      rename_i b m
      obtain ⟨j, x⟩ := b
      obtain ⟨rfl, hr⟩ := hab
      simp only [fillV] at hf
      simp only [Instr.fill]
      split at hf
      · cases hf
      · rename_i off size hpl
        rw [hpl]
        split at hf
        · cases hf
        · rename_i hn
          obtain ⟨hcl, h1x⟩ := hr.cells
          have hlen := fa_len hcl
          have hcl2 := fa_len hc
          have hsz : x.cells.size = size := by
            have : v.cells.length = size := by omega
            rw [← this, hlen]; simp
          have hle : off + size ≤ us.length := by omega
          simp only []
          rw [if_neg (by simp only [Bool.or_eq_true, decide_eq_true_eq, not_or]; exact ⟨fun h => h hsz, by simp; omega⟩)]
          have hfold := foldl_setAt x.cells.toList off 0 us.toArray (by simp; omega)
          have : x.cells.zipIdx.foldl (fun cs (x : Value × Nat) => cs.setIfInBounds (off + x.2) x.1) us.toArray = (setAt us off x.cells.toList).toArray := by
            rw [← Array.foldl_toList]
            simpa using hfold
          rw [this]
          exact fill_sound t (fa_setAt hc hcl off) (fun u hu => by rcases mem_setAt hu with h | h; exact h1 u h; exact h1x u h) hf

theorem partsA_rep (hρ : ∀ x, RepAV C (ρ x) (σ x)) : ∀ {ps : List (Nat × Operand)} {l : List (Nat × List A0)}, partsA ρ ps = some l → FA (fun a (b : Nat × Value) => a.1 = b.1 ∧ FA (RepA C) a.2 b.2.cells.toList ∧ ∀ u ∈ b.2.cells.toList, u.oneCell' = true) l (ps.map fun p => (p.1, σ p.2))
  | [], l, h => by simp [partsA] at h; subst h; exact .nil
  | (i, x) :: ps, l, h => by
    simp only [partsA] at h
    split at h
    · cases h
    · cases h
    · rename_i a l' hd hs ha hl'
      cases h
      have := hρ x
      rw [ha] at this
      exact .cons ⟨rfl, RepA.cells this (fun e => by subst e; first | exact hd rfl | exact hd _ rfl | simp_all) (fun id e => by subst e; first | exact hs _ rfl | exact hs _ _ rfl | simp_all)⟩ (partsA_rep hρ hl')
    · cases h
theorem fillA_sound {C : Cx TT} {place : Nat → Option (Nat × Nat)} : ∀ {l : List (Nat × List A0)} {ps : List (Nat × Value)} {cs cs' : List A0} {us : List Value}, FA (fun a (b : Nat × Value) => a.1 = b.1 ∧ FA (RepA C) a.2 b.2.cells.toList ∧ ∀ u ∈ b.2.cells.toList, u.oneCell' = true) l ps → FA (RepA C) cs us → (∀ u ∈ us, u.oneCell' = true) → fillA place cs l = some cs' →
    ∃ us' : List Value, Instr.fill place us.toArray ps = some us'.toArray ∧ FA (RepA C) cs' us' ∧ ∀ u ∈ us', u.oneCell' = true
  | [], ps, cs, cs', us, h, hc, h1, hf => by
    cases h
    simp [fillA] at hf; subst hf
    exact ⟨us, rfl, hc, h1⟩
  | (i, v) :: l, ps, cs, cs', us, h, hc, h1, hf => by
    cases h with
    | cons hab t =>
      rename_i b m
      obtain ⟨j, x⟩ := b
      obtain ⟨rfl, hcl, h1x⟩ := hab
      simp only [fillA] at hf
      simp only [Instr.fill]
      split at hf
      · cases hf
      · rename_i off size hpl
        rw [hpl]
        split at hf
        · cases hf
        · rename_i hn
          have hlen := fa_len hcl
          have hcl2 := fa_len hc
          simp only [] at hlen
          have hsz : x.cells.size = size := by
            have : v.length = size := by omega
            rw [← this, hlen]; simp
          have hle : off + size ≤ us.length := by omega
          simp only []
          rw [if_neg (by simp only [Bool.or_eq_true, decide_eq_true_eq, not_or]; exact ⟨fun h => h hsz, by simp; omega⟩)]
          have hfold := foldl_setAt x.cells.toList off 0 us.toArray (by simp; omega)
          have : x.cells.zipIdx.foldl (fun cs (x : Value × Nat) => cs.setIfInBounds (off + x.2) x.1) us.toArray = (setAt us off x.cells.toList).toArray := by
            rw [← Array.foldl_toList]
            simpa using hfold
          rw [this]
          exact fillA_sound t (fa_setAt hc hcl off) (fun u hu => by rcases mem_setAt hu with h | h; exact h1 u h; exact h1x u h) hf

theorem built_of {P : Program} {t : TypeId} {ti : TI} {i d z} (hs : TiS P t ti i d z) (hfe : ti.flds.isEmpty = false) {l : List (Nat × Value)} {cells : Array Value} (h : Instr.fill (fun j => (ti.flds[j]?).map fun x => (x.1, x.2.2)) z.cells l = some cells) : P.built t l = some cells := by
  have hst : ∃ fs, d = .struct fs := by
    have := hs.flds
    cases d <;> simp [dFl] at this <;> first | exact ⟨_, rfl⟩ | (simp [this] at hfe; done)
  obtain ⟨fs, rfl⟩ := hst
  have hfl : fldsOf P fs.toList = some ti.flds := hs.flds
  have key : ∀ (l : List Field) (m : List (Nat × TypeId × Nat)), fldsOf P l = some m → l.mapM (fun f => (P.info? f.type).map fun i => (f.offset, i.size)) = some (m.map fun x => (x.1, x.2.2)) := by
    intro l
    induction l with
    | nil => intro m hm; simp [fldsOf, mapO] at hm; subst hm; rfl
    | cons f l ih =>
      intro m hm
      simp only [fldsOf, mapO] at hm
      split at hm
      · rename_i b bs h1 h2
        cases hm
        obtain ⟨i, hi, rfl⟩ := Option.map_eq_some_iff.1 h1
        have := ih bs h2
        simp [List.mapM_cons, hi, this]
      · cases hm
  simp only [Program.built, hs.info, hs.und, hs.zero, key _ _ hfl]
  simpa using h


theorem opt_rep (hρ : ∀ x, RepAV C (ρ x) (σ x)) {o : Option Operand} {v : Option VV} (h : optV ρ o = some v) : RepO C.I v (o.map σ) := by
  cases o with
  | none => simp [optV] at h; subst h; trivial
  | some x =>
    simp only [optV] at h
    split at h
    · rename_i u hu
      cases h
      have := hρ x
      rw [hu] at this
      exact this
    · cases h

theorem slice_sound {P : Program} {t ti i d z} (hs : TiS P t ti i d z) {es : List VV} {x : Value} (hx : RepV C.I (.row es) x) {e : TypeId} (he : ti.sl = some e) {te ie de ze} (hte : TiS P e te ie de ze) {lo hi : Option VV} {lov hiv : Option Value} (hlo : RepO C.I lo lov) (hhi : RepO C.I hi hiv) {K : VV → Prop} (hsz : SzOK es te.size) (h : cutB es.length lo hi fun l h => K (.row ((es.take h).drop l))) :
    ∃ v u, (Instr.slice t x lov hiv none).run P w = .ok u w ∧ K v ∧ RepV C.I v u := by
  have hd : d = .slice e := by have := hs.sl; rw [he] at this; cases d <;> simp [dSl] at this; rw [this]
  subst hd
  have hsize : (sizeOf e).run P w = .ok te.size w := run_sizeOf hte
  cases hx with
  | row0 a cap h0 =>
    obtain ⟨l, hh, h1, h2, h3, h4⟩ := cut_sound (G := ⟨P, fun _ => none, fun _ => none, fun _ _ _ => 0, fun _ => false, fun _ _ => false, fun _ _ _ _ _ => False, {}, fun _ _ _ => 0, fun _ _ => []⟩) (w := w) (isS := true) (cap := cap) (Nat.zero_le _) hlo hhi h
    simp at h4
    subst h4
    have hl : l = 0 := by omega
    subst hl
    refine ⟨.row [], _, ?_, by simpa using h2, .row0 (if cap = 0 then a else a.map (·.add (0 * te.size))) cap (by intro h; split at h; assumption; exact h0 (Option.map_eq_none_iff.1 h))⟩
    simp only [Instr.slice, Sem.run_bind, run_underlying hs.und, Result.andThen_ok, hsize]
    have h1' : (Instr.sliceBounds true 0 cap lov hiv none).run P w = .ok (0, 0, cap) w := h1
    rw [h1']
    simp [hsize]
  | row es b off cap sz u hsz' hc hI h1x hsx hh =>
    obtain ⟨l, n, h1, h2, h3, h4⟩ := cut_sound (G := ⟨P, fun _ => none, fun _ => none, fun _ _ _ => 0, fun _ => false, fun _ _ => false, fun _ _ _ _ _ => False, {}, fun _ _ _ => 0, fun _ _ => []⟩) (w := w) (isS := true) hc hlo hhi h
    have h1' : (Instr.sliceBounds true es.length cap lov hiv none).run P w = .ok (l, n, cap) w := h1
    have hrun : (Instr.slice t (.slice (some ⟨b, off, none⟩) es.length cap) lov hiv none).run P w = .ok (.slice (if cap = l then some ⟨b, off, none⟩ else some ⟨b, off + l * te.size, none⟩) (n - l) (cap - l)) w := by
      simp only [Instr.slice, Sem.run_bind, run_underlying hs.und, Result.andThen_ok, hsize, h1', Option.map_some, Addr.add_lit, Sem.run_pure]
    refine ⟨_, _, hrun, h2, ?_⟩
    have hlen : ((es.take n).drop l).length = n - l := by simp; omega
    by_cases hz : n - l = 0
    · rw [hz]
      have : (es.take n).drop l = [] := List.eq_nil_of_length_eq_zero (by omega)
      rw [this]
      exact .row0 _ _ (by intro h; split at h <;> cases h)
    · have hcl : cap ≠ l := by omega
      rw [if_neg hcl, ← hlen]
      have hte' : te.size = sz := by
        have h0 : es ≠ [] := by intro e; subst e; simp at h4; omega
        obtain ⟨x, xs, rfl⟩ := List.exists_cons_of_ne_nil h0
        rw [← hsz x (by simp), hsx 0 x rfl]
      subst hte'
      have hget : ∀ i e, ((es.take n).drop l)[i]? = some e → es[l + i]? = some e ∧ l + i < n := fun i e he => by
        rw [List.getElem?_drop, List.getElem?_take] at he
        split at he
        · exact ⟨he, by assumption⟩
        · cases he
      have hmul : ∀ j, j < ((es.take n).drop l).length * te.size → l * te.size + j < es.length * te.size := fun j hj => by
        rw [hlen] at hj
        have : (n - l) * te.size + l * te.size ≤ es.length * te.size := by rw [← Nat.add_mul]; exact Nat.mul_le_mul_right _ (by omega)
        omega
      refine .row _ b (off + l * te.size) (cap - l) te.size (fun j => u (l * te.size + j)) hsz' (by rw [hlen]; omega) (fun j hj => ?_) (fun j hj => h1x _ (hmul j hj)) (fun i e he => hsx _ _ (hget i e he).1) (fun i e j c he hc => ?_)
      · rw [Nat.add_assoc]; exact hI _ (hmul j hj)
      · have := hh _ _ j c (hget i e he).1 hc
        rw [Nat.add_mul, Nat.add_assoc] at this
        exact this

end
end Go.Proofs.YtccldchklemogaaW.AM
