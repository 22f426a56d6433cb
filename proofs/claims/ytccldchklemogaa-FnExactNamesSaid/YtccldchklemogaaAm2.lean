/- The abstract machine: objects that are made and turned. -/
import Derived.Test.YtccldchklemogaaAm1
set_option linter.unusedVariables false
set_option linter.unusedSimpArgs false
namespace Go.Proofs.YtccldchklemogaaW.AM
open Go Go.RowKit
variable {TT : Tab}

theorem WR.fresh {C : Cx TT} {hp w} (h : WR C hp w) (b j : Nat) (hb : w.heap.size ≤ b) : C.I b j = none := by
  cases e : C.I b j with
  | none => rfl
  | some v => have := block_lt_of_cell (h.inI b j v e); simp at this; omega
theorem WR.keep {C : Cx TT} {hp} {w w' : World} (h : WR C hp w) (hs : w.heap.size ≤ w'.heap.size) (hb : ∀ k, k < w.heap.size → w'.heap[k]? = w.heap[k]?) : WR C hp w' := by
  refine ⟨fun b j v hv => ?_, h.dom, fun id o ho => ?_, h.sep, fun id b hb' => Nat.lt_of_lt_of_le (h.lt id b hb') hs, h.inT, fun b n hh => ⟨(h.inZ b n hh).1.of (hb b (h.inZ b n hh).1.lt), (h.inZ b n hh).2⟩, fun id => (h.tr id).mono rfl rfl (fun b hb' => ⟨hb b (h.lt id b hb'), fun _ => rfl⟩) (Le.refl _).own⟩
  · have h1 := h.inI b j v hv
    have h2 := block_lt_of_cell h1
    rw [World.cell?_of_block (hb _ h2)]; exact h1
  · obtain ⟨l, hl, ho'⟩ := h.ob id o ho
    exact ⟨l, hl, ho'.mono (Le.refl _) fun b hb' => ⟨hb b (h.lt id b (by simp [blk, blkO, hl, hb'])), fun _ => rfl⟩⟩
theorem Stp.keep {C : Cx TT} {w w' : World} (hos : w'.os = w.os) (htape : w'.tape = w.tape) (hout : w'.output = w.output) (hs : w.heap.size ≤ w'.heap.size) (hb : ∀ k, k < w.heap.size → w'.heap[k]? = w.heap[k]?) : Stp C C w w' :=
  ⟨fun _ _ _ h => h, (Stp.refl C w).low, ⟨hos, htape, hout, hs, fun k hk _ => hb k hk, fun _ _ _ _ => rfl⟩, fun id b h => .inr ⟨id, h⟩⟩

theorem blk_of_box {C : Cx TT} {id b} (h : C.loc id = some (.box b)) (hno : ∀ k, ¬ C.ft id k) : blk C id = fun k => b = k := by funext k; simp [blk, blkO, h, Loc.blk, hno]
theorem blk_of_own {C : Cx TT} {id g sz v} (h : C.loc id = some (.own g sz v)) (hno : ∀ k, ¬ C.ft id k) : blk C id = fun k => v.ownBlock = some k := by funext k; simp [blk, blkO, h, Loc.blk, hno]

theorem new_box {C : Cx TT} {hp : Hp} {w : World} (h : WR C hp w) (id : Nat) (hid : hp id = none) (h16 : 16 ≤ id) (cs : List A0) (vs : List Value) (T : TypeId) (hr : FA (RepA C) cs vs) (h1 : ∀ u ∈ vs, u.oneCell' = true) :
    let C' := C.set id (.box w.heap.size)
    Le C C' ∧ WR C' (upd id (.box cs) hp) (w.alloc (.cells vs.toArray T)) ∧ Stp C C' w (w.alloc (.cells vs.toArray T)) := by
  intro C'
  have hl : Le C C' := Cx.set_le _ (h.dom id hid)
  have hold : ∀ k, k < w.heap.size → (w.alloc (.cells vs.toArray T)).heap[k]? = w.heap[k]? := fun k hk => heap_alloc_old w _ k hk
  refine ⟨hl, h.upd id (h.no_ft id (by simp [hid, treeish])) _ (.box w.heap.size) hl (fun j hj => Cx.set_ne _ _ _ _ hj) (Cx.set_same _ _ _) (fun b j v hv => ?_) (by simp) (fun j _ b hb => ⟨hold b (h.lt j b hb), fun _ => rfl⟩) ⟨T, vs, heap_alloc_new w _, fa_imp (fun _ _ h => h.mono hl) hr, h1, fun j => h.fresh _ _ (Nat.le_refl _)⟩ (fun j _ b hb e => ?_) (fun b hb => ?_) (fun k hk hn => ⟨hold k hk, fun e => by simp [Loc.blk] at e; omega⟩), ?_⟩
  · have h2 := h.inI b j v hv
    rw [World.cell?_of_block (hold _ (block_lt_of_cell h2))]; exact h2
  · have := h.lt j b hb; simp [Loc.blk] at e; omega
  · simp [Loc.blk] at hb; simp; omega
  · exact Stp.of hl id (h.no_ft id (by simp [hid, treeish])) (fun j hj => Cx.set_ne _ _ _ _ hj) (.inl h16) _ (Cx.set_same _ _ _) rfl rfl rfl (by simp) (fun k hk _ => ⟨hold k hk, fun _ => rfl⟩) fun b hb => by simp [Loc.blk] at hb; left; omega

theorem new_virt {C : Cx TT} {hp : Hp} {w : World} (h : WR C hp w) (id : Nat) (hid : hp id = none) (h16 : 16 ≤ id) (cs : List A0) (vs : List Value) (hr : FA (RepA C) cs vs) (h1 : ∀ u ∈ vs, u.oneCell' = true) :
    let C' := C.set id (.virt vs)
    Le C C' ∧ WR C' (upd id (.vbox cs) hp) w ∧ Stp C C' w w := by
  intro C'
  have hl : Le C C' := Cx.set_le _ (h.dom id hid)
  refine ⟨hl, h.upd id (h.no_ft id (by simp [hid, treeish])) _ (.virt vs) hl (fun j hj => Cx.set_ne _ _ _ _ hj) (Cx.set_same _ _ _) (fun b j v hv => h.inI b j v hv) (Nat.le_refl _) (fun j _ b hb => ⟨rfl, fun _ => rfl⟩) ⟨fa_imp (fun _ _ h => h.mono hl) hr, h1⟩ (fun j _ b hb e => by simp [Loc.blk] at e) (fun b hb => by simp [Loc.blk] at hb) (fun k hk hn => ⟨rfl, fun e => by simp [Loc.blk] at e⟩), ?_⟩
  exact Stp.of hl id (h.no_ft id (by simp [hid, treeish])) (fun j hj => Cx.set_ne _ _ _ _ hj) (.inl h16) _ (Cx.set_same _ _ _) rfl rfl rfl (Nat.le_refl _) (fun k hk _ => ⟨rfl, fun _ => rfl⟩) fun b hb => by simp [Loc.blk] at hb
theorem new_iter {C : Cx TT} {hp : Hp} {w : World} (h : WR C hp w) (id : Nat) (hid : hp id = none) (h16 : 16 ≤ id) (s : ByteArray) (p : Nat) :
    let C' := C.set id (.box w.heap.size)
    Le C C' ∧ WR C' (upd id (.iter s p) hp) (w.alloc (.stringIter s p)) ∧ Stp C C' w (w.alloc (.stringIter s p)) := by
  intro C'
  have hl : Le C C' := Cx.set_le _ (h.dom id hid)
  have hold : ∀ k, k < w.heap.size → (w.alloc (.stringIter s p)).heap[k]? = w.heap[k]? := fun k hk => heap_alloc_old w _ k hk
  refine ⟨hl, h.upd id (h.no_ft id (by simp [hid, treeish])) _ (.box w.heap.size) hl (fun j hj => Cx.set_ne _ _ _ _ hj) (Cx.set_same _ _ _) (fun b j v hv => ?_) (by simp) (fun j _ b hb => ⟨hold b (h.lt j b hb), fun _ => rfl⟩) ⟨heap_alloc_new w _, fun j => h.fresh _ _ (Nat.le_refl _)⟩ (fun j _ b hb e => ?_) (fun b hb => ?_) (fun k hk hn => ⟨hold k hk, fun e => by simp [Loc.blk] at e; omega⟩), ?_⟩
  · have h2 := h.inI b j v hv
    rw [World.cell?_of_block (hold _ (block_lt_of_cell h2))]; exact h2
  · have := h.lt j b hb; simp [Loc.blk] at e; omega
  · simp [Loc.blk] at hb; simp; omega
  · exact Stp.of hl id (h.no_ft id (by simp [hid, treeish])) (fun j hj => Cx.set_ne _ _ _ _ hj) (.inl h16) _ (Cx.set_same _ _ _) rfl rfl rfl (by simp) (fun k hk _ => ⟨hold k hk, fun _ => rfl⟩) fun b hb => by simp [Loc.blk] at hb; left; omega
theorem set_iter {C : Cx TT} {hp : Hp} {w w' : World} (h : WR C hp w) (id : Nat) (s : ByteArray) (p q b : Nat) (hid : hp id = some (.iter s p)) (hloc : C.loc id = some (.box b))
    (hnew : w'.heap[b]? = some (.stringIter s q)) (hg : w.grownBy w' (some b)) (hI : ∀ j, C.I b j = none) :
    WR C (upd id (.iter s q) hp) w' ∧ Stp C C w w' := by
  have hb0 : blk C id = fun k => b = k := blk_of_box hloc (h.no_ft id (by simp [hid, treeish]))
  have hlt := h.lt id b (by rw [hb0])
  have hold : ∀ k, k < w.heap.size → k ≠ b → w'.heap[k]? = w.heap[k]? := fun k hk hn => hg.block k hk fun e => hn (Option.some.inj e)
  refine ⟨h.upd id (h.no_ft id (by simp [hid, treeish])) _ (.box b) (Le.refl _) (fun _ _ => rfl) hloc (fun b' j u hu => ?_) hg.size (fun j hj b' hb => ⟨hold b' (h.lt j b' hb) fun e => hj (h.sep j id b' hb (by rw [hb0, e])), fun _ => rfl⟩) ⟨hnew, hI⟩ (fun j hj b' hb e => ?_) (fun b' hb => ?_) (fun k hk hn => ⟨hold k hk fun e => hn id (by rw [hb0, e]), fun e => hn id (by rw [hb0]; exact e)⟩), ?_⟩
  · have h2 := h.inI b' j u hu
    rw [World.cell?_of_block (hold _ (block_lt_of_cell h2) fun e => by simp at e; subst e; rw [hI] at hu; cases hu)]; exact h2
  · exact hj (h.sep j id b' hb (by rw [hb0]; exact e))
  · simp [Loc.blk] at hb; subst hb; exact Nat.lt_of_lt_of_le hlt hg.size
  · exact Stp.of (Le.refl _) id (h.no_ft id (by simp [hid, treeish])) (fun _ _ => rfl) (.inr (by rw [hloc]; simp)) _ hloc hg.os hg.tape hg.output hg.size (fun k hk hn => ⟨hold k hk fun e => hn (by rw [hb0, e]), fun _ => rfl⟩) fun b' hb => .inr (by rw [hb0]; exact hb)

theorem new_own {C : Cx TT} {hp : Hp} {w w' : World} (h : WR C hp w) (id : Nat) (hid : hp id = none) (h16 : 16 ≤ id) (e : TypeId) (sz g : Nat) (es : List VV) (pin : Bool) (v : Value) (xs : List Value) (hsz : 0 < sz)
    (hrow : w'.ownsRow 0 e sz v es.length xs) (hr : RowR C.I sz es xs) (hg : w.grownBy w' none) (hv : ∀ b, v.ownBlock = some b → w.heap.size ≤ b) :
    let C' := C.set id (.own g sz v)
    Le C C' ∧ WR C' (upd id (.own e sz es g pin) hp) w' ∧ Stp C C' w w' := by
  intro C'
  have hl : Le C C' := Cx.set_le _ (h.dom id hid)
  have hold : ∀ k, k < w.heap.size → w'.heap[k]? = w.heap[k]? := fun k hk => hg.block k hk (by simp)
  refine ⟨hl, h.upd id (h.no_ft id (by simp [hid, treeish])) _ (.own g sz v) hl (fun j hj => Cx.set_ne _ _ _ _ hj) (Cx.set_same _ _ _) (fun b j v hv => ?_) hg.size (fun j _ b hb => ⟨hold b (h.lt j b hb), fun _ => rfl⟩) ⟨rfl, rfl, hsz, xs, hrow, hr, fun b j u hb hu => ?_⟩ (fun j _ b hb e => ?_) (fun b hb => (hrow.lt b hb).2) (fun k hk hn => ⟨hold k hk, fun e => by have := hv k e; omega⟩), ?_⟩
  · have h2 := h.inI b j v hv
    rw [World.cell?_of_block (hold _ (block_lt_of_cell h2))]; exact h2
  · have := h.fresh b j (hv b hb); rw [show C'.I b j = C.I b j from rfl, this] at hu; cases hu
  · have := h.lt j b hb; have := hv b e; omega
  · exact Stp.of hl id (h.no_ft id (by simp [hid, treeish])) (fun j hj => Cx.set_ne _ _ _ _ hj) (.inl h16) _ (Cx.set_same _ _ _) hg.os hg.tape hg.output hg.size (fun k hk _ => ⟨hold k hk, fun _ => rfl⟩) fun b hb => .inl (hv b hb)

/-- A row of the call's own goes on: its next state may lie where it lay or anew. -/
theorem next_own {C : Cx TT} {hp : Hp} {w w' : World} (h : WR C hp w) (id : Nat) (e : TypeId) (sz g g' : Nat) (es es' : List VV) (pin pin' : Bool) (v v' : Value) (xs xs' : List Value) (hid : hp id = some (.own e sz es g pin)) (hloc : C.loc id = some (.own g sz v))
    (hsz : 0 < sz) (hgg : g ≤ g') (hvv : g = g' → v = v')
    (hrow' : w'.ownsRow 0 e sz v' es'.length xs') (hr' : RowR C.I sz es' xs') (hg : w.grownBy w' v.ownBlock) (hv : ∀ b, v'.ownBlock = some b → w.heap.size ≤ b ∨ v.ownBlock = some b)
    (hI : ∀ b j u, v.ownBlock = some b → C.I b j = some u → w'.cell? ⟨b, j, none⟩ = some u) (hpin : ∀ b j u, v'.ownBlock = some b → C.I b j = some u → pin' = true ∧ j < es'.length * sz) :
    let C' := C.set id (.own g' sz v')
    Le C C' ∧ WR C' (upd id (.own e sz es' g' pin') hp) w' ∧ Stp C C' w w' := by
  intro C'
  have hb0 : blk C id = fun k => v.ownBlock = some k := blk_of_own hloc (h.no_ft id (by simp [hid, treeish]))
  have hl : Le C C' := by
    refine ⟨fun _ _ _ h => h, fun j b hj => ?_, fun j g0 s0 v0 hj => ?_, fun j vs hj => ?_⟩
    · by_cases e : j = id
      · subst e; rw [hloc] at hj; cases hj
      · rw [show C'.loc j = C.loc j from Cx.set_ne _ _ _ _ e]; exact hj
    · by_cases e : j = id
      · subst e; rw [hloc] at hj; cases hj; exact ⟨g', v', Cx.set_same _ _ _, hgg, hvv⟩
      · exact ⟨g0, v0, by rw [show C'.loc j = C.loc j from Cx.set_ne _ _ _ _ e]; exact hj, Nat.le_refl _, fun _ => rfl⟩
    · by_cases e : j = id
      · subst e; rw [hloc] at hj; cases hj
      · rw [show C'.loc j = C.loc j from Cx.set_ne _ _ _ _ e]; exact hj
  have hold : ∀ k, k < w.heap.size → v.ownBlock ≠ some k → w'.heap[k]? = w.heap[k]? := fun k hk hn => hg.block k hk fun e => hn e.symm
  refine ⟨hl, h.upd id (h.no_ft id (by simp [hid, treeish])) _ (.own g' sz v') hl (fun j hj => Cx.set_ne _ _ _ _ hj) (Cx.set_same _ _ _) (fun b j u hu => ?_) hg.size (fun j hj b hb => ⟨hold b (h.lt j b hb) fun e => hj (h.sep j id b hb (by rw [hb0]; exact e)), fun _ => rfl⟩) ⟨rfl, rfl, hsz, xs', hrow', hr', hpin⟩ (fun j hj b hb e => ?_) (fun b hb => (hrow'.lt b hb).2) (fun k hk hn => ⟨hold k hk fun e => hn id (by rw [hb0]; exact e), fun e => by
    rcases hv k e with h1 | h1
    · omega
    · exact hn id (by rw [hb0]; exact h1)⟩), ?_⟩
  · have h2 := h.inI b j u hu
    by_cases e : v.ownBlock = some b
    · exact hI b j u e hu
    · rw [World.cell?_of_block (hold _ (block_lt_of_cell h2) e)]; exact h2
  · rcases hv b e with h1 | h1
    · have := h.lt j b hb; omega
    · exact hj (h.sep j id b hb (by rw [hb0]; exact h1))
  · exact Stp.of hl id (h.no_ft id (by simp [hid, treeish])) (fun j hj => Cx.set_ne _ _ _ _ hj) (.inr (by rw [hloc]; simp)) _ (Cx.set_same _ _ _) hg.os hg.tape hg.output hg.size (fun k hk hn => ⟨hold k hk (fun e => hn (by rw [hb0]; exact e)), fun _ => rfl⟩) fun b hb => by rw [hb0]; exact hv b hb

/-- A box is written. -/
theorem set_box {C : Cx TT} {hp : Hp} {w w' : World} (h : WR C hp w) (id : Nat) (cs cs' : List A0) (b T : Nat) (vs' : List Value) (hid : hp id = some (.box cs)) (hloc : C.loc id = some (.box b))
    (hnew : w'.heap[b]? = some (.cells vs'.toArray T (0, 0))) (hr : FA (RepA C) cs' vs') (h1 : ∀ u ∈ vs', u.oneCell' = true) (hg : w.grownBy w' (some b)) (hI : ∀ j, C.I b j = none) :
    WR C (upd id (.box cs') hp) w' ∧ Stp C C w w' := by
  have hb0 : blk C id = fun k => b = k := blk_of_box hloc (h.no_ft id (by simp [hid, treeish]))
  have hlt := h.lt id b (by rw [hb0])
  have hold : ∀ k, k < w.heap.size → k ≠ b → w'.heap[k]? = w.heap[k]? := fun k hk hn => hg.block k hk fun e => hn (Option.some.inj e)
  refine ⟨h.upd id (h.no_ft id (by simp [hid, treeish])) _ (.box b) (Le.refl _) (fun _ _ => rfl) hloc (fun b' j u hu => ?_) hg.size (fun j hj b' hb => ⟨hold b' (h.lt j b' hb) fun e => hj (h.sep j id b' hb (by rw [hb0, e])), fun _ => rfl⟩) ⟨T, vs', hnew, hr, h1, hI⟩ (fun j hj b' hb e => ?_) (fun b' hb => ?_) (fun k hk hn => ⟨hold k hk fun e => hn id (by rw [hb0, e]), fun e => hn id (by rw [hb0]; exact e)⟩), ?_⟩
  · have h2 := h.inI b' j u hu
    rw [World.cell?_of_block (hold _ (block_lt_of_cell h2) fun e => by simp at e; subst e; rw [hI] at hu; cases hu)]; exact h2
  · exact hj (h.sep j id b' hb (by rw [hb0]; exact e))
  · simp [Loc.blk] at hb; subst hb; exact Nat.lt_of_lt_of_le hlt hg.size
  · exact Stp.of (Le.refl _) id (h.no_ft id (by simp [hid, treeish])) (fun _ _ => rfl) (.inr (by rw [hloc]; simp)) _ hloc hg.os hg.tape hg.output hg.size (fun k hk hn => ⟨hold k hk fun e => hn (by rw [hb0, e]), fun _ => rfl⟩) fun b' hb => .inr (by rw [hb0]; exact hb)

/-- A row of the call's own is told to stand. -/
theorem pin_own {C : Cx TT} {hp : Hp} {w : World} (h : WR C hp w) (id : Nat) (e : TypeId) (sz g : Nat) (es : List VV) (pin : Bool) (hid : hp id = some (.own e sz es g pin)) :
    ∃ C' v, C.loc id = some (.own g sz v) ∧ RepV C'.I (.row es) v ∧ Le C C' ∧ WR C' (upd id (.own e sz es g true) hp) w ∧ Stp C C' w w := by
  obtain ⟨l, hloc, ho⟩ := h.ob id _ hid
  cases l with
  | virt _ => exact ho.elim
  | box b => exact ho.elim
  | own g' sz' v =>
    obtain ⟨rfl, rfl, hsz, xs, hrow, hr, hpin⟩ := ho
    rcases hrow.2 with ⟨hv, hn⟩ | ⟨b, cap, cur, hv, _, hb, hnc, hcm, hcs, htake⟩
    · subst hv
      have he : es = [] := List.eq_nil_of_length_eq_zero hn
      subst he
      refine ⟨C, _, hloc, .row0 _ _ (fun _ => rfl), Le.refl _, ?_, Stp.refl _ _⟩
      refine h.upd id (h.no_ft id (by simp [hid, treeish])) _ (.own g sz _) (Le.refl _) (fun _ _ => rfl) hloc h.inI (Nat.le_refl _) (fun _ _ _ _ => ⟨rfl, fun _ => rfl⟩) ⟨rfl, rfl, hsz, xs, hrow, hr, fun b j u hb hu => ?_⟩ (fun j hj b hb e => ?_) (fun b hb => ?_) (fun k hk hn => ⟨rfl, fun e => hn id (by rw [blk_of_own hloc (h.no_ft id (by simp [hid, treeish]))]; exact e)⟩)
      · simp [Value.ownBlock] at hb
      · simp [Loc.blk, Value.ownBlock] at e
      · simp [Loc.blk, Value.ownBlock] at hb
    · subst hv
      have hb0 : blk C id b := by rw [blk_of_own hloc (h.no_ft id (by simp [hid, treeish]))]; rfl
      have hxl : xs.length = es.length * sz := hrow.1
      have hcell : ∀ j u, xs[j]? = some u → w.cell? ⟨b, j, none⟩ = some u := fun j u hu => by
        have hj : j < es.length * sz := by rw [← hxl]; exact (List.getElem?_eq_some_iff.1 hu).1
        rw [hrow.cellAt j hj, hu]
      let C' : Cx TT := { C with I := fun k j => if k = b ∧ j < xs.length then xs[j]? else C.I k j }
      have hI : ∀ k j u, C.I k j = some u → C'.I k j = some u := fun k j u hu => by
        by_cases hk : k = b ∧ j < xs.length
        · obtain ⟨rfl, hj⟩ := hk
          have h1 := h.inI _ _ _ hu
          have h2 := hcell j xs[j] (by simp [hj])
          show (if _ then _ else _) = _
          rw [if_pos ⟨rfl, hj⟩]
          rw [h1] at h2; simp [hj]; exact (Option.some.inj h2).symm
        · show (if _ then _ else _) = _
          rw [if_neg hk]; exact hu
      have hl : Le C C' := ⟨hI, fun _ _ h => h, fun _ g _ v h => ⟨g, v, h, Nat.le_refl _, fun _ => rfl⟩, fun _ _ h => h⟩
      have hother : ∀ j, j ≠ id → ∀ k, blk C j k → ∀ i, C'.I k i = C.I k i := fun j hj k hk i => by
        have : k ≠ b := fun e => hj (h.sep j id k hk (by rw [e]; exact hb0))
        show (if _ then _ else _) = _
        rw [if_neg (fun e => this e.1)]
      refine ⟨C', _, hloc, ?_, hl, ?_, ?_⟩
      · refine .row es b 0 cap sz (fun j => xs.getD j undef) hsz hnc (fun j hj => ?_) (fun j hj => ?_) (fun i x hx => (hr.2 i x hx).1) (fun i x j c hx hc => ?_)
        · show (if _ then _ else _) = _
          rw [if_pos ⟨rfl, by omega⟩]
          have : j < xs.length := by omega
          simp [List.getD, this]
        · have hj' : j < xs.length := by omega
          refine hr.1 _ ?_
          simp [List.getD, hj']
        · obtain ⟨u, hu, hru⟩ := (hr.2 i x hx).2 j c hc
          simp only [List.getD, hu, Option.getD_some]
          exact hru.mono hI
      · refine h.upd id (h.no_ft id (by simp [hid, treeish])) _ (.own g sz _) hl (fun _ _ => rfl) hloc (fun k j u hu => ?_) (Nat.le_refl _) (fun j hj k hk => ⟨rfl, hother j hj k hk⟩) ⟨rfl, rfl, hsz, xs, hrow, hr.mono hI, fun k j u hk hu => ⟨rfl, ?_⟩⟩ (fun j hj k hk e => ?_) (fun k hk => h.lt id k (by rw [blk_of_own hloc (h.no_ft id (by simp [hid, treeish]))]; exact hk)) (fun k hk hn => ⟨rfl, fun e => hn id (by rw [blk_of_own hloc (h.no_ft id (by simp [hid, treeish]))]; exact e)⟩)
        · by_cases hk : k = b ∧ j < xs.length
          · obtain ⟨rfl, hj⟩ := hk
            have : C'.I k j = xs[j]? := if_pos ⟨rfl, hj⟩
            rw [this] at hu
            exact hcell j u hu
          · have : C'.I k j = C.I k j := if_neg hk
            rw [this] at hu
            exact h.inI _ _ _ hu
        · by_cases hk' : k = b ∧ j < xs.length
          · omega
          · have : C'.I k j = C.I k j := if_neg hk'
            rw [this] at hu
            exact (hpin k j u hk hu).2
        · have e' : blk C id k := by rw [blk_of_own hloc (h.no_ft id (by simp [hid, treeish]))]; exact e
          exact hj (h.sep j id k hk e')
      · refine ⟨hI, (Stp.refl C w).low, ⟨rfl, rfl, rfl, Nat.le_refl _, fun _ _ _ => rfl, fun k j hk hs => ?_⟩, fun j k hk => .inr ⟨j, hk⟩⟩
        have : k ≠ b := fun e => hs ⟨id, by rw [e]; exact hb0⟩
        show (if _ then _ else _) = _
        rw [if_neg (fun e => this e.1)]

end Go.Proofs.YtccldchklemogaaW.AM
