/- Trees: what may be done with them in memory. -/
import Derived.Test.YtccldchklemogaaAm2
set_option linter.unusedVariables false
set_option linter.unusedSimpArgs false
namespace Go.Proofs.YtccldchklemogaaW.AM
open Go Go.RowKit
variable {TT : Tab}

/-- A tree's row and what its cells are. -/
theorem RepT.rowOf {ty : Nat → Nat → Nat} {w : World} {T sz : Nat} {es : List VV} {v : Value} {F : Nat → Prop} {xs : List Value} (h : RepT ty w T (.row es) v F) (hrow : w.ownsRow 0 T sz v es.length xs) (hz : 0 < sz) :
    (∀ e ∈ es, e.cells.length = sz) ∧ (∀ u ∈ xs, u.oneCell' = true) ∧ ∃ P : Nat → Nat → Prop, (∀ (i : Nat) c u, (flatC es)[i]? = some c → xs[i]? = some u → RepT ty w (ty T (i % sz)) c u (P i)) ∧ (∀ i k, P i k → i < es.length * sz ∧ F k ∧ v.ownBlock ≠ some k) ∧ (∀ i j k, P i k → P j k → i = j) ∧ ∀ k, F k → v.ownBlock = some k ∨ ∃ i, P i k := by
  cases h with
  | row0 T F hF =>
    have hx : xs = [] := List.eq_nil_of_length_eq_zero (by rw [hrow.1]; simp)
    subst hx
    exact ⟨by simp, by simp, fun _ _ => False, fun i c u h => by simp [flatC] at h, fun _ _ h => h.elim, fun _ _ _ h => h.elim, fun k hk => absurd hk (hF k)⟩
  | row es b cap T sz1 cur P F hz1 hzt hbb hn hm hs hsz h1 hh hP hd hF =>
    rcases hrow.2 with ⟨e1, _⟩ | ⟨b2, cap2, cur2, e1, _, hb2, hn2, hm2, hs2, htk⟩
    · cases e1
    · cases e1
      rw [hbb] at hb2; cases hb2
      by_cases he : es = []
      · subst he
        have hx : xs = [] := List.eq_nil_of_length_eq_zero (by rw [hrow.1]; simp)
        subst hx
        exact ⟨by simp, by simp, fun _ _ => False, fun i c u h => by simp [flatC] at h, fun _ _ h => h.elim, fun _ _ _ h => h.elim, fun k hk => by
          rcases (hF k).1 hk with rfl | ⟨i, hi, _⟩
          · exact .inl rfl
          · simp at hi⟩
      · have hpos : 0 < es.length := List.length_pos_iff.2 he
        have hszz : sz1 = sz := by
          have h3 : cap * sz1 = cap * sz := by rw [← hs, hs2]
          exact Nat.eq_of_mul_eq_mul_left (by omega) h3
        subst hszz
        have hget : ∀ i u, xs[i]? = some u → i < es.length * sz1 ∧ cur.getD i undef = u := fun i u hu => by
          refine ⟨by rw [← hrow.1]; exact (List.getElem?_eq_some_iff.1 hu).1, ?_⟩
          rw [← htk, List.getElem?_take] at hu
          split at hu
          · simp at hu; simp [Array.getD_eq_getD_getElem?, hu]
          · cases hu
        refine ⟨hsz, fun u hu => ?_, fun i k => i < es.length * sz1 ∧ P i k, fun i c u hc hu => ?_, fun i k ⟨hi, hk⟩ => ⟨hi, (hF k).2 (.inr ⟨i, hi, hk⟩), fun e1 => ?_⟩, fun i j k ⟨hi, hk⟩ ⟨hj, hk2⟩ => hd i j k hi hj hk hk2, fun k hk => ?_⟩
        · obtain ⟨i, hi⟩ := List.mem_iff_getElem?.1 hu
          obtain ⟨h3, h4⟩ := hget i u hi
          rw [← h4]; exact h1 i h3
        · obtain ⟨h3, h4⟩ := hget i u hu
          have h5 := hh i c hc
          rw [h4] at h5
          have e : P i = fun k => i < es.length * sz1 ∧ P i k := funext fun k => propext ⟨fun h => ⟨h3, h⟩, fun h => h.2⟩
          rw [e] at h5; exact h5
        · simp [Value.ownBlock] at e1; subst e1; exact hP i hi hk
        · rcases (hF k).1 hk with rfl | ⟨i, hi, hp⟩
          · exact .inl rfl
          · exact .inr ⟨i, hi, hp⟩
theorem get_flat {sz : Nat} : ∀ {es : List VV}, (∀ e ∈ es, e.cells.length = sz) → ∀ {i j : Nat} {e c : VV}, es[i]? = some e → e.cells[j]? = some c → (flatC es)[i * sz + j]? = some c := fun h _ _ _ _ => flat_get h

open Classical in
/-- A tree is told to stand: from now on it is a value, and its object a row that stands. -/
theorem pin_tree {C : Cx TT} {hp : Hp} {w : World} (h : WR C hp w) (id : Nat) (e : TypeId) (sz g : Nat) (es : List VV) (hid : hp id = some (.tree e sz es g)) :
    ∃ C' v, C.loc id = some (.own g sz v) ∧ v.oneCell' = true ∧ RepV C'.I (.row es) v ∧ Le C C' ∧ WR C' (upd id (.own e sz es g true) hp) w ∧ Stp C C' w w := by
  have ht := h.tr id
  rw [hid] at ht
  obtain ⟨v, hloc, hrep, hI0⟩ := ht
  obtain ⟨l, hl, hob⟩ := h.ob id _ hid
  rw [hloc] at hl; cases hl
  obtain ⟨_, _, hsz, xs, hrow⟩ := hob
  obtain ⟨hsz1, hone, P, hP1, hP2, hP3, hP4⟩ := hrep.rowOf hrow hsz
  let C' : Cx TT := { I := fun k j => if blk C id k ∧ (v.ownBlock = some k → j < es.length * sz) then w.cell? ⟨k, j, none⟩ else C.I k j, loc := C.loc, ft := fun j => if j = id then fun _ => False else C.ft j }
  have hI1 : ∀ k j, blk C id k → (v.ownBlock = some k → j < es.length * sz) → C'.I k j = w.cell? ⟨k, j, none⟩ := fun k j hk hj => if_pos ⟨hk, hj⟩
  have hI2 : ∀ k j, ¬ (blk C id k ∧ (v.ownBlock = some k → j < es.length * sz)) → C'.I k j = C.I k j := fun k j hk => if_neg hk
  have hI : ∀ k j u, C.I k j = some u → C'.I k j = some u := fun k j u hu => by
    by_cases hk : blk C id k
    · rw [hI0 k j hk] at hu; cases hu
    · rw [hI2 k j fun e => hk e.1]; exact hu
  have hf1 : C'.ft id = fun _ => False := if_pos rfl
  have hf2 : ∀ j, j ≠ id → C'.ft j = C.ft j := fun j hj => if_neg hj
  have hvb : ∀ k, v.ownBlock = some k → blk C id k := fun k hk => .inl (by rw [hloc]; exact hk)
  have hb1 : ∀ k, blk C' id k → v.ownBlock = some k := fun k hk => by
    rcases hk with hk | hk
    · rw [show C'.loc id = C.loc id from rfl, hloc] at hk; exact hk
    · rw [hf1] at hk; exact hk.elim
  have hb2 : ∀ j, j ≠ id → blk C' j = blk C j := fun j hj => by funext k; simp only [blk, show C'.loc j = C.loc j from rfl, hf2 j hj]
  have hle : Le C C' := ⟨hI, fun _ _ h => h, fun _ g _ v h => ⟨g, v, h, Nat.le_refl _, fun _ => rfl⟩, fun _ _ h => h⟩
  have hrr : RowR C'.I sz es xs := by
    refine ⟨hone, fun i e he => ⟨hsz1 e (List.mem_iff_getElem?.2 ⟨i, he⟩), fun j c hc => ?_⟩⟩
    have hc' := flat_get hsz1 he hc
    have hlt : i * sz + j < xs.length := by rw [hrow.1, ← flatC_len hsz1]; exact (List.getElem?_eq_some_iff.1 hc').1
    refine ⟨xs[i * sz + j], List.getElem?_eq_getElem hlt, ?_⟩
    refine (hP1 _ c _ hc' (List.getElem?_eq_getElem hlt)).repV fun k hk q u hq => ?_
    obtain ⟨_, h3, h4⟩ := hP2 _ k hk
    rw [hI1 k q h3 fun e2 => absurd e2 h4]; exact hq
  have hrv : RepV C'.I (.row es) v := by
    rcases hrow.2 with ⟨e1, h0⟩ | ⟨b, cap, cur, rfl, _, hbb, hn, hm, hs, htk⟩
    · subst e1
      have : es = [] := List.eq_nil_of_length_eq_zero h0
      subst this
      exact .row0 _ _ fun _ => rfl
    · refine .row es b 0 cap sz (fun j => xs.getD j undef) hsz hn (fun j hj => ?_) (fun j hj => ?_) (fun i x hx => (hrr.2 i x hx).1) (fun i x j c hx hc => ?_)
      · have hj' : j < xs.length := by rw [hrow.1]; exact hj
        rw [Nat.zero_add, hI1 b j (hvb b rfl) fun _ => hj, hrow.cellAt j hj]
        simp [List.getD, hj']
      · have hj' : j < xs.length := by rw [hrow.1]; exact hj
        refine hone _ ?_
        simp [List.getD, hj']
      · obtain ⟨u, hu, hru⟩ := (hrr.2 i x hx).2 j c hc
        simp only [List.getD, hu, Option.getD_some]
        exact hru
  refine ⟨C', v, hloc, hrep.one, hrv, hle, ?_, ?_⟩
  · refine h.updT id _ (.own g sz v) hle (fun _ _ => rfl) hf2 hloc (fun b j u hu => ?_) (Nat.le_refl _) (fun j hj b hb => ⟨rfl, fun k => hI2 b k fun hk => hj (h.sep j id b hb hk.1)⟩) ⟨rfl, rfl, hsz, xs, hrow, hrr, fun b j u hb hu => ⟨rfl, ?_⟩⟩ (fun k => by rw [hf1]; exact fun h => h) (fun j hj b hb hb' => hj (h.sep j id b hb (hvb b (hb1 b hb')))) (fun b hb => h.lt id b (hvb b (hb1 b hb))) (fun b _ _ _ hn => ⟨rfl, fun hb => hn id (hvb b (hb1 b hb))⟩)
    · by_cases hk : blk C id b ∧ (v.ownBlock = some b → j < es.length * sz)
      · rw [hI1 b j hk.1 hk.2] at hu; exact hu
      · rw [hI2 b j hk] at hu; exact h.inI b j u hu
    · by_cases hk : blk C id b ∧ (v.ownBlock = some b → j < es.length * sz)
      · exact hk.2 hb
      · rw [hI2 b j hk, hI0 b j (hvb b hb)] at hu; cases hu
  · exact ⟨hI, (Stp.refl C w).low, ⟨rfl, rfl, rfl, Nat.le_refl _, fun _ _ _ => rfl, fun k j hk hs => hI2 k j fun hb => hs ⟨id, hb.1⟩⟩, fun j b hb => by
      by_cases e : j = id
      · subst e; exact .inr ⟨j, hvb b (hb1 b hb)⟩
      · rw [hb2 j e] at hb; exact .inr ⟨j, hb⟩⟩
theorem RepT.plain {ty : Nat → Nat → Nat} {w : World} {I : Nat → Nat → Option Value} {T : Nat} {v : VV} {x : Value} {F : Nat → Prop} (h : RepT ty w T v x F) (hp : plainV v = true) : RepV I v x := by
  cases h <;> first | (cases hp; done) | constructor
/-- A cell of a tree. -/
theorem RepT.cell {ty : Nat → Nat → Nat} {w : World} {T : Nat} {es : List VV} {x : Value} {F : Nat → Prop} (h : RepT ty w T (.row es) x F) {i j : Nat} {e c : VV} (he : es[i]? = some e) (hc : e.cells[j]? = some c) :
    ∃ b cap sz u G, x = .slice (some ⟨b, 0, none⟩) es.length cap ∧ F b ∧ e.cells.length = sz ∧ w.cell? ⟨b, i * sz + j, none⟩ = some u ∧ u.oneCell' = true ∧ RepT ty w (ty T ((i * sz + j) % sz)) c u G := by
  cases h with
  | row0 T F hF => simp at he
  | row es b cap T sz cur P F hz hzt hbb hn hm hs hsz h1 hh hP hd hF =>
    have hc' := flat_get hsz he hc
    have hlt : i * sz + j < es.length * sz := by rw [← flatC_len hsz]; exact (List.getElem?_eq_some_iff.1 hc').1
    have hcs : i * sz + j < cur.size := by
      have := Nat.mul_le_mul_right sz hn
      omega
    exact ⟨b, cap, sz, _, _, rfl, (hF b).2 (.inl rfl), hsz e (List.mem_iff_getElem?.2 ⟨i, he⟩), by simp [World.cell?, hbb, Array.getD, hcs], h1 _ hlt, hh _ c hc'⟩
/-- A tree is taken out of its object: nobody has its blocks; the object is a tree of nothing, one generation on. -/
theorem take_tree' {C : Cx TT} {hp : Hp} {w : World} (h : WR C hp w) (id : Nat) (e : TypeId) (sz g : Nat) (es : List VV) (hid : hp id = some (.tree e sz es g)) :
    ∃ C' v, C.loc id = some (.own g sz v) ∧ RepT TT.ty w e (.row es) v (blk C id) ∧ (∀ k j, blk C id k → ¬ blk C' j k) ∧ C'.I = C.I ∧ (∀ k j, blk C id k → C.I k j = none) ∧ (∀ j b, blk C' j b → blk C j b) ∧ Le C C' ∧ WR C' (upd id (.tree e sz [] (g + 1)) hp) w ∧ Stp C C' w w ∧ (∀ q, q ≠ id → C'.loc q = C.loc q ∧ C'.ft q = C.ft q) ∧ C'.loc id = some (.own (g + 1) sz (.slice none 0 0)) ∧ ∀ k, ¬ C'.ft id k := by
  have ht := h.tr id
  rw [hid] at ht
  obtain ⟨v, hloc, hrep, hI0⟩ := ht
  obtain ⟨l, hl, hob⟩ := h.ob id _ hid
  rw [hloc] at hl; cases hl
  obtain ⟨_, _, hsz, _⟩ := hob
  let C' : Cx TT := { I := C.I, loc := fun j => if j = id then some (.own (g + 1) sz (.slice none 0 0)) else C.loc j, ft := fun j => if j = id then fun _ => False else C.ft j }
  have hl1 : C'.loc id = some (.own (g + 1) sz (.slice none 0 0)) := if_pos rfl
  have hl2 : ∀ j, j ≠ id → C'.loc j = C.loc j := fun j hj => if_neg hj
  have hf1 : C'.ft id = fun _ => False := if_pos rfl
  have hf2 : ∀ j, j ≠ id → C'.ft j = C.ft j := fun j hj => if_neg hj
  have hb1 : ∀ k, ¬ blk C' id k := fun k hk => by
    rcases hk with hk | hk
    · rw [hl1] at hk; cases hk
    · rw [hf1] at hk; exact hk
  have hb2 : ∀ j, j ≠ id → blk C' j = blk C j := fun j hj => by funext k; simp only [blk, hl2 j hj, hf2 j hj]
  have hle : Le C C' := by
    refine ⟨fun _ _ _ h => h, fun j b hj => ?_, fun j g0 s0 v0 hj => ?_, fun j vs hj => ?_⟩
    · by_cases e : j = id
      · subst e; rw [hloc] at hj; cases hj
      · rw [hl2 j e]; exact hj
    · by_cases e : j = id
      · subst e; rw [hloc] at hj; cases hj; exact ⟨g + 1, _, hl1, by omega, fun e => by omega⟩
      · exact ⟨g0, v0, by rw [hl2 j e]; exact hj, Nat.le_refl _, fun _ => rfl⟩
    · by_cases e : j = id
      · subst e; rw [hloc] at hj; cases hj
      · rw [hl2 j e]; exact hj
  refine ⟨C', v, hloc, hrep, fun k j hk hb => ?_, rfl, hI0, fun j b hb => ?_, hle, ?_, ?_, fun q hq => ⟨hl2 q hq, hf2 q hq⟩, hl1, fun k => by rw [hf1]; exact fun h => h⟩
  · by_cases e : j = id
    · subst e; exact hb1 k hb
    · rw [hb2 j e] at hb; exact e (h.sep j id k hb hk)
  · by_cases e : j = id
    · subst e; exact absurd hb (hb1 b)
    · rw [hb2 j e] at hb; exact hb
  · exact h.updT id _ (.own (g + 1) sz (.slice none 0 0)) hle hl2 hf2 hl1 h.inI (Nat.le_refl _) (fun j hj b hb => ⟨rfl, fun k => rfl⟩) ⟨rfl, rfl, hsz, [], World.ownsRow_nil w 0 e sz⟩ ⟨_, hl1, .row0 _ _ hb1, fun k j hk => absurd hk (hb1 k)⟩ (fun j hj b _ hb => hb1 b hb) (fun b hb => absurd hb (hb1 b)) (fun b _ _ _ _ => ⟨rfl, hb1 b⟩)
  · refine ⟨fun _ _ _ h => h, fun j hj => ?_, ⟨rfl, rfl, rfl, Nat.le_refl _, fun _ _ _ => rfl, fun k j hk hs => rfl⟩, fun j b hb => ?_⟩
    · by_cases e : j = id
      · subst e; exact .inr (.inr (.inl ⟨g, sz, v, g + 1, _, hloc, hl1, by omega, fun e => by omega⟩))
      · rw [hl2 j e]; exact (Stp.refl C w).low j hj
    · by_cases e : j = id
      · subst e; exact absurd hb (hb1 b)
      · rw [hb2 j e] at hb; exact .inr ⟨j, hb⟩
theorem take_tree {C : Cx TT} {hp : Hp} {w : World} (h : WR C hp w) (id : Nat) (e : TypeId) (sz g : Nat) (es : List VV) (hid : hp id = some (.tree e sz es g)) :
    ∃ C' v, C.loc id = some (.own g sz v) ∧ RepT TT.ty w e (.row es) v (blk C id) ∧ (∀ k j, blk C id k → ¬ blk C' j k) ∧ C'.I = C.I ∧ (∀ k j, blk C id k → C.I k j = none) ∧ (∀ j b, blk C' j b → blk C j b) ∧ Le C C' ∧ WR C' (upd id (.tree e sz [] (g + 1)) hp) w ∧ Stp C C' w w :=
  let ⟨C', v, h1, h2, h3, h4, h5, h6, h7, h8, h9, _⟩ := take_tree' h id e sz g es hid
  ⟨C', v, h1, h2, h3, h4, h5, h6, h7, h8, h9⟩
theorem RepT.ofPlain {I : Nat → Nat → Option Value} (ty : Nat → Nat → Nat) (w : World) (T : Nat) {v : VV} {x : Value} (h : RepV I v x) (hp : plainV v = true) : RepT ty w T v x (fun _ => False) := by
  cases h <;> first | (cases hp; done) | (constructor; exact fun _ h => h)
theorem RepT.nil (ty : Nat → Nat → Nat) (w : World) (T : Nat) : RepT ty w T (.row []) (.slice none 0 0) (fun _ => False) := .row0 _ _ fun _ h => h
/-- What lies there agrees with what is told. -/
def tyOk (t : Option Nat) (T : Nat) : Prop := ∀ e, t = some e → e = T
theorem takeL_sound : ∀ (cs : List A0) {C : Cx TT} {hp : Hp} {w : World} (_ : WR C hp w) {xs : List Value} (_ : FA (RepA C) cs xs) {K : List VV → List (Option Nat) → Hp → Prop} (_ : takeL cs hp K),
    ∃ (C' : Cx TT) (hp' : Hp) (vs : List VV) (ts : List (Option Nat)) (P : Nat → Nat → Prop), K vs ts hp' ∧ vs.length = xs.length ∧ ts.length = xs.length ∧ (∀ (i : Nat) c u, vs[i]? = some c → xs[i]? = some u → ∀ T, (∀ t, ts[i]? = some t → tyOk t T) → RepT TT.ty w T c u (P i)) ∧
      (∀ i k, P i k → i < xs.length ∧ k < w.heap.size ∧ (∀ j, ¬ blk C' j k) ∧ (∀ j, C'.I k j = none) ∧ ∃ j, blk C j k) ∧ (∀ i j k, P i k → P j k → i = j) ∧ C'.I = C.I ∧ (∀ j b, blk C' j b → blk C j b) ∧ Le C C' ∧ WR C' hp' w ∧ Stp C C' w w
  | [], C, hp, w, hw, xs, hr, K, h => by
    cases hr
    exact ⟨C, hp, [], [], fun _ _ => False, h, rfl, rfl, fun i c u h => by simp at h, fun _ _ h => h.elim, fun _ _ _ h => h.elim, rfl, fun _ _ h => h, Le.refl _, hw, Stp.refl _ _⟩
  | a :: l, C, hp, w, hw, xs, hr, K, h => by
    cases hr with
    | cons hab t =>
      rename_i x xs
      have plain : ∀ (v : VV), (∀ T, RepT TT.ty w T v x (fun _ => False)) → takeL l hp (fun vs ts hp' => K (v :: vs) (none :: ts) hp') → ∃ (C' : Cx TT) (hp' : Hp) (vs : List VV) (ts : List (Option Nat)) (P : Nat → Nat → Prop), K vs ts hp' ∧ vs.length = (x :: xs).length ∧ ts.length = (x :: xs).length ∧ (∀ (i : Nat) c u, vs[i]? = some c → (x :: xs)[i]? = some u → ∀ T, (∀ t, ts[i]? = some t → tyOk t T) → RepT TT.ty w T c u (P i)) ∧
          (∀ i k, P i k → i < (x :: xs).length ∧ k < w.heap.size ∧ (∀ j, ¬ blk C' j k) ∧ (∀ j, C'.I k j = none) ∧ ∃ j, blk C j k) ∧ (∀ i j k, P i k → P j k → i = j) ∧ C'.I = C.I ∧ (∀ j b, blk C' j b → blk C j b) ∧ Le C C' ∧ WR C' hp' w ∧ Stp C C' w w := fun v hv h => by
        obtain ⟨C', hp', vs, ts, P, q1, q2, q2t, q3, q4, q5, q6, q7, q8, q9, q10⟩ := takeL_sound l hw t h
        refine ⟨C', hp', v :: vs, none :: ts, fun i => match i with | 0 => fun _ => False | i + 1 => P i, q1, by simp [q2], by simp [q2t], fun i c u h1 h2 T hT => ?_, fun i k hk => ?_, fun i j k h1 h2 => ?_, q6, q7, q8, q9, q10⟩
        · cases i with
          | zero => simp at h1 h2; subst h1 h2; exact hv T
          | succ i => simp at h1 h2; exact q3 i c u h1 h2 T fun t ht => hT t (by simpa using ht)
        · cases i with
          | zero => exact hk.elim
          | succ i => obtain ⟨r0, r1⟩ := q4 i k hk; exact ⟨by simp; omega, r1⟩
        · cases i with
          | zero => exact h1.elim
          | succ i => cases j with
            | zero => exact h2.elim
            | succ j => rw [q5 i j k h1 h2]
      simp only [takeL] at h
      cases a <;> simp only at h <;> try exact h.elim
      case val v => exact plain v (fun T => RepT.ofPlain _ w T hab h.1) h.2
      case nilrow => exact plain (.row []) (fun T => by rw [show x = _ from hab]; exact RepT.nil _ w T) h
      case ref id g =>
        split at h
        · rename_i e sz es g' hid
          obtain ⟨rfl, h⟩ := h
          obtain ⟨C1, v, hloc, hrep, hfree, hI, hI0, hsub, hle, hwr, hst⟩ := take_tree hw id e sz g es hid
          obtain ⟨_, g3, sz3, v3, k1, k2, k3⟩ := hab
          rw [hloc] at k1; cases k1
          obtain ⟨C', hp', vs, ts, P, q1, q2, q2t, q3, q4, q5, q6, q7, q8, q9, q10⟩ := takeL_sound l hwr (fa_imp (fun _ _ h => h.mono hle) t) h
          refine ⟨C', hp', .row es :: vs, some e :: ts, fun i => match i with | 0 => blk C id | i + 1 => P i, q1, by simp [q2], by simp [q2t], fun i c u h1 h2 T hT => ?_, fun i k hk => ?_, fun i j k h1 h2 => ?_, q6.trans hI, fun j b hb => hsub j b (q7 j b hb), hle.trans q8, q9, hst.trans q10⟩
          · cases i with
            | zero =>
              simp at h1 h2; subst h1 h2; rw [k3 rfl]
              have := hT (some e) rfl e rfl
              subst this; exact hrep
            | succ i => simp at h1 h2; exact q3 i c u h1 h2 T fun t ht => hT t (by simpa using ht)
          · cases i with
            | zero => exact ⟨by simp, hrep.lt k hk, fun j hj => hfree k j hk (q7 j k hj), fun j => by rw [q6, hI]; exact hI0 k j hk, id, hk⟩
            | succ i =>
              obtain ⟨r0, r1, r2, r3, j, r4⟩ := q4 i k hk
              exact ⟨by simp; omega, r1, r2, r3, j, hsub j k r4⟩
          · cases i with
            | zero => cases j with
              | zero => rfl
              | succ j => obtain ⟨_, _, _, _, q, r4⟩ := q4 j k h2; exact absurd r4 (hfree k q h1)
            | succ i => cases j with
              | zero => obtain ⟨_, _, _, _, q, r4⟩ := q4 i k h1; exact absurd r4 (hfree k q h2)
              | succ j => rw [q5 i j k h1 h2]
        · exact h.elim
/-- A new row out of cells whose trees were taken: a tree. -/
theorem new_tree {C C' : Cx TT} {hp hp' : Hp} {w : World} (h0 : WR C hp w) {es : List VV} {xs : List Value} {P : Nat → Nat → Prop} (e : TypeId) (sz : Nat) (hsz0 : 0 < sz) (hzt : sz = szT TT.ty e) (hsz : ∀ e ∈ es, e.cells.length = sz) (hlen : (flatC es).length = xs.length) (hm : es.length ≤ maxLen) (h1 : ∀ u ∈ xs, u.oneCell' = true)
    (id : Nat) (hid : hp' id = none) (h16 : 16 ≤ id)
    (q3 : ∀ (i : Nat) c u, (flatC es)[i]? = some c → xs[i]? = some u → RepT TT.ty w (TT.ty e (i % sz)) c u (P i)) (q4 : ∀ i k, P i k → i < xs.length ∧ k < w.heap.size ∧ (∀ j, ¬ blk C' j k) ∧ (∀ j, C'.I k j = none) ∧ ∃ j, blk C j k) (q5 : ∀ i j k, P i k → P j k → i = j) (q6 : C'.I = C.I) (q7 : ∀ j b, blk C' j b → blk C j b) (hw : WR C' hp' w) (hst : Stp C C' w w) :
    ∃ C2 : Cx TT, C2.loc id = some (.own 0 sz (.slice (some ⟨w.heap.size, 0, none⟩) es.length es.length)) ∧ Le C' C2 ∧ WR C2 (upd id (.tree e sz es 0) hp') (w.alloc (.cells xs.toArray e)) ∧ Stp C C2 w (w.alloc (.cells xs.toArray e)) := by
  have hfl := flatC_len hsz
  have hxl : xs.length = es.length * sz := by rw [← hlen, hfl]
  let C2 : Cx TT := { I := C'.I, loc := fun j => if j = id then some (.own 0 sz (.slice (some ⟨w.heap.size, 0, none⟩) es.length es.length)) else C'.loc j, ft := fun j => if j = id then fun k => ∃ i, P i k else C'.ft j }
  have hl1 : C2.loc id = some (.own 0 sz (.slice (some ⟨w.heap.size, 0, none⟩) es.length es.length)) := if_pos rfl
  have hl2 : ∀ j, j ≠ id → C2.loc j = C'.loc j := fun j hj => if_neg hj
  have hf1 : C2.ft id = fun k => ∃ i, P i k := if_pos rfl
  have hf2 : ∀ j, j ≠ id → C2.ft j = C'.ft j := fun j hj => if_neg hj
  have hb1 : ∀ k, blk C2 id k ↔ k = w.heap.size ∨ ∃ i, P i k := fun k => by
    unfold blk
    rw [hl1, hf1]
    constructor
    · rintro (h | h)
      · left; exact (Option.some.inj h).symm
      · exact .inr h
    · rintro (h | h)
      · left; subst h; rfl
      · exact .inr h
  have hb2 : ∀ j, j ≠ id → blk C2 j = blk C' j := fun j hj => by funext k; simp only [blk, hl2 j hj, hf2 j hj]
  have hno := hw.dom id hid
  have hle : Le C' C2 := by
    refine ⟨fun _ _ _ h => h, fun j b hj => ?_, fun j g0 s0 v0 hj => ?_, fun j vs hj => ?_⟩
    · by_cases e : j = id
      · subst e; rw [hno] at hj; cases hj
      · rw [hl2 j e]; exact hj
    · by_cases e : j = id
      · subst e; rw [hno] at hj; cases hj
      · exact ⟨g0, v0, by rw [hl2 j e]; exact hj, Nat.le_refl _, fun _ => rfl⟩
    · by_cases e : j = id
      · subst e; rw [hno] at hj; cases hj
      · rw [hl2 j e]; exact hj
  have hold : ∀ k, k < w.heap.size → (w.alloc (.cells xs.toArray e)).heap[k]? = w.heap[k]? := fun k hk => heap_alloc_old w _ k hk
  have hrep : RepT TT.ty (w.alloc (.cells xs.toArray e)) e (.row es) (.slice (some ⟨w.heap.size, 0, none⟩) es.length es.length) (blk C2 id) := by
    refine .row es w.heap.size es.length e sz xs.toArray P _ hsz0 hzt (heap_alloc_new w _) (Nat.le_refl _) hm (by simp; omega) hsz (fun i hi => ?_) (fun i c hc => ?_) (fun i _ hp => ?_) (fun i j k _ _ a b => q5 i j k a b) (fun k => ?_)
    · have hi' : i < xs.length := by omega
      refine h1 _ ?_
      simp [Array.getD, hi']
    · have hi' : i < xs.length := by rw [← hlen]; exact (List.getElem?_eq_some_iff.1 hc).1
      have : (xs.toArray.getD i undef) = xs[i] := by simp [Array.getD, hi']
      rw [this]
      exact (q3 i c xs[i] hc (List.getElem?_eq_getElem hi')).kept fun k hk => hold k (q4 i k hk).2.1
    · have := (q4 i _ hp).2.1; omega
    · rw [hb1]
      constructor
      · rintro (h | ⟨i, hi⟩)
        · exact .inl h
        · exact .inr ⟨i, by have := (q4 i k hi).1; omega, hi⟩
      · rintro (h | ⟨i, _, hi⟩)
        · exact .inl h
        · exact .inr ⟨i, hi⟩
  refine ⟨C2, hl1, hle, ?_, ?_⟩
  · refine hw.updT id _ _ hle hl2 hf2 hl1 (fun b j v hv => ?_) (by simp) (fun j _ b hb => ⟨hold b (hw.lt j b hb), fun _ => rfl⟩) ⟨rfl, rfl, hsz0, xs, ⟨hxl, .inr ⟨w.heap.size, es.length, xs.toArray, rfl, Nat.zero_le _, heap_alloc_new w _, Nat.le_refl _, hm, by simp [hxl], by rw [← hxl]; simp⟩⟩⟩ ⟨_, hl1, hrep, fun k j hk => ?_⟩ (fun j hj b hb hb' => ?_) (fun b hb => ?_) (fun b n hz hb hn => ⟨hold b hb, fun hb' => ?_⟩)
    · have h2 := hw.inI b j v hv
      rw [World.cell?_of_block (hold _ (block_lt_of_cell h2))]; exact h2
    · rcases (hb1 k).1 hk with rfl | ⟨i, hi⟩
      · exact hw.fresh _ _ (Nat.le_refl _)
      · exact (q4 i k hi).2.2.2.1 j
    · rcases (hb1 b).1 hb' with rfl | ⟨i, hi⟩
      · have := hw.lt j _ hb; omega
      · exact (q4 i b hi).2.2.1 j hb
    · rcases (hb1 b).1 hb with rfl | ⟨i, hi⟩
      · simp
      · have := (q4 i b hi).2.1; simp; omega
    · rcases (hb1 b).1 hb' with rfl | ⟨i, hi⟩
      · omega
      · obtain ⟨_, _, _, _, j, hj⟩ := q4 i b hi
        exact (h0.inZ b n hz).2 j hj
  · refine ⟨fun b j v hv => by show C'.I b j = some v; rw [q6]; exact hv, fun j hj => ?_, ⟨rfl, rfl, rfl, by simp, fun k hk _ => hold k hk, fun k j hk _ => by show C'.I k j = C.I k j; rw [q6]⟩, fun j b hb => ?_⟩
    · rw [hl2 j (by omega)]; exact hst.low j hj
    · by_cases e : j = id
      · subst e
        rcases (hb1 b).1 hb with rfl | ⟨i, hi⟩
        · exact .inl (Nat.le_refl _)
        · exact .inr (q4 i b hi).2.2.2.2
      · rw [hb2 j e] at hb; exact .inr ⟨j, q7 j b hb⟩
theorem RepT.congr {ty : Nat → Nat → Nat} {w : World} {T : Nat} {v : VV} {x : Value} {F F' : Nat → Prop} (h : RepT ty w T v x F) (e : ∀ k, F k ↔ F' k) : RepT ty w T v x F' := by
  have : F = F' := funext fun k => propext (e k)
  subst this; exact h
theorem flatC_app (a b : List VV) : flatC (a ++ b) = flatC a ++ flatC b := by simp [flatC]
/-- A tree's row goes on by cells whose trees were taken. -/
theorem grow_rep {ty : Nat → Nat → Nat} {w w' : World} {e sz : Nat} {es es2 : List VV} {v v' : Value} {F : Nat → Prop} {xs xs2 : List Value} {P : Nat → Nat → Prop} (hsz0 : 0 < sz) (hzt : sz = szT ty e) (hsz2 : ∀ e ∈ es2, e.cells.length = sz) (hsz1 : ∀ e ∈ es, e.cells.length = sz) (hrep : RepT ty w e (.row es) v F) (hrow : w.ownsRow 0 e sz v es.length xs) (hone : ∀ u ∈ xs, u.oneCell' = true)
    (hlen2 : (flatC es2).length = xs2.length) (h1 : ∀ u ∈ xs2, u.oneCell' = true)
    (q3 : ∀ (i : Nat) c u, (flatC es2)[i]? = some c → xs2[i]? = some u → RepT ty w (ty e (i % sz)) c u (P i)) (q4 : ∀ i k, P i k → i < xs2.length ∧ k < w.heap.size ∧ ¬ F k) (q5 : ∀ i j k, P i k → P j k → i = j)
    (hrow' : w'.ownsRow 0 e sz v' (es ++ es2).length (xs ++ xs2)) (hg : w.grownBy w' v.ownBlock) (hblk : ∀ b, v'.ownBlock = some b → w.heap.size ≤ b ∨ v.ownBlock = some b) (hvF : ∀ b, v.ownBlock = some b → F b) (hne : (es ++ es2) ≠ []) :
    ∃ F', RepT ty w' e (.row (es ++ es2)) v' F' ∧ (∀ k, v'.ownBlock = some k → F' k) ∧ ∀ k, F' k → (v'.ownBlock = some k ∨ (F k ∧ v.ownBlock ≠ some k) ∨ ∃ i, P i k) := by
  obtain ⟨_, _, P1, hP1, hP1F', hP1d, _⟩ := hrep.rowOf hrow hsz0
  have hP1F : ∀ i k, P1 i k → F k ∧ v.ownBlock ≠ some k := fun i k hk => (hP1F' i k hk).2
  have hl1 := flatC_len hsz1
  have hl2 := flatC_len hsz2
  have hxl := hrow.1
  have hxl' := hrow'.1
  rcases hrow'.2 with ⟨_, e1⟩ | ⟨b', cap', cur', rfl, _, hb', hn', hm', hs', htk'⟩
  · exact absurd (List.eq_nil_of_length_eq_zero e1) hne
  have hcell : ∀ i, i < (es ++ es2).length * sz → (xs ++ xs2)[i]? = some (cur'.getD i undef) := fun i hi => by
    have hi2 : i < cur'.size := by
      have := Nat.mul_le_mul_right sz hn'
      omega
    rw [← htk', List.getElem?_take, if_pos hi]
    simp [Array.getD, hi2]
  let P' : Nat → Nat → Prop := fun i k => if i < es.length * sz then P1 i k else P (i - es.length * sz) k
  have hPa : ∀ i k, i < es.length * sz → (P' i k ↔ P1 i k) := fun i k hi => by show (if _ then _ else _) ↔ _; rw [if_pos hi]
  have hPb : ∀ i k, ¬ i < es.length * sz → (P' i k ↔ P (i - es.length * sz) k) := fun i k hi => by show (if _ then _ else _) ↔ _; rw [if_neg hi]
  have hsz3 : ∀ e ∈ es ++ es2, e.cells.length = sz := fun e he => (List.mem_append.1 he).elim (hsz1 e) (hsz2 e)
  have hkeep : ∀ k, k < w.heap.size → v.ownBlock ≠ some k → w'.heap[k]? = w.heap[k]? := fun k hk hn => hg.block k hk fun e => hn e.symm
  refine ⟨fun k => k = b' ∨ ∃ i, i < (es ++ es2).length * sz ∧ P' i k, .row _ b' cap' e sz cur' P' _ hsz0 hzt hb' hn' hm' hs' hsz3 (fun i hi => ?_) (fun i c hc => ?_) (fun i _ hp => ?_) (fun i j k _ _ h1 h2 => ?_) (fun k => Iff.rfl), fun k hk => .inl (Option.some.inj hk).symm, fun k hk => ?_⟩
  · have := List.mem_iff_getElem?.2 ⟨i, hcell i hi⟩
    exact (List.mem_append.1 this).elim (hone _) (h1 _)
  · have hi : i < (es ++ es2).length * sz := by rw [← flatC_len hsz3]; exact (List.getElem?_eq_some_iff.1 hc).1
    have hu := hcell i hi
    rw [flatC_app] at hc
    by_cases hi1 : i < es.length * sz
    · rw [List.getElem?_append_left (by omega)] at hc hu
      refine (RepT.kept (hP1 i c _ hc hu) fun k hk => ?_).congr fun k => (hPa i k hi1).symm
      obtain ⟨r1, r2⟩ := hP1F i k hk
      exact hkeep k (hrep.lt k r1) r2
    · rw [List.getElem?_append_right (by omega)] at hc hu
      rw [hl1] at hc
      rw [hxl] at hu
      have hmod : (i - es.length * sz) % sz = i % sz := by
        rw [show i = (i - es.length * sz) + es.length * sz by omega, Nat.add_mul_mod_self_right, show (i - es.length * sz) + es.length * sz - es.length * sz = i - es.length * sz by omega]
      have q3' := q3 _ c _ hc hu
      rw [hmod] at q3'
      refine (RepT.kept q3' fun k hk => ?_).congr fun k => (hPb i k hi1).symm
      obtain ⟨_, r1, r2⟩ := q4 _ k hk
      exact hkeep k r1 fun e => r2 (hvF k e)
  · by_cases hi1 : i < es.length * sz
    · obtain ⟨r1, r2⟩ := hP1F i b' ((hPa i b' hi1).1 hp)
      rcases hblk b' rfl with h | h
      · have := hrep.lt b' r1; omega
      · exact r2 h
    · obtain ⟨_, r1, r2⟩ := q4 _ b' ((hPb i b' hi1).1 hp)
      rcases hblk b' rfl with h | h
      · omega
      · exact r2 (hvF b' h)
  · by_cases hi1 : i < es.length * sz
    · by_cases hj1 : j < es.length * sz
      · exact hP1d i j k ((hPa i k hi1).1 h1) ((hPa j k hj1).1 h2)
      · exact absurd (hP1F i k ((hPa i k hi1).1 h1)).1 (q4 _ k ((hPb j k hj1).1 h2)).2.2
    · by_cases hj1 : j < es.length * sz
      · exact absurd (hP1F j k ((hPa j k hj1).1 h2)).1 (q4 _ k ((hPb i k hi1).1 h1)).2.2
      · have := q5 _ _ k ((hPb i k hi1).1 h1) ((hPb j k hj1).1 h2)
        omega
  · rcases hk with rfl | ⟨i, _, hp⟩
    · exact .inl rfl
    · by_cases hi1 : i < es.length * sz
      · exact .inr (.inl (hP1F i k ((hPa i k hi1).1 hp)))
      · exact .inr (.inr ⟨_, (hPb i k hi1).1 hp⟩)
/-- A tree goes on: cells whose trees were taken stand behind its own. -/
theorem grow_tree {C0 C : Cx TT} {hp0 hp : Hp} {w w' : World} (h0 : WR C0 hp0 w) (h : WR C hp w) (hst : Stp C0 C w w) (q6 : C.I = C0.I) (q7 : ∀ j b, blk C j b → blk C0 j b) (id : Nat) {e sz g : Nat} {es es2 : List VV} {v v' : Value} {xs xs2 : List Value} {P : Nat → Nat → Prop} (hid : hp id = some (.tree e sz es g)) (hloc : C.loc id = some (.own g sz v))
    (hsz0 : 0 < sz) (hzt : sz = szT TT.ty e) (hsz1 : ∀ e ∈ es, e.cells.length = sz) (hsz2 : ∀ e ∈ es2, e.cells.length = sz) (hrow : w.ownsRow 0 e sz v es.length xs) (hone : ∀ u ∈ xs, u.oneCell' = true) (hlen2 : (flatC es2).length = xs2.length) (h1 : ∀ u ∈ xs2, u.oneCell' = true)
    (q3 : ∀ (i : Nat) c u, (flatC es2)[i]? = some c → xs2[i]? = some u → RepT TT.ty w (TT.ty e (i % sz)) c u (P i)) (q4 : ∀ i k, P i k → i < xs2.length ∧ k < w.heap.size ∧ (∀ j, ¬ blk C j k) ∧ (∀ j, C.I k j = none) ∧ ∃ j, blk C0 j k) (q5 : ∀ i j k, P i k → P j k → i = j)
    (hrow' : w'.ownsRow 0 e sz v' (es ++ es2).length (xs ++ xs2)) (hg : w.grownBy w' v.ownBlock) (hblk : ∀ b, v'.ownBlock = some b → w.heap.size ≤ b ∨ v.ownBlock = some b) (hne : es ++ es2 ≠ []) :
    ∃ C2 : Cx TT, C2.loc id = some (.own (g + 1) sz v') ∧ Le C C2 ∧ WR C2 (upd id (.tree e sz (es ++ es2) (g + 1)) hp) w' ∧ Stp C0 C2 w w' := by
  have ht := h.tr id
  rw [hid] at ht
  obtain ⟨v0, hloc0, hrep, hI0⟩ := ht
  rw [hloc] at hloc0; cases hloc0
  have hvF : ∀ b, v.ownBlock = some b → blk C id b := fun b hb => .inl (by rw [hloc]; exact hb)
  obtain ⟨F', hrep', htop, hF'⟩ := grow_rep hsz0 hzt hsz2 hsz1 hrep hrow hone hlen2 h1 q3 (fun i k hk => ⟨(q4 i k hk).1, (q4 i k hk).2.1, (q4 i k hk).2.2.1 id⟩) q5 hrow' hg hblk hvF hne
  let C2 : Cx TT := { I := C.I, loc := fun j => if j = id then some (.own (g + 1) sz v') else C.loc j, ft := fun j => if j = id then F' else C.ft j }
  have hl1 : C2.loc id = some (.own (g + 1) sz v') := if_pos rfl
  have hl2 : ∀ j, j ≠ id → C2.loc j = C.loc j := fun j hj => if_neg hj
  have hf1 : C2.ft id = F' := if_pos rfl
  have hf2 : ∀ j, j ≠ id → C2.ft j = C.ft j := fun j hj => if_neg hj
  have hb1 : ∀ k, blk C2 id k ↔ F' k := fun k => by
    unfold blk
    rw [hl1, hf1]
    exact ⟨fun h => h.elim (fun h => htop k h) (fun h => h), .inr⟩
  have hb2 : ∀ j, j ≠ id → blk C2 j = blk C j := fun j hj => by funext k; simp only [blk, hl2 j hj, hf2 j hj]
  have hkeep : ∀ k, k < w.heap.size → v.ownBlock ≠ some k → w'.heap[k]? = w.heap[k]? := fun k hk hn => hg.block k hk fun e => hn e.symm
  have hcase : ∀ k, F' k → w.heap.size ≤ k ∨ blk C id k ∨ ∃ i, P i k := fun k hk => by
    rcases hF' k hk with h2 | h2 | h2
    · rcases hblk k h2 with h3 | h3
      · exact .inl h3
      · exact .inr (.inl (hvF k h3))
    · exact .inr (.inl h2.1)
    · exact .inr (.inr h2)
  have hle : Le C C2 := by
    refine ⟨fun _ _ _ h => h, fun j b hj => ?_, fun j g0 s0 v0 hj => ?_, fun j vs hj => ?_⟩
    · by_cases e : j = id
      · subst e; rw [hloc] at hj; cases hj
      · rw [hl2 j e]; exact hj
    · by_cases e : j = id
      · subst e; rw [hloc] at hj; cases hj; exact ⟨g + 1, _, hl1, by omega, fun e => by omega⟩
      · exact ⟨g0, v0, by rw [hl2 j e]; exact hj, Nat.le_refl _, fun _ => rfl⟩
    · by_cases e : j = id
      · subst e; rw [hloc] at hj; cases hj
      · rw [hl2 j e]; exact hj
  have hlt' : ∀ b, F' b → b < w'.heap.size := fun b hb => hrep'.lt b hb
  refine ⟨C2, hl1, hle, ?_, ?_⟩
  · refine h.updT id _ _ hle hl2 hf2 hl1 (fun b j u hu => ?_) hg.size (fun j hj b hb => ⟨hkeep b (h.lt j b hb) fun e => hj (h.sep j id b hb (hvF b e)), fun _ => rfl⟩) ⟨rfl, rfl, hsz0, _, hrow'⟩ ⟨_, hl1, hrep'.congr fun k => (hb1 k).symm, fun k j hk => ?_⟩ (fun j hj b hb hb' => ?_) (fun b hb => hlt' b ((hb1 b).1 hb)) (fun b n hz hb hn => ⟨hkeep b hb fun e => hn id (hvF b e), fun hb' => ?_⟩)
    · have h2 := h.inI b j u hu
      rw [World.cell?_of_block (hkeep _ (block_lt_of_cell h2) fun e => by rw [hI0 b j (hvF b e)] at hu; cases hu)]; exact h2
    · rcases hcase k ((hb1 k).1 hk) with h2 | h2 | ⟨i, h2⟩
      · exact h.fresh _ _ h2
      · exact hI0 k j h2
      · exact (q4 i k h2).2.2.2.1 j
    · rcases hcase b ((hb1 b).1 hb') with h2 | h2 | ⟨i, h2⟩
      · have := h.lt j _ hb; omega
      · exact hj (h.sep j id b hb h2)
      · exact (q4 i b h2).2.2.1 j hb
    · rcases hcase b ((hb1 b).1 hb') with h2 | h2 | ⟨i, h2⟩
      · omega
      · exact hn id h2
      · obtain ⟨_, _, _, _, j, hj⟩ := q4 i b h2
        exact (h0.inZ b n hz).2 j hj
  · refine ⟨fun b j v hv => by show C.I b j = some v; rw [q6]; exact hv, fun j hj => ?_, ⟨hg.os, hg.tape, hg.output, hg.size, fun k hk hs => hkeep k hk fun e => hs ⟨id, q7 id k (hvF k e)⟩, fun k j hk _ => by show C.I k j = C0.I k j; rw [q6]⟩, fun j b hb => ?_⟩
    · by_cases e : j = id
      · subst e
        have h5 := hst.low j hj
        rw [hloc] at h5
        rcases h5 with h5 | ⟨_, _, h5⟩ | ⟨g1, s1, v1, g2, v2, k1, k2, k3, k4⟩ | ⟨_, _, h5⟩
        · cases h5
        · cases h5
        · cases k2
          exact .inr (.inr (.inl ⟨g1, sz, v1, g + 1, v', k1, hl1, by omega, fun e => by omega⟩))
        · cases h5
      · rw [hl2 j e]; exact hst.low j hj
    · by_cases e : j = id
      · subst e
        rcases hcase b ((hb1 b).1 hb) with h2 | h2 | ⟨i, h2⟩
        · exact .inl h2
        · exact .inr ⟨j, q7 j b h2⟩
        · exact .inr (q4 i b h2).2.2.2.2
      · rw [hb2 j e] at hb; exact .inr ⟨j, q7 j b hb⟩
/-- A plain cell of a tree is written. -/
theorem set_rep {ty : Nat → Nat → Nat} {w w' : World} {es es' : List VV} {b cap T m sz : Nat} {cur : Array Value} {F : Nat → Prop} {c0 c' : VV} {u' : Value} (hrep : RepT ty w T (.row es) (.slice (some ⟨b, 0, none⟩) es.length cap) F) (hcur : w.heap[b]? = some (.cells cur T (0, 0))) (hsz : ∀ e ∈ es, e.cells.length = sz) (hne : es ≠ [])
    (hm : (flatC es)[m]? = some c0) (hp0 : plainV c0 = true) (hp' : plainV c' = true) (hu' : ∀ T', RepT ty w' T' c' u' (fun _ => False)) (hfl : flatC es' = (flatC es).set m c') (hlen : es'.length = es.length) (hsz' : ∀ e ∈ es', e.cells.length = sz)
    (hb : w'.heap[b]? = some (.cells (cur.setIfInBounds m u') T (0, 0))) (hkeep : ∀ k, k ≠ b → w'.heap[k]? = w.heap[k]?) : RepT ty w' T (.row es') (.slice (some ⟨b, 0, none⟩) es.length cap) F := by
  cases hrep with
  | row es b cap T1 sz1 cur1 P F hz hzt hbb hn hm1 hs hsz1 h1 hh hP hd hF =>
    rw [hcur] at hbb; cases hbb
    have hsz2 : sz1 = sz := by
      cases es with
      | nil => exact absurd rfl hne
      | cons a t => rw [← hsz1 a (by simp), hsz a (by simp)]
    subst hsz2
    have hmlt : m < es.length * sz1 := by rw [← flatC_len hsz]; exact (List.getElem?_eq_some_iff.1 hm).1
    have hmc : m < cur.size := by
      have := Nat.mul_le_mul_right sz1 hn
      omega
    have hPm : ∀ k, ¬ P m k := fun k hk => by
      have key : ∀ {T : Nat} {x : Value} {Q : Nat → Prop}, RepT ty w T c0 x Q → ¬ Q k := fun h h2 => by
        cases h <;> first | (rename_i hF0; exact hF0 k h2) | (cases hp0)
      exact key (hh m c0 hm) hk
    rw [← hlen]
    refine .row es' b cap T sz1 (cur.setIfInBounds m u') P F hz hzt hb (by omega) hm1 (by simpa using hs) hsz' (fun q hq => ?_) (fun q c hc => ?_) (fun q hq => hP q (by rw [← hlen]; exact hq)) (fun i j k hi hj => hd i j k (by rw [← hlen]; exact hi) (by rw [← hlen]; exact hj)) (fun k => by rw [hlen]; exact hF k)
    · rw [hlen] at hq
      by_cases e : q = m
      · subst e
        have : (cur.setIfInBounds q u').getD q undef = u' := by simp [Array.getD, hmc]
        rw [this]; exact (hu' 0).one
      · have : (cur.setIfInBounds m u').getD q undef = cur.getD q undef := by
          simp only [Array.getD_eq_getD_getElem?]; rw [Array.getElem?_setIfInBounds_ne (Ne.symm e)]
        rw [this]; exact h1 q hq
    · rw [hfl] at hc
      by_cases e : q = m
      · subst e
        rw [List.getElem?_set_self (by rw [flatC_len hsz]; exact hmlt)] at hc
        cases hc
        have : (cur.setIfInBounds q u').getD q undef = u' := by simp [Array.getD, hmc]
        rw [this]
        exact (hu' _).congr fun k => ⟨fun h => h.elim, fun h => hPm k h⟩
      · rw [List.getElem?_set_ne (Ne.symm e)] at hc
        have hq : q < es.length * sz1 := by rw [← flatC_len hsz]; exact (List.getElem?_eq_some_iff.1 hc).1
        have : (cur.setIfInBounds m u').getD q undef = cur.getD q undef := by
          simp only [Array.getD_eq_getD_getElem?]; rw [Array.getElem?_setIfInBounds_ne (Ne.symm e)]
        rw [this]
        exact (hh q c hc).kept fun k hk => hkeep k fun e2 => by subst e2; exact hP q hq hk
/-- A tree's row is written in its place. -/
theorem set_tree {C : Cx TT} {hp : Hp} {w w' : World} (h : WR C hp w) (id : Nat) {e sz g : Nat} {es es' : List VV} {v : Value} {xs' : List Value} {b : Nat} (hid : hp id = some (.tree e sz es g)) (hloc : C.loc id = some (.own g sz v)) (hvb : v.ownBlock = some b)
    (hsz0 : 0 < sz) (hrow' : w'.ownsRow 0 e sz v es'.length xs') (hrep' : RepT TT.ty w' e (.row es') v (blk C id)) (hg : w.grownBy w' (some b)) : WR C (upd id (.tree e sz es' g) hp) w' ∧ Stp C C w w' := by
  have ht := h.tr id
  rw [hid] at ht
  obtain ⟨v0, hloc0, hrep, hI0⟩ := ht
  rw [hloc] at hloc0; cases hloc0
  have hbF : blk C id b := .inl (by rw [hloc]; exact hvb)
  have hkeep : ∀ k, k < w.heap.size → k ≠ b → w'.heap[k]? = w.heap[k]? := fun k hk hn => hg.block k hk fun e => hn (Option.some.inj e)
  refine ⟨?_, ?_⟩
  · refine h.updT id _ (.own g sz v) (Le.refl _) (fun _ _ => rfl) (fun _ _ => rfl) hloc (fun k j u hu => ?_) hg.size (fun j hj k hk => ⟨hkeep k (h.lt j k hk) fun e => hj (h.sep j id k hk (by rw [e]; exact hbF)), fun _ => rfl⟩) ⟨rfl, rfl, hsz0, xs', hrow'⟩ ⟨v, hloc, hrep', hI0⟩ (fun j hj k hk hk' => hj (h.sep j id k hk hk')) (fun k hk => hrep'.lt k hk) (fun k n hz hk hn => ⟨hkeep k hk fun e => hn id (by rw [e]; exact hbF), hn id⟩)
    have h2 := h.inI k j u hu
    rw [World.cell?_of_block (hkeep _ (block_lt_of_cell h2) fun e => by have e2 : k = b := e; subst e2; rw [hI0 k j hbF] at hu; cases hu)]; exact h2
  · exact ⟨fun _ _ _ h => h, (Stp.refl C w).low, ⟨hg.os, hg.tape, hg.output, hg.size, fun k hk hs => hkeep k hk fun e => hs ⟨id, by rw [e]; exact hbF⟩, fun _ _ _ _ => rfl⟩, fun j k hk => .inr ⟨j, hk⟩⟩
end Go.Proofs.YtccldchklemogaaW.AM
