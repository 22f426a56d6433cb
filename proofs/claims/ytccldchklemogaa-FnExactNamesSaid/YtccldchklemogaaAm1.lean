/- What the abstract machine's values and memory stand for; how it is kept. -/
import Derived.Test.YtccldchklemogaaAm0
set_option linter.unusedVariables false
set_option linter.unusedSimpArgs false
namespace Go.Proofs.YtccldchklemogaaW.AM
open Go Go.RowKit

inductive FA {α β : Type} (R : α → β → Prop) : List α → List β → Prop
  | nil : FA R [] []
  | cons {a b l m} (h : R a b) (t : FA R l m) : FA R (a :: l) (b :: m)

theorem fa_len {α β : Type} {R : α → β → Prop} {l : List α} {m : List β} (h : FA R l m) : l.length = m.length := by
  induction h with
  | nil => rfl
  | cons _ _ ih => simp [ih]
theorem fa_get {α β : Type} {R : α → β → Prop} {l : List α} {m : List β} (h : FA R l m) : ∀ {i : Nat} {a : α}, l[i]? = some a → ∃ b, m[i]? = some b ∧ R a b := by
  induction h with
  | nil => intro i a h; simp at h
  | cons hab _ ih =>
    intro i a h
    cases i with
    | zero => simp at h; subst h; exact ⟨_, by simp, hab⟩
    | succ i => simp at h; obtain ⟨b, h1, h2⟩ := ih h; exact ⟨b, by simpa using h1, h2⟩
theorem fa_get' {α β : Type} {R : α → β → Prop} {l : List α} {m : List β} (h : FA R l m) : ∀ {i : Nat} {b : β}, m[i]? = some b → ∃ a, l[i]? = some a ∧ R a b := by
  induction h with
  | nil => intro i a h; simp at h
  | cons hab _ ih =>
    intro i a h
    cases i with
    | zero => simp at h; subst h; exact ⟨_, by simp, hab⟩
    | succ i => simp at h; obtain ⟨b, h1, h2⟩ := ih h; exact ⟨b, by simpa using h1, h2⟩
theorem fa_imp {α β : Type} {R S : α → β → Prop} (hi : ∀ a b, R a b → S a b) {l : List α} {m : List β} (h : FA R l m) : FA S l m := by
  induction h with
  | nil => exact .nil
  | cons hab _ ih => exact .cons (hi _ _ hab) ih
theorem fa_of {α β : Type} {R : α → β → Prop} : ∀ {l : List α} {m : List β}, l.length = m.length → (∀ (i : Nat) a b, l[i]? = some a → m[i]? = some b → R a b) → FA R l m
  | [], [], _, _ => .nil
  | a :: l, b :: m, h, hh => .cons (hh 0 a b rfl rfl) (fa_of (by simpa using h) fun i a b h1 h2 => hh (i + 1) a b (by simpa using h1) (by simpa using h2))
theorem fa_app {α β : Type} {R : α → β → Prop} {l l' : List α} {m m' : List β} (h : FA R l m) (h' : FA R l' m') : FA R (l ++ l') (m ++ m') := by
  induction h with
  | nil => exact h'
  | cons hab _ ih => exact .cons hab ih
theorem fa_take {α β : Type} {R : α → β → Prop} {l : List α} {m : List β} (h : FA R l m) (n : Nat) : FA R (l.take n) (m.take n) := by
  induction h generalizing n with
  | nil => simp; exact .nil
  | cons hab _ ih => cases n with
    | zero => exact .nil
    | succ n => exact .cons hab (ih n)
theorem fa_drop {α β : Type} {R : α → β → Prop} {l : List α} {m : List β} (h : FA R l m) (n : Nat) : FA R (l.drop n) (m.drop n) := by
  induction h generalizing n with
  | nil => simp; exact .nil
  | cons hab t ih => cases n with
    | zero => exact .cons hab t
    | succ n => exact ih n
theorem fa_map_l {α β γ : Type} {R : γ → β → Prop} {f : α → γ} {l : List α} {m : List β} (h : FA (fun a b => R (f a) b) l m) : FA R (l.map f) m := by
  induction h with
  | nil => exact .nil
  | cons hab _ ih => exact .cons hab ih
theorem mapO_fa {α β : Type} {f : α → Option β} : ∀ {l : List α} {m : List β}, mapO f l = some m → FA (fun a b => f a = some b) l m
  | [], m, h => by simp [mapO] at h; subst h; exact .nil
  | a :: l, m, h => by
    simp only [mapO] at h
    split at h
    · rename_i b bs h1 h2
      cases h
      exact .cons h1 (mapO_fa h2)
    · cases h

/-- What a value without memory stands for, where the cells I never turn. -/
inductive RepV (I : Nat → Nat → Option Value) : VV → Value → Prop
  | int (k n) : RepV I (.int k n) (.int k n)
  | bool (b) : RepV I (.bool b) (.bool b)
  | str (s) : RepV I (.str s) (.string s)
  | agg (cs : List VV) (vs : List Value) (h : vs.length = cs.length) (h1 : ∀ (i : Nat) u, vs[i]? = some u → u.oneCell' = true) (hh : ∀ (i : Nat) c u, cs[i]? = some c → vs[i]? = some u → RepV I c u) : RepV I (.agg cs) (.agg vs.toArray)
  | row0 (a cap) (h0 : a = none → cap = 0) : RepV I (.row []) (.slice a 0 cap)
  | row (es : List VV) (b off cap sz : Nat) (u : Nat → Value) (hsz : 0 < sz) (hc : es.length ≤ cap) (hI : ∀ j, j < es.length * sz → I b (off + j) = some (u j)) (h1 : ∀ j, j < es.length * sz → (u j).oneCell' = true)
      (hs : ∀ (i : Nat) e, es[i]? = some e → e.cells.length = sz) (hh : ∀ (i : Nat) e (j : Nat) c, es[i]? = some e → e.cells[j]? = some c → RepV I c (u (i * sz + j))) : RepV I (.row es) (.slice (some ⟨b, off, none⟩) es.length cap)

theorem RepV.mono {I I' : Nat → Nat → Option Value} (hI : ∀ b j v, I b j = some v → I' b j = some v) {v : VV} {x : Value} (h : RepV I v x) : RepV I' v x := by
  induction h with
  | int => exact .int _ _
  | bool => exact .bool _
  | str => exact .str _
  | agg cs vs h h1 _ ih => exact .agg cs vs h h1 ih
  | row0 _ _ h0 => exact .row0 _ _ h0
  | row es b off cap sz u hsz hc hi h1 hs _ ih => exact .row es b off cap sz u hsz hc (fun j hj => hI _ _ _ (hi j hj)) h1 hs ih

theorem RepV.cells {I : Nat → Nat → Option Value} {v : VV} {x : Value} (h : RepV I v x) : FA (RepV I) v.cells x.cells.toList ∧ ∀ u ∈ x.cells.toList, u.oneCell' = true := by
  cases h with
  | agg cs vs hl h1 hh =>
    refine ⟨fa_of (by simp [VV.cells, Value.cells, hl]) fun i a b ha hb => hh i a b (by simpa [VV.cells] using ha) (by simpa [Value.cells] using hb), fun u hu => ?_⟩
    simp [Value.cells] at hu
    obtain ⟨i, hi⟩ := List.mem_iff_getElem?.1 hu
    exact h1 i u hi
  | int k n => exact ⟨.cons (.int _ _) .nil, by simp [Value.cells, Value.oneCell']⟩
  | bool b => exact ⟨.cons (.bool _) .nil, by simp [Value.cells, Value.oneCell']⟩
  | str s => exact ⟨.cons (.str _) .nil, by simp [Value.cells, Value.oneCell']⟩
  | row0 a c h0 => exact ⟨.cons (.row0 _ _ h0) .nil, by simp [Value.cells, Value.oneCell']⟩
  | row es b off cap sz u hsz hc hi h1 hs hh => exact ⟨.cons (.row es b off cap sz u hsz hc hi h1 hs hh) .nil, by simp [Value.cells, Value.oneCell']⟩

/-- Where a box or a row of the call's own lies. -/
inductive Loc where
  | box (b : Nat)
  | own (g sz : Nat) (v : Value)
  | virt (vs : List Value)
structure Cx (TT : Tab) where
  I : Nat → Nat → Option Value
  loc : Nat → Option Loc
  /-- The blocks of the rows within an object's row. -/
  ft : Nat → Nat → Prop := fun _ _ => False
variable {TT : Tab}


def RepA (C : Cx TT) : A0 → Value → Prop
  | .val v, x => RepV C.I v x
  | .ptr id off, x => ∃ b, C.loc id = some (.box b) ∧ x = .pointer (some ⟨b, off, none⟩)
  | .nilp, x => x = .pointer none
  | .ref id g, x => x.oneCell' = true ∧ ∃ g' sz v, C.loc id = some (.own g' sz v) ∧ g ≤ g' ∧ (g = g' → x = v)
  | .ep id g i off, x => (∃ ad, x = .pointer (some ad)) ∧ ∃ g' sz v, C.loc id = some (.own g' sz v) ∧ g ≤ g' ∧ (g = g' → ∃ b n cap, v = .slice (some ⟨b, 0, none⟩) n cap ∧ x = .pointer (some ⟨b, i * sz + off, none⟩))
  | .vp e off, x => ∃ b o, x = .pointer (some ⟨b, o + off, none⟩) ∧ ∀ (j : Nat) c, e.cells[j]? = some c → ∃ u, C.I b (o + j) = some u ∧ u.oneCell' = true ∧ RepV C.I c u
  | .fn f caps, x => ∃ vs : List Value, x = .func (.func f) #[] vs.toArray ∧ FA (fun id v => ∃ b, C.loc id = some (.box b) ∧ v = .pointer (some ⟨b, 0, none⟩)) caps vs
  | .nilrow, x => x = .slice none 0 0
  | .dead, _ => True
  | .sp id, x => ∃ vs : List Value, C.loc id = some (.virt vs) ∧ x = .agg vs.toArray
def RepAV (C : Cx TT) : AV → Value → Prop
  | .one a, x => RepA C a x
  | .tup as, x => ∃ vs : List Value, x = .tuple vs.toArray ∧ FA (RepA C) as vs

/-- More is known to stand; rows of the call's own may have gone on. -/
structure Le (C C' : Cx TT) : Prop where
  I : ∀ b j v, C.I b j = some v → C'.I b j = some v
  box : ∀ id b, C.loc id = some (.box b) → C'.loc id = some (.box b)
  own : ∀ id g sz v, C.loc id = some (.own g sz v) → ∃ g' v', C'.loc id = some (.own g' sz v') ∧ g ≤ g' ∧ (g = g' → v = v')
  virt : ∀ id vs, C.loc id = some (.virt vs) → C'.loc id = some (.virt vs)
theorem Le.refl (C : Cx TT) : Le C C := ⟨fun _ _ _ h => h, fun _ _ h => h, fun _ g _ v h => ⟨g, v, h, Nat.le_refl _, fun _ => rfl⟩, fun _ _ h => h⟩
theorem Le.trans {A B C : Cx TT} (h : Le A B) (k : Le B C) : Le A C := by
  refine ⟨fun b j v hh => k.I _ _ _ (h.I _ _ _ hh), fun id b hh => k.box _ _ (h.box _ _ hh), fun id g sz v hh => ?_, fun id vs hh => k.virt _ _ (h.virt _ _ hh)⟩
  obtain ⟨g1, v1, h1, l1, e1⟩ := h.own _ _ _ _ hh
  obtain ⟨g2, v2, h2, l2, e2⟩ := k.own _ _ _ _ h1
  refine ⟨g2, v2, h2, by omega, fun e => ?_⟩
  have a : g = g1 := by omega
  have b : g1 = g2 := by omega
  rw [e1 a, e2 b]

theorem RepA.mono {C C' : Cx TT} (hl : Le C C') {a : A0} {x : Value} (h : RepA C a x) : RepA C' a x := by
  cases a with
  | val v => exact RepV.mono hl.I h
  | ptr id off => obtain ⟨b, h1, h2⟩ := h; exact ⟨b, hl.box _ _ h1, h2⟩
  | nilp => exact h
  | ref id g =>
    obtain ⟨h0, g', sz, v, h1, h2, h3⟩ := h
    obtain ⟨g2, v2, k1, k2, k3⟩ := hl.own _ _ _ _ h1
    refine ⟨h0, g2, sz, v2, k1, by omega, fun e => ?_⟩
    have a1 : g = g' := by omega
    have a2 : g' = g2 := by omega
    rw [h3 a1, k3 a2]
  | ep id g i off =>
    obtain ⟨h0, g', sz, v, h1, h2, h3⟩ := h
    obtain ⟨g2, v2, k1, k2, k3⟩ := hl.own _ _ _ _ h1
    refine ⟨h0, g2, sz, v2, k1, by omega, fun e => ?_⟩
    have a1 : g = g' := by omega
    have a2 : g' = g2 := by omega
    obtain ⟨b, n, cap, e1, e2⟩ := h3 a1
    exact ⟨b, n, cap, by rw [← k3 a2, e1], e2⟩
  | vp e off =>
    obtain ⟨b, o, h1, h2⟩ := h
    refine ⟨b, o, h1, fun j c hc => ?_⟩
    obtain ⟨u, hu, h3, h4⟩ := h2 j c hc
    exact ⟨u, hl.I _ _ _ hu, h3, h4.mono hl.I⟩
  | fn f caps =>
    obtain ⟨vs, h1, h2⟩ := h
    exact ⟨vs, h1, fa_imp (fun id v ⟨b, hb, hv⟩ => ⟨b, hl.box _ _ hb, hv⟩) h2⟩
  | nilrow => exact h
  | dead => trivial
  | sp id => obtain ⟨vs, h1, h2⟩ := h; exact ⟨vs, hl.virt _ _ h1, h2⟩
theorem RepAV.mono {C C' : Cx TT} (hl : Le C C') {a : AV} {x : Value} (h : RepAV C a x) : RepAV C' a x := by
  cases a with
  | one a => exact RepA.mono hl h
  | tup as => obtain ⟨vs, h1, h2⟩ := h; exact ⟨vs, h1, fa_imp (fun _ _ h => RepA.mono hl h) h2⟩

theorem RepA.one {C : Cx TT} {a : A0} {x : Value} (h : RepA C a x) (hd : a ≠ .dead) (hs : ∀ id, a ≠ .sp id) (hv : ∀ cs, a ≠ .val (.agg cs)) : x.oneCell' = true ∧ x.cells = #[x] := by
  have key : x.oneCell' = true → x.oneCell' = true ∧ x.cells = #[x] := fun h => ⟨h, by cases x <;> simp_all [Value.oneCell', Value.cells]⟩
  cases a with
  | val v =>
    refine key ?_
    cases h <;> first | rfl | exact absurd rfl (hv _)
  | ptr id off => obtain ⟨b, _, rfl⟩ := h; exact key rfl
  | nilp => rw [show x = _ from h]; exact ⟨rfl, rfl⟩
  | ref id g => exact key h.1
  | ep id g i off => obtain ⟨⟨ad, rfl⟩, _⟩ := h; exact key rfl
  | vp e off => obtain ⟨b, o, rfl, _⟩ := h; exact key rfl
  | fn f caps => obtain ⟨vs, rfl, _⟩ := h; exact key rfl
  | nilrow => rw [show x = _ from h]; exact ⟨rfl, rfl⟩
  | dead => exact absurd rfl hd
  | sp id => exact absurd rfl (hs id)

/-- The cells of one thing that isn't dead. -/
theorem RepA.cells {C : Cx TT} {a : A0} {x : Value} (h : RepA C a x) (hd : a ≠ .dead) (hs : ∀ id, a ≠ .sp id) : FA (RepA C) a.cells x.cells.toList ∧ ∀ u ∈ x.cells.toList, u.oneCell' = true := by
  by_cases hv : ∃ cs, a = .val (.agg cs)
  · obtain ⟨cs, rfl⟩ := hv
    obtain ⟨h1, h2⟩ := RepV.cells h
    refine ⟨?_, h2⟩
    simp only [A0.cells]
    exact fa_map_l (fa_imp (fun _ _ h => h) h1)
  · have hv' : ∀ cs, a ≠ .val (.agg cs) := fun cs e => hv ⟨cs, e⟩
    obtain ⟨h1, h2⟩ := h.one hd hs hv'
    rw [h2]
    have : a.cells = [a] := by
      cases a <;> try rfl
      rename_i v
      cases v <;> first | rfl | exact absurd rfl (hv' _)
    rw [this]
    exact ⟨.cons h .nil, by simpa using h1⟩

theorem toVV_rep {C : Cx TT} {a : A0} {v : VV} {x : Value} (ha : a.toVV = some v) (h : RepA C a x) : RepV C.I v x := by
  cases a <;> simp [A0.toVV] at ha
  · subst ha; exact h
  · subst ha; rw [show x = _ from h]; exact .row0 _ _ fun _ => rfl

theorem ofS_rep (I : Nat → Nat → Option Value) {x : Value} {v : VV} (h : ofS x = some v) : RepV I v x ∧ x.oneCell' = true := by
  unfold ofS at h
  split at h <;> first | (cases h; exact ⟨.row0 _ _ fun _ => rfl, rfl⟩) | (cases h; exact ⟨by constructor, rfl⟩) | cases h
theorem wk_rep {C : Cx TT} {a : A0} {x : Value} (n : Nat) (h : RepA C a x) : RepA C (AM.wk n a) x := by
  unfold AM.wk
  split
  · split
    · rw [show x = _ from h]; exact .row0 _ _ fun _ => rfl
    · exact h
  · exact h
theorem wkV_rep {C : Cx TT} {a : AV} {x : Value} (n : Nat) (h : RepAV C a x) : RepAV C (a.wk n) x := by
  cases a with
  | one a => exact wk_rep n h
  | tup as => exact h
theorem wkL_rep {C : Cx TT} {cs : List A0} {xs : List Value} (n : Nat) (h : FA (RepA C) cs xs) : FA (RepA C) (cs.map (AM.wk n)) xs := fa_map_l (fa_imp (fun _ _ k => wk_rep n k) h)
theorem ofC_rep (C : Cx TT) (x : Value) : RepA C (ofC x) x := by
  unfold ofC
  split
  · rfl
  · rfl
  · rename_i cs
    split
    · rename_i l hl
      have := mapO_fa hl
      refine (show RepV _ _ _ from ?_)
      have e : (Value.agg cs) = .agg cs.toList.toArray := by simp
      rw [e]
      exact .agg _ _ (fa_len this) (fun i u hu => by obtain ⟨b, _, hb⟩ := fa_get this hu; exact (ofS_rep C.I hb).2) (fun i c u hc hu => by
        obtain ⟨b, h1, h2⟩ := fa_get this hu
        rw [hc] at h1; cases h1
        exact (ofS_rep C.I h2).1)
    · trivial
  · split
    · rename_i u hu; exact (ofS_rep C.I hu).1
    · trivial

theorem partV_rep {I : Nat → Nat → Option Value} {agg : Bool} {size off : Nat} {cs : List VV} {v : VV} {vs : List Value} (h : partV agg size off cs = some v) (hr : FA (RepV I) cs vs) (h1 : ∀ u ∈ vs, u.oneCell' = true) :
    if agg then off + size ≤ vs.length ∧ RepV I v (.agg ((vs.drop off).take size).toArray) else ∃ u, vs[off]? = some u ∧ RepV I v u := by
  unfold partV at h
  split at h
  · rename_i ha
    split at h
    · rename_i hle
      cases h
      rw [if_pos ha]
      refine ⟨by rw [← fa_len hr]; exact hle, ?_⟩
      have hh := fa_take (fa_drop hr off) size
      exact .agg _ _ (fa_len hh).symm (fun i u hu => h1 u (List.drop_subset _ _ (List.take_subset _ _ (List.mem_iff_getElem?.2 ⟨i, hu⟩)))) (fun i c u hc hu => by
        obtain ⟨b, h2, h3⟩ := fa_get hh hc
        rw [hu] at h2; cases h2; exact h3)
    · cases h
  · rename_i ha
    rw [if_neg ha]
    exact fa_get hr h

theorem partA_rep {C : Cx TT} {agg : Bool} {size off : Nat} {cs : List A0} {v : A0} {vs : List Value} (h : partA agg size off cs = some v) (hr : FA (RepA C) cs vs) (h1 : ∀ u ∈ vs, u.oneCell' = true) :
    if agg then off + size ≤ vs.length ∧ RepA C v (.agg ((vs.drop off).take size).toArray) else ∃ u, vs[off]? = some u ∧ RepA C v u := by
  unfold partA at h
  split at h
  · rename_i ha
    split at h
    · rename_i hle
      obtain ⟨l, hl, rfl⟩ := Option.map_eq_some_iff.1 h
      rw [if_pos ha]
      refine ⟨by rw [← fa_len hr]; exact hle, ?_⟩
      have hh := fa_take (fa_drop hr off) size
      have hm := mapO_fa hl
      exact .agg _ _ (by rw [← fa_len hh, fa_len hm]) (fun i u hu => h1 u (List.drop_subset _ _ (List.take_subset _ _ (List.mem_iff_getElem?.2 ⟨i, hu⟩)))) (fun i c u hc hu => by
        obtain ⟨a, h2, h3⟩ := fa_get' hm hc
        obtain ⟨b, h4, h5⟩ := fa_get hh h2
        rw [hu] at h4; cases h4; exact toVV_rep h3 h5)
    · cases h
  · rename_i ha
    rw [if_neg ha]
    exact fa_get hr h

/-- The cells of a row of the call's own. -/
def RowR (I : Nat → Nat → Option Value) (sz : Nat) (es : List VV) (xs : List Value) : Prop :=
  (∀ u ∈ xs, u.oneCell' = true) ∧ ∀ (i : Nat) e, es[i]? = some e → e.cells.length = sz ∧ ∀ (j : Nat) c, e.cells[j]? = some c → ∃ u, xs[i * sz + j]? = some u ∧ RepV I c u

def Loc.blk : Loc → Nat → Prop
  | .box b, k => b = k
  | .own _ _ v, k => v.ownBlock = some k
  | .virt _, _ => False
def blkO : Option Loc → Nat → Prop
  | some l => l.blk
  | none => fun _ => False
def blk (C : Cx TT) (id : Nat) : Nat → Prop := fun k => blkO (C.loc id) k ∨ C.ft id k
/-- The cells of a row's elements. -/
def flatC (es : List VV) : List VV := es.flatMap VV.cells
/-- A value in memory with all its rows; the blocks that these take; ty: what lies in the rows within. -/
inductive RepT (ty : Nat → Nat → Nat) (w : World) : Nat → VV → Value → (Nat → Prop) → Prop
  | int (T k n F) (hF : ∀ b, ¬ F b) : RepT ty w T (.int k n) (.int k n) F
  | bool (T b F) (hF : ∀ b, ¬ F b) : RepT ty w T (.bool b) (.bool b) F
  | str (T s F) (hF : ∀ b, ¬ F b) : RepT ty w T (.str s) (.string s) F
  | row0 (T F) (hF : ∀ b, ¬ F b) : RepT ty w T (.row []) (.slice none 0 0) F
  | row (es : List VV) (b cap T sz : Nat) (cur : Array Value) (P : Nat → Nat → Prop) (F : Nat → Prop) (hz : 0 < sz) (hzt : sz = szT ty T) (hb : w.heap[b]? = some (.cells cur T (0, 0))) (hn : es.length ≤ cap) (hm : cap ≤ maxLen) (hs : cur.size = cap * sz)
      (hsz : ∀ e ∈ es, e.cells.length = sz) (h1 : ∀ i, i < es.length * sz → (cur.getD i undef).oneCell' = true) (hh : ∀ (i : Nat) c, (flatC es)[i]? = some c → RepT ty w (ty T (i % sz)) c (cur.getD i undef) (P i))
      (hP : ∀ i, i < es.length * sz → ¬ P i b) (hd : ∀ i j k, i < es.length * sz → j < es.length * sz → P i k → P j k → i = j) (hF : ∀ k, F k ↔ k = b ∨ ∃ i, i < es.length * sz ∧ P i k) : RepT ty w T (.row es) (.slice (some ⟨b, 0, none⟩) es.length cap) F
theorem flatC_len {sz : Nat} : ∀ {es : List VV}, (∀ e ∈ es, e.cells.length = sz) → (flatC es).length = es.length * sz
  | [], _ => by simp [flatC]
  | a :: es, hs => by
    have := flatC_len (es := es) fun e he => hs e (by simp [he])
    unfold flatC at this ⊢
    rw [List.flatMap_cons, List.length_append, this, hs a (by simp), List.length_cons, Nat.add_mul]; omega
theorem RepT.kept {ty : Nat → Nat → Nat} {w w' : World} {T : Nat} {v : VV} {x : Value} {F : Nat → Prop} (h : RepT ty w T v x F) (hb : ∀ b, F b → w'.heap[b]? = w.heap[b]?) : RepT ty w' T v x F := by
  induction h with
  | int T k n F hF => exact .int _ _ _ _ hF
  | bool T b F hF => exact .bool _ _ _ hF
  | str T s F hF => exact .str _ _ _ hF
  | row0 T F hF => exact .row0 _ _ hF
  | row es b cap T sz cur P F hz hzt hbb hn hm hs hsz h1 hh hP hd hF ih =>
    refine .row es b cap T sz cur P F hz hzt (by rw [hb b ((hF b).2 (.inl rfl))]; exact hbb) hn hm hs hsz h1 (fun i c hc => ih i c hc fun k hk => hb k ((hF k).2 (.inr ⟨i, ?_, hk⟩))) hP hd hF
    rw [← flatC_len hsz]; exact (List.getElem?_eq_some_iff.1 hc).1
theorem RepT.one {ty : Nat → Nat → Nat} {w : World} {T : Nat} {v : VV} {x : Value} {F : Nat → Prop} (h : RepT ty w T v x F) : x.oneCell' = true := by
  cases h <;> rfl
theorem RepT.lt {ty : Nat → Nat → Nat} {w : World} {T : Nat} {v : VV} {x : Value} {F : Nat → Prop} (h : RepT ty w T v x F) : ∀ b, F b → b < w.heap.size := by
  induction h with
  | int T k n F hF => exact fun b hb => absurd hb (hF b)
  | bool T b F hF => exact fun b hb => absurd hb (hF b)
  | str T s F hF => exact fun b hb => absurd hb (hF b)
  | row0 T F hF => exact fun b hb => absurd hb (hF b)
  | row es b cap T sz cur P F hz hzt hbb hn hm hs hsz h1 hh hP hd hF ih =>
    intro k hk
    rcases (hF k).1 hk with rfl | ⟨i, hi, hp⟩
    · exact (Array.getElem?_eq_some_iff.1 hbb).1
    · rw [← flatC_len hsz] at hi
      exact ih i _ (List.getElem?_eq_getElem hi) k hp
theorem flat_get {sz : Nat} : ∀ {es : List VV}, (∀ e ∈ es, e.cells.length = sz) → ∀ {i j : Nat} {e c : VV}, es[i]? = some e → e.cells[j]? = some c → (flatC es)[i * sz + j]? = some c
  | [], _, i, j, e, c, h, _ => by simp at h
  | a :: es, hs, 0, j, e, c, h, hc => by
    simp at h; subst h
    unfold flatC
    rw [List.flatMap_cons, Nat.zero_mul, Nat.zero_add, List.getElem?_append_left (List.getElem?_eq_some_iff.1 hc).1]; exact hc
  | a :: es, hs, i + 1, j, e, c, h, hc => by
    simp at h
    have h0 := hs a (by simp)
    have ih := flat_get (es := es) (fun e he => hs e (by simp [he])) h hc
    unfold flatC at ih ⊢
    rw [List.flatMap_cons, List.getElem?_append_right (by rw [h0, Nat.add_mul]; omega), h0, show (i + 1) * sz + j - sz = i * sz + j by rw [Nat.add_mul]; omega]
    exact ih
/-- A tree that never turns from now on is a value. -/
theorem RepT.repV {ty : Nat → Nat → Nat} {w : World} {I : Nat → Nat → Option Value} {T : Nat} {v : VV} {x : Value} {F : Nat → Prop} (h : RepT ty w T v x F) (hI : ∀ b, F b → ∀ j u, w.cell? ⟨b, j, none⟩ = some u → I b j = some u) : RepV I v x := by
  induction h with
  | int T k n F hF => exact .int _ _
  | bool T b F hF => exact .bool _
  | str T s F hF => exact .str _
  | row0 T F hF => exact .row0 _ _ fun _ => rfl
  | row es b cap T sz cur P F hz hzt hbb hn hm hs hsz h1 hh hP hd hF ih =>
    refine .row es b 0 cap sz (fun j => cur.getD j undef) hz hn (fun j hj => ?_) h1 (fun i e he => hsz e (List.mem_iff_getElem?.2 ⟨i, he⟩)) (fun i e j c he hc => ?_)
    · have hj' : j < cur.size := by
        have := Nat.mul_le_mul_right sz hn
        omega
      rw [Nat.zero_add]
      refine hI b ((hF b).2 (.inl rfl)) j _ ?_
      simp [World.cell?, hbb, Array.getD, hj']
    · have hc' := flat_get hsz he hc
      refine ih _ c hc' fun k hk => hI k ((hF k).2 (.inr ⟨_, ?_, hk⟩))
      rw [← flatC_len hsz]; exact (List.getElem?_eq_some_iff.1 hc').1

/-- What an object is in memory, at its place. -/
def ObR (C : Cx TT) (w : World) : Ob → Loc → Prop
  | .box cs, .box b => ∃ T vs, w.heap[b]? = some (.cells (List.toArray vs) T (0, 0)) ∧ FA (RepA C) cs vs ∧ (∀ u ∈ vs, u.oneCell' = true) ∧ ∀ j, C.I b j = none
  | .iter s p, .box b => w.heap[b]? = some (.stringIter s p) ∧ ∀ j, C.I b j = none
  | .vbox cs, .virt vs => FA (RepA C) cs vs ∧ ∀ u ∈ vs, u.oneCell' = true
  | .tree e sz es g, .own g' sz' v => g = g' ∧ sz = sz' ∧ 0 < sz ∧ ∃ xs, w.ownsRow 0 e sz v es.length xs
  | .hole _ sz _ g _ _ _, .own g' sz' _ => g = g' ∧ sz = sz' ∧ 0 < sz
  | .lost g sz, .own g' sz' _ => g = g' ∧ sz = sz' ∧ 0 < sz
  | .own e sz es g pin, .own g' sz' v => g = g' ∧ sz = sz' ∧ 0 < sz ∧ ∃ xs, w.ownsRow 0 e sz v es.length xs ∧ RowR C.I sz es xs ∧ ∀ b j u, v.ownBlock = some b → C.I b j = some u → pin = true ∧ j < es.length * sz
  | _, _ => False

def SizB (w : World) (b n : Nat) : Prop := match w.heap[b]? with
  | some (.cells cs _ _) => cs.size = n
  | _ => False
theorem SizB.lt {w : World} {b n : Nat} (h : SizB w b n) : b < w.heap.size := by
  unfold SizB at h
  cases e : w.heap[b]? with
  | none => rw [e] at h; exact h.elim
  | some o => exact (Array.getElem?_eq_some_iff.1 e).1
theorem SizB.of {w w' : World} {b n : Nat} (h : SizB w b n) (e : w'.heap[b]? = w.heap[b]?) : SizB w' b n := by unfold SizB at h ⊢; rw [e]; exact h
/-- A tree's row of which one cell is left out: what lies there. -/
def RepH (ty : Nat → Nat → Nat) (w : World) (T sz : Nat) (es : List VV) (m : Nat) (x u : Value) (F : Nat → Prop) : Prop :=
  ∃ (b cap : Nat) (cur : Array Value) (P : Nat → Nat → Prop), x = .slice (some ⟨b, 0, none⟩) es.length cap ∧ w.heap[b]? = some (.cells cur T (0, 0)) ∧ es.length ≤ cap ∧ cap ≤ maxLen ∧ cur.size = cap * sz ∧ (∀ e ∈ es, e.cells.length = sz) ∧
    (∀ i, i < es.length * sz → (cur.getD i undef).oneCell' = true) ∧ (m < es.length * sz ∧ 0 < sz ∧ sz = szT ty T) ∧ cur.getD m undef = u ∧ (∀ (i : Nat) c, i ≠ m → (flatC es)[i]? = some c → RepT ty w (ty T (i % sz)) c (cur.getD i undef) (P i)) ∧
    (∀ i, i < es.length * sz → ¬ P i b) ∧ (∀ i j k, i < es.length * sz → j < es.length * sz → P i k → P j k → i = j) ∧ (∀ k, ¬ P m k) ∧ ∀ k, F k ↔ k = b ∨ ∃ i, i < es.length * sz ∧ P i k
/-- A tree in memory; what is no tree has no blocks but its own. -/
def TrOK (C : Cx TT) (w : World) (id : Nat) : Option Ob → Prop
  | some (.tree e sz es g) => ∃ v, C.loc id = some (.own g sz v) ∧ RepT TT.ty w e (.row es) v (blk C id) ∧ ∀ k j, blk C id k → C.I k j = none
  | some (.hole e sz es g i off j) => ∃ v u, C.loc id = some (.own g sz v) ∧ RepH TT.ty w e sz es (i * sz + off) v u (blk C id) ∧ (∀ k j, blk C id k → C.I k j = none) ∧ id ≠ j ∧ ∃ g' sz' v', C.loc j = some (.own g' sz' v') ∧ (g' = 0 → v' = u)
  | some (.lost _ _) => True
  | _ => ∀ k, ¬ C.ft id k
/-- The memory: what never turns; boxes; rows of the call's own; each in a block of its own. -/
structure WR (C : Cx TT) (hp : Hp) (w : World) : Prop where
  inI : ∀ b j v, C.I b j = some v → w.cell? ⟨b, j, none⟩ = some v
  dom : ∀ id, hp id = none → C.loc id = none
  ob : ∀ id o, hp id = some o → ∃ l, C.loc id = some l ∧ ObR C w o l
  sep : ∀ id id' b, blk C id b → blk C id' b → id = id'
  lt : ∀ id b, blk C id b → b < w.heap.size
  inT : ∀ b j v, TT.c b j = some v → C.I b j = some v
  inZ : ∀ b n, TT.z b = some n → SizB w b n ∧ ∀ id, ¬ blk C id b
  tr : ∀ id, TrOK C w id (hp id)

/-- What lies outside of a call's own memory is as it was. -/
structure Fp (B : Nat) (S : Nat → Prop) (I0 I : Nat → Nat → Option Value) (w0 w : World) : Prop where
  os : w.os = w0.os
  tape : w.tape = w0.tape
  output : w.output = w0.output
  size : w0.heap.size ≤ w.heap.size
  block : ∀ k, k < B → ¬ S k → w.heap[k]? = w0.heap[k]?
  same : ∀ k j, k < B → ¬ S k → I k j = I0 k j
theorem Fp.refl (B S I w) : Fp B S I I w w := ⟨rfl, rfl, rfl, Nat.le_refl _, fun _ _ _ => rfl, fun _ _ _ _ => rfl⟩
theorem Fp.trans {B S I0 I1 I2 w0 w1 w2} (h : Fp B S I0 I1 w0 w1) (k : Fp B S I1 I2 w1 w2) : Fp B S I0 I2 w0 w2 :=
  ⟨k.os.trans h.os, k.tape.trans h.tape, k.output.trans h.output, Nat.le_trans h.size k.size, fun i hi hs => (k.block i hi hs).trans (h.block i hi hs), fun i j hi hs => (k.same i j hi hs).trans (h.same i j hi hs)⟩

theorem RowR.mono {I I' : Nat → Nat → Option Value} (hI : ∀ b j v, I b j = some v → I' b j = some v) {sz es xs} (h : RowR I sz es xs) : RowR I' sz es xs :=
  ⟨h.1, fun i e he => ⟨(h.2 i e he).1, fun j c hc => let ⟨u, hu, hr⟩ := (h.2 i e he).2 j c hc; ⟨u, hu, hr.mono hI⟩⟩⟩
theorem ownsRow_kept {w w' : World} {B e size v n xs} (h : w.ownsRow B e size v n xs) (hb : ∀ b, v.ownBlock = some b → w'.heap[b]? = w.heap[b]?) : w'.ownsRow B e size v n xs := by
  refine ⟨h.1, ?_⟩
  rcases h.2 with h0 | ⟨g, cap, cur, rfl, h1, h2, h3⟩
  · exact .inl h0
  · exact .inr ⟨g, cap, cur, rfl, h1, by rw [hb g rfl]; exact h2, h3⟩
theorem ObR.mono {C C' : Cx TT} {w w' : World} {o : Ob} {l : Loc} (h : ObR C w o l) (hl : Le C C') (hb : ∀ b, l.blk b → w'.heap[b]? = w.heap[b]? ∧ ∀ j, C'.I b j = C.I b j) : ObR C' w' o l := by
  cases o <;> cases l <;> try exact h.elim
  · obtain ⟨T, vs, h1, h2, h3, h4⟩ := h
    obtain ⟨k1, k2⟩ := hb _ rfl
    exact ⟨T, vs, by rw [k1]; exact h1, fa_imp (fun _ _ h => h.mono hl) h2, h3, fun j => by rw [k2]; exact h4 j⟩
  · obtain ⟨h1, h2, h3, xs, h4, h5, h6⟩ := h
    refine ⟨h1, h2, h3, xs, ownsRow_kept h4 fun b hb' => (hb b hb').1, h5.mono hl.I, fun b j u hb' hu => ?_⟩
    rw [(hb b hb').2] at hu
    exact h6 b j u hb' hu
  · obtain ⟨h1, h4⟩ := h
    obtain ⟨k1, k2⟩ := hb _ rfl
    exact ⟨by rw [k1]; exact h1, fun j => by rw [k2]; exact h4 j⟩
  · obtain ⟨h1, h2⟩ := h
    exact ⟨fa_imp (fun _ _ h => h.mono hl) h1, h2⟩
  · obtain ⟨h1, h2, h3, xs, h4⟩ := h
    exact ⟨h1, h2, h3, xs, ownsRow_kept h4 fun b hb' => (hb b hb').1⟩
  · exact h
  · exact h

def treeish : Ob → Bool
  | .tree .. => true
  | .hole .. => true
  | .lost .. => true
  | _ => false
theorem WR.no_ft {C : Cx TT} {hp : Hp} {w : World} (h : WR C hp w) (id : Nat) (hn : ∀ o, hp id = some o → treeish o = false) : ∀ k, ¬ C.ft id k := by
  have := h.tr id
  cases e : hp id with
  | none => rw [e] at this; exact this
  | some o =>
    rw [e] at this
    have h2 := hn o e
    cases o <;> first | exact this | cases h2
theorem RepH.kept {ty : Nat → Nat → Nat} {w w' : World} {T sz : Nat} {es : List VV} {m : Nat} {x u : Value} {F : Nat → Prop} (h : RepH ty w T sz es m x u F) (hb : ∀ b, F b → w'.heap[b]? = w.heap[b]?) : RepH ty w' T sz es m x u F := by
  obtain ⟨b, cap, cur, P, h1, h2, h3, h4, h5, h6, h7, h8, h9, h10, h11, h12, h13, h14⟩ := h
  refine ⟨b, cap, cur, P, h1, by rw [hb b ((h14 b).2 (.inl rfl))]; exact h2, h3, h4, h5, h6, h7, h8, h9, fun i c hi hc => (h10 i c hi hc).kept fun k hk => hb k ((h14 k).2 (.inr ⟨i, ?_, hk⟩)), h11, h12, h13, h14⟩
  rw [← flatC_len h6]; exact (List.getElem?_eq_some_iff.1 hc).1
theorem TrOK.mono {C C' : Cx TT} {w w' : World} {id : Nat} {o : Option Ob} (h : TrOK C w id o) (hloc : C'.loc id = C.loc id) (hft : C'.ft id = C.ft id) (hb : ∀ b, blk C id b → w'.heap[b]? = w.heap[b]? ∧ ∀ k, C'.I b k = C.I b k) (hl : ∀ j g sz v, C.loc j = some (.own g sz v) → ∃ g' v', C'.loc j = some (.own g' sz v') ∧ g ≤ g' ∧ (g = g' → v = v')) : TrOK C' w' id o := by
  have hbl : blk C' id = blk C id := by funext k; simp only [blk, hloc, hft]
  cases o with
  | none => intro k; rw [hft]; exact h k
  | some o =>
    cases o with
    | tree e sz es g =>
      obtain ⟨v, h1, h2, h3⟩ := h
      exact ⟨v, by rw [hloc]; exact h1, by rw [hbl]; exact h2.kept fun b hbb => (hb b hbb).1, fun k j hk => by rw [hbl] at hk; rw [(hb k hk).2]; exact h3 k j hk⟩
    | hole e sz es g i off j =>
      obtain ⟨v, u, h1, h2, h3, h4, g', sz', v', h5, h6⟩ := h
      obtain ⟨g2, v2, k1, k2, k3⟩ := hl _ _ _ _ h5
      exact ⟨v, u, by rw [hloc]; exact h1, by rw [hbl]; exact h2.kept fun b hbb => (hb b hbb).1, fun k j hk => by rw [hbl] at hk; rw [(hb k hk).2]; exact h3 k j hk, h4, g2, sz', v2, k1, fun e => by rw [← k3 (by omega)]; exact h6 (by omega)⟩
    | lost g sz => trivial
    | _ => intro k; rw [hft]; exact h k
/-- One object is new or has turned; the others are as they were. -/
theorem WR.updT {C C' : Cx TT} {hp : Hp} {w w' : World} (h : WR C hp w) (id : Nat) (o : Ob) (l : Loc) (hl : Le C C') (hloc : ∀ j, j ≠ id → C'.loc j = C.loc j) (hft : ∀ j, j ≠ id → C'.ft j = C.ft j) (hid : C'.loc id = some l)
    (hI : ∀ b j v, C'.I b j = some v → w'.cell? ⟨b, j, none⟩ = some v) (hsz : w.heap.size ≤ w'.heap.size)
    (hb : ∀ j, j ≠ id → ∀ b, blk C j b → w'.heap[b]? = w.heap[b]? ∧ ∀ k, C'.I b k = C.I b k)
    (ho : ObR C' w' o l) (ht : TrOK C' w' id (some o)) (hsep : ∀ j, j ≠ id → ∀ b, blk C j b → ¬ blk C' id b) (hlt : ∀ b, blk C' id b → b < w'.heap.size)
    (hz : ∀ b n, TT.z b = some n → b < w.heap.size → (∀ j, ¬ blk C j b) → w'.heap[b]? = w.heap[b]? ∧ ¬ blk C' id b) : WR C' (upd id o hp) w' := by
  have hbl : ∀ j, j ≠ id → blk C' j = blk C j := fun j hj => by funext k; simp only [blk, hloc j hj, hft j hj]
  refine ⟨hI, fun j hj => ?_, fun j o' hj => ?_, fun j j' b h1 h2 => ?_, fun j b h1 => ?_, fun b j v hh => hl.I _ _ _ (h.inT _ _ _ hh), fun b n hh => ?_, fun j => ?_⟩
  · unfold AM.upd at hj
    split at hj
    · cases hj
    · rename_i hne; rw [hloc j hne]; exact h.dom j hj
  · unfold AM.upd at hj
    split at hj
    · rename_i he; cases hj; subst he; exact ⟨l, hid, ho⟩
    · rename_i hne
      obtain ⟨l', hl', ho'⟩ := h.ob j o' hj
      refine ⟨l', by rw [hloc j hne]; exact hl', ho'.mono hl fun b hb' => hb j hne b (.inl (by rw [hl']; exact hb'))⟩
  · by_cases e1 : j = id
    · by_cases e2 : j' = id
      · rw [e1, e2]
      · subst e1; rw [hbl j' e2] at h2; exact absurd h1 (hsep j' e2 b h2)
    · by_cases e2 : j' = id
      · subst e2; rw [hbl j e1] at h1; exact absurd h2 (hsep j e1 b h1)
      · rw [hbl j e1] at h1; rw [hbl j' e2] at h2; exact h.sep j j' b h1 h2
  · by_cases e1 : j = id
    · subst e1; exact hlt b h1
    · rw [hbl j e1] at h1; exact Nat.lt_of_lt_of_le (h.lt j b h1) hsz
  · obtain ⟨s1, s2⟩ := h.inZ b n hh
    obtain ⟨k1, k2⟩ := hz b n hh s1.lt s2
    refine ⟨s1.of k1, fun j => ?_⟩
    by_cases e : j = id
    · subst e; exact k2
    · rw [hbl j e]; exact s2 j
  · unfold AM.upd
    by_cases e : j = id
    · subst e; rw [if_pos rfl]; exact ht
    · rw [if_neg e]; exact (h.tr j).mono (hloc j e) (hft j e) (hb j e) hl.own
theorem WR.upd {C C' : Cx TT} {hp : Hp} {w w' : World} (h : WR C hp w) (id : Nat) (hno : ∀ k, ¬ C.ft id k) (o : Ob) (l : Loc) (hl : Le C C') (hloc : ∀ j, j ≠ id → C'.loc j = C.loc j) (hid : C'.loc id = some l)
    (hI : ∀ b j v, C'.I b j = some v → w'.cell? ⟨b, j, none⟩ = some v) (hsz : w.heap.size ≤ w'.heap.size)
    (hb : ∀ j, j ≠ id → ∀ b, blk C j b → w'.heap[b]? = w.heap[b]? ∧ ∀ k, C'.I b k = C.I b k)
    (ho : ObR C' w' o l) (hsep : ∀ j, j ≠ id → ∀ b, blk C j b → ¬ l.blk b) (hlt : ∀ b, l.blk b → b < w'.heap.size)
    (hz : ∀ b, b < w.heap.size → (∀ j, ¬ blk C j b) → w'.heap[b]? = w.heap[b]? ∧ ¬ l.blk b) (hft : C'.ft = C.ft := by rfl) (hnt : treeish o = false := by rfl) : WR C' (upd id o hp) w' := by
  have hbi : ∀ b, blk C' id b → l.blk b := fun b hb => by
    rcases hb with h1 | h1
    · rw [hid] at h1; exact h1
    · rw [hft] at h1; exact absurd h1 (hno b)
  refine h.updT id o l hl hloc (fun j _ => by rw [hft]) hid hI hsz hb ho ?_ (fun j hj b h1 h2 => hsep j hj b h1 (hbi b h2)) (fun b h1 => hlt b (hbi b h1)) (fun b _ _ h1 h2 => ⟨(hz b h1 h2).1, fun h3 => (hz b h1 h2).2 (hbi b h3)⟩)
  cases o <;> first | (cases hnt; done) | (intro k; rw [hft]; exact hno k)

/-- A step's frame. -/
structure Stp (C C' : Cx TT) (w w' : World) : Prop where
  I : ∀ b j v, C.I b j = some v → C'.I b j = some v
  low : ∀ id, id < 16 → C'.loc id = none ∨ (∃ b, C.loc id = some (.box b) ∧ C'.loc id = some (.box b)) ∨ (∃ g sz v g' v', C.loc id = some (.own g sz v) ∧ C'.loc id = some (.own g' sz v') ∧ g ≤ g' ∧ (g = g' → v = v')) ∨ ∃ vs, C.loc id = some (.virt vs) ∧ C'.loc id = some (.virt vs)
  fp : Fp w.heap.size (fun b => ∃ id, blk C id b) C.I C'.I w w'
  new : ∀ id b, blk C' id b → w.heap.size ≤ b ∨ ∃ id', blk C id' b
theorem Stp.refl (C : Cx TT) (w) : Stp C C w w := ⟨fun _ _ _ h => h, fun id _ => by
  cases h : C.loc id with
  | none => exact .inl rfl
  | some l => cases l with
    | box b => exact .inr (.inl ⟨b, rfl, rfl⟩)
    | own g sz v => exact .inr (.inr (.inl ⟨g, sz, v, g, v, rfl, rfl, Nat.le_refl _, fun _ => rfl⟩))
    | virt vs => exact .inr (.inr (.inr ⟨vs, rfl, rfl⟩)), Fp.refl _ _ _ _, fun id b h => .inr ⟨id, h⟩⟩
theorem Stp.trans {A B C : Cx TT} {a b c : World} (h : Stp A B a b) (k : Stp B C b c) : Stp A C a c := by
  refine ⟨fun x j v hh => k.I _ _ _ (h.I _ _ _ hh), fun id hid => ?_, ?_, fun id x hh => ?_⟩
  · rcases k.low id hid with h1 | ⟨x, h1, h2⟩ | ⟨g, sz, v, g', v', h1, h2, h3, h4⟩ | ⟨vs, h1, h2⟩
    · exact .inl h1
    · rcases h.low id hid with k1 | ⟨y, k1, k2⟩ | ⟨g, sz, v, g', v', k1, k2, k3, k4⟩ | ⟨vs, k1, k2⟩
      · rw [h1] at k1; cases k1
      · rw [h1] at k2; cases k2; exact .inr (.inl ⟨x, k1, h2⟩)
      · rw [h1] at k2; cases k2
      · rw [h1] at k2; cases k2
    · rcases h.low id hid with k1 | ⟨y, k1, k2⟩ | ⟨g1, sz1, v1, g1', v1', k1, k2, k3, k4⟩ | ⟨vs, k1, k2⟩
      · rw [h1] at k1; cases k1
      · rw [h1] at k2; cases k2
      · rw [h1] at k2; cases k2
        refine .inr (.inr (.inl ⟨g1, sz, v1, g', v', k1, h2, by omega, fun e => ?_⟩))
        have a1 : g1 = g := by omega
        have a2 : g = g' := by omega
        rw [k4 a1, h4 a2]
      · rw [h1] at k2; cases k2
    · rcases h.low id hid with k1 | ⟨y, k1, k2⟩ | ⟨g1, sz1, v1, g1', v1', k1, k2, k3, k4⟩ | ⟨us, k1, k2⟩
      · rw [h1] at k1; cases k1
      · rw [h1] at k2; cases k2
      · rw [h1] at k2; cases k2
      · rw [h1] at k2; cases k2; exact .inr (.inr (.inr ⟨vs, k1, h2⟩))
  · have hh := h.fp
    have kk := k.fp
    have key : ∀ x, x < a.heap.size → (¬ ∃ id, blk A id x) → ¬ ∃ id, blk B id x := fun x hx hn ⟨id, hid⟩ => by
      rcases h.new id x hid with h1 | h1
      · omega
      · exact hn h1
    exact ⟨kk.os.trans hh.os, kk.tape.trans hh.tape, kk.output.trans hh.output, Nat.le_trans hh.size kk.size,
      fun x hx hn => (kk.block x (Nat.lt_of_lt_of_le hx hh.size) (key x hx hn)).trans (hh.block x hx hn),
      fun x j hx hn => (kk.same x j (Nat.lt_of_lt_of_le hx hh.size) (key x hx hn)).trans (hh.same x j hx hn)⟩
  · rcases k.new id x hh with h1 | ⟨id', h1⟩
    · exact .inl (Nat.le_trans h.fp.size h1)
    · exact h.new id' x h1
/-- A step that turns the object id alone. -/
theorem Stp.of {C C' : Cx TT} {w w' : World} (hl : Le C C') (id : Nat) (hno : ∀ k, ¬ C.ft id k) (hloc : ∀ j, j ≠ id → C'.loc j = C.loc j) (hid : 16 ≤ id ∨ C.loc id ≠ none) (l : Loc) (hl' : C'.loc id = some l)
    (hos : w'.os = w.os) (htape : w'.tape = w.tape) (hout : w'.output = w.output) (hsz : w.heap.size ≤ w'.heap.size)
    (hb : ∀ k, k < w.heap.size → ¬ blk C id k → w'.heap[k]? = w.heap[k]? ∧ ∀ j, C'.I k j = C.I k j) (hn : ∀ b, l.blk b → w.heap.size ≤ b ∨ blk C id b) (hft : C'.ft = C.ft := by rfl) : Stp C C' w w' := by
  refine ⟨hl.I, fun j hj => ?_, ⟨hos, htape, hout, hsz, fun k hk hs => (hb k hk fun e => hs ⟨id, e⟩).1, fun k j hk hs => (hb k hk fun e => hs ⟨id, e⟩).2 j⟩, fun j b h => ?_⟩
  · cases h : C.loc j with
    | none =>
      by_cases e : j = id
      · subst e; rcases hid with h1 | h1
        · omega
        · exact absurd h h1
      · rw [hloc j e, h]; exact .inl rfl
    | some l0 => cases l0 with
      | box b => exact .inr (.inl ⟨b, rfl, hl.box _ _ h⟩)
      | own g sz v => obtain ⟨g', v', h1, h2, h3⟩ := hl.own _ _ _ _ h; exact .inr (.inr (.inl ⟨g, sz, v, g', v', rfl, h1, h2, h3⟩))
      | virt vs => exact .inr (.inr (.inr ⟨vs, rfl, hl.virt _ _ h⟩))
  · by_cases e : j = id
    · subst e
      have : l.blk b := by
        rcases h with h1 | h1
        · rw [hl'] at h1; exact h1
        · rw [hft] at h1; exact absurd h1 (hno b)
      rcases hn b this with h1 | h1
      · exact .inl h1
      · exact .inr ⟨j, h1⟩
    · exact .inr ⟨j, by unfold blk at h ⊢; rw [hloc j e, hft] at h; exact h⟩

def Cx.set (C : Cx TT) (id : Nat) (l : Loc) : Cx TT := { C with loc := fun j => if j = id then some l else C.loc j }
theorem Cx.set_same (C : Cx TT) (id : Nat) (l : Loc) : (C.set id l).loc id = some l := by simp [Cx.set]
theorem Cx.set_ne (C : Cx TT) (id : Nat) (l : Loc) (j : Nat) (h : j ≠ id) : (C.set id l).loc j = C.loc j := by simp [Cx.set, h]
theorem Cx.set_le {C : Cx TT} {id : Nat} (l : Loc) (h : C.loc id = none) : Le C (C.set id l) :=
  ⟨fun _ _ _ h => h, fun j b hj => by rw [C.set_ne id l j (fun e => by subst e; rw [h] at hj; cases hj)]; exact hj, fun j g sz v hj => ⟨g, v, by rw [C.set_ne id l j (fun e => by subst e; rw [h] at hj; cases hj)]; exact hj, Nat.le_refl _, fun _ => rfl⟩, fun j vs hj => by rw [C.set_ne id l j (fun e => by subst e; rw [h] at hj; cases hj)]; exact hj⟩

end Go.Proofs.YtccldchklemogaaW.AM
