/- What came in reads as values without memory; a law that answers true at them. -/
import Derived.Test.YtccldchklemogaaAm15
import Derived.OpenShut
import Derived.Deep.Slices
import Derived.DataReads
set_option linter.unusedVariables false
set_option linter.unusedSimpArgs false
namespace Go.Proofs.YtccldchklemogaaW.AM
open Go Go.RowKit
variable {TT : Tab}

def cellI (w : World) : Nat → Nat → Option Value := fun b j => w.cell? ⟨b, j, none⟩
def C0 (w : World) : Cx TT := ⟨cellI w, fun _ => none, fun _ _ => False⟩
def OpC (w : World) (sz : Nat) (vs : List VV) (cs : List Value) : Prop := cs.length = sz ∧ FA (RepV (cellI w)) vs cs ∧ ∀ u ∈ cs, u.oneCell' = true
/-- What is read of a type with so much fuel is what e tells, and meets Q. -/
def OpA {α : Type} (P : Program) (n sz : Nat) (e : α → List VV) (Q : α → Prop) (t : TypeId) : Prop :=
  ∀ (H : Type) (enc : TypeId × Value → H) (w : World) (base : Nat) (spare : Nat → Bool) (held : Bool) (cs : List Value) (x : DataW H × List MemPlace),
    DataW.trod enc P w base spare held n t cs = some x → ∃ y, OpC w sz (e y) cs ∧ Q y
section
variable {P : Program} {t e : TypeId} {n : Nat}
theorem opA_int {k : IntKind} (ht : P.underlying t = some (.int k)) (n : Nat) : OpA P n 1 (fun z => [VV.int k z]) (fun z => (Lit.int k z).wf = true) t := by
  intro H enc w base spare held cs x h
  obtain ⟨m, rfl, _, hw⟩ := DataW.trod_int ht h
  exact ⟨m, ⟨rfl, .cons (.int _ _) .nil, by simp [Value.oneCell']⟩, hw⟩
theorem opA_bool (ht : P.underlying t = some .bool) (n : Nat) : OpA P n 1 (fun z => [VV.bool z]) (fun _ => True) t := by
  intro H enc w base spare held cs x h
  obtain ⟨m, rfl, _⟩ := DataW.trod_bool ht h
  exact ⟨m, ⟨rfl, .cons (.bool _) .nil, by simp [Value.oneCell']⟩, trivial⟩
theorem opA_string (ht : P.underlying t = some .string) (n : Nat) : OpA P n 1 (fun z => [VV.str z]) (fun s => s.size ≤ maxLen) t := by
  intro H enc w base spare held cs x h
  obtain ⟨m, rfl, _, hs⟩ := DataW.trod_string ht h
  exact ⟨m, ⟨rfl, .cons (.str _) .nil, by simp [Value.oneCell']⟩, hs⟩
theorem list_ofA {α : Type} {p : Nat → α → Prop} : ∀ n, (∀ i, i < n → ∃ x, p i x) → ∃ l : List α, l.length = n ∧ ∀ i y, l[i]? = some y → p i y
  | 0, _ => ⟨[], rfl, fun i y h => by simp at h⟩
  | n + 1, h => by
    obtain ⟨l, hl, hp⟩ := list_ofA n (fun i hi => h i (by omega))
    obtain ⟨x, hx⟩ := h n (by omega)
    refine ⟨l ++ [x], by simp [hl], fun i y hy => ?_⟩
    rcases Nat.lt_or_ge i n with hi | hi
    · rw [List.getElem?_append_left (by omega)] at hy
      exact hp i y hy
    · have hlt := (List.getElem?_eq_some_iff.1 hy).1
      rw [List.length_append, List.length_singleton, hl] at hlt
      have : i = n := by omega
      subst this
      rw [List.getElem?_append_right (by omega), hl] at hy
      simp at hy
      subst hy
      exact hx
theorem opA_slice {α : Type} {sz : Nat} (E : α → VV) {Q : α → Prop} (ht : P.underlying t = some (.slice e)) (hc : P.cellsOf e = sz) (h0 : 0 < sz) (n : Nat) (hd : ∀ m, m < n → OpA P m sz (fun y => (E y).cells) Q e) :
    OpA P n 1 (fun xs : List α => [VV.row (xs.map E)]) (fun xs => xs.length ≤ maxLen ∧ ∀ x ∈ xs, Q x) t := by
  intro H enc w base spare held cs x h
  rcases DataW.trod_slice ht h with ⟨rfl, _⟩ | ⟨a, len, cap, elems, rest, m, hn, rfl, _, hb, hl, hm, hlen, hel, _, _⟩
  · exact ⟨[], ⟨rfl, .cons (.row0 _ _ fun _ => rfl) .nil, by simp [Value.oneCell']⟩, by simp [maxLen], by simp⟩
  · have one : ∀ i, i < len → ∃ y, Q y ∧ ∃ c, OpC w sz (E y).cells c ∧ ∀ j, j < sz → w.cell? (a.add (i * sz + j)) = c[j]? := by
      intro i hi
      have h1 := hel i hi
      rw [List.getElem?_eq_getElem (by omega)] at h1
      obtain ⟨c, h2, h3⟩ := Option.bind_eq_some_iff.1 h1
      obtain ⟨y, hy, hQ⟩ := hd m (by omega) H enc w base spare held c _ h3
      obtain ⟨_, hcl, hcell⟩ := World.cells?_some h2
      refine ⟨y, hQ, c, hy, fun j hj => ?_⟩
      have := hcell j (by omega)
      rw [Go.Deep.add_add, hc] at this
      exact this
    obtain ⟨xs, hxl, hxs⟩ := list_ofA len one
    have hQ : ∀ x ∈ xs, Q x := fun y hy => by
      obtain ⟨j, hj⟩ := List.getElem?_of_mem hy
      exact (hxs j y hj).1
    refine ⟨xs, ⟨rfl, .cons ?_ .nil, by simp [Value.oneCell']⟩, by omega, hQ⟩
    subst hxl
    by_cases hz : xs.length = 0
    · rw [List.eq_nil_of_length_eq_zero hz]
      exact .row0 _ _ fun h => by cases h
    · have hsp : a.spot = none := by
        obtain ⟨x0, hx0⟩ : ∃ x0, xs[0]? = some x0 := ⟨xs[0], List.getElem?_eq_getElem (by omega)⟩
        obtain ⟨_, c, hoc, hcell⟩ := hxs 0 x0 hx0
        have := hcell 0 h0
        rw [List.getElem?_eq_getElem (by have := hoc.1; omega)] at this
        unfold World.cell? at this
        split at this
        · split at this
          · cases this
          · rename_i hs
            simpa [Addr.add] using hs
        · cases this
      obtain ⟨b, off, sp⟩ := a
      subst hsp
      have key : ∀ i y, xs[i]? = some y → ∃ c, OpC w sz (E y).cells c ∧ ∀ j, j < sz → cellI w b (off + (i * sz + j)) = c[j]? := fun i y hy => by
        obtain ⟨_, c, h1, h2⟩ := hxs i y hy
        exact ⟨c, h1, fun j hj => by
          have := h2 j hj
          simp only [Addr.add] at this
          split at this
          · rename_i h0; rw [h0]; exact this
          · exact this⟩
      have hu : ∀ j, j < xs.length * sz → ∃ u, cellI w b (off + j) = some u ∧ u.oneCell' = true := fun j hj => by
        have hi : j / sz < xs.length := Nat.div_lt_of_lt_mul (by rw [Nat.mul_comm]; exact hj)
        obtain ⟨c, hoc, hcell⟩ := key (j / sz) _ (List.getElem?_eq_getElem hi)
        have hm : j % sz < sz := Nat.mod_lt _ h0
        have h1 := hcell _ hm
        rw [Nat.mul_comm, Nat.div_add_mod] at h1
        have hlt : j % sz < c.length := by have := hoc.1; omega
        rw [List.getElem?_eq_getElem hlt] at h1
        exact ⟨_, h1, hoc.2.2 _ (List.getElem_mem _)⟩
      have := RepV.row (I := cellI w) (xs.map E) b off cap sz (fun j => (cellI w b (off + j)).getD undef) h0 (by simpa using hl)
        (fun j hj => by obtain ⟨u, h1, _⟩ := hu j (by simpa using hj); rw [h1]; rfl)
        (fun j hj => by obtain ⟨u, h1, h2⟩ := hu j (by simpa using hj); rw [h1]; exact h2)
        (fun i v hv => by
          rw [List.getElem?_map] at hv
          obtain ⟨y, hy, rfl⟩ := Option.map_eq_some_iff.1 hv
          obtain ⟨c, hoc, _⟩ := key i y hy
          rw [fa_len hoc.2.1]; exact hoc.1)
        (fun i v j c hv hcv => by
          rw [List.getElem?_map] at hv
          obtain ⟨y, hy, rfl⟩ := Option.map_eq_some_iff.1 hv
          obtain ⟨cs, hoc, hcell⟩ := key i y hy
          obtain ⟨u, h1, h2⟩ := fa_get hoc.2.1 hcv
          have hj : j < sz := by have := (List.getElem?_eq_some_iff.1 h1).1; have := hoc.1; omega
          show RepV (cellI w) c ((cellI w b (off + (i * sz + j))).getD undef)
          rw [hcell j hj, h1]; exact h2)
      simpa using this
/-- A struct's fields from one on, whose cells begin at o. -/
def FlA {α : Type} (P : Program) (n : Nat) (fs : List Field) (o sz : Nat) (e : α → List VV) (Q : α → Prop) : Prop :=
  ∀ (H : Type) (enc : TypeId × Value → H) (w : World) (base : Nat) (spare : Nat → Bool) (held : Bool) (cs : List Value), cs.length = o + sz →
    (∀ f, f ∈ fs → ∃ x, DataW.trod enc P w base spare held n f.type ((cs.drop f.offset).take (P.cellsOf f.type)) = some x) → ∃ y, OpC w sz (e y) (cs.drop o) ∧ Q y
theorem flA_one {α : Type} {sz : Nat} {d : α → List VV} {Q : α → Prop} {f : Field} {o n : Nat} (ho : f.offset = o) (hc : P.cellsOf f.type = sz) (hd : OpA P n sz d Q f.type) : FlA P n [f] o sz d Q := by
  intro H enc w base spare held cs hl h
  obtain ⟨x, hx⟩ := h f List.mem_cons_self
  rw [ho, hc, List.take_of_length_le (by rw [List.length_drop]; omega)] at hx
  exact hd H enc w base spare held _ _ hx
theorem flA_cons {α β : Type} {s1 s2 : Nat} {d : α → List VV} {d' : β → List VV} {Q : α → Prop} {Q' : β → Prop} {f : Field} {fs : List Field} {o n : Nat} (ho : f.offset = o) (hc : P.cellsOf f.type = s1) (hd : OpA P n s1 d Q f.type) (hr : FlA P n fs (o + s1) s2 d' Q') :
    FlA P n (f :: fs) o (s1 + s2) (fun y : α × β => d y.1 ++ d' y.2) (fun y => Q y.1 ∧ Q' y.2) := by
  intro H enc w base spare held cs hl h
  obtain ⟨x, hx⟩ := h f List.mem_cons_self
  obtain ⟨y2, hy2, hq2⟩ := hr H enc w base spare held cs (by omega) (fun g hg => h g (List.mem_cons_of_mem _ hg))
  rw [ho, hc] at hx
  obtain ⟨y1, hy1, hq1⟩ := hd H enc w base spare held _ _ hx
  have e1 : cs.drop o = (cs.drop o).take s1 ++ cs.drop (o + s1) := by rw [← List.drop_drop, List.take_append_drop]
  refine ⟨(y1, y2), ⟨by rw [List.length_drop]; omega, ?_, ?_⟩, hq1, hq2⟩
  · rw [e1]; exact fa_app hy1.2.1 hy2.2.1
  · intro u hu
    rw [e1] at hu
    rcases List.mem_append.1 hu with hu | hu
    · exact hy1.2.2 u hu
    · exact hy2.2.2 u hu
theorem opA_struct {α : Type} {sz : Nat} {d : α → List VV} {Q : α → Prop} {fs : Array Field} (ht : P.underlying t = some (.struct fs)) (hc : P.cellsOf t = sz) (n : Nat) (hd : ∀ m, m < n → FlA P m fs.toList 0 sz d Q) : OpA P n sz d Q t := by
  intro H enc w base spare held cs x h
  obtain ⟨xs, m, hn, _, hl, hxl, hf⟩ := DataW.trod_struct ht h
  obtain ⟨y, hy, hq⟩ := hd m (by omega) H enc w base spare held cs (by rw [hl, hc, Nat.zero_add]) (fun f hf0 => by
    obtain ⟨i, hi⟩ := List.getElem?_of_mem hf0
    have hi' : fs[i]? = some f := by rw [← hi, Array.getElem?_toList]
    have hlt : i < xs.length := by
      have := (List.getElem?_eq_some_iff.1 hi).1
      rw [hxl]
      simpa using this
    exact ⟨xs[i], by rw [hf i f hi', List.getElem?_eq_getElem hlt]⟩)
  exact ⟨y, by simpa using hy, hq⟩
theorem opA_iso {α β : Type} {sz n : Nat} {d : α → List VV} {d' : β → List VV} {Q : α → Prop} (f : β → α) (g : α → β) (hfg : ∀ x, f (g x) = x) (hd : OpA P n sz d Q t) (he : ∀ y, d' (g y) = d y) : OpA P n sz d' (fun y => Q (f y)) t := by
  intro H enc w base spare held cs x h
  obtain ⟨y, hy, hq⟩ := hd H enc w base spare held cs x h
  exact ⟨g y, by rw [he]; exact hy, show Q (f (g y)) by rw [hfg]; exact hq⟩
theorem opA_conv {α β : Type} {sz n : Nat} {d : α → List VV} {d' : β → List VV} {Q : α → Prop} {Q' : β → Prop} (hd : OpA P n sz d Q t) (g : α → β) (he : ∀ y, d' (g y) = d y) (hq : ∀ y, Q y → Q' (g y)) : OpA P n sz d' Q' t := by
  intro H enc w base spare held cs x h
  obtain ⟨y, hy, q⟩ := hd H enc w base spare held cs x h
  exact ⟨g y, by rw [he]; exact hy, hq y q⟩
theorem strong {p : Nat → Prop} (h : ∀ n, (∀ m, m < n → p m) → p n) : ∀ n, p n := fun n => Nat.strongRecOn n h
section
variable {α H : Type} {Q : α → Prop} {enc : TypeId × Value → H} {w : World} {base b0 : Nat} {spare : Nat → Bool} {held : Bool} {r : Reach} {v : Value} {D : DataW H} {ps : List MemPlace}
/-- A parameter that is one cell. -/
theorem arg_one {E : α → VV} (hd : ∀ n, OpA P n 1 (fun y => [E y]) Q t) (h : DataW.Trod enc P w base spare held t v D ps) (hv : v.cells.toList = [v]) : ∃ y, RepV (cellI w) (E y) v ∧ Q y := by
  obtain ⟨n, hn⟩ := h
  obtain ⟨y, ⟨_, hy, _⟩, hq⟩ := hd n H enc w base spare held _ _ hn
  rw [hv] at hy
  cases hy with
  | cons h _ => exact ⟨y, h, hq⟩
/-- A parameter of a struct type. -/
theorem arg_struct {sz : Nat} {d : α → List VV} {fs : Array Field} (ht : P.underlying t = some (.struct fs)) (hd : ∀ n, OpA P n sz d Q t) (hval : Value.okWide P w r b0 t v) (h : DataW.Trod enc P w base spare held t v D ps) : ∃ y, RepV (cellI w) (.agg (d y)) v ∧ Q y := by
  unfold Value.okWide at hval
  rw [ht] at hval
  obtain ⟨cs, rfl, _, _⟩ := hval
  obtain ⟨n, hn⟩ := h
  obtain ⟨y, ⟨_, hy, h1⟩, hq⟩ := hd n H enc w base spare held _ _ hn
  have hy' : FA (RepV (cellI w)) (d y) cs.toList := hy
  refine ⟨y, ?_, hq⟩
  have := RepV.agg (I := cellI w) (d y) cs.toList (fa_len hy').symm (fun i u hu => h1 u (List.mem_iff_getElem?.2 ⟨i, hu⟩)) (fun i c u hc hu => by
    obtain ⟨u', h2, h3⟩ := fa_get hy' hc
    rw [hu] at h2; cases h2; exact h3)
  rw [show cs = cs.toList.toArray by simp]
  exact this
end
end
/-- The world holds what the table tells. -/
def TabW (T : Tab) (w : World) : Prop := (∀ b j v, T.c b j = some v → cellI w b j = some v) ∧ ∀ b n, T.z b = some n → SizB w b n
theorem cell_at {w : World} {b j : Nat} {cs : Array Value} {t f} (e : w.heap[b]? = some (.cells cs t f)) : cellI w b j = cs[j]? := by
  unfold cellI World.cell?
  rw [show (⟨b, j, none⟩ : Addr).block = b from rfl, e]
  rfl
/-- A variable of the world by the table that tells its cells. -/
theorem var_of {T : Tab} {w : World} {P : Program} {name : String} {g : Nat} {vs : List Value} (hg : P.globalNamed name = some g) (hT : TabW T w) (hz : T.z g = some vs.length) (hc : ∀ (j : Nat) v, vs[j]? = some v → T.c g j = some v) : w.var? P name = some vs.toArray := by
  have h1 := hT.2 g _ hz
  unfold SizB at h1
  unfold World.var?
  rw [hg]
  show (match w.heap[g]? with | some (.cells cs _ _) => some cs | _ => none) = _
  cases e : w.heap[g]? with
  | none => rw [e] at h1; exact h1.elim
  | some o =>
    cases o <;> rw [e] at h1 <;> try exact h1.elim
    rename_i cs t f
    show some cs = some vs.toArray
    congr 1
    apply Array.ext
    · simpa using h1
    · intro i h2 h3
      have h3' : i < vs.length := by simpa using h3
      have := hT.1 g i _ (hc i _ (List.getElem?_eq_getElem h3'))
      rw [cell_at e, Array.getElem?_eq_getElem h2] at this
      simpa using Option.some.inj this
theorem of_var {w : World} {P : Program} {name : String} {g : Nat} {vs : List Value} (hg : P.globalNamed name = some g) (h : w.var? P name = some vs.toArray) : SizB w g vs.length ∧ ∀ (j : Nat) v, vs[j]? = some v → cellI w g j = some v := by
  unfold World.var? at h
  rw [hg] at h
  have h : (match w.heap[g]? with | some (.cells cs _ _) => some cs | _ => none) = some vs.toArray := h
  unfold SizB
  cases e : w.heap[g]? with
  | none => rw [e] at h; cases h
  | some o =>
    rw [e] at h
    cases o with
    | cells cs t f =>
      have h2 : cs = vs.toArray := Option.some.inj h
      subst h2
      refine ⟨by simp, fun j v hv => ?_⟩
      rw [cell_at e]
      simpa using hv
    | _ => cases h
theorem C0_wr (w : World) (hT : TabW TT w) : WR (C0 (TT := TT) w) (heap0 []) w :=
  ⟨fun _ _ _ h => h, fun _ _ => rfl, fun id o h => by simp [heap0] at h, fun _ _ _ h => by simp [blk, C0, blkO] at h, fun _ _ h => by simp [blk, C0, blkO] at h, hT.1, fun b n hh => ⟨hT.2 b n hh, fun id h => by simp [blk, C0, blkO] at h⟩, fun id => by simp [heap0, TrOK, C0]⟩
/-- A law that answers true. -/
theorem law_true {G : Env} (hG : G.Ok) (hO : CFS G G.orc) {f : FuncId} {as : List A0} {W : World} {args : List Value} (hT : TabW G.tab W) (h : CE G f as [] [.val (.bool true)] []) (hr : FA (RepA (C0 (TT := G.tab) W)) as args) :
    Calls G.P f args.toArray W fun e W' => e = .returned (.bool true) ∧ Below W.heap.size W W' := by
  refine (CE_sound hG hO f as [] _ [] h (C0 W) W args hr (C0_wr W hT) (Nat.zero_le _)).mono fun e W' he => ?_
  obtain ⟨x, C', rfl, hx, _, hs, _⟩ := he
  have hx' : RepV C'.I (.bool true) x := hx
  generalize x = y at hx'
  cases hx'
  refine ⟨rfl, hs.fp.os, hs.fp.tape, hs.fp.output, hs.fp.size, fun k hk => hs.fp.block k hk fun ⟨id, hid⟩ => by simp [blk, C0, blkO] at hid⟩
end Go.Proofs.YtccldchklemogaaW.AM
