/- An argument that reads as data is of its kind: whole numbers, bools, strings, slices, structs, types nested in themselves. -/
import Derived.Test.YtehefologhfdhaaWWords
import Derived.Deep.Slices
import Derived.OpenShut
namespace Go.Proofs.YtehefologhfdhaaW.Opens
open Go.ChangeShapes Go.WideShapes Go.Proofs.YtehefologhfdhaaW.PrintWords

/-- What is read of type t with so much fuel is of the kind d, and meets Q. -/
def OpensAt {α : Type} (P : Program) (n : Nat) (d : Kd α) (Q : α → Prop) (t : TypeId) : Prop :=
  ∀ (H : Type) (enc : TypeId × Value → H) (w : World) (base : Nat) (spare : Nat → Bool) (held : Bool) (cs : List Value) (x : DataW H × List MemPlace),
    DataW.trod enc P w base spare held n t cs = some x → ∃ y, d.K w y cs ∧ Q y

def Opens {α : Type} (P : Program) (d : Kd α) (Q : α → Prop) (t : TypeId) : Prop := ∀ n, OpensAt P n d Q t

section
variable {P : Program} {t e : TypeId}

theorem opens_int {k : IntKind} (ht : P.underlying t = some (.int k)) : Opens P (Kd.int k) (fun n => (Lit.int k n).wf = true) t := by
  intro n H enc w base spare held cs x h
  obtain ⟨m, rfl, _, hw⟩ := DataW.trod_int ht h
  exact ⟨m, rfl, hw⟩

theorem opens_bool (ht : P.underlying t = some .bool) : Opens P Kd.bool (fun _ => True) t := by
  intro n H enc w base spare held cs x h
  obtain ⟨m, rfl, _⟩ := DataW.trod_bool ht h
  exact ⟨m, rfl, trivial⟩

theorem opens_string (ht : P.underlying t = some .string) : Opens P Kd.string (fun s => s.size ≤ maxLen) t := by
  intro n H enc w base spare held cs x h
  obtain ⟨m, rfl, _, hs⟩ := DataW.trod_string ht h
  exact ⟨m, rfl, hs⟩

theorem list_of {α : Type} {p : Nat → α → Prop} : ∀ n, (∀ i, i < n → ∃ x, p i x) → ∃ l : List α, l.length = n ∧ ∀ i y, l[i]? = some y → p i y
  | 0, _ => ⟨[], rfl, fun i y h => by simp at h⟩
  | n + 1, h => by
    obtain ⟨l, hl, hp⟩ := list_of n (fun i hi => h i (by omega))
    obtain ⟨x, hx⟩ := h n (by omega)
    refine ⟨l ++ [x], by simp [hl], fun i y hy => ?_⟩
    rcases Nat.lt_or_ge i n with hi | hi
    · rw [List.getElem?_append_left (by omega)] at hy
      exact hp i y hy
    · have hlt := (List.getElem?_eq_some_iff.1 hy).1
      rw [List.length_append, List.length_singleton, hl] at hlt
      have : i = n := by omega
      subst this
      rw [List.getElem?_append_right (by omega), hl] at hy
      simp at hy
      subst hy
      exact hx

theorem opensAt_slice {α : Type} {d : Kd α} {Q : α → Prop} (ht : P.underlying t = some (.slice e)) (hc : P.cellsOf e = d.sz) (n : Nat) (hd : ∀ m, m < n → OpensAt P m d Q e) :
    OpensAt P n (Kd.slice e d) (fun xs => xs.length ≤ maxLen ∧ ∀ x ∈ xs, Q x) t := by
  intro H enc w base spare held cs x h
  rcases DataW.trod_slice ht h with ⟨rfl, _⟩ | ⟨a, len, cap, elems, rest, m, hn, rfl, _, hb, hl, hm, hlen, hel, _, _⟩
  · exact ⟨[], ⟨none, 0, rfl, Nat.le_refl _, rfl, by simp, fun h => absurd h (by simp)⟩, by simp [maxLen], by simp⟩
  · have one : ∀ i, i < len → ∃ y, Q y ∧ ∃ c, c.length = d.sz ∧ d.K w y c ∧ ∀ j u, c[j]? = some u → w.cell? (a.add (i * d.sz + j)) = some u := by
      intro i hi
      have h1 := hel i hi
      rw [List.getElem?_eq_getElem (by omega)] at h1
      obtain ⟨c, h2, h3⟩ := Option.bind_eq_some_iff.1 h1
      obtain ⟨y, hy, hQ⟩ := hd m (by omega) H enc w base spare held c _ h3
      obtain ⟨_, hcl, hcell⟩ := World.cells?_some h2
      refine ⟨y, hQ, c, by rw [hcl, hc], hy, fun j u hu => ?_⟩
      have hj : j < P.cellsOf e := by
        have := (List.getElem?_eq_some_iff.1 hu).1
        omega
      have := hcell j hj
      rw [Go.Deep.add_add, hc] at this
      rw [this, hu]
    obtain ⟨xs, hxl, hxs⟩ := list_of len one
    refine ⟨xs, ⟨some a, cap, by rw [hxl], by omega, rfl, ?_, fun _ => ⟨a, rfl, fun j y hj => ?_⟩⟩, by omega, fun y hy => ?_⟩
    · unfold maxLen at hm
      omega
    · exact (hxs j y hj).2
    · obtain ⟨j, hj⟩ := List.getElem?_of_mem hy
      exact (hxs j y hj).1

theorem opens_slice {α : Type} {d : Kd α} {Q : α → Prop} (ht : P.underlying t = some (.slice e)) (hc : P.cellsOf e = d.sz) (hd : Opens P d Q e) :
    Opens P (Kd.slice e d) (fun xs => xs.length ≤ maxLen ∧ ∀ x ∈ xs, Q x) t := fun n => opensAt_slice ht hc n (fun m _ => hd m)

/-- A struct's fields from one on, whose cells begin at o. -/
def Fields {α : Type} (P : Program) (n : Nat) (fs : List Field) (o : Nat) (d : Kd α) (Q : α → Prop) : Prop :=
  ∀ (H : Type) (enc : TypeId × Value → H) (w : World) (base : Nat) (spare : Nat → Bool) (held : Bool) (cs : List Value), cs.length = o + d.sz →
    (∀ f, f ∈ fs → ∃ x, DataW.trod enc P w base spare held n f.type ((cs.drop f.offset).take (P.cellsOf f.type)) = some x) → ∃ y, d.K w y (cs.drop o) ∧ Q y

theorem fields_one {α : Type} {d : Kd α} {Q : α → Prop} {f : Field} {o n : Nat} (ho : f.offset = o) (hc : P.cellsOf f.type = d.sz) (hd : OpensAt P n d Q f.type) : Fields P n [f] o d Q := by
  intro H enc w base spare held cs hl h
  obtain ⟨x, hx⟩ := h f List.mem_cons_self
  rw [ho, hc, List.take_of_length_le (by rw [List.length_drop]; omega)] at hx
  exact hd H enc w base spare held _ _ hx

theorem fields_cons {α β : Type} {d : Kd α} {d' : Kd β} {Q : α → Prop} {Q' : β → Prop} {f : Field} {fs : List Field} {o n : Nat} (ho : f.offset = o) (hc : P.cellsOf f.type = d.sz) (hd : OpensAt P n d Q f.type) (hr : Fields P n fs (o + d.sz) d' Q') :
    Fields P n (f :: fs) o (Kd.pair d d') (fun y => Q y.1 ∧ Q' y.2) := by
  intro H enc w base spare held cs hl h
  obtain ⟨x, hx⟩ := h f List.mem_cons_self
  have hl' : cs.length = o + d.sz + d'.sz := by rw [hl]; show o + (d.sz + d'.sz) = _; omega
  obtain ⟨y2, hy2, hq2⟩ := hr H enc w base spare held cs hl' (fun g hg => h g (List.mem_cons_of_mem _ hg))
  rw [ho, hc] at hx
  obtain ⟨y1, hy1, hq1⟩ := hd H enc w base spare held _ _ hx
  refine ⟨(y1, y2), ⟨_, _, ?_, hy1, hy2⟩, hq1, hq2⟩
  rw [← List.drop_drop, List.take_append_drop]

theorem opensAt_struct {α : Type} {d : Kd α} {Q : α → Prop} {fs : Array Field} (ht : P.underlying t = some (.struct fs)) (hc : P.cellsOf t = d.sz) (n : Nat) (hd : ∀ m, m < n → Fields P m fs.toList 0 d Q) : OpensAt P n d Q t := by
  intro H enc w base spare held cs x h
  obtain ⟨xs, m, hn, _, hl, hxl, hf⟩ := DataW.trod_struct ht h
  obtain ⟨y, hy, hq⟩ := hd m (by omega) H enc w base spare held cs (by rw [hl, hc, Nat.zero_add]) (fun f hf0 => by
    obtain ⟨i, hi⟩ := List.getElem?_of_mem hf0
    have hi' : fs[i]? = some f := by rw [← hi, Array.getElem?_toList]
    have hlt : i < xs.length := by
      have := (List.getElem?_eq_some_iff.1 hi).1
      rw [hxl]
      simpa using this
    exact ⟨xs[i], by rw [hf i f hi', List.getElem?_eq_getElem hlt]⟩)
  exact ⟨y, by simpa using hy, hq⟩

theorem opensAt_iso {α β : Type} {d : Kd α} {Q : α → Prop} {n : Nat} (f : β → α) (g : α → β) (hfg : ∀ x, f (g x) = x) (hd : OpensAt P n d Q t) : OpensAt P n (Kd.iso d f) (fun y => Q (f y)) t := by
  intro H enc w base spare held cs x h
  obtain ⟨y, hy, hq⟩ := hd H enc w base spare held cs x h
  exact ⟨g y, show d.K w (f (g y)) cs by rw [hfg]; exact hy, show Q (f (g y)) by rw [hfg]; exact hq⟩

/-- A parameter of a struct type: its value is the struct's cells. -/
theorem open_struct {α : Type} {d : Kd α} {Q : α → Prop} {fs : Array Field} {H : Type} {enc : TypeId × Value → H} {w : World} {base b0 : Nat} {spare : Nat → Bool} {held : Bool} {r : Reach} {v : Value} {D : DataW H} {ps : List MemPlace}
    (ht : P.underlying t = some (.struct fs)) (hd : Opens P d Q t) (hval : Value.okWide P w r b0 t v) (h : DataW.Trod enc P w base spare held t v D ps) : ∃ y cs, v = .agg cs.toArray ∧ d.K w y cs ∧ Q y := by
  unfold Value.okWide at hval
  rw [ht] at hval
  obtain ⟨cs, rfl, _, _⟩ := hval
  obtain ⟨n, hn⟩ := h
  obtain ⟨y, hy, hq⟩ := hd n H enc w base spare held _ _ hn
  exact ⟨y, cs.toList, by simp, hy, hq⟩

/-- A parameter of a slice type. -/
theorem open_row {α : Type} {d : Kd α} {Q : α → Prop} {H : Type} {enc : TypeId × Value → H} {w : World} {base b0 : Nat} {spare : Nat → Bool} {held : Bool} {r : Reach} {v : Value} {D : DataW H} {ps : List MemPlace}
    (ht : P.underlying t = some (.slice e)) (hc : P.cellsOf e = d.sz) (hd : Opens P d Q e) (hval : Value.okWide P w r b0 t v) (h : DataW.Trod enc P w base spare held t v D ps) :
    ∃ A c xs, v = .slice A xs.length c ∧ xs.length ≤ c ∧ Kd.C d w A xs.length xs ∧ xs.length ≤ maxLen ∧ ∀ x ∈ xs, Q x := by
  obtain ⟨a, len, cap, rfl⟩ := okWide_slice ht hval
  obtain ⟨n, hn⟩ := h
  obtain ⟨xs, ⟨A, c, he, hl, hC⟩, hm, hQ⟩ := opens_slice ht hc hd n H enc w base spare held _ _ hn
  have he' : Value.slice a len cap = .slice A xs.length c := by simpa [Value.cells] using he
  exact ⟨A, c, xs, he', hl, hC, hm, hQ⟩
end
end Go.Proofs.YtehefologhfdhaaW.Opens
