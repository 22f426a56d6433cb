/- The side facts of walks, each found by a tactic behind its parameter. -/
import Derived.Test.YtccldchklemogaaAm14
import Derived.Laws.Strings
import Derived.Test.YtccldchklemogaaMw
set_option linter.unusedVariables false
set_option linter.unusedSimpArgs false
namespace Go.Proofs.YtccldchklemogaaW.AM
open Go Go.RowKit Go.Proofs.YtccldchklemogaaW Go.Proofs.YtccldchklemogaaW.PrintWords

theorem toList_lit (l : List UInt8) : (ByteArray.mk l.toArray).toList = l := ByteArray.toList_mk l
theorem z_wrap8 {e : Int} {K : Int → Prop} (hk : K (e % 256)) : ∃ z, IntKind.u8.wrap e = z ∧ K z := by
  refine ⟨_, ?_, hk⟩
  simp only [IntKind.wrap, IntKind.bits, IntKind.signed] <;> (try simp) <;> (try omega)
theorem z_max {a b : Int} {K : Int → Prop} (hk : K (Go.Proofs.YtccldchklemogaaW.PrintWords.mx a b)) : ∃ z, mx2 a b = z ∧ K z := ⟨_, by simp only [mx2, Go.Proofs.YtccldchklemogaaW.PrintWords.mx, gt_iff_lt], hk⟩
theorem z_min {a b : Int} {K : Int → Prop} (hk : K (Go.Proofs.YtccldchklemogaaW.PrintWords.mn a b)) : ∃ z, mn2 a b = z ∧ K z := ⟨_, by simp only [mn2, Go.Proofs.YtccldchklemogaaW.PrintWords.mn], hk⟩
theorem z_byte {s : ByteArray} {n : Int} {K : UInt8 → Prop} (h0 : 0 ≤ n) (h1 : n < (s.size : Int)) (hk : ∀ b : UInt8, (b.toNat : Int) = bt s n → K b) : ∃ b : UInt8, s[n.toNat]? = some b ∧ K b := by
  have h : n.toNat < s.size := by omega
  exact ⟨s[n.toNat], by simp [h], hk _ (by simp [bt, h])⟩
theorem nthR {α : Type} (l : List α) (e : α → VV) (z : α) (i : Int) (h0 : 0 ≤ i) (h1 : i < (l.length : Int)) : (l.map e)[i.toNat]? = some (e (rdOf z l i)) := nthM l e z i h0 h1
theorem szok_map {α : Type} {e : α → VV} {n : Nat} (h : ∀ x, (e x).cells.length = n) (l : List α) : SzOK (l.map e) n := by
  intro u hu
  obtain ⟨x, _, rfl⟩ := List.mem_map.1 hu
  exact h x
theorem szok_one {u : VV} {n : Nat} (h : u.cells.length = n) : SzOK [u] n := by
  intro v hv
  rw [List.mem_singleton.1 hv]; exact h
theorem szok_nil {n : Nat} : SzOK [] n := by intro v hv; simp at hv
theorem szok_cons {u : VV} {l : List VV} {n : Nat} (h : u.cells.length = n) (t : SzOK l n) : SzOK (u :: l) n := by
  intro v hv
  rcases List.mem_cons.1 hv with rfl | hv
  · exact h
  · exact t v hv
theorem szok_strs (l : List ByteArray) : SzOK (l.map VV.str) 1 := szok_map (e := VV.str) (fun _ => rfl) l
theorem szok_ints (k : IntKind) (l : List Int) : SzOK (l.map (VV.int k)) 1 := szok_map (e := VV.int k) (fun _ => rfl) l
theorem szok_bools (l : List Bool) : SzOK (l.map VV.bool) 1 := szok_map (e := VV.bool) (fun _ => rfl) l
def isBox (o : Option Ob) : Bool := match o with
  | some (.box _) => true
  | _ => false
theorem bx_refl (T : List Nat) (hp : Hp) : BX T hp hp := fun _ _ _ => Iff.rfl
theorem bx_step {T : List Nat} {hp h : Hp} {id : Nat} {e sz es g pin} (hi : isBox (hp id) = false) (hb : BX T hp h) : BX T hp (upd id (.own e sz es g pin) h) := by
  intro j cs ht
  unfold upd
  by_cases hj : j = id
  · subst hj
    rw [if_pos rfl]
    exact ⟨fun k => (by rw [k] at hi; cases hi), fun k => (by cases k)⟩
  · rw [if_neg hj]; exact hb j cs ht
def AllEq (hp hp' : Hp) : List Nat → Prop
  | [] => True
  | id :: l => hp' id = hp id ∧ AllEq hp hp' l
theorem allEq_mem {hp hp' : Hp} : ∀ {T : List Nat}, AllEq hp hp' T → ∀ {id : Nat}, T.any (Nat.beq id) = true → hp' id = hp id
  | [], _, id, hm => by simp at hm
  | a :: l, h, id, hm => by
    rw [List.any_cons, Bool.or_eq_true] at hm
    rcases hm with hm | hm
    · rw [Nat.eq_of_beq_eq_true hm]; exact h.1
    · exact allEq_mem h.2 hm
theorem bx_far {T : List Nat} {hp hp' : Hp} (hne : T.isEmpty = false) (h : AllEq hp hp' T) : BX T hp hp' := fun id cs ht => by
  unfold inT at ht
  rw [hne, Bool.false_or] at ht
  rw [allEq_mem h ht]
theorem zbx {T : List Nat} {hp h : Hp} (hb : BX T hp h := by
  first
  | ((repeat' (first | exact bx_refl _ _ | refine bx_step rfl ?_)); done)
  | (refine bx_far (by kernel_rfl) ?_; (repeat' (first | exact True.intro | refine And.intro rfl ?_)))) : BX T hp h := hb
theorem z_cat {n : Nat} (h : n ≤ 9223372036854775807) : (n : Int) ≤ IntKind.i64.max := by
  have e : IntKind.i64.max = 9223372036854775807 := rfl
  rw [e]; omega
theorem iteS {α : Type} {c : Prop} {_ : Decidable c} {a b : Option α} {r : α} (h : (if c then a else b) = some r) : (c ∧ a = some r) ∨ (¬ c ∧ b = some r) := by
  by_cases hc : c
  · rw [if_pos hc] at h; exact .inl ⟨hc, h⟩
  · rw [if_neg hc] at h; exact .inr ⟨hc, h⟩
theorem someS {α : Type} {a r : α} (h : some a = some r) : True := trivial
theorem isC {α : Type} (o : Option α) {r : α} (h : o = some r) : True := trivial
theorem noneS {p : Prop} {α : Type} {r : α} (h : (none : Option α) = some r) : p := nomatch h
theorem zdraw {G : Env} {fid rid : Nat} {ops : Array Oper} (h : drawOK G fid rid ops = true := by kernel_rfl) : drawOK G fid rid ops = true := h
theorem zfuel {p : Prop} (h : p := by first | exact Nat.le_refl _ | exact Nat.lt_succ_self _ | omega) : p := h
theorem guardS {α : Type} {c : Prop} {_ : Decidable c} {a : Option α} {r : α} (h : (if c then a else none) = some r) : c ∧ a = some r := by
  by_cases hc : c
  · rw [if_pos hc] at h; exact ⟨hc, h⟩
  · rw [if_neg hc] at h; cases h
theorem leafFr {fr : Fr} {l : List (Nat × AV)} (ts : List Nat) (h : ts.map (fun t => (t, fr t)) = l) : ∃ fr0, fr = puts l fr0 := ⟨fr, by rw [← h]; exact z_fr fr ts⟩
theorem flatO_nil : flatO [] := trivial
theorem flatO_cons {e sz : Nat} {es : List VV} {g : Nat} {l : List Ob} (h : FlatR es) (hl : flatO l) : flatO (.own e sz es g false :: l) := ⟨⟨rfl, h⟩, hl⟩
theorem flat_strs (l : List ByteArray) : FlatR (l.map VV.str) := fun e he c hc => by
  obtain ⟨s, _, rfl⟩ := List.mem_map.1 he
  simp [VV.cells] at hc; subst hc; rfl
theorem flat_ints (k : IntKind) (l : List Int) : FlatR (l.map (VV.int k)) := fun e he c hc => by
  obtain ⟨s, _, rfl⟩ := List.mem_map.1 he
  simp [VV.cells] at hc; subst hc; rfl
theorem flat_bools (l : List Bool) : FlatR (l.map VV.bool) := fun e he c hc => by
  obtain ⟨s, _, rfl⟩ := List.mem_map.1 he
  simp [VV.cells] at hc; subst hc; rfl
theorem zside {p : Prop} (h : p := by
  repeat' (with_reducible apply And.intro)
  all_goals first
    | with_reducible rfl
    | exact Nat.le_of_ble_eq_true rfl
    | with_reducible assumption
    | (refine Eq.trans ?_ (Eq.refl none); with_reducible kernel_rfl)
    | omega
    | rfl
    | exact Or.inr rfl
    | exact Or.inl rfl
    | (dsimp only; omega)
    | exact szok_one rfl
    | exact z_cat (by with_reducible assumption)
    | exact z_cat (by simp only [Int.reduceToNat]; with_reducible assumption)
    | exact szok_cons rfl (szok_one rfl)
    | exact szok_cons rfl (szok_cons rfl (szok_one rfl))
    | exact szok_nil
    | exact szok_strs _
    | exact szok_ints _ _
    | exact szok_bools _
    | exact zbx
    | exact flatO_nil
    | exact flatO_cons (flat_strs _) flatO_nil
    | exact flatO_cons (flat_strs _) (flatO_cons (flat_strs _) flatO_nil)
    | exact flatO_cons (flat_ints _ _) flatO_nil
    | exact flatO_cons (flat_bools _) flatO_nil
    | ((try dsimp only); simp only [List.length_map]; with_reducible assumption)
    | ((try dsimp only); simp only [List.length_map, List.length_cons, List.length_nil]; omega)
    | ((try dsimp only); simp only [List.length_map, List.length_append, List.length_cons, List.length_nil, List.length_set, List.length_replicate]; omega)
    | ((try dsimp only); simp only [List.length_map]; exact Nat.le_trans (by with_reducible assumption) (by decide))
    | ((try dsimp only); simp only [List.length_map]; exact Nat.le_trans (Nat.mul_le_mul_right _ (by with_reducible assumption)) (by decide))) : p := h
theorem zboolq {b c : Bool} (h : b = c := by first
  | with_reducible rfl
  | with_reducible assumption
  | (refine decide_eq_true ?_; with_reducible assumption)
  | (refine decide_eq_false ?_; with_reducible assumption)) : b = c := h
theorem zbool {b c : Bool} (h : b = c := by first
  | with_reducible rfl
  | with_reducible assumption
  | (refine Bool.eq_false_iff.2 ?_; with_reducible assumption)
  | (simp only [Bool.not_true, Bool.not_false]; done)
  | (show (_ != _) = _; with_reducible assumption)
  | (show (_ != _) = _; refine Bool.eq_false_iff.2 ?_; with_reducible assumption)
  | (simp only [decide_eq_true_eq, decide_eq_false_iff_not, beq_iff_eq, bne_iff_ne, beq_eq_false_iff_ne, bne_eq_false_iff_eq, ne_eq, Bool.not_eq_true', Bool.not_eq_false', Bool.not_eq_true, Bool.not_eq_false, Bool.not_true, Bool.not_false, Bool.true_eq_false, Bool.false_eq_true, toList_lit]; first | with_reducible assumption | (refine Bool.eq_false_iff.2 ?_; with_reducible assumption) | omega)) : b = c := h
theorem zboolK {b c : Bool} (h : b = c := by first
  | with_reducible rfl
  | with_reducible assumption
  | (refine Bool.eq_false_iff.2 ?_; with_reducible assumption)
  | (simp only [Bool.not_true, Bool.not_false]; done)
  | (show (_ != _) = _; with_reducible assumption)
  | (show (_ != _) = _; refine Bool.eq_false_iff.2 ?_; with_reducible assumption)
  | (simp only [decide_eq_true_eq, decide_eq_false_iff_not, beq_iff_eq, bne_iff_ne, beq_eq_false_iff_ne, bne_eq_false_iff_eq, ne_eq, Bool.not_eq_true', Bool.not_eq_false', Bool.not_eq_true, Bool.not_eq_false, Bool.not_true, Bool.not_false, Bool.true_eq_false, Bool.false_eq_true, toList_lit]; first | with_reducible assumption | (refine Bool.eq_false_iff.2 ?_; with_reducible assumption))) : b = c := h
theorem zK {b c : Prop} (k : c) (h : b := by first | rfl | exact zboolK) : b ∧ c := ⟨h, k⟩
theorem zend {p : Prop} (h : p := by first | exact ⟨trivial, [], [], ⟨rfl, trivial⟩, _, rfl, _, rfl, And.intro rfl rfl⟩ | exact ⟨[], [], ⟨rfl, trivial⟩, _, rfl, _, rfl, And.intro rfl rfl⟩) : p := h
theorem zrow {α : Type} {a b : α} (h : a = b := by first | rfl | (simp only [List.map_append, List.map_cons, List.map_nil, List.map_set, List.map_replicate]; done) | (simp only [List.map_append, List.map_cons, List.map_nil, List.map_set, List.map_replicate]; rfl) | (simp; done) | (simp only [List.take_length, List.map_take, List.map_drop, List.map_append]; done) | (simp; rfl) | (simp [chunkV, elemOf]; done) | (simp [chunkV, elemOf, setAt]; done)) : a = b := h
end Go.Proofs.YtccldchklemogaaW.AM
