/- Steps of printed walks. -/
import Derived.Test.YtccldchklemogaaAm16
import Derived.Test.YtccldchklemogaaPg
set_option linter.unusedVariables false
set_option linter.unusedSimpArgs false
namespace Go.Proofs.YtccldchklemogaaW.AM
open Go Go.RowKit Go.Proofs.YtccldchklemogaaW Go.Proofs.YtccldchklemogaaW.Pgs

theorem gS {α : Type} {c : Prop} {_ : Decidable c} {a : Option α} {r : α} (h : (if c then a else none) = some r) : c ∧ a = some r := guardS h
theorem oS {α β : Type} {o : Option α} {k : α → Option β} {r : β} (h : o.bind k = some r) : ∃ a, o = some a ∧ k a = some r := Option.bind_eq_some_iff.1 h
section
variable {Q : Type} {A : Q → Type} {R : Type} {g : (q : Q) → Option (A q)}
theorem gP {c : Prop} {_ : Decidable c} {a : Pg Q A R} {r : R} (h : (if c then a else .bad).ev g = some r) : c ∧ a.ev g = some r := by
  by_cases hc : c
  · rw [if_pos hc] at h; exact ⟨hc, h⟩
  · rw [if_neg hc] at h; cases h
theorem iP {c : Prop} {_ : Decidable c} {a b : Pg Q A R} {r : R} (h : (if c then a else b).ev g = some r) : (c ∧ a.ev g = some r) ∨ (¬ c ∧ b.ev g = some r) := evI h
end
section
variable {c A B P Q : Prop} {t : Bool}
theorem br (h : (c ∧ A) ∨ (¬ c ∧ B)) (h1 : c → A → P) (h2 : ¬ c → B → Q) (ht : t = true ↔ c := by first
  | exact Iff.rfl
  | exact decide_eq_true_iff
  | exact beq_iff_eq
  | (rw [toList_lit]; exact beq_iff_eq)
  | (simp; done)
  | (simp [toList_lit]; done)) : (t = true ∧ P) ∨ (t = false ∧ Q) := by
  rcases h with ⟨hc, h⟩ | ⟨hc, h⟩
  · exact .inl ⟨ht.2 hc, h1 hc h⟩
  · exact .inr ⟨Bool.eq_false_iff.2 fun e => hc (ht.1 e), h2 hc h⟩
theorem brN (h : (c ∧ A) ∨ (¬ c ∧ B)) (h1 : ¬ c → B → P) (h2 : c → A → Q) (ht : t = true ↔ ¬ c := by first
  | exact bne_iff_ne
  | (simp; done)
  | (simp [toList_lit]; done)) : (t = true ∧ P) ∨ (t = false ∧ Q) := by
  rcases h with ⟨hc, h⟩ | ⟨hc, h⟩
  · exact .inr ⟨Bool.eq_false_iff.2 fun e => ht.1 e hc, h2 hc h⟩
  · exact .inl ⟨ht.2 hc, h1 hc h⟩
theorem brW (h : (c ∧ A) ∨ (¬ c ∧ B)) (h1 : ¬ c → B → P) (h2 : c → A → Q) (ht : t = true ↔ c := by first
  | exact Iff.rfl
  | exact decide_eq_true_iff
  | exact beq_iff_eq
  | (rw [toList_lit]; exact beq_iff_eq)
  | (simp; done)
  | (simp [toList_lit]; done)) : (t = false ∧ P) ∨ (t = true ∧ Q) := by
  rcases h with ⟨hc, h⟩ | ⟨hc, h⟩
  · exact .inr ⟨ht.2 hc, h2 hc h⟩
  · exact .inl ⟨Bool.eq_false_iff.2 fun e => hc (ht.1 e), h1 hc h⟩
theorem brX (h : (c ∧ A) ∨ (¬ c ∧ B)) (h1 : c → A → P) (h2 : ¬ c → B → Q) (ht : t = true ↔ ¬ c := by first
  | exact bne_iff_ne
  | (simp; done)
  | (simp [toList_lit]; done)) : (t = false ∧ P) ∨ (t = true ∧ Q) := by
  rcases h with ⟨hc, h⟩ | ⟨hc, h⟩
  · exact .inl ⟨Bool.eq_false_iff.2 fun e => ht.1 e hc, h1 hc h⟩
  · exact .inr ⟨ht.2 hc, h2 hc h⟩
end
theorem zq {b c : Bool} (h : b = c := by first
  | with_reducible rfl
  | with_reducible assumption
  | (refine decide_eq_true ?_; with_reducible assumption)
  | (refine decide_eq_false ?_; with_reducible assumption)
  | (refine beq_iff_eq.2 ?_; with_reducible assumption)
  | (refine beq_eq_false_iff_ne.2 ?_; with_reducible assumption)
  | (refine bne_iff_ne.2 ?_; with_reducible assumption)
  | (refine bne_eq_false_iff_eq.2 ?_; with_reducible assumption)
  | (refine Bool.eq_false_iff.2 ?_; with_reducible assumption)) : b = c := h
theorem z_wrapk {k : IntKind} {e : Int} {K : Int → Prop} (hk : K (k.wrap e)) : ∃ z, k.wrap e = z ∧ K z := ⟨_, rfl, hk⟩
theorem z_mod {a b : Int} {K : Int → Prop} (hk : K (Int.tmod a b)) : ∃ z, a.tmod b = z ∧ K z := ⟨_, rfl, hk⟩
theorem z_bytes {l : List Int} {K : List Int → Prop} (hk : K l) : ∃ xs, l.map (VV.int .u8) = xs.map (VV.int .u8) ∧ K xs := ⟨_, rfl, hk⟩
theorem z_bits {o : BinOp} {k : IntKind} {a b : Int} {K : Int → Prop} (hk : K (Go.bits o k a b)) : ∃ z, Go.bits o k a b = z ∧ K z := ⟨_, rfl, hk⟩
theorem z_shr {k : IntKind} {a b : Int} {K : Int → Prop} (hk : K (PrintWords.shr k a b)) : ∃ z, a.fdiv (2 ^ (min b.toNat k.bits)) = z ∧ K z := by
  refine ⟨_, ?_, hk⟩
  unfold PrintWords.shr
  rw [Int.fdiv_eq_ediv_of_nonneg]
  exact Int.pow_nonneg (by omega)
structure Hq (q : Prop) : Prop where
  out : q
def eL {α : Type} (e : α → VV) (l : List α) : VV := .row (l.map e)
/-- What an oracle that makes nothing tells is true. -/
theorem cfs_orc {G : Env} (h : ∀ f as obs rs obs', G.orc f as obs rs obs' → obs = [] ∧ obs' = [] ∧ ∃ v, rs = [.val v] ∧ ∀ (I : Nat → Nat → Option Value) (w : World) (args : List Value), TabW G.tab w → FA (fun a x => ∃ u, a = A0.val u ∧ RepV I u x) as args → Calls G.P f args.toArray w fun e w' => ∃ x, e = .returned x ∧ RepV I v x ∧ w' = w)
    (hv : ∀ f as obs rs obs', G.orc f as obs rs obs' → ∀ a ∈ as, ∃ u, a = A0.val u) : CFS G G.orc := by
  intro f as obs rs obs' ho C w args hargs hw _
  obtain ⟨rfl, rfl, v, rfl, hc⟩ := h f as obs rs obs' ho
  refine (hc C.I w args ⟨fun b j v h => hw.inI _ _ _ (hw.inT _ _ _ h), fun b n h => (hw.inZ b n h).1⟩ (fa_of (fa_len hargs) fun i a x ha hx => ?_)).mono ?_
  · obtain ⟨u, rfl⟩ := hv f as _ _ _ ho a (List.mem_iff_getElem?.2 ⟨i, ha⟩)
    obtain ⟨x', hx', hr⟩ := fa_get hargs ha
    rw [hx] at hx'; cases hx'
    exact ⟨u, rfl, hr⟩
  · rintro e w' ⟨x, rfl, hx, rfl⟩
    refine ⟨x, C, rfl, hx, ?_, Stp.refl _ _, Nat.le_refl _⟩
    refine ⟨hw.inI, fun id _ => hw.dom id (by simp [heap0]), fun id o h => ?_, hw.sep, hw.lt, hw.inT, hw.inZ, fun id => by rw [heapN_nil]; exact hw.tr id⟩
    obtain ⟨k, _, h1⟩ := heapN_inv (by simp) h
    simp at h1
end Go.Proofs.YtccldchklemogaaW.AM
