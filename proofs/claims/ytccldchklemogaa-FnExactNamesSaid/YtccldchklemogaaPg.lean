/- What functions come to that call one another without a bound: trees of questions, answered by rounds; the limit, and its equation. -/
import Derived.Below
set_option linter.unusedVariables false
set_option linter.unusedSimpArgs false
namespace Go.Proofs.YtccldchklemogaaW.Pgs

inductive Pg (Q : Type) (A : Q → Type) (R : Type) where
  | ret (r : R)
  | bad
  | ask (q : Q) (k : A q → Pg Q A R)

section
variable {Q : Type} {A : Q → Type} {R : Type}
def Pg.ev (g : (q : Q) → Option (A q)) : Pg Q A R → Option R
  | .ret r => some r
  | .bad => none
  | .ask q k => (g q).bind fun a => (k a).ev g
/-- What another function comes to. -/
def Pg.opt {α : Type} (o : Option α) (k : α → Pg Q A R) : Pg Q A R := match o with | none => .bad | some a => k a
def Pg.to (q : Q) : Pg Q A (A q) := .ask q .ret

def run (B : (q : Q) → Pg Q A (A q)) : Nat → (q : Q) → Option (A q)
  | 0, _ => none
  | k + 1, q => (B q).ev (run B k)
theorem run_succ (B : (q : Q) → Pg Q A (A q)) (k : Nat) (q : Q) : run B (k + 1) q = (B q).ev (run B k) := rfl
theorem run_zero {B : (q : Q) → Pg Q A (A q)} {q : Q} {r : A q} (h : run B 0 q = some r) : False := by simp [run] at h
theorem ev_mono {g g' : (q : Q) → Option (A q)} (hg : ∀ q a, g q = some a → g' q = some a) : ∀ (p : Pg Q A R) {r : R}, p.ev g = some r → p.ev g' = some r
  | .ret _, r, h => h
  | .bad, r, h => by simp [Pg.ev] at h
  | .ask q k, r, h => by
    obtain ⟨a, h1, h2⟩ := Option.bind_eq_some_iff.1 h
    exact Option.bind_eq_some_iff.2 ⟨a, hg _ _ h1, ev_mono hg (k a) h2⟩
theorem run_step {B : (q : Q) → Pg Q A (A q)} : ∀ {k : Nat} {q : Q} {a : A q}, run B k q = some a → run B (k + 1) q = some a
  | 0, q, a, h => (run_zero h).elim
  | k + 1, q, a, h => ev_mono (fun _ _ h => run_step h) (B q) h
theorem run_le {B : (q : Q) → Pg Q A (A q)} {j k : Nat} (h : j ≤ k) {q : Q} {a : A q} (hr : run B j q = some a) : run B k q = some a := by
  induction h with
  | refl => exact hr
  | step _ ih => exact run_step ih
open Classical in
noncomputable def limC (B : (q : Q) → Pg Q A (A q)) (q : Q) : Option (A q) := if h : ∃ a k, run B k q = some a then some h.choose else none
theorem limC_of {B : (q : Q) → Pg Q A (A q)} {k : Nat} {q : Q} {a : A q} (h : run B k q = some a) : limC B q = some a := by
  have he : ∃ a k, run B k q = some a := ⟨a, k, h⟩
  unfold limC
  rw [dif_pos he]
  obtain ⟨j, hj⟩ := he.choose_spec
  have h1 := run_le (Nat.le_max_left k j) h
  rw [run_le (Nat.le_max_right k j) hj] at h1
  exact h1
/-- The limit: found by many rounds, where they do, that a machine may run it. -/
@[irreducible] noncomputable def lim (B : (q : Q) → Pg Q A (A q)) (q : Q) : Option (A q) := match run B 4000 q with
  | some a => some a
  | none => limC B q
theorem lim_is (B : (q : Q) → Pg Q A (A q)) (q : Q) : lim B q = limC B q := by
  unfold lim
  split
  · rename_i a h; exact (limC_of h).symm
  · rfl
theorem lim_of {B : (q : Q) → Pg Q A (A q)} {k : Nat} {q : Q} {a : A q} (h : run B k q = some a) : lim B q = some a := (lim_is B q).trans (limC_of h)
theorem lim_ex {B : (q : Q) → Pg Q A (A q)} {q : Q} {a : A q} (h : lim B q = some a) : ∃ k, run B k q = some a := by
  rw [lim_is] at h
  unfold limC at h
  split at h
  · rename_i he
    obtain ⟨j, hj⟩ := he.choose_spec
    cases h; exact ⟨j, hj⟩
  · cases h
theorem ev_fin {B : (q : Q) → Pg Q A (A q)} : ∀ (p : Pg Q A R) {r : R}, p.ev (lim B) = some r → ∃ k, p.ev (run B k) = some r
  | .ret _, r, h => ⟨0, h⟩
  | .bad, r, h => by simp [Pg.ev] at h
  | .ask q k, r, h => by
    obtain ⟨a, h1, h2⟩ := Option.bind_eq_some_iff.1 h
    obtain ⟨i, hi⟩ := lim_ex h1
    obtain ⟨j, hj⟩ := ev_fin (k a) h2
    exact ⟨max i j, Option.bind_eq_some_iff.2 ⟨a, run_le (Nat.le_max_left i j) hi, ev_mono (fun _ _ h => run_le (Nat.le_max_right i j) h) _ hj⟩⟩
theorem lim_eq (B : (q : Q) → Pg Q A (A q)) (q : Q) : lim B q = (B q).ev (lim B) := by
  cases h : (B q).ev (lim B) with
  | some r => obtain ⟨k, hk⟩ := ev_fin _ h; exact lim_of (k := k + 1) hk
  | none =>
    cases h2 : lim B q with
    | none => rfl
    | some a =>
      obtain ⟨k, hk⟩ := lim_ex h2
      cases k with
      | zero => exact (run_zero hk).elim
      | succ k => rw [ev_mono (fun _ _ h => lim_of h) (B q) hk] at h; cases h
theorem ev_ite (g : (q : Q) → Option (A q)) {c : Prop} [Decidable c] (a b : Pg Q A R) : (if c then a else b).ev g = if c then a.ev g else b.ev g := by split <;> rfl
theorem ev_opt (g : (q : Q) → Option (A q)) {α : Type} (o : Option α) (k : α → Pg Q A R) : (Pg.opt o k).ev g = o.bind fun a => (k a).ev g := by cases o <;> rfl
theorem ev_ask (g : (q : Q) → Option (A q)) (q : Q) (k : A q → Pg Q A R) : (Pg.ask q k).ev g = (g q).bind fun a => (k a).ev g := rfl
theorem ev_ret (g : (q : Q) → Option (A q)) (r : R) : (Pg.ret r : Pg Q A R).ev g = some r := rfl
theorem ev_bad (g : (q : Q) → Option (A q)) : (Pg.bad : Pg Q A R).ev g = none := rfl
theorem ev_to (g : (q : Q) → Option (A q)) (q : Q) : (Pg.to q).ev g = g q := by show (g q).bind _ = _; cases g q <;> rfl
/- What a walk makes of it. -/
theorem evI {g : (q : Q) → Option (A q)} {c : Prop} [Decidable c] {a b : Pg Q A R} {r : R} (h : (if c then a else b).ev g = some r) : (c ∧ a.ev g = some r) ∨ (¬ c ∧ b.ev g = some r) := by
  by_cases hc : c
  · rw [if_pos hc] at h; exact .inl ⟨hc, h⟩
  · rw [if_neg hc] at h; exact .inr ⟨hc, h⟩
theorem evO {g : (q : Q) → Option (A q)} {α : Type} {o : Option α} {k : α → Pg Q A R} {r : R} (h : (Pg.opt o k).ev g = some r) : ∃ a, o = some a ∧ (k a).ev g = some r := by
  rw [ev_opt] at h; exact Option.bind_eq_some_iff.1 h
theorem evA {g : (q : Q) → Option (A q)} {q : Q} {k : A q → Pg Q A R} {r : R} (h : (Pg.ask q k).ev g = some r) : ∃ a, g q = some a ∧ (k a).ev g = some r := Option.bind_eq_some_iff.1 h
theorem evT {g : (q : Q) → Option (A q)} {q : Q} {r : A q} (h : (Pg.to q).ev g = some r) : g q = some r := by rwa [ev_to] at h
theorem evR {g : (q : Q) → Option (A q)} {a r : R} (h : (Pg.ret a : Pg Q A R).ev g = some r) : a = r := Option.some.inj h
theorem evB {g : (q : Q) → Option (A q)} {r : R} (h : (Pg.bad : Pg Q A R).ev g = some r) : False := by cases h
end
end Go.Proofs.YtccldchklemogaaW.Pgs
