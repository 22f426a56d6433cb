/- Words for walks of the abstract machine. -/
import Derived.Test.YtccldchklemogaaAm13
import Derived.Test.YtccldchklemogaaMw
import Derived.Laws.BitsLemmas
import Derived.KernelRfl
set_option linter.unusedVariables false
set_option linter.unusedSimpArgs false
namespace Go.Proofs.YtccldchklemogaaW.AM
open Go Go.RowKit Go.Proofs.YtccldchklemogaaW.PrintWords

def assoc {α : Type} (l : List (Nat × α)) (k : Nat) : Option α := match l with
  | [] => none
  | (j, a) :: l => bif Nat.beq k j then some a else assoc l k
def AllP {α : Type} (Q : Nat → α → Prop) : List (Nat × α) → Prop
  | [] => True
  | (j, a) :: l => Q j a ∧ AllP Q l
theorem assoc_all {α : Type} {Q : Nat → α → Prop} : ∀ {l : List (Nat × α)}, AllP Q l → ∀ {k : Nat} {a : α}, assoc l k = some a → Q k a
  | [], _, k, a, h => by simp [assoc] at h
  | (j, b) :: l, hq, k, a, h => by
    simp only [assoc] at h
    cases hb : Nat.beq k j with
    | true => rw [hb] at h; simp at h; subst h; rw [Nat.eq_of_beq_eq_true hb]; exact hq.1
    | false => rw [hb] at h; exact assoc_all hq.2 h

def puts : List (Nat × AV) → Fr → Fr
  | [], fr => fr
  | (t, v) :: l, fr => put (some t) v (puts l fr)
theorem puts_self (fr : Fr) : ∀ ts : List Nat, puts (ts.map fun t => (t, fr t)) fr = fr
  | [] => rfl
  | t :: ts => by
    simp only [List.map_cons, puts, puts_self fr ts]
    funext u
    simp only [put]
    cases hb : Nat.beq u t with
    | true => rw [Nat.eq_of_beq_eq_true hb]; rfl
    | false => rfl
/-- The end of a round: what the next one needs of the slots. -/
theorem z_back {I : Fr → Hp → Prop} {fr : Fr} {hp : Hp} (ts : List Nat) (h : I (puts (ts.map fun t => (t, fr t)) fr) hp) : I fr hp := by rwa [puts_self] at h

theorem nthM {α : Type} (l : List α) (e : α → VV) (z : α) (i : Int) (h0 : 0 ≤ i) (h1 : i < (l.length : Int)) : (l.map e)[i.toNat]? = some (e (l.getD i.toNat z)) := by
  have : i.toNat < l.length := by omega
  simp [List.getD, this]
theorem z_wrap {e : Int} {K : Int → Prop} (hb : -9223372036854775808 ≤ e ∧ e ≤ 9223372036854775807) (hk : IntKind.i64.wrap e = e → K e) : ∃ z, IntKind.i64.wrap e = z ∧ K z := by
  have h : IntKind.i64.wrap e = e := by simp only [IntKind.wrap, IntKind.bits, IntKind.signed, IntKind.min] <;> (try simp) <;> omega
  exact ⟨e, h, hk h⟩
theorem wrap_i64 (n : Int) : IntKind.i64.wrap n = wrap64 n := by
  simp only [IntKind.wrap, IntKind.bits, IntKind.signed, wrap64] <;> (try simp) <;> (split <;> omega)
theorem z_wrap' {e : Int} {K : Int → Prop} (hk : K (wrap64 e)) : ∃ z, IntKind.i64.wrap e = z ∧ K z := ⟨_, wrap_i64 e, hk⟩
/-- A join: what holds where the ways meet. -/
theorem cutJ {A B : Fr → Hp → KX → Prop} {fr : Fr} {hp : Hp} {K : KX} {n : Nat} (Mid : Fr → Hp → Prop)
    (h1 : A fr hp fun x fr hp => match x with
      | .nrm => ∃ R, okR R = true ∧ Mid (cleanF R fr) (cleanH R hp R)
      | x => K x fr hp) (h2 : ∀ fr hp, Mid fr hp → B fr hp K) :
    Jn n (∃ Mid : Fr → Hp → Prop, (A fr hp fun x fr hp => match x with
      | .nrm => ∃ R, okR R = true ∧ Mid (cleanF R fr) (cleanH R hp R)
      | x => K x fr hp) ∧ ∀ fr hp, Mid fr hp → B fr hp K) := Jn.go ⟨Mid, h1, h2⟩
/-- A loop, by what is left to do. -/
theorem loopJ {B : Fr → Hp → KX → Prop} {fr : Fr} {hp : Hp} {K : KX} (Inv : Nat → Fr → Hp → Prop) (k0 : Nat)
    (h0 : ∃ R, okR R = true ∧ ∃ j, j ≤ k0 ∧ Inv j (cleanF R fr) (cleanH R hp R))
    (h1 : ∀ k, k ≤ k0 → ∀ fr hp, Inv k fr hp → B fr hp fun x fr' hp' => match x with
      | .nrm => ∃ R, okR R = true ∧ ∃ j, j < k ∧ Inv j (cleanF R fr') (cleanH R hp' R)
      | x => K x fr' hp') :
    ∀ I : Fr → Hp → Prop, (∀ fr hp, WK B (fun x fr' hp' => match x with
      | .nrm => ∃ R, okR R = true ∧ I (cleanF R fr') (cleanH R hp' R)
      | x => K x fr' hp') fr hp → I fr hp) → ∃ R, okR R = true ∧ I (cleanF R fr) (cleanH R hp R) := by
  intro I hI
  have key : ∀ n k, k < n → k ≤ k0 → ∀ fr hp, Inv k fr hp → I fr hp := by
    intro n
    induction n with
    | zero => intro k hk; omega
    | succ n ih =>
      intro k hk hk0 fr hp hinv
      refine hI _ _ ⟨_, fun x fr' hp' hh => ?_, h1 k hk0 fr hp hinv⟩
      cases x with
      | nrm => obtain ⟨R, hR, j, hj, hh⟩ := hh; exact ⟨R, hR, ih j (by omega) (by omega) _ _ hh⟩
      | ext id => exact hh
      | ret => exact hh
  obtain ⟨R, hR, j, hj, h0⟩ := h0
  exact ⟨R, hR, key (j + 1) j (by omega) hj _ _ h0⟩
theorem z_fr (fr : Fr) (ts : List Nat) : fr = puts (ts.map fun t => (t, fr t)) fr := (puts_self fr ts).symm
end Go.Proofs.YtccldchklemogaaW.AM
