/- Words for walks of the abstract machine. -/
import Derived.Test.YtchhkbkbbglgbaaGreatDoorAm13
import Derived.Test.YtchhkbkbbglgbaaGreatDoorMw
import Derived.Laws.BitsLemmas
import Derived.KernelRfl
set_option linter.unusedVariables false
set_option linter.unusedSimpArgs false
namespace Go.Proofs.YtchhkbkbbglgbaaGreatDoorW.AM
open Go Go.RowKit Go.Proofs.YtchhkbkbbglgbaaGreatDoorW.PrintWords
def assoc {α : Type} (l : List (Nat × α)) (k : Nat) : Option α := match l with
 | [] => none
 | (j, a) :: l => bif Nat.beq k j then some a else assoc l k
def AllP {α : Type} (Q : Nat → α → Prop) : List (Nat × α) → Prop
 | [] => True
 | (j, a) :: l => Q j a ∧ AllP Q l
theorem assoc_all {α : Type} {Q : Nat → α → Prop} : ∀ {l : List (Nat × α)}, AllP Q l → ∀ {k : Nat} {a : α}, assoc l k = some a → Q k a
 | [], _, k, a, h => by simp [assoc] at h
 | (j, b) :: l, hq, k, a, h => by
  simp only [assoc] at h
  cases hb : Nat.beq k j with
  | true => rw [hb] at h; simp at h; subst h; rw [Nat.eq_of_beq_eq_true hb]; exact hq.1
  | false => rw [hb] at h; exact assoc_all hq.2 h
def puts : List (Nat × AV) → Fr → Fr
 | [], fr => fr
 | (t, v) :: l, fr => put (some t) v (puts l fr)
theorem puts_self (fr : Fr) : ∀ ts : List Nat, puts (ts.map fun t => (t, fr t)) fr = fr
 | [] => rfl
 | t :: ts => by
  simp only [List.map_cons, puts, puts_self fr ts]
  funext u
  simp only [put]
  cases hb : Nat.beq u t with
  | true => rw [Nat.eq_of_beq_eq_true hb]; rfl
  | false => rfl
theorem nthM {α : Type} (l : List α) (e : α → VV) (z : α) (i : Int) (h0 : 0 ≤ i) (h1 : i < (l.length : Int)) : (l.map e)[i.toNat]? = some (e (l.getD i.toNat z)) := by
 have : i.toNat < l.length := by omega
 simp [List.getD, this]
theorem wrap_i64 (n : Int) : IntKind.i64.wrap n = wrap64 n := by
 simp only [IntKind.wrap, IntKind.bits, IntKind.signed, wrap64] <;> (try simp) <;> (split <;> omega)
theorem z_wrap' {e : Int} {K : Int → Prop} (hk : K (wrap64 e)) : ∃ z, IntKind.i64.wrap e = z ∧ K z := ⟨_, wrap_i64 e, hk⟩
theorem cutJ {A B : Fr → Hp → KX → Prop} {fr : Fr} {hp : Hp} {K : KX} {n : Nat} (L : List Nat) (Mid : Fr → Hp → Prop)
  (h1 : A fr hp fun x fr hp => match x with
   | .nrm => Mid (cleanF L fr) (cleanH L hp L)
   | x => K x fr hp) (h2 : ∀ fr hp, Mid fr hp → B fr hp K) :
  Jn n (∃ L : List Nat, ∃ Mid : Fr → Hp → Prop, (A fr hp fun x fr hp => match x with
   | .nrm => Mid (cleanF L fr) (cleanH L hp L)
   | x => K x fr hp) ∧ ∀ fr hp, Mid fr hp → B fr hp K) := Jn.go ⟨L, Mid, h1, h2⟩
theorem loopJ {B : Fr → Hp → KX → Prop} {fr : Fr} {hp : Hp} {K : KX} (L : List Nat) (Inv : Nat → Fr → Hp → Prop) (k0 : Nat)
  (h0 : ∃ j, j ≤ k0 ∧ Inv j (cleanF L fr) (cleanH L hp L))
  (h1 : ∀ k, k ≤ k0 → ∀ fr hp, Inv k fr hp → B fr hp fun x fr' hp' => match x with
   | .nrm => ∃ j, j < k ∧ Inv j (cleanF L fr') (cleanH L hp' L)
   | x => K x fr' hp') :
  ∃ L : List Nat, ∀ I : Fr → Hp → Prop, (∀ fr hp, WK B (fun x fr' hp' => match x with
   | .nrm => I (cleanF L fr') (cleanH L hp' L)
   | x => K x fr' hp') fr hp → I fr hp) → I (cleanF L fr) (cleanH L hp L) := by
 refine ⟨L, fun I hI => ?_⟩
 have key : ∀ n k, k < n → k ≤ k0 → ∀ fr hp, Inv k fr hp → I fr hp := by
  intro n
  induction n with
  | zero => intro k hk; omega
  | succ n ih =>
   intro k hk hk0 fr hp hinv
   refine hI _ _ ⟨_, fun x fr' hp' hh => ?_, h1 k hk0 fr hp hinv⟩
   cases x with
   | nrm => obtain ⟨j, hj, hh⟩ := hh; exact ih j (by omega) (by omega) _ _ hh
   | ext id => exact hh
   | ret => exact hh
 obtain ⟨j, hj, h0⟩ := h0
 exact key (j + 1) j (by omega) hj _ _ h0
theorem z_fr (fr : Fr) (ts : List Nat) : fr = puts (ts.map fun t => (t, fr t)) fr := (puts_self fr ts).symm
end Go.Proofs.YtchhkbkbbglgbaaGreatDoorW.AM
