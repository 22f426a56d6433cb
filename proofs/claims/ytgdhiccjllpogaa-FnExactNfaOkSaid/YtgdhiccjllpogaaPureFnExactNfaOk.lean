/- The pure statement of FnExactNfaOk holds: both find the same lists of places in order. -/
import Derived.Test.YtgdhiccjllpogaaQFnExactNfaOkx2
import Derived.Test.YtgdhiccjllpogaaBulk
namespace Go.Proofs.Ytgdhiccjllpogaa.Pure
open Go.RowKit Go.Proofs.Ytgdhiccjllpogaa.QFnExactNfaOk Go.Proofs.YtgdhiccjllpogaaW.PrintWords Go.Proofs.YtgdhiccjllpogaaW.PrintLast Go.Proofs.YtgdhiccjllpogaaW.PrintMore Go.Proofs.YtgdhiccjllpogaaW.Lims
open Go.Proofs.YtgdhiccjllpogaaW.Bulk
namespace FnExactNfaOkAid

theorem rdin88 (xs : List S88) (i : Nat) (h : i < xs.length) : rd_T88 xs (i : Int) = xs[i] := by
  unfold rd_T88
  simp [List.getD_eq_getElem?_getD, h]

theorem rdin90 (xs : List S90) (i : Nat) (h : i < xs.length) : rd_T90 xs (i : Int) = xs[i] := by
  unfold rd_T90
  simp [List.getD_eq_getElem?_getD, h]

def bl_Place (x : S88) : Nat := (x.f2.size + 0)
theorem sz_Place (x : S88) (hx : Wf88 x) (left : Int) (h0 : 0 ≤ left) (h1 : left ≤ 1048576) : laws_szPlace.f (x.f0) (x.f1) (x.f2) (x.f3) (x.f4) (x.f5) left = some (dn (bl_Place x) left) := by
  unfold laws_szPlace.f
  show _ = some (dn (x.f2.size + 0) left)
  refine dn_cut h0 h1 (len_le hx.2.2.1) fun t ht h0 h1 => ?_
  rw [ht]
  exact dn_end _ h0

def bls_Place (l : List S88) : Nat := l.length + (l.map bl_Place).sum
theorem sz_PlaceS (l : List S88) (hx : l.length ≤ maxLen ∧ ∀ x_ ∈ l, Wf88 x_) (left : Int) (h0 : 0 ≤ left) (h1 : left ≤ 1048576) : laws_szPlaceS.fv l left = some (dn (bls_Place l) left) := by
  rw [laws_szPlaceS.fv_eq]
  have hl := len_le hx.1
  refine dn_cut h0 h1 hl fun t ht h0 h1 => ?_
  rw [ht]
  exact sz_all laws_szPlaceS.l0v (fun x0 x1 x5 => (laws_szPlace.f ((rd_T88 x0 x5).f0) ((rd_T88 x0 x5).f1) ((rd_T88 x0 x5).f2) ((rd_T88 x0 x5).f3) ((rd_T88 x0 x5).f4) ((rd_T88 x0 x5).f5) x1)) bl_Place (by intro x l i; exact laws_szPlaceS.l0v_eq x l i) l hl (fun i h left h0 h1 => by simp only [rdin88 l i h]; exact sz_Place l[i] (hx.2 _ (List.getElem_mem h)) left h0 h1) t h0 h1

def cv_Place (x : S88) : S90 := ⟨x.f0, x.f1, x.f2, x.f3, x.f4, x.f5⟩
theorem to_Place (x : S88) (hb : bl_Place x ≤ 1048576) : laws_toPlace.f (x.f0) (x.f1) (x.f2) (x.f3) (x.f4) (x.f5) = some ((cv_Place x).f0, (cv_Place x).f1, (cv_Place x).f2, (cv_Place x).f3, (cv_Place x).f4, (cv_Place x).f5) := by
  unfold bl_Place at hb
  unfold laws_toPlace.f
  all_goals rfl

theorem to_PlaceS (l : List S88) (hb : bls_Place l ≤ 1048576) : laws_toPlaceS.fv l = some (l.map cv_Place) := by
  have hb' := hb
  unfold bls_Place at hb'
  rw [laws_toPlaceS.fv_eq, if_pos (by omega), if_pos (by omega)]
  have := to_all laws_toPlaceS.l0v (fun x0 x4 => (laws_toPlace.f ((rd_T88 x0 x4).f0) ((rd_T88 x0 x4).f1) ((rd_T88 x0 x4).f2) ((rd_T88 x0 x4).f3) ((rd_T88 x0 x4).f4) ((rd_T88 x0 x4).f5))) (fun bt125 => (⟨bt125.1, bt125.2.1, bt125.2.2.1, bt125.2.2.2.1, bt125.2.2.2.2.1, bt125.2.2.2.2.2⟩ : S90)) cv_Place (by intro x acc i; exact laws_toPlaceS.l0v_eq x acc i) l (by omega) (fun i h => by
    have hm := le_sum (List.mem_map_of_mem (f := bl_Place) (List.getElem_mem h))
    simp only [rdin88 l i h]; exact ⟨_, to_Place l[i] (by omega), rfl⟩) z90
  simpa using this

theorem eq_Place (y : S90) : laws_eqPlace.f (y.f0) (y.f1) (y.f2) (y.f3) (y.f4) (y.f5) (y.f0) (y.f1) (y.f2) (y.f3) (y.f4) (y.f5) = some true := by
  unfold laws_eqPlace.f
  simp

theorem eq_PlaceS (l : List S90) (h : l.length ≤ 9223372036854775807) : laws_eqPlaceS.fv l l = some true := by
  rw [laws_eqPlaceS.fv_eq, if_pos rfl]
  exact eq_all laws_eqPlaceS.l0v (fun x0 x1 x5 => (laws_eqPlace.f ((rd_T90 x0 x5).f0) ((rd_T90 x0 x5).f1) ((rd_T90 x0 x5).f2) ((rd_T90 x0 x5).f3) ((rd_T90 x0 x5).f4) ((rd_T90 x0 x5).f5) ((rd_T90 x1 x5).f0) ((rd_T90 x1 x5).f1) ((rd_T90 x1 x5).f2) ((rd_T90 x1 x5).f3) ((rd_T90 x1 x5).f4) ((rd_T90 x1 x5).f5))) (by intro x y i; exact laws_eqPlaceS.l0v_eq x y i) l h (fun i hi => by simp only [rdin90 l i hi]; exact eq_Place l[i])


theorem in_eq (a lo hi : Int) : spec_l1In.f a lo hi = some (decide (lo ≤ a ∧ a ≤ hi)) := by
  unfold spec_l1In.f
  by_cases h : lo ≤ a
  · rw [if_pos h]; simp [h]
  · rw [if_neg h]; simp [h]
theorem in_eq' (a lo hi : Int) : impl_in.f a lo hi = some (decide (lo ≤ a ∧ a ≤ hi)) := by
  unfold impl_in.f
  by_cases h : lo ≤ a
  · rw [if_pos h]; simp [h]
  · rw [if_neg h]; simp [h]

theorem s2 (n : Int) (p q r : Bool) (a b : Int) (c : ByteArray) (e : Bool) (f g : Int) (hn : 1 ≤ n) (hn' : n ≤ 9223372036854775807) :
    spec_l4Place.j2v n p q r a b c e f g = some (p && q && r && decide (1 ≤ a ∧ a ≤ 8 ∧ ((a = 7 ∧ 0 ≤ g ∧ g ≤ n - 1) ∨ (a ≠ 7 ∧ g = 0)))) := by
  rw [spec_l4Place.j2v_eq]
  simp only [in_eq, Option.bind_some, decide_eq_true_eq]
  rw [wrap_in (by omega) (by omega)]
  cases p <;> cases q <;> cases r <;> simp <;> (repeat' split) <;> simp_all <;> omega
theorem s1 (n : Int) (p q : Bool) (a b : Int) (c : ByteArray) (e : Bool) (f g : Int) (hn : 1 ≤ n) (hn' : n ≤ 9223372036854775807) :
    spec_l4Place.j1v n p q a b c e f g = some (p && q && decide (((a = 6 ∨ a = 7) ∧ 0 ≤ f ∧ f ≤ n - 1) ∨ (a ≠ 6 ∧ a ≠ 7 ∧ f = 0)) && decide (1 ≤ a ∧ a ≤ 8 ∧ ((a = 7 ∧ 0 ≤ g ∧ g ≤ n - 1) ∨ (a ≠ 7 ∧ g = 0)))) := by
  rw [spec_l4Place.j1v_eq]
  simp only [in_eq, Option.bind_some, decide_eq_true_eq, s2 n _ _ _ _ _ _ _ _ _ hn hn']
  rw [wrap_in (by omega) (by omega)]
  cases p <;> cases q <;> simp <;> (repeat' split) <;> simp_all <;> omega
theorem s0 (n : Int) (p : Bool) (a b : Int) (c : ByteArray) (e : Bool) (f g : Int) (hn : 1 ≤ n) (hn' : n ≤ 9223372036854775807) :
    spec_l4Place.j0v n p a b c e f g = some (p && decide (a = 3 ∨ (c.toList = [] ∧ e = false)) && decide (((a = 6 ∨ a = 7) ∧ 0 ≤ f ∧ f ≤ n - 1) ∨ (a ≠ 6 ∧ a ≠ 7 ∧ f = 0)) && decide (1 ≤ a ∧ a ≤ 8 ∧ ((a = 7 ∧ 0 ≤ g ∧ g ≤ n - 1) ∨ (a ≠ 7 ∧ g = 0)))) := by
  rw [spec_l4Place.j0v_eq]
  simp only [s1 n _ _ _ _ _ _ _ _ hn hn']
  by_cases h3 : a = 3
  · simp [h3]
  · by_cases hc : c.toList = []
    · cases e <;> simp [h3, hc]
    · simp [h3, hc]
/-- What a place must be. -/
def good (n a b : Int) (c : ByteArray) (e : Bool) (f g : Int) : Bool :=
  decide ((a = 1 ∧ 0 ≤ b ∧ b ≤ 255) ∨ b = 0) && decide (a = 3 ∨ (c.toList = [] ∧ e = false)) && decide (((a = 6 ∨ a = 7) ∧ 0 ≤ f ∧ f ≤ n - 1) ∨ (a ≠ 6 ∧ a ≠ 7 ∧ f = 0)) && decide (1 ≤ a ∧ a ≤ 8 ∧ ((a = 7 ∧ 0 ≤ g ∧ g ≤ n - 1) ∨ (a ≠ 7 ∧ g = 0)))
theorem s_place (n a b : Int) (c : ByteArray) (e : Bool) (f g : Int) (hn : 1 ≤ n) (hn' : n ≤ 9223372036854775807) :
    spec_l4Place.fv a b c e f g n = some (good n a b c e f g) := by
  rw [spec_l4Place.fv_eq]
  simp only [in_eq, Option.bind_some, decide_eq_true_eq, s0 n _ _ _ _ _ _ _ hn hn']
  unfold good
  by_cases ha : a = 1
  · by_cases hb : 0 ≤ b ∧ b ≤ 255
    · simp [ha, hb]
    · rw [if_neg hb]
      have hb' : b ≠ 0 := by omega
      have : ¬ ((a = 1 ∧ 0 ≤ b ∧ b ≤ 255) ∨ b = 0) := by omega
      have e0 : decide ((a = 1 ∧ 0 ≤ b ∧ b ≤ 255) ∨ b = 0) = false := decide_eq_false this
      have e1 : (b == 0) = false := by simp [hb']
      rw [e0, e1]
  · rw [if_neg ha]
    by_cases hb : b = 0 <;> simp [ha, hb]
theorem i1 (p : Bool) (a b : Int) (c : ByteArray) (e : Bool) (f g : Int) : impl_placeOk.j1v p a b c e f g = some (p && decide (f = 0 ∧ g = 0)) := by
  rw [impl_placeOk.j1v_eq]
  by_cases hf : f = 0 <;> by_cases hg : g = 0 <;> cases p <;> simp [hf, hg]
theorem some_iff {p q : Bool} (h : p = true ↔ q = true) : some p = some q := by rw [Bool.eq_iff_iff.2 h]
theorem i0 (n : Int) (p : Bool) (a b : Int) (c : ByteArray) (e : Bool) (f g : Int) (hn : 1 ≤ n) (hn' : n ≤ 9223372036854775807) :
    impl_placeOk.j0v n p a b c e f g = some (!p && decide ((a = 6 ∧ 0 ≤ f ∧ f ≤ n - 1 ∧ g = 0) ∨ (a = 7 ∧ 0 ≤ f ∧ f ≤ n - 1 ∧ 0 ≤ g ∧ g ≤ n - 1) ∨ (a = 1 ∧ 0 ≤ b ∧ b ≤ 255 ∧ f = 0 ∧ g = 0) ∨ ((a = 2 ∨ a = 3 ∨ a = 4 ∨ a = 5 ∨ a = 8) ∧ f = 0 ∧ g = 0))) := by
  rw [impl_placeOk.j0v_eq]
  cases p
  · rw [wrap_in (by omega) (by omega)]
    simp only [in_eq', Option.bind_some, decide_eq_true_eq, i1]
    (repeat' split) <;> first | (exfalso; simp at *; done) | (refine some_iff ?_; simp only [Bool.and_eq_true, beq_iff_eq, decide_eq_true_eq, Bool.not_false, Bool.false_eq_true, true_and, false_iff]; omega)
  · simp
theorem i_place (n a b : Int) (c : ByteArray) (e : Bool) (f g : Int) (l : Bool) (hn : 1 ≤ n) (hn' : n ≤ 9223372036854775807) :
    impl_placeOk.fv a b c e f g n l = some (good n a b c e f g && (a == 8) == l) := by
  rw [impl_placeOk.fv_eq]
  simp only [i0 n _ _ _ _ _ _ _ hn hn']
  by_cases hl : ((a == 8) == l) = true
  · rw [hl, Bool.and_true, if_neg (by rw [bne_iff_ne, ne_eq, Classical.not_not]; exact (beq_iff_eq.1 hl).symm)]
    unfold good
    by_cases hc : c.toList = []
    · cases e
      · simp only [hc, if_true]
        (repeat' split) <;> (refine some_iff ?_; simp only [Bool.and_eq_true, decide_eq_true_eq, Bool.not_false, Bool.not_true, Bool.false_eq_true, true_and, and_true, or_true, false_and, or_self, false_or, true_or, and_self, false_iff, Bool.true_eq_false, reduceCtorEq, and_false]; try omega)
      · simp only [hc, if_true]
        (repeat' split) <;> (refine some_iff ?_; simp only [Bool.and_eq_true, decide_eq_true_eq, Bool.not_false, Bool.not_true, Bool.false_eq_true, true_and, and_true, or_false, false_and, Bool.true_eq_false, and_false, false_or, or_self, true_or, and_self, false_iff, reduceCtorEq]; try omega)
    · simp only [hc, if_false]
      (repeat' split) <;> (refine some_iff ?_; simp only [Bool.and_eq_true, decide_eq_true_eq, Bool.not_false, Bool.not_true, Bool.false_eq_true, true_and, and_true, or_false, false_and, or_self, false_or, true_or, and_self, false_iff, Bool.true_eq_false, reduceCtorEq, and_false]; try omega)
  · have hl' : ((a == 8) == l) = false := by simpa using hl
    rw [hl', Bool.and_false, if_pos (by rw [bne_iff_ne]; intro h; exact hl (by rw [h]; simp))]
    simp

theorem loops (x : List S90) (hl : x.length ≤ 1048576) (hn : 1 ≤ x.length) (d : Nat) : ∀ i : Nat, x.length - i = d → i ≤ x.length →
    ∃ b : Bool, spec_NfaOk.l0v x (x.length : Int) i = some (b && decide (x.length ≤ 400)) ∧ impl_NfaOk.l0v x x (x.length : Int) i = some b := by
  induction d with
  | zero =>
    intro i h1 h2
    refine ⟨true, ?_, ?_⟩
    · rw [spec_NfaOk.l0v_eq, if_neg (by omega), in_eq]
      have : (1 ≤ (x.length : Int) ∧ (x.length : Int) ≤ 400) ↔ x.length ≤ 400 := by omega
      simp [this]
    · rw [impl_NfaOk.l0v_eq, if_neg (by omega)]
  | succ d ih =>
    intro i h1 h2
    have hi : i < x.length := by omega
    obtain ⟨b, e1, e2⟩ := ih (i + 1) (by omega) (by omega)
    have hw : wrap64 ((i : Int) + 1) = ((i + 1 : Nat) : Int) := by rw [wrap_in (by omega) (by omega)]; omega
    have hw2 : wrap64 ((x.length : Int) - 1) = (x.length : Int) - 1 := wrap_in (by omega) (by omega)
    refine ⟨(good x.length x[i].f0 x[i].f1 x[i].f2 x[i].f3 x[i].f4 x[i].f5 && (x[i].f0 == 8) == ((i : Int) == (x.length : Int) - 1)) && b, ?_, ?_⟩
    · rw [spec_NfaOk.l0v_eq, if_pos (by omega), if_pos (by omega), if_pos (by omega), rdin90 x i hi, s_place _ _ _ _ _ _ _ (by omega) (by omega), Option.bind_some, hw2]
      simp only [spec_NfaOk.j1v_eq, hw, e1]
      cases good x.length x[i].f0 x[i].f1 x[i].f2 x[i].f3 x[i].f4 x[i].f5 <;> cases (x[i].f0 == 8) <;> cases ((i : Int) == (x.length : Int) - 1) <;> simp
    · rw [impl_NfaOk.l0v_eq, if_pos (by omega), if_pos (by omega), if_pos (by omega), rdin90 x i hi, hw2, i_place _ _ _ _ _ _ _ _ (by omega) (by omega), Option.bind_some, hw, e2]
      cases (good x.length x[i].f0 x[i].f1 x[i].f2 x[i].f3 x[i].f4 x[i].f5 && (x[i].f0 == 8) == ((i : Int) == (x.length : Int) - 1)) <;> simp
theorem both (x : List S90) (hl : x.length ≤ 1048576) : ∃ b : Bool, spec_NfaOk.fv x = some b ∧ impl_NfaOk.fv x = some b := by
  rw [spec_NfaOk.fv_eq, impl_NfaOk.fv_eq, in_eq', Option.bind_some]
  by_cases hn : 1 ≤ x.length
  · obtain ⟨b, e1, e2⟩ := loops x hl hn x.length 0 (by omega) (by omega)
    refine ⟨_, e1, ?_⟩
    by_cases h : x.length ≤ 400
    · rw [if_pos (by simp; omega), show (0 : Int) = ((0 : Nat) : Int) from rfl, e2]; simp [h]
    · rw [if_neg (by simp; omega)]; simp [h]
  · refine ⟨false, ?_, by rw [if_neg (by simp; omega)]⟩
    rw [spec_NfaOk.l0v_eq, if_neg (by omega), in_eq]
    have : ¬ (1 ≤ (x.length : Int) ∧ (x.length : Int) ≤ 400) := by omega
    simp [this]
end FnExactNfaOkAid
open FnExactNfaOkAid

theorem FnExactNfaOk : laws_FnExactNfaOk.Pure := by
  intro x hx
  refine (laws_FnExactNfaOk.f_lim _).get ?_
  rw [laws_FnExactNfaOk.fv_eq, sz_PlaceS x hx 1048576 (by omega) (by omega), Option.bind_some]
  by_cases h : dn (bls_Place x) 1048576 < 0
  · rw [if_pos h]
  · have hn := dn_pos h (by omega)
    have hb1 : bls_Place x ≤ 1048576 := by omega
    have hb2 := hb1
    unfold bls_Place at hb2
    obtain ⟨b, e1, e2⟩ := both (x.map cv_Place) (by simp; omega)
    rw [if_neg h, to_PlaceS x hb1]
    simp only [Option.bind_some, e1, e2]
    rw [if_neg (by simp), eq_PlaceS _ (by simp; omega), Option.bind_some, if_pos rfl]

end Go.Proofs.Ytgdhiccjllpogaa.Pure
