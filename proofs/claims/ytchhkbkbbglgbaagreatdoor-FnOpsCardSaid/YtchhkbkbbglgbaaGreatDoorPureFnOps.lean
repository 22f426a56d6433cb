/- Drawn places are right as the chapter says; right ones have a text. -/
import Derived.Test.YtchhkbkbbglgbaaGreatDoorFFnOps
import Derived.Test.YtchhkbkbbglgbaaGreatDoorBulk
import Derived.Lib.ItoaLen
set_option linter.unusedVariables false
set_option linter.unusedSimpArgs false
namespace Go.Proofs.YtchhkbkbbglgbaaGreatDoor.Pure
open Go.RowKit Go.Proofs.YtchhkbkbbglgbaaGreatDoor.QFnOps Go.Proofs.YtchhkbkbbglgbaaGreatDoorW.PrintWords Go.Proofs.YtchhkbkbbglgbaaGreatDoorW.PrintLast Go.Proofs.YtchhkbkbbglgbaaGreatDoorW.PrintMore Go.Proofs.YtchhkbkbbglgbaaGreatDoorW.Lims
open Go.Proofs.YtchhkbkbbglgbaaGreatDoorW.Bulk
namespace FnOpsAid
theorem rdin29 (xs : List S29) (i : Nat) (h : i < xs.length) : rd_T29 xs (i : Int) = xs[i] := by
  unfold rd_T29
  simp [List.getD_eq_getElem?_getD, h]
/-! ### texts as rows of bytes -/
def B (l : List UInt8) : ByteArray := ⟨l.toArray⟩
theorem B_self (s : ByteArray) : B s.data.toList = s := by cases s; simp [B]
theorem B_size (l : List UInt8) : (B l).size = l.length := by show l.toArray.size = l.length; simp
theorem B_data (l : List UInt8) : (B l).data.toList = l := by simp [B]
theorem B_append (a b : List UInt8) : B a ++ B b = B (a ++ b) := by
  apply ByteArray.ext
  rw [ByteArray.data_append]
  simp [B]
theorem B_extract (l : List UInt8) (i j : Nat) : (B l).extract i j = B ((l.drop i).take (j - i)) := by rw [Lib.extract_eq, B_data]; rfl
theorem B_toList (l : List UInt8) : (B l).toList = l := by rw [Lib.toList_data, B_data]
theorem B_bt (l : List UInt8) (i : Nat) (h : i < l.length) : bt (B l) (i : Int) = (l[i].toNat : Int) := by
  have h' : (i : Int).toNat < (B l).size := by rw [Int.toNat_natCast, B_size]; exact h
  rw [← bt_at (B l) i h']
  rfl
theorem wrap_in {n : Int} (h0 : -9223372036854775808 ≤ n) (h1 : n ≤ 9223372036854775807) : wrap64 n = n := by unfold wrap64; omega
theorem byte_is (b c : UInt8) (n : Int) (hc : (c.toNat : Int) = n) : ((b.toNat : Int) = n) ↔ b = c := by
  rw [← UInt8.toNat_inj, ← hc]; omega
theorem byte_ofNat (n : Nat) (h : n < 256) : (UInt8.ofNat n).toNat = n := by rw [UInt8.toNat_ofNat']; omega
theorem within_loop (l : List ByteArray) (s : ByteArray) (hl : l.length ≤ 2000000) (d : Nat) : ∀ i : Nat, l.length - i = d → i ≤ l.length →
    spec_l7Within.l0v l s (i : Int) = some (decide (s.toList ∈ (l.drop i).map ByteArray.toList)) := by
  induction d with
  | zero =>
    intro i h1 h2
    rw [spec_l7Within.l0v_eq, if_neg (by omega), List.drop_of_length_le (by omega)]
    simp
  | succ d ih =>
    intro i h1 h2
    have hi : i < l.length := by omega
    rw [spec_l7Within.l0v_eq, if_pos (by omega), if_pos (by omega), rdOf_nat _ l i hi, wrap_in (by omega) (by omega), show (i : Int) + 1 = ((i + 1 : Nat) : Int) by omega, ih (i + 1) (by omega) (by omega)]
    rw [List.drop_eq_getElem_cons hi, List.map_cons]
    by_cases h : l[i].toList = s.toList
    · rw [if_pos h, h]; congr 1; exact (decide_eq_true List.mem_cons_self).symm
    · rw [if_neg h]; congr 1; rw [decide_eq_decide, List.mem_cons]; exact ⟨Or.inr, fun e => e.resolve_left (fun e => h e.symm)⟩
theorem within (l : List ByteArray) (s : ByteArray) (hl : l.length ≤ 2000000) : spec_l7Within.fv l s = some (decide (s.toList ∈ l.map ByteArray.toList)) := by
  rw [spec_l7Within.fv_eq]
  exact within_loop l s hl l.length 0 (by omega) (by omega)
theorem index_loop (l : List ByteArray) (s : ByteArray) (hl : l.length ≤ 2000000) (d : Nat) : ∀ i : Nat, l.length - i = d → i ≤ l.length →
    ∃ r : Int, slices_Index_string_string.l0v l s (l.length : Int) (i : Int) = some r ∧ (r ≥ 0 ↔ s.toList ∈ (l.drop i).map ByteArray.toList) := by
  induction d with
  | zero =>
    intro i h1 h2
    exact ⟨-1, by rw [slices_Index_string_string.l0v_eq, if_neg (by omega)], by rw [List.drop_of_length_le (by omega)]; simp⟩
  | succ d ih =>
    intro i h1 h2
    have hi : i < l.length := by omega
    obtain ⟨r, hr, he⟩ := ih (i + 1) (by omega) (by omega)
    rw [slices_Index_string_string.l0v_eq, if_pos (by omega), if_pos (by omega), if_pos (by omega), rdOf_nat _ l i hi, wrap_in (by omega) (by omega), show (i : Int) + 1 = ((i + 1 : Nat) : Int) by omega]
    rw [List.drop_eq_getElem_cons hi, List.map_cons]
    by_cases h : s.toList = l[i].toList
    · exact ⟨i, by rw [if_pos h], ⟨fun _ => by rw [h]; exact List.mem_cons_self, fun _ => by omega⟩⟩
    · exact ⟨r, by rw [if_neg h]; exact hr, by rw [he, List.mem_cons]; exact ⟨Or.inr, fun e => e.resolve_left h⟩⟩
theorem contains (l : List ByteArray) (s : ByteArray) (hl : l.length ≤ 2000000) : slices_Contains_string_string.fv l s = some (decide (s.toList ∈ l.map ByteArray.toList)) := by
  rw [slices_Contains_string_string.fv_eq, slices_Index_string_string.fv_eq]
  obtain ⟨r, hr, he⟩ := index_loop l s hl l.length 0 (by omega) (by omega)
  have hr' : slices_Index_string_string.l0v l s (l.length : Int) 0 = some r := hr
  rw [hr']
  simp only [Option.bind_some]
  congr 1
  rw [decide_eq_decide]
  exact he
def callws : List (List UInt8) := [[108, 101, 110, 103, 116, 104], [115, 117, 98, 115, 116, 114], [105, 110, 100, 101, 120], [105, 110, 116], [117, 112, 112, 101, 114], [108, 111, 119, 101, 114]]
/-! ### two readers of patterns: what both see -/
theorem next_nil (b : Bool) : impl_rexReader_next.f (B []) b = some (0, false, B [], b) := by
  unfold impl_rexReader_next.f
  rw [B_toList, if_pos rfl]
theorem next_bad (l : List UInt8) : impl_rexReader_next.f (B l) true = some (0, false, B l, true) := by
  unfold impl_rexReader_next.f
  split
  · rfl
  · rw [if_pos rfl]
theorem next_cons (c : UInt8) (l : List UInt8) : impl_rexReader_next.f (B (c :: l)) false = some ((c.toNat : Int), true, B (c :: l), false) := by
  unfold impl_rexReader_next.f
  have e : bt (B (c :: l)) ((0 : Nat) : Int) = (c.toNat : Int) := B_bt _ 0 (by simp)
  rw [B_toList, if_neg (by simp), if_neg (by decide), if_pos (by rw [B_size, List.length_cons]; omega)]
  rw [show ((0 : Nat) : Int) = 0 from rfl] at e
  rw [e]
theorem rest_of (c : UInt8) (l : List UInt8) : (B (c :: l)).extract 1 (B (c :: l)).size = B l := by rw [B_extract, B_size]; simp
theorem one_in (c : UInt8) (l : List UInt8) : 1 ≤ ((B (c :: l)).size : Int) := by rw [B_size, List.length_cons]; omega
theorem take_nil (b : Bool) (ch : Int) : impl_rexReader_take.f (B []) b ch = some (false, B [], b) := by
  unfold impl_rexReader_take.f
  rw [next_nil, Option.bind_some, if_neg (by simp)]
theorem take_bad (l : List UInt8) (ch : Int) : impl_rexReader_take.f (B l) true ch = some (false, B l, true) := by
  unfold impl_rexReader_take.f
  rw [next_bad, Option.bind_some, if_neg (by simp)]
theorem take_hit (c : UInt8) (l : List UInt8) (ch : Int) (h : (c.toNat : Int) = ch) : impl_rexReader_take.f (B (c :: l)) false ch = some (true, B l, false) := by
  unfold impl_rexReader_take.f
  rw [next_cons, Option.bind_some, if_pos rfl, if_pos h, if_pos (one_in c l), rest_of]
theorem take_miss (c : UInt8) (l : List UInt8) (ch : Int) (h : ¬ (c.toNat : Int) = ch) : impl_rexReader_take.f (B (c :: l)) false ch = some (false, B (c :: l), false) := by
  unfold impl_rexReader_take.f
  rw [next_cons, Option.bind_some, if_pos rfl, if_neg h]
def pl (T l : List UInt8) : Int := ((T.length - l.length : Nat) : Int)
def Ctx (T l : List UInt8) (d : Nat) : Prop := ∃ pre, T = pre ++ l ∧ d ≤ pre.length ∧ T.length ≤ 60
theorem ctx_bt {T l : List UInt8} {c : UInt8} {d : Nat} (h : Ctx T (c :: l) d) : bt (B T) (pl T (c :: l)) = (c.toNat : Int) := by
  obtain ⟨pre, rfl, _, _⟩ := h
  have e : pl (pre ++ c :: l) (c :: l) = ((pre.length : Nat) : Int) := by unfold pl; simp
  rw [e, B_bt _ pre.length (by simp)]
  simp
theorem pl_ge (T l : List UInt8) : 0 ≤ pl T l := by unfold pl; omega
theorem ctx_lt {T l : List UInt8} {c : UInt8} {d : Nat} (h : Ctx T (c :: l) d) : pl T (c :: l) < ((B T).size : Int) := by
  obtain ⟨pre, rfl, _, _⟩ := h
  unfold pl
  rw [B_size, List.length_append, List.length_cons]
  omega
theorem ctx_next {T l : List UInt8} {c : UInt8} {d : Nat} (h : Ctx T (c :: l) d) : wrap64 (pl T (c :: l) + 1) = pl T l := by
  obtain ⟨pre, rfl, _, h3⟩ := h
  unfold pl
  rw [List.length_append, List.length_cons] at h3 ⊢
  rw [wrap_in (by omega) (by omega)]
  omega
theorem pl_nil (T : List UInt8) : pl T [] = (T.length : Int) := by unfold pl; simp
theorem ctx_drop {T l : List UInt8} {d : Nat} (h : Ctx T l d) (k : Nat) : Ctx T (l.drop k) d := by
  obtain ⟨pre, rfl, h2, h3⟩ := h
  exact ⟨pre ++ l.take k, by rw [List.append_assoc, List.take_append_drop], by rw [List.length_append]; omega, h3⟩
theorem ctx_tail {T l : List UInt8} {c : UInt8} {d : Nat} (h : Ctx T (c :: l) d) : Ctx T l d := ctx_drop h 1
theorem ctx_in {T l : List UInt8} {c : UInt8} {d : Nat} (h : Ctx T (c :: l) d) : Ctx T l (d + 1) := by
  obtain ⟨pre, rfl, h2, h3⟩ := h
  exact ⟨pre ++ [c], by simp, by rw [List.length_append, List.length_singleton]; omega, h3⟩
theorem ctx_len {T l : List UInt8} {d : Nat} (h : Ctx T l d) : d + l.length ≤ 60 := by
  obtain ⟨pre, rfl, h2, h3⟩ := h
  rw [List.length_append] at h3
  omega
theorem now_bad (T : List UInt8) (at_ ch : Int) : spec_l3Now.f (B T) at_ true ch = some (false, B T, at_, true) := by
  unfold spec_l3Now.f
  rw [if_pos rfl]
theorem now_end (T : List UInt8) (ch : Int) : spec_l3Now.f (B T) (pl T []) false ch = some (false, B T, pl T [], false) := by
  unfold spec_l3Now.f
  rw [if_neg (by decide), pl_nil, if_neg (by rw [B_size]; omega)]
theorem now_cons {T l : List UInt8} {c : UInt8} {d : Nat} (h : Ctx T (c :: l) d) (ch : Int) : spec_l3Now.f (B T) (pl T (c :: l)) false ch = some (((c.toNat : Int) == ch), B T, pl T (c :: l), false) := by
  unfold spec_l3Now.f
  rw [if_neg (by decide), if_pos (ctx_lt h), if_pos (pl_ge _ _), ctx_bt h]
def IR (o : Option (Int × Int × ByteArray × Bool × List S57 × ByteArray × Bool)) (x : S57) (l : List UInt8) (b : Bool) : Prop := o = some (x.f0, x.f1, x.f2, x.f3, x.f4, B l, b)
def SR (T : List UInt8) (o : Option (Int × Int × ByteArray × Bool × List S57 × ByteArray × Int × Bool)) (x : S57) (a : Int) (b : Bool) : Prop := o = some (x.f0, x.f1, x.f2, x.f3, x.f4, B T, a, b)
/-! ### sets -/
theorem mark_both (n : Nat) : ∀ (has : List Bool) (lo hi : Int), (hi + 1 - lo).toNat = n → 0 ≤ lo → hi ≤ 255 → has.length = 256 → ∃ has' : List Bool, has'.length = 256 ∧
    (∀ x5 x7 S c p q s f, impl_rexReader_set.l1v x5 has x7 hi lo S c p q s f = impl_rexReader_set.l0v x5 has' (wrap64 (x7 + 1)) S c p q s f) ∧
    (∀ m T a c p q s f, spec_l3Set.l1v has m hi lo T a c p q s f = spec_l3Set.l0v has' (wrap64 (m + 1)) T a c p q s f) := by
  induction n with
  | zero =>
    intro has lo hi h1 h2 h3 h4
    refine ⟨has, h4, fun x5 x7 S c p q s f => ?_, fun m T a c p q s f => ?_⟩
    · rw [impl_rexReader_set.l1v_eq, if_neg (by omega)]
    · rw [spec_l3Set.l1v_eq, if_neg (by omega)]
  | succ n ih =>
    intro has lo hi h1 h2 h3 h4
    obtain ⟨has', e1, e2, e3⟩ := ih (has.set lo.toNat true) (lo + 1) hi (by omega) (by omega) h3 (by rw [List.length_set]; exact h4)
    refine ⟨has', e1, fun x5 x7 S c p q s f => ?_, fun m T a c p q s f => ?_⟩
    · rw [impl_rexReader_set.l1v_eq, if_pos (by omega), if_pos h2, if_pos (by omega), wrap_in (n := lo + 1) (by omega) (by omega)]
      exact e2 x5 x7 S c p q s f
    · rw [spec_l3Set.l1v_eq, if_pos (by omega), if_pos h2, if_pos (by omega), wrap_in (n := lo + 1) (by omega) (by omega)]
      exact e3 m T a c p q s f
theorem out_both (has : List Bool) (hh : has.length = 256) (n : Nat) : ∀ (i : Nat) (out : List Int), 256 - i = n → i ≤ 256 → out.length ≤ i → ∃ out' : List Int,
    (∀ S c p q s f, impl_rexReader_set.l2v out has 256 (i : Int) S c p q s f = some (p, q, strOfNums out', f, [], S, c)) ∧
    (∀ T a c p q s f, spec_l3Set.l2v has out (i : Int) T a c p q s f = some (p, q, strOfNums out', f, [], T, a, c)) := by
  induction n with
  | zero =>
    intro i out h1 h2 h3
    refine ⟨out, fun S c p q s f => ?_, fun T a c p q s f => ?_⟩
    · rw [impl_rexReader_set.l2v_eq, if_neg (by omega)]
    · rw [spec_l3Set.l2v_eq, if_neg (by omega)]
  | succ n ih =>
    intro i out h1 h2 h3
    have hw : wrap64 ((i : Int) + 1) = ((i + 1 : Nat) : Int) := by rw [wrap_in (by omega) (by omega)]; omega
    by_cases h : rdOf false has (i : Int) = true
    · obtain ⟨out', e1, e2⟩ := ih (i + 1) (out ++ [(i : Int) % 256]) (by omega) (by omega) (by simp; omega)
      refine ⟨out', fun S c p q s f => ?_, fun T a c p q s f => ?_⟩
      · rw [impl_rexReader_set.l2v_eq, if_pos (by omega), if_pos (by omega), if_pos (by omega), if_pos h, if_pos (by omega), hw]
        exact e1 S c p q s f
      · rw [spec_l3Set.l2v_eq, if_pos (by omega), if_pos (by omega), if_pos (by omega), if_pos h, if_pos (by omega), hw]
        exact e2 T a c p q s f
    · obtain ⟨out', e1, e2⟩ := ih (i + 1) out (by omega) (by omega) (by omega)
      refine ⟨out', fun S c p q s f => ?_, fun T a c p q s f => ?_⟩
      · rw [impl_rexReader_set.l2v_eq, if_pos (by omega), if_pos (by omega), if_pos (by omega), if_neg h, hw]
        exact e1 S c p q s f
      · rw [spec_l3Set.l2v_eq, if_pos (by omega), if_pos (by omega), if_pos (by omega), if_neg h, hw]
        exact e2 T a c p q s f
theorem idx_close (l : List UInt8) : (Lib.indexByte l 93 = -1 ∧ (93 : UInt8) ∉ l) ∨ ∃ a r, l = a ++ 93 :: r ∧ (93 : UInt8) ∉ a ∧ Lib.indexByte l 93 = (a.length : Int) := by
  induction l with
  | nil => exact .inl ⟨rfl, by simp⟩
  | cons b l ih =>
    by_cases h : b = 93
    · subst h
      exact .inr ⟨[], l, rfl, by simp, by simp [Lib.indexByte]⟩
    · have hb : (b == 93) = false := by simpa using h
      rcases ih with ⟨e, hn⟩ | ⟨a, r, rfl, hn, e⟩
      · exact .inl ⟨by rw [Lib.indexByte, hb, e]; rfl, by simp [hn, Ne.symm h]⟩
      · refine .inr ⟨b :: a, r, rfl, by simp [hn, Ne.symm h], ?_⟩
        have hne : ¬ ((a.length : Int) == -1) = true := fun z => by have := beq_iff_eq.1 z; omega
        rw [Lib.indexByte, hb, e, if_neg (by decide), if_neg hne]
        simp
theorem place_body (T pre body rest : List UInt8) (hT : T = pre ++ (body ++ rest)) (j : Nat) (hj : j < body.length) : bt (B T) ((pre.length + j : Nat) : Int) = (body[j].toNat : Int) := by
  have hlen : T.length = pre.length + (body.length + rest.length) := by rw [hT, List.length_append, List.length_append]
  rw [B_bt T (pre.length + j) (by omega)]
  congr 2
  subst hT
  rw [List.getElem_append_right (by omega)]
  simp only [Nat.add_sub_cancel_left]
  rw [List.getElem_append_left hj]
theorem place_end (T pre body r2 : List UInt8) (hT : T = pre ++ (body ++ 93 :: r2)) : bt (B T) ((pre.length + body.length : Nat) : Int) = 93 := by
  have hlen : T.length = pre.length + (body.length + (r2.length + 1)) := by rw [hT, List.length_append, List.length_append, List.length_cons]
  rw [B_bt T (pre.length + body.length) (by omega)]
  subst hT
  rw [List.getElem_append_right (by omega)]
  simp only [Nat.add_sub_cancel_left]
  rw [List.getElem_append_right (by omega)]
  simp
theorem impl_range (body : List UInt8) (h60 : body.length ≤ 60) (i : Nat) (hR1 : i + 2 < body.length) (hR3 : body[i + 1]'(by omega) = 45) (has has1 : List Bool) (c : Bool)
    (g2 : ∀ x5 x7 S c p q s f, impl_rexReader_set.l1v x5 has x7 (body[i + 2].toNat : Int) ((body[i]'(by omega)).toNat : Int) S c p q s f = impl_rexReader_set.l0v x5 has1 (wrap64 (x7 + 1)) S c p q s f) (S p q s f) :
    impl_rexReader_set.l0v (B body) has (i : Int) S c p q s f = impl_rexReader_set.l0v (B body) has1 ((i + 3 : Nat) : Int) S (c || decide ((body[i + 2].toNat : Int) < ((body[i]'(by omega)).toNat : Int))) p q s f := by
  have l1 := (body[i]'(by omega)).toNat_lt
  have l2 := body[i + 2].toNat_lt
  have w1 : wrap64 ((i : Int) + 1) = ((i + 1 : Nat) : Int) := by rw [wrap_in (by omega) (by omega)]; omega
  have w2 : wrap64 ((i : Int) + 2) = ((i + 2 : Nat) : Int) := by rw [wrap_in (by omega) (by omega)]; omega
  have w7 : wrap64 (((i + 2 : Nat) : Int) + 1) = ((i + 3 : Nat) : Int) := by rw [wrap_in (by omega) (by omega)]; omega
  have b0 : bt (B body) (i : Int) = ((body[i]'(by omega)).toNat : Int) := B_bt body i (by omega)
  have b1 : bt (B body) ((i + 1 : Nat) : Int) = 45 := by rw [B_bt body (i + 1) (by omega), hR3]; rfl
  have b2 : bt (B body) ((i + 2 : Nat) : Int) = (body[i + 2].toNat : Int) := B_bt body (i + 2) hR1
  generalize body[i]'(by omega) = u at *
  generalize body[i + 2] = v at *
  have wu : wrap64 (u.toNat : Int) = (u.toNat : Int) := wrap_in (by omega) (by omega)
  have wv : wrap64 (v.toNat : Int) = (v.toNat : Int) := wrap_in (by omega) (by omega)
  have hs : ((B body).size : Int) = (body.length : Int) := by rw [B_size]
  have c1 : (i : Int) < (body.length : Int) := by omega
  have c2 : (0 : Int) ≤ (i : Int) := by omega
  have c3 : ((i + 2 : Nat) : Int) < (body.length : Int) := by omega
  have c4 : (0 : Int) ≤ ((i + 1 : Nat) : Int) := by omega
  have c5 : ((i + 1 : Nat) : Int) < (body.length : Int) := by omega
  have c6 : (0 : Int) ≤ ((i + 2 : Nat) : Int) := by omega
  have d45 : ((45 : Int) == 45) = true := rfl
  rw [impl_rexReader_set.l0v_eq]
  simp only [hs, w1, w2, c1, c2, c3, c4, c5, b0, b1, wu, d45, if_true]
  rw [impl_rexReader_set.j1v_eq]
  simp only [hs, w2, c6, c3, b2, wv, if_true]
  cases c
  · simp only [Bool.false_eq_true, if_false, Bool.false_or]
    rw [impl_rexReader_set.j2v_eq, g2, w7]
  · simp only [if_true, Bool.true_or]
    rw [impl_rexReader_set.j2v_eq, g2, w7]
theorem impl_byte (body : List UInt8) (h60 : body.length ≤ 60) (i : Nat) (hi : i < body.length) (hR : ∀ h : i + 2 < body.length, ¬ body[i + 1]'(by omega) = 45) (has has1 : List Bool) (c : Bool)
    (g2 : ∀ x5 x7 S c p q s f, impl_rexReader_set.l1v x5 has x7 (body[i].toNat : Int) (body[i].toNat : Int) S c p q s f = impl_rexReader_set.l0v x5 has1 (wrap64 (x7 + 1)) S c p q s f) (S p q s f) :
    impl_rexReader_set.l0v (B body) has (i : Int) S c p q s f = impl_rexReader_set.l0v (B body) has1 ((i + 1 : Nat) : Int) S c p q s f := by
  have l1 := body[i].toNat_lt
  have w1 : wrap64 ((i : Int) + 1) = ((i + 1 : Nat) : Int) := by rw [wrap_in (by omega) (by omega)]; omega
  have w2 : wrap64 ((i : Int) + 2) = ((i + 2 : Nat) : Int) := by rw [wrap_in (by omega) (by omega)]; omega
  have b0 : bt (B body) (i : Int) = (body[i].toNat : Int) := B_bt body i hi
  have hs : ((B body).size : Int) = (body.length : Int) := by rw [B_size]
  have c1 : (i : Int) < (body.length : Int) := by omega
  have c2 : (0 : Int) ≤ (i : Int) := by omega
  have wu : wrap64 (body[i].toNat : Int) = (body[i].toNat : Int) := wrap_in (by omega) (by omega)
  have hj : impl_rexReader_set.j1v (B body) has (i : Int) (body[i].toNat : Int) (body[i].toNat : Int) false S c p q s f = impl_rexReader_set.l0v (B body) has1 ((i + 1 : Nat) : Int) S c p q s f := by
    rw [impl_rexReader_set.j1v_eq]
    simp only [Bool.false_eq_true, if_false]
    rw [impl_rexReader_set.j2v_eq, g2, w1]
  rw [impl_rexReader_set.l0v_eq]
  by_cases h5 : i + 2 < body.length
  · have c3 : ((i + 2 : Nat) : Int) < (body.length : Int) := by omega
    have c4 : (0 : Int) ≤ ((i + 1 : Nat) : Int) := by omega
    have c5 : ((i + 1 : Nat) : Int) < (body.length : Int) := by omega
    have b1 : (bt (B body) ((i + 1 : Nat) : Int) == 45) = false := by
      rw [B_bt body (i + 1) (by omega), beq_eq_false_iff_ne]
      exact fun e => hR h5 ((byte_is _ 45 45 rfl).1 e)
    simp only [hs, w1, w2, c1, c2, c3, c4, c5, b0, b1, wu, if_true, hj]
  · have c3 : ¬ ((i + 2 : Nat) : Int) < (body.length : Int) := by omega
    simp only [hs, w2, c1, c2, c3, b0, wu, if_true, if_false, hj]
theorem wr (a b : Nat) (k : Int) (h : (b : Int) = (a : Int) + k) (hb : b ≤ 1000) : wrap64 ((a : Int) + k) = (b : Int) := by rw [wrap_in (by omega) (by omega)]; omega
theorem wrap_byte (u : UInt8) : wrap64 (u.toNat : Int) = (u.toNat : Int) := by
  have := u.toNat_lt
  exact wrap_in (by omega) (by omega)
theorem not93 (u : UInt8) (hu : u ≠ 93) : ((u.toNat : Int) != 93) = true := by rw [bne_iff_ne]; exact fun e => hu ((byte_is _ 93 93 rfl).1 e)
theorem spec_range (T : List UInt8) (h60 : T.length ≤ 60) (a a1 a2 a3 : Nat) (e1 : a1 = a + 1) (e2 : a2 = a + 2) (e3 : a3 = a + 3) (hN : a2 < T.length) (u v : UInt8) (b0 : bt (B T) (a : Int) = (u.toNat : Int)) (b1 : bt (B T) (a1 : Int) = 45) (b2 : bt (B T) (a2 : Int) = (v.toNat : Int)) (hu : u ≠ 93) (hv : v ≠ 93)
    (has has1 : List Bool) (many : Nat) (hm : many ≤ 100) (c : Bool)
    (g3 : ∀ m T a c p q s f, spec_l3Set.l1v has m (v.toNat : Int) (u.toNat : Int) T a c p q s f = spec_l3Set.l0v has1 (wrap64 (m + 1)) T a c p q s f) (p q s f) :
    spec_l3Set.l0v has (many : Int) (B T) (a : Int) c p q s f = spec_l3Set.l0v has1 ((many + 1 : Nat) : Int) (B T) (a3 : Int) (c || decide ((v.toNat : Int) < (u.toNat : Int))) p q s f := by
  have c1 : (a : Int) < (T.length : Int) := by clear b0 b1 b2; omega
  have c2 : (0 : Int) ≤ (a : Int) := by clear b0 b1 b2; omega
  have c3 : (a2 : Int) < (T.length : Int) := by clear b0 b1 b2; omega
  have c4 : (0 : Int) ≤ (a1 : Int) := by clear b0 b1 b2; omega
  have c5 : (a1 : Int) < (T.length : Int) := by clear b0 b1 b2; omega
  have c6 : (0 : Int) ≤ (a2 : Int) := by clear b0 b1 b2; omega
  have w3 : wrap64 ((a : Int) + 1) = (a1 : Int) := wr a a1 1 (by clear b0 b1 b2; omega) (by clear b0 b1 b2; omega)
  have w4 : wrap64 ((a1 : Int) + 1) = (a2 : Int) := wr a1 a2 1 (by clear b0 b1 b2 w3; omega) (by clear b0 b1 b2 w3; omega)
  have w5 : wrap64 ((a1 : Int) + 2) = (a3 : Int) := wr a1 a3 2 (by clear b0 b1 b2 w3 w4; omega) (by clear b0 b1 b2 w3 w4; omega)
  have w6 : wrap64 ((many : Int) + 1) = ((many + 1 : Nat) : Int) := wr many (many + 1) 1 (by clear b0 b1 b2 w3 w4 w5; omega) (by clear b0 b1 b2 w3 w4 w5; omega)
  clear e1 e2 e3 hN hm
  have wu : wrap64 (u.toNat : Int) = (u.toNat : Int) := wrap_byte u
  have wv : wrap64 (v.toNat : Int) = (v.toNat : Int) := wrap_byte v
  have du : ((u.toNat : Int) != 93) = true := not93 u hu
  have dv : ((v.toNat : Int) != 93) = true := not93 v hv
  have hs : ((B T).size : Int) = (T.length : Int) := by rw [B_size]
  rw [spec_l3Set.l0v_eq]
  simp only [hs, c1, c2, b0, du, if_true]
  rw [spec_l3Set.j2v_eq]
  simp only [hs, c1, c2, w3, w4, c3, c4, c5, c6, b0, b1, b2, dv, wu, if_true]
  rw [spec_l3Set.j3v_eq]
  simp only [hs, w4, c3, c6, b2, wv, w5, if_true]
  rw [spec_l3Set.j4v_eq]
  by_cases hlh : (v.toNat : Int) < (u.toNat : Int)
  · simp only [hlh, if_true, decide_true, Bool.or_true]
    rw [spec_l3Set.j5v_eq, g3, w6]
  · simp only [hlh, if_false, decide_false, Bool.or_false]
    rw [spec_l3Set.j5v_eq, g3, w6]
theorem spec_byte (T : List UInt8) (h60 : T.length ≤ 60) (P i : Nat) (hN : P + i < T.length) (u : UInt8) (b0 : bt (B T) ((P + i : Nat) : Int) = (u.toNat : Int)) (hu : u ≠ 93)
    (hR : P + (i + 2) < T.length → bt (B T) ((P + (i + 1) : Nat) : Int) = 45 → bt (B T) ((P + (i + 2) : Nat) : Int) = 93)
    (has has1 : List Bool) (many : Nat) (hm : many ≤ 100) (c : Bool)
    (g3 : ∀ m T a c p q s f, spec_l3Set.l1v has m (u.toNat : Int) (u.toNat : Int) T a c p q s f = spec_l3Set.l0v has1 (wrap64 (m + 1)) T a c p q s f) (p q s f) :
    spec_l3Set.l0v has (many : Int) (B T) ((P + i : Nat) : Int) c p q s f = spec_l3Set.l0v has1 ((many + 1 : Nat) : Int) (B T) ((P + (i + 1) : Nat) : Int) c p q s f := by
  have l1 := u.toNat_lt
  have w3 : wrap64 (((P + i : Nat) : Int) + 1) = ((P + (i + 1) : Nat) : Int) := by
    have e_ : ((P + i : Nat) : Int) + 1 = ((P + (i + 1) : Nat) : Int) := by omega
    rw [e_]
    exact wrap_in (by omega) (by omega)
  have w4 : wrap64 (((P + (i + 1) : Nat) : Int) + 1) = ((P + (i + 2) : Nat) : Int) := by
    have e_ : ((P + (i + 1) : Nat) : Int) + 1 = ((P + (i + 2) : Nat) : Int) := by omega
    rw [e_]
    exact wrap_in (by omega) (by omega)
  have w6 : wrap64 ((many : Int) + 1) = ((many + 1 : Nat) : Int) := by rw [wrap_in (by omega) (by omega)]; omega
  have wu : wrap64 (u.toNat : Int) = (u.toNat : Int) := wrap_in (by omega) (by omega)
  have du : ((u.toNat : Int) != 93) = true := by rw [bne_iff_ne]; exact fun e => hu ((byte_is _ 93 93 rfl).1 e)
  have hs : ((B T).size : Int) = (T.length : Int) := by rw [B_size]
  have c1 : ((P + i : Nat) : Int) < (T.length : Int) := by omega
  have c2 : (0 : Int) ≤ ((P + i : Nat) : Int) := by omega
  have c0 : ¬ (u.toNat : Int) < (u.toNat : Int) := by omega
  have hj : spec_l3Set.j3v has (many : Int) (u.toNat : Int) (u.toNat : Int) false (B T) ((P + (i + 1) : Nat) : Int) c p q s f = spec_l3Set.l0v has1 ((many + 1 : Nat) : Int) (B T) ((P + (i + 1) : Nat) : Int) c p q s f := by
    rw [spec_l3Set.j3v_eq]
    simp only [Bool.false_eq_true, if_false]
    rw [spec_l3Set.j4v_eq, if_neg c0, spec_l3Set.j5v_eq, g3, w6]
  rw [spec_l3Set.l0v_eq]
  simp only [hs, c1, c2, b0, du, if_true]
  rw [spec_l3Set.j2v_eq]
  by_cases h5 : P + (i + 2) < T.length
  · have c3 : ((P + (i + 2) : Nat) : Int) < (T.length : Int) := by omega
    have c4 : (0 : Int) ≤ ((P + (i + 1) : Nat) : Int) := by omega
    have c5 : ((P + (i + 1) : Nat) : Int) < (T.length : Int) := by omega
    have c6 : (0 : Int) ≤ ((P + (i + 2) : Nat) : Int) := by omega
    by_cases h7 : bt (B T) ((P + (i + 1) : Nat) : Int) = 45
    · have h8 : ((93 : Int) != 93) = false := rfl
      simp only [hs, c1, c2, w3, w4, c3, c4, c5, c6, b0, h7, hR h5 h7, h8, wu, if_true, hj]
    · simp only [hs, c1, c2, w3, w4, c3, c4, c5, b0, h7, wu, if_true, if_false, hj]
  · have c3 : ¬ ((P + (i + 2) : Nat) : Int) < (T.length : Int) := by omega
    simp only [hs, c1, c2, w3, w4, c3, b0, wu, if_true, if_false, hj]
theorem spec_last (T pre body rest : List UInt8) (hT : T = pre ++ (body ++ rest)) (hr : rest = [] ∨ ∃ r2, rest = 93 :: r2) (has : List Bool) (m : Int) (c : Bool) (p q s f) :
    spec_l3Set.l0v has m (B T) ((pre.length + body.length : Nat) : Int) c p q s f = spec_l3Set.j2v has m false (B T) ((pre.length + body.length : Nat) : Int) c p q s f := by
  have hlen : T.length = pre.length + (body.length + rest.length) := by rw [hT, List.length_append, List.length_append]
  rw [spec_l3Set.l0v_eq]
  rcases hr with e | ⟨r2, e⟩
  · rw [if_neg (by rw [B_size, hlen, e, List.length_nil]; omega)]
  · rw [if_pos (by rw [B_size, hlen, e, List.length_cons]; omega), if_pos (by omega), place_end T pre body r2 (by rw [hT, e])]
    rfl
theorem set_run (T pre body rest : List UInt8) (hT : T = pre ++ (body ++ rest)) (h60 : T.length ≤ 60) (hb : (93 : UInt8) ∉ body) (hr : rest = [] ∨ ∃ r2, rest = 93 :: r2) (n : Nat) : ∀ (i many : Nat) (has : List Bool) (c : Bool), body.length - i ≤ n → i ≤ body.length → has.length = 256 → many ≤ i → (0 < i → 0 < many) →
    ∃ (has' : List Bool) (m' : Nat) (c' : Bool), has'.length = 256 ∧ m' ≤ body.length ∧ (0 < body.length → 0 < m') ∧
      (∀ S p q s f, impl_rexReader_set.l0v (B body) has (i : Int) S c p q s f = impl_rexReader_set.l2v [] has' 256 0 S c' p q s f) ∧
      (∀ p q s f, spec_l3Set.l0v has (many : Int) (B T) ((pre.length + i : Nat) : Int) c p q s f = spec_l3Set.j2v has' (m' : Int) false (B T) ((pre.length + body.length : Nat) : Int) c' p q s f) := by
  have hlen : T.length = pre.length + (body.length + rest.length) := by rw [hT, List.length_append, List.length_append]
  have hp := place_body T pre body rest hT
  induction n with
  | zero =>
    intro i many has c h0 h1 h2 h3 h4
    obtain rfl : i = body.length := by omega
    refine ⟨has, many, c, h2, h3, h4, fun S p q s f => ?_, fun p q s f => spec_last T pre body rest hT hr has _ c p q s f⟩
    rw [impl_rexReader_set.l0v_eq, if_neg (by rw [B_size]; omega), h2]
    rfl
  | succ n ih =>
    intro i many has c h0 h1 h2 h3 h4
    by_cases hi : i < body.length
    · have hne : body[i] ≠ 93 := fun e => hb (e ▸ List.getElem_mem hi)
      have hl := body[i].toNat_lt
      by_cases hR : ∃ h : i + 2 < body.length, body[i + 1]'(by omega) = 45
      · obtain ⟨hR1, hR3⟩ := hR
        have hne2 : body[i + 2] ≠ 93 := fun e => hb (e ▸ List.getElem_mem hR1)
        have hl2 := body[i + 2].toNat_lt
        obtain ⟨has1, g1, g2, g3⟩ := mark_both _ has (body[i].toNat : Int) (body[i + 2].toNat : Int) rfl (by omega) (by omega) h2
        obtain ⟨has', m', c', k1, k2, k3, k4, k5⟩ := ih (i + 3) (many + 1) has1 (c || decide ((body[i + 2].toNat : Int) < (body[i].toNat : Int))) (by omega) (by omega) g1 (by omega) (by omega)
        refine ⟨has', m', c', k1, k2, k3, fun S p q s f => ?_, fun p q s f => ?_⟩
        · rw [impl_range body (by omega) i hR1 hR3 has has1 c g2, k4]
        · rw [spec_range T h60 (pre.length + i) (pre.length + (i + 1)) (pre.length + (i + 2)) (pre.length + (i + 3)) (by omega) (by omega) (by omega) (by omega) body[i] body[i + 2] (hp i hi) (by rw [hp (i + 1) (by omega), hR3]; rfl) (hp (i + 2) hR1) hne hne2 has has1 many (by omega) c g3, k5]
      · obtain ⟨has1, g1, g2, g3⟩ := mark_both _ has (body[i].toNat : Int) (body[i].toNat : Int) rfl (by omega) (by omega) h2
        obtain ⟨has', m', c', k1, k2, k3, k4, k5⟩ := ih (i + 1) (many + 1) has1 c (by omega) (by omega) g1 (by omega) (by omega)
        refine ⟨has', m', c', k1, k2, k3, fun S p q s f => ?_, fun p q s f => ?_⟩
        · rw [impl_byte body (by omega) i hi (fun h e => hR ⟨h, e⟩) has has1 c g2, k4]
        · rw [spec_byte T h60 pre.length i (by omega) body[i] (hp i hi) hne (fun h5 h7 => ?_) has has1 many (by omega) c g3, k5]
          by_cases h9 : i + 1 < body.length
          · have h10 : body[i + 1] = 45 := by
              rw [hp (i + 1) h9] at h7
              exact (byte_is _ 45 45 rfl).1 h7
            have h11 : i + 2 = body.length := by
              by_cases h12 : i + 2 < body.length
              · exact absurd ⟨h12, h10⟩ hR
              · omega
            rcases hr with e | ⟨r2, e⟩
            · rw [e, List.length_nil] at hlen; omega
            · rw [h11, place_end T pre body r2 (by rw [hT, e])]
          · exfalso
            have h11 : i + 1 = body.length := by omega
            rcases hr with e | ⟨r2, e⟩
            · rw [e, List.length_nil] at hlen; omega
            · rw [h11, place_end T pre body r2 (by rw [hT, e])] at h7
              omega
    · exact ih i many has c (by omega) h1 h2 h3 h4
/-! ### both readers' answers -/
def Good (x : S57) : Prop := ∃ v, spec_l3Deep.fv x.f0 x.f1 x.f2 x.f3 x.f4 = some v ∧ impl_rexDeep.fv x.f0 x.f1 x.f2 x.f3 x.f4 = some v
theorem max_both (a b : Int) : spec_l1Max.f a b = some (mx a b) := by
  unfold spec_l1Max.f mx
  by_cases h : a > b
  · rw [if_pos h]
    split <;> first | rfl | (congr 1; omega)
  · rw [if_neg h]
    split <;> first | rfl | (congr 1; omega)
theorem deep_loop (xs : List S57) (hl : xs.length ≤ 1000) (hg : ∀ x ∈ xs, Good x) (n : Nat) : ∀ (i : Nat) (m : Int), xs.length - i = n → ∃ v, (∀ a b c e, spec_l3Deep.l0v m (i : Int) a b c e xs = some v) ∧ impl_rexDeep.l0v m xs (xs.length : Int) (i : Int) = some v := by
  induction n with
  | zero =>
    intro i m h
    refine ⟨wrap64 (m + 1), fun a b c e => ?_, ?_⟩
    · rw [spec_l3Deep.l0v_eq, if_neg (by omega)]
    · rw [impl_rexDeep.l0v_eq, if_neg (by omega)]
  | succ n ih =>
    intro i m h
    have hi : i < xs.length := by omega
    have hw : wrap64 ((i : Int) + 1) = ((i + 1 : Nat) : Int) := wr i (i + 1) 1 (by omega) (by omega)
    obtain ⟨v, e1, e2⟩ := hg _ (List.getElem_mem hi)
    have hrd : rd_T57 xs (i : Int) = xs[i] := by
      unfold rd_T57
      simp [List.getD, List.getElem?_eq_getElem hi]
    obtain ⟨u, k1, k2⟩ := ih (i + 1) (mx m v) (by omega)
    refine ⟨u, fun a b c e => ?_, ?_⟩
    · rw [spec_l3Deep.l0v_eq, if_pos (by omega), if_pos (by omega), hrd, e1, Option.bind_some, max_both, Option.bind_some, hw, k1]
    · rw [impl_rexDeep.l0v_eq, if_pos (by omega), if_pos (by omega), if_pos (by omega), hrd, e2, Option.bind_some, hw, k2]
theorem good_node (a b : Int) (c : ByteArray) (e : Bool) (xs : List S57) (hl : xs.length ≤ 1000) (hg : ∀ x ∈ xs, Good x) : Good (⟨a, b, c, e, xs⟩ : S57) := by
  obtain ⟨v, h1, h2⟩ := deep_loop xs hl hg _ 0 0 rfl
  refine ⟨v, ?_, ?_⟩
  · show spec_l3Deep.fv a b c e xs = some v
    rw [spec_l3Deep.fv_eq]
    exact h1 a b c e
  · show impl_rexDeep.fv a b c e xs = some v
    rw [impl_rexDeep.fv_eq]
    exact h2
theorem good_leaf (a b : Int) (c : ByteArray) (e : Bool) : Good (⟨a, b, c, e, []⟩ : S57) := good_node a b c e [] (by simp) (by simp)
def Out (T l : List UInt8) (d k : Nat) (so : Option (Int × Int × ByteArray × Bool × List S57 × ByteArray × Int × Bool)) (io : Option (Int × Int × ByteArray × Bool × List S57 × ByteArray × Bool)) : Prop :=
  (∃ x l' p, l = p ++ l' ∧ k ≤ p.length ∧ Good x ∧ SR T so x (pl T l') false ∧ IR io x l' false) ∨
  (∃ x y l' a, SR T so x a true ∧ IR io y l' true) ∨
  (∃ x y l' a, l'.length < d ∧ l'.length + k ≤ l.length ∧ Good y ∧ SR T so x a true ∧ IR io y l' false)
theorem out_cons {T l : List UInt8} {c : UInt8} {d k k' : Nat} {so io} (h : Out T l d k so io) (hk : k' ≤ k + 1) : Out T (c :: l) d k' so io := by
  rcases h with ⟨x, l', p, e, h1, h2⟩ | h | ⟨x, y, l', a, h1, h2, h3⟩
  · exact .inl ⟨x, l', c :: p, by rw [e, List.cons_append], by rw [List.length_cons]; omega, h2⟩
  · exact .inr (.inl h)
  · exact .inr (.inr ⟨x, y, l', a, h1, by rw [List.length_cons]; omega, h3⟩)
theorem out_app {T l l' p : List UInt8} {d k k' : Nat} {so io} (e : l = p ++ l') (h : Out T l' d k so io) (hk : k' ≤ k + p.length) : Out T l d k' so io := by
  subst e
  rcases h with ⟨x, l2, p2, e, h1, h2⟩ | h | ⟨x, y, l2, a, h1, h2, h3⟩
  · exact .inl ⟨x, l2, p ++ p2, by rw [e, List.append_assoc], by rw [List.length_append]; omega, h2⟩
  · exact .inr (.inl h)
  · exact .inr (.inr ⟨x, y, l2, a, h1, by rw [List.length_append]; omega, h3⟩)
theorem ctx_app {T l l' p : List UInt8} {d : Nat} (h : Ctx T l d) (e : l = p ++ l') : Ctx T l' d := by
  have := ctx_drop h p.length
  rw [e, List.drop_left] at this
  exact this
theorem ctx_self (l : List UInt8) (h : l.length ≤ 60) : Ctx l l 0 := ⟨[], rfl, Nat.zero_le _, h⟩
theorem after_close (a r : List UInt8) : (B (a ++ 93 :: r)).extract (((a.length + 1 : Nat) : Int)).toNat (B (a ++ 93 :: r)).size = B r := by
  have e1 : (a ++ 93 :: r).drop (a.length + 1) = r := by
    rw [show a ++ 93 :: r = (a ++ [93]) ++ r by simp]
    exact List.drop_left' (by simp)
  rw [Int.toNat_natCast, B_extract, B_size, e1]
  congr 1
  apply List.take_of_length_le
  rw [List.length_append, List.length_cons]
  omega
theorem set_core (T l : List UInt8) (d : Nat) (h : Ctx T l d) (neg : Bool) : Out T l d 0 (spec_l3Set.j0v (B T) (pl T l) false 3 0 (⟨#[]⟩ : ByteArray) neg)
    ((strings_IndexByte.f (B l) 93).bind fun t324 => (if t324 < 1 then (some (0, 0, (⟨#[]⟩ : ByteArray), false, ([] : List (S57)), B l, true)) else (if 0 ≤ t324 then (if t324 ≤ ((B l).size : Int) then (if 0 ≤ (wrap64 (t324 + 1)) then (if (wrap64 (t324 + 1)) ≤ ((B l).size : Int) then (if 256 ≤ 281474976710656 then (impl_rexReader_set.l0v ((B l).extract 0 (t324 : Int).toNat) (List.replicate 256 false) 0 ((B l).extract ((wrap64 (t324 + 1)) : Int).toNat (B l).size) false 3 0 (⟨#[]⟩ : ByteArray) neg) else (none)) else (none)) else (none)) else (none)) else (none)))) := by
  obtain ⟨pre, hT, hd, h60⟩ := h
  have hlen : T.length = pre.length + l.length := by rw [hT, List.length_append]
  have hpl : pl T l = ((pre.length + 0 : Nat) : Int) := by unfold pl; omega
  rw [hpl, spec_l3Set.j0v_eq, if_pos (by omega)]
  show Out T l d 0 _ ((some (Lib.indexByte (B l).data.toList 93)).bind _)
  rw [Option.bind_some, B_data]
  rcases idx_close l with ⟨e, hn⟩ | ⟨a, r, e, hn, hk⟩
  · obtain ⟨has', m', c', k1, k2, k3, -, k5⟩ := set_run T pre l [] (by rw [List.append_nil]; exact hT) h60 hn (.inl rfl) _ 0 0 (List.replicate 256 false) false (Nat.le_refl _) (Nat.zero_le _) (List.length_replicate ..) (Nat.le_refl _) (fun z => absurd z (Nat.lt_irrefl 0))
    obtain ⟨out', -, o2⟩ := out_both has' k1 _ 0 [] rfl (by omega) (by simp)
    have k5' := k5 3 0 (⟨#[]⟩ : ByteArray) neg
    rw [show ((0 : Nat) : Int) = 0 from rfl] at k5' o2
    rw [k5', spec_l3Set.j2v_eq, if_neg (by decide), if_pos (by rw [B_size]; omega), spec_l3Set.j7v_eq, if_pos rfl, spec_l3Set.j8v_eq, o2, e, if_pos (by decide)]
    exact .inr (.inl ⟨(⟨_, _, _, _, _⟩ : S57), (⟨_, _, _, _, _⟩ : S57), l, _, rfl, rfl⟩)
  · obtain ⟨has', m', c', k1, k2, k3, k4, k5⟩ := set_run T pre a (93 :: r) (by rw [hT, e]) h60 hn (.inr ⟨r, rfl⟩) _ 0 0 (List.replicate 256 false) false (Nat.le_refl _) (Nat.zero_le _) (List.length_replicate ..) (Nat.le_refl _) (fun z => absurd z (Nat.lt_irrefl 0))
    obtain ⟨out', o1, o2⟩ := out_both has' k1 _ 0 [] rfl (by omega) (by simp)
    have hl : l.length = a.length + (r.length + 1) := by rw [e, List.length_append, List.length_cons]
    have k5' := k5 3 0 (⟨#[]⟩ : ByteArray) neg
    have k4' := k4 (B r) 3 0 (⟨#[]⟩ : ByteArray) neg
    rw [show ((0 : Nat) : Int) = 0 from rfl] at k5' k4' o1 o2
    rw [k5', spec_l3Set.j2v_eq, if_neg (by decide), if_neg (by rw [B_size]; omega), spec_l3Set.j7v_eq, hk]
    by_cases h0 : a.length = 0
    · have hm : m' = 0 := by omega
      subst hm
      rw [if_pos (by rfl), spec_l3Set.j8v_eq, o2, if_pos (by omega)]
      exact .inr (.inl ⟨(⟨_, _, _, _, _⟩ : S57), (⟨_, _, _, _, _⟩ : S57), l, _, rfl, rfl⟩)
    · have hm := k3 (by omega)
      have x1 : (B l).extract 0 ((a.length : Nat) : Int).toNat = B a := by rw [Int.toNat_natCast, B_extract, e]; simp
      have x2 : (B l).extract (((a.length + 1 : Nat) : Int)).toNat (B l).size = B r := by rw [e]; exact after_close a r
      have y1 : ¬ ((m' : Int) == 0) = true := by rw [beq_iff_eq]; omega
      have y2 : ¬ (a.length : Int) < 1 := by omega
      have y3 : (0 : Int) ≤ (a.length : Int) := by omega
      have y4 : (a.length : Int) ≤ ((B l).size : Int) := by rw [B_size]; omega
      have y5 : (0 : Int) ≤ ((a.length + 1 : Nat) : Int) := by omega
      have y6 : ((a.length + 1 : Nat) : Int) ≤ ((B l).size : Int) := by rw [B_size]; omega
      have y7 : pl T r = ((pre.length + a.length + 1 : Nat) : Int) := by unfold pl; omega
      have w2 : wrap64 ((a.length : Int) + 1) = ((a.length + 1 : Nat) : Int) := wr a.length (a.length + 1) 1 (by omega) (by omega)
      have w1 : wrap64 (((pre.length + a.length : Nat) : Int) + 1) = pl T r := by
        rw [y7]
        exact wr (pre.length + a.length) (pre.length + a.length + 1) 1 (by clear w2; omega) (by clear w2; omega)
      rw [if_neg y1, spec_l3Set.j8v_eq, o2, if_neg y2, if_pos y3, if_pos y4, w2, if_pos y5, if_pos y6, if_pos (by decide), x1, x2, k4', o1, w1]
      cases c'
      · exact .inl ⟨(⟨_, _, _, _, _⟩ : S57), r, a ++ [93], by rw [e]; simp, Nat.zero_le _, good_leaf _ _ _ _, rfl, rfl⟩
      · exact .inr (.inl ⟨(⟨_, _, _, _, _⟩ : S57), (⟨_, _, _, _, _⟩ : S57), r, _, rfl, rfl⟩)
theorem set_sim (T l : List UInt8) (d : Nat) (h : Ctx T l d) : Out T l d 0 (spec_l3Set.fv (B T) (pl T l) false) (impl_rexReader_set.fv (B l) false) := by
  rw [spec_l3Set.fv_eq, impl_rexReader_set.fv_eq]
  cases l with
  | nil =>
    rw [now_end, take_nil]
    exact set_core T [] d h false
  | cons c l =>
    rw [now_cons h]
    by_cases hc : (c.toNat : Int) = 94
    · rw [take_hit c l 94 hc, Option.bind_some, Option.bind_some]
      dsimp only
      rw [if_pos (by rw [hc]; rfl), ctx_next h]
      exact out_cons (set_core T l d (ctx_tail h) true) (by omega)
    · rw [take_miss c l 94 hc, Option.bind_some, Option.bind_some]
      dsimp only
      rw [if_neg (by rw [beq_iff_eq]; exact hc)]
      exact set_core T (c :: l) d h false
/-! ### one atom -/
def PatS (T l : List UInt8) (d : Nat) : Prop := Out T l d 0 (spec_l3Pattern.fv (B T) (pl T l) false (d : Int)) (impl_rexReader_pattern.fv (B l) false)
def AtomS (T l : List UInt8) (d : Nat) : Prop := Out T l d 1 (spec_l3Atom.fv (B T) (pl T l) false (d : Int)) (impl_rexReader_atom.fv (B l) false)
def PieceS (T l : List UInt8) (d : Nat) : Prop := Out T l d 1 (spec_l3Piece.fv (B T) (pl T l) false (d : Int)) (impl_rexReader_piece.fv (B l) false)
def PartS (T l : List UInt8) (d : Nat) : Prop := Out T l d 0 (spec_l3Part.fv (B T) (pl T l) false (d : Int)) (impl_rexReader_part.fv (B l) false)
theorem out_leaf (T : List UInt8) (c : UInt8) (l : List UInt8) (d : Nat) (a b : Int) (s : ByteArray) (e : Bool) : Out T (c :: l) d 1 (some (a, b, s, e, [], B T, pl T l, false)) (some (a, b, s, e, [], B l, false)) :=
  .inl ⟨(⟨a, b, s, e, []⟩ : S57), l, [c], rfl, Nat.le_refl _, good_leaf _ _ _ _, rfl, rfl⟩
theorem out_bad (T l l' : List UInt8) (d k : Nat) (a b a2 b2 at_ : Int) (s s2 : ByteArray) (e e2 : Bool) (xs ys : List S57) : Out T l d k (some (a, b, s, e, xs, B T, at_, true)) (some (a2, b2, s2, e2, ys, B l', true)) :=
  .inr (.inl ⟨(⟨a, b, s, e, xs⟩ : S57), (⟨a2, b2, s2, e2, ys⟩ : S57), l', at_, rfl, rfl⟩)
theorem atom_brackets (T : List UInt8) (c : UInt8) (l : List UInt8) (d : Nat) (h : Ctx T (c :: l) d) (hp : PatS T l (d + 1)) : Out T (c :: l) d 1
    ((spec_l3Pattern.fv (B T) (pl T l) false ((d + 1 : Nat) : Int)).bind fun bt124 => ((spec_l3Now.f bt124.2.2.2.2.2.1 bt124.2.2.2.2.2.2.1 bt124.2.2.2.2.2.2.2 41).bind fun bt135 => (if bt135.1 = true then (some (bt124.1, bt124.2.1, bt124.2.2.1, bt124.2.2.2.1, bt124.2.2.2.2.1, bt135.2.1, wrap64 (bt135.2.2.1 + 1), bt135.2.2.2)) else (some (bt124.1, bt124.2.1, bt124.2.2.1, bt124.2.2.2.1, bt124.2.2.2.2.1, bt135.2.1, wrap64 (bt135.2.2.1 + 1), true)))))
    ((impl_rexReader_pattern.fv (B l) false).bind fun bt341 => ((impl_rexReader_take.f bt341.2.2.2.2.2.1 bt341.2.2.2.2.2.2 41).bind fun bt351 => (if bt351.1 = true then (some (bt341.1, bt341.2.1, bt341.2.2.1, bt341.2.2.2.1, bt341.2.2.2.2.1, bt351.2.1, bt351.2.2)) else (some (bt341.1, bt341.2.1, bt341.2.2.1, bt341.2.2.2.1, bt341.2.2.2.2.1, bt351.2.1, true))))) := by
  have h1 := ctx_tail h
  rcases hp with ⟨x, l', p, e, -, hg, hs, hi⟩ | ⟨x, y, l', a, hs, hi⟩ | ⟨x, y, l', a, hlt, hle, hg, hs, hi⟩
  · rw [show _ = _ from hs, show _ = _ from hi, Option.bind_some, Option.bind_some]
    dsimp only
    have h2 : Ctx T l' d := ctx_app h1 e
    cases l' with
    | nil =>
      rw [now_end, take_nil, Option.bind_some, Option.bind_some]
      dsimp only
      rw [if_neg (by decide), if_neg (by decide)]
      exact out_bad ..
    | cons c' l' =>
      rw [now_cons h2]
      by_cases hc : (c'.toNat : Int) = 41
      · rw [take_hit c' l' 41 hc, Option.bind_some, Option.bind_some]
        dsimp only
        rw [if_pos (by rw [hc]; rfl), if_pos rfl, ctx_next h2]
        exact .inl ⟨x, l', c :: p ++ [c'], by rw [e]; simp, by simp, hg, rfl, rfl⟩
      · rw [take_miss c' l' 41 hc, Option.bind_some, Option.bind_some]
        dsimp only
        rw [if_neg (by rw [beq_iff_eq]; exact hc), if_neg (by decide)]
        exact out_bad ..
  · rw [show _ = _ from hs, show _ = _ from hi, Option.bind_some, Option.bind_some]
    dsimp only
    rw [now_bad, take_bad, Option.bind_some, Option.bind_some]
    dsimp only
    rw [if_neg (by decide), if_neg (by decide)]
    exact out_bad ..
  · rw [show _ = _ from hs, show _ = _ from hi, Option.bind_some, Option.bind_some]
    dsimp only
    rw [now_bad, Option.bind_some]
    dsimp only
    rw [if_neg (by decide)]
    cases l' with
    | nil =>
      rw [take_nil, Option.bind_some]
      dsimp only
      rw [if_neg (by decide)]
      exact out_bad ..
    | cons c' l' =>
      by_cases hc : (c'.toNat : Int) = 41
      · rw [take_hit c' l' 41 hc, Option.bind_some]
        dsimp only
        rw [if_pos rfl]
        rw [List.length_cons] at hlt hle
        exact .inr (.inr ⟨x, y, l', _, by omega, by rw [List.length_cons]; omega, hg, rfl, rfl⟩)
      · rw [take_miss c' l' 41 hc, Option.bind_some]
        dsimp only
        rw [if_neg (by decide)]
        exact out_bad ..
theorem atom_set (T : List UInt8) (c : UInt8) (l : List UInt8) (d : Nat) (h : Ctx T (c :: l) d) : Out T (c :: l) d 1
    ((spec_l3Set.fv (B T) (pl T l) false).bind fun bt139 => (some (bt139.1, bt139.2.1, bt139.2.2.1, bt139.2.2.2.1, bt139.2.2.2.2.1, bt139.2.2.2.2.2.1, bt139.2.2.2.2.2.2.1, bt139.2.2.2.2.2.2.2)))
    ((impl_rexReader_set.fv (B l) false).bind fun bt354 => (some (bt354.1, bt354.2.1, bt354.2.2.1, bt354.2.2.2.1, bt354.2.2.2.2.1, bt354.2.2.2.2.2.1, bt354.2.2.2.2.2.2))) := by
  have e1 : ∀ o : Option (Int × Int × ByteArray × Bool × List S57 × ByteArray × Int × Bool), (o.bind fun bt139 => (some (bt139.1, bt139.2.1, bt139.2.2.1, bt139.2.2.2.1, bt139.2.2.2.2.1, bt139.2.2.2.2.2.1, bt139.2.2.2.2.2.2.1, bt139.2.2.2.2.2.2.2))) = o := fun o => by cases o <;> rfl
  have e2 : ∀ o : Option (Int × Int × ByteArray × Bool × List S57 × ByteArray × Bool), (o.bind fun bt354 => (some (bt354.1, bt354.2.1, bt354.2.2.1, bt354.2.2.2.1, bt354.2.2.2.2.1, bt354.2.2.2.2.2.1, bt354.2.2.2.2.2.2))) = o := fun o => by cases o <;> rfl
  rw [e1, e2]
  exact out_cons (set_sim T l d (ctx_tail h)) (Nat.le_refl _)
theorem atom_escape (T : List UInt8) (c : UInt8) (l : List UInt8) (d : Nat) (h : Ctx T (c :: l) d) : Out T (c :: l) d 1
    (if (pl T l) ≥ ((B T).size : Int) then (some (0, 0, (⟨#[]⟩ : ByteArray), false, ([] : List (S57)), B T, pl T l, true)) else (if 0 ≤ pl T l then (if pl T l < ((B T).size : Int) then (some (1, wrap64 (bt (B T) (pl T l)), (⟨#[]⟩ : ByteArray), false, ([] : List (S57)), B T, wrap64 (pl T l + 1), false)) else (none)) else (none)))
    ((impl_rexReader_next.f (B l) false).bind fun bt363 => (if bt363.2.1 = true then (if 1 ≤ (bt363.2.2.1.size : Int) then (some (1, wrap64 (bt363.1), (⟨#[]⟩ : ByteArray), false, ([] : List (S57)), bt363.2.2.1.extract 1 bt363.2.2.1.size, bt363.2.2.2)) else (none)) else (some (0, 0, (⟨#[]⟩ : ByteArray), false, ([] : List (S57)), bt363.2.2.1, true)))) := by
  have h1 := ctx_tail h
  cases l with
  | nil =>
    rw [if_pos (by rw [pl_nil, B_size]; omega), next_nil, Option.bind_some]
    dsimp only
    rw [if_neg (by decide)]
    exact out_bad ..
  | cons c2 l =>
    rw [if_neg (by have := ctx_lt h1; omega), if_pos (pl_ge _ _), if_pos (ctx_lt h1), ctx_bt h1, ctx_next h1, next_cons, Option.bind_some]
    dsimp only
    rw [if_pos rfl, if_pos (one_in c2 l), rest_of]
    exact out_cons (out_leaf T c2 l d 1 (wrap64 (c2.toNat : Int)) (⟨#[]⟩ : ByteArray) false) (by omega)
theorem atom_low (T : List UInt8) (c : UInt8) (l : List UInt8) (d : Nat) (h : Ctx T (c :: l) d) (hd : d ≤ 40) (hp : PatS T l (d + 1)) : AtomS T (c :: l) d := by
  unfold AtomS
  have hw : wrap64 ((d : Int) + 1) = ((d + 1 : Nat) : Int) := wr d (d + 1) 1 (by omega) (by omega)
  have h0 : decide ((d : Int) > 40) = false := decide_eq_false (by omega)
  have hge : ¬ pl T (c :: l) ≥ ((B T).size : Int) := by have := ctx_lt h; omega
  rw [spec_l3Atom.fv_eq, if_neg (by decide), if_neg hge, h0, spec_l3Atom.j0v_eq, if_neg (by decide), if_pos (pl_ge _ _), if_pos (ctx_lt h), ctx_bt h, ctx_next h, hw,
    impl_rexReader_atom.fv_eq, next_cons, Option.bind_some]
  dsimp only
  rw [if_pos (one_in c l), rest_of c l]
  by_cases h40 : (c.toNat : Int) = 40
  · rw [if_pos h40, if_pos h40]
    exact atom_brackets T c l d h hp
  rw [if_neg h40, if_neg h40]
  by_cases h46 : (c.toNat : Int) = 46
  · rw [if_pos h46, if_pos h46]
    exact out_leaf ..
  rw [if_neg h46, if_neg h46]
  by_cases h94 : (c.toNat : Int) = 94
  · rw [if_pos h94, if_pos h94]
    exact out_leaf ..
  rw [if_neg h94, if_neg h94]
  by_cases h36 : (c.toNat : Int) = 36
  · rw [if_pos h36, if_pos h36]
    exact out_leaf ..
  rw [if_neg h36, if_neg h36]
  by_cases h91 : (c.toNat : Int) = 91
  · rw [if_pos h91, if_pos h91]
    exact atom_set T c l d h
  rw [if_neg h91, if_neg h91]
  by_cases h92 : (c.toNat : Int) = 92
  · rw [if_pos h92, if_pos h92]
    exact atom_escape T c l d h
  rw [if_neg h92, if_neg h92]
  by_cases h42 : (c.toNat : Int) = 42
  · rw [if_pos h42, if_pos h42]
    exact out_bad ..
  rw [if_neg h42, if_neg h42]
  by_cases h43 : (c.toNat : Int) = 43
  · rw [if_pos h43, if_pos h43]
    exact out_bad ..
  rw [if_neg h43, if_neg h43]
  by_cases h63 : (c.toNat : Int) = 63
  · rw [if_pos h63, if_pos h63]
    exact out_bad ..
  rw [if_neg h63, if_neg h63]
  exact out_leaf ..
theorem atom_sim (T : List UInt8) (c : UInt8) (l : List UInt8) (d : Nat) (h : Ctx T (c :: l) d) (hp : PatS T l (d + 1)) (hp2 : PatS (c :: l) l 1) : AtomS T (c :: l) d := by
  by_cases hd : d ≤ 40
  · exact atom_low T c l d h hd hp
  · have hlen := ctx_len h
    rw [List.length_cons] at hlen
    have h0 : decide ((d : Int) > 40) = true := decide_eq_true (by omega)
    have hge : ¬ pl T (c :: l) ≥ ((B T).size : Int) := by have := ctx_lt h; omega
    have hs : spec_l3Atom.fv (B T) (pl T (c :: l)) false (d : Int) = some (0, 0, (⟨#[]⟩ : ByteArray), false, ([] : List (S57)), B T, pl T (c :: l), true) := by
      rw [spec_l3Atom.fv_eq, if_neg (by decide), if_neg hge, h0, spec_l3Atom.j0v_eq, if_pos rfl]
    unfold AtomS
    rw [hs]
    rcases atom_low (c :: l) c l 0 (ctx_self _ (by rw [List.length_cons]; omega)) (by omega) hp2 with ⟨x, l', p, e, hk, hg, -, hi⟩ | ⟨x, y, l', a, -, hi⟩ | ⟨x, y, l', a, hlt, _⟩
    · have e2 := congrArg List.length e
      rw [List.length_cons, List.length_append] at e2
      exact .inr (.inr ⟨(⟨0, 0, (⟨#[]⟩ : ByteArray), false, []⟩ : S57), x, l', _, by omega, by rw [List.length_cons]; omega, hg, rfl, hi⟩)
    · exact .inr (.inl ⟨(⟨0, 0, (⟨#[]⟩ : ByteArray), false, []⟩ : S57), y, l', _, rfl, hi⟩)
    · exact absurd hlt (Nat.not_lt_zero _)
/-! ### pieces, parts, patterns -/
theorem eta_ (x : S57) : (⟨x.f0, x.f1, x.f2, x.f3, x.f4⟩ : S57) = x := by cases x; rfl
theorem good_rep (k : Int) (x : S57) (hg : Good x) : Good (⟨k, 0, (⟨#[]⟩ : ByteArray), false, [x]⟩ : S57) :=
  good_node _ _ _ _ [x] (by simp) (fun y hy => by rw [List.mem_singleton] at hy; rw [hy]; exact hg)
theorem piece_loop (l : List UInt8) : ∀ (T : List UInt8) (d : Nat) (x : S57), Ctx T l d → Good x →
    Out T l d 0 (spec_l3Piece.l0v (B T) (pl T l) false x.f0 x.f1 x.f2 x.f3 x.f4) (impl_rexReader_piece.l0v (B l) false x.f0 x.f1 x.f2 x.f3 x.f4) := by
  induction l with
  | nil =>
    intro T d x h hg
    rw [spec_l3Piece.l0v_eq, if_neg (by decide), now_end, Option.bind_some]
    dsimp only
    rw [if_neg (by decide), now_end, Option.bind_some]
    dsimp only
    rw [if_neg (by decide), now_end, Option.bind_some]
    dsimp only
    rw [if_neg (by decide), if_pos rfl, impl_rexReader_piece.l0v_eq, next_nil, Option.bind_some]
    dsimp only
    rw [if_neg (by decide)]
    exact .inl ⟨x, [], [], rfl, Nat.le_refl _, hg, rfl, rfl⟩
  | cons c l ih =>
    intro T d x h hg
    have h1 := ctx_tail h
    rw [spec_l3Piece.l0v_eq, if_neg (by decide), now_cons h, Option.bind_some, impl_rexReader_piece.l0v_eq, next_cons, Option.bind_some]
    dsimp only
    rw [if_pos rfl]
    by_cases h42 : (c.toNat : Int) = 42
    · have hr : impl_repeatOf.f (c.toNat : Int) = some 8 := by unfold impl_repeatOf.f; rw [if_pos h42]
      rw [if_pos (by rw [h42]; rfl), if_neg (by decide), ctx_next h, hr, Option.bind_some, Option.bind_some, if_neg (by decide), if_pos (one_in c l), rest_of, eta_]
      exact out_cons (ih T d (⟨8, 0, (⟨#[]⟩ : ByteArray), false, [x]⟩ : S57) h1 (good_rep 8 x hg)) (by omega)
    rw [if_neg (by rw [beq_iff_eq]; exact h42), now_cons h, Option.bind_some]
    dsimp only
    by_cases h43 : (c.toNat : Int) = 43
    · have hr : impl_repeatOf.f (c.toNat : Int) = some 9 := by unfold impl_repeatOf.f; rw [if_neg h42, if_pos h43]
      rw [if_pos (by rw [h43]; rfl), if_neg (by decide), ctx_next h, hr, Option.bind_some, Option.bind_some, if_neg (by decide), if_pos (one_in c l), rest_of, eta_]
      exact out_cons (ih T d (⟨9, 0, (⟨#[]⟩ : ByteArray), false, [x]⟩ : S57) h1 (good_rep 9 x hg)) (by omega)
    rw [if_neg (by rw [beq_iff_eq]; exact h43), now_cons h, Option.bind_some]
    dsimp only
    by_cases h63 : (c.toNat : Int) = 63
    · have hr : impl_repeatOf.f (c.toNat : Int) = some 10 := by unfold impl_repeatOf.f; rw [if_neg h42, if_neg h43, if_pos h63]
      rw [if_pos (by rw [h63]; rfl), if_neg (by decide), ctx_next h, hr, Option.bind_some, Option.bind_some, if_neg (by decide), if_pos (one_in c l), rest_of, eta_]
      exact out_cons (ih T d (⟨10, 0, (⟨#[]⟩ : ByteArray), false, [x]⟩ : S57) h1 (good_rep 10 x hg)) (by omega)
    have hr : impl_repeatOf.f (c.toNat : Int) = some 0 := by unfold impl_repeatOf.f; rw [if_neg h42, if_neg h43, if_neg h63]
    rw [if_neg (by rw [beq_iff_eq]; exact h63), if_pos rfl, hr, Option.bind_some, if_pos rfl]
    exact .inl ⟨x, c :: l, [], rfl, Nat.le_refl _, hg, rfl, rfl⟩
theorem piece_sim (T : List UInt8) (c : UInt8) (l : List UInt8) (d : Nat) (h : Ctx T (c :: l) d) (ha : AtomS T (c :: l) d) : PieceS T (c :: l) d := by
  unfold PieceS
  rw [spec_l3Piece.fv_eq, impl_rexReader_piece.fv_eq]
  rcases ha with ⟨x, l', p, e, hk, hg, hs, hi⟩ | ⟨x, y, l', a, hs, hi⟩ | ⟨x, y, l', a, hlt, hle, hg, hs, hi⟩
  · rw [show _ = _ from hs, show _ = _ from hi, Option.bind_some, Option.bind_some]
    dsimp only
    exact out_app e (piece_loop l' T d x (ctx_app h e) hg) (by omega)
  · rw [show _ = _ from hs, show _ = _ from hi, Option.bind_some, Option.bind_some]
    dsimp only
    rw [spec_l3Piece.l0v_eq, if_pos rfl, impl_rexReader_piece.l0v_eq, next_bad, Option.bind_some]
    dsimp only
    rw [if_neg (by decide)]
    exact out_bad ..
  · rw [show _ = _ from hs, show _ = _ from hi, Option.bind_some, Option.bind_some]
    dsimp only
    rw [spec_l3Piece.l0v_eq, if_pos rfl]
    have hlen := ctx_len h
    rw [List.length_cons] at hlen hle
    rcases piece_loop l' l' 0 y (ctx_self l' (by omega)) hg with ⟨z, l2, p2, e2, -, hg2, -, hi2⟩ | ⟨z, z2, l2, a2, -, hi2⟩ | ⟨z, z2, l2, a2, hlt2, _⟩
    · have e3 := congrArg List.length e2
      rw [List.length_append] at e3
      exact .inr (.inr ⟨x, z, l2, _, by omega, by rw [List.length_cons]; omega, hg2, rfl, hi2⟩)
    · exact .inr (.inl ⟨x, z2, l2, _, rfl, hi2⟩)
    · exact absurd hlt2 (Nat.not_lt_zero _)
theorem part_end (xs : List S57) : ∃ x : S57, ((xs.length ≤ 1000 → (∀ y ∈ xs, Good y) → Good x)) ∧ (∀ S a b, spec_l3Part.j1v xs S a b = some (x.f0, x.f1, x.f2, x.f3, x.f4, S, a, b)) ∧ (∀ S b, impl_rexReader_part.j1v xs S b = some (x.f0, x.f1, x.f2, x.f3, x.f4, S, b)) := by
  by_cases h0 : (xs.length : Int) = 0
  · refine ⟨⟨11, 0, (⟨#[]⟩ : ByteArray), false, []⟩, fun _ _ => good_leaf _ _ _ _, fun S a b => ?_, fun S b => ?_⟩
    · rw [spec_l3Part.j1v_eq, if_pos h0]
    · rw [impl_rexReader_part.j1v_eq, if_pos h0]
  · by_cases h1 : (xs.length : Int) = 1
    · obtain ⟨y, rfl⟩ : ∃ y, xs = [y] := List.length_eq_one_iff.1 (by omega)
      refine ⟨y, fun _ hg => hg y (by simp), fun S a b => ?_, fun S b => ?_⟩
      · rw [spec_l3Part.j1v_eq, if_neg h0, if_pos h1, if_pos (by omega)]
        rfl
      · rw [impl_rexReader_part.j1v_eq, if_neg h0, if_pos h1, if_pos (by omega)]
        rfl
    · refine ⟨⟨6, 0, (⟨#[]⟩ : ByteArray), false, xs⟩, fun hl hg => good_node _ _ _ _ xs hl hg, fun S a b => ?_, fun S b => ?_⟩
      · rw [spec_l3Part.j1v_eq, if_neg h0, if_neg h1]
      · rw [impl_rexReader_part.j1v_eq, if_neg h0, if_neg h1]
theorem mem_more {xs : List S57} {x : S57} (h : ∀ y ∈ xs, Good y) (hx : Good x) : ∀ y ∈ xs ++ [x], Good y := by
  intro y hy
  rcases List.mem_append.1 hy with h1 | h1
  · exact h y h1
  · rw [List.mem_singleton] at h1
    rw [h1]
    exact hx
theorem part_loop (n : Nat) (HP : ∀ (T : List UInt8) (c : UInt8) (l : List UInt8) (d : Nat), l.length < n → Ctx T (c :: l) d → PieceS T (c :: l) d) (m : Nat) : ∀ (l T : List UInt8) (d : Nat) (xs : List S57), l.length ≤ m → l.length ≤ n → Ctx T l d → xs.length + l.length ≤ 500 → (∀ y ∈ xs, Good y) →
    Out T l d 0 (spec_l3Part.l0v (d : Int) xs (B T) (pl T l) false) (impl_rexReader_part.l0v xs (B l) false) := by
  induction m with
  | zero =>
    intro l T d xs hm hn h hx hg
    obtain rfl : l = [] := List.length_eq_zero_iff.1 (by omega)
    obtain ⟨x, hgx, h1, h2⟩ := part_end xs
    rw [spec_l3Part.l0v_eq, if_neg (by decide), if_neg (by rw [pl_nil, B_size]; omega), h1, impl_rexReader_part.l0v_eq, next_nil, Option.bind_some]
    dsimp only
    rw [if_neg (by decide), h2]
    exact .inl ⟨x, [], [], rfl, Nat.le_refl _, hgx (by omega) hg, rfl, rfl⟩
  | succ m ih =>
    intro l T d xs hm hn h hx hg
    obtain ⟨x, hgx, h1, h2⟩ := part_end xs
    cases l with
    | nil =>
      rw [spec_l3Part.l0v_eq, if_neg (by decide), if_neg (by rw [pl_nil, B_size]; omega), h1, impl_rexReader_part.l0v_eq, next_nil, Option.bind_some]
      dsimp only
      rw [if_neg (by decide), h2]
      exact .inl ⟨x, [], [], rfl, Nat.le_refl _, hgx (by omega) hg, rfl, rfl⟩
    | cons c l =>
      rw [List.length_cons] at hm hn hx
      rw [spec_l3Part.l0v_eq, if_neg (by decide), if_pos (ctx_lt h), if_pos (pl_ge _ _), ctx_bt h, impl_rexReader_part.l0v_eq, next_cons, Option.bind_some]
      dsimp only
      rw [if_pos rfl]
      by_cases h124 : (c.toNat : Int) = 124
      · rw [if_pos h124, if_pos h124, h1, h2]
        exact .inl ⟨x, c :: l, [], rfl, Nat.le_refl _, hgx (by omega) hg, rfl, rfl⟩
      rw [if_neg h124, if_neg h124]
      by_cases h41 : (c.toNat : Int) = 41
      · rw [if_pos h41, if_pos h41, h1, h2]
        exact .inl ⟨x, c :: l, [], rfl, Nat.le_refl _, hgx (by omega) hg, rfl, rfl⟩
      rw [if_neg h41, if_neg h41]
      rcases HP T c l d (by omega) h with ⟨z, l', p, e, hk, hgz, hs, hi⟩ | ⟨z, y, l', a, hs, hi⟩ | ⟨z, y, l', a, hlt, hle, hgy, hs, hi⟩
      · have e3 := congrArg List.length e
        rw [List.length_append, List.length_cons] at e3
        rw [show _ = _ from hs, show _ = _ from hi, Option.bind_some, Option.bind_some]
        dsimp only
        rw [if_pos (by omega), if_pos (by omega), eta_]
        exact out_app e (ih l' T d (xs ++ [z]) (by omega) (by omega) (ctx_app h e) (by rw [List.length_append, List.length_singleton]; omega) (mem_more hg hgz)) (by omega)
      · rw [show _ = _ from hs, show _ = _ from hi, Option.bind_some, Option.bind_some]
        dsimp only
        rw [if_pos (by omega), if_pos (by omega), eta_, eta_]
        obtain ⟨u, -, u1, -⟩ := part_end (xs ++ [z])
        obtain ⟨v, -, -, v1⟩ := part_end (xs ++ [y])
        rw [spec_l3Part.l0v_eq, if_pos rfl, impl_rexReader_part.l0v_eq, next_bad, Option.bind_some]
        dsimp only
        rw [if_neg (by decide)]
        exact .inr (.inl ⟨u, v, l', a, u1 .., v1 ..⟩)
      · rw [show _ = _ from hs, show _ = _ from hi, Option.bind_some, Option.bind_some]
        dsimp only
        rw [if_pos (by omega), if_pos (by omega), eta_, eta_]
        obtain ⟨u, -, u1, -⟩ := part_end (xs ++ [z])
        rw [spec_l3Part.l0v_eq, if_pos rfl]
        have hlen := ctx_len h
        rw [List.length_cons] at hlen hle
        rcases ih l' l' 0 (xs ++ [y]) (by omega) (by omega) (ctx_self l' (by omega)) (by rw [List.length_append, List.length_singleton]; omega) (mem_more hg hgy) with ⟨z2, l2, p2, e2, -, hg2, -, hi2⟩ | ⟨z1, z2, l2, a2, -, hi2⟩ | ⟨z1, z2, l2, a2, hlt2, _⟩
        · have e3 := congrArg List.length e2
          rw [List.length_append] at e3
          exact .inr (.inr ⟨u, z2, l2, a, by omega, by rw [List.length_cons]; omega, hg2, u1 .., hi2⟩)
        · exact .inr (.inl ⟨u, z2, l2, a, u1 .., hi2⟩)
        · exact absurd hlt2 (Nat.not_lt_zero _)
theorem part_sim (n : Nat) (HP : ∀ (T : List UInt8) (c : UInt8) (l : List UInt8) (d : Nat), l.length < n → Ctx T (c :: l) d → PieceS T (c :: l) d) (l T : List UInt8) (d : Nat) (hn : l.length ≤ n) (h : Ctx T l d) : PartS T l d := by
  unfold PartS
  rw [spec_l3Part.fv_eq, impl_rexReader_part.fv_eq]
  have hlen := ctx_len h
  exact part_loop n HP _ l T d [] (Nat.le_refl _) hn h (by rw [List.length_nil]; omega) (by simp)
theorem pat_end (xs : List S57) : ∃ x : S57, ((xs.length ≤ 1000 → (∀ y ∈ xs, Good y) → Good x)) ∧
    (∀ (S : ByteArray) (a : Int) (b : Bool), (if (xs.length : Int) = 1 then (if 0 < (xs.length : Int) then (some ((rd_T57 xs 0).f0, (rd_T57 xs 0).f1, (rd_T57 xs 0).f2, (rd_T57 xs 0).f3, (rd_T57 xs 0).f4, S, a, b)) else (none)) else (some (7, 0, (⟨#[]⟩ : ByteArray), false, xs, S, a, b))) = some (x.f0, x.f1, x.f2, x.f3, x.f4, S, a, b)) ∧
    (∀ (S : ByteArray) (b : Bool), (if (xs.length : Int) = 1 then (if 0 < (xs.length : Int) then (some ((rd_T57 xs 0).f0, (rd_T57 xs 0).f1, (rd_T57 xs 0).f2, (rd_T57 xs 0).f3, (rd_T57 xs 0).f4, S, b)) else (none)) else (some (7, 0, (⟨#[]⟩ : ByteArray), false, xs, S, b))) = some (x.f0, x.f1, x.f2, x.f3, x.f4, S, b)) := by
  by_cases h1 : (xs.length : Int) = 1
  · obtain ⟨y, rfl⟩ : ∃ y, xs = [y] := List.length_eq_one_iff.1 (by omega)
    refine ⟨y, fun _ hg => hg y (by simp), fun S a b => ?_, fun S b => ?_⟩
    · rw [if_pos h1, if_pos (by omega)]
      rfl
    · rw [if_pos h1, if_pos (by omega)]
      rfl
  · refine ⟨⟨7, 0, (⟨#[]⟩ : ByteArray), false, xs⟩, fun hl hg => good_node _ _ _ _ xs hl hg, fun S a b => ?_, fun S b => ?_⟩
    · rw [if_neg h1]
    · rw [if_neg h1]
theorem pat_loop (n : Nat) (HP : ∀ (l T : List UInt8) (d : Nat), l.length ≤ n → Ctx T l d → PartS T l d) (m : Nat) : ∀ (l T : List UInt8) (d : Nat) (xs : List S57), l.length ≤ m → l.length ≤ n → Ctx T l d → xs.length + l.length ≤ 500 → (∀ y ∈ xs, Good y) →
    Out T l d 0 (spec_l3Pattern.l0v (d : Int) xs (B T) (pl T l) false) (impl_rexReader_pattern.l0v xs (B l) false) := by
  induction m with
  | zero =>
    intro l T d xs hm hn h hx hg
    obtain rfl : l = [] := List.length_eq_zero_iff.1 (by omega)
    obtain ⟨x, hgx, h1, h2⟩ := pat_end xs
    rw [spec_l3Pattern.l0v_eq, now_end, Option.bind_some, impl_rexReader_pattern.l0v_eq, take_nil, Option.bind_some]
    dsimp only
    rw [if_neg (by decide), h1, if_neg (by decide), h2]
    exact .inl ⟨x, [], [], rfl, Nat.le_refl _, hgx (by omega) hg, rfl, rfl⟩
  | succ m ih =>
    intro l T d xs hm hn h hx hg
    obtain ⟨x, hgx, h1, h2⟩ := pat_end xs
    cases l with
    | nil =>
      rw [spec_l3Pattern.l0v_eq, now_end, Option.bind_some, impl_rexReader_pattern.l0v_eq, take_nil, Option.bind_some]
      dsimp only
      rw [if_neg (by decide), h1, if_neg (by decide), h2]
      exact .inl ⟨x, [], [], rfl, Nat.le_refl _, hgx (by omega) hg, rfl, rfl⟩
    | cons c l =>
      rw [List.length_cons] at hm hn hx
      rw [spec_l3Pattern.l0v_eq, now_cons h, Option.bind_some, impl_rexReader_pattern.l0v_eq]
      dsimp only
      by_cases h124 : (c.toNat : Int) = 124
      · have h3 := ctx_tail h
        rw [take_hit c l 124 h124, Option.bind_some]
        dsimp only
        rw [if_pos (by rw [h124]; rfl), if_pos rfl, ctx_next h]
        rcases HP l T d (by omega) h3 with ⟨z, l', p, e, hk, hgz, hs, hi⟩ | ⟨z, y, l', a, hs, hi⟩ | ⟨z, y, l', a, hlt, hle, hgy, hs, hi⟩
        · have e3 := congrArg List.length e
          rw [List.length_append] at e3
          rw [show _ = _ from hs, show _ = _ from hi, Option.bind_some, Option.bind_some]
          dsimp only
          rw [if_pos (by omega), if_pos (by omega), eta_]
          exact out_cons (out_app e (ih l' T d (xs ++ [z]) (by omega) (by omega) (ctx_app h3 e) (by rw [List.length_append, List.length_singleton]; omega) (mem_more hg hgz)) (Nat.zero_le _)) (Nat.zero_le _)
        · rw [show _ = _ from hs, show _ = _ from hi, Option.bind_some, Option.bind_some]
          dsimp only
          rw [if_pos (by omega), if_pos (by omega), eta_, eta_]
          obtain ⟨u, -, u1, -⟩ := pat_end (xs ++ [z])
          obtain ⟨v, -, -, v1⟩ := pat_end (xs ++ [y])
          rw [spec_l3Pattern.l0v_eq, now_bad, Option.bind_some, impl_rexReader_pattern.l0v_eq, take_bad, Option.bind_some]
          dsimp only
          rw [if_neg (by decide), u1, if_neg (by decide), v1]
          exact .inr (.inl ⟨u, v, l', a, rfl, rfl⟩)
        · rw [show _ = _ from hs, show _ = _ from hi, Option.bind_some, Option.bind_some]
          dsimp only
          rw [if_pos (by omega), if_pos (by omega), eta_, eta_]
          obtain ⟨u, -, u1, -⟩ := pat_end (xs ++ [z])
          rw [spec_l3Pattern.l0v_eq, now_bad, Option.bind_some]
          dsimp only
          rw [if_neg (by decide)]
          have hlen := ctx_len h
          rw [List.length_cons] at hlen
          rcases ih l' l' 0 (xs ++ [y]) (by omega) (by omega) (ctx_self l' (by omega)) (by rw [List.length_append, List.length_singleton]; omega) (mem_more hg hgy) with ⟨z2, l2, p2, e2, -, hg2, -, hi2⟩ | ⟨z1, z2, l2, a2, -, hi2⟩ | ⟨z1, z2, l2, a2, hlt2, _⟩
          · have e3 := congrArg List.length e2
            rw [List.length_append] at e3
            exact .inr (.inr ⟨u, z2, l2, a, by omega, by rw [List.length_cons]; omega, hg2, u1 .., hi2⟩)
          · exact .inr (.inl ⟨u, z2, l2, a, u1 .., hi2⟩)
          · exact absurd hlt2 (Nat.not_lt_zero _)
      · rw [take_miss c l 124 h124, Option.bind_some]
        dsimp only
        rw [if_neg (by rw [beq_iff_eq]; exact h124), h1, if_neg (by decide), h2]
        exact .inl ⟨x, c :: l, [], rfl, Nat.le_refl _, hgx (by omega) hg, rfl, rfl⟩
theorem pat_sim (n : Nat) (HP : ∀ (l T : List UInt8) (d : Nat), l.length ≤ n → Ctx T l d → PartS T l d) (l T : List UInt8) (d : Nat) (hn : l.length ≤ n) (h : Ctx T l d) : PatS T l d := by
  unfold PatS
  rw [spec_l3Pattern.fv_eq, impl_rexReader_pattern.fv_eq]
  have hlen := ctx_len h
  rcases HP l T d hn h with ⟨z, l', p, e, hk, hgz, hs, hi⟩ | ⟨z, y, l', a, hs, hi⟩ | ⟨z, y, l', a, hlt, hle, hgy, hs, hi⟩
  · have e3 := congrArg List.length e
    rw [List.length_append] at e3
    rw [show _ = _ from hs, show _ = _ from hi, Option.bind_some, Option.bind_some]
    dsimp only
    rw [eta_]
    exact out_app e (pat_loop n HP _ l' T d [z] (Nat.le_refl _) (by omega) (ctx_app h e) (by rw [List.length_singleton]; omega) (mem_more (xs := []) (by simp) hgz)) (Nat.zero_le _)
  · rw [show _ = _ from hs, show _ = _ from hi, Option.bind_some, Option.bind_some]
    dsimp only
    rw [eta_, eta_]
    obtain ⟨u, -, u1, -⟩ := pat_end [z]
    obtain ⟨v, -, -, v1⟩ := pat_end [y]
    rw [spec_l3Pattern.l0v_eq, now_bad, Option.bind_some, impl_rexReader_pattern.l0v_eq, take_bad, Option.bind_some]
    dsimp only
    rw [if_neg (by decide), u1, if_neg (by decide), v1]
    exact .inr (.inl ⟨u, v, l', a, rfl, rfl⟩)
  · rw [show _ = _ from hs, show _ = _ from hi, Option.bind_some, Option.bind_some]
    dsimp only
    rw [eta_, eta_]
    obtain ⟨u, -, u1, -⟩ := pat_end [z]
    rw [spec_l3Pattern.l0v_eq, now_bad, Option.bind_some]
    dsimp only
    rw [if_neg (by decide)]
    rcases pat_loop n HP _ l' l' 0 [y] (Nat.le_refl _) (by omega) (ctx_self l' (by omega)) (by rw [List.length_singleton]; omega) (mem_more (xs := []) (by simp) hgy) with ⟨z2, l2, p2, e2, -, hg2, -, hi2⟩ | ⟨z1, z2, l2, a2, -, hi2⟩ | ⟨z1, z2, l2, a2, hlt2, _⟩
    · have e3 := congrArg List.length e2
      rw [List.length_append] at e3
      exact .inr (.inr ⟨u, z2, l2, a, by omega, by omega, hg2, u1 .., hi2⟩)
    · exact .inr (.inl ⟨u, z2, l2, a, u1 .., hi2⟩)
    · exact absurd hlt2 (Nat.not_lt_zero _)
theorem all_sim (n : Nat) : ∀ (l T : List UInt8) (d : Nat), l.length < n → Ctx T l d → PatS T l d := by
  induction n with
  | zero => intro l T d h; exact absurd h (Nat.not_lt_zero _)
  | succ n ih =>
    have HA : ∀ (T : List UInt8) (c : UInt8) (l : List UInt8) (d : Nat), l.length < n → Ctx T (c :: l) d → PieceS T (c :: l) d := by
      intro T c l d hl h
      have hlen := ctx_len h
      rw [List.length_cons] at hlen
      exact piece_sim T c l d h (atom_sim T c l d h (ih l T (d + 1) hl (ctx_in h)) (ih l (c :: l) 1 hl (ctx_in (ctx_self (c :: l) (by rw [List.length_cons]; omega)))))
    intro l T d hl h
    exact pat_sim n (fun l T d hl h => part_sim n HA l T d hl h) l T d (by omega) h
theorem parse_both (s : ByteArray) : ∃ (x : S57) (ok : Bool), spec_RexParse.fv s = some (x.f0, x.f1, x.f2, x.f3, x.f4, ok) ∧ impl_RexParse.fv s = some (x.f0, x.f1, x.f2, x.f3, x.f4, ok) := by
  rw [spec_RexParse.fv_eq, impl_RexParse.fv_eq]
  by_cases h60 : (s.size : Int) > 60
  · rw [if_pos h60, if_pos h60]
    exact ⟨⟨0, 0, (⟨#[]⟩ : ByteArray), false, []⟩, false, rfl, rfl⟩
  rw [if_neg h60, if_neg h60]
  have hs : B s.data.toList = s := B_self s
  generalize s.data.toList = l at hs
  subst hs
  rw [B_size] at h60
  have hp0 : (0 : Int) = pl l l := by unfold pl; omega
  have hz : spec_l3Pattern.fv (B l) 0 false 0 = spec_l3Pattern.fv (B l) (pl l l) false ((0 : Nat) : Int) := by rw [← hp0]; rfl
  rw [hz]
  rcases all_sim (l.length + 1) l l 0 (by omega) (ctx_self l (by omega)) with ⟨z, l', p, e, hk, ⟨v, g1, g2⟩, hs, hi⟩ | ⟨z, y, l', a, hs, hi⟩ | ⟨z, y, l', a, hlt, _⟩
  · rw [show _ = _ from hs, show _ = _ from hi, Option.bind_some, Option.bind_some]
    dsimp only
    cases l' with
    | nil =>
      have y1 : pl l [] = ((B l).size : Int) := by rw [pl_nil, B_size]
      simp only [Bool.false_eq_true, if_false, if_pos y1, B_toList, if_true, g1, g2, Option.bind_some]
      by_cases h12 : v > 12
      · rw [if_pos h12]
        exact ⟨⟨0, 0, (⟨#[]⟩ : ByteArray), false, []⟩, false, rfl, rfl⟩
      · rw [if_neg h12]
        exact ⟨z, true, rfl, rfl⟩
    | cons c l' =>
      have e3 := congrArg List.length e
      rw [List.length_append, List.length_cons] at e3
      have y1 : ¬ pl l (c :: l') = ((B l).size : Int) := by unfold pl; rw [List.length_cons, B_size]; omega
      have y2 : ¬ (c :: l') = ([] : List UInt8) := by simp
      simp only [Bool.false_eq_true, if_false, if_neg y1, B_toList, if_neg y2]
      exact ⟨⟨0, 0, (⟨#[]⟩ : ByteArray), false, []⟩, false, rfl, rfl⟩
  · rw [show _ = _ from hs, show _ = _ from hi, Option.bind_some, Option.bind_some]
    dsimp only
    rw [if_pos rfl, if_pos rfl]
    exact ⟨⟨0, 0, (⟨#[]⟩ : ByteArray), false, []⟩, false, rfl, rfl⟩
  · exact absurd hlt (Nat.not_lt_zero _)
/-! ### one place of a machine -/
theorem in_eq (a lo hi : Int) : spec_l1In.f a lo hi = some (decide (lo ≤ a ∧ a ≤ hi)) := by
  unfold spec_l1In.f
  by_cases h : lo ≤ a
  · rw [if_pos h]; simp [h]
  · rw [if_neg h]; simp [h]
theorem in_eq' (a lo hi : Int) : impl_in.f a lo hi = some (decide (lo ≤ a ∧ a ≤ hi)) := by
  unfold impl_in.f
  by_cases h : lo ≤ a
  · rw [if_pos h]; simp [h]
  · rw [if_neg h]; simp [h]
theorem calls_s (c : ByteArray) : ((spec_l7Calls.f).bind fun t => ((spec_l7Within.fv t c).bind fun u => (some u))) = some (decide (c.toList ∈ callws)) := by
  simp only [spec_l7Calls.f, Option.bind_some]
  rw [within _ _ (by simp)]
  simp only [List.map_cons, List.map_nil, Go.ByteArray.toList_mk, Option.bind_some]
  rfl
theorem calls_i (c : ByteArray) : ((impl_calls.f).bind fun t => ((slices_Contains_string_string.fv t c).bind fun u => (some u))) = some (decide (c.toList ∈ callws)) := by
  simp only [impl_calls.f, Option.bind_some]
  rw [contains _ _ (by simp)]
  simp only [List.map_cons, List.map_nil, Go.ByteArray.toList_mk, Option.bind_some]
  rfl
theorem calls_s2 (c : ByteArray) : ((spec_l7Calls.f).bind fun t => spec_l7Within.fv t c) = some (decide (c.toList ∈ callws)) := by
  rw [← calls_s]
  simp
theorem calls_i2 (c : ByteArray) : ((impl_calls.f).bind fun t => slices_Contains_string_string.fv t c) = some (decide (c.toList ∈ callws)) := by
  rw [← calls_i]
  simp
theorem isrex (s : ByteArray) : ∃ (ok : Bool) (x : S57), impl_isRex.fv s = some ok ∧ spec_RexParse.fv s = some (x.f0, x.f1, x.f2, x.f3, x.f4, ok) := by
  obtain ⟨x, ok, h1, h2⟩ := parse_both s
  exact ⟨ok, x, by rw [impl_isRex.fv_eq, h2, Option.bind_some], h1⟩
def opForm (a : Int) : List UInt8 :=
  if a = 1 then [100] else if a = 2 ∨ a = 24 ∨ a = 25 then [115] else if a = 29 then [110, 115] else if a = 3 ∨ a = 4 ∨ a = 5 ∨ a = 6 ∨ a = 7 ∨ a = 8 ∨ a = 35 ∨ a = 30 ∨ a = 31 ∨ a = 33 then [110] else []
def opNames : List ByteArray := [(⟨#[]⟩ : ByteArray), (⟨#[110, 117, 109]⟩ : ByteArray), (⟨#[116, 101, 120, 116]⟩ : ByteArray), (⟨#[118, 97, 114]⟩ : ByteArray), (⟨#[115, 101, 116, 118, 97, 114]⟩ : ByteArray), (⟨#[112, 108, 117, 115, 118, 97, 114]⟩ : ByteArray), (⟨#[99, 101, 108, 108]⟩ : ByteArray), (⟨#[115, 101, 116, 99, 101, 108, 108]⟩ : ByteArray), (⟨#[112, 108, 117, 115, 99, 101, 108, 108]⟩ : ByteArray), (⟨#[102, 105, 101, 108, 100]⟩ : ByteArray), (⟨#[110, 114]⟩ : ByteArray), (⟨#[110, 102]⟩ : ByteArray), (⟨#[97, 100, 100]⟩ : ByteArray), (⟨#[115, 117, 98]⟩ : ByteArray), (⟨#[109, 117, 108]⟩ : ByteArray), (⟨#[100, 105, 118]⟩ : ByteArray), (⟨#[109, 111, 100]⟩ : ByteArray), (⟨#[99, 97, 116]⟩ : ByteArray), (⟨#[108, 101, 115, 115]⟩ : ByteArray), (⟨#[109, 111, 115, 116]⟩ : ByteArray), (⟨#[109, 111, 114, 101]⟩ : ByteArray), (⟨#[108, 101, 97, 115, 116]⟩ : ByteArray), (⟨#[115, 97, 109, 101]⟩ : ByteArray), (⟨#[111, 116, 104, 101, 114]⟩ : ByteArray), (⟨#[102, 105, 116, 115]⟩ : ByteArray), (⟨#[108, 105, 110, 101]⟩ : ByteArray), (⟨#[110, 111, 116]⟩ : ByteArray), (⟨#[109, 105, 110, 117, 115]⟩ : ByteArray), (⟨#[98, 111, 111, 108]⟩ : ByteArray), (⟨#[99, 97, 108, 108]⟩ : ByteArray), (⟨#[106, 117, 109, 112]⟩ : ByteArray), (⟨#[122, 101, 114, 111]⟩ : ByteArray), (⟨#[112, 111, 112]⟩ : ByteArray), (⟨#[115, 104, 111, 119]⟩ : ByteArray), (⟨#[101, 110, 100, 108]⟩ : ByteArray), (⟨#[100, 114, 111, 112]⟩ : ByteArray), (⟨#[110, 101, 120, 116]⟩ : ByteArray)]
theorem name_in (a : Int) (L : List ByteArray) (hL : (L.length : Int) = 37) (h1 : 1 ≤ a) (h2 : a ≤ 36) :
    impl_opName.j0v a L (⟨#[]⟩ : ByteArray) a (a == 25) = some (rdOf ByteArray.empty L a, ⟨(if a = 25 then [115] else if a = 29 then [110, 115] else if a = 3 ∨ a = 4 ∨ a = 5 ∨ a = 6 ∨ a = 7 ∨ a = 8 ∨ a = 35 ∨ a = 30 ∨ a = 31 ∨ a = 33 then [110] else [] : List UInt8).toArray⟩) := by
  have c0 : 0 ≤ a := by omega
  have c1 : a < (L.length : Int) := by omega
  rw [impl_opName.j0v_eq]
  simp only [c0, c1, if_true, beq_iff_eq]
  by_cases k1 : a = 25
  · simp [k1]
  by_cases k2 : a = 29
  · simp [k2]
  by_cases k3 : a = 3
  · simp [k3]
  by_cases k4 : a = 4
  · simp [k4]
  by_cases k5 : a = 5
  · simp [k5]
  by_cases k6 : a = 6
  · simp [k6]
  by_cases k7 : a = 7
  · simp [k7]
  by_cases k8 : a = 8
  · simp [k8]
  by_cases k9 : a = 35
  · simp [k9]
  by_cases k10 : a = 30
  · simp [k10]
  by_cases k11 : a = 31
  · simp [k11]
  by_cases k12 : a = 33
  · simp [k12]
  simp [k1, k2, k3, k4, k5, k6, k7, k8, k9, k10, k11, k12]
theorem name_some (a : Int) (h1 : 1 ≤ a) (h2 : a ≤ 36) : (rdOf ByteArray.empty opNames a).toList ≠ [] := by
  have h : ∀ n, n < 37 → 1 ≤ n → (opNames.getD n ByteArray.empty).data.toList ≠ [] := by decide
  rw [Lib.toList_data]
  exact h a.toNat (by omega) (by omega)
theorem name_eq (a : Int) : impl_opName.fv a = (if decide (1 ≤ a ∧ a ≤ 36) = true then (if a = 1 then (if 0 ≤ a then (if a < (opNames.length : Int) then (some (rdOf ByteArray.empty opNames a, (⟨#[100]⟩ : ByteArray))) else (none)) else (none)) else (if a = 2 then (impl_opName.j0v a opNames (⟨#[]⟩ : ByteArray) a (a == 2)) else (if a = 24 then (impl_opName.j0v a opNames (⟨#[]⟩ : ByteArray) a (a == 24)) else (impl_opName.j0v a opNames (⟨#[]⟩ : ByteArray) a (a == 25))))) else (some ((⟨#[]⟩ : ByteArray), (⟨#[]⟩ : ByteArray)))) := by
  rw [impl_opName.fv_eq]
  show ((some opNames).bind _) = _
  rw [Option.bind_some]
  have hw : wrap64 ((opNames.length : Int) - 1) = 36 := wrap_in (n := 36) (by omega) (by omega)
  rw [hw, in_eq', Option.bind_some]
theorem op_name (a : Int) (h1 : 1 ≤ a) (h2 : a ≤ 36) : ∃ nm : ByteArray, nm.toList ≠ [] ∧ impl_opName.fv a = some (nm, B (opForm a)) := by
  have hl : (opNames.length : Int) = 37 := by decide
  have c0 : 0 ≤ a := by omega
  have c1 : a < (opNames.length : Int) := by omega
  refine ⟨_, name_some a h1 h2, ?_⟩
  rw [name_eq, if_pos (decide_eq_true ⟨h1, h2⟩)]
  by_cases k1 : a = 1
  · rw [if_pos k1, if_pos c0, if_pos c1]
    unfold opForm
    rw [if_pos k1]
    rfl
  rw [if_neg k1]
  by_cases k2 : a = 2
  · rw [if_pos k2, impl_opName.j0v_eq, if_pos (by rw [k2]; rfl), if_pos c0, if_pos c1]
    unfold opForm
    rw [if_neg k1, if_pos (.inl k2)]
    rfl
  rw [if_neg k2]
  by_cases k3 : a = 24
  · rw [if_pos k3, impl_opName.j0v_eq, if_pos (by rw [k3]; rfl), if_pos c0, if_pos c1]
    unfold opForm
    rw [if_neg k1, if_pos (.inr (.inl k3))]
    rfl
  rw [if_neg k3, name_in a _ hl h1 h2]
  have : opForm a = (if a = 25 then [115] else if a = 29 then [110, 115] else if a = 3 ∨ a = 4 ∨ a = 5 ∨ a = 6 ∨ a = 7 ∨ a = 8 ∨ a = 35 ∨ a = 30 ∨ a = 31 ∨ a = 33 then [110] else [] : List UInt8) := by
    unfold opForm
    rw [if_neg k1]
    by_cases k4 : a = 25
    · simp [k4]
    · simp [k2, k3, k4]
  rw [this]
  rfl
theorem op_out (a : Int) (h : ¬ (1 ≤ a ∧ a ≤ 36)) : impl_opName.fv a = some (B [], B []) := by
  rw [name_eq, if_neg (by rw [decide_eq_true_eq]; exact h)]
  rfl
theorem op_both (a b : Int) (c : ByteArray) (n v k : Int) : ∃ r, spec_l13Op.fv a b c n v k = some r ∧ impl_opRight.fv a b c n v k = some r := by
  obtain ⟨e, he1, he2, he3⟩ : ∃ e : Bool, (c.toList == ([] : List UInt8)) = e ∧ (c.toList != ([] : List UInt8)) = !e ∧ ((c.toList = ([] : List UInt8)) = (e = true)) := by
    refine ⟨c.toList == ([] : List UInt8), rfl, rfl, ?_⟩
    rw [beq_iff_eq]
  obtain ⟨ok, rx, hr1, hr2⟩ := isrex c
  by_cases k1 : a = 1
  · subst k1
    obtain ⟨nm, hn, hf⟩ := op_name 1 (by decide) (by decide)
    rw [impl_opRight.fv_eq, hf, Option.bind_some, if_neg hn]
    cases e <;> by_cases hb : -9000000000000 ≤ b ∧ b ≤ 9000000000000 <;> simp [hb, he1, he2, he3, hr1, hr2, B_toList, opForm, in_eq, in_eq', spec_DecOk.f, impl_DecOk.f, spec_l13Op.fv_eq, spec_l13Op.j0v_eq, spec_l13Op.j1v_eq, spec_l13Op.j2v_eq, spec_l13Op.j3v_eq, impl_opRight.j0v_eq, impl_opRight.j1v_eq, impl_opRight.j2v_eq, impl_opRight.j3v_eq, impl_opRight.j4v_eq]
  by_cases k2 : a = 2
  · subst k2
    obtain ⟨nm, hn, hf⟩ := op_name 2 (by decide) (by decide)
    rw [impl_opRight.fv_eq, hf, Option.bind_some, if_neg hn]
    cases e <;> by_cases hb : b = 0 <;> simp [hb, he1, he2, he3, hr1, hr2, B_toList, opForm, in_eq, in_eq', spec_DecOk.f, impl_DecOk.f, spec_l13Op.fv_eq, spec_l13Op.j0v_eq, spec_l13Op.j1v_eq, spec_l13Op.j2v_eq, spec_l13Op.j3v_eq, impl_opRight.j0v_eq, impl_opRight.j1v_eq, impl_opRight.j2v_eq, impl_opRight.j3v_eq, impl_opRight.j4v_eq]
  by_cases k24 : a = 24
  · subst k24
    obtain ⟨nm, hn, hf⟩ := op_name 24 (by decide) (by decide)
    rw [impl_opRight.fv_eq, hf, Option.bind_some, if_neg hn]
    cases e <;> by_cases hb : b = 0 <;> cases ok <;> simp [hb, he1, he2, he3, hr1, hr2, B_toList, opForm, in_eq, in_eq', spec_DecOk.f, impl_DecOk.f, spec_l13Op.fv_eq, spec_l13Op.j0v_eq, spec_l13Op.j1v_eq, spec_l13Op.j2v_eq, spec_l13Op.j3v_eq, impl_opRight.j0v_eq, impl_opRight.j1v_eq, impl_opRight.j2v_eq, impl_opRight.j3v_eq, impl_opRight.j4v_eq]
  by_cases k25 : a = 25
  · subst k25
    obtain ⟨nm, hn, hf⟩ := op_name 25 (by decide) (by decide)
    rw [impl_opRight.fv_eq, hf, Option.bind_some, if_neg hn]
    cases e <;> by_cases hb : b = 0 <;> cases ok <;> simp [hb, he1, he2, he3, hr1, hr2, B_toList, opForm, in_eq, in_eq', spec_DecOk.f, impl_DecOk.f, spec_l13Op.fv_eq, spec_l13Op.j0v_eq, spec_l13Op.j1v_eq, spec_l13Op.j2v_eq, spec_l13Op.j3v_eq, impl_opRight.j0v_eq, impl_opRight.j1v_eq, impl_opRight.j2v_eq, impl_opRight.j3v_eq, impl_opRight.j4v_eq]
  by_cases k29 : a = 29
  · subst k29
    obtain ⟨nm, hn, hf⟩ := op_name 29 (by decide) (by decide)
    rw [impl_opRight.fv_eq, hf, Option.bind_some, if_neg hn]
    cases e <;> by_cases hb : 1 ≤ b ∧ b ≤ 3 <;> by_cases hm : c.toList ∈ callws <;> simp [hb, hm, calls_s2, calls_i2, he1, he2, he3, hr1, hr2, B_toList, opForm, in_eq, in_eq', spec_DecOk.f, impl_DecOk.f, spec_l13Op.fv_eq, spec_l13Op.j0v_eq, spec_l13Op.j1v_eq, spec_l13Op.j2v_eq, spec_l13Op.j3v_eq, impl_opRight.j0v_eq, impl_opRight.j1v_eq, impl_opRight.j2v_eq, impl_opRight.j3v_eq, impl_opRight.j4v_eq]
  by_cases k3 : a = 3
  · subst k3
    obtain ⟨nm, hn, hf⟩ := op_name 3 (by decide) (by decide)
    rw [impl_opRight.fv_eq, hf, Option.bind_some, if_neg hn]
    cases e <;> by_cases hb : 0 ≤ b <;> by_cases hb2 : b < v <;> simp [hb, hb2, he1, he2, he3, hr1, hr2, B_toList, opForm, in_eq, in_eq', spec_DecOk.f, impl_DecOk.f, spec_l13Op.fv_eq, spec_l13Op.j0v_eq, spec_l13Op.j1v_eq, spec_l13Op.j2v_eq, spec_l13Op.j3v_eq, impl_opRight.j0v_eq, impl_opRight.j1v_eq, impl_opRight.j2v_eq, impl_opRight.j3v_eq, impl_opRight.j4v_eq]
  by_cases k4 : a = 4
  · subst k4
    obtain ⟨nm, hn, hf⟩ := op_name 4 (by decide) (by decide)
    rw [impl_opRight.fv_eq, hf, Option.bind_some, if_neg hn]
    cases e <;> by_cases hb : 0 ≤ b <;> by_cases hb2 : b < v <;> simp [hb, hb2, he1, he2, he3, hr1, hr2, B_toList, opForm, in_eq, in_eq', spec_DecOk.f, impl_DecOk.f, spec_l13Op.fv_eq, spec_l13Op.j0v_eq, spec_l13Op.j1v_eq, spec_l13Op.j2v_eq, spec_l13Op.j3v_eq, impl_opRight.j0v_eq, impl_opRight.j1v_eq, impl_opRight.j2v_eq, impl_opRight.j3v_eq, impl_opRight.j4v_eq]
  by_cases k5 : a = 5
  · subst k5
    obtain ⟨nm, hn, hf⟩ := op_name 5 (by decide) (by decide)
    rw [impl_opRight.fv_eq, hf, Option.bind_some, if_neg hn]
    cases e <;> by_cases hb : 0 ≤ b <;> by_cases hb2 : b < v <;> simp [hb, hb2, he1, he2, he3, hr1, hr2, B_toList, opForm, in_eq, in_eq', spec_DecOk.f, impl_DecOk.f, spec_l13Op.fv_eq, spec_l13Op.j0v_eq, spec_l13Op.j1v_eq, spec_l13Op.j2v_eq, spec_l13Op.j3v_eq, impl_opRight.j0v_eq, impl_opRight.j1v_eq, impl_opRight.j2v_eq, impl_opRight.j3v_eq, impl_opRight.j4v_eq]
  by_cases k6 : a = 6
  · subst k6
    obtain ⟨nm, hn, hf⟩ := op_name 6 (by decide) (by decide)
    rw [impl_opRight.fv_eq, hf, Option.bind_some, if_neg hn]
    cases e <;> by_cases hb : 0 ≤ b <;> by_cases hb2 : b < k <;> simp [hb, hb2, he1, he2, he3, hr1, hr2, B_toList, opForm, in_eq, in_eq', spec_DecOk.f, impl_DecOk.f, spec_l13Op.fv_eq, spec_l13Op.j0v_eq, spec_l13Op.j1v_eq, spec_l13Op.j2v_eq, spec_l13Op.j3v_eq, impl_opRight.j0v_eq, impl_opRight.j1v_eq, impl_opRight.j2v_eq, impl_opRight.j3v_eq, impl_opRight.j4v_eq]
  by_cases k7 : a = 7
  · subst k7
    obtain ⟨nm, hn, hf⟩ := op_name 7 (by decide) (by decide)
    rw [impl_opRight.fv_eq, hf, Option.bind_some, if_neg hn]
    cases e <;> by_cases hb : 0 ≤ b <;> by_cases hb2 : b < k <;> simp [hb, hb2, he1, he2, he3, hr1, hr2, B_toList, opForm, in_eq, in_eq', spec_DecOk.f, impl_DecOk.f, spec_l13Op.fv_eq, spec_l13Op.j0v_eq, spec_l13Op.j1v_eq, spec_l13Op.j2v_eq, spec_l13Op.j3v_eq, impl_opRight.j0v_eq, impl_opRight.j1v_eq, impl_opRight.j2v_eq, impl_opRight.j3v_eq, impl_opRight.j4v_eq]
  by_cases k8 : a = 8
  · subst k8
    obtain ⟨nm, hn, hf⟩ := op_name 8 (by decide) (by decide)
    rw [impl_opRight.fv_eq, hf, Option.bind_some, if_neg hn]
    cases e <;> by_cases hb : 0 ≤ b <;> by_cases hb2 : b < k <;> simp [hb, hb2, he1, he2, he3, hr1, hr2, B_toList, opForm, in_eq, in_eq', spec_DecOk.f, impl_DecOk.f, spec_l13Op.fv_eq, spec_l13Op.j0v_eq, spec_l13Op.j1v_eq, spec_l13Op.j2v_eq, spec_l13Op.j3v_eq, impl_opRight.j0v_eq, impl_opRight.j1v_eq, impl_opRight.j2v_eq, impl_opRight.j3v_eq, impl_opRight.j4v_eq]
  by_cases k35 : a = 35
  · subst k35
    obtain ⟨nm, hn, hf⟩ := op_name 35 (by decide) (by decide)
    rw [impl_opRight.fv_eq, hf, Option.bind_some, if_neg hn]
    cases e <;> by_cases hb : 0 ≤ b <;> by_cases hb2 : b < k <;> simp [hb, hb2, he1, he2, he3, hr1, hr2, B_toList, opForm, in_eq, in_eq', spec_DecOk.f, impl_DecOk.f, spec_l13Op.fv_eq, spec_l13Op.j0v_eq, spec_l13Op.j1v_eq, spec_l13Op.j2v_eq, spec_l13Op.j3v_eq, impl_opRight.j0v_eq, impl_opRight.j1v_eq, impl_opRight.j2v_eq, impl_opRight.j3v_eq, impl_opRight.j4v_eq]
  by_cases k30 : a = 30
  · subst k30
    obtain ⟨nm, hn, hf⟩ := op_name 30 (by decide) (by decide)
    rw [impl_opRight.fv_eq, hf, Option.bind_some, if_neg hn]
    cases e <;> by_cases hb : 0 ≤ b ∧ b ≤ wrap64 (n - 1) <;> simp [hb, he1, he2, he3, hr1, hr2, B_toList, opForm, in_eq, in_eq', spec_DecOk.f, impl_DecOk.f, spec_l13Op.fv_eq, spec_l13Op.j0v_eq, spec_l13Op.j1v_eq, spec_l13Op.j2v_eq, spec_l13Op.j3v_eq, impl_opRight.j0v_eq, impl_opRight.j1v_eq, impl_opRight.j2v_eq, impl_opRight.j3v_eq, impl_opRight.j4v_eq]
  by_cases k31 : a = 31
  · subst k31
    obtain ⟨nm, hn, hf⟩ := op_name 31 (by decide) (by decide)
    rw [impl_opRight.fv_eq, hf, Option.bind_some, if_neg hn]
    cases e <;> by_cases hb : 0 ≤ b ∧ b ≤ wrap64 (n - 1) <;> simp [hb, he1, he2, he3, hr1, hr2, B_toList, opForm, in_eq, in_eq', spec_DecOk.f, impl_DecOk.f, spec_l13Op.fv_eq, spec_l13Op.j0v_eq, spec_l13Op.j1v_eq, spec_l13Op.j2v_eq, spec_l13Op.j3v_eq, impl_opRight.j0v_eq, impl_opRight.j1v_eq, impl_opRight.j2v_eq, impl_opRight.j3v_eq, impl_opRight.j4v_eq]
  by_cases k33 : a = 33
  · subst k33
    obtain ⟨nm, hn, hf⟩ := op_name 33 (by decide) (by decide)
    rw [impl_opRight.fv_eq, hf, Option.bind_some, if_neg hn]
    cases e <;> by_cases hb : 0 ≤ b ∧ b ≤ 1 <;> simp [hb, he1, he2, he3, hr1, hr2, B_toList, opForm, in_eq, in_eq', spec_DecOk.f, impl_DecOk.f, spec_l13Op.fv_eq, spec_l13Op.j0v_eq, spec_l13Op.j1v_eq, spec_l13Op.j2v_eq, spec_l13Op.j3v_eq, impl_opRight.j0v_eq, impl_opRight.j1v_eq, impl_opRight.j2v_eq, impl_opRight.j3v_eq, impl_opRight.j4v_eq]
  have hform : opForm a = [] := by simp [opForm, k1, k2, k24, k25, k29, k3, k4, k5, k6, k7, k8, k35, k30, k31, k33]
  by_cases h : 1 ≤ a ∧ a ≤ 36
  · obtain ⟨nm, hn, hf⟩ := op_name a h.1 h.2
    rw [impl_opRight.fv_eq, hf, Option.bind_some, if_neg hn]
    cases e <;> by_cases hb : b = 0 <;> simp [hb, h, he1, he2, he3, B_toList, hform, in_eq, in_eq', k1, k2, k24, k25, k29, k3, k4, k5, k6, k7, k8, k35, k30, k31, k33, spec_l13Op.fv_eq, spec_l13Op.j0v_eq, spec_l13Op.j1v_eq, spec_l13Op.j2v_eq, spec_l13Op.j3v_eq, impl_opRight.j0v_eq, impl_opRight.j1v_eq, impl_opRight.j2v_eq, impl_opRight.j3v_eq, impl_opRight.j4v_eq]
  · refine ⟨false, ?_, ?_⟩
    · simp [h, in_eq, k1, k2, k24, k25, k29, k3, k4, k5, k6, k7, k8, k35, k30, k31, k33, spec_l13Op.fv_eq, spec_l13Op.j0v_eq, spec_l13Op.j1v_eq, spec_l13Op.j2v_eq, spec_l13Op.j3v_eq, impl_opRight.j0v_eq, impl_opRight.j1v_eq, impl_opRight.j2v_eq, impl_opRight.j3v_eq, impl_opRight.j4v_eq]
    · rw [impl_opRight.fv_eq, op_out a h, Option.bind_some, if_pos (by rw [B_toList]), impl_opRight.j0v_eq, if_pos rfl]
theorem ops_loops (x : List S29) (v k : Int) (hl : x.length ≤ 1048576) (d : Nat) : ∀ i : Nat, x.length - i = d →
    ∃ (b : Bool) (r : Int), spec_OpsOk.l0v x v k (x.length : Int) i = some b ∧ slices_IndexFunc_impl_Op_impl_Op__impl_OpsOk_1.l0v x (x.length : Int) i x v k = some r ∧ b = !decide (r ≥ 0) := by
  induction d with
  | zero =>
    intro i h1
    exact ⟨true, -1, by rw [spec_OpsOk.l0v_eq, if_neg (by omega)], by rw [slices_IndexFunc_impl_Op_impl_Op__impl_OpsOk_1.l0v_eq, if_neg (by omega)], rfl⟩
  | succ d ih =>
    intro i h1
    have hi : i < x.length := by omega
    have hw : wrap64 ((i : Int) + 1) = ((i + 1 : Nat) : Int) := by rw [wrap_in (by omega) (by omega)]; omega
    obtain ⟨b, r, e1, e2, e3⟩ := ih (i + 1) (by omega)
    obtain ⟨q, h1, h2⟩ := op_both x[i].f0 x[i].f1 x[i].f2 (x.length : Int) v k
    have c1 : (i : Int) < (x.length : Int) := by omega
    have c0 : (0 : Int) ≤ (i : Int) := by omega
    rw [spec_OpsOk.l0v_eq, if_pos c1, if_pos c0, if_pos c1, slices_IndexFunc_impl_Op_impl_Op__impl_OpsOk_1.l0v_eq, if_pos c1, if_pos c0, if_pos c1, rdin29 x i hi, impl_OpsOk_1.fv_eq, h1, h2]
    simp only [Option.bind_some, hw, e1, e2]
    cases q
    · exact ⟨false, i, by simp, by simp, by simp⟩
    · exact ⟨b, r, by simp, by simp, e3⟩
theorem ops_both (x : List S29) (v k : Int) (hl : x.length ≤ 1048576) : ∃ b : Bool, spec_OpsOk.fv x v k = some b ∧ impl_OpsOk.fv x v k = some b := by
  rw [spec_OpsOk.fv_eq, impl_OpsOk.fv_eq, in_eq, in_eq', Option.bind_some, Option.bind_some]
  by_cases hn : 1 ≤ (x.length : Int) ∧ (x.length : Int) ≤ 1500
  · have hw2 : wrap64 ((x.length : Int) - 1) = (x.length : Int) - 1 := wrap_in (by omega) (by omega)
    have c1 : (0 : Int) ≤ (x.length : Int) - 1 := by omega
    have c2 : (x.length : Int) - 1 < (x.length : Int) := by omega
    rw [if_pos (decide_eq_true hn), if_pos (decide_eq_true hn), hw2, if_pos c1, if_pos c2, if_pos c1, if_pos c2, spec_OpsOk.j0v_eq]
    generalize (rd_T29 x ((x.length : Int) - 1)).f0 = a
    by_cases h36 : a = 36
    · obtain ⟨b, r, e1, e2, e3⟩ := ops_loops x v k hl _ 0 rfl
      have e1' : spec_OpsOk.l0v x v k (x.length : Int) 0 = some b := e1
      have e2' : slices_IndexFunc_impl_Op_impl_Op__impl_OpsOk_1.l0v x (x.length : Int) 0 x v k = some r := e2
      refine ⟨b, ?_, ?_⟩
      · rw [if_neg (by simp [h36]), e1']
      · rw [if_pos h36, slices_ContainsFunc_impl_Op_impl_Op__impl_OpsOk_1.fv_eq, slices_IndexFunc_impl_Op_impl_Op__impl_OpsOk_1.fv_eq, e2', Option.bind_some, Option.bind_some, e3]
    · exact ⟨false, by rw [if_pos (by simp [h36])], by rw [if_neg h36]⟩
  · refine ⟨false, ?_, ?_⟩
    · rw [if_neg (by rw [decide_eq_true_eq]; exact hn), spec_OpsOk.j0v_eq, if_pos rfl]
    · rw [if_neg (by rw [decide_eq_true_eq]; exact hn)]
/-! ### decimal digits -/
theorem dig_one (n : Int) (h0 : 0 ≤ n) (h1 : n ≤ 9223372036854775807) : strOfNums [(wrap64 (48 + Int.tmod n 10)) % 256] = B [UInt8.ofNat (48 + n.toNat % 10)] := by
  have e : (wrap64 (48 + Int.tmod n 10)) % 256 = ((48 + n.toNat % 10 : Nat) : Int) := by
    rw [Int.tmod_eq_emod_of_nonneg h0, wrap_in (by omega) (by omega)]
    omega
  rw [e]
  rfl
theorem digits_loop (u : Nat) : ∀ acc : List UInt8, 1 ≤ u → u ≤ 9223372036854775807 → acc.length + Lib.nDigits u ≤ 1000 → spec_l2Digits.l0v (u : Int) (B acc) = some (B (Lib.decDigits u ++ acc)) := by
  induction u using Nat.strongRecOn with
  | _ u ih =>
    intro acc h1 h2 h3
    rw [spec_l2Digits.l0v_eq, if_pos (by omega)]
    rw [dig_one _ (by omega) (by omega), B_append, Int.toNat_natCast, Int.tdiv_eq_ediv_of_nonneg (by omega), wrap_in (by omega) (by omega)]
    rw [if_pos (by rw [B_size, B_size]; have := Lib.nDigits_pos u; simp; omega)]
    rw [show ((u : Int) / 10) = ((u / 10 : Nat) : Int) by omega]
    by_cases h : u < 10
    · rw [show u / 10 = 0 by omega, spec_l2Digits.l0v_eq, if_neg (by simp)]
      rw [Lib.decDigits_one h, Nat.mod_eq_of_lt h]
    · rw [ih (u / 10) (by omega) _ (by omega) (by omega) (by rw [Lib.nDigits_big h] at h3; simp; omega)]
      rw [Lib.decDigits.eq_def u, dif_neg h]
      simp
theorem digits_spec (u : Nat) (h : u ≤ 9223372036854775807) : spec_l2Digits.fv (u : Int) = some (B (Lib.decDigits u)) := by
  rw [spec_l2Digits.fv_eq]
  by_cases h0 : u = 0
  · subst h0
    rw [if_pos (by simp), Lib.decDigits_one (by omega)]
    rfl
  · rw [if_neg (by omega), show (⟨#[]⟩ : ByteArray) = B [] from rfl, digits_loop u [] (by omega) h (by have := Lib.nDigits_le20 u (by omega); simp; omega)]
    simp
theorem seven (u : Nat) (h0 : 1000000 ≤ u) (h1 : u < 2000000) : Lib.decDigits u = [49, UInt8.ofNat (48 + u / 100000 % 10), UInt8.ofNat (48 + u / 10000 % 10), UInt8.ofNat (48 + u / 1000 % 10), UInt8.ofNat (48 + u / 100 % 10), UInt8.ofNat (48 + u / 10 % 10), UInt8.ofNat (48 + u % 10)] := by
  rw [Lib.decDigits.eq_def, dif_neg (by omega), Lib.decDigits.eq_def, dif_neg (by omega), Lib.decDigits.eq_def, dif_neg (by omega), Lib.decDigits.eq_def, dif_neg (by omega), Lib.decDigits.eq_def, dif_neg (by omega), Lib.decDigits.eq_def, dif_neg (by omega), Lib.decDigits_one (by omega)]
  simp only [Nat.div_div_eq_div_mul]
  rw [show u / (10 * 10 * 10 * 10 * 10 * 10) = 1 by omega]
  rfl
theorem rest_any (r : Nat) (h0 : 0 < r) (h1 : r < 1000000) : ∃ b ∈ (Lib.decDigits (1000000 + r)).drop 1, b ≠ 48 := by
  rw [seven _ (by omega) (by omega)]
  simp only [List.drop_succ_cons, List.drop_zero]
  apply Classical.byContradiction
  intro hn
  have hz : ∀ k : Nat, k < 10 → UInt8.ofNat (48 + k) = 48 → k = 0 := by
    intro k hk e
    have := congrArg UInt8.toNat e
    rw [byte_ofNat _ (by omega)] at this
    have h48 : (48 : UInt8).toNat = 48 := rfl
    omega
  have hall : ∀ b ∈ [UInt8.ofNat (48 + (1000000 + r) / 100000 % 10), UInt8.ofNat (48 + (1000000 + r) / 10000 % 10), UInt8.ofNat (48 + (1000000 + r) / 1000 % 10), UInt8.ofNat (48 + (1000000 + r) / 100 % 10), UInt8.ofNat (48 + (1000000 + r) / 10 % 10), UInt8.ofNat (48 + (1000000 + r) % 10)], b = 48 := fun b hb => Classical.byContradiction fun e => hn ⟨b, hb, e⟩
  have a1 := hz _ (by omega) (hall (UInt8.ofNat (48 + (1000000 + r) / 100000 % 10)) (by simp))
  have a2 := hz _ (by omega) (hall (UInt8.ofNat (48 + (1000000 + r) / 10000 % 10)) (by simp))
  have a3 := hz _ (by omega) (hall (UInt8.ofNat (48 + (1000000 + r) / 1000 % 10)) (by simp))
  have a4 := hz _ (by omega) (hall (UInt8.ofNat (48 + (1000000 + r) / 100 % 10)) (by simp))
  have a5 := hz _ (by omega) (hall (UInt8.ofNat (48 + (1000000 + r) / 10 % 10)) (by simp))
  have a6 := hz _ (by omega) (hall (UInt8.ofNat (48 + (1000000 + r) % 10)) (by simp))
  omega
/-! ### noughts at the end fall away -/
def sgn (x : Int) : List UInt8 := if x < 0 then [45] else []
theorem trim_snoc (t : List UInt8) (b : UInt8) : Lib.trimRightB (t ++ [b]) 48 = if b = 48 then Lib.trimRightB t 48 else t ++ [b] := by
  unfold Lib.trimRightB
  rw [List.reverse_append, List.reverse_singleton, List.singleton_append, List.dropWhile_cons]
  by_cases h : b = 48
  · simp [h]
  · rw [if_neg (by simpa using h), if_neg h]; simp
theorem trim_le (t : List UInt8) : (Lib.trimRightB t 48).length ≤ t.length := by
  unfold Lib.trimRightB
  rw [List.length_reverse]
  exact Nat.le_trans (List.dropWhile_sublist _).length_le (by simp)
theorem strip (x0 : Int) (a : List UInt8) (ha : a.length ≤ 1000) (n : Nat) : ∀ t : List UInt8, t.length = n → t.length ≤ 1000 → (∃ b ∈ t, b ≠ 48) → spec_DecText.l0v x0 (B a) (B t) = some (B (sgn x0 ++ (a ++ [46] ++ Lib.trimRightB t 48))) := by
  induction n with
  | zero =>
    intro t h1 _ ⟨b, hb, _⟩
    rw [List.eq_nil_of_length_eq_zero h1] at hb
    simp at hb
  | succ n ih =>
    intro t h1 h2 h3
    obtain ⟨t, b, rfl⟩ : ∃ t' b, t = t' ++ [b] := ⟨t.dropLast, t.getLast (by intro e; rw [e] at h1; simp at h1), (List.dropLast_concat_getLast _).symm⟩
    have hl : t.length = n := by simpa using h1
    have e1 : wrap64 (((B (t ++ [b])).size : Int) - 1) = (n : Int) := by rw [B_size]; simp; rw [wrap_in (by omega) (by omega)]; omega
    have e2 : bt (B (t ++ [b])) (n : Int) = (b.toNat : Int) := by
      rw [B_bt _ n (by simp; omega)]
      subst hl; simp
    rw [spec_DecText.l0v_eq, e1, e2, if_pos (by omega), if_pos (by rw [B_size]; simp; omega), trim_snoc]
    have hb := byte_is b 48 48 rfl
    by_cases h : b = 48
    · rw [if_pos (hb.2 h), if_pos (by rw [B_size]; simp; omega), if_pos h, B_extract]
      have e3 : (List.drop 0 (t ++ [b])).take (((n : Int)).toNat - 0) = t := by subst hl; simp
      rw [e3]
      refine ih t hl (by simp at h2; omega) ?_
      obtain ⟨c, hc, hc2⟩ := h3
      rcases List.mem_append.1 hc with hc | hc
      · exact ⟨c, hc, hc2⟩
      · rw [List.mem_singleton] at hc; exact absurd (hc.trans h) hc2
    · rw [if_neg (fun e => h (hb.1 e)), if_neg h, show (⟨#[46]⟩ : ByteArray) = B [46] from rfl, show (⟨#[45]⟩ : ByteArray) = B [45] from rfl]
      simp only [B_append, B_size]
      rw [if_pos (by simp; omega), if_pos (by simp; simp at h2; omega)]
      by_cases hx : x0 < 0
      · rw [if_pos hx, if_pos (by simp; simp at h2; omega)]; simp [sgn, hx]
      · rw [if_neg hx]; simp [sgn, hx]
/-! ### both texts -/
theorem decok_spec (a : Int) : spec_DecOk.f a = some (decide (-9000000000000 ≤ a ∧ a ≤ 9000000000000)) := by
  unfold spec_DecOk.f spec_l1In.f
  by_cases h : a ≥ -9000000000000
  · rw [if_pos h]; simp [h]
  · rw [if_neg h]; simp; omega
theorem decok_impl (a : Int) : impl_DecOk.f a = some (decide (-9000000000000 ≤ a ∧ a ≤ 9000000000000)) := by
  unfold impl_DecOk.f impl_in.f
  by_cases h : a ≥ -9000000000000
  · rw [if_pos h]; simp [h]
  · rw [if_neg h]; simp; omega
def decText (a : Int) : List UInt8 := if -9000000000000 ≤ a ∧ a ≤ 9000000000000 then sgn a ++ (Lib.decDigits (a.natAbs / 1000000) ++ if a.natAbs % 1000000 = 0 then [] else [46] ++ Lib.trimRightB ((Lib.decDigits (1000000 + a.natAbs % 1000000)).drop 1) 48) else []
theorem dec_len (u : Nat) (h : u ≤ 9223372036854775807) : (Lib.decDigits u).length ≤ 20 := by rw [Lib.decDigits_length]; exact Lib.nDigits_le20 u (by omega)
theorem text_spec (a : Int) : spec_DecText.fv a = some (B (decText a)) := by
  rw [spec_DecText.fv_eq, decok_spec, Option.bind_some]
  unfold decText
  by_cases h : -9000000000000 ≤ a ∧ a ≤ 9000000000000
  · rw [if_pos (by simpa using h), if_pos h]
    have e0 : spec_l1Abs.f a = some ((a.natAbs : Nat) : Int) := by
      unfold spec_l1Abs.f
      by_cases hn : a < 0
      · rw [if_pos hn, wrap_in (by omega) (by omega)]; congr 1; omega
      · rw [if_neg hn]; congr 1; omega
    rw [e0, Option.bind_some, Int.tdiv_eq_ediv_of_nonneg (by omega), Int.tmod_eq_emod_of_nonneg (by omega), wrap_in (by omega) (by omega)]
    generalize hu : a.natAbs = u
    have hu2 : u ≤ 9000000000000 := by omega
    rw [show ((u : Int) / 1000000) = ((u / 1000000 : Nat) : Int) by omega, digits_spec _ (by omega), Option.bind_some]
    have hd := dec_len (u / 1000000) (by omega)
    by_cases hr : u % 1000000 = 0
    · rw [if_neg (by omega), if_pos hr, List.append_nil, B_size, show (⟨#[45]⟩ : ByteArray) = B [45] from rfl, B_append]
      by_cases hn : a < 0
      · rw [if_pos hn, if_pos (by rw [B_size]; simp; omega)]; simp [sgn, hn]
      · rw [if_neg hn]; simp [sgn, hn]
    · rw [if_pos (by omega), if_neg hr, wrap_in (by omega) (by omega), show (1000000 + (u : Int) % 1000000) = ((1000000 + u % 1000000 : Nat) : Int) by omega, digits_spec _ (by omega), Option.bind_some]
      have hd2 := dec_len (1000000 + u % 1000000) (by omega)
      rw [B_size, if_pos (by rw [seven _ (by omega) (by omega)]; simp), B_extract]
      rw [List.take_of_length_le (by simp)]
      rw [strip a _ (by omega) _ _ rfl (by simp; omega) (rest_any _ (by omega) (by omega))]
      simp
  · rw [if_neg (by simpa using h), if_neg h]; rfl
theorem text_impl (a : Int) : impl_DecText.fv a = some (B (decText a)) := by
  rw [impl_DecText.fv_eq, decok_impl, Option.bind_some]
  unfold decText
  by_cases h : -9000000000000 ≤ a ∧ a ≤ 9000000000000
  · rw [if_pos (by simpa using h), if_pos h]
    have key : ∀ (u : Nat) (s : List UInt8), u ≤ 9000000000000 → s.length ≤ 10 → impl_DecText.j0v (u : Int) (B s) = some (B (s ++ (Lib.decDigits (u / 1000000) ++ if u % 1000000 = 0 then [] else [46] ++ Lib.trimRightB ((Lib.decDigits (1000000 + u % 1000000)).drop 1) 48))) := by
      intro u s hu hs
      have hit : ∀ v : Nat, v ≤ 9223372036854775807 → strconv_Itoa.f (v : Int) = some (B (Lib.decDigits v)) := by
        intro v hv
        unfold strconv_Itoa.f
        rw [if_pos (by omega), Lib.itoa_nonneg]; rfl
      have hd := dec_len (u / 1000000) (by omega)
      rw [impl_DecText.j0v_eq, Int.tdiv_eq_ediv_of_nonneg (by omega), Int.tmod_eq_emod_of_nonneg (by omega), wrap_in (by omega) (by omega), show ((u : Int) / 1000000) = ((u / 1000000 : Nat) : Int) by omega, hit _ (by omega), Option.bind_some]
      rw [if_pos (by rw [B_size, B_size]; omega)]
      by_cases hr : u % 1000000 = 0
      · rw [if_neg (by omega), if_pos hr, List.append_nil, B_append]
      · rw [if_pos (by omega), if_neg hr, wrap_in (by omega) (by omega), show (1000000 + (u : Int) % 1000000) = ((1000000 + u % 1000000 : Nat) : Int) by omega, hit _ (by omega), Option.bind_some]
        have hd2 := dec_len (1000000 + u % 1000000) (by omega)
        rw [B_size, if_pos (by rw [seven _ (by omega) (by omega)]; simp), B_extract, List.take_of_length_le (by simp)]
        generalize ht : (Lib.decDigits (1000000 + u % 1000000)).drop 1 = t
        have ht2 : t.length ≤ 20 := by rw [← ht]; simp; omega
        have htr : strings_TrimRight.f (B t) (⟨#[48]⟩ : ByteArray) = some (B (Lib.trimRightB t 48)) := by
          unfold strings_TrimRight.f
          simp only [B_data, B_size]
          rw [if_pos ⟨by decide, by omega⟩]; rfl
        have := trim_le t
        rw [htr, Option.bind_some, show (⟨#[46]⟩ : ByteArray) = B [46] from rfl]
        simp only [B_append, B_size]
        rw [if_pos (by simp; omega), if_pos (by simp; omega)]
        simp
    by_cases hn : a < 0
    · rw [if_pos hn, wrap_in (by omega) (by omega), show (0 - a) = ((a.natAbs : Nat) : Int) by omega, show (⟨#[45]⟩ : ByteArray) = B [45] from rfl, key _ _ (by omega) (by simp)]
      simp [sgn, hn]
    · rw [if_neg hn, show (⟨#[]⟩ : ByteArray) = B [] from rfl]
      have e : a = ((a.natAbs : Nat) : Int) := by omega
      have k2 := key a.natAbs [] (by omega) (by simp)
      rw [← e] at k2
      rw [k2]
      simp [sgn, hn]
  · rw [if_neg (by simpa using h), if_neg h]; rfl
/-! ### the text of a place -/
def nms : List ByteArray := [(⟨#[]⟩ : ByteArray), (⟨#[110, 117, 109]⟩ : ByteArray), (⟨#[116, 101, 120, 116]⟩ : ByteArray), (⟨#[118, 97, 114]⟩ : ByteArray), (⟨#[115, 101, 116, 118, 97, 114]⟩ : ByteArray), (⟨#[112, 108, 117, 115, 118, 97, 114]⟩ : ByteArray), (⟨#[99, 101, 108, 108]⟩ : ByteArray), (⟨#[115, 101, 116, 99, 101, 108, 108]⟩ : ByteArray), (⟨#[112, 108, 117, 115, 99, 101, 108, 108]⟩ : ByteArray), (⟨#[102, 105, 101, 108, 100]⟩ : ByteArray), (⟨#[110, 114]⟩ : ByteArray), (⟨#[110, 102]⟩ : ByteArray), (⟨#[97, 100, 100]⟩ : ByteArray), (⟨#[115, 117, 98]⟩ : ByteArray), (⟨#[109, 117, 108]⟩ : ByteArray), (⟨#[100, 105, 118]⟩ : ByteArray), (⟨#[109, 111, 100]⟩ : ByteArray), (⟨#[99, 97, 116]⟩ : ByteArray), (⟨#[108, 101, 115, 115]⟩ : ByteArray), (⟨#[109, 111, 115, 116]⟩ : ByteArray), (⟨#[109, 111, 114, 101]⟩ : ByteArray), (⟨#[108, 101, 97, 115, 116]⟩ : ByteArray), (⟨#[115, 97, 109, 101]⟩ : ByteArray), (⟨#[111, 116, 104, 101, 114]⟩ : ByteArray), (⟨#[102, 105, 116, 115]⟩ : ByteArray), (⟨#[108, 105, 110, 101]⟩ : ByteArray), (⟨#[110, 111, 116]⟩ : ByteArray), (⟨#[109, 105, 110, 117, 115]⟩ : ByteArray), (⟨#[98, 111, 111, 108]⟩ : ByteArray), (⟨#[99, 97, 108, 108]⟩ : ByteArray), (⟨#[106, 117, 109, 112]⟩ : ByteArray), (⟨#[122, 101, 114, 111]⟩ : ByteArray), (⟨#[112, 111, 112]⟩ : ByteArray), (⟨#[115, 104, 111, 119]⟩ : ByteArray), (⟨#[101, 110, 100, 108]⟩ : ByteArray), (⟨#[100, 114, 111, 112]⟩ : ByteArray), (⟨#[110, 101, 120, 116]⟩ : ByteArray)]
theorem nms_len : (nms.length : Int) = 37 := rfl
def nm (a : Int) : ByteArray := rdOf ByteArray.empty nms a
theorem nm_sz (a : Int) : (nm a).size ≤ 10 := by
  unfold nm rdOf
  by_cases h : a.toNat < 37
  · have : ∀ i : Nat, i < 37 → (nms.getD i ByteArray.empty).size ≤ 10 := by decide
    exact this _ h
  · have : nms.getD a.toNat ByteArray.empty = ByteArray.empty := by
      have h37 : nms.length = 37 := rfl
      rw [List.getD_eq_getElem?_getD, List.getElem?_eq_none (by omega)]
      rfl
    rw [this]; decide
def fm (a : Int) : Nat := if a = 1 then 1 else if a = 2 ∨ a = 24 ∨ a = 25 then 2 else if a = 29 then 4 else if (3 ≤ a ∧ a ≤ 8) ∨ a = 30 ∨ a = 31 ∨ a = 33 ∨ a = 35 then 3 else 0
def ft : Nat → ByteArray
  | 1 => ⟨#[100]⟩
  | 2 => ⟨#[115]⟩
  | 3 => ⟨#[110]⟩
  | 4 => ⟨#[110, 115]⟩
  | _ => ⟨#[]⟩
theorem in_i' (a lo hi : Int) : impl_in.f a lo hi = some (decide (lo ≤ a ∧ a ≤ hi)) := by
  unfold impl_in.f
  by_cases h : a ≥ lo
  · rw [if_pos h]; simp [h]
  · rw [if_neg h]; simp; omega
theorem in_s' (a lo hi : Int) : spec_l1In.f a lo hi = some (decide (lo ≤ a ∧ a ≤ hi)) := by
  unfold spec_l1In.f
  by_cases h : a ≥ lo
  · rw [if_pos h]; simp [h]
  · rw [if_neg h]; simp; omega
theorem name_i (a : Int) : impl_opName.fv a = if 1 ≤ a ∧ a ≤ 36 then some (nm a, ft (fm a)) else some ((⟨#[]⟩ : ByteArray), (⟨#[]⟩ : ByteArray)) := by
  rw [impl_opName.fv_eq]
  unfold nm
  have hl := nms_len
  change (some nms).bind _ = _
  generalize nms = L at *
  rw [Option.bind_some, hl, in_i', wrap_in (by omega) (by omega), Option.bind_some]
  by_cases h : 1 ≤ a ∧ a ≤ 36
  · rw [if_pos (by simpa using h), if_pos h]
    have p0 : 0 ≤ a := by omega
    have p1 : a < 37 := by omega
    unfold fm
    by_cases c1 : a = 1
    · rw [if_pos c1, if_pos p0, if_pos p1, if_pos c1]; rfl
    · rw [if_neg c1, if_neg c1]
      have e : (if a = 2 then impl_opName.j0v a L (⟨#[]⟩ : ByteArray) a (a == 2) else if a = 24 then impl_opName.j0v a L (⟨#[]⟩ : ByteArray) a (a == 24) else impl_opName.j0v a L (⟨#[]⟩ : ByteArray) a (a == 25)) = impl_opName.j0v a L (⟨#[]⟩ : ByteArray) a (decide (a = 2 ∨ a = 24 ∨ a = 25)) := by
        by_cases k2 : a = 2
        · subst k2; rfl
        · rw [if_neg k2]
          by_cases k24 : a = 24
          · subst k24; rfl
          · rw [if_neg k24]
            congr 1
            by_cases k25 : a = 25
            · subst k25; rfl
            · rw [beq_eq_false_iff_ne.2 k25]; exact (decide_eq_false (by omega)).symm
      rw [e, impl_opName.j0v_eq, hl]
      simp only [p0, p1, if_true]
      by_cases c2 : a = 2 ∨ a = 24 ∨ a = 25
      · rw [if_pos (decide_eq_true c2), if_pos c2]; rfl
      · rw [if_neg (by simpa using c2), if_neg c2]
        by_cases c29 : a = 29
        · rw [if_pos c29, if_pos c29]; rfl
        · rw [if_neg c29, if_neg c29]
          by_cases c3 : (3 ≤ a ∧ a ≤ 8) ∨ a = 30 ∨ a = 31 ∨ a = 33 ∨ a = 35
          · rw [if_pos c3]
            have : a = 3 ∨ a = 4 ∨ a = 5 ∨ a = 6 ∨ a = 7 ∨ a = 8 ∨ a = 30 ∨ a = 31 ∨ a = 33 ∨ a = 35 := by omega
            rcases this with rfl | rfl | rfl | rfl | rfl | rfl | rfl | rfl | rfl | rfl <;> rfl
          · rw [if_neg c3, if_neg (by omega), if_neg (by omega), if_neg (by omega), if_neg (by omega), if_neg (by omega), if_neg (by omega), if_neg (by omega), if_neg (by omega), if_neg (by omega), if_neg (by omega)]; rfl
  · rw [if_neg (by simpa using h), if_neg h]
theorem dig_any (b : Int) (h : b ≤ 9223372036854775807) : ∃ s : ByteArray, spec_l2Digits.fv b = some s ∧ strconv_Itoa.f (mx 0 b) = some s ∧ s.size ≤ 20 := by
  have hit : ∀ v : Nat, v ≤ 9223372036854775807 → strconv_Itoa.f (v : Int) = some (B (Lib.decDigits v)) := by
    intro v hv
    unfold strconv_Itoa.f
    rw [if_pos (by omega), Lib.itoa_nonneg]; rfl
  by_cases h0 : b ≤ 0
  · refine ⟨B (Lib.decDigits 0), ?_, ?_, by rw [B_size]; exact dec_len 0 (by omega)⟩
    · rw [spec_l2Digits.fv_eq, if_pos h0, Lib.decDigits_one (by omega)]; rfl
    · rw [show mx 0 b = ((0 : Nat) : Int) from by unfold mx; rw [if_neg (by omega)]; rfl]
      exact hit 0 (by omega)
  · obtain ⟨u, rfl⟩ := Int.eq_ofNat_of_zero_le (show 0 ≤ b by omega)
    refine ⟨B (Lib.decDigits u), digits_spec u (by omega), ?_, by rw [B_size]; exact dec_len u (by omega)⟩
    rw [show mx 0 (u : Int) = ((u : Nat) : Int) from by unfold mx; rw [if_pos (by omega)]]
    exact hit u (by omega)
theorem szc (a : UInt8) (l : List UInt8) : (⟨(a :: l).toArray⟩ : ByteArray).size = l.length + 1 := B_size (a :: l)
theorem szn : (⟨#[]⟩ : ByteArray).size = 0 := rfl
theorem okS {α : Type} {a : Nat} {x y : α} (h : a ≤ 9223372036854775807) : (if a ≤ 9223372036854775807 then x else y) = x := if_pos h
theorem dec_sz (b : Int) : (B (decText b)).size ≤ 60 := by
  rw [B_size]
  unfold decText
  split
  · have h1 := dec_len (b.natAbs / 1000000) (by omega)
    have h2 := dec_len (1000000 + b.natAbs % 1000000) (by omega)
    have h3 : (sgn b).length ≤ 1 := by unfold sgn; split <;> simp
    have h4 := trim_le ((Lib.decDigits (1000000 + b.natAbs % 1000000)).drop 1)
    rw [List.length_drop] at h4
    rw [List.length_append, List.length_append]
    split
    · simp; omega
    · simp only [List.length_append, List.length_cons, List.length_nil]; omega
  · simp
def opT (x d t c : ByteArray) : Nat → ByteArray
  | 1 => x ++ ((⟨#[32]⟩ : ByteArray) ++ d)
  | 2 => x ++ (((⟨#[32, 60]⟩ : ByteArray) ++ c) ++ (⟨#[62]⟩ : ByteArray))
  | 3 => x ++ ((⟨#[32]⟩ : ByteArray) ++ t)
  | 4 => (x ++ ((⟨#[32]⟩ : ByteArray) ++ t)) ++ (((⟨#[32, 60]⟩ : ByteArray) ++ c) ++ (⟨#[62]⟩ : ByteArray))
  | _ => x
theorem loop_i (x : ByteArray) (k : Nat) (a b : Int) (c t : ByteArray) (hx : x.size ≤ 100) (hc : c.size ≤ 1048576) (ht : strconv_Itoa.f (mx 0 b) = some t) (hts : t.size ≤ 20) :
    impl_OpText.l0v x (ft k) 0 a b c = some (opT x (B (decText b)) t c k) := by
  have hd := dec_sz b
  have c100 : ((100 : Nat) : Int) = 100 := rfl
  have c110 : ((110 : Nat) : Int) = 110 := rfl
  have c115 : ((115 : Nat) : Int) = 115 := rfl
  have e1 : Utf8.decode (⟨#[100]⟩ : ByteArray) 0 = (100, 1) := by decide
  have e2 : Utf8.decode (⟨#[115]⟩ : ByteArray) 0 = (115, 1) := by decide
  have e3 : Utf8.decode (⟨#[110]⟩ : ByteArray) 0 = (110, 1) := by decide
  have e4 : Utf8.decode (⟨#[110, 115]⟩ : ByteArray) 0 = (110, 1) := by decide
  have e5 : Utf8.decode (⟨#[110, 115]⟩ : ByteArray) 1 = (115, 1) := by decide
  have z1 : ∀ (y : ByteArray) (u : UInt8), impl_OpText.l0v y (⟨#[u]⟩ : ByteArray) 1 a b c = some y := fun y u => by rw [impl_OpText.l0v_eq, if_neg (by rw [szc]; simp)]
  have z2 : ∀ (y : ByteArray) (u v : UInt8), impl_OpText.l0v y (⟨#[u, v]⟩ : ByteArray) 2 a b c = some y := fun y u v => by rw [impl_OpText.l0v_eq, if_neg (by rw [szc]; simp)]
  match k with
  | 1 =>
    show impl_OpText.l0v x (⟨#[100]⟩ : ByteArray) 0 a b c = _
    rw [impl_OpText.l0v_eq, if_pos (by decide)]
    simp (disch := ((try simp only [ByteArray.size_append, szc, szn, List.length_cons, List.length_nil]); omega)) only [e1, c100, c110, c115, Int.reduceEq, ↓reduceIte, Nat.reduceAdd, Nat.zero_add, text_impl, ht, Option.bind_some, okS, z1]
    rfl
  | 2 =>
    show impl_OpText.l0v x (⟨#[115]⟩ : ByteArray) 0 a b c = _
    rw [impl_OpText.l0v_eq, if_pos (by decide)]
    simp (disch := ((try simp only [ByteArray.size_append, szc, szn, List.length_cons, List.length_nil]); omega)) only [e2, c100, c110, c115, Int.reduceEq, ↓reduceIte, Nat.reduceAdd, Nat.zero_add, text_impl, ht, Option.bind_some, okS, z1]
    rfl
  | 3 =>
    show impl_OpText.l0v x (⟨#[110]⟩ : ByteArray) 0 a b c = _
    rw [impl_OpText.l0v_eq, if_pos (by decide)]
    simp (disch := ((try simp only [ByteArray.size_append, szc, szn, List.length_cons, List.length_nil]); omega)) only [e3, c100, c110, c115, Int.reduceEq, ↓reduceIte, Nat.reduceAdd, Nat.zero_add, text_impl, ht, Option.bind_some, okS, z1]
    rfl
  | 4 =>
    show impl_OpText.l0v x (⟨#[110, 115]⟩ : ByteArray) 0 a b c = _
    rw [impl_OpText.l0v_eq, if_pos (by decide)]
    simp (disch := ((try simp only [ByteArray.size_append, szc, szn, List.length_cons, List.length_nil]); omega)) only [e4, c100, c110, c115, Int.reduceEq, ↓reduceIte, Nat.reduceAdd, Nat.zero_add, text_impl, ht, Option.bind_some, okS, z2]
    rw [impl_OpText.l0v_eq, if_pos (by decide)]
    simp (disch := ((try simp only [ByteArray.size_append, szc, szn, List.length_cons, List.length_nil]); omega)) only [e5, c100, c110, c115, Int.reduceEq, ↓reduceIte, Nat.reduceAdd, Nat.zero_add, text_impl, ht, Option.bind_some, okS, z2]
    rfl
  | 0 => show impl_OpText.l0v x (⟨#[]⟩ : ByteArray) 0 a b c = _; rw [impl_OpText.l0v_eq, if_neg (by decide)]; rfl
  | n + 5 => show impl_OpText.l0v x (⟨#[]⟩ : ByteArray) 0 a b c = _; rw [impl_OpText.l0v_eq, if_neg (by decide)]; rfl
theorem text_s (a b : Int) (c t : ByteArray) (hc : c.size ≤ 1048576) (ht : spec_l2Digits.fv b = some t) (hts : t.size ≤ 20) :
    spec_OpText.fv a b c = if 1 ≤ a ∧ a ≤ 36 then some (opT (nm a) (B (decText b)) t c (fm a)) else some (⟨#[]⟩ : ByteArray) := by
  have hz := nm_sz a
  have hd := dec_sz b
  have j2t : ∀ x : ByteArray, x.size ≤ 100 → spec_OpText.j2v x true a b c = some (x ++ (((⟨#[32, 60]⟩ : ByteArray) ++ c) ++ (⟨#[62]⟩ : ByteArray))) := fun x hx => by
    rw [spec_OpText.j2v_eq, if_pos rfl, okS (by rw [szc]; simp; omega), okS (by simp only [ByteArray.size_append, szc, List.length_cons, List.length_nil]; omega), okS (by simp only [ByteArray.size_append, szc, List.length_cons, List.length_nil]; omega)]
    simp only [ByteArray.append_assoc]
  have j0t : ∀ x : ByteArray, x.size ≤ 100 → spec_OpText.j0v x a b c = if a = 2 ∨ a = 24 ∨ a = 25 ∨ a = 29 then some (x ++ (((⟨#[32, 60]⟩ : ByteArray) ++ c) ++ (⟨#[62]⟩ : ByteArray))) else some x := fun x hx => by
    rw [spec_OpText.j0v_eq]
    by_cases k2 : a = 2
    · rw [if_pos k2, if_pos (.inl k2), j2t x hx]
    · rw [if_neg k2]
      by_cases k24 : a = 24
      · rw [if_pos k24, if_pos (by omega), j2t x hx]
      · rw [if_neg k24]
        by_cases k25 : a = 25
        · rw [if_pos k25, if_pos (by omega), j2t x hx]
        · rw [if_neg k25]
          by_cases k29 : a = 29
          · rw [beq_iff_eq.2 k29, if_pos (by omega), j2t x hx]
          · rw [beq_eq_false_iff_ne.2 k29, if_neg (by omega), spec_OpText.j2v_eq, if_neg (by simp)]
  have j1t : ∀ (x : ByteArray) (v : Bool), x.size ≤ 20 → spec_OpText.j1v x v a b c = spec_OpText.j0v (if v = true then x ++ ((⟨#[32]⟩ : ByteArray) ++ t) else x) a b c := fun x v hx => by
    rw [spec_OpText.j1v_eq]
    cases v
    · rw [if_neg (by simp), if_neg (by simp)]
    · rw [if_pos rfl, if_pos rfl, okS (by rw [szc]; simp; omega), ht, Option.bind_some, okS (by simp only [ByteArray.size_append, szc, List.length_cons, List.length_nil]; omega), ByteArray.append_assoc]
  rw [spec_OpText.fv_eq]
  unfold nm at *
  have hl := nms_len
  change (some nms).bind _ = _
  generalize nms = L at *
  rw [Option.bind_some, in_s', Option.bind_some]
  by_cases h : 1 ≤ a ∧ a ≤ 36
  · have p0 : 0 ≤ a := by omega
    have p1 : a < (L.length : Int) := by omega
    rw [if_pos (by simpa using h), if_pos h, if_pos p0, if_pos p1]
    generalize rdOf ByteArray.empty L a = x at *
    unfold fm
    by_cases c1 : a = 1
    · rw [if_pos c1, if_pos c1, okS (by rw [szc]; simp; omega), text_spec, Option.bind_some, okS (by simp only [ByteArray.size_append, szc, List.length_cons, List.length_nil]; omega), j0t _ (by simp only [ByteArray.size_append, szc, List.length_cons, List.length_nil]; omega), if_neg (by omega), ByteArray.append_assoc]; rfl
    · rw [if_neg c1, if_neg c1]
      have e : ∀ v : Bool, v = decide ((3 ≤ a ∧ a ≤ 8) ∨ a = 29 ∨ a = 30 ∨ a = 31 ∨ a = 33 ∨ a = 35) → spec_OpText.j1v x v a b c = some (opT x (B (decText b)) t c (if a = 2 ∨ a = 24 ∨ a = 25 then 2 else if a = 29 then 4 else if (3 ≤ a ∧ a ≤ 8) ∨ a = 30 ∨ a = 31 ∨ a = 33 ∨ a = 35 then 3 else 0)) := by
        intro v hv
        rw [j1t x v (by omega)]
        by_cases c2 : a = 2 ∨ a = 24 ∨ a = 25
        · rw [hv, decide_eq_false (by omega), if_neg (by simp), j0t _ (by omega), if_pos (by omega), if_pos c2]; rfl
        · rw [if_neg c2]
          by_cases c29 : a = 29
          · rw [hv, decide_eq_true (by omega), if_pos rfl, j0t _ (by simp only [ByteArray.size_append, szc, List.length_cons, List.length_nil]; omega), if_pos (by omega), if_pos c29]; rfl
          · rw [if_neg c29]
            by_cases c3 : (3 ≤ a ∧ a ≤ 8) ∨ a = 30 ∨ a = 31 ∨ a = 33 ∨ a = 35
            · rw [hv, decide_eq_true (by omega), if_pos rfl, j0t _ (by simp only [ByteArray.size_append, szc, List.length_cons, List.length_nil]; omega), if_neg (by omega), if_pos c3]; rfl
            · rw [hv, decide_eq_false (by omega), if_neg (by simp), j0t _ (by omega), if_neg (by omega), if_neg c3]; rfl
      by_cases k3 : a = 3
      · rw [if_pos k3]; exact e _ (by rw [beq_iff_eq.2 k3]; exact (decide_eq_true (by omega)).symm)
      rw [if_neg k3]
      by_cases k4 : a = 4
      · rw [if_pos k4]; exact e _ (by rw [beq_iff_eq.2 k4]; exact (decide_eq_true (by omega)).symm)
      rw [if_neg k4]
      by_cases k5 : a = 5
      · rw [if_pos k5]; exact e _ (by rw [beq_iff_eq.2 k5]; exact (decide_eq_true (by omega)).symm)
      rw [if_neg k5]
      by_cases k6 : a = 6
      · rw [if_pos k6]; exact e _ (by rw [beq_iff_eq.2 k6]; exact (decide_eq_true (by omega)).symm)
      rw [if_neg k6]
      by_cases k7 : a = 7
      · rw [if_pos k7]; exact e _ (by rw [beq_iff_eq.2 k7]; exact (decide_eq_true (by omega)).symm)
      rw [if_neg k7]
      by_cases k8 : a = 8
      · rw [if_pos k8]; exact e _ (by rw [beq_iff_eq.2 k8]; exact (decide_eq_true (by omega)).symm)
      rw [if_neg k8]
      by_cases k35 : a = 35
      · rw [if_pos k35]; exact e _ (by rw [beq_iff_eq.2 k35]; exact (decide_eq_true (by omega)).symm)
      rw [if_neg k35]
      by_cases k29 : a = 29
      · rw [if_pos k29]; exact e _ (by rw [beq_iff_eq.2 k29]; exact (decide_eq_true (by omega)).symm)
      rw [if_neg k29]
      by_cases k30 : a = 30
      · rw [if_pos k30]; exact e _ (by rw [beq_iff_eq.2 k30]; exact (decide_eq_true (by omega)).symm)
      rw [if_neg k30]
      by_cases k31 : a = 31
      · rw [if_pos k31]; exact e _ (by rw [beq_iff_eq.2 k31]; exact (decide_eq_true (by omega)).symm)
      rw [if_neg k31]
      by_cases k33 : a = 33
      · exact e _ (by rw [beq_iff_eq.2 k33]; exact (decide_eq_true (by omega)).symm)
      · exact e _ (by rw [beq_eq_false_iff_ne.2 k33]; exact (decide_eq_false (by omega)).symm)
  · rw [if_neg (by simpa using h), if_neg h]
theorem optext_both (a b : Int) (c : ByteArray) (hb : b ≤ 9223372036854775807) (hc : c.size ≤ 1048576) : ∃ s, spec_OpText.fv a b c = some s ∧ impl_OpText.fv a b c = some s := by
  obtain ⟨t, t1, t2, t3⟩ := dig_any b hb
  rw [text_s a b c t hc t1 t3, impl_OpText.fv_eq, name_i]
  by_cases h : 1 ≤ a ∧ a ≤ 36
  · rw [if_pos h, if_pos h, Option.bind_some, loop_i (nm a) (fm a) a b c t (by have := nm_sz a; omega) hc t2 t3]
    exact ⟨_, rfl, rfl⟩
  · rw [if_neg h, if_neg h, Option.bind_some]
    refine ⟨_, rfl, ?_⟩
    have := loop_i (⟨#[]⟩ : ByteArray) 0 a b c t (by decide) hc t2 t3
    exact this
/-! ### places that are right have a text -/
theorem op_range (a b : Int) (c : ByteArray) (n v k : Int) (h : spec_l13Op.fv a b c n v k = some true) : 1 ≤ a ∧ a ≤ 36 := by
  apply Classical.byContradiction
  intro hn
  obtain ⟨r, e1, e2⟩ := op_both a b c n v k
  rw [h] at e1
  have hr := Option.some.inj e1
  subst hr
  rw [impl_opRight.fv_eq, op_out a hn, Option.bind_some, if_pos (by rw [B_toList]), impl_opRight.j0v_eq, if_pos rfl] at e2
  cases e2
theorem ops_all_run (x : List S29) (v k : Int) (hl : x.length ≤ 1048576) (d : Nat) : ∀ i : Nat, x.length - i = d → i ≤ x.length → spec_OpsOk.l0v x v k (x.length : Int) i = some true → ∀ (j : Nat) (hj : j < x.length), i ≤ j → 1 ≤ x[j].f0 ∧ x[j].f0 ≤ 36 := by
  induction d with
  | zero => intro i h1 h2 _ j hj hij; omega
  | succ d ih =>
    intro i h1 h2 h j hj hij
    have hi : i < x.length := by omega
    have hw : wrap64 ((i : Int) + 1) = ((i + 1 : Nat) : Int) := by rw [wrap_in (by omega) (by omega)]; omega
    rw [spec_OpsOk.l0v_eq, if_pos (by omega), if_pos (by omega), if_pos (by omega), rdin29 x i hi] at h
    obtain ⟨q, h3, h4⟩ := Option.bind_eq_some_iff.1 h
    cases q
    · rw [if_neg (by simp)] at h4; cases h4
    · rw [if_pos rfl, hw] at h4
      by_cases e : j = i
      · subst e; exact op_range _ _ _ _ _ _ h3
      · exact ih (i + 1) (by omega) (by omega) h4 j hj (by omega)
theorem ops_all (x : List S29) (v k : Int) (hl : x.length ≤ 1048576) (h : spec_OpsOk.fv x v k = some true) (j : Nat) (hj : j < x.length) : 1 ≤ x[j].f0 ∧ x[j].f0 ≤ 36 := by
  rw [spec_OpsOk.fv_eq] at h
  have key : ∀ q : Bool, spec_OpsOk.j0v x v k (x.length : Int) q = some true → spec_OpsOk.l0v x v k (x.length : Int) 0 = some true := by
    intro q hq
    rw [spec_OpsOk.j0v_eq] at hq
    cases q
    · rwa [if_neg (by simp)] at hq
    · rw [if_pos rfl] at hq; cases hq
  obtain ⟨q, _, h⟩ := Option.bind_eq_some_iff.1 h
  have h2 : spec_OpsOk.l0v x v k (x.length : Int) 0 = some true := by
    cases q
    · rw [if_neg (by simp)] at h; exact key _ h
    · rw [if_pos rfl] at h
      split at h
      · split at h
        · exact key _ h
        · cases h
      · cases h
  exact ops_all_run x v k hl x.length 0 (by omega) (by omega) h2 j hj (by omega)
theorem nm_pos (a : Int) (h : 1 ≤ a ∧ a ≤ 36) : 1 ≤ (nm a).size := by
  unfold nm rdOf
  have : ∀ i : Nat, i < 37 → 1 ≤ i → 1 ≤ (nms.getD i ByteArray.empty).size := by decide
  exact this _ (by omega) (by omega)
theorem opT_size (x d t c : ByteArray) (k : Nat) : x.size ≤ (opT x d t c k).size := by
  unfold opT
  split <;> (try simp only [ByteArray.size_append]) <;> omega
theorem optext_pos (a b : Int) (c : ByteArray) (hb : b ≤ 9223372036854775807) (hc : c.size ≤ 1048576) (h : 1 ≤ a ∧ a ≤ 36) : ∃ s, impl_OpText.fv a b c = some s ∧ s.toList ≠ [] := by
  obtain ⟨t, t1, t2, t3⟩ := dig_any b hb
  rw [impl_OpText.fv_eq, name_i, if_pos h, Option.bind_some, loop_i (nm a) (fm a) a b c t (by have := nm_sz a; omega) hc t2 t3]
  refine ⟨_, rfl, fun e => ?_⟩
  have h1 := nm_pos a h
  have h2 := opT_size (nm a) (B (decText b)) t c (fm a)
  have h3 : (opT (nm a) (B (decText b)) t c (fm a)).size = 0 := by
    rw [← B_self (opT (nm a) (B (decText b)) t c (fm a)), B_size, ← Lib.toList_data, e]; rfl
  omega
theorem new_run (l : List Int) (_hl : l.length ≤ 9223372036854775806) (d : Nat) : ∀ (i : Nat) (s : Int), l.length - i = d → i ≤ l.length → ∃ t, spec_l1New.l0v l s (i : Int) = some (l, 0, t) := by
  induction d with
  | zero =>
    intro i s h1 h2
    rw [spec_l1New.l0v_eq, if_neg (by omega)]
    exact ⟨_, rfl⟩
  | succ d ih =>
    intro i s h1 h2
    rw [spec_l1New.l0v_eq, if_pos (by omega)]
    by_cases h : (i : Int) < 4000
    · rw [if_pos h, if_pos (by omega), wrap_in (n := (i : Int) + 1) (by omega) (by omega), show (i : Int) + 1 = ((i + 1 : Nat) : Int) by omega]
      exact ih (i + 1) _ (by omega) (by omega)
    · rw [if_neg h]
      exact ⟨_, rfl⟩
/-! ### draws: each says something, and keeps its place (the row comes along) -/
theorem and255 (x : Int) : 0 ≤ Go.bits .and .i64 x 255 ∧ Go.bits .and .i64 x 255 ≤ 255 := by
  have e : Go.bits .and .i64 x 255 = IntKind.i64.wrap ((BitVec.ofInt 64 x &&& BitVec.ofInt 64 255).toNat : Nat) := rfl
  have h : (BitVec.ofInt 64 x &&& BitVec.ofInt 64 255).toNat ≤ 255 := by
    rw [BitVec.toNat_and]
    exact Nat.and_le_right
  rw [e, IntKind.wrap_i64]
  omega
theorem draw_new (l : List Int) (hl : l.length ≤ 1048576) : ∃ t, spec_l1New.fv l = some (l, 0, t) := by
  rw [spec_l1New.fv_eq]
  exact new_run l (by omega) l.length 0 _ (by omega) (by omega)
def Draws {α : Type} (l : List Int) (o : Option (α × List Int × Int × Int)) (p : α → Prop) : Prop := ∃ r a s, o = some (r, l, a, s) ∧ p r ∧ 0 ≤ a ∧ a ≤ l.length
theorem draw_byte (l : List Int) (hl : l.length ≤ 1048576) (a s : Int) (h0 : 0 ≤ a) (h1 : a ≤ l.length) : Draws l (spec_l1Byte.f l a s) (fun r => 0 ≤ r ∧ r ≤ 255) := by
  unfold spec_l1Byte.f
  by_cases h : a < (l.length : Int)
  · rw [if_pos h, if_pos h0, wrap_in (n := a + 1) (by omega) (by omega)]
    exact ⟨_, _, _, rfl, and255 _, by omega, by omega⟩
  · rw [if_neg h]
    exact ⟨_, _, _, rfl, and255 _, h0, h1⟩
theorem draw_below (l : List Int) (hl : l.length ≤ 1048576) (a s n : Int) (h0 : 0 ≤ a) (h1 : a ≤ l.length) (hn : 0 < n) : Draws l (spec_l1Below.f l a s n) (fun r => 0 ≤ r ∧ r < n) := by
  unfold spec_l1Below.f
  rw [if_neg (by omega)]
  by_cases h : n ≤ 256
  · rw [if_pos h]
    obtain ⟨r, b, t, e, hr, hb0, hb1⟩ := draw_byte l hl a s h0 h1
    rw [e, Option.bind_some, if_pos (by omega)]
    refine ⟨_, _, _, rfl, ?_, hb0, hb1⟩
    simp only []
    rw [Int.tmod_eq_emod_of_nonneg hr.1]
    exact ⟨Int.emod_nonneg _ (by omega), Int.emod_lt_of_pos _ hn⟩
  · rw [if_neg h]
    obtain ⟨r1, b1, t1, e1, hr1, hb1, hb1'⟩ := draw_byte l hl a s h0 h1
    rw [e1, Option.bind_some]
    obtain ⟨r2, b2, t2, e2, hr2, hb2, hb2'⟩ := draw_byte l hl b1 t1 hb1 hb1'
    simp only []
    rw [e2, Option.bind_some]
    obtain ⟨r3, b3, t3, e3, hr3, hb3, hb3'⟩ := draw_byte l hl b2 t2 hb2 hb2'
    simp only []
    rw [e3, Option.bind_some]
    obtain ⟨r4, b4, t4, e4, hr4, hb4, hb4'⟩ := draw_byte l hl b3 t3 hb3 hb3'
    simp only []
    rw [e4, Option.bind_some, if_pos (by omega)]
    refine ⟨_, _, _, rfl, ?_, hb4, hb4'⟩
    simp only []
    rw [wrap_in (n := r1 * 16777216) (by omega) (by omega), wrap_in (n := r2 * 65536) (by omega) (by omega), wrap_in (n := r3 * 256) (by omega) (by omega), wrap_in (n := r1 * 16777216 + r2 * 65536) (by omega) (by omega), wrap_in (n := r1 * 16777216 + r2 * 65536 + r3 * 256) (by omega) (by omega), wrap_in (n := r1 * 16777216 + r2 * 65536 + r3 * 256 + r4) (by omega) (by omega), Int.tmod_eq_emod_of_nonneg (by omega)]
    exact ⟨Int.emod_nonneg _ (by omega), Int.emod_lt_of_pos _ hn⟩
theorem draw_pick (l : List Int) (hl : l.length ≤ 1048576) (a s : Int) (h0 : 0 ≤ a) (h1 : a ≤ l.length) (q : List ByteArray) (hq : 0 < q.length) (hq' : q.length ≤ 1000) (p : ByteArray → Prop) (hp : ∀ x ∈ q, p x) : Draws l (spec_l1Pick.f l a s q) p := by
  unfold spec_l1Pick.f
  obtain ⟨r, b, t, e, hr, hb0, hb1⟩ := draw_below l hl a s (q.length : Int) h0 h1 (by omega)
  rw [e, Option.bind_some]
  simp only []
  rw [if_pos hr.1, if_pos hr.2]
  refine ⟨_, _, _, rfl, hp _ ?_, hb0, hb1⟩
  have hi : r.toNat < q.length := by omega
  have : rdOf ByteArray.empty q r = q[r.toNat] := by unfold rdOf; simp [List.getD, hi]
  rw [this]; exact List.getElem_mem hi
/-! ### the draws: one of seven programs, compiled; one thing of it turned -/
theorem draw_pickint (l : List Int) (hl : l.length ≤ 1048576) (a s : Int) (h0 : 0 ≤ a) (h1 : a ≤ l.length) (q : List Int) (hq : 0 < q.length) (hq' : q.length ≤ 1000) (p : Int → Prop) (hp : ∀ x ∈ q, p x) : Draws l (spec_l1PickInt.f l a s q) p := by
  unfold spec_l1PickInt.f
  obtain ⟨r, b, t, e, hr, hb0, hb1⟩ := draw_below l hl a s (q.length : Int) h0 h1 (by omega)
  rw [e, Option.bind_some]
  simp only []
  rw [if_pos hr.1, if_pos hr.2]
  refine ⟨_, _, _, rfl, hp _ ?_, hb0, hb1⟩
  have hi : r.toNat < q.length := by omega
  have : rdOf (0 : Int) q r = q[r.toNat] := by unfold rdOf; simp [List.getD, hi]
  rw [this]; exact List.getElem_mem hi
def okOp (o : S29) : Prop := o.f1 ≤ 9223372036854775807 ∧ o.f2.size ≤ 1000
def okOps (x : List S29) : Prop := x.length ≤ 2000 ∧ ∀ o ∈ x, okOp o
def chk (x : List S29) : Bool := Nat.ble x.length 2000 && x.all fun o => decide (o.f1 ≤ 9223372036854775807) && Nat.ble o.f2.size 1000
theorem chk_ok (x : List S29) (h : chk x = true) : okOps x := by
  unfold chk at h
  rw [Bool.and_eq_true] at h
  refine ⟨Nat.le_of_ble_eq_true h.1, fun o ho => ?_⟩
  have := List.all_eq_true.1 h.2 o ho
  rw [Bool.and_eq_true] at this
  exact ⟨of_decide_eq_true this.1, Nat.le_of_ble_eq_true this.2⟩
noncomputable def ran (s : ByteArray) : Bool := match spec_Parse.fv s with
  | some r => match spec_Compile.fv r.1 with
    | some c => chk c.2.2.2.1
    | none => false
  | none => false
theorem ran_ok (s : ByteArray) (h : ran s = true) : ∃ r c, spec_Parse.fv s = some r ∧ spec_Compile.fv r.1 = some c ∧ okOps c.2.2.2.1 := by
  unfold ran at h
  split at h
  · rename_i r hr
    split at h
    · rename_i c hc
      exact ⟨r, c, hr, hc, chk_ok _ h⟩
    · cases h
  · cases h
noncomputable def allRan (o : Option (List ByteArray)) : Bool := match o with
  | some l => Nat.ble 1 l.length && (Nat.ble l.length 1000 && l.all ran)
  | none => false
set_option maxRecDepth 1000000 in
theorem programs_run : allRan spec_l7Programs.f = true := by kernel_rfl
theorem draw_right (l : List Int) (hl : l.length ≤ 1048576) (a s : Int) (h0 : 0 ≤ a) (h1 : a ≤ l.length) : ∃ x v k b t, spec_l13DrawRight.fv l a s = some (x, v, k, l, b, t) ∧ okOps x ∧ 0 ≤ b ∧ b ≤ l.length := by
  have key : ∃ r b t, spec_l7DrawSource.f l a s = some (r, l, b, t) ∧ ran r = true ∧ 0 ≤ b ∧ b ≤ l.length := by
    have h := programs_run
    unfold allRan at h
    split at h
    · rename_i q hq
      rw [Bool.and_eq_true, Bool.and_eq_true] at h
      obtain ⟨k1, k2, k3⟩ := h
      unfold spec_l7DrawSource.f
      rw [hq, Option.bind_some]
      obtain ⟨r, b, t, e, hr, hb0, hb1⟩ := draw_pick l hl a s h0 h1 q (Nat.le_of_ble_eq_true k1) (Nat.le_of_ble_eq_true k2) (fun s => ran s = true) (fun x hx => List.all_eq_true.1 k3 x hx)
      rw [e, Option.bind_some]
      exact ⟨r, b, t, rfl, hr, hb0, hb1⟩
    · cases h
  obtain ⟨r, b, t, e, hr, hb0, hb1⟩ := key
  obtain ⟨p, c, e1, e2, h⟩ := ran_ok r hr
  have h3 := h.1
  refine ⟨c.2.2.2.1, (c.1.length : Int), (c.2.1.length : Int), b, t, ?_, h, hb0, hb1⟩
  rw [spec_l13DrawRight.fv_eq, spec_l8DrawRight.fv_eq, e, Option.bind_some]
  simp only []
  rw [e1, Option.bind_some, Option.bind_some]
  simp only []
  rw [e2, Option.bind_some, if_pos (by simp only [List.length_nil]; omega), List.nil_append]
theorem ok_set (x : List S29) (h : okOps x) (i : Nat) (o : S29) (ho : okOp o) : okOps (x.set i o) := by
  refine ⟨by rw [List.length_set]; exact h.1, fun y hy => ?_⟩
  rcases List.mem_or_eq_of_mem_set hy with h1 | h1
  · exact h.2 y h1
  · rw [h1]; exact ho
theorem ok_rd (x : List S29) (h : okOps x) (i : Int) : okOp (rd_T29 x i) := by
  unfold rd_T29 List.getD
  cases e : x[i.toNat]? with
  | none => exact ⟨by decide, by decide⟩
  | some y => exact h.2 y (List.mem_iff_getElem?.2 ⟨_, e⟩)
theorem draw_ops (l : List Int) (hl : l.length ≤ 1048576) (a s : Int) (h0 : 0 ≤ a) (h1 : a ≤ l.length) : ∃ x v k b t, spec_l13Draw.fv l a s = some (x, v, k, l, b, t) ∧ okOps x ∧ 0 ≤ b ∧ b ≤ l.length := by
  obtain ⟨x, v, k, b, t, e, hx, hb0, hb1⟩ := draw_right l hl a s h0 h1
  have hxl := hx.1
  rw [spec_l13Draw.fv_eq, e, Option.bind_some]
  simp only []
  by_cases hz : (x.length : Int) = 0
  · rw [if_pos hz]; exact ⟨_, _, _, _, _, rfl, hx, hb0, hb1⟩
  rw [if_neg hz]
  obtain ⟨r1, b1, t1, e1, hr1, hc0, hc1⟩ := draw_below l hl b t (x.length : Int) hb0 hb1 (by omega)
  rw [e1, Option.bind_some]
  simp only []
  obtain ⟨r2, b2, t2, e2, hr2, hd0, hd1⟩ := draw_below l hl b1 t1 12 hc0 hc1 (by omega)
  rw [e2, Option.bind_some]
  simp only []
  have ho := ok_rd x hx r1
  by_cases q0 : r2 = 0
  · rw [if_pos q0]
    obtain ⟨r3, b3, t3, e3, hr3, hf0, hf1⟩ := draw_below l hl b2 t2 39 hd0 hd1 (by omega)
    rw [e3, Option.bind_some]
    simp only []
    rw [if_pos hr1.1, if_pos hr1.2, Option.bind_some]
    exact ⟨_, _, _, _, _, rfl, ok_set x hx _ _ ho, hf0, hf1⟩
  rw [if_neg q0]
  by_cases q1 : r2 = 1
  · rw [if_pos q1]
    obtain ⟨r3, b3, t3, e3, hr3, hf0, hf1⟩ := draw_pickint l hl b2 t2 hd0 hd1 ([(-1), 0, 1, 2, 3, 99, 1500] : List Int) (by decide) (by decide) (fun x => x ≤ 9223372036854775807) (by
      intro x hx
      simp only [List.mem_cons, List.not_mem_nil, or_false] at hx
      omega)
    rw [e3, Option.bind_some]
    simp only []
    rw [if_pos hr1.1, if_pos hr1.2]
    exact ⟨_, _, _, _, _, rfl, ok_set x hx _ _ ⟨hr3, ho.2⟩, hf0, hf1⟩
  rw [if_neg q1]
  by_cases q2 : r2 = 2
  · rw [if_pos q2]
    obtain ⟨r3, b3, t3, e3, hr3, hf0, hf1⟩ := draw_pick l hl b2 t2 hd0 hd1 ([(⟨#[]⟩ : ByteArray), (⟨#[97, 40]⟩ : ByteArray), (⟨#[98, 43]⟩ : ByteArray), (⟨#[108, 101, 110, 103, 116, 104]⟩ : ByteArray)] : List ByteArray) (by decide) (by decide) (fun x => x.size ≤ 1000) (by
      simp only [List.forall_mem_cons, List.not_mem_nil, false_implies, implies_true, and_true]
      decide)
    rw [e3, Option.bind_some]
    simp only []
    rw [if_pos hr1.1, if_pos hr1.2]
    exact ⟨_, _, _, _, _, rfl, ok_set x hx _ _ ⟨ho.1, hr3⟩, hf0, hf1⟩
  rw [if_neg q2]
  by_cases q3 : r2 = 3
  · rw [if_pos q3, wrap_in (by omega) (by omega), if_pos (by omega), if_pos (by omega)]
    exact ⟨_, _, _, _, _, rfl, ⟨by rw [List.length_take]; omega, fun o h => hx.2 o (List.mem_of_mem_take h)⟩, hd0, hd1⟩
  rw [if_neg q3]
  by_cases q4 : r2 = 4
  · rw [if_pos q4]
    obtain ⟨r3, b3, t3, e3, hr3, hf0, hf1⟩ := draw_below l hl b2 t2 5 hd0 hd1 (by omega)
    rw [e3, Option.bind_some]
    exact ⟨_, _, _, _, _, rfl, hx, hf0, hf1⟩
  rw [if_neg q4]
  by_cases q5 : r2 = 5
  · rw [if_pos q5]
    obtain ⟨r3, b3, t3, e3, hr3, hf0, hf1⟩ := draw_below l hl b2 t2 4 hd0 hd1 (by omega)
    rw [e3, Option.bind_some]
    exact ⟨_, _, _, _, _, rfl, hx, hf0, hf1⟩
  rw [if_neg q5]
  exact ⟨_, _, _, _, _, rfl, hx, hd0, hd1⟩
theorem draw_opsok (l : List Int) (hl : l.length ≤ 1048576) : ∃ x v k, spec_DrawOpsOk.fv l = some (x, v, k) ∧ okOps x := by
  obtain ⟨t, e⟩ := draw_new l hl
  obtain ⟨x, v, k, b, t2, e2, hx, _⟩ := draw_ops l hl 0 t (by omega) (by omega)
  rw [spec_DrawOpsOk.fv_eq, e, Option.bind_some]
  simp only []
  rw [e2, Option.bind_some]
  exact ⟨x, v, k, rfl, hx⟩
theorem draw_optext (l : List Int) (hl : l.length ≤ 1048576) : ∃ a b c, spec_DrawOpText.fv l = some (a, b, c) ∧ b ≤ 9223372036854775807 ∧ c.size ≤ 1000 := by
  obtain ⟨t, e⟩ := draw_new l hl
  obtain ⟨x, v, k, b, t2, e2, hx, hb0, hb1⟩ := draw_ops l hl 0 t (by omega) (by omega)
  rw [spec_DrawOpText.fv_eq, e, Option.bind_some]
  simp only []
  rw [e2, Option.bind_some]
  simp only []
  by_cases hz : (x.length : Int) = 0
  · rw [if_pos hz]; exact ⟨_, _, _, rfl, by decide, by decide⟩
  rw [if_neg hz]
  obtain ⟨r1, b1, t1, e1, hr1, hc0, hc1⟩ := draw_below l hl b t2 (x.length : Int) hb0 hb1 (by omega)
  rw [e1, Option.bind_some]
  simp only []
  rw [if_pos hr1.1, if_pos hr1.2]
  exact ⟨_, _, _, rfl, ok_rd x hx r1⟩
/-! ### the law -/
theorem law_loop (x : List S29) (v k : Int) (hx : okOps x) (hr : spec_OpsOk.fv x v k = some true) (d : Nat) : ∀ i : Nat, x.length - i = d → i ≤ x.length → laws_FnOps.l0v x true i = some true := by
  have hl := hx.1
  induction d with
  | zero =>
    intro i h1 h2
    rw [laws_FnOps.l0v_eq, if_neg (by omega), laws_FnOps.j3v_eq, if_neg (by decide)]
  | succ d ih =>
    intro i h1 h2
    have hi : i < x.length := by omega
    rw [laws_FnOps.l0v_eq, if_pos (by omega), laws_FnOps.j3v_eq, if_pos rfl, laws_FnOps.j2v_eq, if_pos (by omega), if_pos (by omega), rdin29 x i hi]
    obtain ⟨h3, h4⟩ := hx.2 x[i] (List.getElem_mem hi)
    obtain ⟨s, e1, e2⟩ := optext_pos x[i].f0 x[i].f1 x[i].f2 h3 (by omega) (ops_all x v k (by omega) hr i hi)
    rw [e1, Option.bind_some, if_neg e2, wrap_in (by omega) (by omega), show (i : Int) + 1 = ((i + 1 : Nat) : Int) by omega]
    exact ih (i + 1) (by omega) (by omega)
end FnOpsAid
open FnOpsAid
theorem FnOps : laws_FnOps.Pure := by
  intro l hl
  rw [laws_FnOps.fv_eq]
  unfold laws_big.f
  rw [Option.bind_some]
  by_cases hb : (l.length : Int) > 1048576
  · rw [if_pos (by simpa using hb)]
  rw [if_neg (by simpa using hb)]
  obtain ⟨x, v, k, e1, hx⟩ := draw_opsok l (by omega)
  obtain ⟨a, b, c, e2, hb1, hc1⟩ := draw_optext l (by omega)
  have hxl := hx.1
  obtain ⟨r, e3, e4⟩ := ops_both x v k (by omega)
  obtain ⟨s, e5, e6⟩ := optext_both a b c hb1 (by omega)
  rw [e1, Option.bind_some]
  simp only []
  rw [e4, Option.bind_some, e2, Option.bind_some, e3, Option.bind_some, if_pos rfl]
  simp only []
  rw [e6, Option.bind_some, e5, Option.bind_some, laws_FnOps.j1v_eq, if_neg (by simp), laws_FnOps.j0v_eq]
  cases r
  · rw [laws_FnOps.l0v_eq]
    split <;> rw [laws_FnOps.j3v_eq, if_neg (by decide)]
  · exact law_loop x v k hx e3 x.length 0 (by omega) (by omega)
end Go.Proofs.YtchhkbkbbglgbaaGreatDoor.Pure
