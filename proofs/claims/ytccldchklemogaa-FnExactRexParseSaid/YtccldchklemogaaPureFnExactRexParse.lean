/- The program's RexParse answers as the reference's, for all arguments. -/
import Derived.Test.YtccldchklemogaaFFnExactRexParse
import Derived.Test.YtccldchklemogaaBulk
set_option linter.unusedVariables false
set_option linter.unusedSimpArgs false
namespace Go.Proofs.Ytccldchklemogaa.Pure
open Go.RowKit Go.Proofs.Ytccldchklemogaa.QFnExactRexParse Go.Proofs.YtccldchklemogaaW.PrintWords Go.Proofs.YtccldchklemogaaW.PrintLast Go.Proofs.YtccldchklemogaaW.PrintMore Go.Proofs.YtccldchklemogaaW.Lims
open Go.Proofs.YtccldchklemogaaW.Bulk
namespace FnExactRexParseAid

/-! ### texts as rows of bytes -/
def B (l : List UInt8) : ByteArray := ⟨l.toArray⟩
theorem B_self (s : ByteArray) : B s.data.toList = s := by cases s; simp [B]
theorem B_size (l : List UInt8) : (B l).size = l.length := by show l.toArray.size = l.length; simp
theorem B_data (l : List UInt8) : (B l).data.toList = l := by simp [B]
theorem B_append (a b : List UInt8) : B a ++ B b = B (a ++ b) := by
  apply ByteArray.ext
  rw [ByteArray.data_append]
  simp [B]
theorem B_inj {a b : List UInt8} (h : B a = B b) : a = b := by
  have := congrArg (fun s : ByteArray => s.data.toList) h
  simpa [B] using this
theorem B_extract (l : List UInt8) (i j : Nat) : (B l).extract i j = B ((l.drop i).take (j - i)) := by rw [Lib.extract_eq, B_data]; rfl
theorem B_toList (l : List UInt8) : (B l).toList = l := by rw [Lib.toList_data, B_data]
theorem B_bt (l : List UInt8) (i : Nat) (h : i < l.length) : bt (B l) (i : Int) = (l[i].toNat : Int) := by
  have h' : (i : Int).toNat < (B l).size := by rw [Int.toNat_natCast, B_size]; exact h
  rw [← bt_at (B l) i h']
  rfl
theorem wrap_in {n : Int} (h0 : -9223372036854775808 ≤ n) (h1 : n ≤ 9223372036854775807) : wrap64 n = n := by unfold wrap64; omega
theorem byte_is (b c : UInt8) (n : Int) (hc : (c.toNat : Int) = n) : ((b.toNat : Int) = n) ↔ b = c := by
  rw [← UInt8.toNat_inj, ← hc]; omega
theorem byte_ofNat (n : Nat) (h : n < 256) : (UInt8.ofNat n).toNat = n := by rw [UInt8.toNat_ofNat']; omega

/-! ### two readers of patterns: what both see -/
theorem next_nil (b : Bool) : impl_rexReader_next.f (B []) b = some (0, false, B [], b) := by
  unfold impl_rexReader_next.f
  rw [B_toList, if_pos rfl]
theorem next_bad (l : List UInt8) : impl_rexReader_next.f (B l) true = some (0, false, B l, true) := by
  unfold impl_rexReader_next.f
  split
  · rfl
  · rw [if_pos rfl]
theorem next_cons (c : UInt8) (l : List UInt8) : impl_rexReader_next.f (B (c :: l)) false = some ((c.toNat : Int), true, B (c :: l), false) := by
  unfold impl_rexReader_next.f
  have e : bt (B (c :: l)) ((0 : Nat) : Int) = (c.toNat : Int) := B_bt _ 0 (by simp)
  rw [B_toList, if_neg (by simp), if_neg (by decide), if_pos (by rw [B_size, List.length_cons]; omega)]
  rw [show ((0 : Nat) : Int) = 0 from rfl] at e
  rw [e]
theorem rest_of (c : UInt8) (l : List UInt8) : (B (c :: l)).extract 1 (B (c :: l)).size = B l := by rw [B_extract, B_size]; simp
theorem one_in (c : UInt8) (l : List UInt8) : 1 ≤ ((B (c :: l)).size : Int) := by rw [B_size, List.length_cons]; omega
theorem take_nil (b : Bool) (ch : Int) : impl_rexReader_take.f (B []) b ch = some (false, B [], b) := by
  unfold impl_rexReader_take.f
  rw [next_nil, Option.bind_some, if_neg (by simp)]
theorem take_bad (l : List UInt8) (ch : Int) : impl_rexReader_take.f (B l) true ch = some (false, B l, true) := by
  unfold impl_rexReader_take.f
  rw [next_bad, Option.bind_some, if_neg (by simp)]
theorem take_hit (c : UInt8) (l : List UInt8) (ch : Int) (h : (c.toNat : Int) = ch) : impl_rexReader_take.f (B (c :: l)) false ch = some (true, B l, false) := by
  unfold impl_rexReader_take.f
  rw [next_cons, Option.bind_some, if_pos rfl, if_pos h, if_pos (one_in c l), rest_of]
theorem take_miss (c : UInt8) (l : List UInt8) (ch : Int) (h : ¬ (c.toNat : Int) = ch) : impl_rexReader_take.f (B (c :: l)) false ch = some (false, B (c :: l), false) := by
  unfold impl_rexReader_take.f
  rw [next_cons, Option.bind_some, if_pos rfl, if_neg h]
/-- where a rest of T begins -/
def pl (T l : List UInt8) : Int := ((T.length - l.length : Nat) : Int)
def Ctx (T l : List UInt8) (d : Nat) : Prop := ∃ pre, T = pre ++ l ∧ d ≤ pre.length ∧ T.length ≤ 60
theorem ctx_bt {T l : List UInt8} {c : UInt8} {d : Nat} (h : Ctx T (c :: l) d) : bt (B T) (pl T (c :: l)) = (c.toNat : Int) := by
  obtain ⟨pre, rfl, _, _⟩ := h
  have e : pl (pre ++ c :: l) (c :: l) = ((pre.length : Nat) : Int) := by unfold pl; simp
  rw [e, B_bt _ pre.length (by simp)]
  simp
theorem pl_ge (T l : List UInt8) : 0 ≤ pl T l := by unfold pl; omega
theorem ctx_lt {T l : List UInt8} {c : UInt8} {d : Nat} (h : Ctx T (c :: l) d) : pl T (c :: l) < ((B T).size : Int) := by
  obtain ⟨pre, rfl, _, _⟩ := h
  unfold pl
  rw [B_size, List.length_append, List.length_cons]
  omega
theorem ctx_next {T l : List UInt8} {c : UInt8} {d : Nat} (h : Ctx T (c :: l) d) : wrap64 (pl T (c :: l) + 1) = pl T l := by
  obtain ⟨pre, rfl, _, h3⟩ := h
  unfold pl
  rw [List.length_append, List.length_cons] at h3 ⊢
  rw [wrap_in (by omega) (by omega)]
  omega
theorem pl_nil (T : List UInt8) : pl T [] = (T.length : Int) := by unfold pl; simp
theorem ctx_drop {T l : List UInt8} {d : Nat} (h : Ctx T l d) (k : Nat) : Ctx T (l.drop k) d := by
  obtain ⟨pre, rfl, h2, h3⟩ := h
  exact ⟨pre ++ l.take k, by rw [List.append_assoc, List.take_append_drop], by rw [List.length_append]; omega, h3⟩
theorem ctx_tail {T l : List UInt8} {c : UInt8} {d : Nat} (h : Ctx T (c :: l) d) : Ctx T l d := ctx_drop h 1
theorem ctx_in {T l : List UInt8} {c : UInt8} {d : Nat} (h : Ctx T (c :: l) d) : Ctx T l (d + 1) := by
  obtain ⟨pre, rfl, h2, h3⟩ := h
  exact ⟨pre ++ [c], by simp, by rw [List.length_append, List.length_singleton]; omega, h3⟩
theorem ctx_len {T l : List UInt8} {d : Nat} (h : Ctx T l d) : d + l.length ≤ 60 := by
  obtain ⟨pre, rfl, h2, h3⟩ := h
  rw [List.length_append] at h3
  omega
theorem now_bad (T : List UInt8) (at_ ch : Int) : spec_l3Now.f (B T) at_ true ch = some (false, B T, at_, true) := by
  unfold spec_l3Now.f
  rw [if_pos rfl]
theorem now_end (T : List UInt8) (ch : Int) : spec_l3Now.f (B T) (pl T []) false ch = some (false, B T, pl T [], false) := by
  unfold spec_l3Now.f
  rw [if_neg (by decide), pl_nil, if_neg (by rw [B_size]; omega)]
theorem now_cons {T l : List UInt8} {c : UInt8} {d : Nat} (h : Ctx T (c :: l) d) (ch : Int) : spec_l3Now.f (B T) (pl T (c :: l)) false ch = some (((c.toNat : Int) == ch), B T, pl T (c :: l), false) := by
  unfold spec_l3Now.f
  rw [if_neg (by decide), if_pos (ctx_lt h), if_pos (pl_ge _ _), ctx_bt h]
def IR (o : Option (Int × Int × ByteArray × Bool × List S24 × ByteArray × Bool)) (x : S24) (l : List UInt8) (b : Bool) : Prop := o = some (x.f0, x.f1, x.f2, x.f3, x.f4, B l, b)
def SR (T : List UInt8) (o : Option (Int × Int × ByteArray × Bool × List S24 × ByteArray × Int × Bool)) (x : S24) (a : Int) (b : Bool) : Prop := o = some (x.f0, x.f1, x.f2, x.f3, x.f4, B T, a, b)
/-! ### sets -/
theorem mark_both (n : Nat) : ∀ (has : List Bool) (lo hi : Int), (hi + 1 - lo).toNat = n → 0 ≤ lo → hi ≤ 255 → has.length = 256 → ∃ has' : List Bool, has'.length = 256 ∧
    (∀ x5 x7 S c p q s f, impl_rexReader_set.l1v x5 has x7 hi lo [] S c p q s f = impl_rexReader_set.l0v x5 has' (wrap64 (x7 + 1)) [] S c p q s f) ∧
    (∀ m T a c p q s f, spec_l3Set.l1v has m hi lo T a c p q s f = spec_l3Set.l0v has' (wrap64 (m + 1)) T a c p q s f) := by
  induction n with
  | zero =>
    intro has lo hi h1 h2 h3 h4
    refine ⟨has, h4, fun x5 x7 S c p q s f => ?_, fun m T a c p q s f => ?_⟩
    · rw [impl_rexReader_set.l1v_eq, if_neg (by omega)]
    · rw [spec_l3Set.l1v_eq, if_neg (by omega)]
  | succ n ih =>
    intro has lo hi h1 h2 h3 h4
    obtain ⟨has', e1, e2, e3⟩ := ih (has.set lo.toNat true) (lo + 1) hi (by omega) (by omega) h3 (by rw [List.length_set]; exact h4)
    refine ⟨has', e1, fun x5 x7 S c p q s f => ?_, fun m T a c p q s f => ?_⟩
    · rw [impl_rexReader_set.l1v_eq, if_pos (by omega), if_pos h2, if_pos (by omega), wrap_in (n := lo + 1) (by omega) (by omega)]
      exact e2 x5 x7 S c p q s f
    · rw [spec_l3Set.l1v_eq, if_pos (by omega), if_pos h2, if_pos (by omega), wrap_in (n := lo + 1) (by omega) (by omega)]
      exact e3 m T a c p q s f
theorem out_both (has : List Bool) (hh : has.length = 256) (n : Nat) : ∀ (i : Nat) (out : List Int), 256 - i = n → i ≤ 256 → out.length ≤ i → ∃ out' : List Int,
    (∀ S c p q s f, impl_rexReader_set.l2v out has 256 (i : Int) [] S c p q s f = some (p, q, strOfNums out', f, [], S, c)) ∧
    (∀ T a c p q s f, spec_l3Set.l2v has out (i : Int) T a c p q s f = some (p, q, strOfNums out', f, [], T, a, c)) := by
  induction n with
  | zero =>
    intro i out h1 h2 h3
    refine ⟨out, fun S c p q s f => ?_, fun T a c p q s f => ?_⟩
    · rw [impl_rexReader_set.l2v_eq, if_neg (by omega)]
    · rw [spec_l3Set.l2v_eq, if_neg (by omega)]
  | succ n ih =>
    intro i out h1 h2 h3
    have hw : wrap64 ((i : Int) + 1) = ((i + 1 : Nat) : Int) := by rw [wrap_in (by omega) (by omega)]; omega
    by_cases h : rdOf false has (i : Int) = true
    · obtain ⟨out', e1, e2⟩ := ih (i + 1) (out ++ [(i : Int) % 256]) (by omega) (by omega) (by simp; omega)
      refine ⟨out', fun S c p q s f => ?_, fun T a c p q s f => ?_⟩
      · rw [impl_rexReader_set.l2v_eq, if_pos (by omega), if_pos (by omega), if_pos (by omega), if_pos h, if_pos (by omega), hw]
        exact e1 S c p q s f
      · rw [spec_l3Set.l2v_eq, if_pos (by omega), if_pos (by omega), if_pos (by omega), if_pos h, if_pos (by omega), hw]
        exact e2 T a c p q s f
    · obtain ⟨out', e1, e2⟩ := ih (i + 1) out (by omega) (by omega) (by omega)
      refine ⟨out', fun S c p q s f => ?_, fun T a c p q s f => ?_⟩
      · rw [impl_rexReader_set.l2v_eq, if_pos (by omega), if_pos (by omega), if_pos (by omega), if_neg h, hw]
        exact e1 S c p q s f
      · rw [spec_l3Set.l2v_eq, if_pos (by omega), if_pos (by omega), if_pos (by omega), if_neg h, hw]
        exact e2 T a c p q s f
theorem idx_close (l : List UInt8) : (Lib.indexByte l 93 = -1 ∧ (93 : UInt8) ∉ l) ∨ ∃ a r, l = a ++ 93 :: r ∧ (93 : UInt8) ∉ a ∧ Lib.indexByte l 93 = (a.length : Int) := by
  induction l with
  | nil => exact .inl ⟨rfl, by simp⟩
  | cons b l ih =>
    by_cases h : b = 93
    · subst h
      exact .inr ⟨[], l, rfl, by simp, by simp [Lib.indexByte]⟩
    · have hb : (b == 93) = false := by simpa using h
      rcases ih with ⟨e, hn⟩ | ⟨a, r, rfl, hn, e⟩
      · exact .inl ⟨by rw [Lib.indexByte, hb, e]; rfl, by simp [hn, Ne.symm h]⟩
      · refine .inr ⟨b :: a, r, rfl, by simp [hn, Ne.symm h], ?_⟩
        have hne : ¬ ((a.length : Int) == -1) = true := fun z => by have := beq_iff_eq.1 z; omega
        rw [Lib.indexByte, hb, e, if_neg (by decide), if_neg hne]
        simp

theorem place_body (T pre body rest : List UInt8) (hT : T = pre ++ (body ++ rest)) (j : Nat) (hj : j < body.length) : bt (B T) ((pre.length + j : Nat) : Int) = (body[j].toNat : Int) := by
  have hlen : T.length = pre.length + (body.length + rest.length) := by rw [hT, List.length_append, List.length_append]
  rw [B_bt T (pre.length + j) (by omega)]
  congr 2
  subst hT
  rw [List.getElem_append_right (by omega)]
  simp only [Nat.add_sub_cancel_left]
  rw [List.getElem_append_left hj]
theorem place_end (T pre body r2 : List UInt8) (hT : T = pre ++ (body ++ 93 :: r2)) : bt (B T) ((pre.length + body.length : Nat) : Int) = 93 := by
  have hlen : T.length = pre.length + (body.length + (r2.length + 1)) := by rw [hT, List.length_append, List.length_append, List.length_cons]
  rw [B_bt T (pre.length + body.length) (by omega)]
  subst hT
  rw [List.getElem_append_right (by omega)]
  simp only [Nat.add_sub_cancel_left]
  rw [List.getElem_append_right (by omega)]
  simp
theorem impl_range (body : List UInt8) (h60 : body.length ≤ 60) (i : Nat) (hR1 : i + 2 < body.length) (hR3 : body[i + 1]'(by omega) = 45) (has has1 : List Bool) (c : Bool)
    (g2 : ∀ x5 x7 S c p q s f, impl_rexReader_set.l1v x5 has x7 (body[i + 2].toNat : Int) ((body[i]'(by omega)).toNat : Int) [] S c p q s f = impl_rexReader_set.l0v x5 has1 (wrap64 (x7 + 1)) [] S c p q s f) (S p q s f) :
    impl_rexReader_set.l0v (B body) has (i : Int) [] S c p q s f = impl_rexReader_set.l0v (B body) has1 ((i + 3 : Nat) : Int) [] S (c || decide ((body[i + 2].toNat : Int) < ((body[i]'(by omega)).toNat : Int))) p q s f := by
  have l1 := (body[i]'(by omega)).toNat_lt
  have l2 := body[i + 2].toNat_lt
  have w1 : wrap64 ((i : Int) + 1) = ((i + 1 : Nat) : Int) := by rw [wrap_in (by omega) (by omega)]; omega
  have w2 : wrap64 ((i : Int) + 2) = ((i + 2 : Nat) : Int) := by rw [wrap_in (by omega) (by omega)]; omega
  have w7 : wrap64 (((i + 2 : Nat) : Int) + 1) = ((i + 3 : Nat) : Int) := by rw [wrap_in (by omega) (by omega)]; omega
  have b0 : bt (B body) (i : Int) = ((body[i]'(by omega)).toNat : Int) := B_bt body i (by omega)
  have b1 : bt (B body) ((i + 1 : Nat) : Int) = 45 := by rw [B_bt body (i + 1) (by omega), hR3]; rfl
  have b2 : bt (B body) ((i + 2 : Nat) : Int) = (body[i + 2].toNat : Int) := B_bt body (i + 2) hR1
  generalize body[i]'(by omega) = u at *
  generalize body[i + 2] = v at *
  have wu : wrap64 (u.toNat : Int) = (u.toNat : Int) := wrap_in (by omega) (by omega)
  have wv : wrap64 (v.toNat : Int) = (v.toNat : Int) := wrap_in (by omega) (by omega)
  have hs : ((B body).size : Int) = (body.length : Int) := by rw [B_size]
  have c1 : (i : Int) < (body.length : Int) := by omega
  have c2 : (0 : Int) ≤ (i : Int) := by omega
  have c3 : ((i + 2 : Nat) : Int) < (body.length : Int) := by omega
  have c4 : (0 : Int) ≤ ((i + 1 : Nat) : Int) := by omega
  have c5 : ((i + 1 : Nat) : Int) < (body.length : Int) := by omega
  have c6 : (0 : Int) ≤ ((i + 2 : Nat) : Int) := by omega
  have d45 : ((45 : Int) == 45) = true := rfl
  rw [impl_rexReader_set.l0v_eq]
  simp only [hs, w1, w2, c1, c2, c3, c4, c5, b0, b1, wu, d45, if_true]
  rw [impl_rexReader_set.j1v_eq]
  simp only [hs, w2, c6, c3, b2, wv, if_true]
  cases c
  · simp only [Bool.false_eq_true, if_false, Bool.false_or]
    rw [impl_rexReader_set.j2v_eq, g2, w7]
  · simp only [if_true, Bool.true_or]
    rw [impl_rexReader_set.j2v_eq, g2, w7]
theorem impl_byte (body : List UInt8) (h60 : body.length ≤ 60) (i : Nat) (hi : i < body.length) (hR : ∀ h : i + 2 < body.length, ¬ body[i + 1]'(by omega) = 45) (has has1 : List Bool) (c : Bool)
    (g2 : ∀ x5 x7 S c p q s f, impl_rexReader_set.l1v x5 has x7 (body[i].toNat : Int) (body[i].toNat : Int) [] S c p q s f = impl_rexReader_set.l0v x5 has1 (wrap64 (x7 + 1)) [] S c p q s f) (S p q s f) :
    impl_rexReader_set.l0v (B body) has (i : Int) [] S c p q s f = impl_rexReader_set.l0v (B body) has1 ((i + 1 : Nat) : Int) [] S c p q s f := by
  have l1 := body[i].toNat_lt
  have w1 : wrap64 ((i : Int) + 1) = ((i + 1 : Nat) : Int) := by rw [wrap_in (by omega) (by omega)]; omega
  have w2 : wrap64 ((i : Int) + 2) = ((i + 2 : Nat) : Int) := by rw [wrap_in (by omega) (by omega)]; omega
  have b0 : bt (B body) (i : Int) = (body[i].toNat : Int) := B_bt body i hi
  have hs : ((B body).size : Int) = (body.length : Int) := by rw [B_size]
  have c1 : (i : Int) < (body.length : Int) := by omega
  have c2 : (0 : Int) ≤ (i : Int) := by omega
  have wu : wrap64 (body[i].toNat : Int) = (body[i].toNat : Int) := wrap_in (by omega) (by omega)
  have hj : impl_rexReader_set.j1v (B body) has (i : Int) (body[i].toNat : Int) (body[i].toNat : Int) false [] S c p q s f = impl_rexReader_set.l0v (B body) has1 ((i + 1 : Nat) : Int) [] S c p q s f := by
    rw [impl_rexReader_set.j1v_eq]
    simp only [Bool.false_eq_true, if_false]
    rw [impl_rexReader_set.j2v_eq, g2, w1]
  rw [impl_rexReader_set.l0v_eq]
  by_cases h5 : i + 2 < body.length
  · have c3 : ((i + 2 : Nat) : Int) < (body.length : Int) := by omega
    have c4 : (0 : Int) ≤ ((i + 1 : Nat) : Int) := by omega
    have c5 : ((i + 1 : Nat) : Int) < (body.length : Int) := by omega
    have b1 : (bt (B body) ((i + 1 : Nat) : Int) == 45) = false := by
      rw [B_bt body (i + 1) (by omega), beq_eq_false_iff_ne]
      exact fun e => hR h5 ((byte_is _ 45 45 rfl).1 e)
    simp only [hs, w1, w2, c1, c2, c3, c4, c5, b0, b1, wu, if_true, hj]
  · have c3 : ¬ ((i + 2 : Nat) : Int) < (body.length : Int) := by omega
    simp only [hs, w2, c1, c2, c3, b0, wu, if_true, if_false, hj]

theorem wr (a b : Nat) (k : Int) (h : (b : Int) = (a : Int) + k) (hb : b ≤ 1000) : wrap64 ((a : Int) + k) = (b : Int) := by rw [wrap_in (by omega) (by omega)]; omega
theorem wrap_byte (u : UInt8) : wrap64 (u.toNat : Int) = (u.toNat : Int) := by
  have := u.toNat_lt
  exact wrap_in (by omega) (by omega)
theorem not93 (u : UInt8) (hu : u ≠ 93) : ((u.toNat : Int) != 93) = true := by rw [bne_iff_ne]; exact fun e => hu ((byte_is _ 93 93 rfl).1 e)
theorem spec_range (T : List UInt8) (h60 : T.length ≤ 60) (a a1 a2 a3 : Nat) (e1 : a1 = a + 1) (e2 : a2 = a + 2) (e3 : a3 = a + 3) (hN : a2 < T.length) (u v : UInt8) (b0 : bt (B T) (a : Int) = (u.toNat : Int)) (b1 : bt (B T) (a1 : Int) = 45) (b2 : bt (B T) (a2 : Int) = (v.toNat : Int)) (hu : u ≠ 93) (hv : v ≠ 93)
    (has has1 : List Bool) (many : Nat) (hm : many ≤ 100) (c : Bool)
    (g3 : ∀ m T a c p q s f, spec_l3Set.l1v has m (v.toNat : Int) (u.toNat : Int) T a c p q s f = spec_l3Set.l0v has1 (wrap64 (m + 1)) T a c p q s f) (p q s f) :
    spec_l3Set.l0v has (many : Int) (B T) (a : Int) c p q s f = spec_l3Set.l0v has1 ((many + 1 : Nat) : Int) (B T) (a3 : Int) (c || decide ((v.toNat : Int) < (u.toNat : Int))) p q s f := by
  have c1 : (a : Int) < (T.length : Int) := by clear b0 b1 b2; omega
  have c2 : (0 : Int) ≤ (a : Int) := by clear b0 b1 b2; omega
  have c3 : (a2 : Int) < (T.length : Int) := by clear b0 b1 b2; omega
  have c4 : (0 : Int) ≤ (a1 : Int) := by clear b0 b1 b2; omega
  have c5 : (a1 : Int) < (T.length : Int) := by clear b0 b1 b2; omega
  have c6 : (0 : Int) ≤ (a2 : Int) := by clear b0 b1 b2; omega
  have w3 : wrap64 ((a : Int) + 1) = (a1 : Int) := wr a a1 1 (by clear b0 b1 b2; omega) (by clear b0 b1 b2; omega)
  have w4 : wrap64 ((a1 : Int) + 1) = (a2 : Int) := wr a1 a2 1 (by clear b0 b1 b2 w3; omega) (by clear b0 b1 b2 w3; omega)
  have w5 : wrap64 ((a1 : Int) + 2) = (a3 : Int) := wr a1 a3 2 (by clear b0 b1 b2 w3 w4; omega) (by clear b0 b1 b2 w3 w4; omega)
  have w6 : wrap64 ((many : Int) + 1) = ((many + 1 : Nat) : Int) := wr many (many + 1) 1 (by clear b0 b1 b2 w3 w4 w5; omega) (by clear b0 b1 b2 w3 w4 w5; omega)
  clear e1 e2 e3 hN hm
  have wu : wrap64 (u.toNat : Int) = (u.toNat : Int) := wrap_byte u
  have wv : wrap64 (v.toNat : Int) = (v.toNat : Int) := wrap_byte v
  have du : ((u.toNat : Int) != 93) = true := not93 u hu
  have dv : ((v.toNat : Int) != 93) = true := not93 v hv
  have hs : ((B T).size : Int) = (T.length : Int) := by rw [B_size]
  rw [spec_l3Set.l0v_eq]
  simp only [hs, c1, c2, b0, du, if_true]
  rw [spec_l3Set.j2v_eq]
  simp only [hs, c1, c2, w3, w4, c3, c4, c5, c6, b0, b1, b2, dv, wu, if_true]
  rw [spec_l3Set.j3v_eq]
  simp only [hs, w4, c3, c6, b2, wv, w5, if_true]
  rw [spec_l3Set.j4v_eq]
  by_cases hlh : (v.toNat : Int) < (u.toNat : Int)
  · simp only [hlh, if_true, decide_true, Bool.or_true]
    rw [spec_l3Set.j5v_eq, g3, w6]
  · simp only [hlh, if_false, decide_false, Bool.or_false]
    rw [spec_l3Set.j5v_eq, g3, w6]
theorem spec_byte (T : List UInt8) (h60 : T.length ≤ 60) (P i : Nat) (hN : P + i < T.length) (u : UInt8) (b0 : bt (B T) ((P + i : Nat) : Int) = (u.toNat : Int)) (hu : u ≠ 93)
    (hR : P + (i + 2) < T.length → bt (B T) ((P + (i + 1) : Nat) : Int) = 45 → bt (B T) ((P + (i + 2) : Nat) : Int) = 93)
    (has has1 : List Bool) (many : Nat) (hm : many ≤ 100) (c : Bool)
    (g3 : ∀ m T a c p q s f, spec_l3Set.l1v has m (u.toNat : Int) (u.toNat : Int) T a c p q s f = spec_l3Set.l0v has1 (wrap64 (m + 1)) T a c p q s f) (p q s f) :
    spec_l3Set.l0v has (many : Int) (B T) ((P + i : Nat) : Int) c p q s f = spec_l3Set.l0v has1 ((many + 1 : Nat) : Int) (B T) ((P + (i + 1) : Nat) : Int) c p q s f := by
  have l1 := u.toNat_lt
  have w3 : wrap64 (((P + i : Nat) : Int) + 1) = ((P + (i + 1) : Nat) : Int) := by
    have e_ : ((P + i : Nat) : Int) + 1 = ((P + (i + 1) : Nat) : Int) := by omega
    rw [e_]
    exact wrap_in (by omega) (by omega)
  have w4 : wrap64 (((P + (i + 1) : Nat) : Int) + 1) = ((P + (i + 2) : Nat) : Int) := by
    have e_ : ((P + (i + 1) : Nat) : Int) + 1 = ((P + (i + 2) : Nat) : Int) := by omega
    rw [e_]
    exact wrap_in (by omega) (by omega)
  have w6 : wrap64 ((many : Int) + 1) = ((many + 1 : Nat) : Int) := by rw [wrap_in (by omega) (by omega)]; omega
  have wu : wrap64 (u.toNat : Int) = (u.toNat : Int) := wrap_in (by omega) (by omega)
  have du : ((u.toNat : Int) != 93) = true := by rw [bne_iff_ne]; exact fun e => hu ((byte_is _ 93 93 rfl).1 e)
  have hs : ((B T).size : Int) = (T.length : Int) := by rw [B_size]
  have c1 : ((P + i : Nat) : Int) < (T.length : Int) := by omega
  have c2 : (0 : Int) ≤ ((P + i : Nat) : Int) := by omega
  have c0 : ¬ (u.toNat : Int) < (u.toNat : Int) := by omega
  have hj : spec_l3Set.j3v has (many : Int) (u.toNat : Int) (u.toNat : Int) false (B T) ((P + (i + 1) : Nat) : Int) c p q s f = spec_l3Set.l0v has1 ((many + 1 : Nat) : Int) (B T) ((P + (i + 1) : Nat) : Int) c p q s f := by
    rw [spec_l3Set.j3v_eq]
    simp only [Bool.false_eq_true, if_false]
    rw [spec_l3Set.j4v_eq, if_neg c0, spec_l3Set.j5v_eq, g3, w6]
  rw [spec_l3Set.l0v_eq]
  simp only [hs, c1, c2, b0, du, if_true]
  rw [spec_l3Set.j2v_eq]
  by_cases h5 : P + (i + 2) < T.length
  · have c3 : ((P + (i + 2) : Nat) : Int) < (T.length : Int) := by omega
    have c4 : (0 : Int) ≤ ((P + (i + 1) : Nat) : Int) := by omega
    have c5 : ((P + (i + 1) : Nat) : Int) < (T.length : Int) := by omega
    have c6 : (0 : Int) ≤ ((P + (i + 2) : Nat) : Int) := by omega
    by_cases h7 : bt (B T) ((P + (i + 1) : Nat) : Int) = 45
    · have h8 : ((93 : Int) != 93) = false := rfl
      simp only [hs, c1, c2, w3, w4, c3, c4, c5, c6, b0, h7, hR h5 h7, h8, wu, if_true, hj]
    · simp only [hs, c1, c2, w3, w4, c3, c4, c5, b0, h7, wu, if_true, if_false, hj]
  · have c3 : ¬ ((P + (i + 2) : Nat) : Int) < (T.length : Int) := by omega
    simp only [hs, c1, c2, w3, w4, c3, b0, wu, if_true, if_false, hj]
theorem spec_last (T pre body rest : List UInt8) (hT : T = pre ++ (body ++ rest)) (hr : rest = [] ∨ ∃ r2, rest = 93 :: r2) (has : List Bool) (m : Int) (c : Bool) (p q s f) :
    spec_l3Set.l0v has m (B T) ((pre.length + body.length : Nat) : Int) c p q s f = spec_l3Set.j2v has m false (B T) ((pre.length + body.length : Nat) : Int) c p q s f := by
  have hlen : T.length = pre.length + (body.length + rest.length) := by rw [hT, List.length_append, List.length_append]
  rw [spec_l3Set.l0v_eq]
  rcases hr with e | ⟨r2, e⟩
  · rw [if_neg (by rw [B_size, hlen, e, List.length_nil]; omega)]
  · rw [if_pos (by rw [B_size, hlen, e, List.length_cons]; omega), if_pos (by omega), place_end T pre body r2 (by rw [hT, e])]
    rfl
theorem set_run (T pre body rest : List UInt8) (hT : T = pre ++ (body ++ rest)) (h60 : T.length ≤ 60) (hb : (93 : UInt8) ∉ body) (hr : rest = [] ∨ ∃ r2, rest = 93 :: r2) (n : Nat) : ∀ (i many : Nat) (has : List Bool) (c : Bool), body.length - i ≤ n → i ≤ body.length → has.length = 256 → many ≤ i → (0 < i → 0 < many) →
    ∃ (has' : List Bool) (m' : Nat) (c' : Bool), has'.length = 256 ∧ m' ≤ body.length ∧ (0 < body.length → 0 < m') ∧
      (∀ S p q s f, impl_rexReader_set.l0v (B body) has (i : Int) [] S c p q s f = impl_rexReader_set.l2v [] has' 256 0 [] S c' p q s f) ∧
      (∀ p q s f, spec_l3Set.l0v has (many : Int) (B T) ((pre.length + i : Nat) : Int) c p q s f = spec_l3Set.j2v has' (m' : Int) false (B T) ((pre.length + body.length : Nat) : Int) c' p q s f) := by
  have hlen : T.length = pre.length + (body.length + rest.length) := by rw [hT, List.length_append, List.length_append]
  have hp := place_body T pre body rest hT
  induction n with
  | zero =>
    intro i many has c h0 h1 h2 h3 h4
    obtain rfl : i = body.length := by omega
    refine ⟨has, many, c, h2, h3, h4, fun S p q s f => ?_, fun p q s f => spec_last T pre body rest hT hr has _ c p q s f⟩
    rw [impl_rexReader_set.l0v_eq, if_neg (by rw [B_size]; omega), h2]
    rfl
  | succ n ih =>
    intro i many has c h0 h1 h2 h3 h4
    by_cases hi : i < body.length
    · have hne : body[i] ≠ 93 := fun e => hb (e ▸ List.getElem_mem hi)
      have hl := body[i].toNat_lt
      by_cases hR : ∃ h : i + 2 < body.length, body[i + 1]'(by omega) = 45
      · obtain ⟨hR1, hR3⟩ := hR
        have hne2 : body[i + 2] ≠ 93 := fun e => hb (e ▸ List.getElem_mem hR1)
        have hl2 := body[i + 2].toNat_lt
        obtain ⟨has1, g1, g2, g3⟩ := mark_both _ has (body[i].toNat : Int) (body[i + 2].toNat : Int) rfl (by omega) (by omega) h2
        obtain ⟨has', m', c', k1, k2, k3, k4, k5⟩ := ih (i + 3) (many + 1) has1 (c || decide ((body[i + 2].toNat : Int) < (body[i].toNat : Int))) (by omega) (by omega) g1 (by omega) (by omega)
        refine ⟨has', m', c', k1, k2, k3, fun S p q s f => ?_, fun p q s f => ?_⟩
        · rw [impl_range body (by omega) i hR1 hR3 has has1 c g2, k4]
        · rw [spec_range T h60 (pre.length + i) (pre.length + (i + 1)) (pre.length + (i + 2)) (pre.length + (i + 3)) (by omega) (by omega) (by omega) (by omega) body[i] body[i + 2] (hp i hi) (by rw [hp (i + 1) (by omega), hR3]; rfl) (hp (i + 2) hR1) hne hne2 has has1 many (by omega) c g3, k5]
      · obtain ⟨has1, g1, g2, g3⟩ := mark_both _ has (body[i].toNat : Int) (body[i].toNat : Int) rfl (by omega) (by omega) h2
        obtain ⟨has', m', c', k1, k2, k3, k4, k5⟩ := ih (i + 1) (many + 1) has1 c (by omega) (by omega) g1 (by omega) (by omega)
        refine ⟨has', m', c', k1, k2, k3, fun S p q s f => ?_, fun p q s f => ?_⟩
        · rw [impl_byte body (by omega) i hi (fun h e => hR ⟨h, e⟩) has has1 c g2, k4]
        · rw [spec_byte T h60 pre.length i (by omega) body[i] (hp i hi) hne (fun h5 h7 => ?_) has has1 many (by omega) c g3, k5]
          by_cases h9 : i + 1 < body.length
          · have h10 : body[i + 1] = 45 := by
              rw [hp (i + 1) h9] at h7
              exact (byte_is _ 45 45 rfl).1 h7
            have h11 : i + 2 = body.length := by
              by_cases h12 : i + 2 < body.length
              · exact absurd ⟨h12, h10⟩ hR
              · omega
            rcases hr with e | ⟨r2, e⟩
            · rw [e, List.length_nil] at hlen; omega
            · rw [h11, place_end T pre body r2 (by rw [hT, e])]
          · exfalso
            have h11 : i + 1 = body.length := by omega
            rcases hr with e | ⟨r2, e⟩
            · rw [e, List.length_nil] at hlen; omega
            · rw [h11, place_end T pre body r2 (by rw [hT, e])] at h7
              omega
    · exact ih i many has c (by omega) h1 h2 h3 h4

/-! ### both readers' answers -/
/-- both ask alike how deep a tree is -/
def RGood (x : S24) : Prop := ∃ v, spec_l3Deep.fv x.f0 x.f1 x.f2 x.f3 x.f4 = some v ∧ impl_rexDeep.fv x.f0 x.f1 x.f2 x.f3 x.f4 = some v
theorem max_both (a b : Int) : spec_l1Max.f a b = some (mx a b) := by
  unfold spec_l1Max.f mx
  by_cases h : a > b
  · rw [if_pos h]
    split <;> first | rfl | (congr 1; omega)
  · rw [if_neg h]
    split <;> first | rfl | (congr 1; omega)
theorem rdeep_loop (xs : List S24) (hl : xs.length ≤ 1000) (hg : ∀ x ∈ xs, RGood x) (n : Nat) : ∀ (i : Nat) (m : Int), xs.length - i = n → ∃ v, (∀ a b c e, spec_l3Deep.l0v m (i : Int) a b c e xs = some v) ∧ impl_rexDeep.l0v m xs (xs.length : Int) (i : Int) = some v := by
  induction n with
  | zero =>
    intro i m h
    refine ⟨wrap64 (m + 1), fun a b c e => ?_, ?_⟩
    · rw [spec_l3Deep.l0v_eq, if_neg (by omega)]
    · rw [impl_rexDeep.l0v_eq, if_neg (by omega)]
  | succ n ih =>
    intro i m h
    have hi : i < xs.length := by omega
    have hw : wrap64 ((i : Int) + 1) = ((i + 1 : Nat) : Int) := wr i (i + 1) 1 (by omega) (by omega)
    obtain ⟨v, e1, e2⟩ := hg _ (List.getElem_mem hi)
    have hrd : rd_T24 xs (i : Int) = xs[i] := by
      unfold rd_T24
      simp [List.getD, List.getElem?_eq_getElem hi]
    obtain ⟨u, k1, k2⟩ := ih (i + 1) (mx m v) (by omega)
    refine ⟨u, fun a b c e => ?_, ?_⟩
    · rw [spec_l3Deep.l0v_eq, if_pos (by omega), if_pos (by omega), hrd, e1, Option.bind_some, max_both, Option.bind_some, hw, k1]
    · rw [impl_rexDeep.l0v_eq, if_pos (by omega), if_pos (by omega), if_pos (by omega), hrd, e2, Option.bind_some, hw, k2]
theorem good_node (a b : Int) (c : ByteArray) (e : Bool) (xs : List S24) (hl : xs.length ≤ 1000) (hg : ∀ x ∈ xs, RGood x) : RGood (⟨a, b, c, e, xs⟩ : S24) := by
  obtain ⟨v, h1, h2⟩ := rdeep_loop xs hl hg _ 0 0 rfl
  refine ⟨v, ?_, ?_⟩
  · show spec_l3Deep.fv a b c e xs = some v
    rw [spec_l3Deep.fv_eq]
    exact h1 a b c e
  · show impl_rexDeep.fv a b c e xs = some v
    rw [impl_rexDeep.fv_eq]
    exact h2
theorem good_leaf (a b : Int) (c : ByteArray) (e : Bool) : RGood (⟨a, b, c, e, []⟩ : S24) := good_node a b c e [] (by simp) (by simp)
def Out (T l : List UInt8) (d k : Nat) (so : Option (Int × Int × ByteArray × Bool × List S24 × ByteArray × Int × Bool)) (io : Option (Int × Int × ByteArray × Bool × List S24 × ByteArray × Bool)) : Prop :=
  (∃ x l' p, l = p ++ l' ∧ k ≤ p.length ∧ RGood x ∧ SR T so x (pl T l') false ∧ IR io x l' false) ∨
  (∃ x y l' a, SR T so x a true ∧ IR io y l' true) ∨
  (∃ x y l' a, l'.length < d ∧ l'.length + k ≤ l.length ∧ RGood y ∧ SR T so x a true ∧ IR io y l' false)
theorem out_cons {T l : List UInt8} {c : UInt8} {d k k' : Nat} {so io} (h : Out T l d k so io) (hk : k' ≤ k + 1) : Out T (c :: l) d k' so io := by
  rcases h with ⟨x, l', p, e, h1, h2⟩ | h | ⟨x, y, l', a, h1, h2, h3⟩
  · exact .inl ⟨x, l', c :: p, by rw [e, List.cons_append], by rw [List.length_cons]; omega, h2⟩
  · exact .inr (.inl h)
  · exact .inr (.inr ⟨x, y, l', a, h1, by rw [List.length_cons]; omega, h3⟩)
theorem out_app {T l l' p : List UInt8} {d k k' : Nat} {so io} (e : l = p ++ l') (h : Out T l' d k so io) (hk : k' ≤ k + p.length) : Out T l d k' so io := by
  subst e
  rcases h with ⟨x, l2, p2, e, h1, h2⟩ | h | ⟨x, y, l2, a, h1, h2, h3⟩
  · exact .inl ⟨x, l2, p ++ p2, by rw [e, List.append_assoc], by rw [List.length_append]; omega, h2⟩
  · exact .inr (.inl h)
  · exact .inr (.inr ⟨x, y, l2, a, h1, by rw [List.length_append]; omega, h3⟩)
theorem ctx_app {T l l' p : List UInt8} {d : Nat} (h : Ctx T l d) (e : l = p ++ l') : Ctx T l' d := by
  have := ctx_drop h p.length
  rw [e, List.drop_left] at this
  exact this
theorem ctx_self (l : List UInt8) (h : l.length ≤ 60) : Ctx l l 0 := ⟨[], rfl, Nat.zero_le _, h⟩
theorem after_close (a r : List UInt8) : (B (a ++ 93 :: r)).extract (((a.length + 1 : Nat) : Int)).toNat (B (a ++ 93 :: r)).size = B r := by
  have e1 : (a ++ 93 :: r).drop (a.length + 1) = r := by
    rw [show a ++ 93 :: r = (a ++ [93]) ++ r by simp]
    exact List.drop_left' (by simp)
  rw [Int.toNat_natCast, B_extract, B_size, e1]
  congr 1
  apply List.take_of_length_le
  rw [List.length_append, List.length_cons]
  omega
theorem set_core (T l : List UInt8) (d : Nat) (h : Ctx T l d) (neg : Bool) : Out T l d 0 (spec_l3Set.j0v (B T) (pl T l) false 3 0 (⟨#[]⟩ : ByteArray) neg)
    ((strings_IndexByte.f (B l) 93).bind fun t324 => (if t324 < 1 then (some (0, 0, (⟨#[]⟩ : ByteArray), false, ([] : List (S24)), B l, true)) else (if 0 ≤ t324 then (if t324 ≤ ((B l).size : Int) then (if 0 ≤ (wrap64 (t324 + 1)) then (if (wrap64 (t324 + 1)) ≤ ((B l).size : Int) then (if 256 ≤ 281474976710656 then (impl_rexReader_set.l0v ((B l).extract 0 (t324 : Int).toNat) (List.replicate 256 false) 0 ([] : List S24) ((B l).extract ((wrap64 (t324 + 1)) : Int).toNat (B l).size) false 3 0 (⟨#[]⟩ : ByteArray) neg) else (none)) else (none)) else (none)) else (none)) else (none)))) := by
  obtain ⟨pre, hT, hd, h60⟩ := h
  have hlen : T.length = pre.length + l.length := by rw [hT, List.length_append]
  have hpl : pl T l = ((pre.length + 0 : Nat) : Int) := by unfold pl; omega
  rw [hpl, spec_l3Set.j0v_eq, if_pos (by omega)]
  show Out T l d 0 _ ((some (Lib.indexByte (B l).data.toList 93)).bind _)
  rw [Option.bind_some, B_data]
  rcases idx_close l with ⟨e, hn⟩ | ⟨a, r, e, hn, hk⟩
  · obtain ⟨has', m', c', k1, k2, k3, -, k5⟩ := set_run T pre l [] (by rw [List.append_nil]; exact hT) h60 hn (.inl rfl) _ 0 0 (List.replicate 256 false) false (Nat.le_refl _) (Nat.zero_le _) (List.length_replicate ..) (Nat.le_refl _) (fun z => absurd z (Nat.lt_irrefl 0))
    obtain ⟨out', -, o2⟩ := out_both has' k1 _ 0 [] rfl (by omega) (by simp)
    have k5' := k5 3 0 (⟨#[]⟩ : ByteArray) neg
    rw [show ((0 : Nat) : Int) = 0 from rfl] at k5' o2
    rw [k5', spec_l3Set.j2v_eq, if_neg (by decide), if_pos (by rw [B_size]; omega), spec_l3Set.j7v_eq, if_pos rfl, spec_l3Set.j8v_eq, o2, e, if_pos (by decide)]
    exact .inr (.inl ⟨(⟨_, _, _, _, _⟩ : S24), (⟨_, _, _, _, _⟩ : S24), l, _, rfl, rfl⟩)
  · obtain ⟨has', m', c', k1, k2, k3, k4, k5⟩ := set_run T pre a (93 :: r) (by rw [hT, e]) h60 hn (.inr ⟨r, rfl⟩) _ 0 0 (List.replicate 256 false) false (Nat.le_refl _) (Nat.zero_le _) (List.length_replicate ..) (Nat.le_refl _) (fun z => absurd z (Nat.lt_irrefl 0))
    obtain ⟨out', o1, o2⟩ := out_both has' k1 _ 0 [] rfl (by omega) (by simp)
    have hl : l.length = a.length + (r.length + 1) := by rw [e, List.length_append, List.length_cons]
    have k5' := k5 3 0 (⟨#[]⟩ : ByteArray) neg
    have k4' := k4 (B r) 3 0 (⟨#[]⟩ : ByteArray) neg
    rw [show ((0 : Nat) : Int) = 0 from rfl] at k5' k4' o1 o2
    rw [k5', spec_l3Set.j2v_eq, if_neg (by decide), if_neg (by rw [B_size]; omega), spec_l3Set.j7v_eq, hk]
    by_cases h0 : a.length = 0
    · have hm : m' = 0 := by omega
      subst hm
      rw [if_pos (by rfl), spec_l3Set.j8v_eq, o2, if_pos (by omega)]
      exact .inr (.inl ⟨(⟨_, _, _, _, _⟩ : S24), (⟨_, _, _, _, _⟩ : S24), l, _, rfl, rfl⟩)
    · have hm := k3 (by omega)
      have x1 : (B l).extract 0 ((a.length : Nat) : Int).toNat = B a := by rw [Int.toNat_natCast, B_extract, e]; simp
      have x2 : (B l).extract (((a.length + 1 : Nat) : Int)).toNat (B l).size = B r := by rw [e]; exact after_close a r
      have y1 : ¬ ((m' : Int) == 0) = true := by rw [beq_iff_eq]; omega
      have y2 : ¬ (a.length : Int) < 1 := by omega
      have y3 : (0 : Int) ≤ (a.length : Int) := by omega
      have y4 : (a.length : Int) ≤ ((B l).size : Int) := by rw [B_size]; omega
      have y5 : (0 : Int) ≤ ((a.length + 1 : Nat) : Int) := by omega
      have y6 : ((a.length + 1 : Nat) : Int) ≤ ((B l).size : Int) := by rw [B_size]; omega
      have y7 : pl T r = ((pre.length + a.length + 1 : Nat) : Int) := by unfold pl; omega
      have w2 : wrap64 ((a.length : Int) + 1) = ((a.length + 1 : Nat) : Int) := wr a.length (a.length + 1) 1 (by omega) (by omega)
      have w1 : wrap64 (((pre.length + a.length : Nat) : Int) + 1) = pl T r := by
        rw [y7]
        exact wr (pre.length + a.length) (pre.length + a.length + 1) 1 (by clear w2; omega) (by clear w2; omega)
      rw [if_neg y1, spec_l3Set.j8v_eq, o2, if_neg y2, if_pos y3, if_pos y4, w2, if_pos y5, if_pos y6, if_pos (by decide), x1, x2, k4', o1, w1]
      cases c'
      · exact .inl ⟨(⟨_, _, _, _, _⟩ : S24), r, a ++ [93], by rw [e]; simp, Nat.zero_le _, good_leaf _ _ _ _, rfl, rfl⟩
      · exact .inr (.inl ⟨(⟨_, _, _, _, _⟩ : S24), (⟨_, _, _, _, _⟩ : S24), r, _, rfl, rfl⟩)
theorem set_sim (T l : List UInt8) (d : Nat) (h : Ctx T l d) : Out T l d 0 (spec_l3Set.fv (B T) (pl T l) false) (impl_rexReader_set.fv (B l) false) := by
  rw [spec_l3Set.fv_eq, impl_rexReader_set.fv_eq]
  cases l with
  | nil =>
    rw [now_end, take_nil]
    exact set_core T [] d h false
  | cons c l =>
    rw [now_cons h]
    by_cases hc : (c.toNat : Int) = 94
    · rw [take_hit c l 94 hc, Option.bind_some, Option.bind_some]
      dsimp only
      rw [if_pos (by rw [hc]; rfl), ctx_next h]
      exact out_cons (set_core T l d (ctx_tail h) true) (by omega)
    · rw [take_miss c l 94 hc, Option.bind_some, Option.bind_some]
      dsimp only
      rw [if_neg (by rw [beq_iff_eq]; exact hc)]
      exact set_core T (c :: l) d h false

/-! ### one atom -/
def PatS (T l : List UInt8) (d : Nat) : Prop := Out T l d 0 (spec_l3Pattern.fv (B T) (pl T l) false (d : Int)) (impl_rexReader_pattern.fv (B l) false)
def AtomS (T l : List UInt8) (d : Nat) : Prop := Out T l d 1 (spec_l3Atom.fv (B T) (pl T l) false (d : Int)) (impl_rexReader_atom.fv (B l) false)
def PieceS (T l : List UInt8) (d : Nat) : Prop := Out T l d 1 (spec_l3Piece.fv (B T) (pl T l) false (d : Int)) (impl_rexReader_piece.fv (B l) false)
def PartS (T l : List UInt8) (d : Nat) : Prop := Out T l d 0 (spec_l3Part.fv (B T) (pl T l) false (d : Int)) (impl_rexReader_part.fv (B l) false)
theorem out_leaf (T : List UInt8) (c : UInt8) (l : List UInt8) (d : Nat) (a b : Int) (s : ByteArray) (e : Bool) : Out T (c :: l) d 1 (some (a, b, s, e, [], B T, pl T l, false)) (some (a, b, s, e, [], B l, false)) :=
  .inl ⟨(⟨a, b, s, e, []⟩ : S24), l, [c], rfl, Nat.le_refl _, good_leaf _ _ _ _, rfl, rfl⟩
theorem out_bad (T l l' : List UInt8) (d k : Nat) (a b a2 b2 at_ : Int) (s s2 : ByteArray) (e e2 : Bool) (xs ys : List S24) : Out T l d k (some (a, b, s, e, xs, B T, at_, true)) (some (a2, b2, s2, e2, ys, B l', true)) :=
  .inr (.inl ⟨(⟨a, b, s, e, xs⟩ : S24), (⟨a2, b2, s2, e2, ys⟩ : S24), l', at_, rfl, rfl⟩)
theorem atom_brackets (T : List UInt8) (c : UInt8) (l : List UInt8) (d : Nat) (h : Ctx T (c :: l) d) (hp : PatS T l (d + 1)) : Out T (c :: l) d 1
    ((spec_l3Pattern.fv (B T) (pl T l) false ((d + 1 : Nat) : Int)).bind fun bt124 => ((spec_l3Now.f bt124.2.2.2.2.2.1 bt124.2.2.2.2.2.2.1 bt124.2.2.2.2.2.2.2 41).bind fun bt135 => (if bt135.1 = true then (some (bt124.1, bt124.2.1, bt124.2.2.1, bt124.2.2.2.1, bt124.2.2.2.2.1, bt135.2.1, wrap64 (bt135.2.2.1 + 1), bt135.2.2.2)) else (some (bt124.1, bt124.2.1, bt124.2.2.1, bt124.2.2.2.1, bt124.2.2.2.2.1, bt135.2.1, wrap64 (bt135.2.2.1 + 1), true)))))
    ((impl_rexReader_pattern.fv (B l) false).bind fun bt341 => ((impl_rexReader_take.f bt341.2.2.2.2.2.1 bt341.2.2.2.2.2.2 41).bind fun bt351 => (if bt351.1 = true then (some (bt341.1, bt341.2.1, bt341.2.2.1, bt341.2.2.2.1, bt341.2.2.2.2.1, bt351.2.1, bt351.2.2)) else (some (bt341.1, bt341.2.1, bt341.2.2.1, bt341.2.2.2.1, bt341.2.2.2.2.1, bt351.2.1, true))))) := by
  have h1 := ctx_tail h
  rcases hp with ⟨x, l', p, e, -, hg, hs, hi⟩ | ⟨x, y, l', a, hs, hi⟩ | ⟨x, y, l', a, hlt, hle, hg, hs, hi⟩
  · rw [show _ = _ from hs, show _ = _ from hi, Option.bind_some, Option.bind_some]
    dsimp only
    have h2 : Ctx T l' d := ctx_app h1 e
    cases l' with
    | nil =>
      rw [now_end, take_nil, Option.bind_some, Option.bind_some]
      dsimp only
      rw [if_neg (by decide), if_neg (by decide)]
      exact out_bad ..
    | cons c' l' =>
      rw [now_cons h2]
      by_cases hc : (c'.toNat : Int) = 41
      · rw [take_hit c' l' 41 hc, Option.bind_some, Option.bind_some]
        dsimp only
        rw [if_pos (by rw [hc]; rfl), if_pos rfl, ctx_next h2]
        exact .inl ⟨x, l', c :: p ++ [c'], by rw [e]; simp, by simp, hg, rfl, rfl⟩
      · rw [take_miss c' l' 41 hc, Option.bind_some, Option.bind_some]
        dsimp only
        rw [if_neg (by rw [beq_iff_eq]; exact hc), if_neg (by decide)]
        exact out_bad ..
  · rw [show _ = _ from hs, show _ = _ from hi, Option.bind_some, Option.bind_some]
    dsimp only
    rw [now_bad, take_bad, Option.bind_some, Option.bind_some]
    dsimp only
    rw [if_neg (by decide), if_neg (by decide)]
    exact out_bad ..
  · rw [show _ = _ from hs, show _ = _ from hi, Option.bind_some, Option.bind_some]
    dsimp only
    rw [now_bad, Option.bind_some]
    dsimp only
    rw [if_neg (by decide)]
    cases l' with
    | nil =>
      rw [take_nil, Option.bind_some]
      dsimp only
      rw [if_neg (by decide)]
      exact out_bad ..
    | cons c' l' =>
      by_cases hc : (c'.toNat : Int) = 41
      · rw [take_hit c' l' 41 hc, Option.bind_some]
        dsimp only
        rw [if_pos rfl]
        rw [List.length_cons] at hlt hle
        exact .inr (.inr ⟨x, y, l', _, by omega, by rw [List.length_cons]; omega, hg, rfl, rfl⟩)
      · rw [take_miss c' l' 41 hc, Option.bind_some]
        dsimp only
        rw [if_neg (by decide)]
        exact out_bad ..
theorem atom_set (T : List UInt8) (c : UInt8) (l : List UInt8) (d : Nat) (h : Ctx T (c :: l) d) : Out T (c :: l) d 1
    ((spec_l3Set.fv (B T) (pl T l) false).bind fun bt139 => (some (bt139.1, bt139.2.1, bt139.2.2.1, bt139.2.2.2.1, bt139.2.2.2.2.1, bt139.2.2.2.2.2.1, bt139.2.2.2.2.2.2.1, bt139.2.2.2.2.2.2.2)))
    ((impl_rexReader_set.fv (B l) false).bind fun bt354 => (some (bt354.1, bt354.2.1, bt354.2.2.1, bt354.2.2.2.1, bt354.2.2.2.2.1, bt354.2.2.2.2.2.1, bt354.2.2.2.2.2.2))) := by
  have e1 : ∀ o : Option (Int × Int × ByteArray × Bool × List S24 × ByteArray × Int × Bool), (o.bind fun bt139 => (some (bt139.1, bt139.2.1, bt139.2.2.1, bt139.2.2.2.1, bt139.2.2.2.2.1, bt139.2.2.2.2.2.1, bt139.2.2.2.2.2.2.1, bt139.2.2.2.2.2.2.2))) = o := fun o => by cases o <;> rfl
  have e2 : ∀ o : Option (Int × Int × ByteArray × Bool × List S24 × ByteArray × Bool), (o.bind fun bt354 => (some (bt354.1, bt354.2.1, bt354.2.2.1, bt354.2.2.2.1, bt354.2.2.2.2.1, bt354.2.2.2.2.2.1, bt354.2.2.2.2.2.2))) = o := fun o => by cases o <;> rfl
  rw [e1, e2]
  exact out_cons (set_sim T l d (ctx_tail h)) (Nat.le_refl _)
theorem atom_escape (T : List UInt8) (c : UInt8) (l : List UInt8) (d : Nat) (h : Ctx T (c :: l) d) : Out T (c :: l) d 1
    (if (pl T l) ≥ ((B T).size : Int) then (some (0, 0, (⟨#[]⟩ : ByteArray), false, ([] : List (S24)), B T, pl T l, true)) else (if 0 ≤ pl T l then (if pl T l < ((B T).size : Int) then (some (1, wrap64 (bt (B T) (pl T l)), (⟨#[]⟩ : ByteArray), false, ([] : List (S24)), B T, wrap64 (pl T l + 1), false)) else (none)) else (none)))
    ((impl_rexReader_next.f (B l) false).bind fun bt363 => (if bt363.2.1 = true then (if 1 ≤ (bt363.2.2.1.size : Int) then (some (1, wrap64 (bt363.1), (⟨#[]⟩ : ByteArray), false, ([] : List (S24)), bt363.2.2.1.extract 1 bt363.2.2.1.size, bt363.2.2.2)) else (none)) else (some (0, 0, (⟨#[]⟩ : ByteArray), false, ([] : List (S24)), bt363.2.2.1, true)))) := by
  have h1 := ctx_tail h
  cases l with
  | nil =>
    rw [if_pos (by rw [pl_nil, B_size]; omega), next_nil, Option.bind_some]
    dsimp only
    rw [if_neg (by decide)]
    exact out_bad ..
  | cons c2 l =>
    rw [if_neg (by have := ctx_lt h1; omega), if_pos (pl_ge _ _), if_pos (ctx_lt h1), ctx_bt h1, ctx_next h1, next_cons, Option.bind_some]
    dsimp only
    rw [if_pos rfl, if_pos (one_in c2 l), rest_of]
    exact out_cons (out_leaf T c2 l d 1 (wrap64 (c2.toNat : Int)) (⟨#[]⟩ : ByteArray) false) (by omega)
theorem atom_low (T : List UInt8) (c : UInt8) (l : List UInt8) (d : Nat) (h : Ctx T (c :: l) d) (hd : d ≤ 40) (hp : PatS T l (d + 1)) : AtomS T (c :: l) d := by
  unfold AtomS
  have hw : wrap64 ((d : Int) + 1) = ((d + 1 : Nat) : Int) := wr d (d + 1) 1 (by omega) (by omega)
  have h0 : decide ((d : Int) > 40) = false := decide_eq_false (by omega)
  have hge : ¬ pl T (c :: l) ≥ ((B T).size : Int) := by have := ctx_lt h; omega
  rw [spec_l3Atom.fv_eq, if_neg (by decide), if_neg hge, h0, spec_l3Atom.j0v_eq, if_neg (by decide), if_pos (pl_ge _ _), if_pos (ctx_lt h), ctx_bt h, ctx_next h, hw,
    impl_rexReader_atom.fv_eq, next_cons, Option.bind_some]
  dsimp only
  rw [if_pos (one_in c l), rest_of c l]
  by_cases h40 : (c.toNat : Int) = 40
  · rw [if_pos h40, if_pos h40]
    exact atom_brackets T c l d h hp
  rw [if_neg h40, if_neg h40]
  by_cases h46 : (c.toNat : Int) = 46
  · rw [if_pos h46, if_pos h46]
    exact out_leaf ..
  rw [if_neg h46, if_neg h46]
  by_cases h94 : (c.toNat : Int) = 94
  · rw [if_pos h94, if_pos h94]
    exact out_leaf ..
  rw [if_neg h94, if_neg h94]
  by_cases h36 : (c.toNat : Int) = 36
  · rw [if_pos h36, if_pos h36]
    exact out_leaf ..
  rw [if_neg h36, if_neg h36]
  by_cases h91 : (c.toNat : Int) = 91
  · rw [if_pos h91, if_pos h91]
    exact atom_set T c l d h
  rw [if_neg h91, if_neg h91]
  by_cases h92 : (c.toNat : Int) = 92
  · rw [if_pos h92, if_pos h92]
    exact atom_escape T c l d h
  rw [if_neg h92, if_neg h92]
  by_cases h42 : (c.toNat : Int) = 42
  · rw [if_pos h42, if_pos h42]
    exact out_bad ..
  rw [if_neg h42, if_neg h42]
  by_cases h43 : (c.toNat : Int) = 43
  · rw [if_pos h43, if_pos h43]
    exact out_bad ..
  rw [if_neg h43, if_neg h43]
  by_cases h63 : (c.toNat : Int) = 63
  · rw [if_pos h63, if_pos h63]
    exact out_bad ..
  rw [if_neg h63, if_neg h63]
  exact out_leaf ..
theorem atom_sim (T : List UInt8) (c : UInt8) (l : List UInt8) (d : Nat) (h : Ctx T (c :: l) d) (hp : PatS T l (d + 1)) (hp2 : PatS (c :: l) l 1) : AtomS T (c :: l) d := by
  by_cases hd : d ≤ 40
  · exact atom_low T c l d h hd hp
  · have hlen := ctx_len h
    rw [List.length_cons] at hlen
    have h0 : decide ((d : Int) > 40) = true := decide_eq_true (by omega)
    have hge : ¬ pl T (c :: l) ≥ ((B T).size : Int) := by have := ctx_lt h; omega
    have hs : spec_l3Atom.fv (B T) (pl T (c :: l)) false (d : Int) = some (0, 0, (⟨#[]⟩ : ByteArray), false, ([] : List (S24)), B T, pl T (c :: l), true) := by
      rw [spec_l3Atom.fv_eq, if_neg (by decide), if_neg hge, h0, spec_l3Atom.j0v_eq, if_pos rfl]
    unfold AtomS
    rw [hs]
    rcases atom_low (c :: l) c l 0 (ctx_self _ (by rw [List.length_cons]; omega)) (by omega) hp2 with ⟨x, l', p, e, hk, hg, -, hi⟩ | ⟨x, y, l', a, -, hi⟩ | ⟨x, y, l', a, hlt, _⟩
    · have e2 := congrArg List.length e
      rw [List.length_cons, List.length_append] at e2
      exact .inr (.inr ⟨(⟨0, 0, (⟨#[]⟩ : ByteArray), false, []⟩ : S24), x, l', _, by omega, by rw [List.length_cons]; omega, hg, rfl, hi⟩)
    · exact .inr (.inl ⟨(⟨0, 0, (⟨#[]⟩ : ByteArray), false, []⟩ : S24), y, l', _, rfl, hi⟩)
    · exact absurd hlt (Nat.not_lt_zero _)

/-! ### pieces, parts, patterns -/
theorem eta_ (x : S24) : (⟨x.f0, x.f1, x.f2, x.f3, x.f4⟩ : S24) = x := by cases x; rfl
theorem good_rep (k : Int) (x : S24) (hg : RGood x) : RGood (⟨k, 0, (⟨#[]⟩ : ByteArray), false, [x]⟩ : S24) :=
  good_node _ _ _ _ [x] (by simp) (fun y hy => by rw [List.mem_singleton] at hy; rw [hy]; exact hg)
theorem piece_loop (l : List UInt8) : ∀ (T : List UInt8) (d : Nat) (x : S24), Ctx T l d → RGood x →
    Out T l d 0 (spec_l3Piece.l0v (B T) (pl T l) false x.f0 x.f1 x.f2 x.f3 x.f4) (impl_rexReader_piece.l0v x.f4 (B l) false x.f0 x.f1 x.f2 x.f3) := by
  induction l with
  | nil =>
    intro T d x h hg
    rw [spec_l3Piece.l0v_eq, if_neg (by decide), now_end, Option.bind_some]
    dsimp only
    rw [if_neg (by decide), now_end, Option.bind_some]
    dsimp only
    rw [if_neg (by decide), now_end, Option.bind_some]
    dsimp only
    rw [if_neg (by decide), if_pos rfl, impl_rexReader_piece.l0v_eq, next_nil, Option.bind_some]
    dsimp only
    rw [if_neg (by decide)]
    exact .inl ⟨x, [], [], rfl, Nat.le_refl _, hg, rfl, rfl⟩
  | cons c l ih =>
    intro T d x h hg
    have h1 := ctx_tail h
    rw [spec_l3Piece.l0v_eq, if_neg (by decide), now_cons h, Option.bind_some, impl_rexReader_piece.l0v_eq, next_cons, Option.bind_some]
    dsimp only
    rw [if_pos rfl]
    by_cases h42 : (c.toNat : Int) = 42
    · have hr : impl_repeatOf.f (c.toNat : Int) = some 8 := by unfold impl_repeatOf.f; rw [if_pos h42]
      rw [if_pos (by rw [h42]; rfl), if_neg (by decide), ctx_next h, hr, Option.bind_some, Option.bind_some, if_neg (by decide), if_pos (one_in c l), rest_of, eta_]
      exact out_cons (ih T d (⟨8, 0, (⟨#[]⟩ : ByteArray), false, [x]⟩ : S24) h1 (good_rep 8 x hg)) (by omega)
    rw [if_neg (by rw [beq_iff_eq]; exact h42), now_cons h, Option.bind_some]
    dsimp only
    by_cases h43 : (c.toNat : Int) = 43
    · have hr : impl_repeatOf.f (c.toNat : Int) = some 9 := by unfold impl_repeatOf.f; rw [if_neg h42, if_pos h43]
      rw [if_pos (by rw [h43]; rfl), if_neg (by decide), ctx_next h, hr, Option.bind_some, Option.bind_some, if_neg (by decide), if_pos (one_in c l), rest_of, eta_]
      exact out_cons (ih T d (⟨9, 0, (⟨#[]⟩ : ByteArray), false, [x]⟩ : S24) h1 (good_rep 9 x hg)) (by omega)
    rw [if_neg (by rw [beq_iff_eq]; exact h43), now_cons h, Option.bind_some]
    dsimp only
    by_cases h63 : (c.toNat : Int) = 63
    · have hr : impl_repeatOf.f (c.toNat : Int) = some 10 := by unfold impl_repeatOf.f; rw [if_neg h42, if_neg h43, if_pos h63]
      rw [if_pos (by rw [h63]; rfl), if_neg (by decide), ctx_next h, hr, Option.bind_some, Option.bind_some, if_neg (by decide), if_pos (one_in c l), rest_of, eta_]
      exact out_cons (ih T d (⟨10, 0, (⟨#[]⟩ : ByteArray), false, [x]⟩ : S24) h1 (good_rep 10 x hg)) (by omega)
    have hr : impl_repeatOf.f (c.toNat : Int) = some 0 := by unfold impl_repeatOf.f; rw [if_neg h42, if_neg h43, if_neg h63]
    rw [if_neg (by rw [beq_iff_eq]; exact h63), if_pos rfl, hr, Option.bind_some, if_pos rfl]
    exact .inl ⟨x, c :: l, [], rfl, Nat.le_refl _, hg, rfl, rfl⟩
theorem piece_sim (T : List UInt8) (c : UInt8) (l : List UInt8) (d : Nat) (h : Ctx T (c :: l) d) (ha : AtomS T (c :: l) d) : PieceS T (c :: l) d := by
  unfold PieceS
  rw [spec_l3Piece.fv_eq, impl_rexReader_piece.fv_eq]
  rcases ha with ⟨x, l', p, e, hk, hg, hs, hi⟩ | ⟨x, y, l', a, hs, hi⟩ | ⟨x, y, l', a, hlt, hle, hg, hs, hi⟩
  · rw [show _ = _ from hs, show _ = _ from hi, Option.bind_some, Option.bind_some]
    dsimp only
    exact out_app e (piece_loop l' T d x (ctx_app h e) hg) (by omega)
  · rw [show _ = _ from hs, show _ = _ from hi, Option.bind_some, Option.bind_some]
    dsimp only
    rw [spec_l3Piece.l0v_eq, if_pos rfl, impl_rexReader_piece.l0v_eq, next_bad, Option.bind_some]
    dsimp only
    rw [if_neg (by decide)]
    exact out_bad ..
  · rw [show _ = _ from hs, show _ = _ from hi, Option.bind_some, Option.bind_some]
    dsimp only
    rw [spec_l3Piece.l0v_eq, if_pos rfl]
    have hlen := ctx_len h
    rw [List.length_cons] at hlen hle
    rcases piece_loop l' l' 0 y (ctx_self l' (by omega)) hg with ⟨z, l2, p2, e2, -, hg2, -, hi2⟩ | ⟨z, z2, l2, a2, -, hi2⟩ | ⟨z, z2, l2, a2, hlt2, _⟩
    · have e3 := congrArg List.length e2
      rw [List.length_append] at e3
      exact .inr (.inr ⟨x, z, l2, _, by omega, by rw [List.length_cons]; omega, hg2, rfl, hi2⟩)
    · exact .inr (.inl ⟨x, z2, l2, _, rfl, hi2⟩)
    · exact absurd hlt2 (Nat.not_lt_zero _)
theorem part_end (xs : List S24) : ∃ x : S24, ((xs.length ≤ 1000 → (∀ y ∈ xs, RGood y) → RGood x)) ∧ (∀ S a b, spec_l3Part.j1v xs S a b = some (x.f0, x.f1, x.f2, x.f3, x.f4, S, a, b)) ∧ (∀ S b, impl_rexReader_part.j1v xs S b = some (x.f0, x.f1, x.f2, x.f3, x.f4, S, b)) := by
  by_cases h0 : (xs.length : Int) = 0
  · refine ⟨⟨11, 0, (⟨#[]⟩ : ByteArray), false, []⟩, fun _ _ => good_leaf _ _ _ _, fun S a b => ?_, fun S b => ?_⟩
    · rw [spec_l3Part.j1v_eq, if_pos h0]
    · rw [impl_rexReader_part.j1v_eq, if_pos h0]
  · by_cases h1 : (xs.length : Int) = 1
    · obtain ⟨y, rfl⟩ : ∃ y, xs = [y] := List.length_eq_one_iff.1 (by omega)
      refine ⟨y, fun _ hg => hg y (by simp), fun S a b => ?_, fun S b => ?_⟩
      · rw [spec_l3Part.j1v_eq, if_neg h0, if_pos h1, if_pos (by omega)]
        rfl
      · rw [impl_rexReader_part.j1v_eq, if_neg h0, if_pos h1, if_pos (by omega)]
        rfl
    · refine ⟨⟨6, 0, (⟨#[]⟩ : ByteArray), false, xs⟩, fun hl hg => good_node _ _ _ _ xs hl hg, fun S a b => ?_, fun S b => ?_⟩
      · rw [spec_l3Part.j1v_eq, if_neg h0, if_neg h1]
      · rw [impl_rexReader_part.j1v_eq, if_neg h0, if_neg h1]
theorem mem_more {xs : List S24} {x : S24} (h : ∀ y ∈ xs, RGood y) (hx : RGood x) : ∀ y ∈ xs ++ [x], RGood y := by
  intro y hy
  rcases List.mem_append.1 hy with h1 | h1
  · exact h y h1
  · rw [List.mem_singleton] at h1
    rw [h1]
    exact hx
theorem part_loop (n : Nat) (HP : ∀ (T : List UInt8) (c : UInt8) (l : List UInt8) (d : Nat), l.length < n → Ctx T (c :: l) d → PieceS T (c :: l) d) (m : Nat) : ∀ (l T : List UInt8) (d : Nat) (xs : List S24), l.length ≤ m → l.length ≤ n → Ctx T l d → xs.length + l.length ≤ 500 → (∀ y ∈ xs, RGood y) →
    Out T l d 0 (spec_l3Part.l0v (d : Int) xs (B T) (pl T l) false) (impl_rexReader_part.l0v xs (B l) false) := by
  induction m with
  | zero =>
    intro l T d xs hm hn h hx hg
    obtain rfl : l = [] := List.length_eq_zero_iff.1 (by omega)
    obtain ⟨x, hgx, h1, h2⟩ := part_end xs
    rw [spec_l3Part.l0v_eq, if_neg (by decide), if_neg (by rw [pl_nil, B_size]; omega), h1, impl_rexReader_part.l0v_eq, next_nil, Option.bind_some]
    dsimp only
    rw [if_neg (by decide), h2]
    exact .inl ⟨x, [], [], rfl, Nat.le_refl _, hgx (by omega) hg, rfl, rfl⟩
  | succ m ih =>
    intro l T d xs hm hn h hx hg
    obtain ⟨x, hgx, h1, h2⟩ := part_end xs
    cases l with
    | nil =>
      rw [spec_l3Part.l0v_eq, if_neg (by decide), if_neg (by rw [pl_nil, B_size]; omega), h1, impl_rexReader_part.l0v_eq, next_nil, Option.bind_some]
      dsimp only
      rw [if_neg (by decide), h2]
      exact .inl ⟨x, [], [], rfl, Nat.le_refl _, hgx (by omega) hg, rfl, rfl⟩
    | cons c l =>
      rw [List.length_cons] at hm hn hx
      rw [spec_l3Part.l0v_eq, if_neg (by decide), if_pos (ctx_lt h), if_pos (pl_ge _ _), ctx_bt h, impl_rexReader_part.l0v_eq, next_cons, Option.bind_some]
      dsimp only
      rw [if_pos rfl]
      by_cases h124 : (c.toNat : Int) = 124
      · rw [if_pos h124, if_pos h124, h1, h2]
        exact .inl ⟨x, c :: l, [], rfl, Nat.le_refl _, hgx (by omega) hg, rfl, rfl⟩
      rw [if_neg h124, if_neg h124]
      by_cases h41 : (c.toNat : Int) = 41
      · rw [if_pos h41, if_pos h41, h1, h2]
        exact .inl ⟨x, c :: l, [], rfl, Nat.le_refl _, hgx (by omega) hg, rfl, rfl⟩
      rw [if_neg h41, if_neg h41]
      rcases HP T c l d (by omega) h with ⟨z, l', p, e, hk, hgz, hs, hi⟩ | ⟨z, y, l', a, hs, hi⟩ | ⟨z, y, l', a, hlt, hle, hgy, hs, hi⟩
      · have e3 := congrArg List.length e
        rw [List.length_append, List.length_cons] at e3
        rw [show _ = _ from hs, show _ = _ from hi, Option.bind_some, Option.bind_some]
        dsimp only
        rw [if_pos (by omega), if_pos (by omega), eta_]
        exact out_app e (ih l' T d (xs ++ [z]) (by omega) (by omega) (ctx_app h e) (by rw [List.length_append, List.length_singleton]; omega) (mem_more hg hgz)) (by omega)
      · rw [show _ = _ from hs, show _ = _ from hi, Option.bind_some, Option.bind_some]
        dsimp only
        rw [if_pos (by omega), if_pos (by omega), eta_, eta_]
        obtain ⟨u, -, u1, -⟩ := part_end (xs ++ [z])
        obtain ⟨v, -, -, v1⟩ := part_end (xs ++ [y])
        rw [spec_l3Part.l0v_eq, if_pos rfl, impl_rexReader_part.l0v_eq, next_bad, Option.bind_some]
        dsimp only
        rw [if_neg (by decide)]
        exact .inr (.inl ⟨u, v, l', a, u1 .., v1 ..⟩)
      · rw [show _ = _ from hs, show _ = _ from hi, Option.bind_some, Option.bind_some]
        dsimp only
        rw [if_pos (by omega), if_pos (by omega), eta_, eta_]
        obtain ⟨u, -, u1, -⟩ := part_end (xs ++ [z])
        rw [spec_l3Part.l0v_eq, if_pos rfl]
        have hlen := ctx_len h
        rw [List.length_cons] at hlen hle
        rcases ih l' l' 0 (xs ++ [y]) (by omega) (by omega) (ctx_self l' (by omega)) (by rw [List.length_append, List.length_singleton]; omega) (mem_more hg hgy) with ⟨z2, l2, p2, e2, -, hg2, -, hi2⟩ | ⟨z1, z2, l2, a2, -, hi2⟩ | ⟨z1, z2, l2, a2, hlt2, _⟩
        · have e3 := congrArg List.length e2
          rw [List.length_append] at e3
          exact .inr (.inr ⟨u, z2, l2, a, by omega, by rw [List.length_cons]; omega, hg2, u1 .., hi2⟩)
        · exact .inr (.inl ⟨u, z2, l2, a, u1 .., hi2⟩)
        · exact absurd hlt2 (Nat.not_lt_zero _)
theorem part_sim (n : Nat) (HP : ∀ (T : List UInt8) (c : UInt8) (l : List UInt8) (d : Nat), l.length < n → Ctx T (c :: l) d → PieceS T (c :: l) d) (l T : List UInt8) (d : Nat) (hn : l.length ≤ n) (h : Ctx T l d) : PartS T l d := by
  unfold PartS
  rw [spec_l3Part.fv_eq, impl_rexReader_part.fv_eq]
  have hlen := ctx_len h
  exact part_loop n HP _ l T d [] (Nat.le_refl _) hn h (by rw [List.length_nil]; omega) (by simp)
/-- what a pattern of these parts is -/
theorem pat_end (xs : List S24) : ∃ x : S24, ((xs.length ≤ 1000 → (∀ y ∈ xs, RGood y) → RGood x)) ∧
    (∀ (S : ByteArray) (a : Int) (b : Bool), (if (xs.length : Int) = 1 then (if 0 < (xs.length : Int) then (some ((rd_T24 xs 0).f0, (rd_T24 xs 0).f1, (rd_T24 xs 0).f2, (rd_T24 xs 0).f3, (rd_T24 xs 0).f4, S, a, b)) else (none)) else (some (7, 0, (⟨#[]⟩ : ByteArray), false, xs, S, a, b))) = some (x.f0, x.f1, x.f2, x.f3, x.f4, S, a, b)) ∧
    (∀ (S : ByteArray) (b : Bool), (if (xs.length : Int) = 1 then (if 0 < (xs.length : Int) then (some ((rd_T24 xs 0).f0, (rd_T24 xs 0).f1, (rd_T24 xs 0).f2, (rd_T24 xs 0).f3, (rd_T24 xs 0).f4, S, b)) else (none)) else (some (7, 0, (⟨#[]⟩ : ByteArray), false, xs, S, b))) = some (x.f0, x.f1, x.f2, x.f3, x.f4, S, b)) := by
  by_cases h1 : (xs.length : Int) = 1
  · obtain ⟨y, rfl⟩ : ∃ y, xs = [y] := List.length_eq_one_iff.1 (by omega)
    refine ⟨y, fun _ hg => hg y (by simp), fun S a b => ?_, fun S b => ?_⟩
    · rw [if_pos h1, if_pos (by omega)]
      rfl
    · rw [if_pos h1, if_pos (by omega)]
      rfl
  · refine ⟨⟨7, 0, (⟨#[]⟩ : ByteArray), false, xs⟩, fun hl hg => good_node _ _ _ _ xs hl hg, fun S a b => ?_, fun S b => ?_⟩
    · rw [if_neg h1]
    · rw [if_neg h1]
theorem pat_loop (n : Nat) (HP : ∀ (l T : List UInt8) (d : Nat), l.length ≤ n → Ctx T l d → PartS T l d) (m : Nat) : ∀ (l T : List UInt8) (d : Nat) (xs : List S24), l.length ≤ m → l.length ≤ n → Ctx T l d → xs.length + l.length ≤ 500 → (∀ y ∈ xs, RGood y) →
    Out T l d 0 (spec_l3Pattern.l0v (d : Int) xs (B T) (pl T l) false) (impl_rexReader_pattern.l0v xs (B l) false) := by
  induction m with
  | zero =>
    intro l T d xs hm hn h hx hg
    obtain rfl : l = [] := List.length_eq_zero_iff.1 (by omega)
    obtain ⟨x, hgx, h1, h2⟩ := pat_end xs
    rw [spec_l3Pattern.l0v_eq, now_end, Option.bind_some, impl_rexReader_pattern.l0v_eq, take_nil, Option.bind_some]
    dsimp only
    rw [if_neg (by decide), h1, if_neg (by decide), h2]
    exact .inl ⟨x, [], [], rfl, Nat.le_refl _, hgx (by omega) hg, rfl, rfl⟩
  | succ m ih =>
    intro l T d xs hm hn h hx hg
    obtain ⟨x, hgx, h1, h2⟩ := pat_end xs
    cases l with
    | nil =>
      rw [spec_l3Pattern.l0v_eq, now_end, Option.bind_some, impl_rexReader_pattern.l0v_eq, take_nil, Option.bind_some]
      dsimp only
      rw [if_neg (by decide), h1, if_neg (by decide), h2]
      exact .inl ⟨x, [], [], rfl, Nat.le_refl _, hgx (by omega) hg, rfl, rfl⟩
    | cons c l =>
      rw [List.length_cons] at hm hn hx
      rw [spec_l3Pattern.l0v_eq, now_cons h, Option.bind_some, impl_rexReader_pattern.l0v_eq]
      dsimp only
      by_cases h124 : (c.toNat : Int) = 124
      · have h3 := ctx_tail h
        rw [take_hit c l 124 h124, Option.bind_some]
        dsimp only
        rw [if_pos (by rw [h124]; rfl), if_pos rfl, ctx_next h]
        rcases HP l T d (by omega) h3 with ⟨z, l', p, e, hk, hgz, hs, hi⟩ | ⟨z, y, l', a, hs, hi⟩ | ⟨z, y, l', a, hlt, hle, hgy, hs, hi⟩
        · have e3 := congrArg List.length e
          rw [List.length_append] at e3
          rw [show _ = _ from hs, show _ = _ from hi, Option.bind_some, Option.bind_some]
          dsimp only
          rw [if_pos (by omega), if_pos (by omega), eta_]
          exact out_cons (out_app e (ih l' T d (xs ++ [z]) (by omega) (by omega) (ctx_app h3 e) (by rw [List.length_append, List.length_singleton]; omega) (mem_more hg hgz)) (Nat.zero_le _)) (Nat.zero_le _)
        · rw [show _ = _ from hs, show _ = _ from hi, Option.bind_some, Option.bind_some]
          dsimp only
          rw [if_pos (by omega), if_pos (by omega), eta_, eta_]
          obtain ⟨u, -, u1, -⟩ := pat_end (xs ++ [z])
          obtain ⟨v, -, -, v1⟩ := pat_end (xs ++ [y])
          rw [spec_l3Pattern.l0v_eq, now_bad, Option.bind_some, impl_rexReader_pattern.l0v_eq, take_bad, Option.bind_some]
          dsimp only
          rw [if_neg (by decide), u1, if_neg (by decide), v1]
          exact .inr (.inl ⟨u, v, l', a, rfl, rfl⟩)
        · rw [show _ = _ from hs, show _ = _ from hi, Option.bind_some, Option.bind_some]
          dsimp only
          rw [if_pos (by omega), if_pos (by omega), eta_, eta_]
          obtain ⟨u, -, u1, -⟩ := pat_end (xs ++ [z])
          rw [spec_l3Pattern.l0v_eq, now_bad, Option.bind_some]
          dsimp only
          rw [if_neg (by decide)]
          have hlen := ctx_len h
          rw [List.length_cons] at hlen
          rcases ih l' l' 0 (xs ++ [y]) (by omega) (by omega) (ctx_self l' (by omega)) (by rw [List.length_append, List.length_singleton]; omega) (mem_more hg hgy) with ⟨z2, l2, p2, e2, -, hg2, -, hi2⟩ | ⟨z1, z2, l2, a2, -, hi2⟩ | ⟨z1, z2, l2, a2, hlt2, _⟩
          · have e3 := congrArg List.length e2
            rw [List.length_append] at e3
            exact .inr (.inr ⟨u, z2, l2, a, by omega, by rw [List.length_cons]; omega, hg2, u1 .., hi2⟩)
          · exact .inr (.inl ⟨u, z2, l2, a, u1 .., hi2⟩)
          · exact absurd hlt2 (Nat.not_lt_zero _)
      · rw [take_miss c l 124 h124, Option.bind_some]
        dsimp only
        rw [if_neg (by rw [beq_iff_eq]; exact h124), h1, if_neg (by decide), h2]
        exact .inl ⟨x, c :: l, [], rfl, Nat.le_refl _, hgx (by omega) hg, rfl, rfl⟩
theorem pat_sim (n : Nat) (HP : ∀ (l T : List UInt8) (d : Nat), l.length ≤ n → Ctx T l d → PartS T l d) (l T : List UInt8) (d : Nat) (hn : l.length ≤ n) (h : Ctx T l d) : PatS T l d := by
  unfold PatS
  rw [spec_l3Pattern.fv_eq, impl_rexReader_pattern.fv_eq]
  have hlen := ctx_len h
  rcases HP l T d hn h with ⟨z, l', p, e, hk, hgz, hs, hi⟩ | ⟨z, y, l', a, hs, hi⟩ | ⟨z, y, l', a, hlt, hle, hgy, hs, hi⟩
  · have e3 := congrArg List.length e
    rw [List.length_append] at e3
    rw [show _ = _ from hs, show _ = _ from hi, Option.bind_some, Option.bind_some]
    dsimp only
    rw [eta_]
    exact out_app e (pat_loop n HP _ l' T d [z] (Nat.le_refl _) (by omega) (ctx_app h e) (by rw [List.length_singleton]; omega) (mem_more (xs := []) (by simp) hgz)) (Nat.zero_le _)
  · rw [show _ = _ from hs, show _ = _ from hi, Option.bind_some, Option.bind_some]
    dsimp only
    rw [eta_, eta_]
    obtain ⟨u, -, u1, -⟩ := pat_end [z]
    obtain ⟨v, -, -, v1⟩ := pat_end [y]
    rw [spec_l3Pattern.l0v_eq, now_bad, Option.bind_some, impl_rexReader_pattern.l0v_eq, take_bad, Option.bind_some]
    dsimp only
    rw [if_neg (by decide), u1, if_neg (by decide), v1]
    exact .inr (.inl ⟨u, v, l', a, rfl, rfl⟩)
  · rw [show _ = _ from hs, show _ = _ from hi, Option.bind_some, Option.bind_some]
    dsimp only
    rw [eta_, eta_]
    obtain ⟨u, -, u1, -⟩ := pat_end [z]
    rw [spec_l3Pattern.l0v_eq, now_bad, Option.bind_some]
    dsimp only
    rw [if_neg (by decide)]
    rcases pat_loop n HP _ l' l' 0 [y] (Nat.le_refl _) (by omega) (ctx_self l' (by omega)) (by rw [List.length_singleton]; omega) (mem_more (xs := []) (by simp) hgy) with ⟨z2, l2, p2, e2, -, hg2, -, hi2⟩ | ⟨z1, z2, l2, a2, -, hi2⟩ | ⟨z1, z2, l2, a2, hlt2, _⟩
    · have e3 := congrArg List.length e2
      rw [List.length_append] at e3
      exact .inr (.inr ⟨u, z2, l2, a, by omega, by omega, hg2, u1 .., hi2⟩)
    · exact .inr (.inl ⟨u, z2, l2, a, u1 .., hi2⟩)
    · exact absurd hlt2 (Nat.not_lt_zero _)
theorem all_sim (n : Nat) : ∀ (l T : List UInt8) (d : Nat), l.length < n → Ctx T l d → PatS T l d := by
  induction n with
  | zero => intro l T d h; exact absurd h (Nat.not_lt_zero _)
  | succ n ih =>
    have HA : ∀ (T : List UInt8) (c : UInt8) (l : List UInt8) (d : Nat), l.length < n → Ctx T (c :: l) d → PieceS T (c :: l) d := by
      intro T c l d hl h
      have hlen := ctx_len h
      rw [List.length_cons] at hlen
      exact piece_sim T c l d h (atom_sim T c l d h (ih l T (d + 1) hl (ctx_in h)) (ih l (c :: l) 1 hl (ctx_in (ctx_self (c :: l) (by rw [List.length_cons]; omega)))))
    intro l T d hl h
    exact pat_sim n (fun l T d hl h => part_sim n HA l T d hl h) l T d (by omega) h
/-- both read a text alike -/
theorem parse_both (s : ByteArray) : ∃ (x : S24) (ok : Bool), spec_RexParse.fv s = some (x.f0, x.f1, x.f2, x.f3, x.f4, ok) ∧ impl_RexParse.fv s = some (x.f0, x.f1, x.f2, x.f3, x.f4, ok) := by
  rw [spec_RexParse.fv_eq, impl_RexParse.fv_eq]
  by_cases h60 : (s.size : Int) > 60
  · rw [if_pos h60, if_pos h60]
    exact ⟨⟨0, 0, (⟨#[]⟩ : ByteArray), false, []⟩, false, rfl, rfl⟩
  rw [if_neg h60, if_neg h60]
  have hs : B s.data.toList = s := B_self s
  generalize s.data.toList = l at hs
  subst hs
  rw [B_size] at h60
  have hp0 : (0 : Int) = pl l l := by unfold pl; omega
  have hz : spec_l3Pattern.fv (B l) 0 false 0 = spec_l3Pattern.fv (B l) (pl l l) false ((0 : Nat) : Int) := by rw [← hp0]; rfl
  rw [hz]
  rcases all_sim (l.length + 1) l l 0 (by omega) (ctx_self l (by omega)) with ⟨z, l', p, e, hk, ⟨v, g1, g2⟩, hs, hi⟩ | ⟨z, y, l', a, hs, hi⟩ | ⟨z, y, l', a, hlt, _⟩
  · rw [show _ = _ from hs, show _ = _ from hi, Option.bind_some, Option.bind_some]
    dsimp only
    cases l' with
    | nil =>
      have y1 : pl l [] = ((B l).size : Int) := by rw [pl_nil, B_size]
      simp only [Bool.false_eq_true, if_false, if_pos y1, B_toList, if_true, g1, g2, Option.bind_some]
      by_cases h12 : v > 12
      · rw [if_pos h12]
        exact ⟨⟨0, 0, (⟨#[]⟩ : ByteArray), false, []⟩, false, rfl, rfl⟩
      · rw [if_neg h12]
        exact ⟨z, true, rfl, rfl⟩
    | cons c l' =>
      have e3 := congrArg List.length e
      rw [List.length_append, List.length_cons] at e3
      have y1 : ¬ pl l (c :: l') = ((B l).size : Int) := by unfold pl; rw [List.length_cons, B_size]; omega
      have y2 : ¬ (c :: l') = ([] : List UInt8) := by simp
      simp only [Bool.false_eq_true, if_false, if_neg y1, B_toList, if_neg y2]
      exact ⟨⟨0, 0, (⟨#[]⟩ : ByteArray), false, []⟩, false, rfl, rfl⟩
  · rw [show _ = _ from hs, show _ = _ from hi, Option.bind_some, Option.bind_some]
    dsimp only
    rw [if_pos rfl, if_pos rfl]
    exact ⟨⟨0, 0, (⟨#[]⟩ : ByteArray), false, []⟩, false, rfl, rfl⟩
  · exact absurd hlt (Nat.not_lt_zero _)

/-! marks: texts by number -/
theorem mt_run (d : Nat) : ∀ (n : Int) (s : ByteArray), 0 ≤ n → n ≤ 2000000000 → n < 10 ^ d → s.size + d ≤ 1000000 → ∃ t, laws_markText.l0v n s = some t := by
  induction d with
  | zero =>
    intro n s h0 hm h1 h2
    have : n = 0 := by simp at h1; omega
    subst this
    have h109 : (⟨#[109]⟩ : ByteArray).size = 1 := rfl
    rw [laws_markText.l0v_eq, if_neg (by omega), if_pos (by omega)]
    exact ⟨_, rfl⟩
  | succ d ih =>
    intro n s h0 hm h1 h2
    rw [laws_markText.l0v_eq]
    by_cases h : n > 0
    · have hsz : (strOfNums ([(wrap64 (48 + (Int.tmod n 10))) % 256] : List Int)).size = 1 := by rw [strOfNums_size]; rfl
      have hd : Int.tdiv n 10 = n / 10 := Int.tdiv_eq_ediv_of_nonneg h0
      have hn : n / 10 < 10 ^ d := by
        have : (10 : Int) ^ (d + 1) = 10 ^ d * 10 := Int.pow_succ 10 d
        omega
      have hp : (10 : Int) ^ d ≤ 10 ^ d := Int.le_refl _
      rw [if_pos h]
      try rw [Option.bind_some]
      rw [if_pos (by omega), hd]
      rw [wrap_in (by omega) (by omega)]
      exact ih _ _ (by omega) (by omega) hn (by rw [ByteArray.size_append, hsz]; omega)
    · have h109 : (⟨#[109]⟩ : ByteArray).size = 1 := rfl
      rw [if_neg h, if_pos (by omega)]
      exact ⟨_, rfl⟩
noncomputable def mt (n : Int) : ByteArray := (laws_markText.fv n).getD ⟨#[]⟩
theorem mt_eq (n : Int) (h : 0 < n) (h' : n ≤ 2000000000) : laws_markText.fv n = some (mt n) := by
  obtain ⟨t, ht⟩ : ∃ t, laws_markText.fv n = some t := by
    rw [laws_markText.fv_eq, if_neg (by omega)]
    exact mt_run 12 n _ (by omega) h' (by omega) (by decide)
  rw [mt, ht]
  rfl

/-! ### marks in trees of patterns -/
open Go.Proofs.YtccldchklemogaaW
theorem wrap_small (t : Int) (h : 0 ≤ t) (h' : t ≤ 2000000000) : wrap64 t = t := wrap_in (by omega) (by omega)
mutual
def nd : S24 → Nat
  | ⟨_, _, _, _, l⟩ => 1 + ndL l
def ndL : List S24 → Nat
  | [] => 0
  | x :: xs => nd x + ndL xs
end
theorem nd_eq (x : S24) : nd x = 1 + ndL x.f4 := by cases x; rw [nd]
theorem ndL_app (a b : List S24) : ndL (a ++ b) = ndL a + ndL b := by
  induction a with
  | nil => rw [List.nil_append, ndL, Nat.zero_add]
  | cons x xs ih => rw [List.cons_append, ndL, ndL, ih, Nat.add_assoc]
theorem ndL_one (x : S24) : ndL [x] = nd x := by rw [ndL, ndL, Nat.add_zero]
theorem len_ndL (l : List S24) : l.length ≤ ndL l := by
  induction l with
  | nil => exact Nat.zero_le _
  | cons x xs ih => rw [ndL, nd_eq, List.length_cons]; omega
theorem rd_mid (pre xs : List S24) (x : S24) : rd_T24 (pre ++ x :: xs) (pre.length : Int) = x := by
  unfold rd_T24
  rw [Int.toNat_natCast, List.getD_eq_getElem?_getD, List.getElem?_append_right (Nat.le_refl _), Nat.sub_self]
  rfl
theorem set_mid (pre xs : List S24) (x v : S24) : (pre ++ x :: xs).set pre.length v = pre ++ v :: xs := by
  rw [List.set_append_right _ _ (Nat.le_refl _), Nat.sub_self, List.set_cons_zero]
theorem lt_mid (pre xs : List S24) (x : S24) : ((pre.length : Int) < ((pre ++ x :: xs).length : Int)) = True := by
  rw [List.length_append, List.length_cons]
  exact eq_true (by omega)
theorem app_mid (pre xs : List S24) (x : S24) : pre ++ x :: xs = (pre ++ [x]) ++ xs := by rw [List.append_assoc]; rfl
theorem len_mid (pre : List S24) (x : S24) : ((pre.length : Int) + 1) = ((pre ++ [x]).length : Int) := by rw [List.length_append]; rfl
theorem mark_loop (N : Nat) (ih : ∀ (l : List S24) (n : Int), ndL l ≤ N → 0 < n → n + 4 * (ndL l : Int) ≤ 1000000000 → ∃ l', laws_markRexS.fv l n = some (n + 4 * (ndL l : Int), l') ∧ laws_heldRexS.fv l' n = some (n + 4 * (ndL l : Int))) :
    ∀ (suf pre : List S24) (n : Int), ndL suf ≤ N + 1 → pre.length + suf.length ≤ 1000000000 → 0 < n → n + 4 * (ndL suf : Int) ≤ 1000000000 →
      ∃ suf', laws_markRexS.l0v (pre ++ suf) n (pre.length : Int) = some (n + 4 * (ndL suf : Int), pre ++ suf') ∧ ∀ pre' : List S24, pre'.length = pre.length → laws_heldRexS.l0v (pre' ++ suf') n (pre.length : Int) = some (n + 4 * (ndL suf : Int))
  | [], pre, n, h1, h2, h3, h4 => by
    refine ⟨[], ?_, fun pre' hp => ?_⟩
    · rw [laws_markRexS.l0v_eq, if_neg (by rw [List.append_nil]; omega), ndL]
      simp
    · rw [laws_heldRexS.l0v_eq, if_neg (by rw [List.append_nil]; omega), ndL]
      simp
  | x :: xs, pre, n, h1, h2, h3, h4 => by
    rw [ndL, nd_eq] at h1
    have e5 : (ndL (x :: xs) : Int) = 1 + (ndL x.f4 : Int) + (ndL xs : Int) := by rw [ndL, nd_eq]; omega
    rw [e5] at h4 ⊢
    rw [List.length_cons] at h2
    obtain ⟨k', k1, k2⟩ := ih x.f4 (n + 1 + 1 + 1 + 1) (by omega) (by omega) (by omega)
    obtain ⟨suf', m1, m2⟩ := mark_loop N ih xs (pre ++ [(⟨n, n + 1, mt (n + 1 + 1), (Int.tmod (n + 1 + 1 + 1) 3) == 0, k'⟩ : S24)]) (n + 1 + 1 + 1 + 1 + 4 * (ndL x.f4 : Int)) (by omega) (by rw [List.length_append, List.length_singleton]; omega) (by omega) (by omega)
    refine ⟨(⟨n, n + 1, mt (n + 1 + 1), (Int.tmod (n + 1 + 1 + 1) 3) == 0, k'⟩ : S24) :: suf', ?_, fun pre' hp => ?_⟩
    · rw [laws_markRexS.l0v_eq, if_pos (by rw [lt_mid]; trivial), if_pos (by omega)]
      simp (disch := omega) only [Int.toNat_natCast, Option.bind_some, rd_mid, set_mid, lt_mid, if_true, wrap_small, mt_eq, k1]
      rw [len_mid pre (⟨n, n + 1, mt (n + 1 + 1), (Int.tmod (n + 1 + 1 + 1) 3) == 0, k'⟩ : S24), app_mid pre xs (⟨n, n + 1, mt (n + 1 + 1), (Int.tmod (n + 1 + 1 + 1) 3) == 0, k'⟩ : S24), m1, app_mid pre suf' (⟨n, n + 1, mt (n + 1 + 1), (Int.tmod (n + 1 + 1 + 1) 3) == 0, k'⟩ : S24)]
      rw [show n + 1 + 1 + 1 + 1 + 4 * (ndL x.f4 : Int) + 4 * (ndL xs : Int) = n + 4 * (1 + (ndL x.f4 : Int) + (ndL xs : Int)) by omega]
    · have m2' := m2 (pre' ++ [(⟨n, n + 1, mt (n + 1 + 1), (Int.tmod (n + 1 + 1 + 1) 3) == 0, k'⟩ : S24)]) (by rw [List.length_append, List.length_append, hp])
      rw [← len_mid, ← app_mid] at m2'
      rw [← hp] at m2' ⊢
      rw [laws_heldRexS.l0v_eq, if_pos (by rw [lt_mid]; trivial), if_pos (by omega)]
      simp (disch := omega) only [Option.bind_some, rd_mid, if_true, wrap_small, mt_eq, k2]
      rw [if_neg (by omega), m2']
      rw [show n + 1 + 1 + 1 + 1 + 4 * (ndL x.f4 : Int) + 4 * (ndL xs : Int) = n + 4 * (1 + (ndL x.f4 : Int) + (ndL xs : Int)) by omega]
theorem mark_tree (N : Nat) : ∀ (l : List S24) (n : Int), ndL l ≤ N → 0 < n → n + 4 * (ndL l : Int) ≤ 1000000000 → ∃ l', laws_markRexS.fv l n = some (n + 4 * (ndL l : Int), l') ∧ laws_heldRexS.fv l' n = some (n + 4 * (ndL l : Int)) := by
  induction N with
  | zero =>
    intro l n h1 h2 h3
    have hl : l = [] := List.length_eq_zero_iff.1 (by have := len_ndL l; omega)
    subst hl
    refine ⟨[], ?_, ?_⟩
    · rw [laws_markRexS.fv_eq, laws_markRexS.l0v_eq, if_neg (by simp), ndL]; simp
    · rw [laws_heldRexS.fv_eq, laws_heldRexS.l0v_eq, if_neg (by simp), ndL]; simp
  | succ N ih =>
    intro l n h1 h2 h3
    have hll := len_ndL l
    obtain ⟨l', m1, m2⟩ := mark_loop N ih l [] n h1 (by rw [List.length_nil]; omega) h2 h3
    refine ⟨l', ?_, ?_⟩
    · rw [laws_markRexS.fv_eq]; exact m1
    · rw [laws_heldRexS.fv_eq]; exact m2 [] rfl

theorem eq_loop (N : Nat) (ih : ∀ (l : List S24), ndL l ≤ N → ndL l ≤ 1000000000 → laws_eqRexS.fv l l = some true) (suf : List S24) :
    ∀ pre : List S24, ndL suf ≤ N + 1 → ndL suf ≤ 1000000000 → pre.length + suf.length ≤ 1000000000 → laws_eqRexS.l0v (pre ++ suf) (pre ++ suf) (pre.length : Int) = some true := by
  induction suf with
  | nil => intro pre h1 h2 h3; rw [laws_eqRexS.l0v_eq, if_neg (by rw [List.append_nil]; omega)]
  | cons x xs ihs =>
    intro pre h1 h2 h3
    rw [ndL, nd_eq] at h1 h2
    rw [List.length_cons] at h3
    have k := ih x.f4 (by omega) (by omega)
    have r := ihs (pre ++ [x]) (by omega) (by omega) (by rw [List.length_append, List.length_singleton]; omega)
    rw [← len_mid, ← app_mid] at r
    rw [laws_eqRexS.l0v_eq, if_pos (by rw [lt_mid]; trivial), if_pos (by omega), if_pos (by rw [lt_mid]; trivial), rd_mid, laws_eqRex.fv_eq]
    rw [if_pos rfl, if_pos rfl, if_pos rfl, if_pos rfl, k, Option.bind_some, if_pos rfl, Option.bind_some, if_pos rfl, wrap_small _ (by omega) (by omega), r]
theorem eq_tree (N : Nat) : ∀ (l : List S24), ndL l ≤ N → ndL l ≤ 1000000000 → laws_eqRexS.fv l l = some true := by
  induction N with
  | zero =>
    intro l h1 h2
    have hl : l = [] := List.length_eq_zero_iff.1 (by have := len_ndL l; omega)
    subst hl
    rw [laws_eqRexS.fv_eq, if_pos rfl, laws_eqRexS.l0v_eq, if_neg (by simp)]
  | succ N ih =>
    intro l h1 h2
    have hll := len_ndL l
    rw [laws_eqRexS.fv_eq, if_pos rfl]
    exact eq_loop N ih l [] h1 h2 (by rw [List.length_nil]; omega)

/-! ### how large a pattern is -/
theorem ext1 (s : ByteArray) : (s.extract 1 s.size).size = s.size - 1 := by rw [ByteArray.size_extract]; omega
theorem ext_le (s : ByteArray) (a b : Nat) : (s.extract a b).size ≤ s.size := by rw [ByteArray.size_extract]; omega
theorem next_post {s : ByteArray} {b : Bool} {r : Int × Bool × ByteArray × Bool} (h : impl_rexReader_next.f s b = some r) : r.2.2.1 = s := by
  unfold impl_rexReader_next.f at h
  repeat' split at h
  all_goals first | (cases h; rfl) | cases h
theorem take_post {s : ByteArray} {b : Bool} {a : Int} {r : Bool × ByteArray × Bool} (h : impl_rexReader_take.f s b a = some r) : r.2.1.size ≤ s.size ∧ (r.1 = true → r.2.1.size + 1 = s.size) := by
  unfold impl_rexReader_take.f at h
  obtain ⟨t, h1, h⟩ := Option.bind_eq_some_iff.1 h
  have e := next_post h1
  repeat' split at h
  · rename_i hh; cases h; dsimp only; rw [ext1, e]; rw [e] at hh; exact ⟨by omega, fun _ => by omega⟩
  · cases h
  · cases h; dsimp only; rw [e]; exact ⟨Nat.le_refl _, fun h => by cases h⟩
  · cases h; dsimp only; rw [e]; exact ⟨Nat.le_refl _, fun h => by cases h⟩
def SetP : (q : impl_rexReader_set.Q) → (Int × Int × ByteArray × Bool × (List S24) × ByteArray × Bool) → Prop
  | .f s _, r => r.2.2.2.2.1 = [] ∧ r.2.2.2.2.2.1.size ≤ s.size
  | .l0 _ _ _ y s _ _ _ _ _, r => r.2.2.2.2.1 = y ∧ r.2.2.2.2.2.1 = s
  | .j1 _ _ _ _ _ _ y s _ _ _ _ _, r => r.2.2.2.2.1 = y ∧ r.2.2.2.2.2.1 = s
  | .j2 _ _ _ _ _ y s _ _ _ _ _, r => r.2.2.2.2.1 = y ∧ r.2.2.2.2.2.1 = s
  | .l1 _ _ _ _ _ y s _ _ _ _ _, r => r.2.2.2.2.1 = y ∧ r.2.2.2.2.2.1 = s
  | .l2 _ _ _ _ y s _ _ _ _ _, r => r.2.2.2.2.1 = y ∧ r.2.2.2.2.2.1 = s
theorem set_post : ∀ (k : Nat) (q : impl_rexReader_set.Q) (r : Int × Int × ByteArray × Bool × (List S24) × ByteArray × Bool), Pgs.run impl_rexReader_set.B k q = some r → SetP q r
  | 0, q, r, h => (Pgs.run_zero h).elim
  | k + 1, q, r, h => by
    rw [Pgs.run_succ] at h
    cases q
    case f s b =>
      simp only [impl_rexReader_set.B, Pgs.ev_ite, Pgs.ev_opt, Pgs.ev_to, Pgs.ev_ret, Pgs.ev_bad] at h
      obtain ⟨t, h1, h⟩ := Option.bind_eq_some_iff.1 h
      obtain ⟨hp1, _⟩ := take_post h1
      obtain ⟨u, h2, h⟩ := Option.bind_eq_some_iff.1 h
      repeat' split at h
      all_goals first
        | (cases h; done)
        | (cases h; exact ⟨rfl, hp1⟩)
        | (have h9 := set_post k _ r h
           refine ⟨h9.1, ?_⟩
           rw [h9.2]
           exact Nat.le_trans (ext_le _ _ _) hp1)
    all_goals
      simp only [impl_rexReader_set.B, Pgs.ev_ite, Pgs.ev_opt, Pgs.ev_to, Pgs.ev_ret, Pgs.ev_bad] at h
      repeat' split at h
      all_goals first
        | (cases h; done)
        | (cases h; exact ⟨rfl, rfl⟩)
        | (have h9 := set_post k _ _ h
           exact h9)
theorem set_size {s : ByteArray} {b : Bool} {r : Int × Int × ByteArray × Bool × (List S24) × ByteArray × Bool} (h : impl_rexReader_set.fv s b = some r) : r.2.2.2.2.1 = [] ∧ r.2.2.2.2.2.1.size ≤ s.size := by
  obtain ⟨k, hk⟩ := Pgs.lim_ex (show Pgs.lim impl_rexReader_set.B (.f s b) = some r from h)
  exact set_post k _ r hk
def PatP : (q : impl_rexReader_pattern.Q) → (Int × Int × ByteArray × Bool × (List S24) × ByteArray × Bool) → Prop
  | .impl_rexReader_pattern_f s _, r => 1 + ndL r.2.2.2.2.1 + 4 * r.2.2.2.2.2.1.size ≤ 4 * s.size + 2
  | .impl_rexReader_pattern_l0 xs s _, r => 1 + ndL r.2.2.2.2.1 + 4 * r.2.2.2.2.2.1.size ≤ 4 * s.size + ndL xs + 1
  | .impl_rexReader_part_f s _, r => 1 + ndL r.2.2.2.2.1 + 4 * r.2.2.2.2.2.1.size ≤ 4 * s.size + 1
  | .impl_rexReader_part_j1 xs s _, r => 1 + ndL r.2.2.2.2.1 + 4 * r.2.2.2.2.2.1.size ≤ 4 * s.size + ndL xs + 1
  | .impl_rexReader_part_l0 xs s _, r => 1 + ndL r.2.2.2.2.1 + 4 * r.2.2.2.2.2.1.size ≤ 4 * s.size + ndL xs + 1
  | .impl_rexReader_piece_f s _, r => 1 + ndL r.2.2.2.2.1 + 4 * r.2.2.2.2.2.1.size + 2 ≤ 4 * s.size
  | .impl_rexReader_piece_l0 y s _ _ _ _ _, r => 1 + ndL r.2.2.2.2.1 + 4 * r.2.2.2.2.2.1.size ≤ 4 * s.size + ndL y + 1
  | .impl_rexReader_atom_f s _, r => 1 + ndL r.2.2.2.2.1 + 4 * r.2.2.2.2.2.1.size + 2 ≤ 4 * s.size
theorem rd_zero {xs : List S24} (h : (xs.length : Int) = 1) : 1 + ndL (rd_T24 xs 0).f4 = ndL xs := by
  obtain ⟨y, rfl⟩ : ∃ y, xs = [y] := List.length_eq_one_iff.1 (by omega)
  rw [ndL_one, nd_eq]
  rfl
theorem atom_post (k : Nat) (ih : ∀ (q : impl_rexReader_pattern.Q) (r : Int × Int × ByteArray × Bool × (List S24) × ByteArray × Bool), Pgs.run impl_rexReader_pattern.B k q = some r → PatP q r) (s : ByteArray) (b : Bool) (r : Int × Int × ByteArray × Bool × (List S24) × ByteArray × Bool)
    (h : Pgs.run impl_rexReader_pattern.B (k + 1) (.impl_rexReader_atom_f s b) = some r) : PatP (.impl_rexReader_atom_f s b) r := by
  have e0 : ndL ([] : List S24) = 0 := by rw [ndL]
  rw [Pgs.run_succ, impl_rexReader_pattern.B] at h
  obtain ⟨t, h1, h⟩ := Pgs.evO h
  have e := next_post h1
  rcases Pgs.evI h with ⟨hh, h⟩ | ⟨_, h⟩
  rotate_left
  · cases h
  rw [e] at hh
  have e1 : (t.2.2.1.extract 1 t.2.2.1.size).size = s.size - 1 := by rw [ext1, e]
  have leaf : ∀ (a b' : Int) (c : ByteArray) (d f : Bool) (s' : ByteArray), s'.size ≤ s.size - 1 → PatP (.impl_rexReader_atom_f s b) (a, b', c, d, ([] : List S24), s', f) := fun a b' c d f s' hs => by
    simp only [PatP, e0]; omega
  rcases Pgs.evI h with ⟨_, h⟩ | ⟨_, h⟩
  · obtain ⟨u, h2, h⟩ := Pgs.evA h
    have a1 := ih _ _ h2
    obtain ⟨v, h3, h⟩ := Pgs.evO h
    obtain ⟨p1, _⟩ := take_post h3
    simp only [PatP, e1] at a1
    rcases Pgs.evI h with ⟨_, h⟩ | ⟨_, h⟩
    · cases Pgs.evR h; simp only [PatP]; omega
    · cases Pgs.evR h; simp only [PatP]; omega
  rcases Pgs.evI h with ⟨_, h⟩ | ⟨_, h⟩
  · cases Pgs.evR h; exact leaf _ _ _ _ _ _ (by rw [e1]; exact Nat.le_refl _)
  rcases Pgs.evI h with ⟨_, h⟩ | ⟨_, h⟩
  · cases Pgs.evR h; exact leaf _ _ _ _ _ _ (by rw [e1]; exact Nat.le_refl _)
  rcases Pgs.evI h with ⟨_, h⟩ | ⟨_, h⟩
  · cases Pgs.evR h; exact leaf _ _ _ _ _ _ (by rw [e1]; exact Nat.le_refl _)
  rcases Pgs.evI h with ⟨_, h⟩ | ⟨_, h⟩
  · obtain ⟨u, h2, h⟩ := Pgs.evO h
    obtain ⟨q1, q2⟩ := set_size h2
    rw [e1] at q2
    cases Pgs.evR h
    rw [q1]
    exact leaf _ _ _ _ _ _ q2
  rcases Pgs.evI h with ⟨_, h⟩ | ⟨_, h⟩
  · obtain ⟨u, h2, h⟩ := Pgs.evO h
    have e2 := next_post h2
    rcases Pgs.evI h with ⟨_, h⟩ | ⟨_, h⟩
    · rcases Pgs.evI h with ⟨_, h⟩ | ⟨_, h⟩
      · cases Pgs.evR h; exact leaf _ _ _ _ _ _ (by rw [ext1, e2, e1]; omega)
      · cases h
    · cases Pgs.evR h; exact leaf _ _ _ _ _ _ (by rw [e2, e1]; exact Nat.le_refl _)
  rcases Pgs.evI h with ⟨_, h⟩ | ⟨_, h⟩
  · cases Pgs.evR h; exact leaf _ _ _ _ _ _ (by rw [e1]; exact Nat.le_refl _)
  rcases Pgs.evI h with ⟨_, h⟩ | ⟨_, h⟩
  · cases Pgs.evR h; exact leaf _ _ _ _ _ _ (by rw [e1]; exact Nat.le_refl _)
  rcases Pgs.evI h with ⟨_, h⟩ | ⟨_, h⟩
  · cases Pgs.evR h; exact leaf _ _ _ _ _ _ (by rw [e1]; exact Nat.le_refl _)
  cases Pgs.evR h; exact leaf _ _ _ _ _ _ (by rw [e1]; exact Nat.le_refl _)
theorem pat_post : ∀ (k : Nat) (q : impl_rexReader_pattern.Q) (r : Int × Int × ByteArray × Bool × (List S24) × ByteArray × Bool), Pgs.run impl_rexReader_pattern.B k q = some r → PatP q r
  | 0, q, r, h => (Pgs.run_zero h).elim
  | k + 1, q, r, h => by
    rw [Pgs.run_succ] at h
    have e0 : ndL ([] : List S24) = 0 := by rw [ndL]
    cases q
    case impl_rexReader_pattern_f s b =>
      simp only [impl_rexReader_pattern.B, Pgs.ev_ite, Pgs.ev_opt, Pgs.ev_to, Pgs.ev_ret, Pgs.ev_bad, Pgs.ev_ask] at h
      obtain ⟨t, h1, h⟩ := Option.bind_eq_some_iff.1 h
      have a1 := pat_post k _ _ h1
      have a2 := pat_post k _ _ h
      simp only [PatP, ndL_one, nd_eq] at a1 a2 ⊢
      omega
    case impl_rexReader_pattern_l0 xs s b =>
      simp only [impl_rexReader_pattern.B, Pgs.ev_ite, Pgs.ev_opt, Pgs.ev_to, Pgs.ev_ret, Pgs.ev_bad, Pgs.ev_ask] at h
      obtain ⟨t, h1, h⟩ := Option.bind_eq_some_iff.1 h
      obtain ⟨p1, p2⟩ := take_post h1
      split at h
      · rename_i hc
        have p3 := p2 hc
        obtain ⟨u, h2, h⟩ := Option.bind_eq_some_iff.1 h
        split at h
        · have a1 := pat_post k _ _ h2
          have a2 := pat_post k _ _ h
          simp only [PatP, ndL_app, ndL_one, nd_eq] at a1 a2 ⊢
          omega
        · cases h
      · split at h
        · rename_i hl
          have := rd_zero hl
          split at h
          · cases h; simp only [PatP]; omega
          · cases h
        · cases h; simp only [PatP]; omega
    case impl_rexReader_part_f s b =>
      simp only [impl_rexReader_pattern.B, Pgs.ev_ite, Pgs.ev_opt, Pgs.ev_to, Pgs.ev_ret, Pgs.ev_bad, Pgs.ev_ask] at h
      have a2 := pat_post k _ _ h
      simp only [PatP, e0] at a2 ⊢
      omega
    case impl_rexReader_part_j1 xs s b =>
      simp only [impl_rexReader_pattern.B, Pgs.ev_ite, Pgs.ev_opt, Pgs.ev_to, Pgs.ev_ret, Pgs.ev_bad, Pgs.ev_ask] at h
      split at h
      · cases h; simp only [PatP, e0]; omega
      · split at h
        · rename_i hl
          have := rd_zero hl
          split at h
          · cases h; simp only [PatP]; omega
          · cases h
        · cases h; simp only [PatP]; omega
    case impl_rexReader_part_l0 xs s b =>
      simp only [impl_rexReader_pattern.B, Pgs.ev_ite, Pgs.ev_opt, Pgs.ev_to, Pgs.ev_ret, Pgs.ev_bad, Pgs.ev_ask] at h
      obtain ⟨t, h1, h⟩ := Option.bind_eq_some_iff.1 h
      have e := next_post h1
      split at h
      · split at h
        · have a2 := pat_post k _ _ h
          simp only [PatP, e] at a2 ⊢
          omega
        · split at h
          · have a2 := pat_post k _ _ h
            simp only [PatP, e] at a2 ⊢
            omega
          · obtain ⟨u, h2, h⟩ := Option.bind_eq_some_iff.1 h
            split at h
            · have a1 := pat_post k _ _ h2
              have a2 := pat_post k _ _ h
              simp only [PatP, ndL_app, ndL_one, nd_eq, e] at a1 a2 ⊢
              omega
            · cases h
      · have a2 := pat_post k _ _ h
        simp only [PatP, e] at a2 ⊢
        omega
    case impl_rexReader_piece_f s b =>
      simp only [impl_rexReader_pattern.B, Pgs.ev_ite, Pgs.ev_opt, Pgs.ev_to, Pgs.ev_ret, Pgs.ev_bad, Pgs.ev_ask] at h
      obtain ⟨t, h1, h⟩ := Option.bind_eq_some_iff.1 h
      have a1 := pat_post k _ _ h1
      have a2 := pat_post k _ _ h
      simp only [PatP] at a1 a2 ⊢
      omega
    case impl_rexReader_piece_l0 y s b x0 x1 x2 x3 =>
      simp only [impl_rexReader_pattern.B, Pgs.ev_ite, Pgs.ev_opt, Pgs.ev_to, Pgs.ev_ret, Pgs.ev_bad, Pgs.ev_ask] at h
      obtain ⟨t, h1, h⟩ := Option.bind_eq_some_iff.1 h
      have e := next_post h1
      split at h
      · obtain ⟨u, h2, h⟩ := Option.bind_eq_some_iff.1 h
        split at h
        · cases h; simp only [PatP, e]; omega
        · split at h
          · rename_i hh
            rw [e] at hh
            obtain ⟨v, h3, h⟩ := Option.bind_eq_some_iff.1 h
            have a2 := pat_post k _ _ h
            simp only [PatP, ndL_one, nd_eq, e, ext1] at a2 ⊢
            omega
          · cases h
      · cases h; simp only [PatP, e]; omega
    case impl_rexReader_atom_f s b => exact atom_post k (fun q r h => pat_post k q r h) s b r (by rw [Pgs.run_succ]; exact h)
theorem parse_size {s : ByteArray} {r : Int × Int × ByteArray × Bool × (List S24) × Bool} (h : impl_RexParse.fv s = some r) : ndL r.2.2.2.2.1 ≤ 300 := by
  have e0 : ndL ([] : List S24) = 0 := by rw [ndL]
  rw [impl_RexParse.fv_eq] at h
  split at h
  · cases h; rw [e0]; omega
  · rename_i h60
    obtain ⟨t, h1, h⟩ := Option.bind_eq_some_iff.1 h
    obtain ⟨k, hk⟩ := Pgs.lim_ex (show Pgs.lim impl_rexReader_pattern.B (.impl_rexReader_pattern_f s false) = some t from h1)
    have a1 := pat_post k _ _ hk
    simp only [PatP] at a1
    split at h
    · cases h; rw [e0]; omega
    · split at h
      · obtain ⟨u, h2, h⟩ := Option.bind_eq_some_iff.1 h
        split at h
        · cases h; rw [e0]; omega
        · cases h; dsimp only; omega
      · cases h; rw [e0]; omega
end FnExactRexParseAid
open FnExactRexParseAid

theorem FnExactRexParse : laws_FnExactRexParse.Pure := by
  intro s hs
  rw [laws_FnExactRexParse.fv_eq]
  split
  · rfl
  obtain ⟨x, ok, p1, p2⟩ := parse_both s
  have hz := parse_size p2
  dsimp only at hz
  have he := eq_tree _ x.f4 (Nat.le_refl _) (by omega)
  have heq : laws_eqRex.fv x.f0 x.f1 x.f2 x.f3 x.f4 x.f0 x.f1 x.f2 x.f3 x.f4 = some true := by
    rw [laws_eqRex.fv_eq, if_pos rfl, if_pos rfl, if_pos rfl, if_pos rfl, he, Option.bind_some, if_pos rfl]
  obtain ⟨l', m1, m2⟩ := mark_tree _ x.f4 1 (Nat.le_refl _) (by omega) (by omega)
  have hm : laws_markRex.fv x.f0 x.f1 x.f2 x.f3 x.f4 1 = some (1 + 4 * (ndL x.f4 : Int), l') := by
    rw [laws_markRex.fv_eq, m1]; rfl
  have hh : laws_heldRex.fv x.f0 x.f1 x.f2 x.f3 l' 1 = some (1 + 4 * (ndL x.f4 : Int)) := by
    rw [laws_heldRex.fv_eq, m2, Option.bind_some, if_neg (by omega)]
  rw [p1, Option.bind_some, p2, Option.bind_some]
  dsimp only
  rw [heq, Option.bind_some, if_pos rfl, laws_FnExactRexParse.j1v_eq, if_neg (by simp), laws_FnExactRexParse.j0v_eq, hm, Option.bind_some]
  dsimp only
  rw [hh, Option.bind_some, if_neg (by omega), if_pos rfl, p2, Option.bind_some]
  dsimp only
  rw [heq, Option.bind_some, if_pos rfl, laws_FnExactRexParse.j3v_eq, if_neg (by simp), laws_FnExactRexParse.j2v_eq, hh, Option.bind_some, if_neg (by omega), if_pos rfl]

end Go.Proofs.Ytccldchklemogaa.Pure
