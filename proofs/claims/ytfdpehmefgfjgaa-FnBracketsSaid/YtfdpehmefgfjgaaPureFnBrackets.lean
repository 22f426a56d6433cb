/- A drawn pattern in brackets is that pattern, if it is short enough still. -/
import Derived.Test.YtfdpehmefgfjgaaFFnBrackets
import Derived.Test.YtfdpehmefgfjgaaBulk
set_option linter.unusedVariables false
set_option linter.unusedSimpArgs false
namespace Go.Proofs.Ytfdpehmefgfjgaa.Pure
open Go.RowKit Go.Proofs.Ytfdpehmefgfjgaa.QFnBrackets Go.Proofs.YtfdpehmefgfjgaaW.PrintWords Go.Proofs.YtfdpehmefgfjgaaW.PrintLast Go.Proofs.YtfdpehmefgfjgaaW.PrintMore Go.Proofs.YtfdpehmefgfjgaaW.Lims
open Go.Proofs.YtfdpehmefgfjgaaW.Bulk
namespace FnBracketsAid

theorem rdin82 (xs : List S82) (i : Nat) (h : i < xs.length) : rd_T82 xs (i : Int) = xs[i] := by
  unfold rd_T82
  simp [List.getD_eq_getElem?_getD, h]


/-! ### texts as rows of bytes -/
def B (l : List UInt8) : ByteArray := ⟨l.toArray⟩
theorem B_self (s : ByteArray) : B s.data.toList = s := by cases s; simp [B]
theorem B_size (l : List UInt8) : (B l).size = l.length := by show l.toArray.size = l.length; simp
theorem B_data (l : List UInt8) : (B l).data.toList = l := by simp [B]
theorem B_append (a b : List UInt8) : B a ++ B b = B (a ++ b) := by
  apply ByteArray.ext
  rw [ByteArray.data_append]
  simp [B]
theorem B_inj {a b : List UInt8} (h : B a = B b) : a = b := by
  have := congrArg (fun s : ByteArray => s.data.toList) h
  simpa [B] using this
theorem B_extract (l : List UInt8) (i j : Nat) : (B l).extract i j = B ((l.drop i).take (j - i)) := by rw [Lib.extract_eq, B_data]; rfl
theorem B_toList (l : List UInt8) : (B l).toList = l := by rw [Lib.toList_data, B_data]
theorem B_bt (l : List UInt8) (i : Nat) (h : i < l.length) : bt (B l) (i : Int) = (l[i].toNat : Int) := by
  have h' : (i : Int).toNat < (B l).size := by rw [Int.toNat_natCast, B_size]; exact h
  rw [← bt_at (B l) i h']
  rfl
theorem wrap_in {n : Int} (h0 : -9223372036854775808 ≤ n) (h1 : n ≤ 9223372036854775807) : wrap64 n = n := by unfold wrap64; omega
theorem byte_is (b c : UInt8) (n : Int) (hc : (c.toNat : Int) = n) : ((b.toNat : Int) = n) ↔ b = c := by
  rw [← UInt8.toNat_inj, ← hc]; omega
theorem byte_ofNat (n : Nat) (h : n < 256) : (UInt8.ofNat n).toNat = n := by rw [UInt8.toNat_ofNat']; omega

/-! ### two readers of patterns: what both see -/
theorem next_nil (b : Bool) : impl_rexReader_next.f (B []) b = some (0, false, B [], b) := by
  unfold impl_rexReader_next.f
  rw [B_toList, if_pos rfl]
theorem next_bad (l : List UInt8) : impl_rexReader_next.f (B l) true = some (0, false, B l, true) := by
  unfold impl_rexReader_next.f
  split
  · rfl
  · rw [if_pos rfl]
theorem next_cons (c : UInt8) (l : List UInt8) : impl_rexReader_next.f (B (c :: l)) false = some ((c.toNat : Int), true, B (c :: l), false) := by
  unfold impl_rexReader_next.f
  have e : bt (B (c :: l)) ((0 : Nat) : Int) = (c.toNat : Int) := B_bt _ 0 (by simp)
  rw [B_toList, if_neg (by simp), if_neg (by decide), if_pos (by rw [B_size, List.length_cons]; omega)]
  rw [show ((0 : Nat) : Int) = 0 from rfl] at e
  rw [e]
theorem rest_of (c : UInt8) (l : List UInt8) : (B (c :: l)).extract 1 (B (c :: l)).size = B l := by rw [B_extract, B_size]; simp
theorem one_in (c : UInt8) (l : List UInt8) : 1 ≤ ((B (c :: l)).size : Int) := by rw [B_size, List.length_cons]; omega
theorem take_nil (b : Bool) (ch : Int) : impl_rexReader_take.f (B []) b ch = some (false, B [], b) := by
  unfold impl_rexReader_take.f
  rw [next_nil, Option.bind_some, if_neg (by simp)]
theorem take_bad (l : List UInt8) (ch : Int) : impl_rexReader_take.f (B l) true ch = some (false, B l, true) := by
  unfold impl_rexReader_take.f
  rw [next_bad, Option.bind_some, if_neg (by simp)]
theorem take_hit (c : UInt8) (l : List UInt8) (ch : Int) (h : (c.toNat : Int) = ch) : impl_rexReader_take.f (B (c :: l)) false ch = some (true, B l, false) := by
  unfold impl_rexReader_take.f
  rw [next_cons, Option.bind_some, if_pos rfl, if_pos h, if_pos (one_in c l), rest_of]
theorem take_miss (c : UInt8) (l : List UInt8) (ch : Int) (h : ¬ (c.toNat : Int) = ch) : impl_rexReader_take.f (B (c :: l)) false ch = some (false, B (c :: l), false) := by
  unfold impl_rexReader_take.f
  rw [next_cons, Option.bind_some, if_pos rfl, if_neg h]
/-- where a rest of T begins -/
def pl (T l : List UInt8) : Int := ((T.length - l.length : Nat) : Int)
def Ctx (T l : List UInt8) (d : Nat) : Prop := ∃ pre, T = pre ++ l ∧ d ≤ pre.length ∧ T.length ≤ 60
theorem ctx_bt {T l : List UInt8} {c : UInt8} {d : Nat} (h : Ctx T (c :: l) d) : bt (B T) (pl T (c :: l)) = (c.toNat : Int) := by
  obtain ⟨pre, rfl, _, _⟩ := h
  have e : pl (pre ++ c :: l) (c :: l) = ((pre.length : Nat) : Int) := by unfold pl; simp
  rw [e, B_bt _ pre.length (by simp)]
  simp
theorem pl_ge (T l : List UInt8) : 0 ≤ pl T l := by unfold pl; omega
theorem ctx_lt {T l : List UInt8} {c : UInt8} {d : Nat} (h : Ctx T (c :: l) d) : pl T (c :: l) < ((B T).size : Int) := by
  obtain ⟨pre, rfl, _, _⟩ := h
  unfold pl
  rw [B_size, List.length_append, List.length_cons]
  omega
theorem ctx_next {T l : List UInt8} {c : UInt8} {d : Nat} (h : Ctx T (c :: l) d) : wrap64 (pl T (c :: l) + 1) = pl T l := by
  obtain ⟨pre, rfl, _, h3⟩ := h
  unfold pl
  rw [List.length_append, List.length_cons] at h3 ⊢
  rw [wrap_in (by omega) (by omega)]
  omega
theorem pl_nil (T : List UInt8) : pl T [] = (T.length : Int) := by unfold pl; simp
theorem ctx_drop {T l : List UInt8} {d : Nat} (h : Ctx T l d) (k : Nat) : Ctx T (l.drop k) d := by
  obtain ⟨pre, rfl, h2, h3⟩ := h
  exact ⟨pre ++ l.take k, by rw [List.append_assoc, List.take_append_drop], by rw [List.length_append]; omega, h3⟩
theorem ctx_tail {T l : List UInt8} {c : UInt8} {d : Nat} (h : Ctx T (c :: l) d) : Ctx T l d := ctx_drop h 1
theorem ctx_in {T l : List UInt8} {c : UInt8} {d : Nat} (h : Ctx T (c :: l) d) : Ctx T l (d + 1) := by
  obtain ⟨pre, rfl, h2, h3⟩ := h
  exact ⟨pre ++ [c], by simp, by rw [List.length_append, List.length_singleton]; omega, h3⟩
theorem ctx_len {T l : List UInt8} {d : Nat} (h : Ctx T l d) : d + l.length ≤ 60 := by
  obtain ⟨pre, rfl, h2, h3⟩ := h
  rw [List.length_append] at h3
  omega
theorem now_bad (T : List UInt8) (at_ ch : Int) : spec_l3Now.f (B T) at_ true ch = some (false, B T, at_, true) := by
  unfold spec_l3Now.f
  rw [if_pos rfl]
theorem now_end (T : List UInt8) (ch : Int) : spec_l3Now.f (B T) (pl T []) false ch = some (false, B T, pl T [], false) := by
  unfold spec_l3Now.f
  rw [if_neg (by decide), pl_nil, if_neg (by rw [B_size]; omega)]
theorem now_cons {T l : List UInt8} {c : UInt8} {d : Nat} (h : Ctx T (c :: l) d) (ch : Int) : spec_l3Now.f (B T) (pl T (c :: l)) false ch = some (((c.toNat : Int) == ch), B T, pl T (c :: l), false) := by
  unfold spec_l3Now.f
  rw [if_neg (by decide), if_pos (ctx_lt h), if_pos (pl_ge _ _), ctx_bt h]
def IR (o : Option (Int × Int × ByteArray × Bool × List S26 × ByteArray × Bool)) (x : S26) (l : List UInt8) (b : Bool) : Prop := o = some (x.f0, x.f1, x.f2, x.f3, x.f4, B l, b)
def SR (T : List UInt8) (o : Option (Int × Int × ByteArray × Bool × List S26 × ByteArray × Int × Bool)) (x : S26) (a : Int) (b : Bool) : Prop := o = some (x.f0, x.f1, x.f2, x.f3, x.f4, B T, a, b)
/-! ### sets -/
theorem mark_both (n : Nat) : ∀ (has : List Bool) (lo hi : Int), (hi + 1 - lo).toNat = n → 0 ≤ lo → hi ≤ 255 → has.length = 256 → ∃ has' : List Bool, has'.length = 256 ∧
    (∀ x5 x7 S c p q s f, impl_rexReader_set.l1v x5 has x7 hi lo S c p q s f = impl_rexReader_set.l0v x5 has' (wrap64 (x7 + 1)) S c p q s f) ∧
    (∀ m T a c p q s f, spec_l3Set.l1v has m hi lo T a c p q s f = spec_l3Set.l0v has' (wrap64 (m + 1)) T a c p q s f) := by
  induction n with
  | zero =>
    intro has lo hi h1 h2 h3 h4
    refine ⟨has, h4, fun x5 x7 S c p q s f => ?_, fun m T a c p q s f => ?_⟩
    · rw [impl_rexReader_set.l1v_eq, if_neg (by omega)]
    · rw [spec_l3Set.l1v_eq, if_neg (by omega)]
  | succ n ih =>
    intro has lo hi h1 h2 h3 h4
    obtain ⟨has', e1, e2, e3⟩ := ih (has.set lo.toNat true) (lo + 1) hi (by omega) (by omega) h3 (by rw [List.length_set]; exact h4)
    refine ⟨has', e1, fun x5 x7 S c p q s f => ?_, fun m T a c p q s f => ?_⟩
    · rw [impl_rexReader_set.l1v_eq, if_pos (by omega), if_pos h2, if_pos (by omega), wrap_in (n := lo + 1) (by omega) (by omega)]
      exact e2 x5 x7 S c p q s f
    · rw [spec_l3Set.l1v_eq, if_pos (by omega), if_pos h2, if_pos (by omega), wrap_in (n := lo + 1) (by omega) (by omega)]
      exact e3 m T a c p q s f
theorem out_both (has : List Bool) (hh : has.length = 256) (n : Nat) : ∀ (i : Nat) (out : List Int), 256 - i = n → i ≤ 256 → out.length ≤ i → ∃ out' : List Int,
    (∀ S c p q s f, impl_rexReader_set.l2v out has 256 (i : Int) S c p q s f = some (p, q, strOfNums out', f, [], S, c)) ∧
    (∀ T a c p q s f, spec_l3Set.l2v has out (i : Int) T a c p q s f = some (p, q, strOfNums out', f, [], T, a, c)) := by
  induction n with
  | zero =>
    intro i out h1 h2 h3
    refine ⟨out, fun S c p q s f => ?_, fun T a c p q s f => ?_⟩
    · rw [impl_rexReader_set.l2v_eq, if_neg (by omega)]
    · rw [spec_l3Set.l2v_eq, if_neg (by omega)]
  | succ n ih =>
    intro i out h1 h2 h3
    have hw : wrap64 ((i : Int) + 1) = ((i + 1 : Nat) : Int) := by rw [wrap_in (by omega) (by omega)]; omega
    by_cases h : rdOf false has (i : Int) = true
    · obtain ⟨out', e1, e2⟩ := ih (i + 1) (out ++ [(i : Int) % 256]) (by omega) (by omega) (by simp; omega)
      refine ⟨out', fun S c p q s f => ?_, fun T a c p q s f => ?_⟩
      · rw [impl_rexReader_set.l2v_eq, if_pos (by omega), if_pos (by omega), if_pos (by omega), if_pos h, if_pos (by omega), hw]
        exact e1 S c p q s f
      · rw [spec_l3Set.l2v_eq, if_pos (by omega), if_pos (by omega), if_pos (by omega), if_pos h, if_pos (by omega), hw]
        exact e2 T a c p q s f
    · obtain ⟨out', e1, e2⟩ := ih (i + 1) out (by omega) (by omega) (by omega)
      refine ⟨out', fun S c p q s f => ?_, fun T a c p q s f => ?_⟩
      · rw [impl_rexReader_set.l2v_eq, if_pos (by omega), if_pos (by omega), if_pos (by omega), if_neg h, hw]
        exact e1 S c p q s f
      · rw [spec_l3Set.l2v_eq, if_pos (by omega), if_pos (by omega), if_pos (by omega), if_neg h, hw]
        exact e2 T a c p q s f
theorem idx_close (l : List UInt8) : (Lib.indexByte l 93 = -1 ∧ (93 : UInt8) ∉ l) ∨ ∃ a r, l = a ++ 93 :: r ∧ (93 : UInt8) ∉ a ∧ Lib.indexByte l 93 = (a.length : Int) := by
  induction l with
  | nil => exact .inl ⟨rfl, by simp⟩
  | cons b l ih =>
    by_cases h : b = 93
    · subst h
      exact .inr ⟨[], l, rfl, by simp, by simp [Lib.indexByte]⟩
    · have hb : (b == 93) = false := by simpa using h
      rcases ih with ⟨e, hn⟩ | ⟨a, r, rfl, hn, e⟩
      · exact .inl ⟨by rw [Lib.indexByte, hb, e]; rfl, by simp [hn, Ne.symm h]⟩
      · refine .inr ⟨b :: a, r, rfl, by simp [hn, Ne.symm h], ?_⟩
        have hne : ¬ ((a.length : Int) == -1) = true := fun z => by have := beq_iff_eq.1 z; omega
        rw [Lib.indexByte, hb, e, if_neg (by decide), if_neg hne]
        simp

theorem place_body (T pre body rest : List UInt8) (hT : T = pre ++ (body ++ rest)) (j : Nat) (hj : j < body.length) : bt (B T) ((pre.length + j : Nat) : Int) = (body[j].toNat : Int) := by
  have hlen : T.length = pre.length + (body.length + rest.length) := by rw [hT, List.length_append, List.length_append]
  rw [B_bt T (pre.length + j) (by omega)]
  congr 2
  subst hT
  rw [List.getElem_append_right (by omega)]
  simp only [Nat.add_sub_cancel_left]
  rw [List.getElem_append_left hj]
theorem place_end (T pre body r2 : List UInt8) (hT : T = pre ++ (body ++ 93 :: r2)) : bt (B T) ((pre.length + body.length : Nat) : Int) = 93 := by
  have hlen : T.length = pre.length + (body.length + (r2.length + 1)) := by rw [hT, List.length_append, List.length_append, List.length_cons]
  rw [B_bt T (pre.length + body.length) (by omega)]
  subst hT
  rw [List.getElem_append_right (by omega)]
  simp only [Nat.add_sub_cancel_left]
  rw [List.getElem_append_right (by omega)]
  simp
theorem impl_range (body : List UInt8) (h60 : body.length ≤ 60) (i : Nat) (hR1 : i + 2 < body.length) (hR3 : body[i + 1]'(by omega) = 45) (has has1 : List Bool) (c : Bool)
    (g2 : ∀ x5 x7 S c p q s f, impl_rexReader_set.l1v x5 has x7 (body[i + 2].toNat : Int) ((body[i]'(by omega)).toNat : Int) S c p q s f = impl_rexReader_set.l0v x5 has1 (wrap64 (x7 + 1)) S c p q s f) (S p q s f) :
    impl_rexReader_set.l0v (B body) has (i : Int) S c p q s f = impl_rexReader_set.l0v (B body) has1 ((i + 3 : Nat) : Int) S (c || decide ((body[i + 2].toNat : Int) < ((body[i]'(by omega)).toNat : Int))) p q s f := by
  have l1 := (body[i]'(by omega)).toNat_lt
  have l2 := body[i + 2].toNat_lt
  have w1 : wrap64 ((i : Int) + 1) = ((i + 1 : Nat) : Int) := by rw [wrap_in (by omega) (by omega)]; omega
  have w2 : wrap64 ((i : Int) + 2) = ((i + 2 : Nat) : Int) := by rw [wrap_in (by omega) (by omega)]; omega
  have w7 : wrap64 (((i + 2 : Nat) : Int) + 1) = ((i + 3 : Nat) : Int) := by rw [wrap_in (by omega) (by omega)]; omega
  have b0 : bt (B body) (i : Int) = ((body[i]'(by omega)).toNat : Int) := B_bt body i (by omega)
  have b1 : bt (B body) ((i + 1 : Nat) : Int) = 45 := by rw [B_bt body (i + 1) (by omega), hR3]; rfl
  have b2 : bt (B body) ((i + 2 : Nat) : Int) = (body[i + 2].toNat : Int) := B_bt body (i + 2) hR1
  generalize body[i]'(by omega) = u at *
  generalize body[i + 2] = v at *
  have wu : wrap64 (u.toNat : Int) = (u.toNat : Int) := wrap_in (by omega) (by omega)
  have wv : wrap64 (v.toNat : Int) = (v.toNat : Int) := wrap_in (by omega) (by omega)
  have hs : ((B body).size : Int) = (body.length : Int) := by rw [B_size]
  have c1 : (i : Int) < (body.length : Int) := by omega
  have c2 : (0 : Int) ≤ (i : Int) := by omega
  have c3 : ((i + 2 : Nat) : Int) < (body.length : Int) := by omega
  have c4 : (0 : Int) ≤ ((i + 1 : Nat) : Int) := by omega
  have c5 : ((i + 1 : Nat) : Int) < (body.length : Int) := by omega
  have c6 : (0 : Int) ≤ ((i + 2 : Nat) : Int) := by omega
  have d45 : ((45 : Int) == 45) = true := rfl
  rw [impl_rexReader_set.l0v_eq]
  simp only [hs, w1, w2, c1, c2, c3, c4, c5, b0, b1, wu, d45, if_true]
  rw [impl_rexReader_set.j1v_eq]
  simp only [hs, w2, c6, c3, b2, wv, if_true]
  cases c
  · simp only [Bool.false_eq_true, if_false, Bool.false_or]
    rw [impl_rexReader_set.j2v_eq, g2, w7]
  · simp only [if_true, Bool.true_or]
    rw [impl_rexReader_set.j2v_eq, g2, w7]
theorem impl_byte (body : List UInt8) (h60 : body.length ≤ 60) (i : Nat) (hi : i < body.length) (hR : ∀ h : i + 2 < body.length, ¬ body[i + 1]'(by omega) = 45) (has has1 : List Bool) (c : Bool)
    (g2 : ∀ x5 x7 S c p q s f, impl_rexReader_set.l1v x5 has x7 (body[i].toNat : Int) (body[i].toNat : Int) S c p q s f = impl_rexReader_set.l0v x5 has1 (wrap64 (x7 + 1)) S c p q s f) (S p q s f) :
    impl_rexReader_set.l0v (B body) has (i : Int) S c p q s f = impl_rexReader_set.l0v (B body) has1 ((i + 1 : Nat) : Int) S c p q s f := by
  have l1 := body[i].toNat_lt
  have w1 : wrap64 ((i : Int) + 1) = ((i + 1 : Nat) : Int) := by rw [wrap_in (by omega) (by omega)]; omega
  have w2 : wrap64 ((i : Int) + 2) = ((i + 2 : Nat) : Int) := by rw [wrap_in (by omega) (by omega)]; omega
  have b0 : bt (B body) (i : Int) = (body[i].toNat : Int) := B_bt body i hi
  have hs : ((B body).size : Int) = (body.length : Int) := by rw [B_size]
  have c1 : (i : Int) < (body.length : Int) := by omega
  have c2 : (0 : Int) ≤ (i : Int) := by omega
  have wu : wrap64 (body[i].toNat : Int) = (body[i].toNat : Int) := wrap_in (by omega) (by omega)
  have hj : impl_rexReader_set.j1v (B body) has (i : Int) (body[i].toNat : Int) (body[i].toNat : Int) false S c p q s f = impl_rexReader_set.l0v (B body) has1 ((i + 1 : Nat) : Int) S c p q s f := by
    rw [impl_rexReader_set.j1v_eq]
    simp only [Bool.false_eq_true, if_false]
    rw [impl_rexReader_set.j2v_eq, g2, w1]
  rw [impl_rexReader_set.l0v_eq]
  by_cases h5 : i + 2 < body.length
  · have c3 : ((i + 2 : Nat) : Int) < (body.length : Int) := by omega
    have c4 : (0 : Int) ≤ ((i + 1 : Nat) : Int) := by omega
    have c5 : ((i + 1 : Nat) : Int) < (body.length : Int) := by omega
    have b1 : (bt (B body) ((i + 1 : Nat) : Int) == 45) = false := by
      rw [B_bt body (i + 1) (by omega), beq_eq_false_iff_ne]
      exact fun e => hR h5 ((byte_is _ 45 45 rfl).1 e)
    simp only [hs, w1, w2, c1, c2, c3, c4, c5, b0, b1, wu, if_true, hj]
  · have c3 : ¬ ((i + 2 : Nat) : Int) < (body.length : Int) := by omega
    simp only [hs, w2, c1, c2, c3, b0, wu, if_true, if_false, hj]

theorem wr (a b : Nat) (k : Int) (h : (b : Int) = (a : Int) + k) (hb : b ≤ 1000) : wrap64 ((a : Int) + k) = (b : Int) := by rw [wrap_in (by omega) (by omega)]; omega
theorem wrap_byte (u : UInt8) : wrap64 (u.toNat : Int) = (u.toNat : Int) := by
  have := u.toNat_lt
  exact wrap_in (by omega) (by omega)
theorem not93 (u : UInt8) (hu : u ≠ 93) : ((u.toNat : Int) != 93) = true := by rw [bne_iff_ne]; exact fun e => hu ((byte_is _ 93 93 rfl).1 e)
theorem spec_range (T : List UInt8) (h60 : T.length ≤ 60) (a a1 a2 a3 : Nat) (e1 : a1 = a + 1) (e2 : a2 = a + 2) (e3 : a3 = a + 3) (hN : a2 < T.length) (u v : UInt8) (b0 : bt (B T) (a : Int) = (u.toNat : Int)) (b1 : bt (B T) (a1 : Int) = 45) (b2 : bt (B T) (a2 : Int) = (v.toNat : Int)) (hu : u ≠ 93) (hv : v ≠ 93)
    (has has1 : List Bool) (many : Nat) (hm : many ≤ 100) (c : Bool)
    (g3 : ∀ m T a c p q s f, spec_l3Set.l1v has m (v.toNat : Int) (u.toNat : Int) T a c p q s f = spec_l3Set.l0v has1 (wrap64 (m + 1)) T a c p q s f) (p q s f) :
    spec_l3Set.l0v has (many : Int) (B T) (a : Int) c p q s f = spec_l3Set.l0v has1 ((many + 1 : Nat) : Int) (B T) (a3 : Int) (c || decide ((v.toNat : Int) < (u.toNat : Int))) p q s f := by
  have c1 : (a : Int) < (T.length : Int) := by clear b0 b1 b2; omega
  have c2 : (0 : Int) ≤ (a : Int) := by clear b0 b1 b2; omega
  have c3 : (a2 : Int) < (T.length : Int) := by clear b0 b1 b2; omega
  have c4 : (0 : Int) ≤ (a1 : Int) := by clear b0 b1 b2; omega
  have c5 : (a1 : Int) < (T.length : Int) := by clear b0 b1 b2; omega
  have c6 : (0 : Int) ≤ (a2 : Int) := by clear b0 b1 b2; omega
  have w3 : wrap64 ((a : Int) + 1) = (a1 : Int) := wr a a1 1 (by clear b0 b1 b2; omega) (by clear b0 b1 b2; omega)
  have w4 : wrap64 ((a1 : Int) + 1) = (a2 : Int) := wr a1 a2 1 (by clear b0 b1 b2 w3; omega) (by clear b0 b1 b2 w3; omega)
  have w5 : wrap64 ((a1 : Int) + 2) = (a3 : Int) := wr a1 a3 2 (by clear b0 b1 b2 w3 w4; omega) (by clear b0 b1 b2 w3 w4; omega)
  have w6 : wrap64 ((many : Int) + 1) = ((many + 1 : Nat) : Int) := wr many (many + 1) 1 (by clear b0 b1 b2 w3 w4 w5; omega) (by clear b0 b1 b2 w3 w4 w5; omega)
  clear e1 e2 e3 hN hm
  have wu : wrap64 (u.toNat : Int) = (u.toNat : Int) := wrap_byte u
  have wv : wrap64 (v.toNat : Int) = (v.toNat : Int) := wrap_byte v
  have du : ((u.toNat : Int) != 93) = true := not93 u hu
  have dv : ((v.toNat : Int) != 93) = true := not93 v hv
  have hs : ((B T).size : Int) = (T.length : Int) := by rw [B_size]
  rw [spec_l3Set.l0v_eq]
  simp only [hs, c1, c2, b0, du, if_true]
  rw [spec_l3Set.j2v_eq]
  simp only [hs, c1, c2, w3, w4, c3, c4, c5, c6, b0, b1, b2, dv, wu, if_true]
  rw [spec_l3Set.j3v_eq]
  simp only [hs, w4, c3, c6, b2, wv, w5, if_true]
  rw [spec_l3Set.j4v_eq]
  by_cases hlh : (v.toNat : Int) < (u.toNat : Int)
  · simp only [hlh, if_true, decide_true, Bool.or_true]
    rw [spec_l3Set.j5v_eq, g3, w6]
  · simp only [hlh, if_false, decide_false, Bool.or_false]
    rw [spec_l3Set.j5v_eq, g3, w6]
theorem spec_byte (T : List UInt8) (h60 : T.length ≤ 60) (P i : Nat) (hN : P + i < T.length) (u : UInt8) (b0 : bt (B T) ((P + i : Nat) : Int) = (u.toNat : Int)) (hu : u ≠ 93)
    (hR : P + (i + 2) < T.length → bt (B T) ((P + (i + 1) : Nat) : Int) = 45 → bt (B T) ((P + (i + 2) : Nat) : Int) = 93)
    (has has1 : List Bool) (many : Nat) (hm : many ≤ 100) (c : Bool)
    (g3 : ∀ m T a c p q s f, spec_l3Set.l1v has m (u.toNat : Int) (u.toNat : Int) T a c p q s f = spec_l3Set.l0v has1 (wrap64 (m + 1)) T a c p q s f) (p q s f) :
    spec_l3Set.l0v has (many : Int) (B T) ((P + i : Nat) : Int) c p q s f = spec_l3Set.l0v has1 ((many + 1 : Nat) : Int) (B T) ((P + (i + 1) : Nat) : Int) c p q s f := by
  have l1 := u.toNat_lt
  have w3 : wrap64 (((P + i : Nat) : Int) + 1) = ((P + (i + 1) : Nat) : Int) := by
    have e_ : ((P + i : Nat) : Int) + 1 = ((P + (i + 1) : Nat) : Int) := by omega
    rw [e_]
    exact wrap_in (by omega) (by omega)
  have w4 : wrap64 (((P + (i + 1) : Nat) : Int) + 1) = ((P + (i + 2) : Nat) : Int) := by
    have e_ : ((P + (i + 1) : Nat) : Int) + 1 = ((P + (i + 2) : Nat) : Int) := by omega
    rw [e_]
    exact wrap_in (by omega) (by omega)
  have w6 : wrap64 ((many : Int) + 1) = ((many + 1 : Nat) : Int) := by rw [wrap_in (by omega) (by omega)]; omega
  have wu : wrap64 (u.toNat : Int) = (u.toNat : Int) := wrap_in (by omega) (by omega)
  have du : ((u.toNat : Int) != 93) = true := by rw [bne_iff_ne]; exact fun e => hu ((byte_is _ 93 93 rfl).1 e)
  have hs : ((B T).size : Int) = (T.length : Int) := by rw [B_size]
  have c1 : ((P + i : Nat) : Int) < (T.length : Int) := by omega
  have c2 : (0 : Int) ≤ ((P + i : Nat) : Int) := by omega
  have c0 : ¬ (u.toNat : Int) < (u.toNat : Int) := by omega
  have hj : spec_l3Set.j3v has (many : Int) (u.toNat : Int) (u.toNat : Int) false (B T) ((P + (i + 1) : Nat) : Int) c p q s f = spec_l3Set.l0v has1 ((many + 1 : Nat) : Int) (B T) ((P + (i + 1) : Nat) : Int) c p q s f := by
    rw [spec_l3Set.j3v_eq]
    simp only [Bool.false_eq_true, if_false]
    rw [spec_l3Set.j4v_eq, if_neg c0, spec_l3Set.j5v_eq, g3, w6]
  rw [spec_l3Set.l0v_eq]
  simp only [hs, c1, c2, b0, du, if_true]
  rw [spec_l3Set.j2v_eq]
  by_cases h5 : P + (i + 2) < T.length
  · have c3 : ((P + (i + 2) : Nat) : Int) < (T.length : Int) := by omega
    have c4 : (0 : Int) ≤ ((P + (i + 1) : Nat) : Int) := by omega
    have c5 : ((P + (i + 1) : Nat) : Int) < (T.length : Int) := by omega
    have c6 : (0 : Int) ≤ ((P + (i + 2) : Nat) : Int) := by omega
    by_cases h7 : bt (B T) ((P + (i + 1) : Nat) : Int) = 45
    · have h8 : ((93 : Int) != 93) = false := rfl
      simp only [hs, c1, c2, w3, w4, c3, c4, c5, c6, b0, h7, hR h5 h7, h8, wu, if_true, hj]
    · simp only [hs, c1, c2, w3, w4, c3, c4, c5, b0, h7, wu, if_true, if_false, hj]
  · have c3 : ¬ ((P + (i + 2) : Nat) : Int) < (T.length : Int) := by omega
    simp only [hs, c1, c2, w3, w4, c3, b0, wu, if_true, if_false, hj]
theorem spec_last (T pre body rest : List UInt8) (hT : T = pre ++ (body ++ rest)) (hr : rest = [] ∨ ∃ r2, rest = 93 :: r2) (has : List Bool) (m : Int) (c : Bool) (p q s f) :
    spec_l3Set.l0v has m (B T) ((pre.length + body.length : Nat) : Int) c p q s f = spec_l3Set.j2v has m false (B T) ((pre.length + body.length : Nat) : Int) c p q s f := by
  have hlen : T.length = pre.length + (body.length + rest.length) := by rw [hT, List.length_append, List.length_append]
  rw [spec_l3Set.l0v_eq]
  rcases hr with e | ⟨r2, e⟩
  · rw [if_neg (by rw [B_size, hlen, e, List.length_nil]; omega)]
  · rw [if_pos (by rw [B_size, hlen, e, List.length_cons]; omega), if_pos (by omega), place_end T pre body r2 (by rw [hT, e])]
    rfl
theorem set_run (T pre body rest : List UInt8) (hT : T = pre ++ (body ++ rest)) (h60 : T.length ≤ 60) (hb : (93 : UInt8) ∉ body) (hr : rest = [] ∨ ∃ r2, rest = 93 :: r2) (n : Nat) : ∀ (i many : Nat) (has : List Bool) (c : Bool), body.length - i ≤ n → i ≤ body.length → has.length = 256 → many ≤ i → (0 < i → 0 < many) →
    ∃ (has' : List Bool) (m' : Nat) (c' : Bool), has'.length = 256 ∧ m' ≤ body.length ∧ (0 < body.length → 0 < m') ∧
      (∀ S p q s f, impl_rexReader_set.l0v (B body) has (i : Int) S c p q s f = impl_rexReader_set.l2v [] has' 256 0 S c' p q s f) ∧
      (∀ p q s f, spec_l3Set.l0v has (many : Int) (B T) ((pre.length + i : Nat) : Int) c p q s f = spec_l3Set.j2v has' (m' : Int) false (B T) ((pre.length + body.length : Nat) : Int) c' p q s f) := by
  have hlen : T.length = pre.length + (body.length + rest.length) := by rw [hT, List.length_append, List.length_append]
  have hp := place_body T pre body rest hT
  induction n with
  | zero =>
    intro i many has c h0 h1 h2 h3 h4
    obtain rfl : i = body.length := by omega
    refine ⟨has, many, c, h2, h3, h4, fun S p q s f => ?_, fun p q s f => spec_last T pre body rest hT hr has _ c p q s f⟩
    rw [impl_rexReader_set.l0v_eq, if_neg (by rw [B_size]; omega), h2]
    rfl
  | succ n ih =>
    intro i many has c h0 h1 h2 h3 h4
    by_cases hi : i < body.length
    · have hne : body[i] ≠ 93 := fun e => hb (e ▸ List.getElem_mem hi)
      have hl := body[i].toNat_lt
      by_cases hR : ∃ h : i + 2 < body.length, body[i + 1]'(by omega) = 45
      · obtain ⟨hR1, hR3⟩ := hR
        have hne2 : body[i + 2] ≠ 93 := fun e => hb (e ▸ List.getElem_mem hR1)
        have hl2 := body[i + 2].toNat_lt
        obtain ⟨has1, g1, g2, g3⟩ := mark_both _ has (body[i].toNat : Int) (body[i + 2].toNat : Int) rfl (by omega) (by omega) h2
        obtain ⟨has', m', c', k1, k2, k3, k4, k5⟩ := ih (i + 3) (many + 1) has1 (c || decide ((body[i + 2].toNat : Int) < (body[i].toNat : Int))) (by omega) (by omega) g1 (by omega) (by omega)
        refine ⟨has', m', c', k1, k2, k3, fun S p q s f => ?_, fun p q s f => ?_⟩
        · rw [impl_range body (by omega) i hR1 hR3 has has1 c g2, k4]
        · rw [spec_range T h60 (pre.length + i) (pre.length + (i + 1)) (pre.length + (i + 2)) (pre.length + (i + 3)) (by omega) (by omega) (by omega) (by omega) body[i] body[i + 2] (hp i hi) (by rw [hp (i + 1) (by omega), hR3]; rfl) (hp (i + 2) hR1) hne hne2 has has1 many (by omega) c g3, k5]
      · obtain ⟨has1, g1, g2, g3⟩ := mark_both _ has (body[i].toNat : Int) (body[i].toNat : Int) rfl (by omega) (by omega) h2
        obtain ⟨has', m', c', k1, k2, k3, k4, k5⟩ := ih (i + 1) (many + 1) has1 c (by omega) (by omega) g1 (by omega) (by omega)
        refine ⟨has', m', c', k1, k2, k3, fun S p q s f => ?_, fun p q s f => ?_⟩
        · rw [impl_byte body (by omega) i hi (fun h e => hR ⟨h, e⟩) has has1 c g2, k4]
        · rw [spec_byte T h60 pre.length i (by omega) body[i] (hp i hi) hne (fun h5 h7 => ?_) has has1 many (by omega) c g3, k5]
          by_cases h9 : i + 1 < body.length
          · have h10 : body[i + 1] = 45 := by
              rw [hp (i + 1) h9] at h7
              exact (byte_is _ 45 45 rfl).1 h7
            have h11 : i + 2 = body.length := by
              by_cases h12 : i + 2 < body.length
              · exact absurd ⟨h12, h10⟩ hR
              · omega
            rcases hr with e | ⟨r2, e⟩
            · rw [e, List.length_nil] at hlen; omega
            · rw [h11, place_end T pre body r2 (by rw [hT, e])]
          · exfalso
            have h11 : i + 1 = body.length := by omega
            rcases hr with e | ⟨r2, e⟩
            · rw [e, List.length_nil] at hlen; omega
            · rw [h11, place_end T pre body r2 (by rw [hT, e])] at h7
              omega
    · exact ih i many has c (by omega) h1 h2 h3 h4

/-! ### both readers' answers -/
/-- both ask alike how deep a tree is -/
def Good (x : S26) : Prop := ∃ v, spec_l3Deep.fv x.f0 x.f1 x.f2 x.f3 x.f4 = some v ∧ impl_rexDeep.fv x.f0 x.f1 x.f2 x.f3 x.f4 = some v
theorem max_both (a b : Int) : spec_l1Max.f a b = some (mx a b) := by
  unfold spec_l1Max.f mx
  by_cases h : a > b
  · rw [if_pos h]
    split <;> first | rfl | (congr 1; omega)
  · rw [if_neg h]
    split <;> first | rfl | (congr 1; omega)
theorem deep_loop (xs : List S26) (hl : xs.length ≤ 1000) (hg : ∀ x ∈ xs, Good x) (n : Nat) : ∀ (i : Nat) (m : Int), xs.length - i = n → ∃ v, (∀ a b c e, spec_l3Deep.l0v m (i : Int) a b c e xs = some v) ∧ impl_rexDeep.l0v m xs (xs.length : Int) (i : Int) = some v := by
  induction n with
  | zero =>
    intro i m h
    refine ⟨wrap64 (m + 1), fun a b c e => ?_, ?_⟩
    · rw [spec_l3Deep.l0v_eq, if_neg (by omega)]
    · rw [impl_rexDeep.l0v_eq, if_neg (by omega)]
  | succ n ih =>
    intro i m h
    have hi : i < xs.length := by omega
    have hw : wrap64 ((i : Int) + 1) = ((i + 1 : Nat) : Int) := wr i (i + 1) 1 (by omega) (by omega)
    obtain ⟨v, e1, e2⟩ := hg _ (List.getElem_mem hi)
    have hrd : rd_T26 xs (i : Int) = xs[i] := by
      unfold rd_T26
      simp [List.getD, List.getElem?_eq_getElem hi]
    obtain ⟨u, k1, k2⟩ := ih (i + 1) (mx m v) (by omega)
    refine ⟨u, fun a b c e => ?_, ?_⟩
    · rw [spec_l3Deep.l0v_eq, if_pos (by omega), if_pos (by omega), hrd, e1, Option.bind_some, max_both, Option.bind_some, hw, k1]
    · rw [impl_rexDeep.l0v_eq, if_pos (by omega), if_pos (by omega), if_pos (by omega), hrd, e2, Option.bind_some, hw, k2]
theorem good_node (a b : Int) (c : ByteArray) (e : Bool) (xs : List S26) (hl : xs.length ≤ 1000) (hg : ∀ x ∈ xs, Good x) : Good (⟨a, b, c, e, xs⟩ : S26) := by
  obtain ⟨v, h1, h2⟩ := deep_loop xs hl hg _ 0 0 rfl
  refine ⟨v, ?_, ?_⟩
  · show spec_l3Deep.fv a b c e xs = some v
    rw [spec_l3Deep.fv_eq]
    exact h1 a b c e
  · show impl_rexDeep.fv a b c e xs = some v
    rw [impl_rexDeep.fv_eq]
    exact h2
theorem good_leaf (a b : Int) (c : ByteArray) (e : Bool) : Good (⟨a, b, c, e, []⟩ : S26) := good_node a b c e [] (by simp) (by simp)
def Out (T l : List UInt8) (d k : Nat) (so : Option (Int × Int × ByteArray × Bool × List S26 × ByteArray × Int × Bool)) (io : Option (Int × Int × ByteArray × Bool × List S26 × ByteArray × Bool)) : Prop :=
  (∃ x l' p, l = p ++ l' ∧ k ≤ p.length ∧ Good x ∧ SR T so x (pl T l') false ∧ IR io x l' false) ∨
  (∃ x y l' a, SR T so x a true ∧ IR io y l' true) ∨
  (∃ x y l' a, l'.length < d ∧ l'.length + k ≤ l.length ∧ Good y ∧ SR T so x a true ∧ IR io y l' false)
theorem out_cons {T l : List UInt8} {c : UInt8} {d k k' : Nat} {so io} (h : Out T l d k so io) (hk : k' ≤ k + 1) : Out T (c :: l) d k' so io := by
  rcases h with ⟨x, l', p, e, h1, h2⟩ | h | ⟨x, y, l', a, h1, h2, h3⟩
  · exact .inl ⟨x, l', c :: p, by rw [e, List.cons_append], by rw [List.length_cons]; omega, h2⟩
  · exact .inr (.inl h)
  · exact .inr (.inr ⟨x, y, l', a, h1, by rw [List.length_cons]; omega, h3⟩)
theorem out_app {T l l' p : List UInt8} {d k k' : Nat} {so io} (e : l = p ++ l') (h : Out T l' d k so io) (hk : k' ≤ k + p.length) : Out T l d k' so io := by
  subst e
  rcases h with ⟨x, l2, p2, e, h1, h2⟩ | h | ⟨x, y, l2, a, h1, h2, h3⟩
  · exact .inl ⟨x, l2, p ++ p2, by rw [e, List.append_assoc], by rw [List.length_append]; omega, h2⟩
  · exact .inr (.inl h)
  · exact .inr (.inr ⟨x, y, l2, a, h1, by rw [List.length_append]; omega, h3⟩)
theorem ctx_app {T l l' p : List UInt8} {d : Nat} (h : Ctx T l d) (e : l = p ++ l') : Ctx T l' d := by
  have := ctx_drop h p.length
  rw [e, List.drop_left] at this
  exact this
theorem ctx_self (l : List UInt8) (h : l.length ≤ 60) : Ctx l l 0 := ⟨[], rfl, Nat.zero_le _, h⟩
theorem after_close (a r : List UInt8) : (B (a ++ 93 :: r)).extract (((a.length + 1 : Nat) : Int)).toNat (B (a ++ 93 :: r)).size = B r := by
  have e1 : (a ++ 93 :: r).drop (a.length + 1) = r := by
    rw [show a ++ 93 :: r = (a ++ [93]) ++ r by simp]
    exact List.drop_left' (by simp)
  rw [Int.toNat_natCast, B_extract, B_size, e1]
  congr 1
  apply List.take_of_length_le
  rw [List.length_append, List.length_cons]
  omega
theorem set_core (T l : List UInt8) (d : Nat) (h : Ctx T l d) (neg : Bool) : Out T l d 0 (spec_l3Set.j0v (B T) (pl T l) false 3 0 (⟨#[]⟩ : ByteArray) neg)
    ((strings_IndexByte.f (B l) 93).bind fun t324 => (if t324 < 1 then (some (0, 0, (⟨#[]⟩ : ByteArray), false, ([] : List (S26)), B l, true)) else (if 0 ≤ t324 then (if t324 ≤ ((B l).size : Int) then (if 0 ≤ (wrap64 (t324 + 1)) then (if (wrap64 (t324 + 1)) ≤ ((B l).size : Int) then (if 256 ≤ 281474976710656 then (impl_rexReader_set.l0v ((B l).extract 0 (t324 : Int).toNat) (List.replicate 256 false) 0 ((B l).extract ((wrap64 (t324 + 1)) : Int).toNat (B l).size) false 3 0 (⟨#[]⟩ : ByteArray) neg) else (none)) else (none)) else (none)) else (none)) else (none)))) := by
  obtain ⟨pre, hT, hd, h60⟩ := h
  have hlen : T.length = pre.length + l.length := by rw [hT, List.length_append]
  have hpl : pl T l = ((pre.length + 0 : Nat) : Int) := by unfold pl; omega
  rw [hpl, spec_l3Set.j0v_eq, if_pos (by omega)]
  show Out T l d 0 _ ((some (Lib.indexByte (B l).data.toList 93)).bind _)
  rw [Option.bind_some, B_data]
  rcases idx_close l with ⟨e, hn⟩ | ⟨a, r, e, hn, hk⟩
  · obtain ⟨has', m', c', k1, k2, k3, -, k5⟩ := set_run T pre l [] (by rw [List.append_nil]; exact hT) h60 hn (.inl rfl) _ 0 0 (List.replicate 256 false) false (Nat.le_refl _) (Nat.zero_le _) (List.length_replicate ..) (Nat.le_refl _) (fun z => absurd z (Nat.lt_irrefl 0))
    obtain ⟨out', -, o2⟩ := out_both has' k1 _ 0 [] rfl (by omega) (by simp)
    have k5' := k5 3 0 (⟨#[]⟩ : ByteArray) neg
    rw [show ((0 : Nat) : Int) = 0 from rfl] at k5' o2
    rw [k5', spec_l3Set.j2v_eq, if_neg (by decide), if_pos (by rw [B_size]; omega), spec_l3Set.j7v_eq, if_pos rfl, spec_l3Set.j8v_eq, o2, e, if_pos (by decide)]
    exact .inr (.inl ⟨(⟨_, _, _, _, _⟩ : S26), (⟨_, _, _, _, _⟩ : S26), l, _, rfl, rfl⟩)
  · obtain ⟨has', m', c', k1, k2, k3, k4, k5⟩ := set_run T pre a (93 :: r) (by rw [hT, e]) h60 hn (.inr ⟨r, rfl⟩) _ 0 0 (List.replicate 256 false) false (Nat.le_refl _) (Nat.zero_le _) (List.length_replicate ..) (Nat.le_refl _) (fun z => absurd z (Nat.lt_irrefl 0))
    obtain ⟨out', o1, o2⟩ := out_both has' k1 _ 0 [] rfl (by omega) (by simp)
    have hl : l.length = a.length + (r.length + 1) := by rw [e, List.length_append, List.length_cons]
    have k5' := k5 3 0 (⟨#[]⟩ : ByteArray) neg
    have k4' := k4 (B r) 3 0 (⟨#[]⟩ : ByteArray) neg
    rw [show ((0 : Nat) : Int) = 0 from rfl] at k5' k4' o1 o2
    rw [k5', spec_l3Set.j2v_eq, if_neg (by decide), if_neg (by rw [B_size]; omega), spec_l3Set.j7v_eq, hk]
    by_cases h0 : a.length = 0
    · have hm : m' = 0 := by omega
      subst hm
      rw [if_pos (by rfl), spec_l3Set.j8v_eq, o2, if_pos (by omega)]
      exact .inr (.inl ⟨(⟨_, _, _, _, _⟩ : S26), (⟨_, _, _, _, _⟩ : S26), l, _, rfl, rfl⟩)
    · have hm := k3 (by omega)
      have x1 : (B l).extract 0 ((a.length : Nat) : Int).toNat = B a := by rw [Int.toNat_natCast, B_extract, e]; simp
      have x2 : (B l).extract (((a.length + 1 : Nat) : Int)).toNat (B l).size = B r := by rw [e]; exact after_close a r
      have y1 : ¬ ((m' : Int) == 0) = true := by rw [beq_iff_eq]; omega
      have y2 : ¬ (a.length : Int) < 1 := by omega
      have y3 : (0 : Int) ≤ (a.length : Int) := by omega
      have y4 : (a.length : Int) ≤ ((B l).size : Int) := by rw [B_size]; omega
      have y5 : (0 : Int) ≤ ((a.length + 1 : Nat) : Int) := by omega
      have y6 : ((a.length + 1 : Nat) : Int) ≤ ((B l).size : Int) := by rw [B_size]; omega
      have y7 : pl T r = ((pre.length + a.length + 1 : Nat) : Int) := by unfold pl; omega
      have w2 : wrap64 ((a.length : Int) + 1) = ((a.length + 1 : Nat) : Int) := wr a.length (a.length + 1) 1 (by omega) (by omega)
      have w1 : wrap64 (((pre.length + a.length : Nat) : Int) + 1) = pl T r := by
        rw [y7]
        exact wr (pre.length + a.length) (pre.length + a.length + 1) 1 (by clear w2; omega) (by clear w2; omega)
      rw [if_neg y1, spec_l3Set.j8v_eq, o2, if_neg y2, if_pos y3, if_pos y4, w2, if_pos y5, if_pos y6, if_pos (by decide), x1, x2, k4', o1, w1]
      cases c'
      · exact .inl ⟨(⟨_, _, _, _, _⟩ : S26), r, a ++ [93], by rw [e]; simp, Nat.zero_le _, good_leaf _ _ _ _, rfl, rfl⟩
      · exact .inr (.inl ⟨(⟨_, _, _, _, _⟩ : S26), (⟨_, _, _, _, _⟩ : S26), r, _, rfl, rfl⟩)
theorem set_sim (T l : List UInt8) (d : Nat) (h : Ctx T l d) : Out T l d 0 (spec_l3Set.fv (B T) (pl T l) false) (impl_rexReader_set.fv (B l) false) := by
  rw [spec_l3Set.fv_eq, impl_rexReader_set.fv_eq]
  cases l with
  | nil =>
    rw [now_end, take_nil]
    exact set_core T [] d h false
  | cons c l =>
    rw [now_cons h]
    by_cases hc : (c.toNat : Int) = 94
    · rw [take_hit c l 94 hc, Option.bind_some, Option.bind_some]
      dsimp only
      rw [if_pos (by rw [hc]; rfl), ctx_next h]
      exact out_cons (set_core T l d (ctx_tail h) true) (by omega)
    · rw [take_miss c l 94 hc, Option.bind_some, Option.bind_some]
      dsimp only
      rw [if_neg (by rw [beq_iff_eq]; exact hc)]
      exact set_core T (c :: l) d h false

/-! ### one atom -/
def PatS (T l : List UInt8) (d : Nat) : Prop := Out T l d 0 (spec_l3Pattern.fv (B T) (pl T l) false (d : Int)) (impl_rexReader_pattern.fv (B l) false)
def AtomS (T l : List UInt8) (d : Nat) : Prop := Out T l d 1 (spec_l3Atom.fv (B T) (pl T l) false (d : Int)) (impl_rexReader_atom.fv (B l) false)
def PieceS (T l : List UInt8) (d : Nat) : Prop := Out T l d 1 (spec_l3Piece.fv (B T) (pl T l) false (d : Int)) (impl_rexReader_piece.fv (B l) false)
def PartS (T l : List UInt8) (d : Nat) : Prop := Out T l d 0 (spec_l3Part.fv (B T) (pl T l) false (d : Int)) (impl_rexReader_part.fv (B l) false)
theorem out_leaf (T : List UInt8) (c : UInt8) (l : List UInt8) (d : Nat) (a b : Int) (s : ByteArray) (e : Bool) : Out T (c :: l) d 1 (some (a, b, s, e, [], B T, pl T l, false)) (some (a, b, s, e, [], B l, false)) :=
  .inl ⟨(⟨a, b, s, e, []⟩ : S26), l, [c], rfl, Nat.le_refl _, good_leaf _ _ _ _, rfl, rfl⟩
theorem out_bad (T l l' : List UInt8) (d k : Nat) (a b a2 b2 at_ : Int) (s s2 : ByteArray) (e e2 : Bool) (xs ys : List S26) : Out T l d k (some (a, b, s, e, xs, B T, at_, true)) (some (a2, b2, s2, e2, ys, B l', true)) :=
  .inr (.inl ⟨(⟨a, b, s, e, xs⟩ : S26), (⟨a2, b2, s2, e2, ys⟩ : S26), l', at_, rfl, rfl⟩)
theorem atom_brackets (T : List UInt8) (c : UInt8) (l : List UInt8) (d : Nat) (h : Ctx T (c :: l) d) (hp : PatS T l (d + 1)) : Out T (c :: l) d 1
    ((spec_l3Pattern.fv (B T) (pl T l) false ((d + 1 : Nat) : Int)).bind fun bt124 => ((spec_l3Now.f bt124.2.2.2.2.2.1 bt124.2.2.2.2.2.2.1 bt124.2.2.2.2.2.2.2 41).bind fun bt135 => (if bt135.1 = true then (some (bt124.1, bt124.2.1, bt124.2.2.1, bt124.2.2.2.1, bt124.2.2.2.2.1, bt135.2.1, wrap64 (bt135.2.2.1 + 1), bt135.2.2.2)) else (some (bt124.1, bt124.2.1, bt124.2.2.1, bt124.2.2.2.1, bt124.2.2.2.2.1, bt135.2.1, wrap64 (bt135.2.2.1 + 1), true)))))
    ((impl_rexReader_pattern.fv (B l) false).bind fun bt341 => ((impl_rexReader_take.f bt341.2.2.2.2.2.1 bt341.2.2.2.2.2.2 41).bind fun bt351 => (if bt351.1 = true then (some (bt341.1, bt341.2.1, bt341.2.2.1, bt341.2.2.2.1, bt341.2.2.2.2.1, bt351.2.1, bt351.2.2)) else (some (bt341.1, bt341.2.1, bt341.2.2.1, bt341.2.2.2.1, bt341.2.2.2.2.1, bt351.2.1, true))))) := by
  have h1 := ctx_tail h
  rcases hp with ⟨x, l', p, e, -, hg, hs, hi⟩ | ⟨x, y, l', a, hs, hi⟩ | ⟨x, y, l', a, hlt, hle, hg, hs, hi⟩
  · rw [show _ = _ from hs, show _ = _ from hi, Option.bind_some, Option.bind_some]
    dsimp only
    have h2 : Ctx T l' d := ctx_app h1 e
    cases l' with
    | nil =>
      rw [now_end, take_nil, Option.bind_some, Option.bind_some]
      dsimp only
      rw [if_neg (by decide), if_neg (by decide)]
      exact out_bad ..
    | cons c' l' =>
      rw [now_cons h2]
      by_cases hc : (c'.toNat : Int) = 41
      · rw [take_hit c' l' 41 hc, Option.bind_some, Option.bind_some]
        dsimp only
        rw [if_pos (by rw [hc]; rfl), if_pos rfl, ctx_next h2]
        exact .inl ⟨x, l', c :: p ++ [c'], by rw [e]; simp, by simp, hg, rfl, rfl⟩
      · rw [take_miss c' l' 41 hc, Option.bind_some, Option.bind_some]
        dsimp only
        rw [if_neg (by rw [beq_iff_eq]; exact hc), if_neg (by decide)]
        exact out_bad ..
  · rw [show _ = _ from hs, show _ = _ from hi, Option.bind_some, Option.bind_some]
    dsimp only
    rw [now_bad, take_bad, Option.bind_some, Option.bind_some]
    dsimp only
    rw [if_neg (by decide), if_neg (by decide)]
    exact out_bad ..
  · rw [show _ = _ from hs, show _ = _ from hi, Option.bind_some, Option.bind_some]
    dsimp only
    rw [now_bad, Option.bind_some]
    dsimp only
    rw [if_neg (by decide)]
    cases l' with
    | nil =>
      rw [take_nil, Option.bind_some]
      dsimp only
      rw [if_neg (by decide)]
      exact out_bad ..
    | cons c' l' =>
      by_cases hc : (c'.toNat : Int) = 41
      · rw [take_hit c' l' 41 hc, Option.bind_some]
        dsimp only
        rw [if_pos rfl]
        rw [List.length_cons] at hlt hle
        exact .inr (.inr ⟨x, y, l', _, by omega, by rw [List.length_cons]; omega, hg, rfl, rfl⟩)
      · rw [take_miss c' l' 41 hc, Option.bind_some]
        dsimp only
        rw [if_neg (by decide)]
        exact out_bad ..
theorem atom_set (T : List UInt8) (c : UInt8) (l : List UInt8) (d : Nat) (h : Ctx T (c :: l) d) : Out T (c :: l) d 1
    ((spec_l3Set.fv (B T) (pl T l) false).bind fun bt139 => (some (bt139.1, bt139.2.1, bt139.2.2.1, bt139.2.2.2.1, bt139.2.2.2.2.1, bt139.2.2.2.2.2.1, bt139.2.2.2.2.2.2.1, bt139.2.2.2.2.2.2.2)))
    ((impl_rexReader_set.fv (B l) false).bind fun bt354 => (some (bt354.1, bt354.2.1, bt354.2.2.1, bt354.2.2.2.1, bt354.2.2.2.2.1, bt354.2.2.2.2.2.1, bt354.2.2.2.2.2.2))) := by
  have e1 : ∀ o : Option (Int × Int × ByteArray × Bool × List S26 × ByteArray × Int × Bool), (o.bind fun bt139 => (some (bt139.1, bt139.2.1, bt139.2.2.1, bt139.2.2.2.1, bt139.2.2.2.2.1, bt139.2.2.2.2.2.1, bt139.2.2.2.2.2.2.1, bt139.2.2.2.2.2.2.2))) = o := fun o => by cases o <;> rfl
  have e2 : ∀ o : Option (Int × Int × ByteArray × Bool × List S26 × ByteArray × Bool), (o.bind fun bt354 => (some (bt354.1, bt354.2.1, bt354.2.2.1, bt354.2.2.2.1, bt354.2.2.2.2.1, bt354.2.2.2.2.2.1, bt354.2.2.2.2.2.2))) = o := fun o => by cases o <;> rfl
  rw [e1, e2]
  exact out_cons (set_sim T l d (ctx_tail h)) (Nat.le_refl _)
theorem atom_escape (T : List UInt8) (c : UInt8) (l : List UInt8) (d : Nat) (h : Ctx T (c :: l) d) : Out T (c :: l) d 1
    (if (pl T l) ≥ ((B T).size : Int) then (some (0, 0, (⟨#[]⟩ : ByteArray), false, ([] : List (S26)), B T, pl T l, true)) else (if 0 ≤ pl T l then (if pl T l < ((B T).size : Int) then (some (1, wrap64 (bt (B T) (pl T l)), (⟨#[]⟩ : ByteArray), false, ([] : List (S26)), B T, wrap64 (pl T l + 1), false)) else (none)) else (none)))
    ((impl_rexReader_next.f (B l) false).bind fun bt363 => (if bt363.2.1 = true then (if 1 ≤ (bt363.2.2.1.size : Int) then (some (1, wrap64 (bt363.1), (⟨#[]⟩ : ByteArray), false, ([] : List (S26)), bt363.2.2.1.extract 1 bt363.2.2.1.size, bt363.2.2.2)) else (none)) else (some (0, 0, (⟨#[]⟩ : ByteArray), false, ([] : List (S26)), bt363.2.2.1, true)))) := by
  have h1 := ctx_tail h
  cases l with
  | nil =>
    rw [if_pos (by rw [pl_nil, B_size]; omega), next_nil, Option.bind_some]
    dsimp only
    rw [if_neg (by decide)]
    exact out_bad ..
  | cons c2 l =>
    rw [if_neg (by have := ctx_lt h1; omega), if_pos (pl_ge _ _), if_pos (ctx_lt h1), ctx_bt h1, ctx_next h1, next_cons, Option.bind_some]
    dsimp only
    rw [if_pos rfl, if_pos (one_in c2 l), rest_of]
    exact out_cons (out_leaf T c2 l d 1 (wrap64 (c2.toNat : Int)) (⟨#[]⟩ : ByteArray) false) (by omega)
theorem atom_low (T : List UInt8) (c : UInt8) (l : List UInt8) (d : Nat) (h : Ctx T (c :: l) d) (hd : d ≤ 40) (hp : PatS T l (d + 1)) : AtomS T (c :: l) d := by
  unfold AtomS
  have hw : wrap64 ((d : Int) + 1) = ((d + 1 : Nat) : Int) := wr d (d + 1) 1 (by omega) (by omega)
  have h0 : decide ((d : Int) > 40) = false := decide_eq_false (by omega)
  have hge : ¬ pl T (c :: l) ≥ ((B T).size : Int) := by have := ctx_lt h; omega
  rw [spec_l3Atom.fv_eq, if_neg (by decide), if_neg hge, h0, spec_l3Atom.j0v_eq, if_neg (by decide), if_pos (pl_ge _ _), if_pos (ctx_lt h), ctx_bt h, ctx_next h, hw,
    impl_rexReader_atom.fv_eq, next_cons, Option.bind_some]
  dsimp only
  rw [if_pos (one_in c l), rest_of c l]
  by_cases h40 : (c.toNat : Int) = 40
  · rw [if_pos h40, if_pos h40]
    exact atom_brackets T c l d h hp
  rw [if_neg h40, if_neg h40]
  by_cases h46 : (c.toNat : Int) = 46
  · rw [if_pos h46, if_pos h46]
    exact out_leaf ..
  rw [if_neg h46, if_neg h46]
  by_cases h94 : (c.toNat : Int) = 94
  · rw [if_pos h94, if_pos h94]
    exact out_leaf ..
  rw [if_neg h94, if_neg h94]
  by_cases h36 : (c.toNat : Int) = 36
  · rw [if_pos h36, if_pos h36]
    exact out_leaf ..
  rw [if_neg h36, if_neg h36]
  by_cases h91 : (c.toNat : Int) = 91
  · rw [if_pos h91, if_pos h91]
    exact atom_set T c l d h
  rw [if_neg h91, if_neg h91]
  by_cases h92 : (c.toNat : Int) = 92
  · rw [if_pos h92, if_pos h92]
    exact atom_escape T c l d h
  rw [if_neg h92, if_neg h92]
  by_cases h42 : (c.toNat : Int) = 42
  · rw [if_pos h42, if_pos h42]
    exact out_bad ..
  rw [if_neg h42, if_neg h42]
  by_cases h43 : (c.toNat : Int) = 43
  · rw [if_pos h43, if_pos h43]
    exact out_bad ..
  rw [if_neg h43, if_neg h43]
  by_cases h63 : (c.toNat : Int) = 63
  · rw [if_pos h63, if_pos h63]
    exact out_bad ..
  rw [if_neg h63, if_neg h63]
  exact out_leaf ..
theorem atom_sim (T : List UInt8) (c : UInt8) (l : List UInt8) (d : Nat) (h : Ctx T (c :: l) d) (hp : PatS T l (d + 1)) (hp2 : PatS (c :: l) l 1) : AtomS T (c :: l) d := by
  by_cases hd : d ≤ 40
  · exact atom_low T c l d h hd hp
  · have hlen := ctx_len h
    rw [List.length_cons] at hlen
    have h0 : decide ((d : Int) > 40) = true := decide_eq_true (by omega)
    have hge : ¬ pl T (c :: l) ≥ ((B T).size : Int) := by have := ctx_lt h; omega
    have hs : spec_l3Atom.fv (B T) (pl T (c :: l)) false (d : Int) = some (0, 0, (⟨#[]⟩ : ByteArray), false, ([] : List (S26)), B T, pl T (c :: l), true) := by
      rw [spec_l3Atom.fv_eq, if_neg (by decide), if_neg hge, h0, spec_l3Atom.j0v_eq, if_pos rfl]
    unfold AtomS
    rw [hs]
    rcases atom_low (c :: l) c l 0 (ctx_self _ (by rw [List.length_cons]; omega)) (by omega) hp2 with ⟨x, l', p, e, hk, hg, -, hi⟩ | ⟨x, y, l', a, -, hi⟩ | ⟨x, y, l', a, hlt, _⟩
    · have e2 := congrArg List.length e
      rw [List.length_cons, List.length_append] at e2
      exact .inr (.inr ⟨(⟨0, 0, (⟨#[]⟩ : ByteArray), false, []⟩ : S26), x, l', _, by omega, by rw [List.length_cons]; omega, hg, rfl, hi⟩)
    · exact .inr (.inl ⟨(⟨0, 0, (⟨#[]⟩ : ByteArray), false, []⟩ : S26), y, l', _, rfl, hi⟩)
    · exact absurd hlt (Nat.not_lt_zero _)

/-! ### pieces, parts, patterns -/
theorem eta_ (x : S26) : (⟨x.f0, x.f1, x.f2, x.f3, x.f4⟩ : S26) = x := by cases x; rfl
theorem good_rep (k : Int) (x : S26) (hg : Good x) : Good (⟨k, 0, (⟨#[]⟩ : ByteArray), false, [x]⟩ : S26) :=
  good_node _ _ _ _ [x] (by simp) (fun y hy => by rw [List.mem_singleton] at hy; rw [hy]; exact hg)
theorem piece_loop (l : List UInt8) : ∀ (T : List UInt8) (d : Nat) (x : S26), Ctx T l d → Good x →
    Out T l d 0 (spec_l3Piece.l0v (B T) (pl T l) false x.f0 x.f1 x.f2 x.f3 x.f4) (impl_rexReader_piece.l0v (B l) false x.f0 x.f1 x.f2 x.f3 x.f4) := by
  induction l with
  | nil =>
    intro T d x h hg
    rw [spec_l3Piece.l0v_eq, if_neg (by decide), now_end, Option.bind_some]
    dsimp only
    rw [if_neg (by decide), now_end, Option.bind_some]
    dsimp only
    rw [if_neg (by decide), now_end, Option.bind_some]
    dsimp only
    rw [if_neg (by decide), if_pos rfl, impl_rexReader_piece.l0v_eq, next_nil, Option.bind_some]
    dsimp only
    rw [if_neg (by decide)]
    exact .inl ⟨x, [], [], rfl, Nat.le_refl _, hg, rfl, rfl⟩
  | cons c l ih =>
    intro T d x h hg
    have h1 := ctx_tail h
    rw [spec_l3Piece.l0v_eq, if_neg (by decide), now_cons h, Option.bind_some, impl_rexReader_piece.l0v_eq, next_cons, Option.bind_some]
    dsimp only
    rw [if_pos rfl]
    by_cases h42 : (c.toNat : Int) = 42
    · have hr : impl_repeatOf.f (c.toNat : Int) = some 8 := by unfold impl_repeatOf.f; rw [if_pos h42]
      rw [if_pos (by rw [h42]; rfl), if_neg (by decide), ctx_next h, hr, Option.bind_some, Option.bind_some, if_neg (by decide), if_pos (one_in c l), rest_of, eta_]
      exact out_cons (ih T d (⟨8, 0, (⟨#[]⟩ : ByteArray), false, [x]⟩ : S26) h1 (good_rep 8 x hg)) (by omega)
    rw [if_neg (by rw [beq_iff_eq]; exact h42), now_cons h, Option.bind_some]
    dsimp only
    by_cases h43 : (c.toNat : Int) = 43
    · have hr : impl_repeatOf.f (c.toNat : Int) = some 9 := by unfold impl_repeatOf.f; rw [if_neg h42, if_pos h43]
      rw [if_pos (by rw [h43]; rfl), if_neg (by decide), ctx_next h, hr, Option.bind_some, Option.bind_some, if_neg (by decide), if_pos (one_in c l), rest_of, eta_]
      exact out_cons (ih T d (⟨9, 0, (⟨#[]⟩ : ByteArray), false, [x]⟩ : S26) h1 (good_rep 9 x hg)) (by omega)
    rw [if_neg (by rw [beq_iff_eq]; exact h43), now_cons h, Option.bind_some]
    dsimp only
    by_cases h63 : (c.toNat : Int) = 63
    · have hr : impl_repeatOf.f (c.toNat : Int) = some 10 := by unfold impl_repeatOf.f; rw [if_neg h42, if_neg h43, if_pos h63]
      rw [if_pos (by rw [h63]; rfl), if_neg (by decide), ctx_next h, hr, Option.bind_some, Option.bind_some, if_neg (by decide), if_pos (one_in c l), rest_of, eta_]
      exact out_cons (ih T d (⟨10, 0, (⟨#[]⟩ : ByteArray), false, [x]⟩ : S26) h1 (good_rep 10 x hg)) (by omega)
    have hr : impl_repeatOf.f (c.toNat : Int) = some 0 := by unfold impl_repeatOf.f; rw [if_neg h42, if_neg h43, if_neg h63]
    rw [if_neg (by rw [beq_iff_eq]; exact h63), if_pos rfl, hr, Option.bind_some, if_pos rfl]
    exact .inl ⟨x, c :: l, [], rfl, Nat.le_refl _, hg, rfl, rfl⟩
theorem piece_sim (T : List UInt8) (c : UInt8) (l : List UInt8) (d : Nat) (h : Ctx T (c :: l) d) (ha : AtomS T (c :: l) d) : PieceS T (c :: l) d := by
  unfold PieceS
  rw [spec_l3Piece.fv_eq, impl_rexReader_piece.fv_eq]
  rcases ha with ⟨x, l', p, e, hk, hg, hs, hi⟩ | ⟨x, y, l', a, hs, hi⟩ | ⟨x, y, l', a, hlt, hle, hg, hs, hi⟩
  · rw [show _ = _ from hs, show _ = _ from hi, Option.bind_some, Option.bind_some]
    dsimp only
    exact out_app e (piece_loop l' T d x (ctx_app h e) hg) (by omega)
  · rw [show _ = _ from hs, show _ = _ from hi, Option.bind_some, Option.bind_some]
    dsimp only
    rw [spec_l3Piece.l0v_eq, if_pos rfl, impl_rexReader_piece.l0v_eq, next_bad, Option.bind_some]
    dsimp only
    rw [if_neg (by decide)]
    exact out_bad ..
  · rw [show _ = _ from hs, show _ = _ from hi, Option.bind_some, Option.bind_some]
    dsimp only
    rw [spec_l3Piece.l0v_eq, if_pos rfl]
    have hlen := ctx_len h
    rw [List.length_cons] at hlen hle
    rcases piece_loop l' l' 0 y (ctx_self l' (by omega)) hg with ⟨z, l2, p2, e2, -, hg2, -, hi2⟩ | ⟨z, z2, l2, a2, -, hi2⟩ | ⟨z, z2, l2, a2, hlt2, _⟩
    · have e3 := congrArg List.length e2
      rw [List.length_append] at e3
      exact .inr (.inr ⟨x, z, l2, _, by omega, by rw [List.length_cons]; omega, hg2, rfl, hi2⟩)
    · exact .inr (.inl ⟨x, z2, l2, _, rfl, hi2⟩)
    · exact absurd hlt2 (Nat.not_lt_zero _)
theorem part_end (xs : List S26) : ∃ x : S26, ((xs.length ≤ 1000 → (∀ y ∈ xs, Good y) → Good x)) ∧ (∀ S a b, spec_l3Part.j1v xs S a b = some (x.f0, x.f1, x.f2, x.f3, x.f4, S, a, b)) ∧ (∀ S b, impl_rexReader_part.j1v xs S b = some (x.f0, x.f1, x.f2, x.f3, x.f4, S, b)) := by
  by_cases h0 : (xs.length : Int) = 0
  · refine ⟨⟨11, 0, (⟨#[]⟩ : ByteArray), false, []⟩, fun _ _ => good_leaf _ _ _ _, fun S a b => ?_, fun S b => ?_⟩
    · rw [spec_l3Part.j1v_eq, if_pos h0]
    · rw [impl_rexReader_part.j1v_eq, if_pos h0]
  · by_cases h1 : (xs.length : Int) = 1
    · obtain ⟨y, rfl⟩ : ∃ y, xs = [y] := List.length_eq_one_iff.1 (by omega)
      refine ⟨y, fun _ hg => hg y (by simp), fun S a b => ?_, fun S b => ?_⟩
      · rw [spec_l3Part.j1v_eq, if_neg h0, if_pos h1, if_pos (by omega)]
        rfl
      · rw [impl_rexReader_part.j1v_eq, if_neg h0, if_pos h1, if_pos (by omega)]
        rfl
    · refine ⟨⟨6, 0, (⟨#[]⟩ : ByteArray), false, xs⟩, fun hl hg => good_node _ _ _ _ xs hl hg, fun S a b => ?_, fun S b => ?_⟩
      · rw [spec_l3Part.j1v_eq, if_neg h0, if_neg h1]
      · rw [impl_rexReader_part.j1v_eq, if_neg h0, if_neg h1]
theorem mem_more {xs : List S26} {x : S26} (h : ∀ y ∈ xs, Good y) (hx : Good x) : ∀ y ∈ xs ++ [x], Good y := by
  intro y hy
  rcases List.mem_append.1 hy with h1 | h1
  · exact h y h1
  · rw [List.mem_singleton] at h1
    rw [h1]
    exact hx
theorem part_loop (n : Nat) (HP : ∀ (T : List UInt8) (c : UInt8) (l : List UInt8) (d : Nat), l.length < n → Ctx T (c :: l) d → PieceS T (c :: l) d) (m : Nat) : ∀ (l T : List UInt8) (d : Nat) (xs : List S26), l.length ≤ m → l.length ≤ n → Ctx T l d → xs.length + l.length ≤ 500 → (∀ y ∈ xs, Good y) →
    Out T l d 0 (spec_l3Part.l0v (d : Int) xs (B T) (pl T l) false) (impl_rexReader_part.l0v xs (B l) false) := by
  induction m with
  | zero =>
    intro l T d xs hm hn h hx hg
    obtain rfl : l = [] := List.length_eq_zero_iff.1 (by omega)
    obtain ⟨x, hgx, h1, h2⟩ := part_end xs
    rw [spec_l3Part.l0v_eq, if_neg (by decide), if_neg (by rw [pl_nil, B_size]; omega), h1, impl_rexReader_part.l0v_eq, next_nil, Option.bind_some]
    dsimp only
    rw [if_neg (by decide), h2]
    exact .inl ⟨x, [], [], rfl, Nat.le_refl _, hgx (by omega) hg, rfl, rfl⟩
  | succ m ih =>
    intro l T d xs hm hn h hx hg
    obtain ⟨x, hgx, h1, h2⟩ := part_end xs
    cases l with
    | nil =>
      rw [spec_l3Part.l0v_eq, if_neg (by decide), if_neg (by rw [pl_nil, B_size]; omega), h1, impl_rexReader_part.l0v_eq, next_nil, Option.bind_some]
      dsimp only
      rw [if_neg (by decide), h2]
      exact .inl ⟨x, [], [], rfl, Nat.le_refl _, hgx (by omega) hg, rfl, rfl⟩
    | cons c l =>
      rw [List.length_cons] at hm hn hx
      rw [spec_l3Part.l0v_eq, if_neg (by decide), if_pos (ctx_lt h), if_pos (pl_ge _ _), ctx_bt h, impl_rexReader_part.l0v_eq, next_cons, Option.bind_some]
      dsimp only
      rw [if_pos rfl]
      by_cases h124 : (c.toNat : Int) = 124
      · rw [if_pos h124, if_pos h124, h1, h2]
        exact .inl ⟨x, c :: l, [], rfl, Nat.le_refl _, hgx (by omega) hg, rfl, rfl⟩
      rw [if_neg h124, if_neg h124]
      by_cases h41 : (c.toNat : Int) = 41
      · rw [if_pos h41, if_pos h41, h1, h2]
        exact .inl ⟨x, c :: l, [], rfl, Nat.le_refl _, hgx (by omega) hg, rfl, rfl⟩
      rw [if_neg h41, if_neg h41]
      rcases HP T c l d (by omega) h with ⟨z, l', p, e, hk, hgz, hs, hi⟩ | ⟨z, y, l', a, hs, hi⟩ | ⟨z, y, l', a, hlt, hle, hgy, hs, hi⟩
      · have e3 := congrArg List.length e
        rw [List.length_append, List.length_cons] at e3
        rw [show _ = _ from hs, show _ = _ from hi, Option.bind_some, Option.bind_some]
        dsimp only
        rw [if_pos (by omega), if_pos (by omega), eta_]
        exact out_app e (ih l' T d (xs ++ [z]) (by omega) (by omega) (ctx_app h e) (by rw [List.length_append, List.length_singleton]; omega) (mem_more hg hgz)) (by omega)
      · rw [show _ = _ from hs, show _ = _ from hi, Option.bind_some, Option.bind_some]
        dsimp only
        rw [if_pos (by omega), if_pos (by omega), eta_, eta_]
        obtain ⟨u, -, u1, -⟩ := part_end (xs ++ [z])
        obtain ⟨v, -, -, v1⟩ := part_end (xs ++ [y])
        rw [spec_l3Part.l0v_eq, if_pos rfl, impl_rexReader_part.l0v_eq, next_bad, Option.bind_some]
        dsimp only
        rw [if_neg (by decide)]
        exact .inr (.inl ⟨u, v, l', a, u1 .., v1 ..⟩)
      · rw [show _ = _ from hs, show _ = _ from hi, Option.bind_some, Option.bind_some]
        dsimp only
        rw [if_pos (by omega), if_pos (by omega), eta_, eta_]
        obtain ⟨u, -, u1, -⟩ := part_end (xs ++ [z])
        rw [spec_l3Part.l0v_eq, if_pos rfl]
        have hlen := ctx_len h
        rw [List.length_cons] at hlen hle
        rcases ih l' l' 0 (xs ++ [y]) (by omega) (by omega) (ctx_self l' (by omega)) (by rw [List.length_append, List.length_singleton]; omega) (mem_more hg hgy) with ⟨z2, l2, p2, e2, -, hg2, -, hi2⟩ | ⟨z1, z2, l2, a2, -, hi2⟩ | ⟨z1, z2, l2, a2, hlt2, _⟩
        · have e3 := congrArg List.length e2
          rw [List.length_append] at e3
          exact .inr (.inr ⟨u, z2, l2, a, by omega, by rw [List.length_cons]; omega, hg2, u1 .., hi2⟩)
        · exact .inr (.inl ⟨u, z2, l2, a, u1 .., hi2⟩)
        · exact absurd hlt2 (Nat.not_lt_zero _)
theorem part_sim (n : Nat) (HP : ∀ (T : List UInt8) (c : UInt8) (l : List UInt8) (d : Nat), l.length < n → Ctx T (c :: l) d → PieceS T (c :: l) d) (l T : List UInt8) (d : Nat) (hn : l.length ≤ n) (h : Ctx T l d) : PartS T l d := by
  unfold PartS
  rw [spec_l3Part.fv_eq, impl_rexReader_part.fv_eq]
  have hlen := ctx_len h
  exact part_loop n HP _ l T d [] (Nat.le_refl _) hn h (by rw [List.length_nil]; omega) (by simp)
/-- what a pattern of these parts is -/
theorem pat_end (xs : List S26) : ∃ x : S26, ((xs.length ≤ 1000 → (∀ y ∈ xs, Good y) → Good x)) ∧
    (∀ (S : ByteArray) (a : Int) (b : Bool), (if (xs.length : Int) = 1 then (if 0 < (xs.length : Int) then (some ((rd_T26 xs 0).f0, (rd_T26 xs 0).f1, (rd_T26 xs 0).f2, (rd_T26 xs 0).f3, (rd_T26 xs 0).f4, S, a, b)) else (none)) else (some (7, 0, (⟨#[]⟩ : ByteArray), false, xs, S, a, b))) = some (x.f0, x.f1, x.f2, x.f3, x.f4, S, a, b)) ∧
    (∀ (S : ByteArray) (b : Bool), (if (xs.length : Int) = 1 then (if 0 < (xs.length : Int) then (some ((rd_T26 xs 0).f0, (rd_T26 xs 0).f1, (rd_T26 xs 0).f2, (rd_T26 xs 0).f3, (rd_T26 xs 0).f4, S, b)) else (none)) else (some (7, 0, (⟨#[]⟩ : ByteArray), false, xs, S, b))) = some (x.f0, x.f1, x.f2, x.f3, x.f4, S, b)) := by
  by_cases h1 : (xs.length : Int) = 1
  · obtain ⟨y, rfl⟩ : ∃ y, xs = [y] := List.length_eq_one_iff.1 (by omega)
    refine ⟨y, fun _ hg => hg y (by simp), fun S a b => ?_, fun S b => ?_⟩
    · rw [if_pos h1, if_pos (by omega)]
      rfl
    · rw [if_pos h1, if_pos (by omega)]
      rfl
  · refine ⟨⟨7, 0, (⟨#[]⟩ : ByteArray), false, xs⟩, fun hl hg => good_node _ _ _ _ xs hl hg, fun S a b => ?_, fun S b => ?_⟩
    · rw [if_neg h1]
    · rw [if_neg h1]
theorem pat_loop (n : Nat) (HP : ∀ (l T : List UInt8) (d : Nat), l.length ≤ n → Ctx T l d → PartS T l d) (m : Nat) : ∀ (l T : List UInt8) (d : Nat) (xs : List S26), l.length ≤ m → l.length ≤ n → Ctx T l d → xs.length + l.length ≤ 500 → (∀ y ∈ xs, Good y) →
    Out T l d 0 (spec_l3Pattern.l0v (d : Int) xs (B T) (pl T l) false) (impl_rexReader_pattern.l0v xs (B l) false) := by
  induction m with
  | zero =>
    intro l T d xs hm hn h hx hg
    obtain rfl : l = [] := List.length_eq_zero_iff.1 (by omega)
    obtain ⟨x, hgx, h1, h2⟩ := pat_end xs
    rw [spec_l3Pattern.l0v_eq, now_end, Option.bind_some, impl_rexReader_pattern.l0v_eq, take_nil, Option.bind_some]
    dsimp only
    rw [if_neg (by decide), h1, if_neg (by decide), h2]
    exact .inl ⟨x, [], [], rfl, Nat.le_refl _, hgx (by omega) hg, rfl, rfl⟩
  | succ m ih =>
    intro l T d xs hm hn h hx hg
    obtain ⟨x, hgx, h1, h2⟩ := pat_end xs
    cases l with
    | nil =>
      rw [spec_l3Pattern.l0v_eq, now_end, Option.bind_some, impl_rexReader_pattern.l0v_eq, take_nil, Option.bind_some]
      dsimp only
      rw [if_neg (by decide), h1, if_neg (by decide), h2]
      exact .inl ⟨x, [], [], rfl, Nat.le_refl _, hgx (by omega) hg, rfl, rfl⟩
    | cons c l =>
      rw [List.length_cons] at hm hn hx
      rw [spec_l3Pattern.l0v_eq, now_cons h, Option.bind_some, impl_rexReader_pattern.l0v_eq]
      dsimp only
      by_cases h124 : (c.toNat : Int) = 124
      · have h3 := ctx_tail h
        rw [take_hit c l 124 h124, Option.bind_some]
        dsimp only
        rw [if_pos (by rw [h124]; rfl), if_pos rfl, ctx_next h]
        rcases HP l T d (by omega) h3 with ⟨z, l', p, e, hk, hgz, hs, hi⟩ | ⟨z, y, l', a, hs, hi⟩ | ⟨z, y, l', a, hlt, hle, hgy, hs, hi⟩
        · have e3 := congrArg List.length e
          rw [List.length_append] at e3
          rw [show _ = _ from hs, show _ = _ from hi, Option.bind_some, Option.bind_some]
          dsimp only
          rw [if_pos (by omega), if_pos (by omega), eta_]
          exact out_cons (out_app e (ih l' T d (xs ++ [z]) (by omega) (by omega) (ctx_app h3 e) (by rw [List.length_append, List.length_singleton]; omega) (mem_more hg hgz)) (Nat.zero_le _)) (Nat.zero_le _)
        · rw [show _ = _ from hs, show _ = _ from hi, Option.bind_some, Option.bind_some]
          dsimp only
          rw [if_pos (by omega), if_pos (by omega), eta_, eta_]
          obtain ⟨u, -, u1, -⟩ := pat_end (xs ++ [z])
          obtain ⟨v, -, -, v1⟩ := pat_end (xs ++ [y])
          rw [spec_l3Pattern.l0v_eq, now_bad, Option.bind_some, impl_rexReader_pattern.l0v_eq, take_bad, Option.bind_some]
          dsimp only
          rw [if_neg (by decide), u1, if_neg (by decide), v1]
          exact .inr (.inl ⟨u, v, l', a, rfl, rfl⟩)
        · rw [show _ = _ from hs, show _ = _ from hi, Option.bind_some, Option.bind_some]
          dsimp only
          rw [if_pos (by omega), if_pos (by omega), eta_, eta_]
          obtain ⟨u, -, u1, -⟩ := pat_end (xs ++ [z])
          rw [spec_l3Pattern.l0v_eq, now_bad, Option.bind_some]
          dsimp only
          rw [if_neg (by decide)]
          have hlen := ctx_len h
          rw [List.length_cons] at hlen
          rcases ih l' l' 0 (xs ++ [y]) (by omega) (by omega) (ctx_self l' (by omega)) (by rw [List.length_append, List.length_singleton]; omega) (mem_more hg hgy) with ⟨z2, l2, p2, e2, -, hg2, -, hi2⟩ | ⟨z1, z2, l2, a2, -, hi2⟩ | ⟨z1, z2, l2, a2, hlt2, _⟩
          · have e3 := congrArg List.length e2
            rw [List.length_append] at e3
            exact .inr (.inr ⟨u, z2, l2, a, by omega, by rw [List.length_cons]; omega, hg2, u1 .., hi2⟩)
          · exact .inr (.inl ⟨u, z2, l2, a, u1 .., hi2⟩)
          · exact absurd hlt2 (Nat.not_lt_zero _)
      · rw [take_miss c l 124 h124, Option.bind_some]
        dsimp only
        rw [if_neg (by rw [beq_iff_eq]; exact h124), h1, if_neg (by decide), h2]
        exact .inl ⟨x, c :: l, [], rfl, Nat.le_refl _, hgx (by omega) hg, rfl, rfl⟩
theorem pat_sim (n : Nat) (HP : ∀ (l T : List UInt8) (d : Nat), l.length ≤ n → Ctx T l d → PartS T l d) (l T : List UInt8) (d : Nat) (hn : l.length ≤ n) (h : Ctx T l d) : PatS T l d := by
  unfold PatS
  rw [spec_l3Pattern.fv_eq, impl_rexReader_pattern.fv_eq]
  have hlen := ctx_len h
  rcases HP l T d hn h with ⟨z, l', p, e, hk, hgz, hs, hi⟩ | ⟨z, y, l', a, hs, hi⟩ | ⟨z, y, l', a, hlt, hle, hgy, hs, hi⟩
  · have e3 := congrArg List.length e
    rw [List.length_append] at e3
    rw [show _ = _ from hs, show _ = _ from hi, Option.bind_some, Option.bind_some]
    dsimp only
    rw [eta_]
    exact out_app e (pat_loop n HP _ l' T d [z] (Nat.le_refl _) (by omega) (ctx_app h e) (by rw [List.length_singleton]; omega) (mem_more (xs := []) (by simp) hgz)) (Nat.zero_le _)
  · rw [show _ = _ from hs, show _ = _ from hi, Option.bind_some, Option.bind_some]
    dsimp only
    rw [eta_, eta_]
    obtain ⟨u, -, u1, -⟩ := pat_end [z]
    obtain ⟨v, -, -, v1⟩ := pat_end [y]
    rw [spec_l3Pattern.l0v_eq, now_bad, Option.bind_some, impl_rexReader_pattern.l0v_eq, take_bad, Option.bind_some]
    dsimp only
    rw [if_neg (by decide), u1, if_neg (by decide), v1]
    exact .inr (.inl ⟨u, v, l', a, rfl, rfl⟩)
  · rw [show _ = _ from hs, show _ = _ from hi, Option.bind_some, Option.bind_some]
    dsimp only
    rw [eta_, eta_]
    obtain ⟨u, -, u1, -⟩ := pat_end [z]
    rw [spec_l3Pattern.l0v_eq, now_bad, Option.bind_some]
    dsimp only
    rw [if_neg (by decide)]
    rcases pat_loop n HP _ l' l' 0 [y] (Nat.le_refl _) (by omega) (ctx_self l' (by omega)) (by rw [List.length_singleton]; omega) (mem_more (xs := []) (by simp) hgy) with ⟨z2, l2, p2, e2, -, hg2, -, hi2⟩ | ⟨z1, z2, l2, a2, -, hi2⟩ | ⟨z1, z2, l2, a2, hlt2, _⟩
    · have e3 := congrArg List.length e2
      rw [List.length_append] at e3
      exact .inr (.inr ⟨u, z2, l2, a, by omega, by omega, hg2, u1 .., hi2⟩)
    · exact .inr (.inl ⟨u, z2, l2, a, u1 .., hi2⟩)
    · exact absurd hlt2 (Nat.not_lt_zero _)
theorem all_sim (n : Nat) : ∀ (l T : List UInt8) (d : Nat), l.length < n → Ctx T l d → PatS T l d := by
  induction n with
  | zero => intro l T d h; exact absurd h (Nat.not_lt_zero _)
  | succ n ih =>
    have HA : ∀ (T : List UInt8) (c : UInt8) (l : List UInt8) (d : Nat), l.length < n → Ctx T (c :: l) d → PieceS T (c :: l) d := by
      intro T c l d hl h
      have hlen := ctx_len h
      rw [List.length_cons] at hlen
      exact piece_sim T c l d h (atom_sim T c l d h (ih l T (d + 1) hl (ctx_in h)) (ih l (c :: l) 1 hl (ctx_in (ctx_self (c :: l) (by rw [List.length_cons]; omega)))))
    intro l T d hl h
    exact pat_sim n (fun l T d hl h => part_sim n HA l T d hl h) l T d (by omega) h
/-- both read a text alike -/
theorem parse_both (s : ByteArray) : ∃ (x : S26) (ok : Bool), spec_RexParse.fv s = some (x.f0, x.f1, x.f2, x.f3, x.f4, ok) ∧ impl_RexParse.fv s = some (x.f0, x.f1, x.f2, x.f3, x.f4, ok) := by
  rw [spec_RexParse.fv_eq, impl_RexParse.fv_eq]
  by_cases h60 : (s.size : Int) > 60
  · rw [if_pos h60, if_pos h60]
    exact ⟨⟨0, 0, (⟨#[]⟩ : ByteArray), false, []⟩, false, rfl, rfl⟩
  rw [if_neg h60, if_neg h60]
  have hs : B s.data.toList = s := B_self s
  generalize s.data.toList = l at hs
  subst hs
  rw [B_size] at h60
  have hp0 : (0 : Int) = pl l l := by unfold pl; omega
  have hz : spec_l3Pattern.fv (B l) 0 false 0 = spec_l3Pattern.fv (B l) (pl l l) false ((0 : Nat) : Int) := by rw [← hp0]; rfl
  rw [hz]
  rcases all_sim (l.length + 1) l l 0 (by omega) (ctx_self l (by omega)) with ⟨z, l', p, e, hk, ⟨v, g1, g2⟩, hs, hi⟩ | ⟨z, y, l', a, hs, hi⟩ | ⟨z, y, l', a, hlt, _⟩
  · rw [show _ = _ from hs, show _ = _ from hi, Option.bind_some, Option.bind_some]
    dsimp only
    cases l' with
    | nil =>
      have y1 : pl l [] = ((B l).size : Int) := by rw [pl_nil, B_size]
      simp only [Bool.false_eq_true, if_false, if_pos y1, B_toList, if_true, g1, g2, Option.bind_some]
      by_cases h12 : v > 12
      · rw [if_pos h12]
        exact ⟨⟨0, 0, (⟨#[]⟩ : ByteArray), false, []⟩, false, rfl, rfl⟩
      · rw [if_neg h12]
        exact ⟨z, true, rfl, rfl⟩
    | cons c l' =>
      have e3 := congrArg List.length e
      rw [List.length_append, List.length_cons] at e3
      have y1 : ¬ pl l (c :: l') = ((B l).size : Int) := by unfold pl; rw [List.length_cons, B_size]; omega
      have y2 : ¬ (c :: l') = ([] : List UInt8) := by simp
      simp only [Bool.false_eq_true, if_false, if_neg y1, B_toList, if_neg y2]
      exact ⟨⟨0, 0, (⟨#[]⟩ : ByteArray), false, []⟩, false, rfl, rfl⟩
  · rw [show _ = _ from hs, show _ = _ from hi, Option.bind_some, Option.bind_some]
    dsimp only
    rw [if_pos rfl, if_pos rfl]
    exact ⟨⟨0, 0, (⟨#[]⟩ : ByteArray), false, []⟩, false, rfl, rfl⟩
  · exact absurd hlt (Nat.not_lt_zero _)

/-! ### a text in brackets is read as that text; what is read is fine -/
inductive FineL : List S26 → Nat → Prop
  | nil : FineL [] 0
  | cons {x : S26} {l : List S26} {a b : Nat} (h : (x.f0 = 7 ∨ x.f0 = 8 ∨ x.f0 = 9 ∨ x.f0 = 10) → x.f4 ≠ []) (hs : x.f2.size ≤ 1000) (hk : FineL x.f4 a) (ht : FineL l b) : FineL (x :: l) (a + b + 4)
theorem fine_app {l m : List S26} {a b : Nat} (h : FineL l a) (h' : FineL m b) : FineL (l ++ m) (a + b) := by
  induction h with
  | nil => simpa using h'
  | cons q1 q2 q3 q4 _ ih =>
    have := FineL.cons q1 q2 q3 ih
    rw [List.cons_append]
    have e : ∀ u v w : Nat, u + (v + w) + 4 = u + v + 4 + w := fun u v w => by omega
    rw [e] at this
    exact this
theorem fine_node {op ch : Int} {s : ByteArray} {neg : Bool} {kids : List S26} {a : Nat} (h : (op = 7 ∨ op = 8 ∨ op = 9 ∨ op = 10) → kids ≠ []) (hs : s.size ≤ 1000) (hk : FineL kids a) : FineL [(⟨op, ch, s, neg, kids⟩ : S26)] (a + 4) := FineL.cons h hs hk .nil
theorem fine_leaf {op ch : Int} {s : ByteArray} {neg : Bool} (h : ¬ (op = 7 ∨ op = 8 ∨ op = 9 ∨ op = 10)) (hs : s.size ≤ 1000) : FineL [(⟨op, ch, s, neg, []⟩ : S26)] 4 := fine_node (fun q => absurd q h) hs .nil
def Rd (l : List UInt8) (k : Nat) (o ox : Option (Int × Int × ByteArray × Bool × List S26 × ByteArray × Bool)) : Prop :=
  ∃ x l' b, IR o x l' b ∧ (b = false → (∃ p, l = p ++ l' ∧ ∃ n, FineL [x] n ∧ n ≤ 8 * p.length + k) ∧ IR ox x (l' ++ [41]) false)
theorem set_out (has : List Bool) (hh : has.length = 256) (n : Nat) : ∀ (i : Nat) (out : List Int), 256 - i = n → i ≤ 256 → out.length ≤ i → ∃ out' : List Int, out'.length ≤ 256 ∧
    ∀ S c p q s f, impl_rexReader_set.l2v out has 256 (i : Int) S c p q s f = some (p, q, strOfNums out', f, [], S, c) := by
  induction n with
  | zero =>
    intro i out h1 h2 h3
    refine ⟨out, by omega, fun S c p q s f => ?_⟩
    rw [impl_rexReader_set.l2v_eq, if_neg (by omega)]
  | succ n ih =>
    intro i out h1 h2 h3
    have hw : wrap64 ((i : Int) + 1) = ((i + 1 : Nat) : Int) := by rw [wrap_in (by omega) (by omega)]; omega
    by_cases h : rdOf false has (i : Int) = true
    · obtain ⟨out', e0, e1⟩ := ih (i + 1) (out ++ [(i : Int) % 256]) (by omega) (by omega) (by simp; omega)
      refine ⟨out', e0, fun S c p q s f => ?_⟩
      rw [impl_rexReader_set.l2v_eq, if_pos (by omega), if_pos (by omega), if_pos (by omega), if_pos h, if_pos (by omega), hw]
      exact e1 S c p q s f
    · obtain ⟨out', e0, e1⟩ := ih (i + 1) out (by omega) (by omega) (by omega)
      refine ⟨out', e0, fun S c p q s f => ?_⟩
      rw [impl_rexReader_set.l2v_eq, if_pos (by omega), if_pos (by omega), if_pos (by omega), if_neg h, hw]
      exact e1 S c p q s f
/-- Behind the sign of a set. -/
noncomputable def setTail (l : List UInt8) (neg : Bool) : Option (Int × Int × ByteArray × Bool × List S26 × ByteArray × Bool) :=
  (strings_IndexByte.f (B l) 93).bind fun t21 => (if t21 < 1 then (some (0, 0, (⟨#[]⟩ : ByteArray), false, ([] : List S26), B l, true)) else (if 0 ≤ t21 then (if t21 ≤ ((B l).size : Int) then (if 0 ≤ (wrap64 (t21 + 1)) then (if (wrap64 (t21 + 1)) ≤ ((B l).size : Int) then (if 256 ≤ 281474976710656 then (impl_rexReader_set.l0v ((B l).extract 0 (t21 : Int).toNat) (List.replicate 256 false) 0 ((B l).extract ((wrap64 (t21 + 1)) : Int).toNat (B l).size) false 3 0 (⟨#[]⟩ : ByteArray) neg) else (none)) else (none)) else (none)) else (none)) else (none)))
theorem idx_app (a r : List UInt8) (ha : (93 : UInt8) ∉ a) : Lib.indexByte (a ++ 93 :: r) 93 = (a.length : Int) := by
  induction a with
  | nil => simp [Lib.indexByte]
  | cons b a ih =>
    have hb : (b == 93) = false := by simp at ha; simpa using fun e => ha.1 e.symm
    have hne : ¬ ((a.length : Int) == -1) = true := fun z => by have := beq_iff_eq.1 z; omega
    rw [List.cons_append, Lib.indexByte, hb, ih (by simp at ha; exact ha.2), if_neg (by decide), if_neg hne]
    simp
theorem tail_at (a r : List UInt8) (ha : (93 : UInt8) ∉ a) (h0 : 0 < a.length) (hl : a.length ≤ 60) (hr : r.length ≤ 200) (neg : Bool) : ∀ has' c', (∀ S p q s f, impl_rexReader_set.l0v (B a) (List.replicate 256 false) 0 S false p q s f = impl_rexReader_set.l2v [] has' 256 0 S c' p q s f) → setTail (a ++ 93 :: r) neg = impl_rexReader_set.l2v [] has' 256 0 (B r) c' 3 0 (⟨#[]⟩ : ByteArray) neg := by
  intro has' c' hh
  have hlen : (a ++ 93 :: r).length = a.length + (r.length + 1) := by simp
  have x1 : (B (a ++ 93 :: r)).extract 0 ((a.length : Nat) : Int).toNat = B a := by rw [Int.toNat_natCast, B_extract]; simp
  have x2 : (B (a ++ 93 :: r)).extract (((a.length + 1 : Nat) : Int)).toNat (B (a ++ 93 :: r)).size = B r := after_close a r
  have w2 : wrap64 ((a.length : Int) + 1) = ((a.length + 1 : Nat) : Int) := wr a.length (a.length + 1) 1 (by omega) (by omega)
  unfold setTail
  show (some (Lib.indexByte (B (a ++ 93 :: r)).data.toList 93)).bind _ = _
  rw [Option.bind_some, B_data, idx_app a r ha, if_neg (by omega), if_pos (by omega), if_pos (by rw [B_size]; omega), w2, if_pos (by omega), if_pos (by rw [B_size]; omega), if_pos (by decide), x1, x2, hh]
theorem tail_rd (l : List UInt8) (hl : l.length ≤ 60) (neg : Bool) : Rd l 4 (setTail l neg) (setTail (l ++ [41]) neg) := by
  rcases idx_close l with ⟨e, hn⟩ | ⟨a, r, e, hn, hk⟩
  · refine ⟨⟨0, 0, (⟨#[]⟩ : ByteArray), false, []⟩, l, true, ?_, fun h => by cases h⟩
    unfold setTail
    show (some (Lib.indexByte (B l).data.toList 93)).bind _ = _
    rw [Option.bind_some, B_data, e, if_pos (by decide)]
  · subst e
    by_cases h0 : a.length = 0
    · refine ⟨⟨0, 0, (⟨#[]⟩ : ByteArray), false, []⟩, a ++ 93 :: r, true, ?_, fun h => by cases h⟩
      unfold setTail
      show (some (Lib.indexByte (B (a ++ 93 :: r)).data.toList 93)).bind _ = _
      rw [Option.bind_some, B_data, hk, if_pos (by omega)]
    · have hal : a.length ≤ 60 := by rw [List.length_append] at hl; omega
      have hrl : r.length ≤ 60 := by rw [List.length_append, List.length_cons] at hl; omega
      obtain ⟨has', m', c', k1, k2, k3, k4, k5⟩ := set_run a [] a [] (by simp) hal hn (.inl rfl) _ 0 0 (List.replicate 256 false) false (Nat.le_refl _) (Nat.zero_le _) (List.length_replicate ..) (Nat.le_refl _) (fun z => absurd z (Nat.lt_irrefl 0))
      obtain ⟨out', o0, o1⟩ := set_out has' k1 _ 0 [] rfl (by omega) (by simp)
      have t1 := tail_at a r hn (by omega) hal (by omega) neg has' c' (fun S p q s f => k4 S p q s f)
      have t2 := tail_at a (r ++ [41]) hn (by omega) hal (by simp; omega) neg has' c' (fun S p q s f => k4 S p q s f)
      refine ⟨⟨3, 0, strOfNums out', neg, []⟩, r, c', ?_, fun hc => ⟨⟨a ++ [93], by simp, 4, fine_leaf (by decide) (by rw [strOfNums_size]; omega), by omega⟩, ?_⟩⟩
      · show setTail _ _ = _
        rw [t1]; exact o1 _ _ _ _ _ _
      · show setTail _ _ = _
        rw [show a ++ 93 :: r ++ [41] = a ++ 93 :: (r ++ [41]) by simp, t2, hc]; exact o1 _ _ _ _ _ _
theorem rd_cons {c : UInt8} {l : List UInt8} {k k' : Nat} {o ox} (h : Rd l k o ox) (hk : k ≤ 8 + k') : Rd (c :: l) k' o ox := by
  obtain ⟨x, l', b, h1, h2⟩ := h
  refine ⟨x, l', b, h1, fun hb => ?_⟩
  obtain ⟨⟨p, e, n, hn, hle⟩, h3⟩ := h2 hb
  exact ⟨⟨c :: p, by rw [e]; rfl, n, hn, by rw [List.length_cons]; omega⟩, h3⟩
theorem set_tail (m : List UInt8) : (impl_rexReader_set.fv (B m) false) = (match m with | [] => setTail [] false | c :: r => if (c.toNat : Int) = 94 then setTail r true else setTail (c :: r) false) := by
  rw [impl_rexReader_set.fv_eq]
  cases m with
  | nil => rw [take_nil]; rfl
  | cons c r =>
    by_cases h : (c.toNat : Int) = 94
    · rw [take_hit c r 94 h, Option.bind_some]; simp only [h, if_true]; rfl
    · rw [take_miss c r 94 h, Option.bind_some]; simp only [h, if_false]; rfl
theorem set_rd (l : List UInt8) (hl : l.length ≤ 60) : Rd l 4 (impl_rexReader_set.fv (B l) false) (impl_rexReader_set.fv (B (l ++ [41])) false) := by
  rw [set_tail, set_tail]
  cases l with
  | nil =>
    show Rd [] 4 (setTail [] false) (if ((41 : UInt8).toNat : Int) = 94 then setTail [] true else setTail [41] false)
    rw [if_neg (by decide)]
    exact tail_rd [] (by simp) false
  | cons c r =>
    show Rd (c :: r) 4 (if (c.toNat : Int) = 94 then setTail r true else setTail (c :: r) false) (if (c.toNat : Int) = 94 then setTail (r ++ [41]) true else setTail (c :: r ++ [41]) false)
    rw [List.length_cons] at hl
    by_cases h : (c.toNat : Int) = 94
    · rw [if_pos h, if_pos h]; exact rd_cons (tail_rd r (by omega) true) (by omega)
    · rw [if_neg h, if_neg h]; exact tail_rd (c :: r) (by rw [List.length_cons]; omega) false
theorem atom_rd (c : UInt8) (l : List UInt8) (hl : l.length ≤ 60) (HP : Rd l 8 (impl_rexReader_pattern.fv (B l) false) (impl_rexReader_pattern.fv (B (l ++ [41])) false)) : Rd (c :: l) 0 (impl_rexReader_atom.fv (B (c :: l)) false) (impl_rexReader_atom.fv (B (c :: (l ++ [41]))) false) := by
  have e0 : (⟨#[]⟩ : ByteArray).size ≤ 1000 := by decide
  have leaf : ∀ (op ch : Int), ¬ (op = 7 ∨ op = 8 ∨ op = 9 ∨ op = 10) → Rd (c :: l) 0 (some (op, ch, (⟨#[]⟩ : ByteArray), false, ([] : List S26), B l, false)) (some (op, ch, (⟨#[]⟩ : ByteArray), false, ([] : List S26), B (l ++ [41]), false)) := fun op ch h => ⟨⟨op, ch, ⟨#[]⟩, false, []⟩, l, false, rfl, fun _ => ⟨⟨[c], rfl, 4, fine_leaf h e0, by simp⟩, rfl⟩⟩
  have bad : ∀ (m : List UInt8) (ox), Rd (c :: l) 0 (some (0, 0, (⟨#[]⟩ : ByteArray), false, ([] : List S26), B m, true)) ox := fun m ox => ⟨⟨0, 0, ⟨#[]⟩, false, []⟩, m, true, rfl, fun h => by cases h⟩
  rw [impl_rexReader_atom.fv_eq, impl_rexReader_atom.fv_eq, next_cons, next_cons, Option.bind_some, Option.bind_some]
  dsimp only
  rw [if_pos (one_in c l), if_pos (one_in c (l ++ [41])), rest_of, rest_of]
  by_cases c1 : (c.toNat : Int) = 40
  · rw [if_pos c1, if_pos c1]
    obtain ⟨x, l', b, h1, h2⟩ := HP
    rw [show _ = _ from h1, Option.bind_some]
    dsimp only
    cases b with
    | true => rw [take_bad, Option.bind_some]; exact ⟨x, l', true, rfl, fun h => by cases h⟩
    | false =>
      obtain ⟨⟨p, e, n, hn, hle⟩, h3⟩ := h2 rfl
      rw [show _ = _ from h3, Option.bind_some]
      dsimp only
      cases l' with
      | nil => rw [take_nil, Option.bind_some]; exact ⟨x, [], true, rfl, fun h => by cases h⟩
      | cons d r =>
        by_cases hd : (d.toNat : Int) = 41
        · rw [take_hit d r 41 hd, List.cons_append, take_hit d (r ++ [41]) 41 hd, Option.bind_some, Option.bind_some]
          exact ⟨x, r, false, rfl, fun _ => ⟨⟨c :: (p ++ [d]), by rw [e]; simp, n, hn, by simp; omega⟩, rfl⟩⟩
        · rw [take_miss d r 41 hd, Option.bind_some]; exact ⟨x, d :: r, true, rfl, fun h => by cases h⟩
  rw [if_neg c1, if_neg c1]
  by_cases c2 : (c.toNat : Int) = 46
  · rw [if_pos c2, if_pos c2]; exact leaf _ _ (by decide)
  rw [if_neg c2, if_neg c2]
  by_cases c3 : (c.toNat : Int) = 94
  · rw [if_pos c3, if_pos c3]; exact leaf _ _ (by decide)
  rw [if_neg c3, if_neg c3]
  by_cases c4 : (c.toNat : Int) = 36
  · rw [if_pos c4, if_pos c4]; exact leaf _ _ (by decide)
  rw [if_neg c4, if_neg c4]
  by_cases c5 : (c.toNat : Int) = 91
  · rw [if_pos c5, if_pos c5]
    obtain ⟨x, l', b, h1, h2⟩ := set_rd l hl
    rw [show _ = _ from h1, Option.bind_some]
    refine ⟨x, l', b, rfl, fun hb => ?_⟩
    obtain ⟨⟨p, e, n, hn, hle⟩, h3⟩ := h2 hb
    rw [show _ = _ from h3, Option.bind_some]
    exact ⟨⟨c :: p, by rw [e]; rfl, n, hn, by rw [List.length_cons]; omega⟩, rfl⟩
  rw [if_neg c5, if_neg c5]
  by_cases c6 : (c.toNat : Int) = 92
  · rw [if_pos c6, if_pos c6]
    cases l with
    | nil => rw [next_nil, Option.bind_some]; exact bad _ _
    | cons d r =>
      rw [List.cons_append, next_cons, next_cons, Option.bind_some, Option.bind_some]
      dsimp only
      rw [if_pos rfl, if_pos rfl, if_pos (one_in d r), if_pos (one_in d (r ++ [41])), rest_of, rest_of]
      exact ⟨⟨1, wrap64 (d.toNat : Int), ⟨#[]⟩, false, []⟩, r, false, rfl, fun _ => ⟨⟨[c, d], rfl, 4, fine_leaf (by decide) e0, by simp⟩, rfl⟩⟩
  rw [if_neg c6, if_neg c6]
  by_cases c7 : (c.toNat : Int) = 42
  · rw [if_pos c7]; exact bad _ _
  rw [if_neg c7, if_neg c7]
  by_cases c8 : (c.toNat : Int) = 43
  · rw [if_pos c8]; exact bad _ _
  rw [if_neg c8, if_neg c8]
  by_cases c9 : (c.toNat : Int) = 63
  · rw [if_pos c9]; exact bad _ _
  rw [if_neg c9, if_neg c9]
  exact leaf _ _ (by decide)
theorem rep_run (l : List UInt8) : ∀ (x : S26) (n : Nat), FineL [x] n → ∃ y l', impl_rexReader_piece.l0v (B l) false x.f0 x.f1 x.f2 x.f3 x.f4 = some (y.f0, y.f1, y.f2, y.f3, y.f4, B l', false) ∧ (∃ p, l = p ++ l' ∧ ∃ n', FineL [y] n' ∧ n' ≤ n + 4 * p.length) ∧
    impl_rexReader_piece.l0v (B (l ++ [41])) false x.f0 x.f1 x.f2 x.f3 x.f4 = some (y.f0, y.f1, y.f2, y.f3, y.f4, B (l' ++ [41]), false) := by
  induction l with
  | nil =>
    intro x n hx
    refine ⟨x, [], ?_, ⟨[], rfl, n, hx, by omega⟩, ?_⟩
    · rw [impl_rexReader_piece.l0v_eq, next_nil, Option.bind_some]
      dsimp only
      rw [if_neg (by decide)]
    · rw [List.nil_append, impl_rexReader_piece.l0v_eq, next_cons, Option.bind_some]
      dsimp only
      rw [if_pos rfl, show impl_repeatOf.f ((41 : UInt8).toNat : Int) = some 0 from rfl, Option.bind_some, if_pos rfl]
  | cons c r ih =>
    intro x n hx
    by_cases hc : impl_repeatOf.f (c.toNat : Int) = some 0
    · refine ⟨x, c :: r, ?_, ⟨[], rfl, n, hx, by omega⟩, ?_⟩
      · rw [impl_rexReader_piece.l0v_eq, next_cons, Option.bind_some]
        dsimp only
        rw [if_pos rfl, hc, Option.bind_some, if_pos rfl]
      · rw [List.cons_append, impl_rexReader_piece.l0v_eq, next_cons, Option.bind_some]
        dsimp only
        rw [if_pos rfl, hc, Option.bind_some, if_pos rfl]
    · obtain ⟨k, hk, hk0⟩ : ∃ k, impl_repeatOf.f (c.toNat : Int) = some k ∧ ¬ k = 0 := by
        unfold impl_repeatOf.f at hc ⊢
        split
        · exact ⟨8, rfl, by decide⟩
        · split
          · exact ⟨9, rfl, by decide⟩
          · split
            · exact ⟨10, rfl, by decide⟩
            · rename_i h1 h2 h3
              rw [if_neg h1, if_neg h2, if_neg h3] at hc
              exact absurd rfl hc
      obtain ⟨y, l', q1, ⟨p, e, n', hn', hle⟩, q2⟩ := ih ⟨k, 0, (⟨#[]⟩ : ByteArray), false, [x]⟩ (n + 4) (fine_node (fun _ => by simp) (by decide) hx)
      refine ⟨y, l', ?_, ⟨c :: p, by rw [e]; rfl, n', hn', by rw [List.length_cons]; omega⟩, ?_⟩
      · rw [impl_rexReader_piece.l0v_eq, next_cons, Option.bind_some]
        dsimp only
        rw [if_pos rfl, hk, Option.bind_some, if_neg hk0, if_pos (one_in c r), Option.bind_some, rest_of, eta_]
        exact q1
      · rw [List.cons_append, impl_rexReader_piece.l0v_eq, next_cons, Option.bind_some]
        dsimp only
        rw [if_pos rfl, hk, Option.bind_some, if_neg hk0, if_pos (one_in c (r ++ [41])), Option.bind_some, rest_of, eta_]
        exact q2
theorem piece_rd (c : UInt8) (l : List UInt8) (ha : Rd (c :: l) 0 (impl_rexReader_atom.fv (B (c :: l)) false) (impl_rexReader_atom.fv (B (c :: (l ++ [41]))) false)) : Rd (c :: l) 0 (impl_rexReader_piece.fv (B (c :: l)) false) (impl_rexReader_piece.fv (B (c :: (l ++ [41]))) false) := by
  rw [impl_rexReader_piece.fv_eq, impl_rexReader_piece.fv_eq]
  obtain ⟨x, l', b, h1, h2⟩ := ha
  rw [show _ = _ from h1, Option.bind_some]
  dsimp only
  cases b with
  | true =>
    rw [impl_rexReader_piece.l0v_eq, next_bad, Option.bind_some]
    exact ⟨x, l', true, rfl, fun h => by cases h⟩
  | false =>
    obtain ⟨⟨p, e, n, hn, hle⟩, h3⟩ := h2 rfl
    obtain ⟨y, l2, q1, ⟨p2, e2, n', hn', hle'⟩, q2⟩ := rep_run l' x n hn
    refine ⟨y, l2, false, q1, fun _ => ⟨⟨p ++ p2, by rw [e, e2, List.append_assoc], n', hn', by rw [List.length_append]; omega⟩, ?_⟩⟩
    rw [show _ = _ from h3, Option.bind_some]
    exact q2
theorem part_end2 (xs : List S26) (n : Nat) (hx : FineL xs n) : ∃ x : S26, (∃ n', FineL [x] n' ∧ n' ≤ n + 4) ∧ ∀ S b, impl_rexReader_part.j1v xs S b = some (x.f0, x.f1, x.f2, x.f3, x.f4, S, b) := by
  by_cases h0 : (xs.length : Int) = 0
  · refine ⟨⟨11, 0, (⟨#[]⟩ : ByteArray), false, []⟩, ⟨4, fine_leaf (by decide) (by decide), by omega⟩, fun S b => ?_⟩
    rw [impl_rexReader_part.j1v_eq, if_pos h0]
  · by_cases h1 : (xs.length : Int) = 1
    · obtain ⟨y, rfl⟩ : ∃ y, xs = [y] := List.length_eq_one_iff.1 (by omega)
      refine ⟨y, ⟨n, hx, by omega⟩, fun S b => ?_⟩
      rw [impl_rexReader_part.j1v_eq, if_neg h0, if_pos h1, if_pos (by omega)]
      rfl
    · refine ⟨⟨6, 0, (⟨#[]⟩ : ByteArray), false, xs⟩, ⟨n + 4, fine_node (fun h => absurd h (by decide)) (by decide) hx, by omega⟩, fun S b => ?_⟩
      rw [impl_rexReader_part.j1v_eq, if_neg h0, if_neg h1]
theorem part_run (k : Nat) (HP : ∀ (c : UInt8) (l : List UInt8), l.length < k → Rd (c :: l) 0 (impl_rexReader_piece.fv (B (c :: l)) false) (impl_rexReader_piece.fv (B (c :: (l ++ [41]))) false)) : ∀ (m : Nat) (l : List UInt8) (xs : List S26) (n : Nat), l.length ≤ m → l.length ≤ k → xs.length + l.length ≤ 500 → FineL xs n →
    Rd l (n + 4) (impl_rexReader_part.l0v xs (B l) false) (impl_rexReader_part.l0v xs (B (l ++ [41])) false) := by
  intro m
  induction m with
  | zero =>
    intro l xs n h1 h2 h3 hx
    obtain rfl : l = [] := List.eq_nil_of_length_eq_zero (by omega)
    obtain ⟨x, ⟨n', hn', hle⟩, e⟩ := part_end2 xs n hx
    refine ⟨x, [], false, ?_, fun _ => ⟨⟨[], rfl, n', hn', by simpa using hle⟩, ?_⟩⟩
    · show impl_rexReader_part.l0v _ _ _ = _
      rw [impl_rexReader_part.l0v_eq, next_nil, Option.bind_some]
      dsimp only
      rw [if_neg (by decide), e]
    · show impl_rexReader_part.l0v _ _ _ = _
      rw [List.nil_append, impl_rexReader_part.l0v_eq, next_cons, Option.bind_some]
      dsimp only
      rw [if_pos rfl, if_neg (by decide), if_pos (by decide), e]
  | succ m ih =>
    intro l xs n h1 h2 h3 hx
    cases l with
    | nil => exact ih [] xs n (by simp) (by simp) h3 hx
    | cons c l =>
      rw [List.length_cons] at h1 h2 h3
      obtain ⟨x, ⟨n', hn', hle⟩, e⟩ := part_end2 xs n hx
      have stop : Rd (c :: l) (n + 4) (impl_rexReader_part.j1v xs (B (c :: l)) false) (impl_rexReader_part.j1v xs (B (c :: (l ++ [41]))) false) := ⟨x, c :: l, false, e _ _, fun _ => ⟨⟨[], rfl, n', hn', by simpa using hle⟩, e _ _⟩⟩
      rw [List.cons_append, impl_rexReader_part.l0v_eq, impl_rexReader_part.l0v_eq, next_cons, next_cons, Option.bind_some, Option.bind_some]
      dsimp only
      rw [if_pos rfl, if_pos rfl]
      by_cases c1 : (c.toNat : Int) = 124
      · rw [if_pos c1, if_pos c1]; exact stop
      rw [if_neg c1, if_neg c1]
      by_cases c2 : (c.toNat : Int) = 41
      · rw [if_pos c2, if_pos c2]; exact stop
      rw [if_neg c2, if_neg c2]
      obtain ⟨y, l', b, g1, g2⟩ := HP c l (by omega)
      rw [show _ = _ from g1, Option.bind_some]
      dsimp only
      rw [if_pos (by omega)]
      cases b with
      | true =>
        rw [impl_rexReader_part.l0v_eq, next_bad, Option.bind_some]
        dsimp only
        rw [if_neg (by decide)]
        obtain ⟨z, _, hz⟩ := part_end (xs ++ [(⟨y.f0, y.f1, y.f2, y.f3, y.f4⟩ : S26)])
        exact ⟨z, l', true, hz.2 _ _, fun h => by cases h⟩
      | false =>
        obtain ⟨⟨p, e3, n2, hn2, hle2⟩, g3⟩ := g2 rfl
        rw [show _ = _ from g3, Option.bind_some]
        dsimp only
        rw [if_pos (by omega), eta_]
        have hpl : 1 ≤ p.length := by
          rcases p with _ | ⟨d, p⟩
          · cases hn2 with
            | cons => simp only [List.length_nil] at hle2; omega
          · simp
        have hlen := congrArg List.length e3
        rw [List.length_cons, List.length_append] at hlen
        obtain ⟨z, l2, b2, q1, q2⟩ := ih l' (xs ++ [y]) (n + n2) (by omega) (by omega) (by simp; omega) (fine_app hx hn2)
        refine ⟨z, l2, b2, q1, fun hb => ?_⟩
        obtain ⟨⟨p2, e4, n3, hn3, hle3⟩, q3⟩ := q2 hb
        exact ⟨⟨p ++ p2, by rw [e3, e4, List.append_assoc], n3, hn3, by rw [List.length_append]; omega⟩, q3⟩
theorem part_rd (k : Nat) (HP : ∀ (c : UInt8) (l : List UInt8), l.length < k → Rd (c :: l) 0 (impl_rexReader_piece.fv (B (c :: l)) false) (impl_rexReader_piece.fv (B (c :: (l ++ [41]))) false)) (l : List UInt8) (hl : l.length ≤ k) (h : l.length ≤ 400) : Rd l 4 (impl_rexReader_part.fv (B l) false) (impl_rexReader_part.fv (B (l ++ [41])) false) := by
  rw [impl_rexReader_part.fv_eq, impl_rexReader_part.fv_eq]
  exact part_run k HP _ l [] 0 (Nat.le_refl _) hl (by simp; omega) .nil
theorem pat_end2 (xs : List S26) (n : Nat) (hx : FineL xs n) (h0 : xs ≠ []) : ∃ x : S26, (∃ n', FineL [x] n' ∧ n' ≤ n + 4) ∧
    ∀ (S : ByteArray) (b : Bool), (if (xs.length : Int) = 1 then (if 0 < (xs.length : Int) then (some ((rd_T26 xs 0).f0, (rd_T26 xs 0).f1, (rd_T26 xs 0).f2, (rd_T26 xs 0).f3, (rd_T26 xs 0).f4, S, b)) else (none)) else (some (7, 0, (⟨#[]⟩ : ByteArray), false, xs, S, b))) = some (x.f0, x.f1, x.f2, x.f3, x.f4, S, b) := by
  by_cases h1 : (xs.length : Int) = 1
  · obtain ⟨y, rfl⟩ : ∃ y, xs = [y] := List.length_eq_one_iff.1 (by omega)
    refine ⟨y, ⟨n, hx, by omega⟩, fun S b => ?_⟩
    rw [if_pos h1, if_pos (by omega)]
    rfl
  · refine ⟨⟨7, 0, (⟨#[]⟩ : ByteArray), false, xs⟩, ⟨n + 4, fine_node (fun _ => h0) (by decide) hx, by omega⟩, fun S b => ?_⟩
    rw [if_neg h1]
theorem pat_run (k : Nat) (HP : ∀ (l : List UInt8), l.length ≤ k → Rd l 4 (impl_rexReader_part.fv (B l) false) (impl_rexReader_part.fv (B (l ++ [41])) false)) : ∀ (m : Nat) (l : List UInt8) (xs : List S26) (n : Nat), l.length ≤ m → l.length ≤ k → xs.length + l.length ≤ 500 → FineL xs n → xs ≠ [] →
    Rd l (n + 4) (impl_rexReader_pattern.l0v xs (B l) false) (impl_rexReader_pattern.l0v xs (B (l ++ [41])) false) := by
  intro m
  induction m with
  | zero =>
    intro l xs n h1 h2 h3 hx h0
    obtain rfl : l = [] := List.eq_nil_of_length_eq_zero (by omega)
    obtain ⟨x, ⟨n', hn', hle⟩, e⟩ := pat_end2 xs n hx h0
    refine ⟨x, [], false, ?_, fun _ => ⟨⟨[], rfl, n', hn', by simpa using hle⟩, ?_⟩⟩
    · show impl_rexReader_pattern.l0v _ _ _ = _
      rw [impl_rexReader_pattern.l0v_eq, take_nil, Option.bind_some]
      dsimp only
      rw [if_neg (by decide), e]
    · show impl_rexReader_pattern.l0v _ _ _ = _
      rw [List.nil_append, impl_rexReader_pattern.l0v_eq, take_miss 41 [] 124 (by decide), Option.bind_some]
      dsimp only
      rw [if_neg (by decide), e]
  | succ m ih =>
    intro l xs n h1 h2 h3 hx h0
    cases l with
    | nil => exact ih [] xs n (by simp) (by simp) h3 hx h0
    | cons c l =>
      rw [List.length_cons] at h1 h2 h3
      obtain ⟨x, ⟨n', hn', hle⟩, e⟩ := pat_end2 xs n hx h0
      rw [List.cons_append, impl_rexReader_pattern.l0v_eq, impl_rexReader_pattern.l0v_eq]
      by_cases c1 : (c.toNat : Int) = 124
      · rw [take_hit c l 124 c1, take_hit c (l ++ [41]) 124 c1, Option.bind_some, Option.bind_some]
        dsimp only
        rw [if_pos rfl, if_pos rfl]
        obtain ⟨y, l', b, g1, g2⟩ := HP l (by omega)
        rw [show _ = _ from g1, Option.bind_some]
        dsimp only
        rw [if_pos (by omega)]
        cases b with
        | true =>
          obtain ⟨z, _, _, hz⟩ := pat_end (xs ++ [(⟨y.f0, y.f1, y.f2, y.f3, y.f4⟩ : S26)])
          rw [impl_rexReader_pattern.l0v_eq, take_bad, Option.bind_some]
          dsimp only
          rw [if_neg (by decide)]
          exact ⟨z, l', true, hz _ _, fun h => by cases h⟩
        | false =>
          obtain ⟨⟨p, e3, n2, hn2, hle2⟩, g3⟩ := g2 rfl
          rw [show _ = _ from g3, Option.bind_some]
          dsimp only
          rw [if_pos (by omega), eta_]
          have hlen := congrArg List.length e3
          rw [List.length_append] at hlen
          obtain ⟨z, l2, b2, q1, q2⟩ := ih l' (xs ++ [y]) (n + n2) (by omega) (by omega) (by simp; omega) (fine_app hx hn2) (by simp)
          refine ⟨z, l2, b2, q1, fun hb => ?_⟩
          obtain ⟨⟨p2, e4, n3, hn3, hle3⟩, q3⟩ := q2 hb
          exact ⟨⟨c :: (p ++ p2), by rw [e3, e4]; simp, n3, hn3, by rw [List.length_cons, List.length_append]; omega⟩, q3⟩
      · rw [take_miss c l 124 c1, take_miss c (l ++ [41]) 124 c1, Option.bind_some, Option.bind_some]
        simp only [Bool.false_eq_true, if_false]
        rw [e, e]
        exact ⟨x, c :: l, false, rfl, fun _ => ⟨⟨[], rfl, n', hn', by simpa using hle⟩, rfl⟩⟩
theorem pat_rd (k : Nat) (HP : ∀ (l : List UInt8), l.length ≤ k → Rd l 4 (impl_rexReader_part.fv (B l) false) (impl_rexReader_part.fv (B (l ++ [41])) false)) (l : List UInt8) (hl : l.length ≤ k) (h : l.length ≤ 400) : Rd l 8 (impl_rexReader_pattern.fv (B l) false) (impl_rexReader_pattern.fv (B (l ++ [41])) false) := by
  rw [impl_rexReader_pattern.fv_eq, impl_rexReader_pattern.fv_eq]
  obtain ⟨y, l', b, g1, g2⟩ := HP l hl
  rw [show _ = _ from g1, Option.bind_some]
  dsimp only
  cases b with
  | true =>
    obtain ⟨z, _, _, hz⟩ := pat_end [(⟨y.f0, y.f1, y.f2, y.f3, y.f4⟩ : S26)]
    rw [impl_rexReader_pattern.l0v_eq, take_bad, Option.bind_some]
    dsimp only
    rw [if_neg (by decide)]
    exact ⟨z, l', true, hz _ _, fun h => by cases h⟩
  | false =>
    obtain ⟨⟨p, e3, n2, hn2, hle2⟩, g3⟩ := g2 rfl
    rw [show _ = _ from g3, Option.bind_some]
    dsimp only
    rw [eta_]
    have hlen := congrArg List.length e3
    rw [List.length_append] at hlen
    obtain ⟨z, l2, b2, q1, q2⟩ := pat_run k HP _ l' [y] n2 (Nat.le_refl _) (by omega) (by simp; omega) hn2 (by simp)
    refine ⟨z, l2, b2, q1, fun hb => ?_⟩
    obtain ⟨⟨p2, e4, n3, hn3, hle3⟩, q3⟩ := q2 hb
    exact ⟨⟨p ++ p2, by rw [e3, e4, List.append_assoc], n3, hn3, by rw [List.length_append]; omega⟩, q3⟩
theorem all_rd (k : Nat) (hk : k ≤ 60) : ∀ l : List UInt8, l.length ≤ k → Rd l 8 (impl_rexReader_pattern.fv (B l) false) (impl_rexReader_pattern.fv (B (l ++ [41])) false) := by
  induction k with
  | zero =>
    intro l hl
    exact pat_rd 0 (fun l hl => part_rd 0 (fun c l h => absurd h (Nat.not_lt_zero _)) l hl (by omega)) l hl (by omega)
  | succ k ih =>
    intro l hl
    have ih := ih (by omega)
    exact pat_rd (k + 1) (fun l hl => part_rd (k + 1) (fun c l h => piece_rd c l (atom_rd c l (by omega) (ih l (by omega)))) l hl (by omega)) l hl (by omega)

/-! ### what is fine has places -/
theorem rdinR (xs : List S26) (i : Nat) (h : i < xs.length) : rd_T26 xs (i : Int) = xs[i] := by
  unfold rd_T26
  simp [List.getD_eq_getElem?_getD, h]
theorem rd_drop {L : List S26} {i : Nat} {x : S26} {l : List S26} (h : L.drop i = x :: l) : rd_T26 L (i : Int) = x ∧ i < L.length ∧ L.drop (i + 1) = l := by
  have hi : i < L.length := by
    rcases Nat.lt_or_ge i L.length with h' | h'
    · exact h'
    · rw [List.drop_of_length_le h'] at h; cases h
  rw [List.drop_eq_getElem_cons hi] at h
  injection h with h1 h2
  refine ⟨?_, hi, h2⟩
  unfold rd_T26
  simp [List.getD, hi, h1]
theorem fine_len {l : List S26} {n : Nat} (h : FineL l n) : 4 * l.length ≤ n := by
  induction h with
  | nil => simp
  | cons _ _ _ _ _ ih => rw [List.length_cons]; omega
theorem setR_run (s : ByteArray) (hs : s.size ≤ 1000) (a b : Int) (e : Bool) (xs : List S26) : ∀ (d i : Nat), s.size - i = d → i ≤ s.size → ∃ v, impl_setRight.l0v (s.size : Int) (i : Int) a b s e xs = some v := by
  intro d
  induction d with
  | zero =>
    intro i h1 h2
    rw [impl_setRight.l0v_eq, if_neg (by omega)]
    unfold strings_Contains.f
    rw [if_pos (by omega), if_pos (by omega), Option.bind_some, Option.bind_some]
    simp only [impl_setRight.j1v_eq, impl_setRight.j0v_eq]
    (repeat' split) <;> exact ⟨_, rfl⟩
  | succ d ih =>
    intro i h1 h2
    obtain ⟨v, hv⟩ := ih (i + 1) (by omega) (by omega)
    have hw : wrap64 ((i : Int) + 1) = ((i + 1 : Nat) : Int) := by rw [wrap_in (by omega) (by omega)]; omega
    rw [impl_setRight.l0v_eq, if_pos (by omega), hw, hv]
    by_cases h0 : (i : Int) > 0
    · rw [if_pos h0, wrap_in (n := (i : Int) - 1) (by omega) (by omega), if_pos (by omega), if_pos (by omega), if_pos (by omega), if_pos (by omega)]
      split <;> exact ⟨_, rfl⟩
    · rw [if_neg h0]; exact ⟨v, rfl⟩
theorem setR_tot (s : ByteArray) (hs : s.size ≤ 1000) (a b : Int) (e : Bool) (xs : List S26) : ∃ v, impl_setRight.fv a b s e xs = some v := by
  rw [impl_setRight.fv_eq]
  exact setR_run s hs a b e xs _ 0 rfl (by omega)
theorem kids_tot (L : List S26) (hL : L.length ≤ 300000) (a : Int) (h : ∀ y ∈ L, ∃ v, impl_rexRight.fv y.f0 y.f1 y.f2 y.f3 y.f4 (wrap64 (a - 1)) = some v) : ∀ (d i : Nat), L.length - i = d → i ≤ L.length → ∃ v, slices_IndexFunc_impl_Rex_impl_Rex__impl_rexRight_1.l0v L (L.length : Int) (i : Int) a = some v := by
  intro d
  induction d with
  | zero =>
    intro i h1 h2
    rw [slices_IndexFunc_impl_Rex_impl_Rex__impl_rexRight_1.l0v_eq, if_neg (by omega)]
    exact ⟨_, rfl⟩
  | succ d ih =>
    intro i h1 h2
    obtain ⟨v, hv⟩ := ih (i + 1) (by omega) (by omega)
    have hi : i < L.length := by omega
    obtain ⟨w, hw⟩ := h _ (List.getElem_mem hi)
    have hw2 : wrap64 ((i : Int) + 1) = ((i + 1 : Nat) : Int) := by rw [wrap_in (by omega) (by omega)]; omega
    rw [slices_IndexFunc_impl_Rex_impl_Rex__impl_rexRight_1.l0v_eq, if_pos (by omega), if_pos (by omega), if_pos (by omega), rdinR L i hi, impl_rexRight_1.fv_eq, hw, Option.bind_some, Option.bind_some, hw2, hv]
    split <;> exact ⟨_, rfl⟩
theorem right_tot {l : List S26} {n : Nat} (h : FineL l n) : n ≤ 1000 → ∀ x ∈ l, ∀ a : Int, (n : Int) - 2000000 ≤ a → a ≤ 1000 → ∃ v, impl_rexRight.fv x.f0 x.f1 x.f2 x.f3 x.f4 a = some v := by
  induction h with
  | nil => intro _ x hx; simp at hx
  | @cons x l p q h1 hs hk ht ihk iht =>
    intro hn y hy a ha0 ha1
    rcases List.mem_cons.1 hy with rfl | hy
    · have hlen := fine_len hk
      have t2 : ∀ b, ∃ v, impl_rexRight.j2v b y.f0 y.f1 y.f2 y.f3 y.f4 a = some v := fun b => by
        rw [impl_rexRight.j2v_eq, slices_ContainsFunc_impl_Rex_impl_Rex__impl_rexRight_1.fv_eq, slices_IndexFunc_impl_Rex_impl_Rex__impl_rexRight_1.fv_eq]
        obtain ⟨v, hv⟩ := kids_tot y.f4 (by omega) a (fun z hz => by
          rw [wrap_in (by omega) (by omega)]
          exact ihk (by omega) z hz (a - 1) (by omega) (by omega)) _ 0 rfl (by omega)
        rw [show ((0 : Nat) : Int) = 0 from rfl] at hv
        rw [hv, Option.bind_some, Option.bind_some]
        split <;> exact ⟨_, rfl⟩
      have t5 : ∀ b c, ∃ v, impl_rexRight.j5v b c y.f0 y.f1 y.f2 y.f3 y.f4 a = some v := fun b c => by
        rw [impl_rexRight.j5v_eq]; split <;> exact t2 _
      have t4 : ∀ b c e, ∃ v, impl_rexRight.j4v b c e y.f0 y.f1 y.f2 y.f3 y.f4 a = some v := fun b c e => by
        rw [impl_rexRight.j4v_eq]; (repeat' split) <;> first | exact t2 _ | exact t5 _ _
      obtain ⟨sv, hsv⟩ := setR_tot y.f2 hs y.f0 y.f1 y.f3 y.f4
      have t3 : ∀ b c e, ∃ v, impl_rexRight.j3v b c e y.f0 y.f1 y.f2 y.f3 y.f4 a = some v := fun b c e => by
        rw [impl_rexRight.j3v_eq, hsv, Option.bind_some]; (repeat' split) <;> first | exact t2 _ | exact t4 _ _ _
      have t0 : ∃ v, impl_rexRight.j0v y.f0 y.f1 y.f2 y.f3 y.f4 a = some v := by
        rw [impl_rexRight.j0v_eq]
        unfold impl_in.f
        split
        · split <;> (rw [Option.bind_some]; split <;> exact t2 _)
        · (repeat' split) <;> exact t3 _ _ _
      have t1 : ∀ b, ∃ v, impl_rexRight.j1v b y.f0 y.f1 y.f2 y.f3 y.f4 a = some v := fun b => by
        rw [impl_rexRight.j1v_eq]; split
        · exact ⟨_, rfl⟩
        · exact t0
      rw [impl_rexRight.fv_eq]
      (repeat' split) <;> exact t1 _
    · exact iht (by omega) y hy a (by omega) ha1
theorem ok_tot {x : S26} {n : Nat} (h : FineL [x] n) (hn : n ≤ 1000) : ∃ v, impl_RexOk.fv x.f0 x.f1 x.f2 x.f3 x.f4 = some v := by
  obtain ⟨v, hv⟩ := right_tot h hn x (by simp) 12 (by omega) (by omega)
  rw [impl_RexOk.fv_eq, hv]
  exact ⟨v, rfl⟩
theorem jumps_run (js : List Int) (hj : js.length ≤ 300000) : ∀ (d i : Nat) (out : List S82), js.length - i = d → i ≤ js.length → (∀ j ∈ js, 0 ≤ j ∧ j < (out.length : Int)) → ∃ out', impl_orPlaces.l1v out js (js.length : Int) (i : Int) = some out' ∧ out'.length = out.length := by
  intro d
  induction d with
  | zero =>
    intro i out h1 h2 h3
    rw [impl_orPlaces.l1v_eq, if_neg (by omega)]
    exact ⟨_, rfl, rfl⟩
  | succ d ih =>
    intro i out h1 h2 h3
    have hm := h3 (rdOf (0 : Int) js (i : Int)) (by
      have hi : i < js.length := by omega
      have : rdOf (0 : Int) js (i : Int) = js[i] := by unfold rdOf; simp [List.getD, hi]
      rw [this]; exact List.getElem_mem hi)
    have hw2 : wrap64 ((i : Int) + 1) = ((i + 1 : Nat) : Int) := by rw [wrap_in (by omega) (by omega)]; omega
    rw [impl_orPlaces.l1v_eq, if_pos (by omega), if_pos (by omega), if_pos (by omega), if_pos hm.1, if_pos hm.2, Option.bind_some, hw2]
    have key : ∀ v, ∃ out', impl_orPlaces.l1v (out.set (rdOf (0 : Int) js (i : Int)).toNat v) js (js.length : Int) ((i + 1 : Nat) : Int) = some out' ∧ out'.length = out.length := fun v => by
      obtain ⟨o, q1, q2⟩ := ih (i + 1) (out.set (rdOf (0 : Int) js (i : Int)).toNat v) (by omega) (by omega) (by rw [List.length_set]; exact h3)
      exact ⟨o, q1, by rw [q2, List.length_set]⟩
    exact key _
structure PTot (l : List S26) (n : Nat) : Prop where
  head : ∀ x l', l = x :: l' → ∀ out : List S82, out.length + n ≤ 1000000 → ∃ out', impl_placesOf.fv out x.f0 x.f1 x.f2 x.f3 x.f4 = some out' ∧ out.length ≤ out'.length ∧ out'.length + 2 ≤ out.length + n
  cat : ∀ (L : List S26) (i : Nat) (out : List S82), L.drop i = l → L.length ≤ 300000 → out.length + n ≤ 1000000 → ∃ out', impl_placesOf.l0v out L (L.length : Int) (i : Int) = some out' ∧ out.length ≤ out'.length ∧ out'.length ≤ out.length + n
  or : ∀ (L : List S26) (i : Nat) (js : List Int) (out : List S82), L.drop i = l → l ≠ [] → L.length ≤ 300000 → out.length + n ≤ 1000000 → js.length ≤ i → (∀ j ∈ js, 0 ≤ j ∧ j < (out.length : Int)) →
    ∃ out', impl_orPlaces.l0v out L js (L.take (L.length - 1)) ((L.length - 1 : Nat) : Int) (i : Int) = some out' ∧ out.length ≤ out'.length ∧ out'.length ≤ out.length + n
theorem places_tot {l : List S26} {n : Nat} (h : FineL l n) : PTot l n := by
  induction h with
  | nil =>
    refine ⟨fun x l' h => (by cases h), fun L i out h hL ho => ?_, fun L i js out h h0 => absurd rfl h0⟩
    have : L.length ≤ i := List.drop_eq_nil_iff.1 h
    rw [impl_placesOf.l0v_eq, if_neg (by omega)]
    exact ⟨_, rfl, by omega, by omega⟩
  | @cons x l a b h1 hs hk ht ihk iht =>
    have hlen := fine_len hk
    have hd : ∀ out : List S82, out.length + (a + 2) ≤ 1000000 → ∃ out', impl_placesOf.fv out x.f0 x.f1 x.f2 x.f3 x.f4 = some out' ∧ out.length ≤ out'.length ∧ out'.length ≤ out.length + (a + 2) := fun out ho => by
      have one : ∀ p : S82, ∃ out', (some (out ++ [p]) : Option (List S82)) = some out' ∧ out.length ≤ out'.length ∧ out'.length ≤ out.length + (a + 2) := fun p => ⟨_, rfl, by simp, by simp⟩
      rw [impl_placesOf.fv_eq]
      by_cases c1 : x.f0 = 1
      · rw [if_pos c1, if_pos (by omega)]; exact one _
      rw [if_neg c1]
      by_cases c2 : x.f0 = 2
      · rw [if_pos c2, if_pos (by omega)]; exact one _
      rw [if_neg c2]
      by_cases c3 : x.f0 = 3
      · rw [if_pos c3, if_pos (by omega)]; exact one _
      rw [if_neg c3]
      by_cases c4 : x.f0 = 4
      · rw [if_pos c4, if_pos (by omega)]; exact one _
      rw [if_neg c4]
      by_cases c5 : x.f0 = 5
      · rw [if_pos c5, if_pos (by omega)]; exact one _
      rw [if_neg c5]
      by_cases c6 : x.f0 = 6
      · rw [if_pos c6]
        obtain ⟨o, q1, q2, q3⟩ := ihk.cat x.f4 0 out (by simp) (by omega) (by omega)
        exact ⟨o, q1, q2, by omega⟩
      rw [if_neg c6]
      by_cases c7 : x.f0 = 7
      · have hne := h1 (.inl c7)
        have hp := List.length_pos_iff.2 hne
        rw [if_pos c7, impl_orPlaces.fv_eq, wrap_in (n := (x.f4.length : Int) - 1) (by omega) (by omega), if_pos (by omega), if_pos (by omega), show ((x.f4.length : Int) - 1).toNat = x.f4.length - 1 by omega, show ((x.f4.take (x.f4.length - 1)).length : Int) = ((x.f4.length - 1 : Nat) : Int) by rw [List.length_take]; omega]
        obtain ⟨o, q1, q2, q3⟩ := ihk.or x.f4 0 [] out (by simp) hne (by omega) (by omega) (by simp) (by simp)
        rw [show ((0 : Nat) : Int) = 0 from rfl] at q1
        rw [q1, Option.bind_some]
        exact ⟨o, rfl, q2, by omega⟩
      rw [if_neg c7]
      have kid : ∀ (hne : x.f4 ≠ []) (out2 : List S82), out2.length + a ≤ 1000000 → 0 < x.f4.length ∧ ∃ out', impl_placesOf.fv out2 (rd_T26 x.f4 0).f0 (rd_T26 x.f4 0).f1 (rd_T26 x.f4 0).f2 (rd_T26 x.f4 0).f3 (rd_T26 x.f4 0).f4 = some out' ∧ out2.length ≤ out'.length ∧ out'.length + 2 ≤ out2.length + a := fun hne out2 ho2 => by
        obtain ⟨y, ys, e⟩ := List.exists_cons_of_ne_nil hne
        refine ⟨List.length_pos_iff.2 hne, ?_⟩
        have hr : rd_T26 x.f4 0 = y := by rw [e]; rfl
        rw [hr]
        exact ihk.head y ys e out2 ho2
      by_cases c8 : x.f0 = 8
      · obtain ⟨k0, o, q1, q2, q3⟩ := kid (h1 (.inr (.inl c8))) (out ++ [(⟨7, 0, (⟨#[]⟩ : ByteArray), false, (wrap64 ((out.length : Int) + 1)), 0⟩ : S82)]) (by simp; omega)
        rw [List.length_append, List.length_singleton] at q2 q3
        rw [if_pos c8, if_pos (by omega), if_pos (by omega), q1, Option.bind_some, if_pos (by omega), if_pos (by rw [List.length_append]; omega), Option.bind_some]
        exact ⟨_, rfl, by rw [List.length_set, List.length_append]; omega, by rw [List.length_set, List.length_append, List.length_singleton]; omega⟩
      rw [if_neg c8]
      by_cases c9 : x.f0 = 9
      · obtain ⟨k0, o, q1, q2, q3⟩ := kid (h1 (.inr (.inr (.inl c9)))) out (by omega)
        rw [if_pos c9, if_pos (by omega), q1, Option.bind_some, if_pos (by omega)]
        exact ⟨_, rfl, by rw [List.length_append]; omega, by rw [List.length_append, List.length_singleton]; omega⟩
      rw [if_neg c9]
      by_cases c10 : x.f0 = 10
      · obtain ⟨k0, o, q1, q2, q3⟩ := kid (h1 (.inr (.inr (.inr c10)))) (out ++ [(⟨7, 0, (⟨#[]⟩ : ByteArray), false, (wrap64 ((out.length : Int) + 1)), 0⟩ : S82)]) (by simp; omega)
        rw [List.length_append, List.length_singleton] at q2 q3
        rw [if_pos c10, if_pos (by omega), if_pos (by omega), q1, Option.bind_some, if_pos (by omega), Option.bind_some]
        exact ⟨_, rfl, by rw [List.length_set]; omega, by rw [List.length_set]; omega⟩
      rw [if_neg c10]
      exact ⟨_, rfl, by omega, by omega⟩
    refine ⟨fun y l' e out ho => ?_, fun L i out h hL ho => ?_, fun L i js out h h0 hL ho hj hjs => ?_⟩
    · injection e with e1 e2
      subst e1
      obtain ⟨o, q1, q2, q3⟩ := hd out (by omega)
      exact ⟨o, q1, q2, by omega⟩
    · obtain ⟨hr, hi, hdr⟩ := rd_drop h
      obtain ⟨o, q1, q2, q3⟩ := hd out (by omega)
      obtain ⟨o2, r1, r2, r3⟩ := iht.cat L (i + 1) o hdr hL (by omega)
      have hw2 : wrap64 ((i : Int) + 1) = ((i + 1 : Nat) : Int) := by rw [wrap_in (by omega) (by omega)]; omega
      rw [impl_placesOf.l0v_eq, if_pos (by omega), if_pos (by omega), if_pos (by omega), hr, q1, Option.bind_some, hw2]
      exact ⟨o2, r1, by omega, by omega⟩
    · obtain ⟨hr, hi, hdr⟩ := rd_drop h
      have hw2 : wrap64 ((i : Int) + 1) = ((i + 1 : Nat) : Int) := by rw [wrap_in (by omega) (by omega)]; omega
      have htl : (L.take (L.length - 1)).length = L.length - 1 := by rw [List.length_take]; omega
      rw [impl_orPlaces.l0v_eq]
      by_cases hlast : i < L.length - 1
      · have hrt : rd_T26 (L.take (L.length - 1)) (i : Int) = x := by
          rw [← hr]
          unfold rd_T26
          simp only [Int.toNat_natCast, List.getD_eq_getElem?_getD, List.getElem?_take]
          rw [if_pos hlast]
        have hl : l ≠ [] := fun e => by
          rw [e] at hdr
          have := List.drop_eq_nil_iff.1 hdr
          omega
        obtain ⟨o, q1, q2, q3⟩ := hd (out ++ [(⟨7, 0, (⟨#[]⟩ : ByteArray), false, (wrap64 ((out.length : Int) + 1)), 0⟩ : S82)]) (by simp; omega)
        rw [List.length_append, List.length_singleton] at q2 q3
        rw [if_pos (by omega), if_pos (by omega), if_pos (by rw [htl]; omega), if_pos (by omega), hrt, q1, Option.bind_some, if_pos (by omega), if_pos (by omega), if_pos (by rw [List.length_append]; omega), Option.bind_some, hw2]
        have key : ∀ v, ∃ out', impl_orPlaces.l0v ((o ++ [(⟨6, 0, (⟨#[]⟩ : ByteArray), false, 0, 0⟩ : S82)]).set (out.length : Int).toNat v) L (js ++ [(o.length : Int)]) (L.take (L.length - 1)) ((L.length - 1 : Nat) : Int) ((i + 1 : Nat) : Int) = some out' ∧ out.length ≤ out'.length ∧ out'.length ≤ out.length + (a + b + 4) := fun v => by
          obtain ⟨o2, r1, r2, r3⟩ := iht.or L (i + 1) (js ++ [(o.length : Int)]) ((o ++ [(⟨6, 0, (⟨#[]⟩ : ByteArray), false, 0, 0⟩ : S82)]).set (out.length : Int).toNat v) hdr hl hL (by rw [List.length_set, List.length_append, List.length_singleton]; omega) (by simp; omega) (fun j hj' => by
            rw [List.length_set, List.length_append, List.length_singleton]
            rcases List.mem_append.1 hj' with hj' | hj'
            · have := hjs j hj'; omega
            · rw [List.mem_singleton.1 hj']; omega)
          rw [List.length_set, List.length_append, List.length_singleton] at r2 r3
          exact ⟨o2, r1, by omega, by omega⟩
        exact key _
      · have hie : i = L.length - 1 := by omega
        have hw : wrap64 ((L.length : Int) - 1) = (i : Int) := by rw [wrap_in (by omega) (by omega)]; omega
        obtain ⟨o, q1, q2, q3⟩ := hd out (by omega)
        rw [if_neg (by omega), hw, if_pos (by omega), if_pos (by omega), hr, q1, Option.bind_some]
        obtain ⟨o2, r1, r2⟩ := jumps_run js (by omega) _ 0 o rfl (by omega) (fun j hj' => by have := hjs j hj'; omega)
        exact ⟨o2, r1, by omega, by omega⟩
theorem nfa_tot {x : S26} {n : Nat} (h : FineL [x] n) (hn : n ≤ 1000) : ∃ v, impl_NfaOf.fv x.f0 x.f1 x.f2 x.f3 x.f4 = some v := by
  obtain ⟨b, hb⟩ := ok_tot h hn
  rw [impl_NfaOf.fv_eq, hb, Option.bind_some]
  obtain ⟨o, q1, q2, q3⟩ := (places_tot h).head x [] rfl [] (by simp; omega)
  rw [List.length_nil] at q3
  cases b with
  | true => rw [if_pos rfl, q1, Option.bind_some, if_pos (by omega)]; exact ⟨_, rfl⟩
  | false => rw [if_neg (by decide)]; exact ⟨_, rfl⟩

/-! ### draws: each says something, and keeps its place (the row comes along) -/
theorem and255 (x : Int) : 0 ≤ Go.bits .and .i64 x 255 ∧ Go.bits .and .i64 x 255 ≤ 255 := by
  have e : Go.bits .and .i64 x 255 = IntKind.i64.wrap ((BitVec.ofInt 64 x &&& BitVec.ofInt 64 255).toNat : Nat) := rfl
  have h : (BitVec.ofInt 64 x &&& BitVec.ofInt 64 255).toNat ≤ 255 := by
    rw [BitVec.toNat_and]
    exact Nat.and_le_right
  rw [e, IntKind.wrap_i64]
  omega
theorem new_run (l : List Int) (_hl : l.length ≤ 9223372036854775806) (d : Nat) : ∀ (i : Nat) (s : Int), l.length - i = d → i ≤ l.length → ∃ t, spec_l1New.l0v l s (i : Int) = some (l, 0, t) := by
  induction d with
  | zero =>
    intro i s h1 h2
    rw [spec_l1New.l0v_eq, if_neg (by omega), spec_l1New.j1v_eq, if_neg (by decide)]
    exact ⟨_, rfl⟩
  | succ d ih =>
    intro i s h1 h2
    rw [spec_l1New.l0v_eq, if_pos (by omega)]
    simp only [spec_l1New.j1v_eq]
    by_cases h : (i : Int) < 4000
    · rw [if_pos (by simpa using h)]
      simp only [spec_l1New.j0v_eq]
      rw [if_pos (by omega), if_pos (by omega), wrap_in (n := (i : Int) + 1) (by omega) (by omega), show (i : Int) + 1 = ((i + 1 : Nat) : Int) by omega]
      exact ih (i + 1) _ (by omega) (by omega)
    · rw [if_neg (by simpa using h)]
      exact ⟨_, rfl⟩
theorem draw_new (l : List Int) (hl : l.length ≤ 1048576) : ∃ t, spec_l1New.fv l = some (l, 0, t) := by
  rw [spec_l1New.fv_eq]
  exact new_run l (by omega) l.length 0 _ (by omega) (by omega)
/-- A draw's word: what it says has p, and its place stands in the row still. -/
def Draws {α : Type} (l : List Int) (o : Option (α × List Int × Int × Int)) (p : α → Prop) : Prop := ∃ r a s, o = some (r, l, a, s) ∧ p r ∧ 0 ≤ a ∧ a ≤ l.length
theorem draw_byte (l : List Int) (hl : l.length ≤ 1048576) (a s : Int) (h0 : 0 ≤ a) (h1 : a ≤ l.length) : Draws l (spec_l1Byte.f l a s) (fun r => 0 ≤ r ∧ r ≤ 255) := by
  unfold spec_l1Byte.f
  by_cases h : a < (l.length : Int)
  · rw [if_pos h, if_pos h0, wrap_in (n := a + 1) (by omega) (by omega)]
    exact ⟨_, _, _, rfl, and255 _, by omega, by omega⟩
  · rw [if_neg h]
    exact ⟨_, _, _, rfl, and255 _, h0, h1⟩
theorem draw_below (l : List Int) (hl : l.length ≤ 1048576) (a s n : Int) (h0 : 0 ≤ a) (h1 : a ≤ l.length) (hn : 0 < n) : Draws l (spec_l1Below.f l a s n) (fun r => 0 ≤ r ∧ r < n) := by
  unfold spec_l1Below.f
  rw [if_neg (by omega)]
  by_cases h : n ≤ 256
  · rw [if_pos h]
    obtain ⟨r, b, t, e, hr, hb0, hb1⟩ := draw_byte l hl a s h0 h1
    rw [e, Option.bind_some, if_pos (by omega)]
    refine ⟨_, _, _, rfl, ?_, hb0, hb1⟩
    simp only []
    rw [Int.tmod_eq_emod_of_nonneg hr.1]
    exact ⟨Int.emod_nonneg _ (by omega), Int.emod_lt_of_pos _ hn⟩
  · rw [if_neg h]
    obtain ⟨r1, b1, t1, e1, hr1, hb1, hb1'⟩ := draw_byte l hl a s h0 h1
    rw [e1, Option.bind_some]
    obtain ⟨r2, b2, t2, e2, hr2, hb2, hb2'⟩ := draw_byte l hl b1 t1 hb1 hb1'
    simp only []
    rw [e2, Option.bind_some]
    obtain ⟨r3, b3, t3, e3, hr3, hb3, hb3'⟩ := draw_byte l hl b2 t2 hb2 hb2'
    simp only []
    rw [e3, Option.bind_some]
    obtain ⟨r4, b4, t4, e4, hr4, hb4, hb4'⟩ := draw_byte l hl b3 t3 hb3 hb3'
    simp only []
    rw [e4, Option.bind_some, if_pos (by omega)]
    refine ⟨_, _, _, rfl, ?_, hb4, hb4'⟩
    simp only []
    rw [wrap_in (n := r1 * 16777216) (by omega) (by omega), wrap_in (n := r2 * 65536) (by omega) (by omega), wrap_in (n := r3 * 256) (by omega) (by omega), wrap_in (n := r1 * 16777216 + r2 * 65536) (by omega) (by omega), wrap_in (n := r1 * 16777216 + r2 * 65536 + r3 * 256) (by omega) (by omega), wrap_in (n := r1 * 16777216 + r2 * 65536 + r3 * 256 + r4) (by omega) (by omega), Int.tmod_eq_emod_of_nonneg (by omega)]
    exact ⟨Int.emod_nonneg _ (by omega), Int.emod_lt_of_pos _ hn⟩
theorem draw_once (l : List Int) (hl : l.length ≤ 1048576) (a s n : Int) (h0 : 0 ≤ a) (h1 : a ≤ l.length) (hn : 0 < n) : Draws l (spec_l1Once.f l a s n) (fun _ => True) := by
  unfold spec_l1Once.f
  obtain ⟨r, b, t, e, hr, hb0, hb1⟩ := draw_below l hl a s n h0 h1 hn
  rw [e, Option.bind_some]
  exact ⟨_, _, _, rfl, trivial, hb0, hb1⟩
theorem draw_pick (l : List Int) (hl : l.length ≤ 1048576) (a s : Int) (h0 : 0 ≤ a) (h1 : a ≤ l.length) (q : List ByteArray) (hq : 0 < q.length) (hq' : q.length ≤ 1000) (p : ByteArray → Prop) (hp : ∀ x ∈ q, p x) : Draws l (spec_l1Pick.f l a s q) p := by
  unfold spec_l1Pick.f
  obtain ⟨r, b, t, e, hr, hb0, hb1⟩ := draw_below l hl a s (q.length : Int) h0 h1 (by omega)
  rw [e, Option.bind_some]
  simp only []
  rw [if_pos hr.1, if_pos hr.2]
  refine ⟨_, _, _, rfl, hp _ ?_, hb0, hb1⟩
  have hi : r.toNat < q.length := by omega
  have : rdOf ByteArray.empty q r = q[r.toNat] := by unfold rdOf; simp [List.getD, hi]
  rw [this]; exact List.getElem_mem hi

theorem draw_rtext (l : List Int) (hl : l.length ≤ 1048576) (a s : Int) (h0 : 0 ≤ a) (h1 : a ≤ l.length) : Draws l (spec_l3DrawText.f l a s) (fun x => x.size ≤ 20) := by
  unfold spec_l3DrawText.f
  rw [Option.bind_some]
  suffices h : ∀ q : List ByteArray, 0 < q.length → q.length ≤ 1000 → (∀ x ∈ q, x.size ≤ 20) → Draws l ((spec_l1Pick.f l a s q).bind fun t5 => some (t5.1, t5.2.1, t5.2.2.1, t5.2.2.2)) (fun x => x.size ≤ 20) from h _ (by decide) (by decide) (by decide)
  intro q q1 q2 q3
  obtain ⟨r, b, t, e, hr, hb0, hb1⟩ := draw_pick l hl a s h0 h1 q q1 q2 (fun x : ByteArray => x.size ≤ 20) q3
  rw [e, Option.bind_some]
  exact ⟨_, _, _, rfl, hr, hb0, hb1⟩
theorem draw_dent (l : List Int) (hl : l.length ≤ 1048576) (a s : Int) (h0 : 0 ≤ a) (h1 : a ≤ l.length) (x : ByteArray) (hx : x.size ≤ 20) : Draws l (spec_l3Dent.f l a s x) (fun y => y.size ≤ 40) := by
  unfold spec_l3Dent.f
  rw [wrap_in (n := (x.size : Int) + 1) (by omega) (by omega)]
  obtain ⟨r, b, t, e, hr, hb0, hb1⟩ := draw_below l hl a s ((x.size : Int) + 1) h0 h1 (by omega)
  rw [e, Option.bind_some]
  obtain ⟨r2, b2, t2, e2, hr2, hb2, hb2'⟩ := draw_below l hl b t 4 hb0 hb1 (by omega)
  simp only []
  rw [e2, Option.bind_some]
  simp only []
  by_cases c0 : r2 = 0
  · rw [if_pos c0, if_pos hr.1, if_pos (by omega), Option.bind_some]
    obtain ⟨r3, b3, t3, e3, hr3, hb3, hb3'⟩ := draw_pick l hl b2 t2 hb2 hb2' [(⟨#[97]⟩ : ByteArray), (⟨#[42]⟩ : ByteArray), (⟨#[40]⟩ : ByteArray), (⟨#[41]⟩ : ByteArray), (⟨#[124]⟩ : ByteArray), (⟨#[91]⟩ : ByteArray), (⟨#[93]⟩ : ByteArray), (⟨#[92]⟩ : ByteArray), (⟨#[46]⟩ : ByteArray)] (by decide) (by decide) (fun x : ByteArray => x.size = 1) (by decide)
    have z1 : (x.extract 0 r.toNat).size = r.toNat := by rw [ByteArray.size_extract]; omega
    have z2 : (x.extract r.toNat x.size).size = x.size - r.toNat := by rw [ByteArray.size_extract]; omega
    rw [e3, Option.bind_some]
    simp only []
    rw [if_pos (by omega), if_pos (by rw [ByteArray.size_append]; omega)]
    exact ⟨_, _, _, rfl, by simp only [ByteArray.size_append]; omega, hb3, hb3'⟩
  · rw [if_neg c0]
    by_cases c1 : r2 = 1
    · rw [if_pos c1]
      obtain ⟨r3, b3, t3, e3, hr3, hb3, hb3'⟩ := draw_rtext l hl b2 t2 hb2 hb2'
      rw [e3, Option.bind_some]
      simp only []
      rw [if_pos (by omega)]
      exact ⟨_, _, _, rfl, by simp only [ByteArray.size_append]; omega, hb3, hb3'⟩
    · rw [if_neg c1]
      exact ⟨_, _, _, rfl, by omega, hb2, hb2'⟩
theorem draw_end (l : List Int) (hl : l.length ≤ 1048576) (a s : Int) (h0 : 0 ≤ a) (h1 : a ≤ l.length) (x : ByteArray) (hx : x.size ≤ 100) : ∃ y, spec_DrawRexParse.j0v x l a s = some y ∧ y.size ≤ 100 := by
  rw [spec_DrawRexParse.j0v_eq]
  obtain ⟨r, b, t, e, hr, hb0, hb1⟩ := draw_once l hl a s 30 h0 h1 (by omega)
  rw [e, Option.bind_some]
  simp only []
  split
  · exact ⟨_, rfl, by decide⟩
  · exact ⟨_, rfl, hx⟩
theorem draw_more (l : List Int) (hl : l.length ≤ 1048576) : ∀ (d : Nat) (x : ByteArray) (a s : Int), 70 - x.size = d → 0 ≤ a → a ≤ l.length → x.size ≤ 70 → ∃ y, spec_DrawRexParse.l0v x l a s = some y ∧ y.size ≤ 100 := by
  intro d
  induction d with
  | zero =>
    intro x a s h h0 h1 hx
    rw [spec_DrawRexParse.l0v_eq]
    obtain ⟨r, b, t, e, hr, hb0, hb1⟩ := draw_below l hl a s 2 h0 h1 (by omega)
    rw [e, Option.bind_some]
    simp only []
    rw [wrap_in (n := 60 + r) (by omega) (by omega), if_neg (by omega)]
    exact draw_end l hl b t hb0 hb1 x (by omega)
  | succ d ih =>
    intro x a s h h0 h1 hx
    rw [spec_DrawRexParse.l0v_eq]
    obtain ⟨r, b, t, e, hr, hb0, hb1⟩ := draw_below l hl a s 2 h0 h1 (by omega)
    rw [e, Option.bind_some]
    simp only []
    rw [wrap_in (n := 60 + r) (by omega) (by omega)]
    have z1 : (⟨#[97]⟩ : ByteArray).size = 1 := rfl
    by_cases c : (x.size : Int) < 60 + r
    · rw [if_pos c, if_pos (by omega)]
      exact ih _ b t (by rw [ByteArray.size_append]; omega) hb0 hb1 (by rw [ByteArray.size_append]; omega)
    · rw [if_neg c]
      exact draw_end l hl b t hb0 hb1 x (by omega)
theorem draw_rex (l : List Int) (hl : l.length ≤ 1048576) : ∃ y, spec_DrawRexParse.fv l = some y ∧ y.size ≤ 100 := by
  rw [spec_DrawRexParse.fv_eq]
  obtain ⟨t0, e0⟩ := draw_new l hl
  rw [e0, Option.bind_some]
  obtain ⟨r1, b1, t1, e1, hr1, hb1, hb1'⟩ := draw_rtext l hl 0 t0 (by omega) (by omega)
  simp only []
  rw [e1, Option.bind_some]
  obtain ⟨r2, b2, t2, e2, hr2, hb2, hb2'⟩ := draw_dent l hl b1 t1 hb1 hb1' r1 hr1
  simp only []
  rw [e2, Option.bind_some]
  obtain ⟨r3, b3, t3, e3, hr3, hb3, hb3'⟩ := draw_once l hl b2 t2 30 hb2 hb2' (by omega)
  simp only []
  rw [e3, Option.bind_some]
  simp only []
  split
  · exact draw_more l hl _ r2 b3 t3 rfl hb3 hb3' (by omega)
  · exact draw_end l hl b3 t3 hb3 hb3' r2 (by omega)
end FnBracketsAid
open FnBracketsAid

theorem FnBrackets : laws_FnBrackets.Pure := by
  intro x hx
  rw [laws_FnBrackets.fv_eq]
  unfold laws_big.f
  rw [Option.bind_some]
  by_cases hs : (x.length : Int) > 1048576
  · rw [if_pos (by simpa using hs)]
  rw [if_neg (by simpa using hs)]
  obtain ⟨s, e1, hsz⟩ := draw_rex x (by omega)
  obtain ⟨r, ok, p1, p2⟩ := parse_both s
  rw [e1, Option.bind_some, p2, Option.bind_some, p1, Option.bind_some]
  simp only [if_true]
  rw [laws_FnBrackets.j1v_eq, FnBracketsAid.wrap_in (n := (s.size : Int) + 2) (by omega) (by omega)]
  by_cases h60 : (s.size : Int) + 2 > 60
  · rw [if_pos (by simpa using h60)]; simp
  rw [if_neg (by simpa using h60), laws_FnBrackets.j0v_eq]
  have z1 : (⟨#[40]⟩ : ByteArray).size = 1 := rfl
  have z2 : (⟨#[41]⟩ : ByteArray).size = 1 := rfl
  rw [if_pos (by omega), if_pos (by rw [ByteArray.size_append]; omega)]
  have hB : (⟨#[40]⟩ : ByteArray) ++ s ++ (⟨#[41]⟩ : ByteArray) = B (40 :: (s.data.toList ++ [41])) := by
    have a1 : (⟨#[40]⟩ : ByteArray) = B [40] := rfl
    have a2 : (⟨#[41]⟩ : ByteArray) = B [41] := rfl
    have a3 : s = B s.data.toList := (B_self s).symm
    rw [a1, a2, a3, B_append, B_append, B_data]
    rfl
  rw [hB]
  obtain ⟨q, qok, _, g2⟩ := parse_both (B (40 :: (s.data.toList ++ [41])))
  rw [g2, Option.bind_some]
  simp only []
  have hl : s.data.toList.length = s.size := by simp
  have hsB : s = B s.data.toList := (B_self s).symm
  generalize s.data.toList = l at g2 hl hsB
  subst hsB
  -- what is read of it
  rw [impl_RexParse.fv_eq, if_neg (by omega)] at p2
  obtain ⟨y, l', b, i1, i2⟩ := all_rd 58 (by omega) l (by omega)
  rw [show _ = _ from i1, Option.bind_some] at p2
  simp only [] at p2
  cases ok with
  | false =>
    -- no pattern: then it is not the empty one
    have hne : ((B l).size : Int) > 0 := by
      rcases l with _ | ⟨c, l⟩
      · exfalso
        have hz : impl_rexReader_pattern.fv (B []) false = some (11, 0, (⟨#[]⟩ : ByteArray), false, [], B [], false) := by
          rw [impl_rexReader_pattern.fv_eq, impl_rexReader_part.fv_eq, impl_rexReader_part.l0v_eq, next_nil, Option.bind_some]
          simp only [Bool.false_eq_true, if_false]
          rw [impl_rexReader_part.j1v_eq, if_pos (by simp), Option.bind_some]
          simp only []
          rw [impl_rexReader_pattern.l0v_eq, take_nil, Option.bind_some]
          simp only [Bool.false_eq_true, if_false]
          rw [if_pos (by simp), if_pos (by simp)]
          rfl
        rw [show _ = _ from i1] at hz
        have hz' := Option.some.inj hz
        simp only [Prod.mk.injEq] at hz'
        obtain ⟨z0, z1', z2', z3, z4, z5, z6⟩ := hz'
        rw [z6, if_neg (by decide), z5, if_pos (by rw [B_toList]), z4, impl_rexDeep.fv_eq, impl_rexDeep.l0v_eq, if_neg (by simp), Option.bind_some, FnBracketsAid.wrap_in (by omega) (by omega), if_neg (by omega)] at p2
        simp at p2
      · rw [B_size, List.length_cons]; omega
    rw [if_neg (by decide)]
    simp only [laws_FnBrackets.j2v_eq]
    split
    · simp only [hne, decide_true]
    · rfl
  | true =>
    rw [if_pos rfl]
    cases b with
    | true => rw [if_pos rfl] at p2; simp at p2
    | false =>
      rw [if_neg (by decide)] at p2
      by_cases hl0 : (B l').toList = ([] : List UInt8)
      · rw [if_pos hl0] at p2
        rw [B_toList] at hl0
        subst hl0
        obtain ⟨⟨p, e, n, hn, hle⟩, i3⟩ := i2 rfl
        rw [List.append_nil] at e
        obtain ⟨dv, hdv⟩ : ∃ dv, impl_rexDeep.fv y.f0 y.f1 y.f2 y.f3 y.f4 = some dv := by
          cases hd : impl_rexDeep.fv y.f0 y.f1 y.f2 y.f3 y.f4 with
          | none => rw [hd] at p2; simp at p2
          | some dv => exact ⟨dv, rfl⟩
        rw [hdv, Option.bind_some] at p2
        by_cases h12 : dv > 12
        · rw [if_pos h12] at p2; simp at p2
        rw [if_neg h12] at p2
        have hyr : y = r := by
          have := Option.some.inj p2
          simp only [Prod.mk.injEq] at this
          obtain ⟨w0, w1, w2, w3, w4, _⟩ := this
          rw [← eta_ y, ← eta_ r, w0, w1, w2, w3, w4]
        subst hyr
        -- in brackets
        have hin : impl_rexReader_pattern.fv (B (40 :: (l ++ [41]))) false = some (y.f0, y.f1, y.f2, y.f3, y.f4, B [], false) := by
          rw [impl_rexReader_pattern.fv_eq, impl_rexReader_part.fv_eq, impl_rexReader_part.l0v_eq, next_cons, Option.bind_some]
          simp only [if_true]
          rw [if_neg (by decide), if_neg (by decide), impl_rexReader_piece.fv_eq, impl_rexReader_atom.fv_eq, next_cons, Option.bind_some]
          simp only []
          rw [if_pos (one_in _ _), if_pos (by decide), rest_of, show _ = _ from i3, Option.bind_some]
          simp only []
          rw [List.nil_append, take_hit 41 [] 41 rfl, Option.bind_some]
          simp only [if_true]
          rw [Option.bind_some]
          simp only []
          rw [impl_rexReader_piece.l0v_eq, next_nil, Option.bind_some]
          simp only [Bool.false_eq_true, if_false]
          rw [Option.bind_some]
          simp only []
          rw [if_pos (by decide), List.nil_append, impl_rexReader_part.l0v_eq, next_nil, Option.bind_some]
          simp only [Bool.false_eq_true, if_false]
          rw [impl_rexReader_part.j1v_eq, if_neg (by simp), if_pos (by simp), if_pos (by simp), Option.bind_some]
          simp only []
          rw [impl_rexReader_pattern.l0v_eq, take_nil, Option.bind_some]
          simp only [Bool.false_eq_true, if_false]
          rw [if_pos (by simp), if_pos (by simp)]
          rfl
        have hg := g2
        rw [impl_RexParse.fv_eq, if_neg (by rw [B_size]; simp; omega), hin, Option.bind_some] at hg
        simp only [Bool.false_eq_true, if_false] at hg
        rw [if_pos (by rw [B_toList]), hdv, Option.bind_some, if_neg h12] at hg
        have hg' := Option.some.inj hg
        simp only [Prod.mk.injEq] at hg'
        obtain ⟨w0, w1, w2, w3, w4, w5⟩ := hg'
        have hlp : p.length = l.length := by rw [e]
        obtain ⟨v, hv⟩ := nfa_tot hn (by omega)
        rw [← w5, if_pos rfl, ← w0, ← w1, ← w2, ← w3, ← w4, hv, Option.bind_some, Option.bind_some, if_pos rfl]
        simp
      · rw [if_neg hl0] at p2; simp at p2

end Go.Proofs.Ytfdpehmefgfjgaa.Pure
