/- The program's ToText returns what the reference's returns, for every value. -/
import Derived.Test.YthigelphmjepaaaDoorQFnExactToTextx2
import Derived.Test.YthigelphmjepaaaDoorLim
import Derived.Lib.ItoaLen
namespace Go.Proofs.YthigelphmjepaaaDoor.Pure
open Go.RowKit Go.Proofs.YthigelphmjepaaaDoor.QFnExactToText Go.Proofs.YthigelphmjepaaaDoorW.PrintWords Go.Proofs.YthigelphmjepaaaDoorW.PrintLast Go.Proofs.YthigelphmjepaaaDoorW.PrintMore Go.Proofs.YthigelphmjepaaaDoorW.Lims
namespace FnExactToTextAid

/-! ### texts as rows of bytes -/
def B (l : List UInt8) : ByteArray := ⟨l.toArray⟩
theorem B_self (s : ByteArray) : B s.data.toList = s := by cases s; simp [B]
theorem B_size (l : List UInt8) : (B l).size = l.length := by show l.toArray.size = l.length; simp
theorem B_data (l : List UInt8) : (B l).data.toList = l := by simp [B]
theorem B_append (a b : List UInt8) : B a ++ B b = B (a ++ b) := by
  apply ByteArray.ext
  rw [ByteArray.data_append]
  simp [B]
theorem B_inj {a b : List UInt8} (h : B a = B b) : a = b := by
  have := congrArg (fun s : ByteArray => s.data.toList) h
  simpa [B] using this
theorem B_extract (l : List UInt8) (i j : Nat) : (B l).extract i j = B ((l.drop i).take (j - i)) := by rw [Lib.extract_eq, B_data]; rfl
theorem B_toList (l : List UInt8) : (B l).toList = l := by rw [Lib.toList_data, B_data]
theorem B_bt (l : List UInt8) (i : Nat) (h : i < l.length) : bt (B l) (i : Int) = (l[i].toNat : Int) := by
  have h' : (i : Int).toNat < (B l).size := by rw [Int.toNat_natCast, B_size]; exact h
  rw [← bt_at (B l) i h']
  rfl
theorem wrap_in {n : Int} (h0 : -9223372036854775808 ≤ n) (h1 : n ≤ 9223372036854775807) : wrap64 n = n := by unfold wrap64; omega
theorem byte_is (b c : UInt8) (n : Int) (hc : (c.toNat : Int) = n) : ((b.toNat : Int) = n) ↔ b = c := by
  rw [← UInt8.toNat_inj, ← hc]; omega
theorem byte_ofNat (n : Nat) (h : n < 256) : (UInt8.ofNat n).toNat = n := by rw [UInt8.toNat_ofNat']; omega

/-! ### decimal digits -/
theorem dig_one (n : Int) (h0 : 0 ≤ n) (h1 : n ≤ 9223372036854775807) : strOfNums [(wrap64 (48 + Int.tmod n 10)) % 256] = B [UInt8.ofNat (48 + n.toNat % 10)] := by
  have e : (wrap64 (48 + Int.tmod n 10)) % 256 = ((48 + n.toNat % 10 : Nat) : Int) := by
    rw [Int.tmod_eq_emod_of_nonneg h0, wrap_in (by omega) (by omega)]
    omega
  rw [e]
  rfl
theorem digits_loop (u : Nat) : ∀ acc : List UInt8, 1 ≤ u → u ≤ 9223372036854775807 → acc.length + Lib.nDigits u ≤ 1000 → spec_l2Digits.l0v (u : Int) (B acc) = some (B (Lib.decDigits u ++ acc)) := by
  induction u using Nat.strongRecOn with
  | _ u ih =>
    intro acc h1 h2 h3
    rw [spec_l2Digits.l0v_eq, if_pos (by omega)]
    simp only [Option.bind_some]
    rw [dig_one _ (by omega) (by omega), B_append, Int.toNat_natCast, Int.tdiv_eq_ediv_of_nonneg (by omega), wrap_in (by omega) (by omega)]
    rw [if_pos (by rw [B_size, B_size]; have := Lib.nDigits_pos u; simp; omega)]
    rw [show ((u : Int) / 10) = ((u / 10 : Nat) : Int) by omega]
    by_cases h : u < 10
    · rw [show u / 10 = 0 by omega, spec_l2Digits.l0v_eq, if_neg (by simp)]
      rw [Lib.decDigits_one h, Nat.mod_eq_of_lt h]
    · rw [ih (u / 10) (by omega) _ (by omega) (by omega) (by rw [Lib.nDigits_big h] at h3; simp; omega)]
      rw [Lib.decDigits.eq_def u, dif_neg h]
      simp
theorem digits_spec (u : Nat) (h : u ≤ 9223372036854775807) : spec_l2Digits.fv (u : Int) = some (B (Lib.decDigits u)) := by
  rw [spec_l2Digits.fv_eq]
  by_cases h0 : u = 0
  · subst h0
    rw [if_pos (by simp), Lib.decDigits_one (by omega)]
    rfl
  · rw [if_neg (by omega), show (⟨#[]⟩ : ByteArray) = B [] from rfl, digits_loop u [] (by omega) h (by have := Lib.nDigits_le20 u (by omega); simp; omega)]
    simp
theorem seven (u : Nat) (h0 : 1000000 ≤ u) (h1 : u < 2000000) : Lib.decDigits u = [49, UInt8.ofNat (48 + u / 100000 % 10), UInt8.ofNat (48 + u / 10000 % 10), UInt8.ofNat (48 + u / 1000 % 10), UInt8.ofNat (48 + u / 100 % 10), UInt8.ofNat (48 + u / 10 % 10), UInt8.ofNat (48 + u % 10)] := by
  rw [Lib.decDigits.eq_def, dif_neg (by omega), Lib.decDigits.eq_def, dif_neg (by omega), Lib.decDigits.eq_def, dif_neg (by omega), Lib.decDigits.eq_def, dif_neg (by omega), Lib.decDigits.eq_def, dif_neg (by omega), Lib.decDigits.eq_def, dif_neg (by omega), Lib.decDigits_one (by omega)]
  simp only [Nat.div_div_eq_div_mul]
  rw [show u / (10 * 10 * 10 * 10 * 10 * 10) = 1 by omega]
  rfl
theorem rest_any (r : Nat) (h0 : 0 < r) (h1 : r < 1000000) : ∃ b ∈ (Lib.decDigits (1000000 + r)).drop 1, b ≠ 48 := by
  rw [seven _ (by omega) (by omega)]
  simp only [List.drop_succ_cons, List.drop_zero]
  apply Classical.byContradiction
  intro hn
  have hz : ∀ k : Nat, k < 10 → UInt8.ofNat (48 + k) = 48 → k = 0 := by
    intro k hk e
    have := congrArg UInt8.toNat e
    rw [byte_ofNat _ (by omega)] at this
    have h48 : (48 : UInt8).toNat = 48 := rfl
    omega
  have hall : ∀ b ∈ [UInt8.ofNat (48 + (1000000 + r) / 100000 % 10), UInt8.ofNat (48 + (1000000 + r) / 10000 % 10), UInt8.ofNat (48 + (1000000 + r) / 1000 % 10), UInt8.ofNat (48 + (1000000 + r) / 100 % 10), UInt8.ofNat (48 + (1000000 + r) / 10 % 10), UInt8.ofNat (48 + (1000000 + r) % 10)], b = 48 := fun b hb => Classical.byContradiction fun e => hn ⟨b, hb, e⟩
  have a1 := hz _ (by omega) (hall (UInt8.ofNat (48 + (1000000 + r) / 100000 % 10)) (by simp))
  have a2 := hz _ (by omega) (hall (UInt8.ofNat (48 + (1000000 + r) / 10000 % 10)) (by simp))
  have a3 := hz _ (by omega) (hall (UInt8.ofNat (48 + (1000000 + r) / 1000 % 10)) (by simp))
  have a4 := hz _ (by omega) (hall (UInt8.ofNat (48 + (1000000 + r) / 100 % 10)) (by simp))
  have a5 := hz _ (by omega) (hall (UInt8.ofNat (48 + (1000000 + r) / 10 % 10)) (by simp))
  have a6 := hz _ (by omega) (hall (UInt8.ofNat (48 + (1000000 + r) % 10)) (by simp))
  omega

/-! ### noughts at the end fall away -/
def sgn (x : Int) : List UInt8 := if x < 0 then [45] else []
theorem trim_snoc (t : List UInt8) (b : UInt8) : Lib.trimRightB (t ++ [b]) 48 = if b = 48 then Lib.trimRightB t 48 else t ++ [b] := by
  unfold Lib.trimRightB
  rw [List.reverse_append, List.reverse_singleton, List.singleton_append, List.dropWhile_cons]
  by_cases h : b = 48
  · simp [h]
  · rw [if_neg (by simpa using h), if_neg h]; simp
theorem trim_le (t : List UInt8) : (Lib.trimRightB t 48).length ≤ t.length := by
  unfold Lib.trimRightB
  rw [List.length_reverse]
  exact Nat.le_trans (List.dropWhile_sublist _).length_le (by simp)
theorem strip (x0 : Int) (a : List UInt8) (ha : a.length ≤ 1000) (n : Nat) : ∀ t : List UInt8, t.length = n → t.length ≤ 1000 → (∃ b ∈ t, b ≠ 48) → spec_DecText.l0v x0 (B a) (B t) = some (B (sgn x0 ++ (a ++ [46] ++ Lib.trimRightB t 48))) := by
  induction n with
  | zero =>
    intro t h1 _ ⟨b, hb, _⟩
    rw [List.eq_nil_of_length_eq_zero h1] at hb
    simp at hb
  | succ n ih =>
    intro t h1 h2 h3
    obtain ⟨t, b, rfl⟩ : ∃ t' b, t = t' ++ [b] := ⟨t.dropLast, t.getLast (by intro e; rw [e] at h1; simp at h1), (List.dropLast_concat_getLast _).symm⟩
    have hl : t.length = n := by simpa using h1
    have e1 : wrap64 (((B (t ++ [b])).size : Int) - 1) = (n : Int) := by rw [B_size]; simp; rw [wrap_in (by omega) (by omega)]; omega
    have e2 : bt (B (t ++ [b])) (n : Int) = (b.toNat : Int) := by
      rw [B_bt _ n (by simp; omega)]
      subst hl; simp
    rw [spec_DecText.l0v_eq, e1, e2, if_pos (by omega), if_pos (by rw [B_size]; simp; omega), trim_snoc]
    have hb := byte_is b 48 48 rfl
    by_cases h : b = 48
    · rw [if_pos (hb.2 h), if_pos (by rw [B_size]; simp; omega), if_pos h, B_extract]
      have e3 : (List.drop 0 (t ++ [b])).take (((n : Int)).toNat - 0) = t := by subst hl; simp
      rw [e3]
      refine ih t hl (by simp at h2; omega) ?_
      obtain ⟨c, hc, hc2⟩ := h3
      rcases List.mem_append.1 hc with hc | hc
      · exact ⟨c, hc, hc2⟩
      · rw [List.mem_singleton] at hc; exact absurd (hc.trans h) hc2
    · rw [if_neg (fun e => h (hb.1 e)), if_neg h, show (⟨#[46]⟩ : ByteArray) = B [46] from rfl, show (⟨#[45]⟩ : ByteArray) = B [45] from rfl]
      simp only [B_append, B_size]
      rw [if_pos (by omega), if_pos (by simp; simp at h2; omega)]
      by_cases hx : x0 < 0
      · rw [if_pos hx, if_pos (by simp; simp at h2; omega)]; simp [sgn, hx]
      · rw [if_neg hx]; simp [sgn, hx]

/-! ### both texts -/
theorem decok_spec (a : Int) : spec_DecOk.f a = some (decide (-9000000000000 ≤ a ∧ a ≤ 9000000000000)) := by
  unfold spec_DecOk.f spec_l1In.f
  by_cases h : a ≥ -9000000000000
  · rw [if_pos h]; simp [h]
  · rw [if_neg h]; simp; omega
theorem decok_impl (a : Int) : impl_DecOk.f a = some (decide (-9000000000000 ≤ a ∧ a ≤ 9000000000000)) := by
  unfold impl_DecOk.f impl_in.f
  by_cases h : a ≥ -9000000000000
  · rw [if_pos h]; simp [h]
  · rw [if_neg h]; simp; omega
/-- The text of a number that is right: sign, whole part, and what stands behind the point. -/
def decText (a : Int) : List UInt8 := if -9000000000000 ≤ a ∧ a ≤ 9000000000000 then sgn a ++ (Lib.decDigits (a.natAbs / 1000000) ++ if a.natAbs % 1000000 = 0 then [] else [46] ++ Lib.trimRightB ((Lib.decDigits (1000000 + a.natAbs % 1000000)).drop 1) 48) else []
theorem dec_len (u : Nat) (h : u ≤ 9223372036854775807) : (Lib.decDigits u).length ≤ 20 := by rw [Lib.decDigits_length]; exact Lib.nDigits_le20 u (by omega)
theorem text_spec (a : Int) : spec_DecText.fv a = some (B (decText a)) := by
  rw [spec_DecText.fv_eq, decok_spec, Option.bind_some]
  unfold decText
  by_cases h : -9000000000000 ≤ a ∧ a ≤ 9000000000000
  · rw [if_pos (by simpa using h), if_pos h]
    have e0 : spec_l1Abs.f a = some ((a.natAbs : Nat) : Int) := by
      unfold spec_l1Abs.f
      by_cases hn : a < 0
      · rw [if_pos hn, wrap_in (by omega) (by omega)]; congr 1; omega
      · rw [if_neg hn]; congr 1; omega
    rw [e0, Option.bind_some, Int.tdiv_eq_ediv_of_nonneg (by omega), Int.tmod_eq_emod_of_nonneg (by omega), wrap_in (by omega) (by omega)]
    generalize hu : a.natAbs = u
    have hu2 : u ≤ 9000000000000 := by omega
    rw [show ((u : Int) / 1000000) = ((u / 1000000 : Nat) : Int) by omega, digits_spec _ (by omega), Option.bind_some]
    have hd := dec_len (u / 1000000) (by omega)
    by_cases hr : u % 1000000 = 0
    · rw [if_neg (by omega), if_pos hr, List.append_nil, B_size, show (⟨#[45]⟩ : ByteArray) = B [45] from rfl, B_append]
      by_cases hn : a < 0
      · rw [if_pos hn, if_pos (by omega)]; simp [sgn, hn]
      · rw [if_neg hn]; simp [sgn, hn]
    · rw [if_pos (by omega), if_neg hr, wrap_in (by omega) (by omega), show (1000000 + (u : Int) % 1000000) = ((1000000 + u % 1000000 : Nat) : Int) by omega, digits_spec _ (by omega), Option.bind_some]
      have hd2 := dec_len (1000000 + u % 1000000) (by omega)
      rw [B_size, if_pos (by rw [seven _ (by omega) (by omega)]; simp), B_extract]
      rw [List.take_of_length_le (by simp)]
      rw [strip a _ (by omega) _ _ rfl (by simp; omega) (rest_any _ (by omega) (by omega))]
      simp
  · rw [if_neg (by simpa using h), if_neg h]; rfl
theorem text_impl (a : Int) : impl_DecText.fv a = some (B (decText a)) := by
  rw [impl_DecText.fv_eq, decok_impl, Option.bind_some]
  unfold decText
  by_cases h : -9000000000000 ≤ a ∧ a ≤ 9000000000000
  · rw [if_pos (by simpa using h), if_pos h]
    have key : ∀ (u : Nat) (s : List UInt8), u ≤ 9000000000000 → s.length ≤ 10 → impl_DecText.j0v (u : Int) (B s) = some (B (s ++ (Lib.decDigits (u / 1000000) ++ if u % 1000000 = 0 then [] else [46] ++ Lib.trimRightB ((Lib.decDigits (1000000 + u % 1000000)).drop 1) 48))) := by
      intro u s hu hs
      have hit : ∀ v : Nat, v ≤ 9223372036854775807 → strconv_Itoa.f (v : Int) = some (B (Lib.decDigits v)) := by
        intro v hv
        unfold strconv_Itoa.f
        rw [if_pos (by omega), Lib.itoa_nonneg]; rfl
      have hd := dec_len (u / 1000000) (by omega)
      rw [impl_DecText.j0v_eq, Int.tdiv_eq_ediv_of_nonneg (by omega), Int.tmod_eq_emod_of_nonneg (by omega), wrap_in (by omega) (by omega), show ((u : Int) / 1000000) = ((u / 1000000 : Nat) : Int) by omega, hit _ (by omega), Option.bind_some]
      rw [if_pos (by rw [B_size, B_size]; omega)]
      by_cases hr : u % 1000000 = 0
      · rw [if_neg (by omega), if_pos hr, List.append_nil, B_append]
      · rw [if_pos (by omega), if_neg hr, wrap_in (by omega) (by omega), show (1000000 + (u : Int) % 1000000) = ((1000000 + u % 1000000 : Nat) : Int) by omega, hit _ (by omega), Option.bind_some]
        have hd2 := dec_len (1000000 + u % 1000000) (by omega)
        rw [B_size, if_pos (by rw [seven _ (by omega) (by omega)]; simp), B_extract, List.take_of_length_le (by simp)]
        generalize ht : (Lib.decDigits (1000000 + u % 1000000)).drop 1 = t
        have ht2 : t.length ≤ 20 := by rw [← ht]; simp; omega
        have htr : strings_TrimRight.f (B t) (⟨#[48]⟩ : ByteArray) = some (B (Lib.trimRightB t 48)) := by
          unfold strings_TrimRight.f
          simp only [B_data, B_size]
          rw [if_pos ⟨by decide, by omega⟩]; rfl
        have := trim_le t
        rw [htr, Option.bind_some, show (⟨#[46]⟩ : ByteArray) = B [46] from rfl]
        simp only [B_append, B_size]
        rw [if_pos (by omega), if_pos (by simp; omega)]
        simp
    by_cases hn : a < 0
    · rw [if_pos hn, wrap_in (by omega) (by omega), show (-a) = ((a.natAbs : Nat) : Int) by omega, show (⟨#[45]⟩ : ByteArray) = B [45] from rfl, key _ _ (by omega) (by simp)]
      simp [sgn, hn]
    · rw [if_neg hn, show (⟨#[]⟩ : ByteArray) = B [] from rfl]
      have e : a = ((a.natAbs : Nat) : Int) := by omega
      have k2 := key a.natAbs [] (by omega) (by simp)
      rw [← e] at k2
      rw [k2]
      simp [sgn, hn]
  · rw [if_neg (by simpa using h), if_neg h]; rfl

theorem sz_val (a b : Int) (s : ByteArray) (h : s.size ≤ maxLen) : (laws_szVal.f a b s 1048576 = some (-1) ∧ 1048576 < s.size) ∨ (laws_szVal.f a b s 1048576 = some (1048576 - (s.size : Int)) ∧ s.size ≤ 1048576) := by
  unfold maxLen at h
  unfold laws_szVal.f
  rw [wrap_in (by omega) (by omega)]
  by_cases hs : 1048576 < s.size
  · rw [if_pos (by omega)]; exact .inl ⟨rfl, hs⟩
  · rw [if_neg (by omega)]; exact .inr ⟨rfl, by omega⟩
theorem to_val (a b : Int) (s : ByteArray) : laws_toVal.f a b s = some (a, b, s) := rfl

theorem totext (a b : Int) (s : ByteArray) : ∃ t, spec_ToText.fv a b s = some t ∧ impl_ToText.fv a b s = some t := by
  rw [spec_ToText.fv_eq, impl_ToText.fv_eq]
  by_cases h : a = 1
  · rw [if_pos h, if_pos h, text_spec, text_impl]; exact ⟨_, rfl, rfl⟩
  · rw [if_neg h, if_neg h]; exact ⟨_, rfl, rfl⟩
end FnExactToTextAid
open FnExactToTextAid

theorem FnExactToText : laws_FnExactToText.Pure := by
  intro x hx
  refine (laws_FnExactToText.f_lim x.f0 x.f1 x.f2).get ?_
  rw [laws_FnExactToText.fv_eq]
  rcases sz_val x.f0 x.f1 x.f2 hx.2.2 with ⟨h, _⟩ | ⟨h, hs⟩
  · rw [h, Option.bind_some, if_pos (by omega)]
  · obtain ⟨t, h1, h2⟩ := totext x.f0 x.f1 x.f2
    rw [h, Option.bind_some, if_neg (by omega), to_val]
    simp only [Option.bind_some, h1, h2]
    simp

end Go.Proofs.YthigelphmjepaaaDoor.Pure
