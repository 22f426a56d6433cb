/- The program's OpText answers as the reference's, for all arguments. -/
import Derived.Test.YthgglepiopijjaaDoorFFnExactOpText
import Derived.Test.YthgglepiopijjaaDoorLim
import Derived.Lib.ItoaLen
set_option linter.unusedVariables false
set_option linter.unusedSimpArgs false
namespace Go.Proofs.YthgglepiopijjaaDoor.Pure
open Go.RowKit Go.Proofs.YthgglepiopijjaaDoor.QFnExactOpText Go.Proofs.YthgglepiopijjaaDoorW.PrintWords Go.Proofs.YthgglepiopijjaaDoorW.PrintLast Go.Proofs.YthgglepiopijjaaDoorW.PrintMore Go.Proofs.YthgglepiopijjaaDoorW.Lims
namespace FnExactOpTextAid

/-! ### texts as rows of bytes -/
def B (l : List UInt8) : ByteArray := ⟨l.toArray⟩
theorem B_self (s : ByteArray) : B s.data.toList = s := by cases s; simp [B]
theorem B_size (l : List UInt8) : (B l).size = l.length := by show l.toArray.size = l.length; simp
theorem B_data (l : List UInt8) : (B l).data.toList = l := by simp [B]
theorem B_append (a b : List UInt8) : B a ++ B b = B (a ++ b) := by
  apply ByteArray.ext
  rw [ByteArray.data_append]
  simp [B]
theorem B_inj {a b : List UInt8} (h : B a = B b) : a = b := by
  have := congrArg (fun s : ByteArray => s.data.toList) h
  simpa [B] using this
theorem B_extract (l : List UInt8) (i j : Nat) : (B l).extract i j = B ((l.drop i).take (j - i)) := by rw [Lib.extract_eq, B_data]; rfl
theorem B_toList (l : List UInt8) : (B l).toList = l := by rw [Lib.toList_data, B_data]
theorem B_bt (l : List UInt8) (i : Nat) (h : i < l.length) : bt (B l) (i : Int) = (l[i].toNat : Int) := by
  have h' : (i : Int).toNat < (B l).size := by rw [Int.toNat_natCast, B_size]; exact h
  rw [← bt_at (B l) i h']
  rfl
theorem wrap_in {n : Int} (h0 : -9223372036854775808 ≤ n) (h1 : n ≤ 9223372036854775807) : wrap64 n = n := by unfold wrap64; omega
theorem byte_is (b c : UInt8) (n : Int) (hc : (c.toNat : Int) = n) : ((b.toNat : Int) = n) ↔ b = c := by
  rw [← UInt8.toNat_inj, ← hc]; omega
theorem byte_ofNat (n : Nat) (h : n < 256) : (UInt8.ofNat n).toNat = n := by rw [UInt8.toNat_ofNat']; omega

/-! ### decimal digits -/
theorem dig_one (n : Int) (h0 : 0 ≤ n) (h1 : n ≤ 9223372036854775807) : strOfNums [(wrap64 (48 + Int.tmod n 10)) % 256] = B [UInt8.ofNat (48 + n.toNat % 10)] := by
  have e : (wrap64 (48 + Int.tmod n 10)) % 256 = ((48 + n.toNat % 10 : Nat) : Int) := by
    rw [Int.tmod_eq_emod_of_nonneg h0, wrap_in (by omega) (by omega)]
    omega
  rw [e]
  rfl
theorem digits_loop (u : Nat) : ∀ acc : List UInt8, 1 ≤ u → u ≤ 9223372036854775807 → acc.length + Lib.nDigits u ≤ 1000 → spec_l2Digits.l0v (u : Int) (B acc) = some (B (Lib.decDigits u ++ acc)) := by
  induction u using Nat.strongRecOn with
  | _ u ih =>
    intro acc h1 h2 h3
    rw [spec_l2Digits.l0v_eq, if_pos (by omega)]
    rw [dig_one _ (by omega) (by omega), B_append, Int.toNat_natCast, Int.tdiv_eq_ediv_of_nonneg (by omega), wrap_in (by omega) (by omega)]
    rw [if_pos (by rw [B_size, B_size]; have := Lib.nDigits_pos u; simp; omega)]
    rw [show ((u : Int) / 10) = ((u / 10 : Nat) : Int) by omega]
    by_cases h : u < 10
    · rw [show u / 10 = 0 by omega, spec_l2Digits.l0v_eq, if_neg (by simp)]
      rw [Lib.decDigits_one h, Nat.mod_eq_of_lt h]
    · rw [ih (u / 10) (by omega) _ (by omega) (by omega) (by rw [Lib.nDigits_big h] at h3; simp; omega)]
      rw [Lib.decDigits.eq_def u, dif_neg h]
      simp
theorem digits_spec (u : Nat) (h : u ≤ 9223372036854775807) : spec_l2Digits.fv (u : Int) = some (B (Lib.decDigits u)) := by
  rw [spec_l2Digits.fv_eq]
  by_cases h0 : u = 0
  · subst h0
    rw [if_pos (by simp), Lib.decDigits_one (by omega)]
    rfl
  · rw [if_neg (by omega), show (⟨#[]⟩ : ByteArray) = B [] from rfl, digits_loop u [] (by omega) h (by have := Lib.nDigits_le20 u (by omega); simp; omega)]
    simp
theorem seven (u : Nat) (h0 : 1000000 ≤ u) (h1 : u < 2000000) : Lib.decDigits u = [49, UInt8.ofNat (48 + u / 100000 % 10), UInt8.ofNat (48 + u / 10000 % 10), UInt8.ofNat (48 + u / 1000 % 10), UInt8.ofNat (48 + u / 100 % 10), UInt8.ofNat (48 + u / 10 % 10), UInt8.ofNat (48 + u % 10)] := by
  rw [Lib.decDigits.eq_def, dif_neg (by omega), Lib.decDigits.eq_def, dif_neg (by omega), Lib.decDigits.eq_def, dif_neg (by omega), Lib.decDigits.eq_def, dif_neg (by omega), Lib.decDigits.eq_def, dif_neg (by omega), Lib.decDigits.eq_def, dif_neg (by omega), Lib.decDigits_one (by omega)]
  simp only [Nat.div_div_eq_div_mul]
  rw [show u / (10 * 10 * 10 * 10 * 10 * 10) = 1 by omega]
  rfl
theorem rest_any (r : Nat) (h0 : 0 < r) (h1 : r < 1000000) : ∃ b ∈ (Lib.decDigits (1000000 + r)).drop 1, b ≠ 48 := by
  rw [seven _ (by omega) (by omega)]
  simp only [List.drop_succ_cons, List.drop_zero]
  apply Classical.byContradiction
  intro hn
  have hz : ∀ k : Nat, k < 10 → UInt8.ofNat (48 + k) = 48 → k = 0 := by
    intro k hk e
    have := congrArg UInt8.toNat e
    rw [byte_ofNat _ (by omega)] at this
    have h48 : (48 : UInt8).toNat = 48 := rfl
    omega
  have hall : ∀ b ∈ [UInt8.ofNat (48 + (1000000 + r) / 100000 % 10), UInt8.ofNat (48 + (1000000 + r) / 10000 % 10), UInt8.ofNat (48 + (1000000 + r) / 1000 % 10), UInt8.ofNat (48 + (1000000 + r) / 100 % 10), UInt8.ofNat (48 + (1000000 + r) / 10 % 10), UInt8.ofNat (48 + (1000000 + r) % 10)], b = 48 := fun b hb => Classical.byContradiction fun e => hn ⟨b, hb, e⟩
  have a1 := hz _ (by omega) (hall (UInt8.ofNat (48 + (1000000 + r) / 100000 % 10)) (by simp))
  have a2 := hz _ (by omega) (hall (UInt8.ofNat (48 + (1000000 + r) / 10000 % 10)) (by simp))
  have a3 := hz _ (by omega) (hall (UInt8.ofNat (48 + (1000000 + r) / 1000 % 10)) (by simp))
  have a4 := hz _ (by omega) (hall (UInt8.ofNat (48 + (1000000 + r) / 100 % 10)) (by simp))
  have a5 := hz _ (by omega) (hall (UInt8.ofNat (48 + (1000000 + r) / 10 % 10)) (by simp))
  have a6 := hz _ (by omega) (hall (UInt8.ofNat (48 + (1000000 + r) % 10)) (by simp))
  omega

/-! ### noughts at the end fall away -/
def sgn (x : Int) : List UInt8 := if x < 0 then [45] else []
theorem trim_snoc (t : List UInt8) (b : UInt8) : Lib.trimRightB (t ++ [b]) 48 = if b = 48 then Lib.trimRightB t 48 else t ++ [b] := by
  unfold Lib.trimRightB
  rw [List.reverse_append, List.reverse_singleton, List.singleton_append, List.dropWhile_cons]
  by_cases h : b = 48
  · simp [h]
  · rw [if_neg (by simpa using h), if_neg h]; simp
theorem trim_le (t : List UInt8) : (Lib.trimRightB t 48).length ≤ t.length := by
  unfold Lib.trimRightB
  rw [List.length_reverse]
  exact Nat.le_trans (List.dropWhile_sublist _).length_le (by simp)
theorem strip (x0 : Int) (a : List UInt8) (ha : a.length ≤ 1000) (n : Nat) : ∀ t : List UInt8, t.length = n → t.length ≤ 1000 → (∃ b ∈ t, b ≠ 48) → spec_DecText.l0v x0 (B a) (B t) = some (B (sgn x0 ++ (a ++ [46] ++ Lib.trimRightB t 48))) := by
  induction n with
  | zero =>
    intro t h1 _ ⟨b, hb, _⟩
    rw [List.eq_nil_of_length_eq_zero h1] at hb
    simp at hb
  | succ n ih =>
    intro t h1 h2 h3
    obtain ⟨t, b, rfl⟩ : ∃ t' b, t = t' ++ [b] := ⟨t.dropLast, t.getLast (by intro e; rw [e] at h1; simp at h1), (List.dropLast_concat_getLast _).symm⟩
    have hl : t.length = n := by simpa using h1
    have e1 : wrap64 (((B (t ++ [b])).size : Int) - 1) = (n : Int) := by rw [B_size]; simp; rw [wrap_in (by omega) (by omega)]; omega
    have e2 : bt (B (t ++ [b])) (n : Int) = (b.toNat : Int) := by
      rw [B_bt _ n (by simp; omega)]
      subst hl; simp
    rw [spec_DecText.l0v_eq, e1, e2, if_pos (by omega), if_pos (by rw [B_size]; simp; omega), trim_snoc]
    have hb := byte_is b 48 48 rfl
    by_cases h : b = 48
    · rw [if_pos (hb.2 h), if_pos (by rw [B_size]; simp; omega), if_pos h, B_extract]
      have e3 : (List.drop 0 (t ++ [b])).take (((n : Int)).toNat - 0) = t := by subst hl; simp
      rw [e3]
      refine ih t hl (by simp at h2; omega) ?_
      obtain ⟨c, hc, hc2⟩ := h3
      rcases List.mem_append.1 hc with hc | hc
      · exact ⟨c, hc, hc2⟩
      · rw [List.mem_singleton] at hc; exact absurd (hc.trans h) hc2
    · rw [if_neg (fun e => h (hb.1 e)), if_neg h, show (⟨#[46]⟩ : ByteArray) = B [46] from rfl, show (⟨#[45]⟩ : ByteArray) = B [45] from rfl]
      simp only [B_append, B_size]
      rw [if_pos (by simp; omega), if_pos (by simp; simp at h2; omega)]
      by_cases hx : x0 < 0
      · rw [if_pos hx, if_pos (by simp; simp at h2; omega)]; simp [sgn, hx]
      · rw [if_neg hx]; simp [sgn, hx]

/-! ### both texts -/
theorem decok_spec (a : Int) : spec_DecOk.f a = some (decide (-9000000000000 ≤ a ∧ a ≤ 9000000000000)) := by
  unfold spec_DecOk.f spec_l1In.f
  by_cases h : a ≥ -9000000000000
  · rw [if_pos h]; simp [h]
  · rw [if_neg h]; simp; omega
theorem decok_impl (a : Int) : impl_DecOk.f a = some (decide (-9000000000000 ≤ a ∧ a ≤ 9000000000000)) := by
  unfold impl_DecOk.f impl_in.f
  by_cases h : a ≥ -9000000000000
  · rw [if_pos h]; simp [h]
  · rw [if_neg h]; simp; omega
/-- The text of a number that is right: sign, whole part, and what stands behind the point. -/
def decText (a : Int) : List UInt8 := if -9000000000000 ≤ a ∧ a ≤ 9000000000000 then sgn a ++ (Lib.decDigits (a.natAbs / 1000000) ++ if a.natAbs % 1000000 = 0 then [] else [46] ++ Lib.trimRightB ((Lib.decDigits (1000000 + a.natAbs % 1000000)).drop 1) 48) else []
theorem dec_len (u : Nat) (h : u ≤ 9223372036854775807) : (Lib.decDigits u).length ≤ 20 := by rw [Lib.decDigits_length]; exact Lib.nDigits_le20 u (by omega)
theorem text_spec (a : Int) : spec_DecText.fv a = some (B (decText a)) := by
  rw [spec_DecText.fv_eq, decok_spec, Option.bind_some]
  unfold decText
  by_cases h : -9000000000000 ≤ a ∧ a ≤ 9000000000000
  · rw [if_pos (by simpa using h), if_pos h]
    have e0 : spec_l1Abs.f a = some ((a.natAbs : Nat) : Int) := by
      unfold spec_l1Abs.f
      by_cases hn : a < 0
      · rw [if_pos hn, wrap_in (by omega) (by omega)]; congr 1; omega
      · rw [if_neg hn]; congr 1; omega
    rw [e0, Option.bind_some, Int.tdiv_eq_ediv_of_nonneg (by omega), Int.tmod_eq_emod_of_nonneg (by omega), wrap_in (by omega) (by omega)]
    generalize hu : a.natAbs = u
    have hu2 : u ≤ 9000000000000 := by omega
    rw [show ((u : Int) / 1000000) = ((u / 1000000 : Nat) : Int) by omega, digits_spec _ (by omega), Option.bind_some]
    have hd := dec_len (u / 1000000) (by omega)
    by_cases hr : u % 1000000 = 0
    · rw [if_neg (by omega), if_pos hr, List.append_nil, B_size, show (⟨#[45]⟩ : ByteArray) = B [45] from rfl, B_append]
      by_cases hn : a < 0
      · rw [if_pos hn, if_pos (by rw [B_size]; simp; omega)]; simp [sgn, hn]
      · rw [if_neg hn]; simp [sgn, hn]
    · rw [if_pos (by omega), if_neg hr, wrap_in (by omega) (by omega), show (1000000 + (u : Int) % 1000000) = ((1000000 + u % 1000000 : Nat) : Int) by omega, digits_spec _ (by omega), Option.bind_some]
      have hd2 := dec_len (1000000 + u % 1000000) (by omega)
      rw [B_size, if_pos (by rw [seven _ (by omega) (by omega)]; simp), B_extract]
      rw [List.take_of_length_le (by simp)]
      rw [strip a _ (by omega) _ _ rfl (by simp; omega) (rest_any _ (by omega) (by omega))]
      simp
  · rw [if_neg (by simpa using h), if_neg h]; rfl
theorem text_impl (a : Int) : impl_DecText.fv a = some (B (decText a)) := by
  rw [impl_DecText.fv_eq, decok_impl, Option.bind_some]
  unfold decText
  by_cases h : -9000000000000 ≤ a ∧ a ≤ 9000000000000
  · rw [if_pos (by simpa using h), if_pos h]
    have key : ∀ (u : Nat) (s : List UInt8), u ≤ 9000000000000 → s.length ≤ 10 → impl_DecText.j0v (u : Int) (B s) = some (B (s ++ (Lib.decDigits (u / 1000000) ++ if u % 1000000 = 0 then [] else [46] ++ Lib.trimRightB ((Lib.decDigits (1000000 + u % 1000000)).drop 1) 48))) := by
      intro u s hu hs
      have hit : ∀ v : Nat, v ≤ 9223372036854775807 → strconv_Itoa.f (v : Int) = some (B (Lib.decDigits v)) := by
        intro v hv
        unfold strconv_Itoa.f
        rw [if_pos (by omega), Lib.itoa_nonneg]; rfl
      have hd := dec_len (u / 1000000) (by omega)
      rw [impl_DecText.j0v_eq, Int.tdiv_eq_ediv_of_nonneg (by omega), Int.tmod_eq_emod_of_nonneg (by omega), wrap_in (by omega) (by omega), show ((u : Int) / 1000000) = ((u / 1000000 : Nat) : Int) by omega, hit _ (by omega), Option.bind_some]
      rw [if_pos (by rw [B_size, B_size]; omega)]
      by_cases hr : u % 1000000 = 0
      · rw [if_neg (by omega), if_pos hr, List.append_nil, B_append]
      · rw [if_pos (by omega), if_neg hr, wrap_in (by omega) (by omega), show (1000000 + (u : Int) % 1000000) = ((1000000 + u % 1000000 : Nat) : Int) by omega, hit _ (by omega), Option.bind_some]
        have hd2 := dec_len (1000000 + u % 1000000) (by omega)
        rw [B_size, if_pos (by rw [seven _ (by omega) (by omega)]; simp), B_extract, List.take_of_length_le (by simp)]
        generalize ht : (Lib.decDigits (1000000 + u % 1000000)).drop 1 = t
        have ht2 : t.length ≤ 20 := by rw [← ht]; simp; omega
        have htr : strings_TrimRight.f (B t) (⟨#[48]⟩ : ByteArray) = some (B (Lib.trimRightB t 48)) := by
          unfold strings_TrimRight.f
          simp only [B_data, B_size]
          rw [if_pos ⟨by decide, by omega⟩]; rfl
        have := trim_le t
        rw [htr, Option.bind_some, show (⟨#[46]⟩ : ByteArray) = B [46] from rfl]
        simp only [B_append, B_size]
        rw [if_pos (by simp; omega), if_pos (by simp; omega)]
        simp
    by_cases hn : a < 0
    · rw [if_pos hn, wrap_in (by omega) (by omega), show (0 - a) = ((a.natAbs : Nat) : Int) by omega, show (⟨#[45]⟩ : ByteArray) = B [45] from rfl, key _ _ (by omega) (by simp)]
      simp [sgn, hn]
    · rw [if_neg hn, show (⟨#[]⟩ : ByteArray) = B [] from rfl]
      have e : a = ((a.natAbs : Nat) : Int) := by omega
      have k2 := key a.natAbs [] (by omega) (by simp)
      rw [← e] at k2
      rw [k2]
      simp [sgn, hn]
  · rw [if_neg (by simpa using h), if_neg h]; rfl

/-! ### the text of a place -/
def nms : List ByteArray := [(⟨#[]⟩ : ByteArray), (⟨#[110, 117, 109]⟩ : ByteArray), (⟨#[116, 101, 120, 116]⟩ : ByteArray), (⟨#[118, 97, 114]⟩ : ByteArray), (⟨#[115, 101, 116, 118, 97, 114]⟩ : ByteArray), (⟨#[112, 108, 117, 115, 118, 97, 114]⟩ : ByteArray), (⟨#[99, 101, 108, 108]⟩ : ByteArray), (⟨#[115, 101, 116, 99, 101, 108, 108]⟩ : ByteArray), (⟨#[112, 108, 117, 115, 99, 101, 108, 108]⟩ : ByteArray), (⟨#[102, 105, 101, 108, 100]⟩ : ByteArray), (⟨#[110, 114]⟩ : ByteArray), (⟨#[110, 102]⟩ : ByteArray), (⟨#[97, 100, 100]⟩ : ByteArray), (⟨#[115, 117, 98]⟩ : ByteArray), (⟨#[109, 117, 108]⟩ : ByteArray), (⟨#[100, 105, 118]⟩ : ByteArray), (⟨#[109, 111, 100]⟩ : ByteArray), (⟨#[99, 97, 116]⟩ : ByteArray), (⟨#[108, 101, 115, 115]⟩ : ByteArray), (⟨#[109, 111, 115, 116]⟩ : ByteArray), (⟨#[109, 111, 114, 101]⟩ : ByteArray), (⟨#[108, 101, 97, 115, 116]⟩ : ByteArray), (⟨#[115, 97, 109, 101]⟩ : ByteArray), (⟨#[111, 116, 104, 101, 114]⟩ : ByteArray), (⟨#[102, 105, 116, 115]⟩ : ByteArray), (⟨#[108, 105, 110, 101]⟩ : ByteArray), (⟨#[110, 111, 116]⟩ : ByteArray), (⟨#[109, 105, 110, 117, 115]⟩ : ByteArray), (⟨#[98, 111, 111, 108]⟩ : ByteArray), (⟨#[99, 97, 108, 108]⟩ : ByteArray), (⟨#[106, 117, 109, 112]⟩ : ByteArray), (⟨#[122, 101, 114, 111]⟩ : ByteArray), (⟨#[112, 111, 112]⟩ : ByteArray), (⟨#[115, 104, 111, 119]⟩ : ByteArray), (⟨#[101, 110, 100, 108]⟩ : ByteArray), (⟨#[100, 114, 111, 112]⟩ : ByteArray), (⟨#[110, 101, 120, 116]⟩ : ByteArray)]
theorem nms_len : (nms.length : Int) = 37 := rfl
def nm (a : Int) : ByteArray := rdOf ByteArray.empty nms a
theorem nm_sz (a : Int) : (nm a).size ≤ 10 := by
  unfold nm rdOf
  by_cases h : a.toNat < 37
  · have : ∀ i : Nat, i < 37 → (nms.getD i ByteArray.empty).size ≤ 10 := by decide
    exact this _ h
  · have : nms.getD a.toNat ByteArray.empty = ByteArray.empty := by
      have h37 : nms.length = 37 := rfl
      rw [List.getD_eq_getElem?_getD, List.getElem?_eq_none (by omega)]
      rfl
    rw [this]; decide
/-- What a place of a kind has: 1 a number in millionths, 2 a text, 3 a number, 4 a number and a text, 0 nothing. -/
def fm (a : Int) : Nat := if a = 1 then 1 else if a = 2 ∨ a = 24 ∨ a = 25 then 2 else if a = 29 then 4 else if (3 ≤ a ∧ a ≤ 8) ∨ a = 30 ∨ a = 31 ∨ a = 33 ∨ a = 35 then 3 else 0
def ft : Nat → ByteArray
  | 1 => ⟨#[100]⟩
  | 2 => ⟨#[115]⟩
  | 3 => ⟨#[110]⟩
  | 4 => ⟨#[110, 115]⟩
  | _ => ⟨#[]⟩
theorem in_i' (a lo hi : Int) : impl_in.f a lo hi = some (decide (lo ≤ a ∧ a ≤ hi)) := by
  unfold impl_in.f
  by_cases h : a ≥ lo
  · rw [if_pos h]; simp [h]
  · rw [if_neg h]; simp; omega
theorem in_s' (a lo hi : Int) : spec_l1In.f a lo hi = some (decide (lo ≤ a ∧ a ≤ hi)) := by
  unfold spec_l1In.f
  by_cases h : a ≥ lo
  · rw [if_pos h]; simp [h]
  · rw [if_neg h]; simp; omega
theorem name_i (a : Int) : impl_opName.fv a = if 1 ≤ a ∧ a ≤ 36 then some (nm a, ft (fm a)) else some ((⟨#[]⟩ : ByteArray), (⟨#[]⟩ : ByteArray)) := by
  rw [impl_opName.fv_eq]
  unfold nm
  have hl := nms_len
  change (some nms).bind _ = _
  generalize nms = L at *
  rw [Option.bind_some, hl, in_i', wrap_in (by omega) (by omega), Option.bind_some]
  by_cases h : 1 ≤ a ∧ a ≤ 36
  · rw [if_pos (by simpa using h), if_pos h]
    have p0 : 0 ≤ a := by omega
    have p1 : a < 37 := by omega
    unfold fm
    by_cases c1 : a = 1
    · rw [if_pos c1, if_pos p0, if_pos p1, if_pos c1]; rfl
    · rw [if_neg c1, if_neg c1]
      have e : (if a = 2 then impl_opName.j0v a L (⟨#[]⟩ : ByteArray) a (a == 2) else if a = 24 then impl_opName.j0v a L (⟨#[]⟩ : ByteArray) a (a == 24) else impl_opName.j0v a L (⟨#[]⟩ : ByteArray) a (a == 25)) = impl_opName.j0v a L (⟨#[]⟩ : ByteArray) a (decide (a = 2 ∨ a = 24 ∨ a = 25)) := by
        by_cases k2 : a = 2
        · subst k2; rfl
        · rw [if_neg k2]
          by_cases k24 : a = 24
          · subst k24; rfl
          · rw [if_neg k24]
            congr 1
            by_cases k25 : a = 25
            · subst k25; rfl
            · rw [beq_eq_false_iff_ne.2 k25]; exact (decide_eq_false (by omega)).symm
      rw [e, impl_opName.j0v_eq, hl]
      simp only [p0, p1, if_true]
      by_cases c2 : a = 2 ∨ a = 24 ∨ a = 25
      · rw [if_pos (decide_eq_true c2), if_pos c2]; rfl
      · rw [if_neg (by simpa using c2), if_neg c2]
        by_cases c29 : a = 29
        · rw [if_pos c29, if_pos c29]; rfl
        · rw [if_neg c29, if_neg c29]
          by_cases c3 : (3 ≤ a ∧ a ≤ 8) ∨ a = 30 ∨ a = 31 ∨ a = 33 ∨ a = 35
          · rw [if_pos c3]
            have : a = 3 ∨ a = 4 ∨ a = 5 ∨ a = 6 ∨ a = 7 ∨ a = 8 ∨ a = 30 ∨ a = 31 ∨ a = 33 ∨ a = 35 := by omega
            rcases this with rfl | rfl | rfl | rfl | rfl | rfl | rfl | rfl | rfl | rfl <;> rfl
          · rw [if_neg c3, if_neg (by omega), if_neg (by omega), if_neg (by omega), if_neg (by omega), if_neg (by omega), if_neg (by omega), if_neg (by omega), if_neg (by omega), if_neg (by omega), if_neg (by omega)]; rfl
  · rw [if_neg (by simpa using h), if_neg h]
theorem dig_any (b : Int) (h : b ≤ 9223372036854775807) : ∃ s : ByteArray, spec_l2Digits.fv b = some s ∧ strconv_Itoa.f (mx 0 b) = some s ∧ s.size ≤ 20 := by
  have hit : ∀ v : Nat, v ≤ 9223372036854775807 → strconv_Itoa.f (v : Int) = some (B (Lib.decDigits v)) := by
    intro v hv
    unfold strconv_Itoa.f
    rw [if_pos (by omega), Lib.itoa_nonneg]; rfl
  by_cases h0 : b ≤ 0
  · refine ⟨B (Lib.decDigits 0), ?_, ?_, by rw [B_size]; exact dec_len 0 (by omega)⟩
    · rw [spec_l2Digits.fv_eq, if_pos h0, Lib.decDigits_one (by omega)]; rfl
    · rw [show mx 0 b = ((0 : Nat) : Int) from by unfold mx; rw [if_neg (by omega)]; rfl]
      exact hit 0 (by omega)
  · obtain ⟨u, rfl⟩ := Int.eq_ofNat_of_zero_le (show 0 ≤ b by omega)
    refine ⟨B (Lib.decDigits u), digits_spec u (by omega), ?_, by rw [B_size]; exact dec_len u (by omega)⟩
    rw [show mx 0 (u : Int) = ((u : Nat) : Int) from by unfold mx; rw [if_pos (by omega)]]
    exact hit u (by omega)
theorem szc (a : UInt8) (l : List UInt8) : (⟨(a :: l).toArray⟩ : ByteArray).size = l.length + 1 := B_size (a :: l)
theorem szn : (⟨#[]⟩ : ByteArray).size = 0 := rfl
theorem okS {α : Type} {a : Nat} {x y : α} (h : a ≤ 9223372036854775807) : (if a ≤ 9223372036854775807 then x else y) = x := if_pos h
theorem dec_sz (b : Int) : (B (decText b)).size ≤ 60 := by
  rw [B_size]
  unfold decText
  split
  · have h1 := dec_len (b.natAbs / 1000000) (by omega)
    have h2 := dec_len (1000000 + b.natAbs % 1000000) (by omega)
    have h3 : (sgn b).length ≤ 1 := by unfold sgn; split <;> simp
    have h4 := trim_le ((Lib.decDigits (1000000 + b.natAbs % 1000000)).drop 1)
    rw [List.length_drop] at h4
    rw [List.length_append, List.length_append]
    split
    · simp; omega
    · simp only [List.length_append, List.length_cons, List.length_nil]; omega
  · simp
def opT (x d t c : ByteArray) : Nat → ByteArray
  | 1 => x ++ ((⟨#[32]⟩ : ByteArray) ++ d)
  | 2 => x ++ (((⟨#[32, 60]⟩ : ByteArray) ++ c) ++ (⟨#[62]⟩ : ByteArray))
  | 3 => x ++ ((⟨#[32]⟩ : ByteArray) ++ t)
  | 4 => (x ++ ((⟨#[32]⟩ : ByteArray) ++ t)) ++ (((⟨#[32, 60]⟩ : ByteArray) ++ c) ++ (⟨#[62]⟩ : ByteArray))
  | _ => x
/-- What stands behind a place's name. -/
theorem loop_i (x : ByteArray) (k : Nat) (a b : Int) (c t : ByteArray) (hx : x.size ≤ 100) (hc : c.size ≤ 1048576) (ht : strconv_Itoa.f (mx 0 b) = some t) (hts : t.size ≤ 20) :
    impl_OpText.l0v x (ft k) 0 a b c = some (opT x (B (decText b)) t c k) := by
  have hd := dec_sz b
  have c100 : ((100 : Nat) : Int) = 100 := rfl
  have c110 : ((110 : Nat) : Int) = 110 := rfl
  have c115 : ((115 : Nat) : Int) = 115 := rfl
  have e1 : Utf8.decode (⟨#[100]⟩ : ByteArray) 0 = (100, 1) := by decide
  have e2 : Utf8.decode (⟨#[115]⟩ : ByteArray) 0 = (115, 1) := by decide
  have e3 : Utf8.decode (⟨#[110]⟩ : ByteArray) 0 = (110, 1) := by decide
  have e4 : Utf8.decode (⟨#[110, 115]⟩ : ByteArray) 0 = (110, 1) := by decide
  have e5 : Utf8.decode (⟨#[110, 115]⟩ : ByteArray) 1 = (115, 1) := by decide
  have z1 : ∀ (y : ByteArray) (u : UInt8), impl_OpText.l0v y (⟨#[u]⟩ : ByteArray) 1 a b c = some y := fun y u => by rw [impl_OpText.l0v_eq, if_neg (by rw [szc]; simp)]
  have z2 : ∀ (y : ByteArray) (u v : UInt8), impl_OpText.l0v y (⟨#[u, v]⟩ : ByteArray) 2 a b c = some y := fun y u v => by rw [impl_OpText.l0v_eq, if_neg (by rw [szc]; simp)]
  match k with
  | 1 =>
    show impl_OpText.l0v x (⟨#[100]⟩ : ByteArray) 0 a b c = _
    rw [impl_OpText.l0v_eq, if_pos (by decide)]
    simp (disch := ((try simp only [ByteArray.size_append, szc, szn, List.length_cons, List.length_nil]); omega)) only [e1, c100, c110, c115, Int.reduceEq, ↓reduceIte, Nat.reduceAdd, Nat.zero_add, text_impl, ht, Option.bind_some, okS, z1]
    rfl
  | 2 =>
    show impl_OpText.l0v x (⟨#[115]⟩ : ByteArray) 0 a b c = _
    rw [impl_OpText.l0v_eq, if_pos (by decide)]
    simp (disch := ((try simp only [ByteArray.size_append, szc, szn, List.length_cons, List.length_nil]); omega)) only [e2, c100, c110, c115, Int.reduceEq, ↓reduceIte, Nat.reduceAdd, Nat.zero_add, text_impl, ht, Option.bind_some, okS, z1]
    rfl
  | 3 =>
    show impl_OpText.l0v x (⟨#[110]⟩ : ByteArray) 0 a b c = _
    rw [impl_OpText.l0v_eq, if_pos (by decide)]
    simp (disch := ((try simp only [ByteArray.size_append, szc, szn, List.length_cons, List.length_nil]); omega)) only [e3, c100, c110, c115, Int.reduceEq, ↓reduceIte, Nat.reduceAdd, Nat.zero_add, text_impl, ht, Option.bind_some, okS, z1]
    rfl
  | 4 =>
    show impl_OpText.l0v x (⟨#[110, 115]⟩ : ByteArray) 0 a b c = _
    rw [impl_OpText.l0v_eq, if_pos (by decide)]
    simp (disch := ((try simp only [ByteArray.size_append, szc, szn, List.length_cons, List.length_nil]); omega)) only [e4, c100, c110, c115, Int.reduceEq, ↓reduceIte, Nat.reduceAdd, Nat.zero_add, text_impl, ht, Option.bind_some, okS, z2]
    rw [impl_OpText.l0v_eq, if_pos (by decide)]
    simp (disch := ((try simp only [ByteArray.size_append, szc, szn, List.length_cons, List.length_nil]); omega)) only [e5, c100, c110, c115, Int.reduceEq, ↓reduceIte, Nat.reduceAdd, Nat.zero_add, text_impl, ht, Option.bind_some, okS, z2]
    rfl
  | 0 => show impl_OpText.l0v x (⟨#[]⟩ : ByteArray) 0 a b c = _; rw [impl_OpText.l0v_eq, if_neg (by decide)]; rfl
  | n + 5 => show impl_OpText.l0v x (⟨#[]⟩ : ByteArray) 0 a b c = _; rw [impl_OpText.l0v_eq, if_neg (by decide)]; rfl
theorem text_s (a b : Int) (c t : ByteArray) (hc : c.size ≤ 1048576) (ht : spec_l2Digits.fv b = some t) (hts : t.size ≤ 20) :
    spec_OpText.fv a b c = if 1 ≤ a ∧ a ≤ 36 then some (opT (nm a) (B (decText b)) t c (fm a)) else some (⟨#[]⟩ : ByteArray) := by
  have hz := nm_sz a
  have hd := dec_sz b
  have j2t : ∀ x : ByteArray, x.size ≤ 100 → spec_OpText.j2v x true a b c = some (x ++ (((⟨#[32, 60]⟩ : ByteArray) ++ c) ++ (⟨#[62]⟩ : ByteArray))) := fun x hx => by
    rw [spec_OpText.j2v_eq, if_pos rfl, okS (by rw [szc]; simp; omega), okS (by simp only [ByteArray.size_append, szc, List.length_cons, List.length_nil]; omega), okS (by simp only [ByteArray.size_append, szc, List.length_cons, List.length_nil]; omega)]
    simp only [ByteArray.append_assoc]
  have j0t : ∀ x : ByteArray, x.size ≤ 100 → spec_OpText.j0v x a b c = if a = 2 ∨ a = 24 ∨ a = 25 ∨ a = 29 then some (x ++ (((⟨#[32, 60]⟩ : ByteArray) ++ c) ++ (⟨#[62]⟩ : ByteArray))) else some x := fun x hx => by
    rw [spec_OpText.j0v_eq]
    by_cases k2 : a = 2
    · rw [if_pos k2, if_pos (.inl k2), j2t x hx]
    · rw [if_neg k2]
      by_cases k24 : a = 24
      · rw [if_pos k24, if_pos (by omega), j2t x hx]
      · rw [if_neg k24]
        by_cases k25 : a = 25
        · rw [if_pos k25, if_pos (by omega), j2t x hx]
        · rw [if_neg k25]
          by_cases k29 : a = 29
          · rw [beq_iff_eq.2 k29, if_pos (by omega), j2t x hx]
          · rw [beq_eq_false_iff_ne.2 k29, if_neg (by omega), spec_OpText.j2v_eq, if_neg (by simp)]
  have j1t : ∀ (x : ByteArray) (v : Bool), x.size ≤ 20 → spec_OpText.j1v x v a b c = spec_OpText.j0v (if v = true then x ++ ((⟨#[32]⟩ : ByteArray) ++ t) else x) a b c := fun x v hx => by
    rw [spec_OpText.j1v_eq]
    cases v
    · rw [if_neg (by simp), if_neg (by simp)]
    · rw [if_pos rfl, if_pos rfl, okS (by rw [szc]; simp; omega), ht, Option.bind_some, okS (by simp only [ByteArray.size_append, szc, List.length_cons, List.length_nil]; omega), ByteArray.append_assoc]
  rw [spec_OpText.fv_eq]
  unfold nm at *
  have hl := nms_len
  change (some nms).bind _ = _
  generalize nms = L at *
  rw [Option.bind_some, in_s', Option.bind_some]
  by_cases h : 1 ≤ a ∧ a ≤ 36
  · have p0 : 0 ≤ a := by omega
    have p1 : a < (L.length : Int) := by omega
    rw [if_pos (by simpa using h), if_pos h, if_pos p0, if_pos p1]
    generalize rdOf ByteArray.empty L a = x at *
    unfold fm
    by_cases c1 : a = 1
    · rw [if_pos c1, if_pos c1, okS (by rw [szc]; simp; omega), text_spec, Option.bind_some, okS (by simp only [ByteArray.size_append, szc, List.length_cons, List.length_nil]; omega), j0t _ (by simp only [ByteArray.size_append, szc, List.length_cons, List.length_nil]; omega), if_neg (by omega), ByteArray.append_assoc]; rfl
    · rw [if_neg c1, if_neg c1]
      have e : ∀ v : Bool, v = decide ((3 ≤ a ∧ a ≤ 8) ∨ a = 29 ∨ a = 30 ∨ a = 31 ∨ a = 33 ∨ a = 35) → spec_OpText.j1v x v a b c = some (opT x (B (decText b)) t c (if a = 2 ∨ a = 24 ∨ a = 25 then 2 else if a = 29 then 4 else if (3 ≤ a ∧ a ≤ 8) ∨ a = 30 ∨ a = 31 ∨ a = 33 ∨ a = 35 then 3 else 0)) := by
        intro v hv
        rw [j1t x v (by omega)]
        by_cases c2 : a = 2 ∨ a = 24 ∨ a = 25
        · rw [hv, decide_eq_false (by omega), if_neg (by simp), j0t _ (by omega), if_pos (by omega), if_pos c2]; rfl
        · rw [if_neg c2]
          by_cases c29 : a = 29
          · rw [hv, decide_eq_true (by omega), if_pos rfl, j0t _ (by simp only [ByteArray.size_append, szc, List.length_cons, List.length_nil]; omega), if_pos (by omega), if_pos c29]; rfl
          · rw [if_neg c29]
            by_cases c3 : (3 ≤ a ∧ a ≤ 8) ∨ a = 30 ∨ a = 31 ∨ a = 33 ∨ a = 35
            · rw [hv, decide_eq_true (by omega), if_pos rfl, j0t _ (by simp only [ByteArray.size_append, szc, List.length_cons, List.length_nil]; omega), if_neg (by omega), if_pos c3]; rfl
            · rw [hv, decide_eq_false (by omega), if_neg (by simp), j0t _ (by omega), if_neg (by omega), if_neg c3]; rfl
      by_cases k3 : a = 3
      · rw [if_pos k3]; exact e _ (by rw [beq_iff_eq.2 k3]; exact (decide_eq_true (by omega)).symm)
      rw [if_neg k3]
      by_cases k4 : a = 4
      · rw [if_pos k4]; exact e _ (by rw [beq_iff_eq.2 k4]; exact (decide_eq_true (by omega)).symm)
      rw [if_neg k4]
      by_cases k5 : a = 5
      · rw [if_pos k5]; exact e _ (by rw [beq_iff_eq.2 k5]; exact (decide_eq_true (by omega)).symm)
      rw [if_neg k5]
      by_cases k6 : a = 6
      · rw [if_pos k6]; exact e _ (by rw [beq_iff_eq.2 k6]; exact (decide_eq_true (by omega)).symm)
      rw [if_neg k6]
      by_cases k7 : a = 7
      · rw [if_pos k7]; exact e _ (by rw [beq_iff_eq.2 k7]; exact (decide_eq_true (by omega)).symm)
      rw [if_neg k7]
      by_cases k8 : a = 8
      · rw [if_pos k8]; exact e _ (by rw [beq_iff_eq.2 k8]; exact (decide_eq_true (by omega)).symm)
      rw [if_neg k8]
      by_cases k35 : a = 35
      · rw [if_pos k35]; exact e _ (by rw [beq_iff_eq.2 k35]; exact (decide_eq_true (by omega)).symm)
      rw [if_neg k35]
      by_cases k29 : a = 29
      · rw [if_pos k29]; exact e _ (by rw [beq_iff_eq.2 k29]; exact (decide_eq_true (by omega)).symm)
      rw [if_neg k29]
      by_cases k30 : a = 30
      · rw [if_pos k30]; exact e _ (by rw [beq_iff_eq.2 k30]; exact (decide_eq_true (by omega)).symm)
      rw [if_neg k30]
      by_cases k31 : a = 31
      · rw [if_pos k31]; exact e _ (by rw [beq_iff_eq.2 k31]; exact (decide_eq_true (by omega)).symm)
      rw [if_neg k31]
      by_cases k33 : a = 33
      · exact e _ (by rw [beq_iff_eq.2 k33]; exact (decide_eq_true (by omega)).symm)
      · exact e _ (by rw [beq_eq_false_iff_ne.2 k33]; exact (decide_eq_false (by omega)).symm)
  · rw [if_neg (by simpa using h), if_neg h]
theorem optext_both (a b : Int) (c : ByteArray) (hb : b ≤ 9223372036854775807) (hc : c.size ≤ 1048576) : ∃ s, spec_OpText.fv a b c = some s ∧ impl_OpText.fv a b c = some s := by
  obtain ⟨t, t1, t2, t3⟩ := dig_any b hb
  rw [text_s a b c t hc t1 t3, impl_OpText.fv_eq, name_i]
  by_cases h : 1 ≤ a ∧ a ≤ 36
  · rw [if_pos h, if_pos h, Option.bind_some, loop_i (nm a) (fm a) a b c t (by have := nm_sz a; omega) hc t2 t3]
    exact ⟨_, rfl, rfl⟩
  · rw [if_neg h, if_neg h, Option.bind_some]
    refine ⟨_, rfl, ?_⟩
    have := loop_i (⟨#[]⟩ : ByteArray) 0 a b c t (by decide) hc t2 t3
    exact this
end FnExactOpTextAid
open FnExactOpTextAid

theorem FnExactOpText : laws_FnExactOpText.Pure := by
  intro x hx
  obtain ⟨_, h1, h2⟩ := hx
  have h1 := wf64 h1
  have h2 := len_le h2
  rw [laws_FnExactOpText.fv_eq]
  unfold laws_szOp.f
  rw [FnExactOpTextAid.wrap_in (by omega) (by omega)]
  by_cases h : 1048576 - (x.f2.size : Int) < 0
  · rw [if_pos h, Option.bind_some, if_pos (by omega)]
  · obtain ⟨s, e1, e2⟩ := optext_both x.f0 x.f1 x.f2 (by omega) (by omega)
    rw [if_neg h, Option.bind_some, if_neg h]
    unfold laws_toOp.f
    simp only [Option.bind_some, e1, e2]
    rw [if_pos trivial]

end Go.Proofs.YthgglepiopijjaaDoor.Pure
