/- A drawn number that is shown looks like it; what looks like a number is right. -/
import Derived.Test.YtejndaljfbclnaaDoorQFnNumbersx3
import Derived.Test.YtejndaljfbclnaaDoorLim
import Derived.Lib.ItoaLen
namespace Go.Proofs.YtejndaljfbclnaaDoor.Pure
open Go.RowKit Go.Proofs.YtejndaljfbclnaaDoor.QFnNumbers Go.Proofs.YtejndaljfbclnaaDoorW.PrintWords Go.Proofs.YtejndaljfbclnaaDoorW.PrintLast Go.Proofs.YtejndaljfbclnaaDoorW.PrintMore Go.Proofs.YtejndaljfbclnaaDoorW.Lims
namespace FnNumbersAid

/-! ### texts as rows of bytes -/
def B (l : List UInt8) : ByteArray := ⟨l.toArray⟩
theorem B_self (s : ByteArray) : B s.data.toList = s := by cases s; simp [B]
theorem B_size (l : List UInt8) : (B l).size = l.length := by show l.toArray.size = l.length; simp
theorem B_data (l : List UInt8) : (B l).data.toList = l := by simp [B]
theorem B_append (a b : List UInt8) : B a ++ B b = B (a ++ b) := by
  apply ByteArray.ext
  rw [ByteArray.data_append]
  simp [B]
theorem B_inj {a b : List UInt8} (h : B a = B b) : a = b := by
  have := congrArg (fun s : ByteArray => s.data.toList) h
  simpa [B] using this
theorem B_extract (l : List UInt8) (i j : Nat) : (B l).extract i j = B ((l.drop i).take (j - i)) := by rw [Lib.extract_eq, B_data]; rfl
theorem B_toList (l : List UInt8) : (B l).toList = l := by rw [Lib.toList_data, B_data]
theorem B_bt (l : List UInt8) (i : Nat) (h : i < l.length) : bt (B l) (i : Int) = (l[i].toNat : Int) := by
  have h' : (i : Int).toNat < (B l).size := by rw [Int.toNat_natCast, B_size]; exact h
  rw [← bt_at (B l) i h']
  rfl
theorem wrap_in {n : Int} (h0 : -9223372036854775808 ≤ n) (h1 : n ≤ 9223372036854775807) : wrap64 n = n := by unfold wrap64; omega
theorem byte_is (b c : UInt8) (n : Int) (hc : (c.toNat : Int) = n) : ((b.toNat : Int) = n) ↔ b = c := by
  rw [← UInt8.toNat_inj, ← hc]; omega
theorem byte_ofNat (n : Nat) (h : n < 256) : (UInt8.ofNat n).toNat = n := by rw [UInt8.toNat_ofNat']; omega

/-! ### decimal digits -/
theorem dig_one (n : Int) (h0 : 0 ≤ n) (h1 : n ≤ 9223372036854775807) : strOfNums [(wrap64 (48 + Int.tmod n 10)) % 256] = B [UInt8.ofNat (48 + n.toNat % 10)] := by
  have e : (wrap64 (48 + Int.tmod n 10)) % 256 = ((48 + n.toNat % 10 : Nat) : Int) := by
    rw [Int.tmod_eq_emod_of_nonneg h0, wrap_in (by omega) (by omega)]
    omega
  rw [e]
  rfl
theorem digits_loop (u : Nat) : ∀ acc : List UInt8, 1 ≤ u → u ≤ 9223372036854775807 → acc.length + Lib.nDigits u ≤ 1000 → spec_l2Digits.l0v (u : Int) (B acc) = some (B (Lib.decDigits u ++ acc)) := by
  induction u using Nat.strongRecOn with
  | _ u ih =>
    intro acc h1 h2 h3
    rw [spec_l2Digits.l0v_eq, if_pos (by omega)]
    simp only [Option.bind_some]
    rw [dig_one _ (by omega) (by omega), B_append, Int.toNat_natCast, Int.tdiv_eq_ediv_of_nonneg (by omega), wrap_in (by omega) (by omega)]
    rw [if_pos (by rw [B_size, B_size]; have := Lib.nDigits_pos u; simp; omega)]
    rw [show ((u : Int) / 10) = ((u / 10 : Nat) : Int) by omega]
    by_cases h : u < 10
    · rw [show u / 10 = 0 by omega, spec_l2Digits.l0v_eq, if_neg (by simp)]
      rw [Lib.decDigits_one h, Nat.mod_eq_of_lt h]
    · rw [ih (u / 10) (by omega) _ (by omega) (by omega) (by rw [Lib.nDigits_big h] at h3; simp; omega)]
      rw [Lib.decDigits.eq_def u, dif_neg h]
      simp
theorem digits_spec (u : Nat) (h : u ≤ 9223372036854775807) : spec_l2Digits.fv (u : Int) = some (B (Lib.decDigits u)) := by
  rw [spec_l2Digits.fv_eq]
  by_cases h0 : u = 0
  · subst h0
    rw [if_pos (by simp), Lib.decDigits_one (by omega)]
    rfl
  · rw [if_neg (by omega), show (⟨#[]⟩ : ByteArray) = B [] from rfl, digits_loop u [] (by omega) h (by have := Lib.nDigits_le20 u (by omega); simp; omega)]
    simp
theorem seven (u : Nat) (h0 : 1000000 ≤ u) (h1 : u < 2000000) : Lib.decDigits u = [49, UInt8.ofNat (48 + u / 100000 % 10), UInt8.ofNat (48 + u / 10000 % 10), UInt8.ofNat (48 + u / 1000 % 10), UInt8.ofNat (48 + u / 100 % 10), UInt8.ofNat (48 + u / 10 % 10), UInt8.ofNat (48 + u % 10)] := by
  rw [Lib.decDigits.eq_def, dif_neg (by omega), Lib.decDigits.eq_def, dif_neg (by omega), Lib.decDigits.eq_def, dif_neg (by omega), Lib.decDigits.eq_def, dif_neg (by omega), Lib.decDigits.eq_def, dif_neg (by omega), Lib.decDigits.eq_def, dif_neg (by omega), Lib.decDigits_one (by omega)]
  simp only [Nat.div_div_eq_div_mul]
  rw [show u / (10 * 10 * 10 * 10 * 10 * 10) = 1 by omega]
  rfl
theorem rest_any (r : Nat) (h0 : 0 < r) (h1 : r < 1000000) : ∃ b ∈ (Lib.decDigits (1000000 + r)).drop 1, b ≠ 48 := by
  rw [seven _ (by omega) (by omega)]
  simp only [List.drop_succ_cons, List.drop_zero]
  apply Classical.byContradiction
  intro hn
  have hz : ∀ k : Nat, k < 10 → UInt8.ofNat (48 + k) = 48 → k = 0 := by
    intro k hk e
    have := congrArg UInt8.toNat e
    rw [byte_ofNat _ (by omega)] at this
    have h48 : (48 : UInt8).toNat = 48 := rfl
    omega
  have hall : ∀ b ∈ [UInt8.ofNat (48 + (1000000 + r) / 100000 % 10), UInt8.ofNat (48 + (1000000 + r) / 10000 % 10), UInt8.ofNat (48 + (1000000 + r) / 1000 % 10), UInt8.ofNat (48 + (1000000 + r) / 100 % 10), UInt8.ofNat (48 + (1000000 + r) / 10 % 10), UInt8.ofNat (48 + (1000000 + r) % 10)], b = 48 := fun b hb => Classical.byContradiction fun e => hn ⟨b, hb, e⟩
  have a1 := hz _ (by omega) (hall (UInt8.ofNat (48 + (1000000 + r) / 100000 % 10)) (by simp))
  have a2 := hz _ (by omega) (hall (UInt8.ofNat (48 + (1000000 + r) / 10000 % 10)) (by simp))
  have a3 := hz _ (by omega) (hall (UInt8.ofNat (48 + (1000000 + r) / 1000 % 10)) (by simp))
  have a4 := hz _ (by omega) (hall (UInt8.ofNat (48 + (1000000 + r) / 100 % 10)) (by simp))
  have a5 := hz _ (by omega) (hall (UInt8.ofNat (48 + (1000000 + r) / 10 % 10)) (by simp))
  have a6 := hz _ (by omega) (hall (UInt8.ofNat (48 + (1000000 + r) % 10)) (by simp))
  omega

/-! ### noughts at the end fall away -/
def sgn (x : Int) : List UInt8 := if x < 0 then [45] else []
theorem trim_snoc (t : List UInt8) (b : UInt8) : Lib.trimRightB (t ++ [b]) 48 = if b = 48 then Lib.trimRightB t 48 else t ++ [b] := by
  unfold Lib.trimRightB
  rw [List.reverse_append, List.reverse_singleton, List.singleton_append, List.dropWhile_cons]
  by_cases h : b = 48
  · simp [h]
  · rw [if_neg (by simpa using h), if_neg h]; simp
theorem trim_le (t : List UInt8) : (Lib.trimRightB t 48).length ≤ t.length := by
  unfold Lib.trimRightB
  rw [List.length_reverse]
  exact Nat.le_trans (List.dropWhile_sublist _).length_le (by simp)
theorem strip (x0 : Int) (a : List UInt8) (ha : a.length ≤ 1000) (n : Nat) : ∀ t : List UInt8, t.length = n → t.length ≤ 1000 → (∃ b ∈ t, b ≠ 48) → spec_DecText.l0v x0 (B a) (B t) = some (B (sgn x0 ++ (a ++ [46] ++ Lib.trimRightB t 48))) := by
  induction n with
  | zero =>
    intro t h1 _ ⟨b, hb, _⟩
    rw [List.eq_nil_of_length_eq_zero h1] at hb
    simp at hb
  | succ n ih =>
    intro t h1 h2 h3
    obtain ⟨t, b, rfl⟩ : ∃ t' b, t = t' ++ [b] := ⟨t.dropLast, t.getLast (by intro e; rw [e] at h1; simp at h1), (List.dropLast_concat_getLast _).symm⟩
    have hl : t.length = n := by simpa using h1
    have e1 : wrap64 (((B (t ++ [b])).size : Int) - 1) = (n : Int) := by rw [B_size]; simp; rw [wrap_in (by omega) (by omega)]; omega
    have e2 : bt (B (t ++ [b])) (n : Int) = (b.toNat : Int) := by
      rw [B_bt _ n (by simp; omega)]
      subst hl; simp
    rw [spec_DecText.l0v_eq, e1, e2, if_pos (by omega), if_pos (by rw [B_size]; simp; omega), trim_snoc]
    have hb := byte_is b 48 48 rfl
    by_cases h : b = 48
    · rw [if_pos (hb.2 h), if_pos (by rw [B_size]; simp; omega), if_pos h, B_extract]
      have e3 : (List.drop 0 (t ++ [b])).take (((n : Int)).toNat - 0) = t := by subst hl; simp
      rw [e3]
      refine ih t hl (by simp at h2; omega) ?_
      obtain ⟨c, hc, hc2⟩ := h3
      rcases List.mem_append.1 hc with hc | hc
      · exact ⟨c, hc, hc2⟩
      · rw [List.mem_singleton] at hc; exact absurd (hc.trans h) hc2
    · rw [if_neg (fun e => h (hb.1 e)), if_neg h, show (⟨#[46]⟩ : ByteArray) = B [46] from rfl, show (⟨#[45]⟩ : ByteArray) = B [45] from rfl]
      simp only [B_append, B_size]
      rw [if_pos (by omega), if_pos (by simp; simp at h2; omega)]
      by_cases hx : x0 < 0
      · rw [if_pos hx, if_pos (by simp; simp at h2; omega)]; simp [sgn, hx]
      · rw [if_neg hx]; simp [sgn, hx]

/-! ### both texts -/
theorem decok_spec (a : Int) : spec_DecOk.f a = some (decide (-9000000000000 ≤ a ∧ a ≤ 9000000000000)) := by
  unfold spec_DecOk.f spec_l1In.f
  by_cases h : a ≥ -9000000000000
  · rw [if_pos h]; simp [h]
  · rw [if_neg h]; simp; omega
theorem decok_impl (a : Int) : impl_DecOk.f a = some (decide (-9000000000000 ≤ a ∧ a ≤ 9000000000000)) := by
  unfold impl_DecOk.f impl_in.f
  by_cases h : a ≥ -9000000000000
  · rw [if_pos h]; simp [h]
  · rw [if_neg h]; simp; omega
/-- The text of a number that is right: sign, whole part, and what stands behind the point. -/
def decText (a : Int) : List UInt8 := if -9000000000000 ≤ a ∧ a ≤ 9000000000000 then sgn a ++ (Lib.decDigits (a.natAbs / 1000000) ++ if a.natAbs % 1000000 = 0 then [] else [46] ++ Lib.trimRightB ((Lib.decDigits (1000000 + a.natAbs % 1000000)).drop 1) 48) else []
theorem dec_len (u : Nat) (h : u ≤ 9223372036854775807) : (Lib.decDigits u).length ≤ 20 := by rw [Lib.decDigits_length]; exact Lib.nDigits_le20 u (by omega)
theorem text_spec (a : Int) : spec_DecText.fv a = some (B (decText a)) := by
  rw [spec_DecText.fv_eq, decok_spec, Option.bind_some]
  unfold decText
  by_cases h : -9000000000000 ≤ a ∧ a ≤ 9000000000000
  · rw [if_pos (by simpa using h), if_pos h]
    have e0 : spec_l1Abs.f a = some ((a.natAbs : Nat) : Int) := by
      unfold spec_l1Abs.f
      by_cases hn : a < 0
      · rw [if_pos hn, wrap_in (by omega) (by omega)]; congr 1; omega
      · rw [if_neg hn]; congr 1; omega
    rw [e0, Option.bind_some, Int.tdiv_eq_ediv_of_nonneg (by omega), Int.tmod_eq_emod_of_nonneg (by omega), wrap_in (by omega) (by omega)]
    generalize hu : a.natAbs = u
    have hu2 : u ≤ 9000000000000 := by omega
    rw [show ((u : Int) / 1000000) = ((u / 1000000 : Nat) : Int) by omega, digits_spec _ (by omega), Option.bind_some]
    have hd := dec_len (u / 1000000) (by omega)
    by_cases hr : u % 1000000 = 0
    · rw [if_neg (by omega), if_pos hr, List.append_nil, B_size, show (⟨#[45]⟩ : ByteArray) = B [45] from rfl, B_append]
      by_cases hn : a < 0
      · rw [if_pos hn, if_pos (by omega)]; simp [sgn, hn]
      · rw [if_neg hn]; simp [sgn, hn]
    · rw [if_pos (by omega), if_neg hr, wrap_in (by omega) (by omega), show (1000000 + (u : Int) % 1000000) = ((1000000 + u % 1000000 : Nat) : Int) by omega, digits_spec _ (by omega), Option.bind_some]
      have hd2 := dec_len (1000000 + u % 1000000) (by omega)
      rw [B_size, if_pos (by rw [seven _ (by omega) (by omega)]; simp), B_extract]
      rw [List.take_of_length_le (by simp)]
      rw [strip a _ (by omega) _ _ rfl (by simp; omega) (rest_any _ (by omega) (by omega))]
      simp
  · rw [if_neg (by simpa using h), if_neg h]; rfl
theorem text_impl (a : Int) : impl_DecText.fv a = some (B (decText a)) := by
  rw [impl_DecText.fv_eq, decok_impl, Option.bind_some]
  unfold decText
  by_cases h : -9000000000000 ≤ a ∧ a ≤ 9000000000000
  · rw [if_pos (by simpa using h), if_pos h]
    have key : ∀ (u : Nat) (s : List UInt8), u ≤ 9000000000000 → s.length ≤ 10 → impl_DecText.j0v (u : Int) (B s) = some (B (s ++ (Lib.decDigits (u / 1000000) ++ if u % 1000000 = 0 then [] else [46] ++ Lib.trimRightB ((Lib.decDigits (1000000 + u % 1000000)).drop 1) 48))) := by
      intro u s hu hs
      have hit : ∀ v : Nat, v ≤ 9223372036854775807 → strconv_Itoa.f (v : Int) = some (B (Lib.decDigits v)) := by
        intro v hv
        unfold strconv_Itoa.f
        rw [if_pos (by omega), Lib.itoa_nonneg]; rfl
      have hd := dec_len (u / 1000000) (by omega)
      rw [impl_DecText.j0v_eq, Int.tdiv_eq_ediv_of_nonneg (by omega), Int.tmod_eq_emod_of_nonneg (by omega), wrap_in (by omega) (by omega), show ((u : Int) / 1000000) = ((u / 1000000 : Nat) : Int) by omega, hit _ (by omega), Option.bind_some]
      rw [if_pos (by rw [B_size, B_size]; omega)]
      by_cases hr : u % 1000000 = 0
      · rw [if_neg (by omega), if_pos hr, List.append_nil, B_append]
      · rw [if_pos (by omega), if_neg hr, wrap_in (by omega) (by omega), show (1000000 + (u : Int) % 1000000) = ((1000000 + u % 1000000 : Nat) : Int) by omega, hit _ (by omega), Option.bind_some]
        have hd2 := dec_len (1000000 + u % 1000000) (by omega)
        rw [B_size, if_pos (by rw [seven _ (by omega) (by omega)]; simp), B_extract, List.take_of_length_le (by simp)]
        generalize ht : (Lib.decDigits (1000000 + u % 1000000)).drop 1 = t
        have ht2 : t.length ≤ 20 := by rw [← ht]; simp; omega
        have htr : strings_TrimRight.f (B t) (⟨#[48]⟩ : ByteArray) = some (B (Lib.trimRightB t 48)) := by
          unfold strings_TrimRight.f
          simp only [B_data, B_size]
          rw [if_pos ⟨by decide, by omega⟩]; rfl
        have := trim_le t
        rw [htr, Option.bind_some, show (⟨#[46]⟩ : ByteArray) = B [46] from rfl]
        simp only [B_append, B_size]
        rw [if_pos (by omega), if_pos (by simp; omega)]
        simp
    by_cases hn : a < 0
    · rw [if_pos hn, wrap_in (by omega) (by omega), show (-a) = ((a.natAbs : Nat) : Int) by omega, show (⟨#[45]⟩ : ByteArray) = B [45] from rfl, key _ _ (by omega) (by simp)]
      simp [sgn, hn]
    · rw [if_neg hn, show (⟨#[]⟩ : ByteArray) = B [] from rfl]
      have e : a = ((a.natAbs : Nat) : Int) := by omega
      have k2 := key a.natAbs [] (by omega) (by simp)
      rw [← e] at k2
      rw [k2]
      simp [sgn, hn]
  · rw [if_neg (by simpa using h), if_neg h]; rfl

/-! ### rows of digits -/
def isD (b : UInt8) : Bool := decide (48 ≤ b.toNat) && decide (b.toNat ≤ 57)
def run (l : List UInt8) (i : Nat) : List UInt8 := (l.drop i).takeWhile isD
theorem run_end (l : List UInt8) (i : Nat) (h : l.length ≤ i) : run l i = [] := by unfold run; rw [List.drop_eq_nil_of_le h]; rfl
theorem run_step (l : List UInt8) (i : Nat) (h : i < l.length) : run l i = if isD l[i] then l[i] :: run l (i + 1) else [] := by
  unfold run
  rw [List.drop_eq_getElem_cons h, List.takeWhile_cons]
theorem run_le (l : List UInt8) (i : Nat) (h : i ≤ l.length) : i + (run l i).length ≤ l.length := by
  have h1 : (run l i).length ≤ (l.drop i).length := (List.takeWhile_sublist _).length_le
  rw [List.length_drop] at h1; omega
theorem run_all (l : List UInt8) (i : Nat) : ∀ b ∈ run l i, isD b = true := fun b hb => by
  have := List.all_takeWhile (p := isD) (l := l.drop i)
  exact List.all_eq_true.1 this b hb
theorem run_take (l : List UInt8) (i : Nat) : (l.drop i).take (run l i).length = run l i := by
  have := List.prefix_iff_eq_take.1 (List.takeWhile_prefix isD (l := l.drop i))
  exact this.symm
theorem isD_iff (b : UInt8) : isD b = true ↔ 48 ≤ b.toNat ∧ b.toNat ≤ 57 := by unfold isD; simp
theorem dig_spec (b : UInt8) : spec_l2Digit.f (b.toNat : Int) = some (isD b) := by
  unfold spec_l2Digit.f isD
  by_cases h : 48 ≤ b.toNat
  · rw [if_pos (by omega)]; simp [h]; omega
  · rw [if_neg (by omega)]; simp [h]
def acc (n : Int) : List UInt8 → Int
  | [] => n
  | b :: r => acc (if n ≤ 9000000000000 then 10 * n + ((b.toNat : Int) - 48) * 1000000 else n) r
def fr (n u : Int) : List UInt8 → Int
  | [] => n
  | b :: r => fr (n + ((b.toNat : Int) - 48) * u) (u / 10) r
def val (a : Nat) : List UInt8 → Nat
  | [] => a
  | b :: r => val (a * 10 + (b.toNat - 48)) r
theorem acc_bd (l : List UInt8) : ∀ n : Int, (∀ b ∈ l, isD b = true) → 0 ≤ n → n ≤ 100000000000000 → 0 ≤ acc n l ∧ acc n l ≤ 100000000000000 := by
  induction l with
  | nil => intro n _ h0 h1; exact ⟨h0, h1⟩
  | cons b r ih =>
    intro n hl h0 h1
    have hb := (isD_iff b).1 (hl b List.mem_cons_self)
    refine ih _ (fun c hc => hl c (List.mem_cons_of_mem _ hc)) ?_ ?_ <;> split <;> omega
theorem acc_stop (l : List UInt8) : ∀ n : Int, 9000000000000 < n → acc n l = n := by
  induction l with
  | nil => intro n _; rfl
  | cons b r ih => intro n h; unfold acc; rw [if_neg (by omega)]; exact ih n h
theorem val_ge (l : List UInt8) : ∀ a : Nat, a ≤ val a l := by
  induction l with
  | nil => intro a; exact Nat.le_refl _
  | cons b r ih => intro a; unfold val; exact Nat.le_trans (by omega) (ih _)
theorem acc_val (l : List UInt8) : ∀ v : Nat, (∀ b ∈ l, isD b = true) → v ≤ 9000000 → (val v l ≤ 9000000 → acc ((v : Int) * 1000000) l = (val v l : Int) * 1000000) ∧ (9000000 < val v l → 9000000000000 < acc ((v : Int) * 1000000) l) := by
  induction l with
  | nil => intro v _ h; exact ⟨fun _ => rfl, fun h2 => by unfold val at h2; omega⟩
  | cons b r ih =>
    intro v hl h
    have hb := (isD_iff b).1 (hl b List.mem_cons_self)
    unfold acc val
    rw [if_pos (by omega), show 10 * ((v : Int) * 1000000) + ((b.toNat : Int) - 48) * 1000000 = ((v * 10 + (b.toNat - 48) : Nat) : Int) * 1000000 by omega]
    generalize hv : v * 10 + (b.toNat - 48) = v2
    by_cases h2 : v2 ≤ 9000000
    · exact ih v2 (fun c hc => hl c (List.mem_cons_of_mem _ hc)) h2
    · have := val_ge r v2
      refine ⟨fun h3 => by omega, fun _ => ?_⟩
      rw [acc_stop _ _ (by omega)]; omega
theorem fr_add (l : List UInt8) : ∀ n u : Int, fr n u l = n + fr 0 u l := by
  induction l with
  | nil => intro n u; simp [fr]
  | cons b r ih =>
    intro n u
    unfold fr
    rw [ih (n + _), ih (0 + _)]; omega
theorem fr_bd (l : List UInt8) : ∀ u : Int, (∀ b ∈ l, isD b = true) → 0 ≤ u → 0 ≤ fr 0 u l ∧ fr 0 u l ≤ 10 * u := by
  induction l with
  | nil => intro u _ h; unfold fr; omega
  | cons b r ih =>
    intro u hl h
    have hb := (isD_iff b).1 (hl b List.mem_cons_self)
    unfold fr
    rw [fr_add]
    have := ih (u / 10) (fun c hc => hl c (List.mem_cons_of_mem _ hc)) (by omega)
    obtain ⟨d, hd, hd2⟩ : ∃ d : Nat, (b.toNat : Int) - 48 = d ∧ d ≤ 9 := ⟨b.toNat - 48, by omega, by omega⟩
    rw [hd]
    have hm : (d : Int) * u ≤ 9 * u := Int.mul_le_mul_of_nonneg_right (by omega) h
    have hm0 : 0 ≤ (d : Int) * u := Int.mul_nonneg (by omega) h
    omega

/-! ### the reference's loops -/
theorem spec_l1 (l : List UInt8) (hl : l.length ≤ 1048576) (neg : Bool) (d : Nat) : ∀ (i : Nat) (n many : Int), l.length - i ≤ d → i ≤ l.length → 0 ≤ n → n ≤ 100000000000000 → 0 ≤ many → many + (l.length - i : Nat) ≤ 2000000 →
    spec_DecFront.l1v (B l) (i : Int) neg n many = spec_DecFront.j6v (B l) ((i + (run l i).length : Nat) : Int) neg (acc n (run l i)) (many + ((run l i).length : Int)) false := by
  induction d with
  | zero =>
    intro i n many h1 h2 _ _ _ _
    rw [spec_DecFront.l1v_eq, if_neg (by rw [B_size]; omega), run_end l i (by omega)]
    simp [acc]
  | succ d ih =>
    intro i n many h1 h2 h3 h4 h5 h6
    rw [spec_DecFront.l1v_eq]
    by_cases h : i < l.length
    · rw [if_pos (by rw [B_size]; omega), if_pos (by omega), B_bt l i h, dig_spec, Option.bind_some, run_step l i h]
      by_cases hd : isD l[i] = true
      · have hb := (isD_iff _).1 hd
        rw [hd, if_pos rfl, spec_DecFront.j6v_eq, if_pos rfl]
        have e1 : wrap64 ((i : Int) + 1) = ((i + 1 : Nat) : Int) := by rw [wrap_in (by omega) (by omega)]; omega
        have e2 : wrap64 (many + 1) = many + 1 := wrap_in (by omega) (by omega)
        by_cases hn : n ≤ 9000000000000
        · rw [if_pos hn, if_pos (by omega), if_pos (by rw [B_size]; omega), B_bt l i h, e1, e2, wrap_in (n := ((l[i].toNat : Nat) : Int)) (by omega) (by omega), wrap_in (n := 10 * n) (by omega) (by omega), wrap_in (n := (l[i].toNat : Int) - 48) (by omega) (by omega), wrap_in (n := ((l[i].toNat : Int) - 48) * 1000000) (by omega) (by omega), wrap_in (by omega) (by omega)]
          rw [ih (i + 1) _ _ (by omega) (by omega) (by omega) (by omega) (by omega) (by omega)]
          simp only [List.length_cons, acc, if_pos hn]
          congr 1 <;> omega
        · rw [if_neg hn, e1, e2, ih (i + 1) _ _ (by omega) (by omega) (by omega) (by omega) (by omega) (by omega)]
          simp only [List.length_cons, acc, if_neg hn]
          congr 1 <;> omega
      · rw [Bool.not_eq_true] at hd
        rw [hd]
        simp [acc]
    · rw [if_neg (by rw [B_size]; omega), run_end l i (by omega)]
      simp [acc]
theorem spec_l2 (l : List UInt8) (hl : l.length ≤ 1048576) (neg : Bool) (d : Nat) : ∀ (i : Nat) (n many u : Int), l.length - i ≤ d → i ≤ l.length → 0 ≤ n → 0 ≤ u → u ≤ 100000 → n + 10 * u ≤ 200000000000000 → 0 ≤ many → many + (l.length - i : Nat) ≤ 4000000 →
    spec_DecFront.l2v (B l) (i : Int) neg n many u = spec_DecFront.j9v ((i + (run l i).length : Nat) : Int) neg (fr n u (run l i)) (many + ((run l i).length : Int)) := by
  induction d with
  | zero =>
    intro i n many u h1 h2 _ _ _ _ _ _
    rw [spec_DecFront.l2v_eq, if_neg (by rw [B_size]; omega), run_end l i (by omega)]
    simp [fr]
  | succ d ih =>
    intro i n many u h1 h2 h3 h4 h5 h6 h7 h8
    rw [spec_DecFront.l2v_eq]
    by_cases h : i < l.length
    · rw [if_pos (by rw [B_size]; omega), if_pos (by omega), B_bt l i h, dig_spec, Option.bind_some, run_step l i h]
      by_cases hd : isD l[i] = true
      · have hb := (isD_iff _).1 hd
        rw [hd, if_pos rfl, if_pos rfl]
        obtain ⟨q, hq, hq2⟩ : ∃ q : Nat, (l[i].toNat : Int) - 48 = q ∧ q ≤ 9 := ⟨l[i].toNat - 48, by omega, by omega⟩
        have hm : (q : Int) * u ≤ 9 * u := Int.mul_le_mul_of_nonneg_right (by omega) h4
        have hm0 : 0 ≤ (q : Int) * u := Int.mul_nonneg (by omega) h4
        rw [show wrap64 ((i : Int) + 1) = ((i + 1 : Nat) : Int) by rw [wrap_in (by omega) (by omega)]; omega, wrap_in (n := many + 1) (by omega) (by omega), wrap_in (n := ((l[i].toNat : Nat) : Int)) (by omega) (by omega), hq, wrap_in (n := (q : Int)) (by omega) (by omega), wrap_in (n := (q : Int) * u) (by omega) (by omega), wrap_in (n := n + (q : Int) * u) (by omega) (by omega), Int.tdiv_eq_ediv_of_nonneg h4, wrap_in (n := u / 10) (by omega) (by omega)]
        rw [ih (i + 1) _ _ _ (by omega) (by omega) (by omega) (by omega) (by omega) (by omega) (by omega) (by omega)]
        simp only [List.length_cons, fr, hq]
        congr 1 <;> omega
      · rw [Bool.not_eq_true] at hd
        rw [hd]
        simp [fr]
    · rw [if_neg (by rw [B_size]; omega), run_end l i (by omega)]
      simp [fr]

/-! ### what both come to, behind blanks and sign -/
def restOf (l : List UInt8) (e : Nat) : List UInt8 := if l[e]? = some 46 then run l (e + 1) else []
def tailOf (l : List UInt8) (q : Nat) (neg : Bool) : Int × Int :=
  let ws := run l q; let e := q + ws.length; let rs := restOf l e
  if ws = [] ∧ rs = [] then (0, 0) else
  let n : Int := (val 0 ws : Int) * 1000000 + fr 0 100000 rs
  if n ≤ 9000000000000 then (if neg then -n else n, ((if rs = [] then e else e + 1 + rs.length : Nat) : Int)) else (0, 0)
theorem spec_j9 (e : Nat) (neg : Bool) (n many : Int) (_he : e ≤ 2000000) (h0 : 0 ≤ n) (h1 : n ≤ 200000000000000) : spec_DecFront.j9v (e : Int) neg n many = some (if many = 0 then (0, 0) else if n ≤ 9000000000000 then (if neg then -n else n, (e : Int)) else (0, 0)) := by
  rw [spec_DecFront.j9v_eq]
  by_cases h : many = 0
  · rw [if_pos h, if_pos h, spec_DecFront.j10v_eq, if_pos rfl]
  · rw [if_neg h, if_neg h, spec_DecFront.j10v_eq]
    by_cases hn : n ≤ 9000000000000
    · rw [if_neg (by simpa using hn), if_pos hn]
      cases neg
      · simp
      · rw [if_pos rfl, wrap_in (by omega) (by omega)]; simp
    · rw [if_pos (by simpa using hn), if_neg hn]
theorem ws_bd (l : List UInt8) (q : Nat) : (val 0 (run l q) ≤ 9000000 → acc 0 (run l q) = (val 0 (run l q) : Int) * 1000000) ∧ (9000000 < val 0 (run l q) → 9000000000000 < acc 0 (run l q)) := by
  have := acc_val (run l q) 0 (run_all l q) (by omega)
  simpa using this
theorem spec_tail (l : List UInt8) (hl : l.length ≤ 1048576) (q : Nat) (hq : q ≤ l.length) (neg : Bool) : spec_DecFront.j4v (B l) (q : Int) neg = some (tailOf l q neg) := by
  rw [spec_DecFront.j4v_eq, spec_l1 l hl neg _ q 0 0 (Nat.le_refl _) hq (by omega) (by omega) (by omega) (by omega)]
  have hr := run_le l q hq
  have hab := acc_bd (run l q) 0 (run_all l q) (by omega) (by omega)
  obtain ⟨hv1, hv2⟩ := ws_bd l q
  unfold tailOf
  simp only []
  generalize hw : run l q = ws at *
  generalize he : q + ws.length = e at *
  rw [spec_DecFront.j6v_eq, if_neg (by simp)]
  have e1 : wrap64 ((e : Int) + 1) = ((e + 1 : Nat) : Int) := by rw [wrap_in (by omega) (by omega)]; omega
  rw [e1]
  have hnone : restOf l e = [] → spec_DecFront.j7v (B l) (e : Int) neg (acc 0 ws) (0 + (ws.length : Int)) false = some (if ws = [] ∧ restOf l e = [] then (0, 0) else if (val 0 ws : Int) * 1000000 + fr 0 100000 (restOf l e) ≤ 9000000000000 then (if neg then -((val 0 ws : Int) * 1000000 + fr 0 100000 (restOf l e)) else (val 0 ws : Int) * 1000000 + fr 0 100000 (restOf l e), ((if restOf l e = [] then e else e + 1 + (restOf l e).length : Nat) : Int)) else (0, 0)) := by
    intro h0
    rw [spec_DecFront.j7v_eq, if_neg (by simp), spec_j9 e neg _ _ (by omega) (by omega) (by omega), h0]
    by_cases hws : ws = []
    · subst hws; simp
    · have hlen : 0 < ws.length := List.length_pos_iff.2 hws
      have c1 : ¬ (0 + (ws.length : Int) = 0) := by omega
      have c2 : ¬ (ws = [] ∧ ([] : List UInt8) = []) := fun x => hws x.1
      rw [if_neg c1, if_neg c2]
      simp only [fr, Int.add_zero, if_true]
      by_cases hv : val 0 ws ≤ 9000000
      · rw [hv1 hv]
      · have h9 := hv2 (by omega)
        have c3 : ¬ (acc 0 ws ≤ 9000000000000) := by omega
        have c4 : ¬ ((val 0 ws : Int) * 1000000 ≤ 9000000000000) := by omega
        rw [if_neg c3, if_neg c4]
  by_cases h1 : e + 1 < l.length
  · have hel : e < l.length := by omega
    rw [if_pos (by rw [B_size]; omega), if_pos (by omega), if_pos (by rw [B_size]; omega), B_bt l e hel]
    have hdot := byte_is l[e] 46 46 rfl
    by_cases hd : l[e] = 46
    · rw [if_pos (hdot.2 hd), if_pos (by omega), B_bt l (e + 1) h1, dig_spec, Option.bind_some]
      have hrest : restOf l e = run l (e + 1) := by unfold restOf; rw [List.getElem?_eq_getElem hel, hd, if_pos rfl]
      by_cases hdd : isD l[e + 1] = true
      · rw [hdd, spec_DecFront.j7v_eq, if_pos rfl, e1, spec_l2 l hl neg _ (e + 1) _ _ _ (Nat.le_refl _) (by omega) (by omega) (by omega) (by omega) (by omega) (by omega) (by omega), fr_add]
        have hne : run l (e + 1) ≠ [] := by rw [run_step l (e + 1) h1, hdd]; simp
        have hlen : 0 < (run l (e + 1)).length := List.length_pos_iff.2 hne
        have hr2 := run_le l (e + 1) (by omega)
        have hf := fr_bd (run l (e + 1)) 100000 (run_all _ _) (by omega)
        have c1 : ¬ (0 + (ws.length : Int) + ((run l (e + 1)).length : Int) = 0) := by omega
        have c2 : ¬ (ws = [] ∧ run l (e + 1) = []) := fun x => hne x.2
        rw [spec_j9 _ neg _ _ (by omega) (by omega) (by omega), hrest, if_neg c1, if_neg c2, if_neg hne]
        by_cases hv : val 0 ws ≤ 9000000
        · rw [hv1 hv]
        · have h9 := hv2 (by omega)
          have c3 : ¬ (acc 0 ws + fr 0 100000 (run l (e + 1)) ≤ 9000000000000) := by omega
          have c4 : ¬ ((val 0 ws : Int) * 1000000 + fr 0 100000 (run l (e + 1)) ≤ 9000000000000) := by omega
          rw [if_neg c3, if_neg c4]
      · rw [Bool.not_eq_true] at hdd
        rw [hdd]
        exact hnone (by rw [hrest, run_step l (e + 1) h1, hdd]; simp)
    · rw [if_neg (fun x => hd (hdot.1 x))]
      exact hnone (by unfold restOf; rw [List.getElem?_eq_getElem hel, if_neg (by simpa using hd)])
  · rw [if_neg (by rw [B_size]; omega)]
    refine hnone ?_
    unfold restOf
    split
    · exact run_end l _ (by omega)
    · rfl

/-! ### the program's side -/
theorem digs_loop (l : List UInt8) (hl : l.length ≤ 1048576) (i : Nat) (d : Nat) : ∀ k : Nat, l.length - (i + k) ≤ d → i + k ≤ l.length → impl_digitsAt.l0v (B l) (i : Int) (k : Int) = some ((k + (run l (i + k)).length : Nat) : Int) := by
  induction d with
  | zero =>
    intro k h1 h2
    rw [impl_digitsAt.l0v_eq, wrap_in (by omega) (by omega), if_neg (by rw [B_size]; omega), run_end l _ (by omega)]
    simp
  | succ d ih =>
    intro k h1 h2
    rw [impl_digitsAt.l0v_eq, wrap_in (n := (i : Int) + k) (by omega) (by omega)]
    by_cases h : i + k < l.length
    · rw [if_pos (by rw [B_size]; omega), if_pos (by omega), show (i : Int) + k = ((i + k : Nat) : Int) by omega, B_bt l (i + k) h, run_step l (i + k) h]
      by_cases hd : isD l[i + k] = true
      · have hb := (isD_iff _).1 hd
        rw [if_pos (by omega), if_pos (by omega), wrap_in (by omega) (by omega), show (k : Int) + 1 = ((k + 1 : Nat) : Int) by omega, ih (k + 1) (by omega) (by omega), hd]
        simp [Nat.add_assoc, Nat.add_comm]
      · have hb : ¬ (48 ≤ l[i + k].toNat ∧ l[i + k].toNat ≤ 57) := fun e => hd ((isD_iff _).2 e)
        rw [Bool.not_eq_true] at hd
        rw [hd]
        by_cases h48 : (l[i + k].toNat : Int) ≥ 48
        · rw [if_pos h48, if_neg (by omega)]; simp
        · rw [if_neg h48]; simp
    · rw [if_neg (by rw [B_size]; omega), run_end l _ (by omega)]
      simp
theorem digs (l : List UInt8) (hl : l.length ≤ 1048576) (i : Nat) (hi : i ≤ l.length) : impl_digitsAt.fv (B l) (i : Int) = some ((run l i).length : Int) := by
  rw [impl_digitsAt.fv_eq]
  have := digs_loop l hl i _ 0 (Nat.le_refl _) (by omega)
  simpa using this
theorem dec_val (ws : List UInt8) : ∀ a : Nat, (∀ b ∈ ws, isD b = true) → ∀ Y, Lib.decFrom a (ws ++ Y) = Lib.decFrom (val a ws) Y := by
  induction ws with
  | nil => intro a _ Y; rfl
  | cons b r ih =>
    intro a hl Y
    have hb := (isD_iff b).1 (hl b List.mem_cons_self)
    rw [List.cons_append, Lib.decFrom]
    have : Lib.digitVal b = some (b.toNat - 48) := by unfold Lib.digitVal; rw [if_pos hb]
    rw [this]
    exact ih _ (fun c hc => hl c (List.mem_cons_of_mem _ hc)) Y
theorem fr_cons (n u : Int) (b : UInt8) (r : List UInt8) : fr n u (b :: r) = fr (n + ((b.toNat : Int) - 48) * u) (u / 10) r := rfl
theorem atoi48 (x : List UInt8) : Lib.atoi (48 :: x) = (Lib.decNat (48 :: x)).map fun (m : Nat) => (m : Int) := by
  show (if ((48 : UInt8) == 45) = true then Option.map (fun m : Nat => -(m : Int)) (Lib.decNat x) else if ((48 : UInt8) == 43) = true then Option.map (fun m : Nat => (m : Int)) (Lib.decNat x) else Option.map (fun m : Nat => (m : Int)) (Lib.decNat (48 :: x))) = _
  rw [if_neg (by decide), if_neg (by decide)]
def ud : Nat → Int | 0 => 0 | k + 1 => 10 ^ k
theorem ud_div (k : Nat) : ud (k + 1) / 10 = ud k := by
  cases k with
  | zero => rfl
  | succ k => show (10 : Int) ^ (k + 1) / 10 = 10 ^ k; rw [Int.pow_succ]; omega
theorem pad (k : Nat) : ∀ (a : Nat) (rs : List UInt8) (z : Nat), k ≤ z → (∀ b ∈ rs, isD b = true) → ∃ m : Nat, Lib.decFrom a ((rs ++ List.replicate z 48).take k) = some m ∧ (m : Int) = (a : Int) * 10 ^ k + fr 0 (ud k) rs := by
  induction k with
  | zero =>
    intro a rs z _ hl
    refine ⟨a, by simp [Lib.decFrom], ?_⟩
    have : ∀ r : List UInt8, fr 0 0 r = 0 := by
      intro r
      induction r with
      | nil => rfl
      | cons b r ih => simp [fr, ih]
    simp [ud, this]
  | succ k ih =>
    intro a rs z hz hl
    have key : ∀ (b : UInt8) (X : List UInt8), isD b = true → Lib.decFrom a (b :: X) = Lib.decFrom (a * 10 + (b.toNat - 48)) X := by
      intro b X hb
      rw [Lib.decFrom]
      have : Lib.digitVal b = some (b.toNat - 48) := by unfold Lib.digitVal; rw [if_pos ((isD_iff b).1 hb)]
      rw [this]
    cases rs with
    | nil =>
      obtain ⟨z, rfl⟩ : ∃ y, z = y + 1 := ⟨z - 1, by omega⟩
      obtain ⟨m, hm, he⟩ := ih (a * 10 + 0) [] z (by omega) (by simp)
      refine ⟨m, ?_, ?_⟩
      · rw [List.nil_append, List.replicate_succ, List.take_succ_cons, key _ _ (by decide)]
        exact hm
      · rw [he]
        have e : ((a * 10 + 0 : Nat) : Int) = (a : Int) * 10 := by omega
        rw [show ∀ u, fr 0 u [] = 0 from fun _ => rfl, show ∀ u, fr 0 u [] = 0 from fun _ => rfl, e, Int.pow_succ, Int.mul_assoc, Int.mul_comm 10]
    | cons b r =>
      have hb := hl b List.mem_cons_self
      have hb2 := (isD_iff b).1 hb
      obtain ⟨m, hm, he⟩ := ih (a * 10 + (b.toNat - 48)) r z (by omega) (fun c hc => hl c (List.mem_cons_of_mem _ hc))
      refine ⟨m, ?_, ?_⟩
      · rw [List.cons_append, List.take_succ_cons, key _ _ hb]
        exact hm
      · rw [he]
        rw [fr_cons, fr_add r (0 + _), ud_div]
        have e : (((a * 10 + (b.toNat - 48) : Nat)) : Int) = (a : Int) * 10 + ((b.toNat : Int) - 48) := by omega
        rw [e, Int.add_mul, show ud (k + 1) = 10 ^ k from rfl, Int.pow_succ, Int.mul_assoc, Int.mul_comm 10, Int.zero_add, Int.add_assoc]
theorem val_trim (ws : List UInt8) : val 0 (ws.dropWhile (· == 48)) = val 0 ws := by
  induction ws with
  | nil => rfl
  | cons b r ih =>
    rw [List.dropWhile_cons]
    by_cases h : b = 48
    · subst h
      rw [if_pos (by simp), ih]; rfl
    · rw [if_neg (by simpa using h)]
theorem val_pow (ws : List UInt8) : ∀ a : Nat, a * 10 ^ ws.length ≤ val a ws := by
  induction ws with
  | nil =>
    intro a
    show a * 10 ^ 0 ≤ a
    rw [Nat.pow_zero, Nat.mul_one]
    exact Nat.le_refl _
  | cons b r ih =>
    intro a
    unfold val
    refine Nat.le_trans ?_ (ih _)
    rw [List.length_cons, Nat.pow_succ, Nat.mul_comm _ 10, ← Nat.mul_assoc]
    exact Nat.mul_le_mul_right _ (by omega)
theorem val_big (ws : List UInt8) (hd : ∀ b ∈ ws, isD b = true) (h : 7 < (ws.dropWhile (· == 48)).length) : 9000000 < val 0 ws := by
  rw [← val_trim]
  have hne : ∀ b r, ws.dropWhile (· == 48) = b :: r → b ≠ 48 := by
    intro b r e hb
    have := List.head_dropWhile_not (p := (· == (48 : UInt8))) (l := ws) (by rw [e]; simp)
    simp only [e, List.head_cons, hb] at this
    simp at this
  cases e : ws.dropWhile (· == 48) with
  | nil => rw [e] at h; simp at h
  | cons b r =>
    have h48 := hne b r e
    have hb := (isD_iff b).1 (hd b ((List.dropWhile_sublist _).subset (by rw [e]; exact List.mem_cons_self)))
    have hb3 : b.toNat ≠ 48 := fun x => h48 (UInt8.toNat_inj.1 x)
    unfold val
    have := val_pow r (0 * 10 + (b.toNat - 48))
    rw [e, List.length_cons] at h
    have hp : 10 ^ 7 ≤ 10 ^ r.length := Nat.pow_le_pow_right (by decide) (by omega)
    have : 1 * 10 ^ r.length ≤ (0 * 10 + (b.toNat - 48)) * 10 ^ r.length := Nat.mul_le_mul_right _ (by omega)
    omega
theorem trimL (l : List UInt8) (c : UInt8) (hc : c.toNat < 128) (hl : l.length ≤ 2000000) : strings_TrimLeft.f (B l) (⟨#[c]⟩ : ByteArray) = some (B (l.dropWhile (· == c))) := by
  unfold strings_TrimLeft.f
  simp only [B_data, B_size]
  rw [if_pos ⟨hc, by omega⟩]; rfl
theorem right_some (n : Int) : impl_right.f n = some (if -9000000000000 ≤ n ∧ n ≤ 9000000000000 then (n, true) else (0, false)) := by
  unfold impl_right.f impl_DecOk.f impl_in.f
  by_cases h : n ≥ -9000000000000
  · rw [if_pos h]
    by_cases h2 : n ≤ 9000000000000
    · simp [h2]; omega
    · simp [h2]
  · rw [if_neg h]; simp; omega
theorem mill (ws rs : List UInt8) (hw : ∀ b ∈ ws, isD b = true) (hr : ∀ b ∈ rs, isD b = true) (lw : ws.length ≤ 1048576) (lr : rs.length ≤ 1048576) :
    impl_millionths.f (B ws) (B rs) = some (if (val 0 ws : Int) * 1000000 + fr 0 100000 rs ≤ 9000000000000 then ((val 0 ws : Int) * 1000000 + fr 0 100000 rs, true) else (0, false)) := by
  have hf := fr_bd rs 100000 hr (by omega)
  unfold impl_millionths.f
  rw [trimL ws 48 (by decide) (by omega), Option.bind_some, show (⟨#[48, 48, 48, 48, 48, 48]⟩ : ByteArray) = B [48, 48, 48, 48, 48, 48] from rfl, show (⟨#[48]⟩ : ByteArray) = B [48] from rfl]
  simp only [B_append, B_size]
  rw [if_pos (by omega), if_pos (by omega), if_pos (by first | omega | (simp; omega))]
  by_cases h7 : 7 < (ws.dropWhile (· == 48)).length
  · rw [if_pos (by omega)]
    have := val_big ws hw h7
    rw [if_neg (by omega)]
  · rw [if_neg (by omega), if_pos (by omega), B_extract]
    have e6 : (List.drop 0 (rs ++ [48, 48, 48, 48, 48, 48])).take (6 - 0) = (rs ++ List.replicate 6 48).take 6 := rfl
    rw [e6]
    simp only [B_append, B_size]
    have hl6 : ((rs ++ List.replicate 6 48).take 6).length ≤ 6 := by rw [List.length_take]; omega
    rw [if_pos (by simp at hl6 ⊢; omega)]
    obtain ⟨m, hm, he⟩ := pad 6 (val 0 ws) rs 6 (by omega) hr
    have hat : Lib.atoi ([48] ++ ws.dropWhile (· == 48) ++ (rs ++ List.replicate 6 48).take 6) = some (m : Int) := by
      have hdw : ∀ b ∈ ws.dropWhile (· == 48), isD b = true := fun b hb => hw b ((List.dropWhile_sublist _).subset hb)
      have h1 : Lib.decNat ([48] ++ ws.dropWhile (· == 48) ++ (rs ++ List.replicate 6 48).take 6) = some m := by
        unfold Lib.decNat
        rw [if_neg (by simp), List.append_assoc, dec_val [48] 0 (by decide), dec_val _ _ hdw]
        rw [show val 0 [(48 : UInt8)] = 0 from rfl, val_trim]
        exact hm
      rw [List.append_assoc, List.singleton_append] at h1 ⊢
      rw [atoi48, h1]; rfl
    have hA : strconv_Atoi.f (B ([48] ++ ws.dropWhile (· == 48) ++ (rs ++ List.replicate 6 48).take 6)) = some ((m : Int), none) := by
      unfold strconv_Atoi.f
      rw [B_size, if_pos (by simp at hl6 ⊢; omega), B_data, hat]
    rw [hA, Option.bind_some]
    simp only []
    have he2 : (m : Int) = (val 0 ws : Int) * 1000000 + fr 0 100000 rs := by rw [he]; rfl
    rw [right_some, Option.bind_some, he2]
    by_cases hn : (val 0 ws : Int) * 1000000 + fr 0 100000 rs ≤ 9000000000000
    · rw [if_pos ⟨by omega, hn⟩, if_pos hn]
    · rw [if_neg (fun x => hn x.2), if_neg hn]
theorem impl_j4 (e : Nat) (neg : Bool) (ws rs : List UInt8) (hw : ∀ b ∈ ws, isD b = true) (hr : ∀ b ∈ rs, isD b = true) (lw : ws.length ≤ 1048576) (lr : rs.length ≤ 1048576) :
    impl_DecFront.j3v (e : Int) neg (B ws) (B rs) = some (if ws = [] ∧ rs = [] then (0, 0) else if (val 0 ws : Int) * 1000000 + fr 0 100000 rs ≤ 9000000000000 then (if neg then -((val 0 ws : Int) * 1000000 + fr 0 100000 rs) else (val 0 ws : Int) * 1000000 + fr 0 100000 rs, (e : Int)) else (0, 0)) := by
  have hf := fr_bd rs 100000 hr (by omega)
  rw [impl_DecFront.j3v_eq, B_toList, B_toList]
  have main : ¬ (ws = [] ∧ rs = []) → impl_DecFront.j4v (e : Int) neg (B ws) (B rs) false = some (if (val 0 ws : Int) * 1000000 + fr 0 100000 rs ≤ 9000000000000 then (if neg then -((val 0 ws : Int) * 1000000 + fr 0 100000 rs) else (val 0 ws : Int) * 1000000 + fr 0 100000 rs, (e : Int)) else (0, 0)) := by
    intro _
    rw [impl_DecFront.j4v_eq, if_neg (by simp), mill ws rs hw hr lw lr, Option.bind_some]
    by_cases hn : (val 0 ws : Int) * 1000000 + fr 0 100000 rs ≤ 9000000000000
    · simp only [if_pos hn, if_true]
      cases neg
      · simp
      · rw [if_pos rfl, wrap_in (by omega) (by omega)]; simp
    · simp only [if_neg hn]; simp
  by_cases h1 : ws = []
  · rw [if_pos h1]
    by_cases h2 : rs = []
    · rw [if_pos ⟨h1, h2⟩, impl_DecFront.j4v_eq]; simp [h2]
    · rw [if_neg (fun x => h2 x.2), show (rs == ([] : List UInt8)) = false by simpa using h2]
      exact main (fun x => h2 x.2)
  · rw [if_neg h1, if_neg (fun x => h1 x.1)]
    exact main (fun x => h1 x.1)
theorem impl_tail (l : List UInt8) (hl : l.length ≤ 1048576) (q : Nat) (hq : q ≤ l.length) (neg : Bool) : impl_DecFront.j1v (B l) (q : Int) neg = some (tailOf l q neg) := by
  have hr := run_le l q hq
  have hall := run_all l q
  rw [impl_DecFront.j1v_eq, digs l hl q hq, Option.bind_some, if_pos (by omega), wrap_in (by omega) (by omega), if_pos (by omega), if_pos (by rw [B_size]; omega), B_extract]
  have ew : (l.drop (q : Int).toNat).take (((q : Int) + ((run l q).length : Int)).toNat - (q : Int).toNat) = run l q := by
    rw [show (q : Int).toNat = q by omega, show ((q : Int) + ((run l q).length : Int)).toNat - q = (run l q).length by omega]
    exact run_take l q
  rw [ew]
  unfold tailOf
  simp only []
  generalize hw : run l q = ws at *
  rw [show (q : Int) + (ws.length : Int) = ((q + ws.length : Nat) : Int) by omega]
  generalize he : q + ws.length = e at *
  have hnone : restOf l e = [] → impl_DecFront.j3v (e : Int) neg (B ws) (⟨#[]⟩ : ByteArray) = some (if ws = [] ∧ restOf l e = [] then (0, 0) else if (val 0 ws : Int) * 1000000 + fr 0 100000 (restOf l e) ≤ 9000000000000 then (if neg then -((val 0 ws : Int) * 1000000 + fr 0 100000 (restOf l e)) else (val 0 ws : Int) * 1000000 + fr 0 100000 (restOf l e), ((if restOf l e = [] then e else e + 1 + (restOf l e).length : Nat) : Int)) else (0, 0)) := by
    intro h0
    rw [show (⟨#[]⟩ : ByteArray) = B [] from rfl, impl_j4 e neg ws [] hall (by simp) (by omega) (by simp), h0, if_pos rfl]
  by_cases h1 : e < l.length
  · rw [if_pos (by rw [B_size]; omega), if_pos (by omega), B_bt l e h1]
    have hdot := byte_is l[e] 46 46 rfl
    by_cases hd : l[e] = 46
    · have hrest : restOf l e = run l (e + 1) := by unfold restOf; rw [List.getElem?_eq_getElem h1, hd, if_pos rfl]
      rw [show (((l[e].toNat : Nat) : Int) == 46) = true by simpa using hdot.2 hd, impl_DecFront.j2v_eq, if_pos rfl, wrap_in (n := (e : Int) + 1) (by omega) (by omega), show (e : Int) + 1 = ((e + 1 : Nat) : Int) by omega, digs l hl (e + 1) (by omega), Option.bind_some]
      have hr2 := run_le l (e + 1) (by omega)
      by_cases hz : run l (e + 1) = []
      · rw [hz, if_neg (by simp)]
        exact hnone (by rw [hrest, hz])
      · have hlen : 0 < (run l (e + 1)).length := List.length_pos_iff.2 hz
        rw [if_pos (by omega), if_pos (by omega), wrap_in (n := ((e + 1 : Nat) : Int) + ((run l (e + 1)).length : Int)) (by omega) (by omega), if_pos (by omega), if_pos (by rw [B_size]; omega), B_extract]
        have er : (l.drop ((e + 1 : Nat) : Int).toNat).take ((((e + 1 : Nat) : Int) + ((run l (e + 1)).length : Int)).toNat - ((e + 1 : Nat) : Int).toNat) = run l (e + 1) := by
          rw [show ((e + 1 : Nat) : Int).toNat = e + 1 by omega, show (((e + 1 : Nat) : Int) + ((run l (e + 1)).length : Int)).toNat - (e + 1) = (run l (e + 1)).length by omega]
          exact run_take l (e + 1)
        rw [er, wrap_in (n := 1 + ((run l (e + 1)).length : Int)) (by omega) (by omega), wrap_in (by omega) (by omega), show (e : Int) + (1 + ((run l (e + 1)).length : Int)) = ((e + 1 + (run l (e + 1)).length : Nat) : Int) by omega]
        rw [impl_j4 _ neg ws _ hall (run_all _ _) (by omega) (by omega), hrest, if_neg hz]
    · rw [show (((l[e].toNat : Nat) : Int) == 46) = false by simpa using fun x => hd (hdot.1 x), impl_DecFront.j2v_eq, if_neg (by simp)]
      exact hnone (by unfold restOf; rw [List.getElem?_eq_getElem h1, if_neg (by simpa using hd)])
  · rw [if_neg (by rw [B_size]; omega), impl_DecFront.j2v_eq, if_neg (by simp)]
    refine hnone ?_
    unfold restOf
    rw [List.getElem?_eq_none (by omega), if_neg (by simp)]

/-! ### blanks and sign -/
def blanks (l : List UInt8) : Nat := (l.takeWhile (· == 32)).length
def frontOf (l : List UInt8) : Int × Int := tailOf l (if l[blanks l]? = some 45 ∨ l[blanks l]? = some 43 then blanks l + 1 else blanks l) (l[blanks l]? == some 45)
theorem blanks_le (l : List UInt8) : blanks l ≤ l.length := (List.takeWhile_sublist _).length_le
theorem blanks_drop (l : List UInt8) : (l.dropWhile (· == 32)).length = l.length - blanks l := by
  have := congrArg List.length (List.takeWhile_append_dropWhile (p := (· == (32 : UInt8))) (l := l))
  rw [List.length_append] at this
  unfold blanks; omega
theorem spec_blank (l : List UInt8) (hl : l.length ≤ 1048576) (d : Nat) : ∀ i : Nat, l.length - i ≤ d → i ≤ l.length → spec_DecFront.l0v (B l) (i : Int) = spec_DecFront.j1v (B l) ((i + ((l.drop i).takeWhile (· == 32)).length : Nat) : Int) := by
  induction d with
  | zero =>
    intro i h1 h2
    rw [spec_DecFront.l0v_eq, if_neg (by rw [B_size]; omega), List.drop_eq_nil_of_le (by omega)]
    simp
  | succ d ih =>
    intro i h1 h2
    rw [spec_DecFront.l0v_eq]
    by_cases h : i < l.length
    · rw [if_pos (by rw [B_size]; omega), if_pos (by omega), B_bt l i h, List.drop_eq_getElem_cons h, List.takeWhile_cons]
      have hb := byte_is l[i] 32 32 rfl
      by_cases hd : l[i] = 32
      · rw [if_pos (hb.2 hd), wrap_in (by omega) (by omega), show (i : Int) + 1 = ((i + 1 : Nat) : Int) by omega, ih (i + 1) (by omega) (by omega), if_pos (by simpa using hd)]
        simp [Nat.add_assoc, Nat.add_comm]
      · rw [if_neg (fun x => hd (hb.1 x)), if_neg (by simpa using hd)]; simp
    · rw [if_neg (by rw [B_size]; omega), List.drop_eq_nil_of_le (by omega)]
      simp
theorem front_spec (l : List UInt8) (hl : l.length ≤ 1048576) : spec_DecFront.fv (B l) = some (frontOf l) := by
  rw [spec_DecFront.fv_eq]
  have h0 := spec_blank l hl _ 0 (Nat.le_refl _) (by omega)
  rw [List.drop_zero, Nat.zero_add] at h0
  have h0' : spec_DecFront.l0v (B l) 0 = spec_DecFront.j1v (B l) ((blanks l : Nat) : Int) := h0
  rw [h0', spec_DecFront.j1v_eq]
  have hp := blanks_le l
  unfold frontOf
  generalize blanks l = p at *
  by_cases h : p < l.length
  · rw [if_pos (by rw [B_size]; omega), if_pos (by omega), B_bt l p h, List.getElem?_eq_getElem h, spec_DecFront.j2v_eq, if_pos (by rw [B_size]; omega), if_pos (by omega), B_bt l p h]
    have h45 := byte_is l[p] 45 45 rfl
    have h43 := byte_is l[p] 43 43 rfl
    have e1 : wrap64 ((p : Int) + 1) = ((p + 1 : Nat) : Int) := by rw [wrap_in (by omega) (by omega)]; omega
    by_cases h1 : l[p] = 45
    · rw [if_pos (h45.2 h1), spec_DecFront.j3v_eq, if_pos rfl, e1, spec_tail l hl _ (by omega), if_pos (.inl (by rw [h1]))]
      simp [h1]
    · rw [if_neg (fun x => h1 (h45.1 x))]
      by_cases h2 : l[p] = 43
      · rw [show (((l[p].toNat : Nat) : Int) == 43) = true by simpa using h43.2 h2, spec_DecFront.j3v_eq, if_pos rfl, e1, spec_tail l hl _ (by omega), if_pos (.inr (by rw [h2]))]
        simp [h2]
      · rw [show (((l[p].toNat : Nat) : Int) == 43) = false by simpa using fun x => h2 (h43.1 x), spec_DecFront.j3v_eq, if_neg (by simp), spec_tail l hl _ hp, if_neg (by simp [h1, h2]), show (some l[p] == some (45 : UInt8)) = false by simpa using h1, show (((l[p].toNat : Nat) : Int) == 45) = false by simpa using fun x => h1 (h45.1 x)]
  · rw [if_neg (by rw [B_size]; omega), spec_DecFront.j2v_eq, if_neg (by rw [B_size]; omega), spec_DecFront.j3v_eq, if_neg (by simp), spec_tail l hl _ hp, List.getElem?_eq_none (by omega)]
    simp
theorem front_impl (l : List UInt8) (hl : l.length ≤ 1048576) : impl_DecFront.fv (B l) = some (frontOf l) := by
  rw [impl_DecFront.fv_eq, trimL l 32 (by decide) (by omega), Option.bind_some, B_size, B_size, blanks_drop]
  have hp := blanks_le l
  unfold frontOf
  generalize blanks l = p at *
  rw [wrap_in (by omega) (by omega), show ((l.length : Int) - ((l.length - p : Nat) : Int)) = (p : Int) by omega]
  by_cases h : p < l.length
  · rw [if_pos (by omega), if_pos (by omega), B_bt l p h, List.getElem?_eq_getElem h]
    have h45 := byte_is l[p] 45 45 rfl
    have h43 := byte_is l[p] 43 43 rfl
    have e1 : wrap64 ((p : Int) + 1) = ((p + 1 : Nat) : Int) := by rw [wrap_in (by omega) (by omega)]; omega
    by_cases h2 : l[p] = 43
    · rw [if_pos (h43.2 h2), impl_DecFront.j0v_eq, if_pos rfl, if_pos (by omega), if_pos (by rw [B_size]; omega), e1, B_bt l p h, impl_tail l hl _ (by omega), if_pos (.inr (by rw [h2]))]
      simp [h2]
    · rw [if_neg (fun x => h2 (h43.1 x))]
      by_cases h1 : l[p] = 45
      · rw [show (((l[p].toNat : Nat) : Int) == 45) = true by simpa using h45.2 h1, impl_DecFront.j0v_eq, if_pos rfl, if_pos (by omega), if_pos (by rw [B_size]; omega), e1, B_bt l p h, impl_tail l hl _ (by omega), if_pos (.inl (by rw [h1]))]
        simp [h1]
      · rw [show (((l[p].toNat : Nat) : Int) == 45) = false by simpa using fun x => h1 (h45.1 x), impl_DecFront.j0v_eq, if_neg (by simp), impl_tail l hl _ hp, if_neg (by simp [h1, h2]), show (some l[p] == some (45 : UInt8)) = false by simpa using h1]
  · rw [if_neg (by omega), impl_DecFront.j0v_eq, if_neg (by simp), impl_tail l hl _ hp, List.getElem?_eq_none (by omega)]
    simp

/-! ### nothing but blanks behind it -/
theorem tail_bd (l : List UInt8) (q : Nat) (hq : q ≤ l.length) (neg : Bool) : 0 ≤ (tailOf l q neg).2 ∧ (tailOf l q neg).2 ≤ (l.length : Int) := by
  have hr := run_le l q hq
  unfold tailOf
  simp only []
  generalize hw : run l q = ws at *
  generalize he : q + ws.length = e at *
  by_cases h1 : ws = [] ∧ restOf l e = []
  · rw [if_pos h1]; exact ⟨Int.le_refl _, by omega⟩
  · rw [if_neg h1]
    split
    · simp only []
      by_cases h2 : restOf l e = []
      · rw [if_pos h2]; omega
      · rw [if_neg h2]
        have h3 : restOf l e = run l (e + 1) ∧ e < l.length := by
          unfold restOf at h2 ⊢
          by_cases h4 : l[e]? = some 46
          · rw [if_pos h4]
            refine ⟨rfl, ?_⟩
            by_cases h5 : e < l.length
            · exact h5
            · rw [List.getElem?_eq_none (by omega)] at h4; simp at h4
          · rw [if_neg h4] at h2; exact absurd rfl h2
        have := run_le l (e + 1) (by omega)
        rw [h3.1]; omega
    · exact ⟨Int.le_refl _, by simp only []; omega⟩
theorem front_bd (l : List UInt8) : 0 ≤ (frontOf l).2 ∧ (frontOf l).2 ≤ (l.length : Int) := by
  unfold frontOf
  refine tail_bd l _ ?_ _
  have hb := blanks_le l
  split
  · rename_i h
    by_cases h5 : blanks l < l.length
    · omega
    · rw [List.getElem?_eq_none (by omega)] at h; simp at h
  · exact hb
theorem dw_nil (p : UInt8 → Bool) (l : List UInt8) : l.dropWhile p = [] ↔ ∀ b ∈ l, p b = true := by
  induction l with
  | nil => simp
  | cons a r ih =>
    rw [List.dropWhile_cons]
    by_cases h : p a = true
    · rw [if_pos h, ih]; simp [h]
    · rw [if_neg h]; simp [h]
theorem trim_nil (l : List UInt8) (c : UInt8) : Lib.trimB l c = [] ↔ ∀ b ∈ l, b = c := by
  unfold Lib.trimB Lib.trimLeftB Lib.trimRightB
  rw [dw_nil]
  constructor
  · intro h
    have h1 : l.reverse.dropWhile (· == c) = [] := by
      apply Classical.byContradiction
      intro hne
      have h2 := List.head_dropWhile_not (p := (· == c)) (l := l.reverse) hne
      have h3 := h _ (List.mem_reverse.2 (List.head_mem hne))
      rw [h3] at h2; simp at h2
    intro b hb
    have := (dw_nil _ _).1 h1 b (List.mem_reverse.2 hb)
    simpa using this
  · intro h b hb
    rw [List.mem_reverse] at hb
    have := h b (List.mem_reverse.1 ((List.dropWhile_sublist _).subset hb))
    simp [this]
theorem looks_loop (l : List UInt8) (hl : l.length ≤ 1048576) (v : Int) (d : Nat) : ∀ i : Nat, l.length - i ≤ d → i ≤ l.length → spec_DecLooks.l0v (B l) v (i : Int) = some (if (l.drop i).all (· == 32) then (v, true) else (0, false)) := by
  induction d with
  | zero =>
    intro i h1 h2
    rw [spec_DecLooks.l0v_eq, if_neg (by rw [B_size]; omega), List.drop_eq_nil_of_le (by omega)]
    simp
  | succ d ih =>
    intro i h1 h2
    rw [spec_DecLooks.l0v_eq]
    by_cases h : i < l.length
    · rw [if_pos (by rw [B_size]; omega), if_pos (by omega), B_bt l i h, List.drop_eq_getElem_cons h, List.all_cons]
      have hb := byte_is l[i] 32 32 rfl
      by_cases hd : l[i] = 32
      · rw [if_pos (hb.2 hd), wrap_in (by omega) (by omega), show (i : Int) + 1 = ((i + 1 : Nat) : Int) by omega, ih (i + 1) (by omega) (by omega)]
        simp [hd]
      · rw [if_neg (fun x => hd (hb.1 x))]
        simp [hd]
    · rw [if_neg (by rw [B_size]; omega), List.drop_eq_nil_of_le (by omega)]
      simp
def looksOf (l : List UInt8) : Int × Bool := if (frontOf l).2 = 0 then (0, false) else if (l.drop (frontOf l).2.toNat).all (· == 32) then ((frontOf l).1, true) else (0, false)
theorem looks_spec (l : List UInt8) (hl : l.length ≤ 1048576) : spec_DecLooks.fv (B l) = some (looksOf l) := by
  have hb := front_bd l
  rw [spec_DecLooks.fv_eq, front_spec l hl, Option.bind_some]
  unfold looksOf
  by_cases h : (frontOf l).2 = 0
  · rw [if_pos h, if_pos h]
  · rw [if_neg h, if_neg h]
    obtain ⟨i, hi⟩ : ∃ i : Nat, (frontOf l).2 = i := ⟨(frontOf l).2.toNat, by omega⟩
    rw [hi, looks_loop l hl _ _ i (Nat.le_refl _) (by omega), Int.toNat_natCast]
theorem looks_impl (l : List UInt8) (hl : l.length ≤ 1048576) : impl_DecLooks.fv (B l) = some (looksOf l) := by
  have hb := front_bd l
  rw [impl_DecLooks.fv_eq, front_impl l hl, Option.bind_some]
  unfold looksOf
  by_cases h : (frontOf l).2 = 0
  · rw [if_pos h, if_pos h]
  · rw [if_neg h, if_neg h, if_pos hb.1, B_size, if_pos hb.2, B_extract, List.take_of_length_le (by simp)]
    have ht : ∀ x : List UInt8, x.length ≤ 1048576 → strings_Trim.f (B x) (⟨#[32]⟩ : ByteArray) = some (B (Lib.trimB x 32)) := by
      intro x hx
      unfold strings_Trim.f
      simp only [B_data, B_size]
      rw [if_pos ⟨by decide, by omega⟩]; rfl
    rw [ht _ (by simp; omega), Option.bind_some, B_toList]
    by_cases h2 : ∀ b ∈ l.drop (frontOf l).2.toNat, b = 32
    · rw [if_pos ((trim_nil _ _).2 h2), if_pos (by simpa using h2)]
    · rw [if_neg (fun x => h2 ((trim_nil _ _).1 x)), if_neg (by simpa using h2)]

/-! ### a number's text is read as that number -/
theorem digit_isD (k : Nat) (h : k < 10) : isD (UInt8.ofNat (48 + k)) = true := by
  rw [isD_iff, byte_ofNat _ (by omega)]; omega
theorem digit_val (k : Nat) (h : k < 10) : ((UInt8.ofNat (48 + k)).toNat : Int) - 48 = (k : Int) := by
  rw [byte_ofNat _ (by omega)]; omega
theorem dec_digits (u : Nat) : ∀ b ∈ Lib.decDigits u, isD b = true := by
  induction u using Nat.strongRecOn with
  | _ u ih =>
    intro b hb
    by_cases h : u < 10
    · rw [Lib.decDigits_one h, List.mem_singleton] at hb
      subst hb
      exact digit_isD u h
    · rw [Lib.decDigits.eq_def, dif_neg h] at hb
      rcases List.mem_append.1 hb with hb | hb
      · exact ih (u / 10) (by omega) b hb
      · rw [List.mem_singleton] at hb
        subst hb
        exact digit_isD _ (Nat.mod_lt _ (by omega))
theorem val_snoc (l : List UInt8) (b : UInt8) : ∀ a : Nat, val a (l ++ [b]) = val a l * 10 + (b.toNat - 48) := by
  induction l with
  | nil => intro a; rfl
  | cons c r ih => intro a; exact ih _
theorem val_dec (u : Nat) : val 0 (Lib.decDigits u) = u := by
  induction u using Nat.strongRecOn with
  | _ u ih =>
    by_cases h : u < 10
    · rw [Lib.decDigits_one h]
      show 0 * 10 + ((UInt8.ofNat (48 + u)).toNat - 48) = u
      rw [byte_ofNat _ (by omega)]; omega
    · rw [Lib.decDigits.eq_def, dif_neg h, val_snoc, ih (u / 10) (by omega), byte_ofNat _ (by have := Nat.mod_lt u (show 0 < 10 by omega); omega)]
      omega
theorem fr_snoc (l : List UInt8) : ∀ n u : Int, fr n u (l ++ [48]) = fr n u l := by
  induction l with
  | nil =>
    intro n u
    show n + (((48 : UInt8).toNat : Int) - 48) * u = n
    rw [show (((48 : UInt8).toNat : Int) - 48) = 0 from rfl]; omega
  | cons c r ih => intro n u; exact ih _ _
theorem fr_trim (n : Nat) : ∀ (t : List UInt8) (u : Int), t.length = n → fr 0 u (Lib.trimRightB t 48) = fr 0 u t := by
  induction n with
  | zero =>
    intro t u h
    rw [List.eq_nil_of_length_eq_zero h]; rfl
  | succ n ih =>
    intro t u h
    obtain ⟨t, b, rfl⟩ : ∃ t' b, t = t' ++ [b] := ⟨t.dropLast, t.getLast (by intro e; rw [e] at h; simp at h), (List.dropLast_concat_getLast _).symm⟩
    rw [trim_snoc]
    by_cases hb : b = 48
    · subst hb
      rw [if_pos rfl, fr_snoc, ih t u (by simpa using h)]
    · rw [if_neg hb]
theorem trim_mem (t : List UInt8) : ∀ b ∈ Lib.trimRightB t 48, b ∈ t := by
  intro b hb
  unfold Lib.trimRightB at hb
  have := (List.dropWhile_sublist _).subset (List.mem_reverse.1 hb)
  exact List.mem_reverse.1 this
theorem trim_some (t : List UInt8) (h : ∃ b ∈ t, b ≠ 48) : Lib.trimRightB t 48 ≠ [] := by
  intro e
  unfold Lib.trimRightB at e
  rw [List.reverse_eq_nil_iff, dw_nil] at e
  obtain ⟨b, hb, hb2⟩ := h
  have := e b (List.mem_reverse.2 hb)
  exact hb2 (by simpa using this)
theorem fr_seven (r : Nat) (h : r < 1000000) : fr 0 100000 ((Lib.decDigits (1000000 + r)).drop 1) = (r : Int) := by
  rw [seven _ (by omega) (by omega), List.drop_succ_cons, List.drop_zero]
  simp only [fr]
  rw [digit_val _ (Nat.mod_lt _ (by omega)), digit_val _ (Nat.mod_lt _ (by omega)), digit_val _ (Nat.mod_lt _ (by omega)), digit_val _ (Nat.mod_lt _ (by omega)), digit_val _ (Nat.mod_lt _ (by omega)), digit_val _ (Nat.mod_lt _ (by omega))]
  omega
theorem run_app (p d t : List UInt8) (hd : ∀ b ∈ d, isD b = true) (ht : ∀ b r, t = b :: r → isD b = false) : run (p ++ (d ++ t)) p.length = d := by
  unfold run
  rw [List.drop_left, List.takeWhile_append_of_pos hd]
  cases t with
  | nil => simp
  | cons b r => rw [List.takeWhile_cons, ht b r rfl]; simp
theorem dec_ne (u : Nat) : Lib.decDigits u ≠ [] := by
  intro e
  have h1 := Lib.decDigits_length u
  have h2 := Lib.nDigits_pos u
  rw [e] at h1
  simp at h1; omega
theorem tail_round (p : List UInt8) (w r : Nat) (h : w * 1000000 + r ≤ 9000000000000) (hr : r < 1000000) (neg : Bool) (t : List UInt8) (ht : t = if r = 0 then [] else [46] ++ Lib.trimRightB ((Lib.decDigits (1000000 + r)).drop 1) 48) :
    tailOf (p ++ (Lib.decDigits w ++ t)) p.length neg = (if neg then -((w * 1000000 + r : Nat) : Int) else ((w * 1000000 + r : Nat) : Int), (((p ++ (Lib.decDigits w ++ t)).length : Nat) : Int)) := by
  have hall := dec_digits (1000000 + r)
  have htr : ∀ b ∈ Lib.trimRightB ((Lib.decDigits (1000000 + r)).drop 1) 48, isD b = true := fun b hb => hall b (List.mem_of_mem_drop (trim_mem _ b hb))
  have hw : run (p ++ (Lib.decDigits w ++ t)) p.length = Lib.decDigits w := by
    refine run_app p _ t (dec_digits w) ?_
    intro b q e
    rw [e] at ht
    by_cases h0 : r = 0
    · rw [if_pos h0] at ht; simp at ht
    · rw [if_neg h0, List.singleton_append] at ht
      rw [(List.cons.inj ht).1]; rfl
  unfold tailOf
  simp only [hw, val_dec]
  have hne := dec_ne w
  rw [if_neg (fun x => hne x.1)]
  have hl : (p ++ (Lib.decDigits w ++ t)).length = p.length + (Lib.decDigits w).length + t.length := by simp; omega
  have hget : (p ++ (Lib.decDigits w ++ t))[p.length + (Lib.decDigits w).length]? = t[0]? := by
    rw [← List.append_assoc, List.getElem?_append_right (by simp)]
    simp
  by_cases h0 : r = 0
  · rw [if_pos h0] at ht
    subst ht
    have hrest : restOf (p ++ (Lib.decDigits w ++ [])) (p.length + (Lib.decDigits w).length) = [] := by
      unfold restOf
      rw [hget]; simp
    rw [hrest, show fr 0 100000 [] = 0 from rfl, if_pos (by omega), if_pos rfl]
    have hl2 : (p ++ (Lib.decDigits w ++ [])).length = p.length + (Lib.decDigits w).length := by rw [List.append_nil, List.length_append]
    refine Prod.ext ?_ ?_
    · cases neg
      · rw [if_neg (by decide), if_neg (by decide)]; show (w : Int) * 1000000 + 0 = _; omega
      · rw [if_pos rfl, if_pos rfl]; show -((w : Int) * 1000000 + 0) = _; omega
    · show (((if ([] : List UInt8) = [] then p.length + (Lib.decDigits w).length else p.length + (Lib.decDigits w).length + 1 + ([] : List UInt8).length) : Nat) : Int) = _
      rw [if_pos rfl, hl2]
  · rw [if_neg h0] at ht
    generalize hT : Lib.trimRightB ((Lib.decDigits (1000000 + r)).drop 1) 48 = T at *
    have hrest : restOf (p ++ (Lib.decDigits w ++ t)) (p.length + (Lib.decDigits w).length) = T := by
      unfold restOf
      rw [hget, ht, List.singleton_append, List.getElem?_cons_zero, if_pos rfl]
      have := run_app (p ++ (Lib.decDigits w ++ [46])) T [] htr (by simp)
      rw [show (p ++ (Lib.decDigits w ++ [46])) ++ (T ++ []) = p ++ (Lib.decDigits w ++ 46 :: T) by simp] at this
      rw [show (p ++ (Lib.decDigits w ++ [(46 : UInt8)])).length = p.length + (Lib.decDigits w).length + 1 by rw [List.length_append, List.length_append]; exact (Nat.add_assoc _ _ _).symm] at this
      exact this
    have hTne : T ≠ [] := by rw [← hT]; exact trim_some _ (rest_any r (by omega) hr)
    have hf : fr 0 100000 T = (r : Int) := by rw [← hT, fr_trim _ _ _ rfl, fr_seven r hr]
    rw [hrest, hf, if_pos (by omega), if_neg hTne, hl, ht]
    simp
    omega
theorem text_blanks (a : Int) (h : -9000000000000 ≤ a ∧ a ≤ 9000000000000) : blanks (decText a) = 0 := by
  unfold decText blanks
  rw [if_pos h]
  have hd : ∀ X, ((Lib.decDigits (a.natAbs / 1000000) ++ X).takeWhile (· == (32 : UInt8))).length = 0 := by
    intro X
    have hne := dec_ne (a.natAbs / 1000000)
    have hall := dec_digits (a.natAbs / 1000000)
    cases e : Lib.decDigits (a.natAbs / 1000000) with
    | nil => exact absurd e hne
    | cons b r =>
      rw [e] at hall
      have hb := (isD_iff b).1 (hall b List.mem_cons_self)
      have : (b == 32) = false := by
        rw [beq_eq_false_iff_ne]
        intro e2
        rw [e2] at hb
        have h32 : (32 : UInt8).toNat = 32 := rfl
        omega
      rw [List.cons_append, List.takeWhile_cons, this]; simp
  unfold sgn
  by_cases hn : a < 0
  · rw [if_pos hn]; simp
  · rw [if_neg hn]; exact hd _
theorem round (a : Int) (h : -9000000000000 ≤ a ∧ a ≤ 9000000000000) : looksOf (decText a) = (a, true) := by
  have hb := text_blanks a h
  have hf : frontOf (decText a) = (a, ((decText a).length : Int)) := by
    unfold frontOf
    rw [hb]
    unfold decText
    rw [if_pos h]
    generalize ht : (if a.natAbs % 1000000 = 0 then [] else [46] ++ Lib.trimRightB ((Lib.decDigits (1000000 + a.natAbs % 1000000)).drop 1) 48) = t
    have key := fun p neg => tail_round p (a.natAbs / 1000000) (a.natAbs % 1000000) (by omega) (Nat.mod_lt _ (by omega)) neg t ht.symm
    by_cases hn : a < 0
    · have hs : sgn a = [45] := by unfold sgn; rw [if_pos hn]
      rw [hs]
      have h1 : ([45] ++ (Lib.decDigits (a.natAbs / 1000000) ++ t))[0]? = some (45 : UInt8) := rfl
      rw [h1, if_pos (.inl rfl)]
      have := key [45] true
      rw [show ([45] : List UInt8).length = 0 + 1 from rfl] at this
      rw [show (some (45 : UInt8) == some 45) = true from rfl, this, if_pos rfl]
      congr 1
      omega
    · have hs : sgn a = [] := by unfold sgn; rw [if_neg hn]
      rw [hs, List.nil_append]
      have hne := dec_ne (a.natAbs / 1000000)
      have hall := dec_digits (a.natAbs / 1000000)
      have h1 : ∀ c : UInt8, isD c = false → ¬ (Lib.decDigits (a.natAbs / 1000000) ++ t)[0]? = some c := by
        intro c hc
        cases e : Lib.decDigits (a.natAbs / 1000000) with
        | nil => exact absurd e hne
        | cons b r =>
          rw [e] at hall
          have hb := hall b List.mem_cons_self
          rw [List.cons_append, List.getElem?_cons_zero]
          intro e2
          rw [Option.some.inj e2, hc] at hb
          simp at hb
      have h45 := h1 45 rfl
      rw [if_neg (fun x => x.elim h45 (h1 43 rfl))]
      have := key [] false
      rw [show ([] : List UInt8).length = 0 from rfl, List.nil_append] at this
      rw [show ((Lib.decDigits (a.natAbs / 1000000) ++ t)[0]? == some (45 : UInt8)) = false by rw [beq_eq_false_iff_ne]; exact h45, this, if_neg (by simp)]
      congr 1
      omega
  unfold looksOf
  rw [hf]
  have hl : (decText a).length ≠ 0 := by
    unfold decText
    rw [if_pos h]
    have := dec_ne (a.natAbs / 1000000)
    have := List.length_pos_iff.2 this
    simp only [List.length_append]; omega
  rw [if_neg (by show ¬ (((decText a).length : Nat) : Int) = 0; omega)]
  show (if ((decText a).drop (((decText a).length : Nat) : Int).toNat).all (· == 32) = true then (a, true) else (0, false)) = _
  rw [Int.toNat_natCast, List.drop_length]; rfl

/-! ### what is read is a number that is right -/
theorem tail_val (l : List UInt8) (q : Nat) (neg : Bool) : -9000000000000 ≤ (tailOf l q neg).1 ∧ (tailOf l q neg).1 ≤ 9000000000000 := by
  unfold tailOf
  simp only []
  have hall : ∀ e, ∀ b ∈ restOf l e, isD b = true := by
    intro e b hb
    unfold restOf at hb
    split at hb
    · exact run_all l _ b hb
    · simp at hb
  have hf := fr_bd (restOf l (q + (run l q).length)) 100000 (hall _) (by omega)
  split
  · exact ⟨by decide, by decide⟩
  · split
    · rename_i h
      cases neg
      · simp only [Bool.false_eq_true, if_false]; omega
      · simp only [if_true]; omega
    · exact ⟨by decide, by decide⟩
theorem front_val (l : List UInt8) : -9000000000000 ≤ (frontOf l).1 ∧ (frontOf l).1 ≤ 9000000000000 := tail_val _ _ _
theorem looks_val (l : List UInt8) : -9000000000000 ≤ (looksOf l).1 ∧ (looksOf l).1 ≤ 9000000000000 := by
  have h := front_val l
  unfold looksOf
  split
  · exact ⟨by decide, by decide⟩
  · split
    · exact h
    · exact ⟨by decide, by decide⟩
theorem looks_text (a : Int) : looksOf (decText a) = if -9000000000000 ≤ a ∧ a ≤ 9000000000000 then (a, true) else (0, false) := by
  by_cases h : -9000000000000 ≤ a ∧ a ≤ 9000000000000
  · rw [if_pos h, round a h]
  · rw [if_neg h]
    unfold decText
    rw [if_neg h]
    rfl
theorem text_len (a : Int) : (decText a).length ≤ 100 := by
  unfold decText
  by_cases h : -9000000000000 ≤ a ∧ a ≤ 9000000000000
  · rw [if_pos h]
    have h1 := dec_len (a.natAbs / 1000000) (by omega)
    have h2 := dec_len (1000000 + a.natAbs % 1000000) (by omega)
    have h3 := trim_le ((Lib.decDigits (1000000 + a.natAbs % 1000000)).drop 1)
    rw [List.length_drop] at h3
    have h4 : (sgn a).length ≤ 1 := by unfold sgn; split <;> simp
    simp only [List.length_append]
    split
    · simp; omega
    · simp only [List.length_append, List.length_singleton]; omega
  · rw [if_neg h]; simp

/-! ### draws: each says something, and keeps its place -/
theorem and255 (x : Int) : 0 ≤ Go.bits .and .i64 x 255 ∧ Go.bits .and .i64 x 255 ≤ 255 := by
  have e : Go.bits .and .i64 x 255 = IntKind.i64.wrap ((BitVec.ofInt 64 x &&& BitVec.ofInt 64 255).toNat : Nat) := rfl
  have h : (BitVec.ofInt 64 x &&& BitVec.ofInt 64 255).toNat ≤ 255 := by
    rw [BitVec.toNat_and]
    exact Nat.and_le_right
  rw [e, IntKind.wrap_i64]
  omega
theorem new_run (l : List Int) (_hl : l.length ≤ 9223372036854775806) (d : Nat) : ∀ (i : Nat) (s : Int), l.length - i = d → i ≤ l.length → ∃ t, spec_l1New.l0v l s (i : Int) = some (l, 0, t) := by
  induction d with
  | zero =>
    intro i s h1 h2
    rw [spec_l1New.l0v_eq, if_neg (by omega)]
    exact ⟨_, rfl⟩
  | succ d ih =>
    intro i s h1 h2
    rw [spec_l1New.l0v_eq, if_pos (by omega)]
    by_cases h : (i : Int) < 4000
    · rw [if_pos h, if_pos (by omega), wrap_in (n := (i : Int) + 1) (by omega) (by omega), show (i : Int) + 1 = ((i + 1 : Nat) : Int) by omega]
      exact ih (i + 1) _ (by omega) (by omega)
    · rw [if_neg h]
      exact ⟨_, rfl⟩
theorem draw_new (l : List Int) (hl : l.length ≤ 1048576) : ∃ t, spec_l1New.fv l = some (l, 0, t) := by
  rw [spec_l1New.fv_eq]
  exact new_run l (by omega) l.length 0 _ (by omega) (by omega)
/-- A draw's word: what it says has p, and its place stands in the row still. -/
def Draws {α : Type} (l : List Int) (o : Option (α × Int × Int)) (p : α → Prop) : Prop := ∃ r a s, o = some (r, a, s) ∧ p r ∧ 0 ≤ a ∧ a ≤ l.length
theorem draw_byte (l : List Int) (hl : l.length ≤ 1048576) (a s : Int) (h0 : 0 ≤ a) (h1 : a ≤ l.length) : Draws l (spec_l1Byte.f l a s) (fun r => 0 ≤ r ∧ r ≤ 255) := by
  unfold spec_l1Byte.f
  by_cases h : a < (l.length : Int)
  · rw [if_pos h, if_pos h0, wrap_in (n := a + 1) (by omega) (by omega)]
    exact ⟨_, _, _, rfl, and255 _, by omega, by omega⟩
  · rw [if_neg h]
    exact ⟨_, _, _, rfl, and255 _, h0, h1⟩
theorem draw_below (l : List Int) (hl : l.length ≤ 1048576) (a s n : Int) (h0 : 0 ≤ a) (h1 : a ≤ l.length) (hn : 0 < n) : Draws l (spec_l1Below.f l a s n) (fun r => 0 ≤ r ∧ r < n) := by
  unfold spec_l1Below.f
  rw [if_neg (by omega)]
  by_cases h : n ≤ 256
  · rw [if_pos h]
    obtain ⟨r, b, t, e, hr, hb0, hb1⟩ := draw_byte l hl a s h0 h1
    rw [e, Option.bind_some, if_neg (by omega)]
    refine ⟨_, _, _, rfl, ?_, hb0, hb1⟩
    simp only []
    rw [Int.tmod_eq_emod_of_nonneg hr.1]
    exact ⟨Int.emod_nonneg _ (by omega), Int.emod_lt_of_pos _ hn⟩
  · rw [if_neg h]
    obtain ⟨r1, b1, t1, e1, hr1, hb1, hb1'⟩ := draw_byte l hl a s h0 h1
    rw [e1, Option.bind_some]
    obtain ⟨r2, b2, t2, e2, hr2, hb2, hb2'⟩ := draw_byte l hl b1 t1 hb1 hb1'
    simp only []
    rw [e2, Option.bind_some]
    obtain ⟨r3, b3, t3, e3, hr3, hb3, hb3'⟩ := draw_byte l hl b2 t2 hb2 hb2'
    simp only []
    rw [e3, Option.bind_some]
    obtain ⟨r4, b4, t4, e4, hr4, hb4, hb4'⟩ := draw_byte l hl b3 t3 hb3 hb3'
    simp only []
    rw [e4, Option.bind_some, if_neg (by omega)]
    refine ⟨_, _, _, rfl, ?_, hb4, hb4'⟩
    simp only []
    rw [wrap_in (n := r1 * 16777216) (by omega) (by omega), wrap_in (n := r2 * 65536) (by omega) (by omega), wrap_in (n := r3 * 256) (by omega) (by omega), wrap_in (n := r1 * 16777216 + r2 * 65536) (by omega) (by omega), wrap_in (n := r1 * 16777216 + r2 * 65536 + r3 * 256) (by omega) (by omega), wrap_in (n := r1 * 16777216 + r2 * 65536 + r3 * 256 + r4) (by omega) (by omega), Int.tmod_eq_emod_of_nonneg (by omega)]
    exact ⟨Int.emod_nonneg _ (by omega), Int.emod_lt_of_pos _ hn⟩
theorem draw_once (l : List Int) (hl : l.length ≤ 1048576) (a s n : Int) (h0 : 0 ≤ a) (h1 : a ≤ l.length) (hn : 0 < n) : Draws l (spec_l1Once.f l a s n) (fun _ => True) := by
  unfold spec_l1Once.f
  obtain ⟨r, b, t, e, _, hb0, hb1⟩ := draw_below l hl a s n h0 h1 hn
  rw [e, Option.bind_some]
  exact ⟨_, _, _, rfl, trivial, hb0, hb1⟩
theorem draw_pick (l : List Int) (hl : l.length ≤ 1048576) (a s : Int) (m : List Int) (p : Int → Prop) (h0 : 0 ≤ a) (h1 : a ≤ l.length) (hm : 0 < m.length) (hp : ∀ x ∈ m, p x) : Draws l (spec_l1PickInt.f l a s m) p := by
  unfold spec_l1PickInt.f
  obtain ⟨r, b, t, e, hr, hb0, hb1⟩ := draw_below l hl a s m.length h0 h1 (by omega)
  rw [e, Option.bind_some, if_pos hr.1, if_pos hr.2]
  obtain ⟨j, rfl⟩ := Int.eq_ofNat_of_zero_le hr.1
  refine ⟨_, _, _, rfl, ?_, hb0, hb1⟩
  simp only []
  rw [rd_nat m j (by omega)]
  exact hp _ (List.getElem_mem _)

/-- It fits into a whole number. -/
def In64 (n : Int) : Prop := -9223372036854775808 ≤ n ∧ n ≤ 9223372036854775807
theorem draw_dec (l : List Int) (hl : l.length ≤ 1048576) (a s : Int) (h0 : 0 ≤ a) (h1 : a ≤ l.length) : Draws l (spec_l1DrawDec.f l a s) In64 := by
  unfold spec_l1DrawDec.f
  obtain ⟨r, b, t, e, hr, hb0, hb1⟩ := draw_pick l hl a s ([0, 1000000, (-1000000), 1, (-1), 2500000, (-3333333), 7000000, 123456789, 9000000000000, (-9000000000000), 3000000000000, 1500] : List Int) In64 h0 h1 (by decide) (by
    intro x hx
    unfold In64
    simp only [List.mem_cons, List.not_mem_nil, or_false] at hx
    omega)
  rw [e, Option.bind_some]
  exact ⟨_, _, _, rfl, hr, hb0, hb1⟩
theorem draw_any (l : List Int) (hl : l.length ≤ 1048576) (a s : Int) (h0 : 0 ≤ a) (h1 : a ≤ l.length) : Draws l (spec_l1DrawAny.f l a s) In64 := by
  unfold spec_l1DrawAny.f
  obtain ⟨r, b, t, e, _, hb0, hb1⟩ := draw_once l hl a s 6 h0 h1 (by omega)
  rw [e, Option.bind_some]
  by_cases h : r = true
  · rw [if_pos h]
    obtain ⟨r2, b2, t2, e2, hr2, hc0, hc1⟩ := draw_pick l hl b t ([9000000000001, (-9000000000001), 9223372036854775807, (-9223372036854775808)] : List Int) In64 hb0 hb1 (by decide) (by
      intro x hx
      unfold In64
      simp only [List.mem_cons, List.not_mem_nil, or_false] at hx
      omega)
    simp only []
    rw [e2, Option.bind_some]
    exact ⟨_, _, _, rfl, hr2, hc0, hc1⟩
  · rw [if_neg h]
    obtain ⟨r2, b2, t2, e2, hr2, hc0, hc1⟩ := draw_dec l hl b t hb0 hb1
    simp only []
    rw [e2, Option.bind_some]
    exact ⟨_, _, _, rfl, hr2, hc0, hc1⟩

/-! ### drawn texts of numbers -/
theorem draw_str (l : List Int) (hl : l.length ≤ 1048576) (a s : Int) (m : List ByteArray) (p : ByteArray → Prop) (h0 : 0 ≤ a) (h1 : a ≤ l.length) (hm : 0 < m.length) (hp : ∀ x ∈ m, p x) : Draws l (spec_l1Pick.f l a s m) p := by
  unfold spec_l1Pick.f
  obtain ⟨r, b, t, e, hr, hb0, hb1⟩ := draw_below l hl a s m.length h0 h1 (by omega)
  rw [e, Option.bind_some, if_pos hr.1, if_pos hr.2]
  obtain ⟨j, rfl⟩ := Int.eq_ofNat_of_zero_le hr.1
  refine ⟨_, _, _, rfl, ?_, hb0, hb1⟩
  simp only []
  have e2 : rdOf ByteArray.empty m (j : Int) = m[j]'(by omega) := by
    unfold rdOf
    rw [Int.toNat_natCast]
    simp [List.getD, List.getElem?_eq_getElem (show j < m.length by omega)]
  rw [e2]
  exact hp _ (List.getElem_mem _)
theorem draw_text (l : List Int) (hl : l.length ≤ 1048576) (a s : Int) (h0 : 0 ≤ a) (h1 : a ≤ l.length) : Draws l (spec_l2DrawText.fv l a s) (fun r => r.size ≤ 1000) := by
  rw [spec_l2DrawText.fv_eq]
  obtain ⟨r1, a1, s1, e1, p1, h10, h11⟩ := draw_str l hl a s ([(⟨#[]⟩ : ByteArray), (⟨#[32, 32]⟩ : ByteArray), (⟨#[45]⟩ : ByteArray), (⟨#[43]⟩ : ByteArray)] : List ByteArray) (fun r => r.size ≤ 100) h0 h1 (by decide) (by decide)
  rw [e1, Option.bind_some]
  simp only []
  obtain ⟨r2, a2, s2, e2, _, h20, h21⟩ := draw_dec l hl a1 s1 h10 h11
  have hs := text_len r2
  rw [e2, Option.bind_some]
  simp only []
  rw [text_spec, Option.bind_some, B_size, if_pos (by omega)]
  obtain ⟨r3, a3, s3, e3, p3, h30, h31⟩ := draw_str l hl a2 s2 ([(⟨#[]⟩ : ByteArray), (⟨#[32]⟩ : ByteArray), (⟨#[120]⟩ : ByteArray), (⟨#[46]⟩ : ByteArray), (⟨#[48]⟩ : ByteArray), (⟨#[46, 53]⟩ : ByteArray)] : List ByteArray) (fun r => r.size ≤ 100) h20 h21 (by decide) (by decide)
  rw [e3, Option.bind_some]
  simp only []
  rw [ByteArray.size_append, B_size, if_pos (by omega)]
  generalize hT : (r1 ++ B (decText r2)) ++ r3 = T
  have hT2 : T.size ≤ 300 := by rw [← hT]; simp only [ByteArray.size_append, B_size]; omega
  have hS : (r1.size : Int) + ((decText r2).length : Int) + (r3.size : Int) = (T.size : Int) := by rw [← hT]; simp only [ByteArray.size_append, B_size]; omega
  rw [hS, wrap_in (by omega) (by omega)]
  obtain ⟨r4, a4, s4, e4, p4, h40, h41⟩ := draw_below l hl a3 s3 ((T.size : Int) + 1) h30 h31 (by omega)
  rw [e4, Option.bind_some]
  simp only []
  obtain ⟨r5, a5, s5, e5, p5, h50, h51⟩ := draw_below l hl a4 s4 7 h40 h41 (by omega)
  rw [e5, Option.bind_some]
  simp only []
  by_cases k0 : r5 = 0
  · rw [if_pos k0, if_pos p4.1, if_pos (by omega)]
    obtain ⟨r6, a6, s6, e6, p6, h60, h61⟩ := draw_str l hl a5 s5 ([(⟨#[48]⟩ : ByteArray), (⟨#[45]⟩ : ByteArray), (⟨#[32]⟩ : ByteArray), (⟨#[46]⟩ : ByteArray), (⟨#[57]⟩ : ByteArray), (⟨#[48, 48]⟩ : ByteArray)] : List ByteArray) (fun r => r.size ≤ 100) h50 h51 (by decide) (by decide)
    rw [e6, Option.bind_some]
    simp only []
    have g1 : (T.extract 0 r4.toNat).size ≤ 300 := by rw [ByteArray.size_extract]; omega
    have g2 : (T.extract r4.toNat T.size).size ≤ 300 := by rw [ByteArray.size_extract]; omega
    rw [if_pos (by omega)]
    simp only [ByteArray.size_append]
    rw [if_pos (by omega)]
    refine ⟨_, _, _, rfl, ?_, h60, h61⟩
    simp only [ByteArray.size_append]
    omega
  · rw [if_neg k0]
    by_cases k1 : r5 = 1
    · rw [if_pos k1, if_pos p4.1, if_pos (by omega)]
      refine ⟨_, _, _, rfl, ?_, h50, h51⟩
      simp only [ByteArray.size_extract]; omega
    · rw [if_neg k1]
      by_cases k2 : r5 = 2
      · rw [if_pos k2]
        obtain ⟨r6, a6, s6, e6, p6, h60, h61⟩ := draw_str l hl a5 s5 ([(⟨#[]⟩ : ByteArray), (⟨#[97, 98, 99]⟩ : ByteArray), (⟨#[57, 48, 48, 48, 48, 48, 48]⟩ : ByteArray), (⟨#[57, 48, 48, 48, 48, 48, 48, 46, 48, 48, 48, 48, 48, 49]⟩ : ByteArray), (⟨#[57, 57, 57, 57, 57, 57, 57, 57, 57, 57, 57, 57, 57, 57, 57, 57, 57, 57, 57, 57, 57, 57, 57]⟩ : ByteArray), (⟨#[48, 46, 48, 48, 48, 48, 48, 48, 49]⟩ : ByteArray), (⟨#[46, 53]⟩ : ByteArray), (⟨#[49, 46]⟩ : ByteArray), (⟨#[45, 32, 49]⟩ : ByteArray)] : List ByteArray) (fun r => r.size ≤ 100) h50 h51 (by decide) (by decide)
        rw [e6, Option.bind_some]
        exact ⟨_, _, _, rfl, Nat.le_trans p6 (by decide), h60, h61⟩
      · rw [if_neg k2]
        exact ⟨_, _, _, rfl, Nat.le_trans hT2 (by decide), h50, h51⟩
end FnNumbersAid
open FnNumbersAid

theorem draw_decText (l : List Int) (hl : l.length ≤ 1048576) : ∃ n, spec_DrawDecText.fv l = some n := by
  obtain ⟨t, e⟩ := draw_new l hl
  obtain ⟨r, a, s, e1, _, _, _⟩ := draw_any l hl 0 t (by omega) (by omega)
  rw [spec_DrawDecText.fv_eq, e, Option.bind_some]
  simp only []
  rw [e1]; exact ⟨_, rfl⟩
theorem draw_looks (l : List Int) (hl : l.length ≤ 1048576) : ∃ s, spec_DrawDecLooks.fv l = some (B s) ∧ s.length ≤ 1000 := by
  obtain ⟨t, e⟩ := draw_new l hl
  obtain ⟨r, a, s, e1, h1, _, _⟩ := draw_text l hl 0 t (by omega) (by omega)
  rw [spec_DrawDecLooks.fv_eq, e, Option.bind_some]
  simp only []
  rw [e1]
  exact ⟨r.data.toList, congrArg some (B_self r).symm, by rw [← B_size, B_self]; exact h1⟩
theorem draw_front (l : List Int) (hl : l.length ≤ 1048576) : ∃ s, spec_DrawDecFront.fv l = some (B s) ∧ s.length ≤ 1000 := by
  obtain ⟨t, e⟩ := draw_new l hl
  obtain ⟨r, a, s, e1, h1, _, _⟩ := draw_text l hl 0 t (by omega) (by omega)
  rw [spec_DrawDecFront.fv_eq, e, Option.bind_some]
  simp only []
  rw [e1]
  exact ⟨r.data.toList, congrArg some (B_self r).symm, by rw [← B_size, B_self]; exact h1⟩
theorem last_ok (x : Int) (h : -9000000000000 ≤ x ∧ x ≤ 9000000000000) : laws_FnNumbers.j1v x false = some true := by
  have := text_len x
  rw [laws_FnNumbers.j1v_eq, if_neg (by simp), text_impl, Option.bind_some, looks_impl _ (by omega), Option.bind_some, looks_text, if_pos h]
  simp
theorem mid_ok (l : List Int) (hl : l.length ≤ 1048576) : laws_FnNumbers.j0v l false = some true := by
  obtain ⟨s, e, hs⟩ := draw_looks l hl
  obtain ⟨u, e2, hu⟩ := draw_front l hl
  have v1 := looks_val s
  have v2 := front_val u
  have v3 := front_bd u
  rw [laws_FnNumbers.j0v_eq, if_neg (by simp), e, Option.bind_some, looks_impl s (by omega), Option.bind_some, looks_spec s (by omega), Option.bind_some, e2, Option.bind_some, front_impl u (by omega), Option.bind_some, front_spec u (by omega), Option.bind_some]
  rw [if_neg (by simp), if_pos rfl, if_pos rfl, if_pos rfl, B_size, if_neg (by omega), decok_impl, Option.bind_some, if_pos (by simpa using v2), decok_impl, Option.bind_some, decide_eq_true v1]
  exact last_ok _ v1
theorem FnNumbers : laws_FnNumbers.Pure := by
  intro l _
  refine (laws_FnNumbers.f_lim l).get ?_
  rw [laws_FnNumbers.fv_eq]
  unfold laws_big.f
  rw [Option.bind_some]
  by_cases hb : (l.length : Int) > 1048576
  · rw [if_pos (by simpa using hb)]
  · rw [if_neg (by simpa using hb)]
    have hl : l.length ≤ 1048576 := by omega
    obtain ⟨n, e⟩ := draw_decText l hl
    have ht := text_len n
    rw [e, Option.bind_some, text_impl, Option.bind_some, looks_impl _ (by omega), Option.bind_some, text_spec, Option.bind_some, if_pos rfl, decok_impl, Option.bind_some, looks_text]
    have hm := mid_ok l hl
    by_cases h : -9000000000000 ≤ n ∧ n ≤ 9000000000000
    · rw [if_pos h, decide_eq_true h, if_neg (by simp), if_pos rfl, show (n != n) = false by simp]
      exact hm
    · rw [if_neg h, decide_eq_false h, if_neg (by simp), if_neg (by simp)]
      exact hm

end Go.Proofs.YtejndaljfbclnaaDoor.Pure
