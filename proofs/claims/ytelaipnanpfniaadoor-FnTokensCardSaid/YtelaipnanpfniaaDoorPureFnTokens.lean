/- Each token of a drawn text begins where it is told, one behind the other; the last one is the end. -/
import Derived.Test.YtelaipnanpfniaaDoorQFnTokensx6
import Derived.Test.YtelaipnanpfniaaDoorWFnTokens
import Derived.Lib.ItoaLen
namespace Go.Proofs.YtelaipnanpfniaaDoor.Pure
open Go.RowKit Go.Proofs.YtelaipnanpfniaaDoor.QFnTokens Go.Proofs.YtelaipnanpfniaaDoorW.PrintWords Go.Proofs.YtelaipnanpfniaaDoorW.PrintLast Go.Proofs.YtelaipnanpfniaaDoorW.PrintMore Go.Proofs.YtelaipnanpfniaaDoorW.Lims
namespace FnTokensAid

theorem rdin32 (xs : List S32) (i : Nat) (h : i < xs.length) : rd_T32 xs (i : Int) = xs[i] := by
  unfold rd_T32
  simp [List.getD_eq_getElem?_getD, h]


/-! ### texts as rows of bytes -/
def B (l : List UInt8) : ByteArray := ⟨l.toArray⟩
theorem B_self (s : ByteArray) : B s.data.toList = s := by cases s; simp [B]
theorem B_size (l : List UInt8) : (B l).size = l.length := by show l.toArray.size = l.length; simp
theorem B_data (l : List UInt8) : (B l).data.toList = l := by simp [B]
theorem B_append (a b : List UInt8) : B a ++ B b = B (a ++ b) := by
  apply ByteArray.ext
  rw [ByteArray.data_append]
  simp [B]
theorem B_inj {a b : List UInt8} (h : B a = B b) : a = b := by
  have := congrArg (fun s : ByteArray => s.data.toList) h
  simpa [B] using this
theorem B_extract (l : List UInt8) (i j : Nat) : (B l).extract i j = B ((l.drop i).take (j - i)) := by rw [Lib.extract_eq, B_data]; rfl
theorem B_toList (l : List UInt8) : (B l).toList = l := by rw [Lib.toList_data, B_data]
theorem B_bt (l : List UInt8) (i : Nat) (h : i < l.length) : bt (B l) (i : Int) = (l[i].toNat : Int) := by
  have h' : (i : Int).toNat < (B l).size := by rw [Int.toNat_natCast, B_size]; exact h
  rw [← bt_at (B l) i h']
  rfl
theorem wrap_in {n : Int} (h0 : -9223372036854775808 ≤ n) (h1 : n ≤ 9223372036854775807) : wrap64 n = n := by unfold wrap64; omega
theorem byte_is (b c : UInt8) (n : Int) (hc : (c.toNat : Int) = n) : ((b.toNat : Int) = n) ↔ b = c := by
  rw [← UInt8.toNat_inj, ← hc]; omega
theorem byte_ofNat (n : Nat) (h : n < 256) : (UInt8.ofNat n).toNat = n := by rw [UInt8.toNat_ofNat']; omega

/-! ### rows of digits -/
def isD (b : UInt8) : Bool := decide (48 ≤ b.toNat) && decide (b.toNat ≤ 57)
def run (l : List UInt8) (i : Nat) : List UInt8 := (l.drop i).takeWhile isD
theorem run_end (l : List UInt8) (i : Nat) (h : l.length ≤ i) : run l i = [] := by unfold run; rw [List.drop_eq_nil_of_le h]; rfl
theorem run_step (l : List UInt8) (i : Nat) (h : i < l.length) : run l i = if isD l[i] then l[i] :: run l (i + 1) else [] := by
  unfold run
  rw [List.drop_eq_getElem_cons h, List.takeWhile_cons]
theorem run_le (l : List UInt8) (i : Nat) (h : i ≤ l.length) : i + (run l i).length ≤ l.length := by
  have h1 : (run l i).length ≤ (l.drop i).length := (List.takeWhile_sublist _).length_le
  rw [List.length_drop] at h1; omega
theorem run_all (l : List UInt8) (i : Nat) : ∀ b ∈ run l i, isD b = true := fun b hb => by
  have := List.all_takeWhile (p := isD) (l := l.drop i)
  exact List.all_eq_true.1 this b hb
theorem run_take (l : List UInt8) (i : Nat) : (l.drop i).take (run l i).length = run l i := by
  have := List.prefix_iff_eq_take.1 (List.takeWhile_prefix isD (l := l.drop i))
  exact this.symm
theorem isD_iff (b : UInt8) : isD b = true ↔ 48 ≤ b.toNat ∧ b.toNat ≤ 57 := by unfold isD; simp
theorem dig_spec (b : UInt8) : spec_l2Digit.f (b.toNat : Int) = some (isD b) := by
  unfold spec_l2Digit.f isD
  by_cases h : 48 ≤ b.toNat
  · rw [if_pos (by omega)]; simp [h]; omega
  · rw [if_neg (by omega)]; simp [h]
def acc (n : Int) : List UInt8 → Int
  | [] => n
  | b :: r => acc (if n ≤ 9000000000000 then 10 * n + ((b.toNat : Int) - 48) * 1000000 else n) r
def fr (n u : Int) : List UInt8 → Int
  | [] => n
  | b :: r => fr (n + ((b.toNat : Int) - 48) * u) (u / 10) r
def val (a : Nat) : List UInt8 → Nat
  | [] => a
  | b :: r => val (a * 10 + (b.toNat - 48)) r
theorem acc_bd (l : List UInt8) : ∀ n : Int, (∀ b ∈ l, isD b = true) → 0 ≤ n → n ≤ 100000000000000 → 0 ≤ acc n l ∧ acc n l ≤ 100000000000000 := by
  induction l with
  | nil => intro n _ h0 h1; exact ⟨h0, h1⟩
  | cons b r ih =>
    intro n hl h0 h1
    have hb := (isD_iff b).1 (hl b List.mem_cons_self)
    refine ih _ (fun c hc => hl c (List.mem_cons_of_mem _ hc)) ?_ ?_ <;> split <;> omega
theorem acc_stop (l : List UInt8) : ∀ n : Int, 9000000000000 < n → acc n l = n := by
  induction l with
  | nil => intro n _; rfl
  | cons b r ih => intro n h; unfold acc; rw [if_neg (by omega)]; exact ih n h
theorem val_ge (l : List UInt8) : ∀ a : Nat, a ≤ val a l := by
  induction l with
  | nil => intro a; exact Nat.le_refl _
  | cons b r ih => intro a; unfold val; exact Nat.le_trans (by omega) (ih _)
theorem acc_val (l : List UInt8) : ∀ v : Nat, (∀ b ∈ l, isD b = true) → v ≤ 9000000 → (val v l ≤ 9000000 → acc ((v : Int) * 1000000) l = (val v l : Int) * 1000000) ∧ (9000000 < val v l → 9000000000000 < acc ((v : Int) * 1000000) l) := by
  induction l with
  | nil => intro v _ h; exact ⟨fun _ => rfl, fun h2 => by unfold val at h2; omega⟩
  | cons b r ih =>
    intro v hl h
    have hb := (isD_iff b).1 (hl b List.mem_cons_self)
    unfold acc val
    rw [if_pos (by omega), show 10 * ((v : Int) * 1000000) + ((b.toNat : Int) - 48) * 1000000 = ((v * 10 + (b.toNat - 48) : Nat) : Int) * 1000000 by omega]
    generalize hv : v * 10 + (b.toNat - 48) = v2
    by_cases h2 : v2 ≤ 9000000
    · exact ih v2 (fun c hc => hl c (List.mem_cons_of_mem _ hc)) h2
    · have := val_ge r v2
      refine ⟨fun h3 => by omega, fun _ => ?_⟩
      rw [acc_stop _ _ (by omega)]; omega
theorem fr_add (l : List UInt8) : ∀ n u : Int, fr n u l = n + fr 0 u l := by
  induction l with
  | nil => intro n u; simp [fr]
  | cons b r ih =>
    intro n u
    unfold fr
    rw [ih (n + _), ih (0 + _)]; omega
theorem fr_bd (l : List UInt8) : ∀ u : Int, (∀ b ∈ l, isD b = true) → 0 ≤ u → 0 ≤ fr 0 u l ∧ fr 0 u l ≤ 10 * u := by
  induction l with
  | nil => intro u _ h; unfold fr; omega
  | cons b r ih =>
    intro u hl h
    have hb := (isD_iff b).1 (hl b List.mem_cons_self)
    unfold fr
    rw [fr_add]
    have := ih (u / 10) (fun c hc => hl c (List.mem_cons_of_mem _ hc)) (by omega)
    obtain ⟨d, hd, hd2⟩ : ∃ d : Nat, (b.toNat : Int) - 48 = d ∧ d ≤ 9 := ⟨b.toNat - 48, by omega, by omega⟩
    rw [hd]
    have hm : (d : Int) * u ≤ 9 * u := Int.mul_le_mul_of_nonneg_right (by omega) h
    have hm0 : 0 ≤ (d : Int) * u := Int.mul_nonneg (by omega) h
    omega

/-! ### the reference's loops -/
theorem spec_l1 (l : List UInt8) (hl : l.length ≤ 1048576) (neg : Bool) (d : Nat) : ∀ (i : Nat) (n many : Int), l.length - i ≤ d → i ≤ l.length → 0 ≤ n → n ≤ 100000000000000 → 0 ≤ many → many + (l.length - i : Nat) ≤ 2000000 →
    spec_DecFront.l1v (B l) (i : Int) neg n many = spec_DecFront.j6v (B l) ((i + (run l i).length : Nat) : Int) neg (acc n (run l i)) (many + ((run l i).length : Int)) false := by
  induction d with
  | zero =>
    intro i n many h1 h2 _ _ _ _
    rw [spec_DecFront.l1v_eq, if_neg (by rw [B_size]; omega), run_end l i (by omega)]
    simp [acc]
  | succ d ih =>
    intro i n many h1 h2 h3 h4 h5 h6
    rw [spec_DecFront.l1v_eq]
    by_cases h : i < l.length
    · rw [if_pos (by rw [B_size]; omega), if_pos (by omega), B_bt l i h, dig_spec, Option.bind_some, run_step l i h]
      by_cases hd : isD l[i] = true
      · have hb := (isD_iff _).1 hd
        rw [hd, if_pos rfl, spec_DecFront.j6v_eq, if_pos rfl]
        have e1 : wrap64 ((i : Int) + 1) = ((i + 1 : Nat) : Int) := by rw [wrap_in (by omega) (by omega)]; omega
        have e2 : wrap64 (many + 1) = many + 1 := wrap_in (by omega) (by omega)
        by_cases hn : n ≤ 9000000000000
        · rw [if_pos hn, if_pos (by omega), if_pos (by rw [B_size]; omega), B_bt l i h, e1, e2, wrap_in (n := ((l[i].toNat : Nat) : Int)) (by omega) (by omega), wrap_in (n := 10 * n) (by omega) (by omega), wrap_in (n := (l[i].toNat : Int) - 48) (by omega) (by omega), wrap_in (n := ((l[i].toNat : Int) - 48) * 1000000) (by omega) (by omega), wrap_in (by omega) (by omega)]
          rw [ih (i + 1) _ _ (by omega) (by omega) (by omega) (by omega) (by omega) (by omega)]
          simp only [List.length_cons, acc, if_pos hn]
          congr 1 <;> omega
        · rw [if_neg hn, e1, e2, ih (i + 1) _ _ (by omega) (by omega) (by omega) (by omega) (by omega) (by omega)]
          simp only [List.length_cons, acc, if_neg hn]
          congr 1 <;> omega
      · rw [Bool.not_eq_true] at hd
        rw [hd]
        simp [acc]
    · rw [if_neg (by rw [B_size]; omega), run_end l i (by omega)]
      simp [acc]
theorem spec_l2 (l : List UInt8) (hl : l.length ≤ 1048576) (neg : Bool) (d : Nat) : ∀ (i : Nat) (n many u : Int), l.length - i ≤ d → i ≤ l.length → 0 ≤ n → 0 ≤ u → u ≤ 100000 → n + 10 * u ≤ 200000000000000 → 0 ≤ many → many + (l.length - i : Nat) ≤ 4000000 →
    spec_DecFront.l2v (B l) (i : Int) neg n many u = spec_DecFront.j9v ((i + (run l i).length : Nat) : Int) neg (fr n u (run l i)) (many + ((run l i).length : Int)) := by
  induction d with
  | zero =>
    intro i n many u h1 h2 _ _ _ _ _ _
    rw [spec_DecFront.l2v_eq, if_neg (by rw [B_size]; omega), run_end l i (by omega)]
    simp [fr]
  | succ d ih =>
    intro i n many u h1 h2 h3 h4 h5 h6 h7 h8
    rw [spec_DecFront.l2v_eq]
    by_cases h : i < l.length
    · rw [if_pos (by rw [B_size]; omega), if_pos (by omega), B_bt l i h, dig_spec, Option.bind_some, run_step l i h]
      by_cases hd : isD l[i] = true
      · have hb := (isD_iff _).1 hd
        rw [hd, if_pos rfl, if_pos rfl]
        obtain ⟨q, hq, hq2⟩ : ∃ q : Nat, (l[i].toNat : Int) - 48 = q ∧ q ≤ 9 := ⟨l[i].toNat - 48, by omega, by omega⟩
        have hm : (q : Int) * u ≤ 9 * u := Int.mul_le_mul_of_nonneg_right (by omega) h4
        have hm0 : 0 ≤ (q : Int) * u := Int.mul_nonneg (by omega) h4
        rw [show wrap64 ((i : Int) + 1) = ((i + 1 : Nat) : Int) by rw [wrap_in (by omega) (by omega)]; omega, wrap_in (n := many + 1) (by omega) (by omega), wrap_in (n := ((l[i].toNat : Nat) : Int)) (by omega) (by omega), hq, wrap_in (n := (q : Int)) (by omega) (by omega), wrap_in (n := (q : Int) * u) (by omega) (by omega), wrap_in (n := n + (q : Int) * u) (by omega) (by omega), Int.tdiv_eq_ediv_of_nonneg h4, wrap_in (n := u / 10) (by omega) (by omega)]
        rw [ih (i + 1) _ _ _ (by omega) (by omega) (by omega) (by omega) (by omega) (by omega) (by omega) (by omega)]
        simp only [List.length_cons, fr, hq]
        congr 1 <;> omega
      · rw [Bool.not_eq_true] at hd
        rw [hd]
        simp [fr]
    · rw [if_neg (by rw [B_size]; omega), run_end l i (by omega)]
      simp [fr]

/-! ### what both come to, behind blanks and sign -/
def restOf (l : List UInt8) (e : Nat) : List UInt8 := if l[e]? = some 46 then run l (e + 1) else []
def tailOf (l : List UInt8) (q : Nat) (neg : Bool) : Int × Int :=
  let ws := run l q; let e := q + ws.length; let rs := restOf l e
  if ws = [] ∧ rs = [] then (0, 0) else
  let n : Int := (val 0 ws : Int) * 1000000 + fr 0 100000 rs
  if n ≤ 9000000000000 then (if neg then -n else n, ((if rs = [] then e else e + 1 + rs.length : Nat) : Int)) else (0, 0)
theorem spec_j9 (e : Nat) (neg : Bool) (n many : Int) (_he : e ≤ 2000000) (h0 : 0 ≤ n) (h1 : n ≤ 200000000000000) : spec_DecFront.j9v (e : Int) neg n many = some (if many = 0 then (0, 0) else if n ≤ 9000000000000 then (if neg then -n else n, (e : Int)) else (0, 0)) := by
  rw [spec_DecFront.j9v_eq]
  by_cases h : many = 0
  · rw [if_pos h, if_pos h, spec_DecFront.j10v_eq, if_pos rfl]
  · rw [if_neg h, if_neg h, spec_DecFront.j10v_eq]
    by_cases hn : n ≤ 9000000000000
    · rw [if_neg (by simpa using hn), if_pos hn]
      cases neg
      · simp
      · rw [if_pos rfl, wrap_in (by omega) (by omega)]; simp
    · rw [if_pos (by simpa using hn), if_neg hn]
theorem ws_bd (l : List UInt8) (q : Nat) : (val 0 (run l q) ≤ 9000000 → acc 0 (run l q) = (val 0 (run l q) : Int) * 1000000) ∧ (9000000 < val 0 (run l q) → 9000000000000 < acc 0 (run l q)) := by
  have := acc_val (run l q) 0 (run_all l q) (by omega)
  simpa using this
theorem spec_tail (l : List UInt8) (hl : l.length ≤ 1048576) (q : Nat) (hq : q ≤ l.length) (neg : Bool) : spec_DecFront.j4v (B l) (q : Int) neg = some (tailOf l q neg) := by
  rw [spec_DecFront.j4v_eq, spec_l1 l hl neg _ q 0 0 (Nat.le_refl _) hq (by omega) (by omega) (by omega) (by omega)]
  have hr := run_le l q hq
  have hab := acc_bd (run l q) 0 (run_all l q) (by omega) (by omega)
  obtain ⟨hv1, hv2⟩ := ws_bd l q
  unfold tailOf
  simp only []
  generalize hw : run l q = ws at *
  generalize he : q + ws.length = e at *
  rw [spec_DecFront.j6v_eq, if_neg (by simp)]
  have e1 : wrap64 ((e : Int) + 1) = ((e + 1 : Nat) : Int) := by rw [wrap_in (by omega) (by omega)]; omega
  rw [e1]
  have hnone : restOf l e = [] → spec_DecFront.j7v (B l) (e : Int) neg (acc 0 ws) (0 + (ws.length : Int)) false = some (if ws = [] ∧ restOf l e = [] then (0, 0) else if (val 0 ws : Int) * 1000000 + fr 0 100000 (restOf l e) ≤ 9000000000000 then (if neg then -((val 0 ws : Int) * 1000000 + fr 0 100000 (restOf l e)) else (val 0 ws : Int) * 1000000 + fr 0 100000 (restOf l e), ((if restOf l e = [] then e else e + 1 + (restOf l e).length : Nat) : Int)) else (0, 0)) := by
    intro h0
    rw [spec_DecFront.j7v_eq, if_neg (by simp), spec_j9 e neg _ _ (by omega) (by omega) (by omega), h0]
    by_cases hws : ws = []
    · subst hws; simp
    · have hlen : 0 < ws.length := List.length_pos_iff.2 hws
      have c1 : ¬ (0 + (ws.length : Int) = 0) := by omega
      have c2 : ¬ (ws = [] ∧ ([] : List UInt8) = []) := fun x => hws x.1
      rw [if_neg c1, if_neg c2]
      simp only [fr, Int.add_zero, if_true]
      by_cases hv : val 0 ws ≤ 9000000
      · rw [hv1 hv]
      · have h9 := hv2 (by omega)
        have c3 : ¬ (acc 0 ws ≤ 9000000000000) := by omega
        have c4 : ¬ ((val 0 ws : Int) * 1000000 ≤ 9000000000000) := by omega
        rw [if_neg c3, if_neg c4]
  by_cases h1 : e + 1 < l.length
  · have hel : e < l.length := by omega
    rw [if_pos (by rw [B_size]; omega), if_pos (by omega), if_pos (by rw [B_size]; omega), B_bt l e hel]
    have hdot := byte_is l[e] 46 46 rfl
    by_cases hd : l[e] = 46
    · rw [if_pos (hdot.2 hd), if_pos (by omega), B_bt l (e + 1) h1, dig_spec, Option.bind_some]
      have hrest : restOf l e = run l (e + 1) := by unfold restOf; rw [List.getElem?_eq_getElem hel, hd, if_pos rfl]
      by_cases hdd : isD l[e + 1] = true
      · rw [hdd, spec_DecFront.j7v_eq, if_pos rfl, e1, spec_l2 l hl neg _ (e + 1) _ _ _ (Nat.le_refl _) (by omega) (by omega) (by omega) (by omega) (by omega) (by omega) (by omega), fr_add]
        have hne : run l (e + 1) ≠ [] := by rw [run_step l (e + 1) h1, hdd]; simp
        have hlen : 0 < (run l (e + 1)).length := List.length_pos_iff.2 hne
        have hr2 := run_le l (e + 1) (by omega)
        have hf := fr_bd (run l (e + 1)) 100000 (run_all _ _) (by omega)
        have c1 : ¬ (0 + (ws.length : Int) + ((run l (e + 1)).length : Int) = 0) := by omega
        have c2 : ¬ (ws = [] ∧ run l (e + 1) = []) := fun x => hne x.2
        rw [spec_j9 _ neg _ _ (by omega) (by omega) (by omega), hrest, if_neg c1, if_neg c2, if_neg hne]
        by_cases hv : val 0 ws ≤ 9000000
        · rw [hv1 hv]
        · have h9 := hv2 (by omega)
          have c3 : ¬ (acc 0 ws + fr 0 100000 (run l (e + 1)) ≤ 9000000000000) := by omega
          have c4 : ¬ ((val 0 ws : Int) * 1000000 + fr 0 100000 (run l (e + 1)) ≤ 9000000000000) := by omega
          rw [if_neg c3, if_neg c4]
      · rw [Bool.not_eq_true] at hdd
        rw [hdd]
        exact hnone (by rw [hrest, run_step l (e + 1) h1, hdd]; simp)
    · rw [if_neg (fun x => hd (hdot.1 x))]
      exact hnone (by unfold restOf; rw [List.getElem?_eq_getElem hel, if_neg (by simpa using hd)])
  · rw [if_neg (by rw [B_size]; omega)]
    refine hnone ?_
    unfold restOf
    split
    · exact run_end l _ (by omega)
    · rfl

/-! ### the program's side -/
theorem digs_loop (l : List UInt8) (hl : l.length ≤ 1048576) (i : Nat) (d : Nat) : ∀ k : Nat, l.length - (i + k) ≤ d → i + k ≤ l.length → impl_digitsAt.l0v (B l) (i : Int) (k : Int) = some ((k + (run l (i + k)).length : Nat) : Int) := by
  induction d with
  | zero =>
    intro k h1 h2
    rw [impl_digitsAt.l0v_eq, wrap_in (by omega) (by omega), if_neg (by rw [B_size]; omega), run_end l _ (by omega)]
    simp
  | succ d ih =>
    intro k h1 h2
    rw [impl_digitsAt.l0v_eq, wrap_in (n := (i : Int) + k) (by omega) (by omega)]
    by_cases h : i + k < l.length
    · rw [if_pos (by rw [B_size]; omega), if_pos (by omega), show (i : Int) + k = ((i + k : Nat) : Int) by omega, B_bt l (i + k) h, run_step l (i + k) h]
      by_cases hd : isD l[i + k] = true
      · have hb := (isD_iff _).1 hd
        rw [if_pos (by omega), if_pos (by omega), wrap_in (by omega) (by omega), show (k : Int) + 1 = ((k + 1 : Nat) : Int) by omega, ih (k + 1) (by omega) (by omega), hd]
        simp [Nat.add_assoc, Nat.add_comm]
      · have hb : ¬ (48 ≤ l[i + k].toNat ∧ l[i + k].toNat ≤ 57) := fun e => hd ((isD_iff _).2 e)
        rw [Bool.not_eq_true] at hd
        rw [hd]
        by_cases h48 : (l[i + k].toNat : Int) ≥ 48
        · rw [if_pos h48, if_neg (by omega)]; simp
        · rw [if_neg h48]; simp
    · rw [if_neg (by rw [B_size]; omega), run_end l _ (by omega)]
      simp
theorem digs (l : List UInt8) (hl : l.length ≤ 1048576) (i : Nat) (hi : i ≤ l.length) : impl_digitsAt.fv (B l) (i : Int) = some ((run l i).length : Int) := by
  rw [impl_digitsAt.fv_eq]
  have := digs_loop l hl i _ 0 (Nat.le_refl _) (by omega)
  simpa using this
theorem dec_val (ws : List UInt8) : ∀ a : Nat, (∀ b ∈ ws, isD b = true) → ∀ Y, Lib.decFrom a (ws ++ Y) = Lib.decFrom (val a ws) Y := by
  induction ws with
  | nil => intro a _ Y; rfl
  | cons b r ih =>
    intro a hl Y
    have hb := (isD_iff b).1 (hl b List.mem_cons_self)
    rw [List.cons_append, Lib.decFrom]
    have : Lib.digitVal b = some (b.toNat - 48) := by unfold Lib.digitVal; rw [if_pos hb]
    rw [this]
    exact ih _ (fun c hc => hl c (List.mem_cons_of_mem _ hc)) Y
theorem fr_cons (n u : Int) (b : UInt8) (r : List UInt8) : fr n u (b :: r) = fr (n + ((b.toNat : Int) - 48) * u) (u / 10) r := rfl
theorem atoi48 (x : List UInt8) : Lib.atoi (48 :: x) = (Lib.decNat (48 :: x)).map fun (m : Nat) => (m : Int) := by
  show (if ((48 : UInt8) == 45) = true then Option.map (fun m : Nat => -(m : Int)) (Lib.decNat x) else if ((48 : UInt8) == 43) = true then Option.map (fun m : Nat => (m : Int)) (Lib.decNat x) else Option.map (fun m : Nat => (m : Int)) (Lib.decNat (48 :: x))) = _
  rw [if_neg (by decide), if_neg (by decide)]
def ud : Nat → Int | 0 => 0 | k + 1 => 10 ^ k
theorem ud_div (k : Nat) : ud (k + 1) / 10 = ud k := by
  cases k with
  | zero => rfl
  | succ k => show (10 : Int) ^ (k + 1) / 10 = 10 ^ k; rw [Int.pow_succ]; omega
theorem pad (k : Nat) : ∀ (a : Nat) (rs : List UInt8) (z : Nat), k ≤ z → (∀ b ∈ rs, isD b = true) → ∃ m : Nat, Lib.decFrom a ((rs ++ List.replicate z 48).take k) = some m ∧ (m : Int) = (a : Int) * 10 ^ k + fr 0 (ud k) rs := by
  induction k with
  | zero =>
    intro a rs z _ hl
    refine ⟨a, by simp [Lib.decFrom], ?_⟩
    have : ∀ r : List UInt8, fr 0 0 r = 0 := by
      intro r
      induction r with
      | nil => rfl
      | cons b r ih => simp [fr, ih]
    simp [ud, this]
  | succ k ih =>
    intro a rs z hz hl
    have key : ∀ (b : UInt8) (X : List UInt8), isD b = true → Lib.decFrom a (b :: X) = Lib.decFrom (a * 10 + (b.toNat - 48)) X := by
      intro b X hb
      rw [Lib.decFrom]
      have : Lib.digitVal b = some (b.toNat - 48) := by unfold Lib.digitVal; rw [if_pos ((isD_iff b).1 hb)]
      rw [this]
    cases rs with
    | nil =>
      obtain ⟨z, rfl⟩ : ∃ y, z = y + 1 := ⟨z - 1, by omega⟩
      obtain ⟨m, hm, he⟩ := ih (a * 10 + 0) [] z (by omega) (by simp)
      refine ⟨m, ?_, ?_⟩
      · rw [List.nil_append, List.replicate_succ, List.take_succ_cons, key _ _ (by decide)]
        exact hm
      · rw [he]
        have e : ((a * 10 + 0 : Nat) : Int) = (a : Int) * 10 := by omega
        rw [show ∀ u, fr 0 u [] = 0 from fun _ => rfl, show ∀ u, fr 0 u [] = 0 from fun _ => rfl, e, Int.pow_succ, Int.mul_assoc, Int.mul_comm 10]
    | cons b r =>
      have hb := hl b List.mem_cons_self
      have hb2 := (isD_iff b).1 hb
      obtain ⟨m, hm, he⟩ := ih (a * 10 + (b.toNat - 48)) r z (by omega) (fun c hc => hl c (List.mem_cons_of_mem _ hc))
      refine ⟨m, ?_, ?_⟩
      · rw [List.cons_append, List.take_succ_cons, key _ _ hb]
        exact hm
      · rw [he]
        rw [fr_cons, fr_add r (0 + _), ud_div]
        have e : (((a * 10 + (b.toNat - 48) : Nat)) : Int) = (a : Int) * 10 + ((b.toNat : Int) - 48) := by omega
        rw [e, Int.add_mul, show ud (k + 1) = 10 ^ k from rfl, Int.pow_succ, Int.mul_assoc, Int.mul_comm 10, Int.zero_add, Int.add_assoc]
theorem val_trim (ws : List UInt8) : val 0 (ws.dropWhile (· == 48)) = val 0 ws := by
  induction ws with
  | nil => rfl
  | cons b r ih =>
    rw [List.dropWhile_cons]
    by_cases h : b = 48
    · subst h
      rw [if_pos (by simp), ih]; rfl
    · rw [if_neg (by simpa using h)]
theorem val_pow (ws : List UInt8) : ∀ a : Nat, a * 10 ^ ws.length ≤ val a ws := by
  induction ws with
  | nil =>
    intro a
    show a * 10 ^ 0 ≤ a
    rw [Nat.pow_zero, Nat.mul_one]
    exact Nat.le_refl _
  | cons b r ih =>
    intro a
    unfold val
    refine Nat.le_trans ?_ (ih _)
    rw [List.length_cons, Nat.pow_succ, Nat.mul_comm _ 10, ← Nat.mul_assoc]
    exact Nat.mul_le_mul_right _ (by omega)
theorem val_big (ws : List UInt8) (hd : ∀ b ∈ ws, isD b = true) (h : 7 < (ws.dropWhile (· == 48)).length) : 9000000 < val 0 ws := by
  rw [← val_trim]
  have hne : ∀ b r, ws.dropWhile (· == 48) = b :: r → b ≠ 48 := by
    intro b r e hb
    have := List.head_dropWhile_not (p := (· == (48 : UInt8))) (l := ws) (by rw [e]; simp)
    simp only [e, List.head_cons, hb] at this
    simp at this
  cases e : ws.dropWhile (· == 48) with
  | nil => rw [e] at h; simp at h
  | cons b r =>
    have h48 := hne b r e
    have hb := (isD_iff b).1 (hd b ((List.dropWhile_sublist _).subset (by rw [e]; exact List.mem_cons_self)))
    have hb3 : b.toNat ≠ 48 := fun x => h48 (UInt8.toNat_inj.1 x)
    unfold val
    have := val_pow r (0 * 10 + (b.toNat - 48))
    rw [e, List.length_cons] at h
    have hp : 10 ^ 7 ≤ 10 ^ r.length := Nat.pow_le_pow_right (by decide) (by omega)
    have : 1 * 10 ^ r.length ≤ (0 * 10 + (b.toNat - 48)) * 10 ^ r.length := Nat.mul_le_mul_right _ (by omega)
    omega
theorem trimL (l : List UInt8) (c : UInt8) (hc : c.toNat < 128) (hl : l.length ≤ 2000000) : strings_TrimLeft.f (B l) (⟨#[c]⟩ : ByteArray) = some (B (l.dropWhile (· == c))) := by
  unfold strings_TrimLeft.f
  simp only [B_data, B_size]
  rw [if_pos ⟨hc, by omega⟩]; rfl
theorem right_some (n : Int) : impl_right.f n = some (if -9000000000000 ≤ n ∧ n ≤ 9000000000000 then (n, true) else (0, false)) := by
  unfold impl_right.f impl_DecOk.f impl_in.f
  by_cases h : n ≥ -9000000000000
  · rw [if_pos h]
    by_cases h2 : n ≤ 9000000000000
    · simp [h2]; omega
    · simp [h2]
  · rw [if_neg h]; simp; omega
theorem mill (ws rs : List UInt8) (hw : ∀ b ∈ ws, isD b = true) (hr : ∀ b ∈ rs, isD b = true) (lw : ws.length ≤ 1048576) (lr : rs.length ≤ 1048576) :
    impl_millionths.f (B ws) (B rs) = some (if (val 0 ws : Int) * 1000000 + fr 0 100000 rs ≤ 9000000000000 then ((val 0 ws : Int) * 1000000 + fr 0 100000 rs, true) else (0, false)) := by
  have hf := fr_bd rs 100000 hr (by omega)
  unfold impl_millionths.f
  rw [trimL ws 48 (by decide) (by omega), Option.bind_some, show (⟨#[48, 48, 48, 48, 48, 48]⟩ : ByteArray) = B [48, 48, 48, 48, 48, 48] from rfl, show (⟨#[48]⟩ : ByteArray) = B [48] from rfl]
  simp only [B_append, B_size]
  rw [if_pos (by omega), if_pos (by omega), if_pos (by first | omega | (simp; omega))]
  by_cases h7 : 7 < (ws.dropWhile (· == 48)).length
  · rw [if_pos (by omega)]
    have := val_big ws hw h7
    rw [if_neg (by omega)]
  · rw [if_neg (by omega), if_pos (by omega), B_extract]
    have e6 : (List.drop 0 (rs ++ [48, 48, 48, 48, 48, 48])).take (6 - 0) = (rs ++ List.replicate 6 48).take 6 := rfl
    rw [e6]
    simp only [B_append, B_size]
    have hl6 : ((rs ++ List.replicate 6 48).take 6).length ≤ 6 := by rw [List.length_take]; omega
    rw [if_pos (by simp at hl6 ⊢; omega)]
    obtain ⟨m, hm, he⟩ := pad 6 (val 0 ws) rs 6 (by omega) hr
    have hat : Lib.atoi ([48] ++ ws.dropWhile (· == 48) ++ (rs ++ List.replicate 6 48).take 6) = some (m : Int) := by
      have hdw : ∀ b ∈ ws.dropWhile (· == 48), isD b = true := fun b hb => hw b ((List.dropWhile_sublist _).subset hb)
      have h1 : Lib.decNat ([48] ++ ws.dropWhile (· == 48) ++ (rs ++ List.replicate 6 48).take 6) = some m := by
        unfold Lib.decNat
        rw [if_neg (by simp), List.append_assoc, dec_val [48] 0 (by decide), dec_val _ _ hdw]
        rw [show val 0 [(48 : UInt8)] = 0 from rfl, val_trim]
        exact hm
      rw [List.append_assoc, List.singleton_append] at h1 ⊢
      rw [atoi48, h1]; rfl
    have hA : strconv_Atoi.f (B ([48] ++ ws.dropWhile (· == 48) ++ (rs ++ List.replicate 6 48).take 6)) = some ((m : Int), none) := by
      unfold strconv_Atoi.f
      rw [B_size, if_pos (by simp at hl6 ⊢; omega), B_data, hat]
    rw [hA, Option.bind_some]
    simp only []
    have he2 : (m : Int) = (val 0 ws : Int) * 1000000 + fr 0 100000 rs := by rw [he]; rfl
    rw [right_some, Option.bind_some, he2]
    by_cases hn : (val 0 ws : Int) * 1000000 + fr 0 100000 rs ≤ 9000000000000
    · rw [if_pos ⟨by omega, hn⟩, if_pos hn]
    · rw [if_neg (fun x => hn x.2), if_neg hn]
/-! ### blanks and sign -/
def blanks (l : List UInt8) : Nat := (l.takeWhile (· == 32)).length
def frontOf (l : List UInt8) : Int × Int := tailOf l (if l[blanks l]? = some 45 ∨ l[blanks l]? = some 43 then blanks l + 1 else blanks l) (l[blanks l]? == some 45)
theorem blanks_le (l : List UInt8) : blanks l ≤ l.length := (List.takeWhile_sublist _).length_le
theorem blanks_drop (l : List UInt8) : (l.dropWhile (· == 32)).length = l.length - blanks l := by
  have := congrArg List.length (List.takeWhile_append_dropWhile (p := (· == (32 : UInt8))) (l := l))
  rw [List.length_append] at this
  unfold blanks; omega
theorem spec_blank (l : List UInt8) (hl : l.length ≤ 1048576) (d : Nat) : ∀ i : Nat, l.length - i ≤ d → i ≤ l.length → spec_DecFront.l0v (B l) (i : Int) = spec_DecFront.j1v (B l) ((i + ((l.drop i).takeWhile (· == 32)).length : Nat) : Int) := by
  induction d with
  | zero =>
    intro i h1 h2
    rw [spec_DecFront.l0v_eq, if_neg (by rw [B_size]; omega), List.drop_eq_nil_of_le (by omega)]
    simp
  | succ d ih =>
    intro i h1 h2
    rw [spec_DecFront.l0v_eq]
    by_cases h : i < l.length
    · rw [if_pos (by rw [B_size]; omega), if_pos (by omega), B_bt l i h, List.drop_eq_getElem_cons h, List.takeWhile_cons]
      have hb := byte_is l[i] 32 32 rfl
      by_cases hd : l[i] = 32
      · rw [if_pos (hb.2 hd), wrap_in (by omega) (by omega), show (i : Int) + 1 = ((i + 1 : Nat) : Int) by omega, ih (i + 1) (by omega) (by omega), if_pos (by simpa using hd)]
        simp [Nat.add_assoc, Nat.add_comm]
      · rw [if_neg (fun x => hd (hb.1 x)), if_neg (by simpa using hd)]; simp
    · rw [if_neg (by rw [B_size]; omega), List.drop_eq_nil_of_le (by omega)]
      simp
theorem front_spec (l : List UInt8) (hl : l.length ≤ 1048576) : spec_DecFront.fv (B l) = some (frontOf l) := by
  rw [spec_DecFront.fv_eq]
  have h0 := spec_blank l hl _ 0 (Nat.le_refl _) (by omega)
  rw [List.drop_zero, Nat.zero_add] at h0
  have h0' : spec_DecFront.l0v (B l) 0 = spec_DecFront.j1v (B l) ((blanks l : Nat) : Int) := h0
  rw [h0', spec_DecFront.j1v_eq]
  have hp := blanks_le l
  unfold frontOf
  generalize blanks l = p at *
  by_cases h : p < l.length
  · rw [if_pos (by rw [B_size]; omega), if_pos (by omega), B_bt l p h, List.getElem?_eq_getElem h, spec_DecFront.j2v_eq, if_pos (by rw [B_size]; omega), if_pos (by omega), B_bt l p h]
    have h45 := byte_is l[p] 45 45 rfl
    have h43 := byte_is l[p] 43 43 rfl
    have e1 : wrap64 ((p : Int) + 1) = ((p + 1 : Nat) : Int) := by rw [wrap_in (by omega) (by omega)]; omega
    by_cases h1 : l[p] = 45
    · rw [if_pos (h45.2 h1), spec_DecFront.j3v_eq, if_pos rfl, e1, spec_tail l hl _ (by omega), if_pos (.inl (by rw [h1]))]
      simp [h1]
    · rw [if_neg (fun x => h1 (h45.1 x))]
      by_cases h2 : l[p] = 43
      · rw [show (((l[p].toNat : Nat) : Int) == 43) = true by simpa using h43.2 h2, spec_DecFront.j3v_eq, if_pos rfl, e1, spec_tail l hl _ (by omega), if_pos (.inr (by rw [h2]))]
        simp [h2]
      · rw [show (((l[p].toNat : Nat) : Int) == 43) = false by simpa using fun x => h2 (h43.1 x), spec_DecFront.j3v_eq, if_neg (by simp), spec_tail l hl _ hp, if_neg (by simp [h1, h2]), show (some l[p] == some (45 : UInt8)) = false by simpa using h1, show (((l[p].toNat : Nat) : Int) == 45) = false by simpa using fun x => h1 (h45.1 x)]
  · rw [if_neg (by rw [B_size]; omega), spec_DecFront.j2v_eq, if_neg (by rw [B_size]; omega), spec_DecFront.j3v_eq, if_neg (by simp), spec_tail l hl _ hp, List.getElem?_eq_none (by omega)]
    simp

/-! ### letters -/
def isL (b : UInt8) : Bool := decide (97 ≤ b.toNat ∧ b.toNat ≤ 122) || decide (65 ≤ b.toNat ∧ b.toNat ≤ 90)
theorem let_impl (b : UInt8) : impl_isLetter.f (b.toNat : Int) = some (isL b) := by
  unfold impl_isLetter.f isL
  by_cases h1 : (b.toNat : Int) ≥ 97
  · rw [if_pos h1]
    by_cases h2 : (b.toNat : Int) ≤ 122
    · rw [if_pos h2, decide_eq_true (show 97 ≤ b.toNat ∧ b.toNat ≤ 122 by omega)]; rfl
    · rw [if_neg h2, if_pos (by omega), decide_eq_false (show ¬ (97 ≤ b.toNat ∧ b.toNat ≤ 122) by omega), Bool.false_or, decide_eq_false (by omega), decide_eq_false (by omega)]
  · rw [if_neg h1, decide_eq_false (show ¬ (97 ≤ b.toNat ∧ b.toNat ≤ 122) by omega), Bool.false_or]
    by_cases h2 : (b.toNat : Int) ≥ 65
    · rw [if_pos h2]; congr 1; rw [Bool.eq_iff_iff]; simp; omega
    · rw [if_neg h2, decide_eq_false (by omega)]
theorem let_spec (b : UInt8) : spec_l7Letter.f (b.toNat : Int) = some (isL b) := let_impl b
def runL (l : List UInt8) (i : Nat) : List UInt8 := (l.drop i).takeWhile isL
theorem runL_end (l : List UInt8) (i : Nat) (h : l.length ≤ i) : runL l i = [] := by unfold runL; rw [List.drop_eq_nil_of_le h]; rfl
theorem runL_step (l : List UInt8) (i : Nat) (h : i < l.length) : runL l i = if isL l[i] then l[i] :: runL l (i + 1) else [] := by
  unfold runL
  rw [List.drop_eq_getElem_cons h, List.takeWhile_cons]
theorem runL_le (l : List UInt8) (i : Nat) (h : i ≤ l.length) : i + (runL l i).length ≤ l.length := by
  have h1 : (runL l i).length ≤ (l.drop i).length := (List.takeWhile_sublist _).length_le
  rw [List.length_drop] at h1; omega
theorem lets_loop (l : List UInt8) (hl : l.length ≤ 1048576) (i : Nat) (d : Nat) : ∀ k : Nat, l.length - (i + k) ≤ d → i + k ≤ l.length → impl_lettersAt.l0v (B l) (i : Int) (k : Int) = some ((k + (runL l (i + k)).length : Nat) : Int) := by
  induction d with
  | zero =>
    intro k h1 h2
    rw [impl_lettersAt.l0v_eq, wrap_in (by omega) (by omega), if_neg (by rw [B_size]; omega), runL_end l _ (by omega)]
    simp
  | succ d ih =>
    intro k h1 h2
    rw [impl_lettersAt.l0v_eq, wrap_in (n := (i : Int) + k) (by omega) (by omega)]
    by_cases h : i + k < l.length
    · rw [if_pos (by rw [B_size]; omega), if_pos (by omega), show (i : Int) + k = ((i + k : Nat) : Int) by omega, B_bt l (i + k) h, let_impl, Option.bind_some, runL_step l (i + k) h]
      cases hd : isL l[i + k]
      · simp
      · rw [if_pos rfl, wrap_in (by omega) (by omega), show (k : Int) + 1 = ((k + 1 : Nat) : Int) by omega, ih (k + 1) (by omega) (by omega)]
        simp [Nat.add_assoc, Nat.add_comm]
    · rw [if_neg (by rw [B_size]; omega), runL_end l _ (by omega)]
      simp
theorem lets (l : List UInt8) (hl : l.length ≤ 1048576) (i : Nat) (hi : i ≤ l.length) : impl_lettersAt.fv (B l) (i : Int) = some ((runL l i).length : Int) := by
  rw [impl_lettersAt.fv_eq]
  have := lets_loop l hl i _ 0 (Nat.le_refl _) (by omega)
  simpa using this
/-- The piece of a text from one place to another. -/
def cutB (l : List UInt8) (i j : Nat) : ByteArray := (B l).extract i j
theorem name_spec (l : List UInt8) (hl : l.length ≤ 1048576) (i : Nat) (d : Nat) : ∀ j : Nat, l.length - j ≤ d → i ≤ j → j ≤ l.length → spec_l7One.l0v (B l) (i : Int) (j : Int) = some (1, cutB l i (j + (runL l j).length), 0, (i : Int), ((j + (runL l j).length : Nat) : Int), decide (((j + (runL l j).length : Nat) : Int) - (i : Int) ≤ 8)) := by
  have fin : ∀ j : Nat, i ≤ j → j ≤ l.length → (if 0 ≤ (i : Int) then (if (i : Int) ≤ (j : Int) then (if (j : Int) ≤ ((B l).size : Int) then (some ((1 : Int), (B l).extract ((i : Int)).toNat ((j : Int)).toNat, (0 : Int), (i : Int), (j : Int), decide ((wrap64 ((j : Int) - (i : Int))) ≤ 8))) else none) else none) else none) = some (1, cutB l i j, 0, (i : Int), (j : Int), decide ((j : Int) - (i : Int) ≤ 8)) := by
    intro j h1 h2
    rw [if_pos (by omega), if_pos (by omega), if_pos (by rw [B_size]; omega), wrap_in (by omega) (by omega)]
    rfl
  induction d with
  | zero =>
    intro j h1 h2 h3
    rw [spec_l7One.l0v_eq, if_neg (by rw [B_size]; omega), fin j h2 h3, runL_end l j (by omega)]
    rfl
  | succ d ih =>
    intro j h1 h2 h3
    rw [spec_l7One.l0v_eq]
    by_cases h : j < l.length
    · rw [if_pos (by rw [B_size]; omega), if_pos (by omega), B_bt l j h, let_spec, Option.bind_some, runL_step l j h]
      cases hd : isL l[j]
      · rw [if_neg (by simp), fin j h2 h3]; rfl
      · rw [if_pos rfl, wrap_in (by omega) (by omega), show (j : Int) + 1 = ((j + 1 : Nat) : Int) by omega, ih (j + 1) (by omega) (by omega) (by omega)]
        rw [if_pos rfl, List.length_cons, show j + 1 + (runL l (j + 1)).length = j + ((runL l (j + 1)).length + 1) by omega]
    · rw [if_neg (by rw [B_size]; omega), fin j h2 h3, runL_end l j (by omega)]
      rfl

/-! ### numbers -/
theorem run_app0 (d t : List UInt8) (hd : ∀ b ∈ d, isD b = true) (ht : ∀ b r, t = b :: r → isD b = false) : run (d ++ t) 0 = d := by
  unfold run
  rw [List.drop_zero, List.takeWhile_append_of_pos hd]
  cases t with
  | nil => simp
  | cons b r => rw [List.takeWhile_cons, ht b r rfl]; simp
def numMid (l : List UInt8) (q : Nat) : Nat := q + (run l q).length
def numRest (l : List UInt8) (q : Nat) : List UInt8 := restOf l (numMid l q)
def numEnd (l : List UInt8) (q : Nat) : Nat := if numRest l q = [] then numMid l q else numMid l q + 1 + (numRest l q).length
def numVal (l : List UInt8) (q : Nat) : Int := (val 0 (run l q) : Int) * 1000000 + fr 0 100000 (numRest l q)
def numOk (l : List UInt8) (q : Nat) : Bool := decide (numVal l q ≤ 9000000000000) && decide ((numRest l q).length ≤ 6)
theorem rest_all (l : List UInt8) (e : Nat) : ∀ b ∈ restOf l e, isD b = true := by
  intro b hb
  unfold restOf at hb
  split at hb
  · exact run_all l _ b hb
  · simp at hb
theorem rest_dot (l : List UInt8) (e : Nat) (h : restOf l e ≠ []) : e < l.length ∧ l[e]? = some 46 ∧ restOf l e = run l (e + 1) ∧ e + 1 + (run l (e + 1)).length ≤ l.length := by
  unfold restOf at h ⊢
  by_cases h4 : l[e]? = some 46
  · rw [if_pos h4]
    have h5 : e < l.length := by
      by_cases h5 : e < l.length
      · exact h5
      · rw [List.getElem?_eq_none (by omega)] at h4; simp at h4
    exact ⟨h5, h4, rfl, run_le l (e + 1) (by omega)⟩
  · rw [if_neg h4] at h; exact absurd rfl h
theorem numEnd_le (l : List UInt8) (q : Nat) (hq : q ≤ l.length) : numMid l q ≤ numEnd l q ∧ numEnd l q ≤ l.length := by
  have h1 := run_le l q hq
  unfold numEnd
  by_cases h : numRest l q = []
  · rw [if_pos h]; exact ⟨Nat.le_refl _, h1⟩
  · rw [if_neg h]
    have h2 := rest_dot l (numMid l q) h
    have h3 : (numRest l q).length = (run l (numMid l q + 1)).length := by unfold numRest; rw [h2.2.2.1]
    omega
theorem num_impl (l : List UInt8) (hl : l.length ≤ 1048576) (q : Nat) (hq : q ≤ l.length) : impl_numAt.fv (B l) (q : Int) = some (if numOk l q = true then (numVal l q, (numEnd l q : Int)) else (0, -1)) := by
  have hr := run_le l q hq
  have hall := run_all l q
  have fin : ∀ (r : List UInt8) (x : Int), (∀ b ∈ r, isD b = true) → r.length ≤ 1048576 → ((impl_millionths.f ((B l).extract (q : Int).toNat ((numMid l q : Nat) : Int).toNat) (B r)).bind fun bt => (if bt.2 = true then (if ((B r).size : Int) > 6 then (some ((0 : Int), (-1 : Int))) else (some (bt.1, x))) else (some (0, (-1))))) = some (if (decide ((val 0 (run l q) : Int) * 1000000 + fr 0 100000 r ≤ 9000000000000) && decide (r.length ≤ 6)) = true then ((val 0 (run l q) : Int) * 1000000 + fr 0 100000 r, x) else (0, -1)) := by
    intro r x hrr hrl
    have ew : (B l).extract (q : Int).toNat ((numMid l q : Nat) : Int).toNat = B (run l q) := by
      rw [B_extract, Int.toNat_natCast, Int.toNat_natCast, show numMid l q - q = (run l q).length by unfold numMid; omega, run_take]
    rw [ew, mill _ r hall hrr (by omega) hrl, Option.bind_some]
    by_cases h1 : (val 0 (run l q) : Int) * 1000000 + fr 0 100000 r ≤ 9000000000000
    · rw [if_pos h1, if_pos rfl, decide_eq_true h1, B_size]
      by_cases h2 : r.length ≤ 6
      · rw [if_neg (by omega), decide_eq_true h2]; rfl
      · rw [if_pos (by omega), decide_eq_false h2]; rfl
    · rw [if_neg h1, decide_eq_false h1]; rfl
  rw [impl_numAt.fv_eq, digs l hl q hq, Option.bind_some, wrap_in (by omega) (by omega), show (q : Int) + ((run l q).length : Int) = ((numMid l q : Nat) : Int) by unfold numMid; omega]
  have hmid : numMid l q ≤ l.length := hr
  have hx : wrap64 ((q : Int) + ((run l q).length : Int)) = ((numMid l q : Nat) : Int) := by rw [wrap_in (by omega) (by omega)]; unfold numMid; omega
  have hqm : q ≤ numMid l q := by unfold numMid; omega
  have f0 := fin [] (numMid l q : Int) (by simp) (by simp)
  have hnone : numRest l q = [] → ∀ c : Bool, (c = true → numMid l q + 1 ≤ l.length ∧ run l (numMid l q + 1) = []) → impl_numAt.j0v (B l) (q : Int) ((run l q).length : Int) (numMid l q : Int) (⟨#[]⟩ : ByteArray) c = some (if numOk l q = true then (numVal l q, (numEnd l q : Int)) else (0, -1)) := by
    intro h0 c hc
    have goal : some (if (decide ((val 0 (run l q) : Int) * 1000000 + fr 0 100000 [] ≤ 9000000000000) && decide (([] : List UInt8).length ≤ 6)) = true then ((val 0 (run l q) : Int) * 1000000 + fr 0 100000 [], (numMid l q : Int)) else (0, -1)) = some (if numOk l q = true then (numVal l q, (numEnd l q : Int)) else (0, -1)) := by
      unfold numOk numVal numEnd
      rw [h0, if_pos rfl]
    rw [impl_numAt.j0v_eq, hx, show (⟨#[]⟩ : ByteArray) = B [] from rfl]
    cases c
    · rw [if_neg (by simp), if_pos (by omega), if_pos (by omega), if_pos (by rw [B_size]; omega), f0, goal]
    · obtain ⟨g1, g2⟩ := hc rfl
      rw [if_pos rfl, wrap_in (by omega) (by omega), show ((numMid l q : Nat) : Int) + 1 = ((numMid l q + 1 : Nat) : Int) by omega, digs l hl _ g1, Option.bind_some, g2, if_neg (by simp), if_pos (by omega), if_pos (by omega), if_pos (by rw [B_size]; omega), f0, goal]
  by_cases h1 : numMid l q < l.length
  · rw [if_pos (by rw [B_size]; omega), if_pos (by omega), B_bt l _ h1]
    have hdot := byte_is l[numMid l q] 46 46 rfl
    by_cases hd : l[numMid l q] = 46
    · have hrest : numRest l q = run l (numMid l q + 1) := by unfold numRest restOf; rw [List.getElem?_eq_getElem h1, hd, if_pos rfl]
      rw [show (((l[numMid l q].toNat : Nat) : Int) == 46) = true by simpa using hdot.2 hd]
      by_cases hz : run l (numMid l q + 1) = []
      · exact hnone (hrest.trans hz) true (fun _ => ⟨by omega, hz⟩)
      · have hlen : 0 < (run l (numMid l q + 1)).length := List.length_pos_iff.2 hz
        have hr2 := run_le l (numMid l q + 1) (by omega)
        rw [impl_numAt.j0v_eq, if_pos rfl, hx, wrap_in (n := ((numMid l q : Nat) : Int) + 1) (by omega) (by omega), show ((numMid l q : Nat) : Int) + 1 = ((numMid l q + 1 : Nat) : Int) by omega, digs l hl _ (by omega), Option.bind_some, if_pos (by omega), if_pos (by omega)]
        rw [wrap_in (n := ((numMid l q + 1 : Nat) : Int) + ((run l (numMid l q + 1)).length : Int)) (by omega) (by omega), if_pos (by omega), if_pos (by rw [B_size]; omega), if_pos (by omega), if_pos (by omega), if_pos (by rw [B_size]; omega)]
        have er : (B l).extract ((numMid l q + 1 : Nat) : Int).toNat (((numMid l q + 1 : Nat) : Int) + ((run l (numMid l q + 1)).length : Int)).toNat = B (run l (numMid l q + 1)) := by
          rw [B_extract, Int.toNat_natCast, show (((numMid l q + 1 : Nat) : Int) + ((run l (numMid l q + 1)).length : Int)).toNat - (numMid l q + 1) = (run l (numMid l q + 1)).length by omega, run_take]
        rw [er, fin _ _ (run_all _ _) (by omega)]
        unfold numOk numVal numEnd
        rw [hrest, if_neg hz, wrap_in (n := 1 + ((run l (numMid l q + 1)).length : Int)) (by omega) (by omega), wrap_in (by omega) (by omega), show ((numMid l q : Nat) : Int) + (1 + ((run l (numMid l q + 1)).length : Int)) = ((numMid l q + 1 + (run l (numMid l q + 1)).length : Nat) : Int) by omega]
    · rw [show (((l[numMid l q].toNat : Nat) : Int) == 46) = false by simpa using fun x => hd (hdot.1 x)]
      exact hnone (by unfold numRest restOf; rw [List.getElem?_eq_getElem h1, if_neg (by simpa using hd)]) false (by simp)
  · rw [if_neg (by rw [B_size]; omega)]
    refine hnone ?_ false (by simp)
    unfold numRest restOf
    rw [List.getElem?_eq_none (by omega), if_neg (by simp)]
/-- The piece that is the number, cut out, is read as a whole. -/
theorem num_piece (l : List UInt8) (q : Nat) (hq : q < l.length) (hd : isD l[q] = true) : frontOf ((l.drop q).take (numEnd l q - q)) = if numVal l q ≤ 9000000000000 then (numVal l q, ((numEnd l q : Int) - q)) else (0, 0) := by
  have hws : run l q ≠ [] := by rw [run_step l q hq, hd]; simp
  have hr := run_le l q (by omega)
  have hall := run_all l q
  obtain ⟨t, ht, hp⟩ : ∃ t, t = (if numRest l q = [] then [] else 46 :: numRest l q) ∧ (l.drop q).take (numEnd l q - q) = run l q ++ t := by
    refine ⟨_, rfl, ?_⟩
    unfold numEnd
    by_cases h : numRest l q = []
    · rw [if_pos h, if_pos h, List.append_nil, show numMid l q - q = (run l q).length by unfold numMid; omega, run_take]
    · rw [if_neg h, if_neg h]
      obtain ⟨h2, h3, h4, h5⟩ := rest_dot l (numMid l q) h
      have hrest : numRest l q = run l (numMid l q + 1) := h4
      rw [hrest, show numMid l q + 1 + (run l (numMid l q + 1)).length - q = (run l q).length + (1 + (run l (numMid l q + 1)).length) by unfold numMid; omega, List.take_add, run_take, List.drop_drop, show q + (run l q).length = numMid l q from rfl, List.drop_eq_getElem_cons h2, Nat.add_comm 1, List.take_succ_cons, run_take]
      rw [List.getElem?_eq_getElem h2] at h3
      rw [Option.some.inj h3]
  have hlen : (numEnd l q : Int) - q = ((run l q ++ t).length : Int) := by
    rw [← hp]
    have := numEnd_le l q (by omega)
    have : q ≤ numMid l q := by unfold numMid; omega
    rw [List.length_take, List.length_drop]
    omega
  rw [hp, hlen]
  have hfirst : ∃ b r, run l q = b :: r ∧ isD b = true := by
    cases e : run l q with
    | nil => exact absurd e hws
    | cons b r => exact ⟨b, r, rfl, hall b (by rw [e]; exact List.mem_cons_self)⟩
  obtain ⟨b, r, e, hb⟩ := hfirst
  have hb2 := (isD_iff b).1 hb
  have hbl : blanks (run l q ++ t) = 0 := by
    unfold blanks
    rw [e, List.cons_append, List.takeWhile_cons]
    have : (b == 32) = false := by
      rw [beq_eq_false_iff_ne]
      intro e2
      rw [e2] at hb2
      have h32 : (32 : UInt8).toNat = 32 := rfl
      omega
    rw [this]; rfl
  have hne : ∀ c : UInt8, isD c = false → ¬ (run l q ++ t)[0]? = some c := by
    intro c hc e2
    rw [e, List.cons_append, List.getElem?_cons_zero] at e2
    rw [Option.some.inj e2, hc] at hb
    simp at hb
  unfold frontOf
  rw [hbl, if_neg (fun x => x.elim (hne 45 rfl) (hne 43 rfl)), show ((run l q ++ t)[0]? == some (45 : UInt8)) = false by rw [beq_eq_false_iff_ne]; exact hne 45 rfl]
  have hrun : run (run l q ++ t) 0 = run l q := by
    refine run_app0 _ t hall ?_
    intro c s e2
    rw [e2] at ht
    by_cases h : numRest l q = []
    · rw [if_pos h] at ht; simp at ht
    · rw [if_neg h] at ht; rw [(List.cons.inj ht).1]; rfl
  have hrest : restOf (run l q ++ t) (0 + (run l q).length) = numRest l q := by
    unfold restOf
    rw [Nat.zero_add, List.getElem?_append_right (Nat.le_refl _), Nat.sub_self]
    by_cases h : numRest l q = []
    · rw [if_pos h] at ht; rw [ht, h]; simp
    · rw [if_neg h] at ht
      rw [ht, List.getElem?_cons_zero, if_pos rfl]
      generalize run l q = W
      unfold run
      rw [show W ++ 46 :: numRest l q = (W ++ [46]) ++ numRest l q by simp]
      rw [show W.length + 1 = (W ++ [(46 : UInt8)]).length by simp, List.drop_left]
      have := List.takeWhile_append_of_pos (p := isD) (l₁ := numRest l q) (l₂ := []) (rest_all l _)
      simpa using this
  unfold tailOf
  simp only [hrun, hrest]
  rw [if_neg (fun x => hws x.1)]
  have hT : (if numRest l q = [] then 0 + (run l q).length else 0 + (run l q).length + 1 + (numRest l q).length) = (run l q ++ t).length := by
    by_cases h : numRest l q = []
    · rw [if_pos h] at ht; rw [if_pos h, ht]; simp
    · rw [if_neg h] at ht; rw [if_neg h, ht]; simp; omega
  rw [hT]
  show (if numVal l q ≤ 9000000000000 then _ else _) = _
  by_cases h : numVal l q ≤ 9000000000000
  · rw [if_pos h, if_pos h, if_neg (by simp)]; rfl
  · rw [if_neg h, if_neg h]
theorem dig_loop (l : List UInt8) (hl : l.length ≤ 1048576) (q : Nat) (d : Nat) : ∀ j : Nat, l.length - j ≤ d → j ≤ l.length → spec_l7Number.l0v (B l) (q : Int) (j : Int) = spec_l7Number.j1v (B l) (q : Int) ((j + (run l j).length : Nat) : Int) := by
  induction d with
  | zero =>
    intro j h1 h2
    rw [spec_l7Number.l0v_eq, if_neg (by rw [B_size]; omega), run_end l j (by omega)]
    rfl
  | succ d ih =>
    intro j h1 h2
    rw [spec_l7Number.l0v_eq]
    by_cases h : j < l.length
    · rw [if_pos (by rw [B_size]; omega), if_pos (by omega), B_bt l j h, dig_spec, Option.bind_some, run_step l j h]
      cases hd : isD l[j]
      · simp
      · rw [if_pos rfl, wrap_in (by omega) (by omega), show (j : Int) + 1 = ((j + 1 : Nat) : Int) by omega, ih (j + 1) (by omega) (by omega)]
        rw [if_pos rfl, List.length_cons, show j + 1 + (run l (j + 1)).length = j + ((run l (j + 1)).length + 1) by omega]
    · rw [if_neg (by rw [B_size]; omega), run_end l j (by omega)]
      rfl
theorem num_spec (l : List UInt8) (hl : l.length ≤ 1048576) (q : Nat) (hq : q < l.length) (hd : isD l[q] = true) : ∃ a : Int, spec_l7Number.fv (B l) (q : Int) = some (a, (numEnd l q : Int), numOk l q) ∧ (numOk l q = true → a = numVal l q) := by
  have hr := run_le l q (by omega)
  have hE := numEnd_le l q (by omega)
  have hmq : q ≤ numMid l q := by unfold numMid; omega
  have hws : run l q ≠ [] := by rw [run_step l q hq, hd]; simp
  have hmq2 : q < numMid l q := by unfold numMid; have := List.length_pos_iff.2 hws; omega
  have hmid : numMid l q ≤ l.length := hr
  have fin : numEnd l q ≤ l.length → (if 0 ≤ (q : Int) then (if (q : Int) ≤ (numEnd l q : Int) then (if (numEnd l q : Int) ≤ ((B l).size : Int) then ((spec_DecFront.fv ((B l).extract (q : Int).toNat (numEnd l q : Int).toNat)).bind fun bt => (some (bt.1, (numEnd l q : Int), (bt.2 == (wrap64 ((numEnd l q : Int) - (q : Int))))))) else none) else none) else none) = some (if numVal l q ≤ 9000000000000 then (numVal l q, (numEnd l q : Int), true) else (0, (numEnd l q : Int), false)) := by
    intro _
    rw [if_pos (by omega), if_pos (by omega), if_pos (by rw [B_size]; omega), B_extract, Int.toNat_natCast, Int.toNat_natCast, front_spec _ (by rw [List.length_take, List.length_drop]; omega), num_piece l q hq hd, wrap_in (by omega) (by omega)]
    by_cases h : numVal l q ≤ 9000000000000
    · rw [if_pos h, if_pos h]; simp
    · rw [if_neg h, if_neg h]
      simp only [Option.bind_some]
      congr 3
      rw [beq_eq_false_iff_ne]
      omega
  have hnone : numRest l q = [] → spec_l7Number.j2v (B l) (q : Int) (numMid l q : Int) false = some (if numVal l q ≤ 9000000000000 then (numVal l q, (numEnd l q : Int), true) else (0, (numEnd l q : Int), false)) := by
    intro h0
    have hEm : numEnd l q = numMid l q := by unfold numEnd; rw [if_pos h0]
    rw [spec_l7Number.j2v_eq, if_neg (by simp), ← hEm]
    exact fin hE.2
  have gen : ∀ o, o = some (if numVal l q ≤ 9000000000000 then (numVal l q, (numEnd l q : Int), true) else (0, (numEnd l q : Int), false)) → (numRest l q).length ≤ 6 → ∃ a : Int, o = some (a, (numEnd l q : Int), numOk l q) ∧ (numOk l q = true → a = numVal l q) := by
    intro o ho h6
    unfold numOk
    rw [ho, decide_eq_true h6, Bool.and_true]
    by_cases h : numVal l q ≤ 9000000000000
    · rw [if_pos h, decide_eq_true h]; exact ⟨_, rfl, fun _ => rfl⟩
    · rw [if_neg h, decide_eq_false h]; exact ⟨_, rfl, fun x => by simp at x⟩
  have hl0 := dig_loop l hl q _ q (Nat.le_refl _) (by omega)
  rw [spec_l7Number.fv_eq, hl0, show q + (run l q).length = numMid l q from rfl, spec_l7Number.j1v_eq, wrap_in (n := ((numMid l q : Nat) : Int) + 1) (by omega) (by omega)]
  by_cases h1 : numMid l q + 1 < l.length
  · have h1' : numMid l q < l.length := by omega
    rw [if_pos (by rw [B_size]; omega), if_pos (by omega), if_pos (by rw [B_size]; omega), B_bt l _ h1']
    have hdot := byte_is l[numMid l q] 46 46 rfl
    by_cases hdt : l[numMid l q] = 46
    · have hrest : numRest l q = run l (numMid l q + 1) := by unfold numRest restOf; rw [List.getElem?_eq_getElem h1', hdt, if_pos rfl]
      rw [if_pos (hdot.2 hdt), if_pos (by omega), show ((numMid l q : Nat) : Int) + 1 = ((numMid l q + 1 : Nat) : Int) by omega, B_bt l _ h1, dig_spec, Option.bind_some]
      cases hdd : isD l[numMid l q + 1]
      · have h0 : numRest l q = [] := by rw [hrest, run_step l _ h1, hdd]; simp
        exact gen _ (hnone h0) (by rw [h0]; simp)
      · have hne : numRest l q ≠ [] := by rw [hrest, run_step l _ h1, hdd]; simp
        have hEm : numEnd l q = numMid l q + 1 + (run l (numMid l q + 1)).length := by unfold numEnd; rw [if_neg hne, hrest]
        have hloop : ∀ d : Nat, ∀ j : Nat, l.length - j ≤ d → numMid l q + 1 ≤ j → j ≤ l.length → j + (run l j).length = numEnd l q → spec_l7Number.l1v (B l) (q : Int) (j : Int) (numMid l q : Int) = (if (numRest l q).length > 6 then some (0, (numEnd l q : Int), false) else some (if numVal l q ≤ 9000000000000 then (numVal l q, (numEnd l q : Int), true) else (0, (numEnd l q : Int), false))) := by
          have hlast : ∀ j : Nat, j = numEnd l q → (if (wrap64 ((j : Int) - (numMid l q : Int))) > 7 then (some ((0 : Int), (j : Int), false)) else (if 0 ≤ (q : Int) then (if (q : Int) ≤ (j : Int) then (if (j : Int) ≤ ((B l).size : Int) then ((spec_DecFront.fv ((B l).extract (q : Int).toNat (j : Int).toNat)).bind fun bt => (some (bt.1, (j : Int), (bt.2 == (wrap64 ((j : Int) - (q : Int))))))) else none) else none) else none)) = (if (numRest l q).length > 6 then some (0, (numEnd l q : Int), false) else some (if numVal l q ≤ 9000000000000 then (numVal l q, (numEnd l q : Int), true) else (0, (numEnd l q : Int), false))) := by
            intro j hj
            subst hj
            rw [fin hE.2, wrap_in (by omega) (by omega)]
            have : (numRest l q).length = (run l (numMid l q + 1)).length := by rw [hrest]
            by_cases h6 : (numRest l q).length > 6
            · rw [if_pos (by omega), if_pos h6]
            · rw [if_neg (by omega), if_neg h6]
          intro d
          induction d with
          | zero =>
            intro j g1 g2 g3 g4
            rw [run_end l j (by omega)] at g4
            rw [spec_l7Number.l1v_eq, if_neg (by rw [B_size]; omega)]
            exact hlast j g4
          | succ d ih =>
            intro j g1 g2 g3 g4
            rw [spec_l7Number.l1v_eq]
            by_cases h : j < l.length
            · rw [run_step l j h] at g4
              rw [if_pos (by rw [B_size]; omega), if_pos (by omega), B_bt l j h, dig_spec, Option.bind_some]
              cases hdj : isD l[j]
              · rw [hdj, if_neg (by simp)] at g4
                rw [if_neg (by simp)]
                exact hlast j g4
              · rw [hdj, if_pos rfl, List.length_cons] at g4
                rw [if_pos rfl, wrap_in (by omega) (by omega), show (j : Int) + 1 = ((j + 1 : Nat) : Int) by omega]
                exact ih (j + 1) (by omega) (by omega) (by omega) (by omega)
            · rw [run_end l j (by omega)] at g4
              rw [if_neg (by rw [B_size]; omega)]
              exact hlast j g4
        rw [spec_l7Number.j2v_eq, if_pos rfl, wrap_in (by omega) (by omega), show ((numMid l q : Nat) : Int) + 1 = ((numMid l q + 1 : Nat) : Int) by omega, hloop _ _ (Nat.le_refl _) (Nat.le_refl _) (by omega) hEm.symm]
        by_cases h6 : (numRest l q).length > 6
        · rw [if_pos h6]
          refine ⟨0, ?_, ?_⟩
          · unfold numOk; rw [decide_eq_false (show ¬ (numRest l q).length ≤ 6 by omega), Bool.and_false]
          · unfold numOk; rw [decide_eq_false (show ¬ (numRest l q).length ≤ 6 by omega), Bool.and_false]; simp
        · rw [if_neg h6]
          exact gen _ rfl (by omega)
    · rw [if_neg (fun x => hdt (hdot.1 x))]
      have h0 : numRest l q = [] := by unfold numRest restOf; rw [List.getElem?_eq_getElem h1', if_neg (by simpa using hdt)]
      exact gen _ (hnone h0) (by rw [h0]; simp)
  · rw [if_neg (by rw [B_size]; omega)]
    have h0 : numRest l q = [] := by
      unfold numRest restOf
      split
      · exact run_end l _ (by omega)
      · rfl
    exact gen _ (hnone h0) (by rw [h0]; simp)

/-! ### texts and patterns -/
/-- The two readers say the same: what is read and the place behind it, or that there is none. -/
def Both (l : List UInt8) (i : Nat) (o : Option (ByteArray × Int × Bool)) (p : Option (ByteArray × Int)) : Prop :=
  ∃ (t : ByteArray) (e : Int) (ok : Bool), o = some (t, e, ok) ∧ p = some (if ok = true then (t, e) else (⟨#[]⟩, -1)) ∧ (ok = true → (i : Int) < e ∧ e ≤ l.length)
theorem both_no (l : List UInt8) (i : Nat) (e : Int) : Both l i (some (⟨#[]⟩, e, false)) (some (⟨#[]⟩, -1)) := ⟨_, _, false, rfl, rfl, by simp⟩
theorem both_yes (l : List UInt8) (i : Nat) (t : ByteArray) (h : i < l.length) : Both l i (some (t, ((i + 1 : Nat) : Int), true)) (some (t, ((i + 1 : Nat) : Int))) := ⟨_, _, true, rfl, rfl, fun _ => ⟨by omega, by omega⟩⟩
theorem both_up {l : List UInt8} {i j : Nat} {o p} (h : Both l j o p) (hij : i ≤ j) : Both l i o p := by
  obtain ⟨t, e, ok, a, b, c⟩ := h
  exact ⟨t, e, ok, a, b, fun x => ⟨by have := (c x).1; omega, (c x).2⟩⟩
theorem text_both (l : List UInt8) (hl : l.length ≤ 1048576) (d : Nat) : ∀ (i : Nat) (x : List Int), l.length - i ≤ d → i ≤ l.length → x.length + 2 * (l.length - i) ≤ 4000000 → Both l i (spec_l7Text.l0v (B l) x (i : Int)) (impl_textAt.l0v (B l) x (i : Int)) := by
  induction d with
  | zero =>
    intro i x h1 h2 _
    rw [spec_l7Text.l0v_eq, impl_textAt.l0v_eq, if_neg (by rw [B_size]; omega), if_neg (by rw [B_size]; omega)]
    exact both_no l i 0
  | succ d ih =>
    intro i x h1 h2 h3
    rw [spec_l7Text.l0v_eq, impl_textAt.l0v_eq]
    by_cases h : i < l.length
    · have e1 : wrap64 ((i : Int) + 1) = ((i + 1 : Nat) : Int) := by rw [wrap_in (by omega) (by omega)]; omega
      simp only [B_size, eq_true (show (i : Int) < (l.length : Int) by omega), eq_true (show (0 : Int) ≤ (i : Int) by omega), if_true, B_bt l i h, e1]
      by_cases c1 : (l[i].toNat : Int) = 34
      · rw [if_pos c1, if_pos c1]; exact both_yes l i _ h
      · rw [if_neg c1, if_neg c1]
        by_cases c2 : (l[i].toNat : Int) = 10
        · rw [if_pos c2, if_pos c2]; exact both_no l i 0
        · rw [if_neg c2, if_neg c2]
          by_cases c3 : (l[i].toNat : Int) = 92
          · rw [if_pos c3, if_pos c3]
            by_cases c4 : i + 1 < l.length
            · have e2 : wrap64 (((i + 1 : Nat) : Int) + 1) = ((i + 2 : Nat) : Int) := by rw [wrap_in (by omega) (by omega)]; omega
              rw [if_neg (show ¬ ((i + 1 : Nat) : Int) ≥ (l.length : Int) by omega), if_neg (show ¬ ((i + 1 : Nat) : Int) = (l.length : Int) by omega)]
              simp only [eq_true (show ((i + 1 : Nat) : Int) < (l.length : Int) by omega), eq_true (show (0 : Int) ≤ ((i + 1 : Nat) : Int) by omega), if_true, B_bt l (i + 1) c4, e2]
              by_cases c5 : (l[i + 1].toNat : Int) = 10
              · rw [if_pos c5, if_pos c5]; exact both_no l i 0
              · rw [if_neg c5, if_neg c5, if_pos (by omega), if_pos (by omega)]
                exact both_up (ih (i + 2) _ (by omega) (by omega) (by simp; omega)) (by omega)
            · rw [if_pos (show ((i + 1 : Nat) : Int) ≥ (l.length : Int) by omega), if_pos (show ((i + 1 : Nat) : Int) = (l.length : Int) by omega)]; exact both_no l i 0
          · rw [if_neg c3, if_neg c3, if_pos (by omega), if_pos (by omega)]
            exact both_up (ih (i + 1) _ (by omega) (by omega) (by simp; omega)) (by omega)
    · rw [if_neg (by rw [B_size]; omega), if_neg (by rw [B_size]; omega)]
      exact both_no l i 0
theorem rex_both (l : List UInt8) (hl : l.length ≤ 1048576) (d : Nat) : ∀ (i : Nat) (x : List Int), l.length - i ≤ d → i ≤ l.length → x.length + 2 * (l.length - i) ≤ 4000000 → Both l i (spec_l7Rex.l0v (B l) x (i : Int)) (impl_rexAt.l0v (B l) x (i : Int)) := by
  induction d with
  | zero =>
    intro i x h1 h2 _
    rw [spec_l7Rex.l0v_eq, impl_rexAt.l0v_eq, if_neg (by rw [B_size]; omega), if_neg (by rw [B_size]; omega)]
    exact both_no l i 0
  | succ d ih =>
    intro i x h1 h2 h3
    rw [spec_l7Rex.l0v_eq, impl_rexAt.l0v_eq]
    by_cases h : i < l.length
    · have e1 : wrap64 ((i : Int) + 1) = ((i + 1 : Nat) : Int) := by rw [wrap_in (by omega) (by omega)]; omega
      have bad : Both l i (spec_l7Rex.j1v (B l) x (i : Int) true) (impl_rexAt.j1v (B l) x ((i + 1 : Nat) : Int) true) := by
        rw [spec_l7Rex.j1v_eq, impl_rexAt.j1v_eq, if_pos rfl, if_pos rfl]; exact both_no l i 0
      simp only [B_size, eq_true (show (i : Int) < (l.length : Int) by omega), eq_true (show (0 : Int) ≤ (i : Int) by omega), if_true, B_bt l i h, e1]
      by_cases c1 : (l[i].toNat : Int) = 47
      · rw [if_pos c1, if_pos c1]; exact both_yes l i _ h
      · rw [if_neg c1, if_neg c1]
        by_cases c2 : (l[i].toNat : Int) = 10
        · rw [if_pos c2, if_pos c2]; exact both_no l i 0
        · rw [if_neg c2, if_neg c2]
          by_cases c3 : (l[i].toNat : Int) = 92
          · rw [if_pos c3, if_pos c3]
            by_cases c4 : i + 1 < l.length
            · have e2 : wrap64 (((i + 1 : Nat) : Int) + 1) = ((i + 2 : Nat) : Int) := by rw [wrap_in (by omega) (by omega)]; omega
              rw [if_neg (show ¬ ((i + 1 : Nat) : Int) ≥ (l.length : Int) by omega), if_neg (show ¬ ((i + 1 : Nat) : Int) = (l.length : Int) by omega)]
              simp only [eq_true (show ((i + 1 : Nat) : Int) < (l.length : Int) by omega), eq_true (show (0 : Int) ≤ ((i + 1 : Nat) : Int) by omega), if_true, B_bt l (i + 1) c4]
              cases c5 : ((l[i + 1].toNat : Int) == 10)
              · rw [spec_l7Rex.j1v_eq, impl_rexAt.j1v_eq, if_neg (show ¬ (false = true) by decide), if_neg (show ¬ (false = true) by decide)]
                simp only [B_size, e1, e2, eq_true (show ((i + 1 : Nat) : Int) < (l.length : Int) by omega), eq_true (show (0 : Int) ≤ ((i + 1 : Nat) : Int) by omega), eq_true (show (i : Int) < (l.length : Int) by omega), eq_true (show (0 : Int) ≤ (i : Int) by omega), if_true, B_bt l (i + 1) c4, B_bt l i h, c3, Option.bind_some, eq_true (show x.length < 140737488355328 by omega), eq_true (show (x ++ [(92 : Int)]).length < 140737488355328 by simp; omega)]
                by_cases c6 : (l[i + 1].toNat : Int) = 47
                · rw [if_pos c6, if_pos c6]
                  exact both_up (ih (i + 2) _ (by omega) (by omega) (by simp; omega)) (by omega)
                · rw [if_neg c6, if_neg c6]
                  exact both_up (ih (i + 2) _ (by omega) (by omega) (by simp; omega)) (by omega)
              · exact bad
            · rw [if_pos (show ((i + 1 : Nat) : Int) ≥ (l.length : Int) by omega), if_pos (show ((i + 1 : Nat) : Int) = (l.length : Int) by omega)]; exact bad
          · rw [if_neg c3, if_neg c3, if_pos (by omega), if_pos (by omega)]
            exact both_up (ih (i + 1) _ (by omega) (by omega) (by simp; omega)) (by omega)
    · rw [if_neg (by rw [B_size]; omega), if_neg (by rw [B_size]; omega)]
      exact both_no l i 0

/-! ### signs -/
theorem prefix_iff (l p : List UInt8) (i : Nat) : Lib.hasPrefix (l.drop i) p = true ↔ (l.drop i).take p.length = p := by
  unfold Lib.hasPrefix
  rw [List.isPrefixOf_iff_prefix, List.prefix_iff_eq_take]
  exact eq_comm
theorem nil_toList : (⟨#[]⟩ : ByteArray).toList = [] := B_toList []
/-- The sign at a place: both say the same. -/
theorem sign_both (l : List UInt8) (hl : l.length ≤ 1048576) (i : Nat) (hi : i < l.length) (S : List ByteArray) (hS : ∀ x ∈ S, 0 < x.size ∧ x.size ≤ 10) (hS2 : S.length ≤ 1000) (d : Nat) : ∀ k : Nat, S.length - k = d → k ≤ S.length →
    ∃ t : ByteArray, spec_l7Sign.l0v (B l) (i : Int) S (k : Int) = some t ∧ impl_tokenAt.l0v (B l) (i : Int) (-1) S (S.length : Int) (k : Int) 0 (⟨#[]⟩ : ByteArray) 0 (i : Int) = some (if t.toList = [] then (0, (⟨#[]⟩ : ByteArray), 0, (i : Int), -1) else (5, t, 0, (i : Int), (i : Int) + (t.size : Int))) ∧ i + t.size ≤ l.length ∧ (t.toList = [] ↔ t.size = 0) ∧ (t.size ≠ 0 → t = cutB l i (i + t.size)) := by
  induction d with
  | zero =>
    intro k h1 h2
    refine ⟨⟨#[]⟩, ?_, ?_, ?_, ?_, fun h => absurd rfl h⟩
    · rw [spec_l7Sign.l0v_eq, if_neg (by omega)]
    · rw [impl_tokenAt.l0v_eq, if_neg (by omega), if_pos nil_toList]
    · show i + 0 ≤ _; omega
    · exact ⟨fun _ => rfl, fun _ => nil_toList⟩
  | succ d ih =>
    intro k h1 h2
    have hk : k < S.length := by omega
    obtain ⟨t, e1, e2, e3, e4, e5⟩ := ih (k + 1) (by omega) (by omega)
    have hrd : rdOf ByteArray.empty S (k : Int) = S[k] := by
      unfold rdOf
      rw [Int.toNat_natCast]
      simp [List.getD, List.getElem?_eq_getElem hk]
    obtain ⟨p, hp⟩ : ∃ p, S[k] = B p := ⟨S[k].data.toList, (B_self _).symm⟩
    have hpl := hS S[k] (List.getElem_mem hk)
    rw [hp, B_size] at hpl
    have hw : wrap64 ((k : Int) + 1) = ((k + 1 : Nat) : Int) := by rw [wrap_in (by omega) (by omega)]; omega
    have hw2 : wrap64 ((i : Int) + (p.length : Int)) = ((i + p.length : Nat) : Int) := by rw [wrap_in (by omega) (by omega)]; omega
    have hpre : strings_HasPrefix.f (B ((l.drop i).take (l.length - i))) (B p) = some (Lib.hasPrefix (l.drop i) p) := by
      unfold strings_HasPrefix.f
      rw [B_data, B_data, List.take_of_length_le (by simp)]
    rw [spec_l7Sign.l0v_eq, impl_tokenAt.l0v_eq, hrd, hp]
    simp only [B_size, hw2, hw, eq_true (show (k : Int) < (S.length : Int) by omega), eq_true (show (0 : Int) ≤ (k : Int) by omega), eq_true (show (0 : Int) ≤ (i : Int) by omega), eq_true (show (i : Int) ≤ (l.length : Int) by omega), if_true, hpre, Option.bind_some, eq_true (show (i : Int) ≤ ((i + p.length : Nat) : Int) by omega), B_extract, B_toList, Int.toNat_natCast, Nat.add_sub_cancel_left]
    by_cases c : (l.drop i).take p.length = p
    · have hlen : i + p.length ≤ l.length := by
        have := congrArg List.length c
        rw [List.length_take, List.length_drop] at this
        omega
      have hne : ¬ p = [] := by intro e; rw [e] at hpl; simp at hpl
      refine ⟨B p, ?_, ?_, ?_, ?_, fun _ => by unfold cutB; rw [B_size, B_extract, Nat.add_sub_cancel_left, c]⟩
      · rw [if_pos (by omega), if_pos c]
      · rw [if_pos ((prefix_iff l p i).2 c), B_toList, if_neg hne, B_size]
        congr 1
      · rw [B_size]; exact hlen
      · rw [B_toList, B_size]; exact ⟨fun e => by rw [e]; rfl, fun e => List.eq_nil_of_length_eq_zero e⟩
    · refine ⟨t, ?_, ?_, e3, e4, e5⟩
      · by_cases c2 : ((i + p.length : Nat) : Int) ≤ (l.length : Int)
        · rw [if_pos c2, if_neg c]; exact e1
        · rw [if_neg c2]; exact e1
      · rw [if_neg (fun x => c ((prefix_iff l p i).1 x))]; exact e2

/-! ### one token -/
theorem isv_after (x : S32) : ∃ b : Bool, impl_isValue.f x.f0 x.f1 x.f2 x.f3 = some b ∧ (if x.f0 = 5 then (if x.f1.toList = ([41] : List UInt8) then (some true) else (if x.f1.toList = ([93] : List UInt8) then (some true) else ((spec_l1In.f x.f0 1 4).bind fun t => (some t)))) else ((spec_l1In.f x.f0 1 4).bind fun t => (some t))) = some b := by
  have hin : spec_l1In.f x.f0 1 4 = some (decide (1 ≤ x.f0 ∧ x.f0 ≤ 4)) := by
    unfold spec_l1In.f
    by_cases h : x.f0 ≥ 1
    · rw [if_pos h]; congr 1; rw [Bool.eq_iff_iff]; simp; omega
    · rw [if_neg h, decide_eq_false (by omega)]
  rw [hin]
  unfold impl_isValue.f
  by_cases h5 : x.f0 = 5
  · rw [if_neg (by omega), if_neg (by omega), if_neg (by omega), if_neg (by omega), if_pos h5, if_pos h5]
    by_cases ha : x.f1.toList = [41]
    · rw [if_pos ha, if_pos ha]; exact ⟨_, rfl, rfl⟩
    · rw [if_neg ha, if_neg ha]
      by_cases hb : x.f1.toList = [93]
      · rw [if_pos hb, hb]; exact ⟨_, rfl, rfl⟩
      · rw [if_neg hb, decide_eq_false (by omega)]
        exact ⟨false, by congr 1; rw [beq_eq_false_iff_ne]; exact hb, rfl⟩
  · rw [if_neg h5, if_neg h5]
    by_cases h : 1 ≤ x.f0 ∧ x.f0 ≤ 4
    · rw [decide_eq_true h]
      refine ⟨true, ?_, rfl⟩
      by_cases h1 : x.f0 = 1
      · rw [if_pos h1]
      · rw [if_neg h1]
        by_cases h2 : x.f0 = 2
        · rw [if_pos h2]
        · rw [if_neg h2]
          by_cases h3 : x.f0 = 3
          · rw [if_pos h3]
          · rw [if_neg h3, if_pos (by omega)]
    · rw [decide_eq_false h, if_neg (by omega), if_neg (by omega), if_neg (by omega), if_neg (by omega)]
      exact ⟨false, rfl, rfl⟩
/-- A token stands where it is told, and the text of a name or a sign is what stands there. -/
def Stands (l : List UInt8) (i : Nat) (a : Int) (t : ByteArray) (at_ : Int) : Prop := at_ = (i : Int) ∧ 1 ≤ a ∧ ((a = 1 ∨ a = 5) → i + t.size ≤ l.length ∧ t = cutB l i (i + t.size))
/-- What is told of one token: it and the place behind it, or that there is none. -/
def One (l : List UInt8) (i : Nat) (o : Option (Int × ByteArray × Int × Int × Int × Bool)) (p : Option (Int × ByteArray × Int × Int × Int)) : Prop :=
  ∃ (a : Int) (t : ByteArray) (n at_ e : Int) (ok : Bool), o = some (a, t, n, at_, e, ok) ∧ (if ok = true then p = some (a, t, n, at_, e) ∧ (i : Int) < e ∧ e ≤ l.length ∧ Stands l i a t at_ else ∃ a2 t2 n2 at2 e2, p = some (a2, t2, n2, at2, e2) ∧ e2 < 0)
theorem one_no {l i} {a : Int} {t : ByteArray} {n at_ e a2 : Int} {t2 : ByteArray} {n2 at2 e2 : Int} (h : e2 < 0) : One l i (some (a, t, n, at_, e, false)) (some (a2, t2, n2, at2, e2)) :=
  ⟨_, _, _, _, _, false, rfl, by rw [if_neg (by simp)]; exact ⟨_, _, _, _, _, rfl, h⟩⟩
theorem one_yes {l : List UInt8} {i : Nat} {a : Int} {t : ByteArray} {n at_ e : Int} (h : (i : Int) < e) (h2 : e ≤ l.length) (h3 : Stands l i a t at_) : One l i (some (a, t, n, at_, e, true)) (some (a, t, n, at_, e)) :=
  ⟨_, _, _, _, _, true, rfl, by rw [if_pos rfl]; exact ⟨rfl, h, h2, h3⟩⟩
theorem one_both (l : List UInt8) (hl : l.length ≤ 2000) (i : Nat) (hi : i < l.length) (out : List S32) (v : Bool) (hv : spec_l7After.f out = some v) : One l i (spec_l7One.fv (B l) (i : Int) out) (impl_tokenAt.fv (B l) (i : Int) v) := by
  have ew : wrap64 ((i : Int) + 1) = ((i + 1 : Nat) : Int) := by rw [wrap_in (by omega) (by omega)]; omega
  have hsz : ((B l).size : Int) = (l.length : Int) := by rw [B_size]
  rw [spec_l7One.fv_eq, impl_tokenAt.fv_eq]
  simp only [hsz, eq_true (show (i : Int) < (l.length : Int) by omega), eq_true (show (0 : Int) ≤ (i : Int) by omega), if_true, B_bt l i hi, let_spec, let_impl, dig_spec, Option.bind_some]
  cases hL : isL l[i]
  · rw [if_neg (show ¬ (false = true) by decide), if_neg (show ¬ (false = true) by decide)]
    have hj : (if (l[i].toNat : Int) ≥ 48 then (impl_tokenAt.j0v (B l) (i : Int) v (-1) (l[i].toNat : Int) (decide ((l[i].toNat : Int) ≤ 57)) 0 (⟨#[]⟩ : ByteArray) 0 (i : Int)) else (impl_tokenAt.j0v (B l) (i : Int) v (-1) (l[i].toNat : Int) false 0 (⟨#[]⟩ : ByteArray) 0 (i : Int))) = impl_tokenAt.j0v (B l) (i : Int) v (-1) (l[i].toNat : Int) (isD l[i]) 0 (⟨#[]⟩ : ByteArray) 0 (i : Int) := by
      unfold isD
      by_cases h : (l[i].toNat : Int) ≥ 48
      · rw [if_pos h, decide_eq_true (show 48 ≤ l[i].toNat by omega), Bool.true_and]
        congr 1
        rw [Bool.eq_iff_iff]; simp; omega
      · rw [if_neg h, decide_eq_false (show ¬ 48 ≤ l[i].toNat by omega), Bool.false_and]
    rw [hj, impl_tokenAt.j0v_eq]
    cases hD : isD l[i]
    · rw [if_neg (show ¬ (false = true) by decide), if_neg (show ¬ (false = true) by decide)]
      by_cases h34 : (l[i].toNat : Int) = 34
      · rw [if_pos h34, if_pos h34, spec_l7Text.fv_eq, impl_textAt.fv_eq, ew]
        obtain ⟨t, e, ok, e1, e2, e3⟩ := text_both l (by omega) _ (i + 1) [] (Nat.le_refl _) (by omega) (by simp; omega)
        rw [e1, e2, Option.bind_some, Option.bind_some]
        cases ok
        · exact one_no (by simp)
        · have := e3 rfl; exact one_yes (by simp only []; omega) (by simp only []; omega) ⟨rfl, by omega, fun x => by omega⟩
      · rw [if_neg h34, if_neg h34]
        have hsign : One l i (spec_l7One.j1v (B l) (i : Int) false) (impl_tokenAt.j1v (B l) (i : Int) (-1) false 0 (⟨#[]⟩ : ByteArray) 0 (i : Int)) := by
          rw [spec_l7One.j1v_eq, impl_tokenAt.j1v_eq, if_neg (show ¬ (false = true) by decide), if_neg (show ¬ (false = true) by decide), spec_l7Sign.fv_eq]
          unfold impl_signsOf.f
          rw [Option.bind_some]
          generalize hS : ([(⟨#[61, 61]⟩ : ByteArray), (⟨#[33, 61]⟩ : ByteArray), (⟨#[60, 61]⟩ : ByteArray), (⟨#[62, 61]⟩ : ByteArray), (⟨#[38, 38]⟩ : ByteArray), (⟨#[124, 124]⟩ : ByteArray), (⟨#[43, 61]⟩ : ByteArray), (⟨#[33, 126]⟩ : ByteArray), (⟨#[40]⟩ : ByteArray), (⟨#[41]⟩ : ByteArray), (⟨#[123]⟩ : ByteArray), (⟨#[125]⟩ : ByteArray), (⟨#[91]⟩ : ByteArray), (⟨#[93]⟩ : ByteArray), (⟨#[44]⟩ : ByteArray), (⟨#[59]⟩ : ByteArray), (⟨#[61]⟩ : ByteArray), (⟨#[60]⟩ : ByteArray), (⟨#[62]⟩ : ByteArray), (⟨#[33]⟩ : ByteArray), (⟨#[126]⟩ : ByteArray), (⟨#[43]⟩ : ByteArray), (⟨#[45]⟩ : ByteArray), (⟨#[42]⟩ : ByteArray), (⟨#[47]⟩ : ByteArray), (⟨#[37]⟩ : ByteArray), (⟨#[36]⟩ : ByteArray)] : List ByteArray) = S
          have hS1 : ∀ x ∈ S, 0 < x.size ∧ x.size ≤ 10 := by rw [← hS]; decide
          have hS2 : S.length ≤ 1000 := by rw [← hS]; decide
          obtain ⟨t, e1, e2, e3, e4, e5⟩ := sign_both l (by omega) i hi S hS1 hS2 _ 0 rfl (by omega)
          have e1' : spec_l7Sign.l0v (B l) (i : Int) S 0 = some t := e1
          have e2' : impl_tokenAt.l0v (B l) (i : Int) (-1) S (S.length : Int) 0 0 (⟨#[]⟩ : ByteArray) 0 (i : Int) = _ := e2
          rw [e1', e2', Option.bind_some, wrap_in (by omega) (by omega)]
          by_cases ht : t.toList = []
          · rw [if_pos ht, show (t.toList != ([] : List UInt8)) = false by rw [ht]; rfl]
            exact one_no (by omega)
          · rw [if_neg ht, show (t.toList != ([] : List UInt8)) = true by simpa using ht]
            have : t.size ≠ 0 := fun x => ht (e4.2 x)
            exact one_yes (by omega) (by omega) ⟨rfl, by omega, fun _ => ⟨e3, e5 this⟩⟩
        by_cases h47 : (l[i].toNat : Int) = 47
        · rw [if_pos h47, if_pos h47, hv, Option.bind_some]
          cases v
          · rw [show (!false) = true from rfl, spec_l7One.j1v_eq, impl_tokenAt.j1v_eq, if_pos rfl, if_pos rfl, spec_l7Rex.fv_eq, impl_rexAt.fv_eq, ew]
            obtain ⟨t, e, ok, e1, e2, e3⟩ := rex_both l (by omega) _ (i + 1) [] (Nat.le_refl _) (by omega) (by simp; omega)
            rw [e1, e2, Option.bind_some, Option.bind_some]
            cases ok
            · exact one_no (by simp)
            · have := e3 rfl; exact one_yes (by simp only []; omega) (by simp only []; omega) ⟨rfl, by omega, fun x => by omega⟩
          · exact hsign
        · rw [if_neg h47, if_neg h47]; exact hsign
    · rw [if_pos rfl, if_pos rfl, num_impl l (by omega) i (by omega)]
      obtain ⟨a, e1, e2⟩ := num_spec l (by omega) i hi hD
      have hE := numEnd_le l i (by omega)
      have hws : run l i ≠ [] := by rw [run_step l i hi, hD]; simp
      have hm : i < numMid l i := by unfold numMid; have := List.length_pos_iff.2 hws; omega
      rw [e1, Option.bind_some, Option.bind_some]
      cases hok : numOk l i
      · rw [if_neg (by simp)]; exact one_no (by simp)
      · rw [if_pos rfl, e2 hok]; exact one_yes (by simp only []; omega) (by simp only []; omega) ⟨rfl, by omega, fun x => by omega⟩
  · rw [if_pos rfl, if_pos rfl, lets l (by omega) i (by omega), Option.bind_some, name_spec l (by omega) i _ i (Nat.le_refl _) (Nat.le_refl _) (by omega)]
    have hr := runL_le l i (by omega)
    have hne : 0 < (runL l i).length := by rw [runL_step l i hi, hL]; simp
    by_cases h8 : ((runL l i).length : Int) ≤ 8
    · rw [if_pos h8, decide_eq_true (show ((i + (runL l i).length : Nat) : Int) - (i : Int) ≤ 8 by omega), wrap_in (by omega) (by omega), if_pos (by omega), if_pos (by omega), show (i : Int) + ((runL l i).length : Int) = ((i + (runL l i).length : Nat) : Int) by omega]
      have hcs : (cutB l i (i + (runL l i).length)).size = (runL l i).length := by unfold cutB; rw [B_extract, B_size, List.length_take, List.length_drop]; omega
      exact one_yes (by omega) (by omega) ⟨rfl, by omega, fun _ => by rw [hcs]; exact ⟨hr, rfl⟩⟩
    · rw [if_neg h8, decide_eq_false (show ¬ ((i + (runL l i).length : Nat) : Int) - (i : Int) ≤ 8 by omega)]
      exact one_no (by omega)

/-! ### what stands between, and the whole -/
def upTo (l : List UInt8) (j : Nat) : List UInt8 := (l.drop j).takeWhile (· != 10)
theorem upTo_le (l : List UInt8) (j : Nat) (h : j ≤ l.length) : j + (upTo l j).length ≤ l.length := by
  have h1 : (upTo l j).length ≤ (l.drop j).length := (List.takeWhile_sublist _).length_le
  rw [List.length_drop] at h1; omega
theorem note_spec (l : List UInt8) (hl : l.length ≤ 2000) (out : List S32) (d : Nat) : ∀ j : Nat, l.length - j ≤ d → j ≤ l.length → spec_Tokens.l1v (B l) out (j : Int) = spec_Tokens.l0v (B l) out ((j + (upTo l j).length : Nat) : Int) := by
  induction d with
  | zero =>
    intro j h1 h2
    rw [spec_Tokens.l1v_eq, if_neg (by rw [B_size]; omega)]
    unfold upTo
    rw [List.drop_eq_nil_of_le (by omega)]; rfl
  | succ d ih =>
    intro j h1 h2
    rw [spec_Tokens.l1v_eq]
    by_cases h : j < l.length
    · rw [if_pos (by rw [B_size]; omega), if_pos (by omega), B_bt l j h]
      have hb := byte_is l[j] 10 10 rfl
      have hu : upTo l j = if (l[j] != 10) = true then l[j] :: upTo l (j + 1) else [] := by
        unfold upTo
        rw [List.drop_eq_getElem_cons h, List.takeWhile_cons]
      by_cases hd : l[j] = 10
      · rw [if_pos (hb.2 hd), hu, if_neg (by simp [hd])]; rfl
      · rw [if_neg (fun x => hd (hb.1 x)), wrap_in (by omega) (by omega), show (j : Int) + 1 = ((j + 1 : Nat) : Int) by omega, ih (j + 1) (by omega) (by omega), hu, if_pos (by simpa using hd), List.length_cons, show j + 1 + (upTo l (j + 1)).length = j + ((upTo l (j + 1)).length + 1) by omega]
    · rw [if_neg (by rw [B_size]; omega)]
      unfold upTo
      rw [List.drop_eq_nil_of_le (by omega)]; rfl
theorem index_upTo (l : List UInt8) : Lib.indexByte l 10 = if (l.takeWhile (· != 10)).length = l.length then -1 else ((l.takeWhile (· != 10)).length : Int) := by
  induction l with
  | nil => rfl
  | cons b r ih =>
    rw [Lib.indexByte, List.takeWhile_cons]
    by_cases h : b = 10
    · subst h; simp
    · rw [if_neg (show ¬ ((b == 10) = true) by simpa using h), ih, if_pos (show (b != 10) = true by simpa using h), List.length_cons, List.length_cons]
      by_cases h2 : (r.takeWhile (· != 10)).length = r.length
      · rw [if_pos h2, if_pos (show (r.takeWhile (· != 10)).length + 1 = r.length + 1 by omega)]; rfl
      · rw [if_neg h2, if_neg (show ¬ (r.takeWhile (· != 10)).length + 1 = r.length + 1 by omega), if_neg (show ¬ ((((r.takeWhile (· != 10)).length : Int) == -1) = true) by first | (simp; done) | (simp; omega))]; omega
def stops (l : List UInt8) (p : Nat) : Prop := ∀ h : p < l.length, l[p] ≠ 32 ∧ l[p] ≠ 10 ∧ l[p] ≠ 35
theorem skip_both (l : List UInt8) (hl : l.length ≤ 2000) (d : Nat) : ∀ i : Nat, l.length - i ≤ d → i ≤ l.length → ∃ p : Nat, impl_skip.l0v (B l) (i : Int) = some (p : Int) ∧ i ≤ p ∧ p ≤ l.length ∧ stops l p ∧ ∀ out, spec_Tokens.l0v (B l) out (i : Int) = spec_Tokens.l0v (B l) out (p : Int) := by
  induction d with
  | zero =>
    intro i h1 h2
    refine ⟨i, ?_, by omega, h2, fun h => by omega, fun _ => rfl⟩
    rw [impl_skip.l0v_eq, if_neg (by rw [B_size]; omega)]
  | succ d ih =>
    intro i h1 h2
    by_cases h : i < l.length
    · have e1 : wrap64 ((i : Int) + 1) = ((i + 1 : Nat) : Int) := by rw [wrap_in (by omega) (by omega)]; omega
      have hsz : ((B l).size : Int) = (l.length : Int) := by rw [B_size]
      have b32 := byte_is l[i] 32 32 rfl
      have b10 := byte_is l[i] 10 10 rfl
      have b35 := byte_is l[i] 35 35 rfl
      have si : impl_skip.l0v (B l) (i : Int) = impl_skip.j1v (B l) (i : Int) (l[i] == 32 || l[i] == 10) := by
        rw [impl_skip.l0v_eq]
        simp only [hsz, eq_true (show (i : Int) < (l.length : Int) by omega), eq_true (show (0 : Int) ≤ (i : Int) by omega), if_true, B_bt l i h]
        by_cases c : l[i] = 32
        · rw [if_pos (b32.2 c)]; simp [c]
        · rw [if_neg (fun x => c (b32.1 x))]
          congr 1
          rw [show (l[i] == 32) = false by simpa using c, Bool.false_or, Bool.eq_iff_iff]
          simp only [beq_iff_eq]; exact b10
      have ss : ∀ out, spec_Tokens.l0v (B l) out (i : Int) = spec_Tokens.j1v (B l) out (i : Int) (l[i] == 32 || l[i] == 10) := by
        intro out
        rw [spec_Tokens.l0v_eq]
        simp only [hsz, eq_true (show (i : Int) < (l.length : Int) by omega), eq_true (show (0 : Int) ≤ (i : Int) by omega), if_true, B_bt l i h]
        by_cases c : l[i] = 32
        · rw [if_pos (b32.2 c)]; simp [c]
        · rw [if_neg (fun x => c (b32.1 x))]
          congr 1
          rw [show (l[i] == 32) = false by simpa using c, Bool.false_or, Bool.eq_iff_iff]
          simp only [beq_iff_eq]; exact b10
      cases hc : (l[i] == 32 || l[i] == 10)
      · have hc2 : l[i] ≠ 32 ∧ l[i] ≠ 10 := by simpa using hc
        rw [hc] at si
        rw [si, impl_skip.j1v_eq, if_neg (show ¬ (false = true) by decide)]
        simp only [hsz, eq_true (show (i : Int) < (l.length : Int) by omega), eq_true (show (i : Int) ≤ (l.length : Int) by omega), eq_true (show (0 : Int) ≤ (i : Int) by omega), if_true, B_bt l i h]
        by_cases c35 : l[i] = 35
        · have hu := upTo_le l i h2
          have hpos : 0 < (upTo l i).length := by
            unfold upTo
            rw [List.drop_eq_getElem_cons h, List.takeWhile_cons, if_pos (by simpa using hc2.2)]; simp
          have hix : strings_IndexByte.f ((B l).extract (i : Int).toNat (B l).size) 10 = some (if (upTo l i).length = l.length - i then -1 else ((upTo l i).length : Int)) := by
            unfold strings_IndexByte.f
            rw [B_size, B_extract, B_data, Int.toNat_natCast, List.take_of_length_le (by simp), show (10 : Int).toNat.toUInt8 = 10 from rfl, index_upTo, List.length_drop]
            rfl
          have hnote : ∀ out, spec_Tokens.l0v (B l) out (i : Int) = spec_Tokens.l0v (B l) out ((i + (upTo l i).length : Nat) : Int) := by
            intro out
            rw [ss out, hc, spec_Tokens.j1v_eq, if_neg (show ¬ (false = true) by decide)]
            simp only [hsz, eq_true (show (i : Int) < (l.length : Int) by omega), eq_true (show (0 : Int) ≤ (i : Int) by omega), if_true, B_bt l i h]
            rw [if_pos (b35.2 c35)]
            exact note_spec l hl out _ i (Nat.le_refl _) h2
          rw [if_pos (b35.2 c35), hix, Option.bind_some]
          by_cases ha : (upTo l i).length = l.length - i
          · rw [if_pos ha, if_pos (by omega)]
            refine ⟨l.length, rfl, h2, Nat.le_refl _, fun x => by omega, fun out => ?_⟩
            rw [hnote out, ha, show i + (l.length - i) = l.length by omega]
          · rw [if_neg ha, if_neg (by omega), wrap_in (by omega) (by omega), show (i : Int) + ((upTo l i).length : Int) = ((i + (upTo l i).length : Nat) : Int) by omega]
            obtain ⟨p, p1, p2, p3, p4, p5⟩ := ih (i + (upTo l i).length) (by omega) (by omega)
            exact ⟨p, p1, by omega, p3, p4, fun out => (hnote out).trans (p5 out)⟩
        · rw [if_neg (fun x => c35 (b35.1 x))]
          exact ⟨i, rfl, Nat.le_refl _, h2, fun _ => ⟨hc2.1, hc2.2, c35⟩, fun _ => rfl⟩
      · obtain ⟨p, p1, p2, p3, p4, p5⟩ := ih (i + 1) (by omega) (by omega)
        refine ⟨p, ?_, by omega, p3, p4, fun out => ?_⟩
        · rw [si, hc, impl_skip.j1v_eq, if_pos rfl, e1]; exact p1
        · rw [ss out, hc, spec_Tokens.j1v_eq, if_pos rfl, e1]; exact p5 out
    · refine ⟨i, ?_, by omega, h2, fun h' => by omega, fun _ => rfl⟩
      rw [impl_skip.l0v_eq, if_neg (by rw [B_size]; omega)]
theorem after_last (out : List S32) (ho : out.length ≤ 100000) (h : 0 < out.length) : ∃ v : Bool, spec_l7After.f out = some v ∧ 0 ≤ wrap64 ((out.length : Int) - 1) ∧ wrap64 ((out.length : Int) - 1) < (out.length : Int) ∧ impl_isValue.f (rd_T32 out (wrap64 ((out.length : Int) - 1))).f0 (rd_T32 out (wrap64 ((out.length : Int) - 1))).f1 (rd_T32 out (wrap64 ((out.length : Int) - 1))).f2 (rd_T32 out (wrap64 ((out.length : Int) - 1))).f3 = some v := by
  have hw : wrap64 ((out.length : Int) - 1) = (out.length : Int) - 1 := wrap_in (by omega) (by omega)
  obtain ⟨b, b1, b2⟩ := isv_after (rd_T32 out (wrap64 ((out.length : Int) - 1)))
  refine ⟨b, ?_, by omega, by omega, b1⟩
  unfold spec_l7After.f
  rw [if_neg (by omega), if_pos (by omega), if_pos (by omega)]
  exact b2
theorem tokens_run (l : List UInt8) (hl : l.length ≤ 2000) (d : Nat) : ∀ (p : Nat) (out : List S32), l.length - p ≤ d → p ≤ l.length → stops l p → out.length + (l.length - p) ≤ 3000 → ∃ r, spec_Tokens.l0v (B l) out (p : Int) = some r ∧ impl_Tokens.l0v (B l) out (p : Int) = some r ∧ r.1.length ≤ 4000 := by
  have hsz : ((B l).size : Int) = (l.length : Int) := by rw [B_size]
  have fin : ∀ (p : Nat) (out : List S32), ¬ p < l.length → out.length ≤ 3000 → ∃ r, spec_Tokens.l0v (B l) out (p : Int) = some r ∧ impl_Tokens.l0v (B l) out (p : Int) = some r ∧ r.1.length ≤ 4000 := by
    intro p out h ho
    have hp : ¬ (p : Int) < ((B l).size : Int) := by rw [hsz]; omega
    rw [spec_Tokens.l0v_eq, impl_Tokens.l0v_eq, if_neg hp, if_neg hp, if_pos (show out.length < 3518437208883 by omega)]
    exact ⟨_, rfl, rfl, by simp; omega⟩
  induction d with
  | zero =>
    intro p out h1 h2 _ h3
    exact fin p out (by omega) (by omega)
  | succ d ih =>
    intro p out h1 h2 hst h3
    by_cases h : p < l.length
    · obtain ⟨n32, n10, n35⟩ := hst h
      have b32 := byte_is l[p] 32 32 rfl
      have b10 := byte_is l[p] 10 10 rfl
      have b35 := byte_is l[p] 35 35 rfl
      have hs : ∀ v, spec_l7After.f out = some v → One l p (spec_l7One.fv (B l) (p : Int) out) (impl_tokenAt.fv (B l) (p : Int) v) := fun v hv => one_both l hl p h out v hv
      have sp : spec_Tokens.l0v (B l) out (p : Int) = ((spec_l7One.fv (B l) (p : Int) out).bind fun bt => (if bt.2.2.2.2.2 = true then (if out.length < 3518437208883 then (spec_Tokens.l0v (B l) (out ++ [(⟨bt.1, bt.2.1, bt.2.2.1, bt.2.2.2.1⟩ : S32)]) bt.2.2.2.2.1) else none) else (some ((([] : List (S32))), (p : Int))))) := by
        rw [spec_Tokens.l0v_eq]
        simp only [hsz, eq_true (show (p : Int) < (l.length : Int) by omega), eq_true (show (0 : Int) ≤ (p : Int) by omega), if_true, B_bt l p h]
        rw [if_neg (fun x => n32 (b32.1 x)), show (((l[p].toNat : Nat) : Int) == 10) = false by simpa using fun x => n10 (b10.1 x), spec_Tokens.j1v_eq, if_neg (show ¬ (false = true) by decide)]
        simp only [hsz, eq_true (show (p : Int) < (l.length : Int) by omega), eq_true (show (0 : Int) ≤ (p : Int) by omega), if_true, B_bt l p h]
        rw [if_neg (fun x => n35 (b35.1 x))]
      have key : ∀ v, spec_l7After.f out = some v → ∃ r, ((spec_l7One.fv (B l) (p : Int) out).bind fun bt => (if bt.2.2.2.2.2 = true then (if out.length < 3518437208883 then (spec_Tokens.l0v (B l) (out ++ [(⟨bt.1, bt.2.1, bt.2.2.1, bt.2.2.2.1⟩ : S32)]) bt.2.2.2.2.1) else none) else (some ((([] : List (S32))), (p : Int))))) = some r ∧ ((impl_tokenAt.fv (B l) (p : Int) v).bind fun bt => (if bt.2.2.2.2 < 0 then (some (([] : List (S32)), (p : Int))) else (if out.length < 3518437208883 then ((impl_skip.fv (B l) bt.2.2.2.2).bind fun t => (impl_Tokens.l0v (B l) (out ++ [(⟨bt.1, bt.2.1, bt.2.2.1, bt.2.2.2.1⟩ : S32)]) t)) else none))) = some r ∧ r.1.length ≤ 4000 := by
        intro v hv
        obtain ⟨a, t, n, at_, e, ok, e1, e2⟩ := hs v hv
        rw [e1, Option.bind_some]
        cases ok
        · rw [if_neg (by simp)] at e2
          obtain ⟨a2, t2, n2, at2, e3, e4, e5⟩ := e2
          rw [e4, Option.bind_some]
          simp only []
          rw [if_neg (by simp), if_pos e5]
          exact ⟨_, rfl, rfl, by simp⟩
        · rw [if_pos rfl] at e2
          obtain ⟨e4, e5, e6, _⟩ := e2
          obtain ⟨q, rfl⟩ : ∃ q : Nat, e = (q : Int) := ⟨e.toNat, by omega⟩
          obtain ⟨p2, p21, p22, p23, p24, p25⟩ := skip_both l hl _ q (Nat.le_refl _) (by omega)
          rw [e4, Option.bind_some]
          simp only []
          rw [if_pos trivial, if_pos (show out.length < 3518437208883 by omega), if_neg (show ¬ (q : Int) < 0 by omega), if_pos (show out.length < 3518437208883 by omega), impl_skip.fv_eq, p21, Option.bind_some, p25]
          exact ih p2 _ (by omega) p23 p24 (by simp; omega)
      rw [sp, impl_Tokens.l0v_eq, if_pos (by rw [hsz]; omega)]
      by_cases ho : (out.length : Int) > 0
      · obtain ⟨v, v1, v2, v3, v4⟩ := after_last out (by omega) (by omega)
        rw [if_pos ho, if_pos v2, if_pos v3, v4, Option.bind_some]
        exact key v v1
      · rw [if_neg ho]
        refine key false ?_
        unfold spec_l7After.f
        rw [if_pos (by omega)]
    · exact fin p out h (by omega)
theorem tokens_both (s : ByteArray) : ∃ r, spec_Tokens.fv s = some r ∧ impl_Tokens.fv s = some r ∧ r.1.length ≤ 4000 := by
  obtain ⟨l, rfl⟩ : ∃ l, s = B l := ⟨s.data.toList, (B_self s).symm⟩
  rw [spec_Tokens.fv_eq, impl_Tokens.fv_eq, Option.bind_some, B_size]
  by_cases h : (l.length : Int) > 2000
  · rw [if_pos h, if_pos h]; exact ⟨_, rfl, rfl, by simp⟩
  · rw [if_neg h, if_neg h]
    obtain ⟨p, p1, p2, p3, p4, p5⟩ := skip_both l (by omega) _ 0 (Nat.le_refl _) (by omega)
    have p1' : impl_skip.l0v (B l) 0 = some (p : Int) := p1
    have p5' : spec_Tokens.l0v (B l) [] 0 = spec_Tokens.l0v (B l) [] (p : Int) := p5 []
    rw [impl_skip.fv_eq, p1', Option.bind_some, p5']
    exact tokens_run l (by omega) _ p [] (Nat.le_refl _) p3 p4 (by simp; omega)

/-! ### where the tokens stand -/
def TextOk (l : List UInt8) (x : S32) : Prop := (x.f0 = 1 ∨ x.f0 = 5) → x.f3.toNat + x.f1.size ≤ l.length ∧ x.f1 = cutB l x.f3.toNat (x.f3.toNat + x.f1.size)
def Inv (l : List UInt8) (p : Nat) (out : List S32) : Prop := ∀ i (h : i < out.length), (∀ h0 : 0 < i, (out[i - 1]'(by omega)).f3 < out[i].f3) ∧ 0 ≤ out[i].f3 ∧ out[i].f3 < (p : Int) ∧ TextOk l out[i]
theorem inv_nil (l : List UInt8) (p : Nat) : Inv l p [] := fun i h => by simp at h
theorem inv_snoc (l : List UInt8) (p q : Nat) (out : List S32) (x : S32) (hI : Inv l p out) (hx : x.f3 = (p : Int)) (ht : TextOk l x) (hq : p < q) : Inv l q (out ++ [x]) := by
  intro i h
  rw [List.length_append, List.length_singleton] at h
  by_cases hi : i < out.length
  · obtain ⟨a, b, c, d⟩ := hI i hi
    simp only [List.getElem_append_left hi]
    refine ⟨fun h0 => ?_, b, by omega, d⟩
    rw [List.getElem_append_left (by omega)]
    exact a h0
  · have : i = out.length := by omega
    subst this
    simp only [List.getElem_append_right (Nat.le_refl _), Nat.sub_self, List.getElem_singleton]
    refine ⟨fun h0 => ?_, by omega, by omega, ht⟩
    rw [List.getElem_append_left (by omega)]
    obtain ⟨_, _, c, _⟩ := hI (out.length - 1) (by omega)
    omega
/-- What the tokens of a text come to. -/
def Told (l : List UInt8) (r : List S32 × Int) : Prop := (0 ≤ r.2 ∧ r.1 = []) ∨ (r.2 = -1 ∧ ∃ out, r.1 = out ++ [⟨0, ⟨#[]⟩, 0, (l.length : Int)⟩] ∧ Inv l l.length out)
theorem tokens_told (l : List UInt8) (hl : l.length ≤ 2000) (d : Nat) : ∀ (p : Nat) (out : List S32), l.length - p ≤ d → p ≤ l.length → stops l p → out.length + (l.length - p) ≤ 3000 → Inv l p out → ∃ r, spec_Tokens.l0v (B l) out (p : Int) = some r ∧ impl_Tokens.l0v (B l) out (p : Int) = some r ∧ Told l r := by
  have hsz : ((B l).size : Int) = (l.length : Int) := by rw [B_size]
  have fin : ∀ (p : Nat) (out : List S32), ¬ p < l.length → p ≤ l.length → out.length ≤ 3000 → Inv l p out → ∃ r, spec_Tokens.l0v (B l) out (p : Int) = some r ∧ impl_Tokens.l0v (B l) out (p : Int) = some r ∧ Told l r := by
    intro p out h hp2 ho hI
    have hI2 : Inv l l.length out := by have hpe : p = l.length := by omega
                                        rw [← hpe]; exact hI
    have hp : ¬ (p : Int) < ((B l).size : Int) := by rw [hsz]; omega
    rw [spec_Tokens.l0v_eq, impl_Tokens.l0v_eq, if_neg hp, if_neg hp, if_pos (show out.length < 3518437208883 by omega)]
    exact ⟨_, rfl, rfl, .inr ⟨rfl, out, by rw [hsz], hI2⟩⟩
  induction d with
  | zero =>
    intro p out h1 h2 _ h3 hI
    exact fin p out (by omega) h2 (by omega) hI
  | succ d ih =>
    intro p out h1 h2 hst h3 hI
    by_cases h : p < l.length
    · obtain ⟨n32, n10, n35⟩ := hst h
      have b32 := byte_is l[p] 32 32 rfl
      have b10 := byte_is l[p] 10 10 rfl
      have b35 := byte_is l[p] 35 35 rfl
      have hs : ∀ v, spec_l7After.f out = some v → One l p (spec_l7One.fv (B l) (p : Int) out) (impl_tokenAt.fv (B l) (p : Int) v) := fun v hv => one_both l hl p h out v hv
      have sp : spec_Tokens.l0v (B l) out (p : Int) = ((spec_l7One.fv (B l) (p : Int) out).bind fun bt => (if bt.2.2.2.2.2 = true then (if out.length < 3518437208883 then (spec_Tokens.l0v (B l) (out ++ [(⟨bt.1, bt.2.1, bt.2.2.1, bt.2.2.2.1⟩ : S32)]) bt.2.2.2.2.1) else none) else (some ((([] : List (S32))), (p : Int))))) := by
        rw [spec_Tokens.l0v_eq]
        simp only [hsz, eq_true (show (p : Int) < (l.length : Int) by omega), eq_true (show (0 : Int) ≤ (p : Int) by omega), if_true, B_bt l p h]
        rw [if_neg (fun x => n32 (b32.1 x)), show (((l[p].toNat : Nat) : Int) == 10) = false by simpa using fun x => n10 (b10.1 x), spec_Tokens.j1v_eq, if_neg (show ¬ (false = true) by decide)]
        simp only [hsz, eq_true (show (p : Int) < (l.length : Int) by omega), eq_true (show (0 : Int) ≤ (p : Int) by omega), if_true, B_bt l p h]
        rw [if_neg (fun x => n35 (b35.1 x))]
      have key : ∀ v, spec_l7After.f out = some v → ∃ r, ((spec_l7One.fv (B l) (p : Int) out).bind fun bt => (if bt.2.2.2.2.2 = true then (if out.length < 3518437208883 then (spec_Tokens.l0v (B l) (out ++ [(⟨bt.1, bt.2.1, bt.2.2.1, bt.2.2.2.1⟩ : S32)]) bt.2.2.2.2.1) else none) else (some ((([] : List (S32))), (p : Int))))) = some r ∧ ((impl_tokenAt.fv (B l) (p : Int) v).bind fun bt => (if bt.2.2.2.2 < 0 then (some (([] : List (S32)), (p : Int))) else (if out.length < 3518437208883 then ((impl_skip.fv (B l) bt.2.2.2.2).bind fun t => (impl_Tokens.l0v (B l) (out ++ [(⟨bt.1, bt.2.1, bt.2.2.1, bt.2.2.2.1⟩ : S32)]) t)) else none))) = some r ∧ Told l r := by
        intro v hv
        obtain ⟨a, t, n, at_, e, ok, e1, e2⟩ := hs v hv
        rw [e1, Option.bind_some]
        cases ok
        · rw [if_neg (by simp)] at e2
          obtain ⟨a2, t2, n2, at2, e3, e4, e5⟩ := e2
          rw [e4, Option.bind_some]
          simp only []
          rw [if_neg (by simp), if_pos e5]
          exact ⟨_, rfl, rfl, .inl ⟨by show (0 : Int) ≤ (p : Int); omega, rfl⟩⟩
        · rw [if_pos rfl] at e2
          obtain ⟨e4, e5, e6, g1, g2, g3⟩ := e2
          obtain ⟨q, rfl⟩ : ∃ q : Nat, e = (q : Int) := ⟨e.toNat, by omega⟩
          obtain ⟨p2, p21, p22, p23, p24, p25⟩ := skip_both l hl _ q (Nat.le_refl _) (by omega)
          rw [e4, Option.bind_some]
          simp only []
          rw [if_pos trivial, if_pos (show out.length < 3518437208883 by omega), if_neg (show ¬ (q : Int) < 0 by omega), if_pos (show out.length < 3518437208883 by omega), impl_skip.fv_eq, p21, Option.bind_some, p25]
          exact ih p2 _ (by omega) p23 p24 (by simp; omega) (inv_snoc l p p2 out _ hI g1 (fun x => by obtain ⟨y1, y2⟩ := g3 x; subst g1; exact ⟨y1, y2⟩) (by omega))
      rw [sp, impl_Tokens.l0v_eq, if_pos (by rw [hsz]; omega)]
      by_cases ho : (out.length : Int) > 0
      · obtain ⟨v, v1, v2, v3, v4⟩ := after_last out (by omega) (by omega)
        rw [if_pos ho, if_pos v2, if_pos v3, v4, Option.bind_some]
        exact key v v1
      · rw [if_neg ho]
        refine key false ?_
        unfold spec_l7After.f
        rw [if_pos (by omega)]
    · exact fin p out h h2 (by omega) hI
theorem told_both (l : List UInt8) : ∃ r, spec_Tokens.fv (B l) = some r ∧ impl_Tokens.fv (B l) = some r ∧ Told l r := by
  rw [spec_Tokens.fv_eq, impl_Tokens.fv_eq, Option.bind_some, B_size]
  by_cases h : (l.length : Int) > 2000
  · rw [if_pos h, if_pos h]; exact ⟨_, rfl, rfl, .inl ⟨Int.le_refl _, rfl⟩⟩
  · rw [if_neg h, if_neg h]
    obtain ⟨p, p1, p2, p3, p4, p5⟩ := skip_both l (by omega) _ 0 (Nat.le_refl _) (by omega)
    have p1' : impl_skip.l0v (B l) 0 = some (p : Int) := p1
    have p5' : spec_Tokens.l0v (B l) [] 0 = spec_Tokens.l0v (B l) [] (p : Int) := p5 []
    rw [impl_skip.fv_eq, p1', Option.bind_some, p5']
    exact tokens_told l (by omega) _ p [] (Nat.le_refl _) p3 p4 (by simp; omega) (inv_nil l p)

/-! ### draws: each says something, and keeps its place -/
theorem and255 (x : Int) : 0 ≤ Go.bits .and .i64 x 255 ∧ Go.bits .and .i64 x 255 ≤ 255 := by
  have e : Go.bits .and .i64 x 255 = IntKind.i64.wrap ((BitVec.ofInt 64 x &&& BitVec.ofInt 64 255).toNat : Nat) := rfl
  have h : (BitVec.ofInt 64 x &&& BitVec.ofInt 64 255).toNat ≤ 255 := by
    rw [BitVec.toNat_and]
    exact Nat.and_le_right
  rw [e, IntKind.wrap_i64]
  omega
theorem new_run (l : List Int) (_hl : l.length ≤ 9223372036854775806) (d : Nat) : ∀ (i : Nat) (s : Int), l.length - i = d → i ≤ l.length → ∃ t, spec_l1New.l0v l s (i : Int) = some (l, 0, t) := by
  induction d with
  | zero =>
    intro i s h1 h2
    rw [spec_l1New.l0v_eq, if_neg (by omega)]
    exact ⟨_, rfl⟩
  | succ d ih =>
    intro i s h1 h2
    rw [spec_l1New.l0v_eq, if_pos (by omega)]
    by_cases h : (i : Int) < 4000
    · rw [if_pos h, if_pos (by omega), wrap_in (n := (i : Int) + 1) (by omega) (by omega), show (i : Int) + 1 = ((i + 1 : Nat) : Int) by omega]
      exact ih (i + 1) _ (by omega) (by omega)
    · rw [if_neg h]
      exact ⟨_, rfl⟩
theorem draw_new (l : List Int) (hl : l.length ≤ 1048576) : ∃ t, spec_l1New.fv l = some (l, 0, t) := by
  rw [spec_l1New.fv_eq]
  exact new_run l (by omega) l.length 0 _ (by omega) (by omega)
/-- A draw's word: what it says has p, and its place stands in the row still. -/
def Draws {α : Type} (l : List Int) (o : Option (α × Int × Int)) (p : α → Prop) : Prop := ∃ r a s, o = some (r, a, s) ∧ p r ∧ 0 ≤ a ∧ a ≤ l.length
theorem draw_byte (l : List Int) (hl : l.length ≤ 1048576) (a s : Int) (h0 : 0 ≤ a) (h1 : a ≤ l.length) : Draws l (spec_l1Byte.f l a s) (fun r => 0 ≤ r ∧ r ≤ 255) := by
  unfold spec_l1Byte.f
  by_cases h : a < (l.length : Int)
  · rw [if_pos h, if_pos h0, wrap_in (n := a + 1) (by omega) (by omega)]
    exact ⟨_, _, _, rfl, and255 _, by omega, by omega⟩
  · rw [if_neg h]
    exact ⟨_, _, _, rfl, and255 _, h0, h1⟩
theorem draw_below (l : List Int) (hl : l.length ≤ 1048576) (a s n : Int) (h0 : 0 ≤ a) (h1 : a ≤ l.length) (hn : 0 < n) : Draws l (spec_l1Below.f l a s n) (fun r => 0 ≤ r ∧ r < n) := by
  unfold spec_l1Below.f
  rw [if_neg (by omega)]
  by_cases h : n ≤ 256
  · rw [if_pos h]
    obtain ⟨r, b, t, e, hr, hb0, hb1⟩ := draw_byte l hl a s h0 h1
    rw [e, Option.bind_some, if_neg (by omega)]
    refine ⟨_, _, _, rfl, ?_, hb0, hb1⟩
    simp only []
    rw [Int.tmod_eq_emod_of_nonneg hr.1]
    exact ⟨Int.emod_nonneg _ (by omega), Int.emod_lt_of_pos _ hn⟩
  · rw [if_neg h]
    obtain ⟨r1, b1, t1, e1, hr1, hb1, hb1'⟩ := draw_byte l hl a s h0 h1
    rw [e1, Option.bind_some]
    obtain ⟨r2, b2, t2, e2, hr2, hb2, hb2'⟩ := draw_byte l hl b1 t1 hb1 hb1'
    simp only []
    rw [e2, Option.bind_some]
    obtain ⟨r3, b3, t3, e3, hr3, hb3, hb3'⟩ := draw_byte l hl b2 t2 hb2 hb2'
    simp only []
    rw [e3, Option.bind_some]
    obtain ⟨r4, b4, t4, e4, hr4, hb4, hb4'⟩ := draw_byte l hl b3 t3 hb3 hb3'
    simp only []
    rw [e4, Option.bind_some, if_neg (by omega)]
    refine ⟨_, _, _, rfl, ?_, hb4, hb4'⟩
    simp only []
    rw [wrap_in (n := r1 * 16777216) (by omega) (by omega), wrap_in (n := r2 * 65536) (by omega) (by omega), wrap_in (n := r3 * 256) (by omega) (by omega), wrap_in (n := r1 * 16777216 + r2 * 65536) (by omega) (by omega), wrap_in (n := r1 * 16777216 + r2 * 65536 + r3 * 256) (by omega) (by omega), wrap_in (n := r1 * 16777216 + r2 * 65536 + r3 * 256 + r4) (by omega) (by omega), Int.tmod_eq_emod_of_nonneg (by omega)]
    exact ⟨Int.emod_nonneg _ (by omega), Int.emod_lt_of_pos _ hn⟩
theorem draw_once (l : List Int) (hl : l.length ≤ 1048576) (a s n : Int) (h0 : 0 ≤ a) (h1 : a ≤ l.length) (hn : 0 < n) : Draws l (spec_l1Once.f l a s n) (fun _ => True) := by
  unfold spec_l1Once.f
  obtain ⟨r, b, t, e, _, hb0, hb1⟩ := draw_below l hl a s n h0 h1 hn
  rw [e, Option.bind_some]
  exact ⟨_, _, _, rfl, trivial, hb0, hb1⟩

/-! ### drawn texts of numbers -/
theorem draw_str (l : List Int) (hl : l.length ≤ 1048576) (a s : Int) (m : List ByteArray) (p : ByteArray → Prop) (h0 : 0 ≤ a) (h1 : a ≤ l.length) (hm : 0 < m.length) (hp : ∀ x ∈ m, p x) : Draws l (spec_l1Pick.f l a s m) p := by
  unfold spec_l1Pick.f
  obtain ⟨r, b, t, e, hr, hb0, hb1⟩ := draw_below l hl a s m.length h0 h1 (by omega)
  rw [e, Option.bind_some, if_pos hr.1, if_pos hr.2]
  obtain ⟨j, rfl⟩ := Int.eq_ofNat_of_zero_le hr.1
  refine ⟨_, _, _, rfl, ?_, hb0, hb1⟩
  simp only []
  have e2 : rdOf ByteArray.empty m (j : Int) = m[j]'(by omega) := by
    unfold rdOf
    rw [Int.toNat_natCast]
    simp [List.getD, List.getElem?_eq_getElem (show j < m.length by omega)]
  rw [e2]
  exact hp _ (List.getElem_mem _)

theorem within_loop (l : List ByteArray) (s : ByteArray) (hl : l.length ≤ 1000000) (d : Nat) : ∀ i : Nat, l.length - i = d → i ≤ l.length →
    spec_l7Within.l0v l s (i : Int) = some (decide (s.toList ∈ (l.drop i).map ByteArray.toList)) := by
  induction d with
  | zero =>
    intro i h1 h2
    rw [spec_l7Within.l0v_eq, if_neg (by omega), List.drop_of_length_le (by omega)]
    simp
  | succ d ih =>
    intro i h1 h2
    have hi : i < l.length := by omega
    rw [spec_l7Within.l0v_eq, if_pos (by omega), if_pos (by omega), rdOf_nat _ l i hi, wrap_in (by omega) (by omega), show (i : Int) + 1 = ((i + 1 : Nat) : Int) by omega, ih (i + 1) (by omega) (by omega)]
    rw [List.drop_eq_getElem_cons hi, List.map_cons]
    by_cases h : l[i].toList = s.toList
    · rw [if_pos h, h]; congr 1; exact (decide_eq_true List.mem_cons_self).symm
    · rw [if_neg h]; congr 1; rw [decide_eq_decide, List.mem_cons]; exact ⟨Or.inr, fun e => e.resolve_left (fun e => h e.symm)⟩
theorem within (l : List ByteArray) (s : ByteArray) (hl : l.length ≤ 1000000) : spec_l7Within.fv l s = some (decide (s.toList ∈ l.map ByteArray.toList)) := by
  rw [spec_l7Within.fv_eq]
  exact within_loop l s hl l.length 0 (by omega) (by omega)
theorem index_loop (l : List ByteArray) (s : ByteArray) (hl : l.length ≤ 1000000) (d : Nat) : ∀ i : Nat, l.length - i = d → i ≤ l.length →
    ∃ r : Int, slices_Index_string_string.l0v l s (l.length : Int) (i : Int) = some r ∧ (r ≥ 0 ↔ s.toList ∈ (l.drop i).map ByteArray.toList) := by
  induction d with
  | zero =>
    intro i h1 h2
    exact ⟨-1, by rw [slices_Index_string_string.l0v_eq, if_neg (by omega)], by rw [List.drop_of_length_le (by omega)]; simp⟩
  | succ d ih =>
    intro i h1 h2
    have hi : i < l.length := by omega
    obtain ⟨r, hr, he⟩ := ih (i + 1) (by omega) (by omega)
    rw [slices_Index_string_string.l0v_eq, if_pos (by omega), if_pos (by omega), if_pos (by omega), rdOf_nat _ l i hi, wrap_in (by omega) (by omega), show (i : Int) + 1 = ((i + 1 : Nat) : Int) by omega]
    rw [List.drop_eq_getElem_cons hi, List.map_cons]
    by_cases h : s.toList = l[i].toList
    · exact ⟨i, by rw [if_pos h], ⟨fun _ => by rw [h]; exact List.mem_cons_self, fun _ => by omega⟩⟩
    · exact ⟨r, by rw [if_neg h]; exact hr, by rw [he, List.mem_cons]; exact ⟨Or.inr, fun e => e.resolve_left h⟩⟩
theorem contains (l : List ByteArray) (s : ByteArray) (hl : l.length ≤ 1000000) : slices_Contains_string_string.fv l s = some (decide (s.toList ∈ l.map ByteArray.toList)) := by
  rw [slices_Contains_string_string.fv_eq, slices_Index_string_string.fv_eq]
  obtain ⟨r, hr, he⟩ := index_loop l s hl l.length 0 (by omega) (by omega)
  have hr' : slices_Index_string_string.l0v l s (l.length : Int) 0 = some r := hr
  rw [hr']
  simp only [Option.bind_some]
  congr 1
  rw [decide_eq_decide]
  exact he
theorem jl {k l : List UInt8} {X C : Option Bool} : (if k = l then (if (k == l) = true then some true else C) else X) = if k = l then some true else X := by
  by_cases h : k = l
  · subst h; simp
  · rw [if_neg h, if_neg h]
theorem jz {k l : List UInt8} {C : Option Bool} : (if (k == l) = true then some true else C) = if k = l then some true else C := by
  by_cases h : k = l
  · subst h; simp
  · rw [if_neg h, if_neg (by simpa using h)]
theorem or_ite {p q : Prop} [Decidable p] [Decidable q] {a X : Option Bool} : (if p then a else if q then a else X) = if p ∨ q then a else X := by
  by_cases h : p <;> by_cases h2 : q <;> simp [h, h2]
theorem bind_ite {p : Prop} [Decidable p] {X : Option Bool} : ((some (decide p)).bind fun t => if t = true then some true else X) = if p then some true else X := by
  by_cases h : p <;> simp [h]
def words : List (List UInt8) := [[66, 69, 71, 73, 78], [112, 114, 105, 110, 116], [105, 102], [101, 108, 115, 101], [119, 104, 105, 108, 101], [110, 101, 120, 116], [100, 101, 108, 101, 116, 101], [78, 82], [78, 70]]
def callws : List (List UInt8) := [[108, 101, 110, 103, 116, 104], [115, 117, 98, 115, 116, 114], [105, 110, 100, 101, 120], [105, 110, 116], [117, 112, 112, 101, 114], [108, 111, 119, 101, 114]]
/-- Is a text one of the words that are no names? -/
def isKey (k : List UInt8) : Bool := decide (k ∈ words ∨ k ∈ callws)
theorem spec_key (s : ByteArray) : spec_Keyword.fv s = some (isKey s.toList) := by
  rw [spec_Keyword.fv_eq]
  simp only [spec_l7Calls.f, Option.bind_some]
  rw [within _ _ (by simp), within _ _ (by simp)]
  simp only [List.map_cons, List.map_nil, Go.ByteArray.toList_mk]
  rw [bind_ite]
  simp only [Option.bind_some]
  show (if s.toList ∈ words then some true else some (decide (s.toList ∈ callws))) = _
  unfold isKey
  by_cases h : s.toList ∈ words
  · rw [if_pos h]; simp [h]
  · rw [if_neg h]; simp [h]
theorem impl_key (s : ByteArray) : impl_Keyword.fv s = some (isKey s.toList) := by
  rw [impl_Keyword.fv_eq]
  simp only [impl_Keyword.j0v_eq, impl_calls.f, Option.bind_some]
  rw [contains _ _ (by simp)]
  simp only [List.map_cons, List.map_nil, Go.ByteArray.toList_mk]
  simp only [jl, jz]
  simp only [Option.bind_some]
  unfold isKey
  have e : (s.toList ∈ words) ↔ (s.toList = [66, 69, 71, 73, 78] ∨ s.toList = [112, 114, 105, 110, 116] ∨ s.toList = [105, 102] ∨ s.toList = [101, 108, 115, 101] ∨ s.toList = [119, 104, 105, 108, 101] ∨ s.toList = [110, 101, 120, 116] ∨ s.toList = [100, 101, 108, 101, 116, 101] ∨ s.toList = [78, 82] ∨ s.toList = [78, 70]) := by
    simp only [words, List.mem_cons, List.not_mem_nil, or_false]
  by_cases h : s.toList ∈ words
  · rcases e.1 h with g | g | g | g | g | g | g | g | g <;> (rw [g]; rfl)
  · have h2 := h
    rw [e] at h2
    simp only [not_or] at h2
    obtain ⟨h1, h2, h3, h4, h5, h6, h7, h8, h9⟩ := h2
    rw [if_neg h1, if_neg h2, if_neg h3, if_neg h4, if_neg h5, if_neg h6, if_neg h7, if_neg h8, if_neg h9]
    show some (decide (s.toList ∈ callws)) = _
    simp [h]

/-! ### drawn texts of programs -/
theorem draw_source (l : List Int) (hl : l.length ≤ 1048576) (a s : Int) (h0 : 0 ≤ a) (h1 : a ≤ l.length) : Draws l (spec_l7DrawSource.f l a s) (fun r => r.size ≤ 1000) := by
  obtain ⟨P, hP, hP0, hP1⟩ : ∃ P : List ByteArray, spec_l7Programs.f = some P ∧ 0 < P.length ∧ ∀ x ∈ P, x.size ≤ 1000 := by
    unfold spec_l7Programs.f
    exact ⟨_, rfl, by decide +kernel, by decide +kernel⟩
  unfold spec_l7DrawSource.f
  rw [hP, Option.bind_some]
  obtain ⟨r1, a1, s1, e1, p1, h10, h11⟩ := draw_str l hl a s P (fun r => r.size ≤ 1000) h0 h1 hP0 hP1
  rw [e1, Option.bind_some]
  exact ⟨_, _, _, rfl, p1, h10, h11⟩
theorem draw_dent (l : List Int) (hl : l.length ≤ 1048576) (a s : Int) (T : ByteArray) (hT : T.size ≤ 1000) (h0 : 0 ≤ a) (h1 : a ≤ l.length) : Draws l (spec_l7Dent.f l a s T) (fun r => r.size ≤ 1500) := by
  unfold spec_l7Dent.f
  rw [wrap_in (by omega) (by omega)]
  obtain ⟨r4, a4, s4, e4, p4, h40, h41⟩ := draw_below l hl a s ((T.size : Int) + 1) h0 h1 (by omega)
  rw [e4, Option.bind_some]
  simp only []
  obtain ⟨r5, a5, s5, e5, p5, h50, h51⟩ := draw_below l hl a4 s4 6 h40 h41 (by omega)
  rw [e5, Option.bind_some]
  simp only []
  by_cases k0 : r5 = 0
  · rw [if_pos k0, if_pos p4.1, if_pos (show r4 ≤ (T.size : Int) by omega)]
    refine ⟨_, _, _, rfl, ?_, h50, h51⟩
    simp only [ByteArray.size_extract]; omega
  · rw [if_neg k0]
    by_cases k1 : r5 = 1
    · rw [if_pos k1, if_pos p4.1, if_pos (show r4 ≤ (T.size : Int) by omega)]
      obtain ⟨r6, a6, s6, e6, p6, h60, h61⟩ := draw_str l hl a5 s5 ([(⟨#[32]⟩ : ByteArray), (⟨#[59]⟩ : ByteArray), (⟨#[40]⟩ : ByteArray), (⟨#[125]⟩ : ByteArray), (⟨#[123]⟩ : ByteArray), (⟨#[48]⟩ : ByteArray), (⟨#[120]⟩ : ByteArray), (⟨#[35]⟩ : ByteArray), (⟨#[61]⟩ : ByteArray), (⟨#[47]⟩ : ByteArray), (⟨#[34]⟩ : ByteArray), (⟨#[45]⟩ : ByteArray), (⟨#[36]⟩ : ByteArray), (⟨#[92]⟩ : ByteArray), (⟨#[33]⟩ : ByteArray), (⟨#[66, 69, 71, 73, 78, 32]⟩ : ByteArray)] : List ByteArray) (fun r => r.size ≤ 100) h50 h51 (by decide) (by decide)
      rw [e6, Option.bind_some]
      simp only []
      have g1 : (T.extract 0 r4.toNat).size ≤ 1000 := by rw [ByteArray.size_extract]; omega
      have g2 : (T.extract r4.toNat T.size).size ≤ 1000 := by rw [ByteArray.size_extract]; omega
      have g3 : (T.extract 0 r4.toNat).size + (T.extract r4.toNat T.size).size ≤ 1000 := by rw [ByteArray.size_extract, ByteArray.size_extract]; omega
      rw [if_pos (by omega)]
      simp only [ByteArray.size_append]
      rw [if_pos (by omega)]
      refine ⟨_, _, _, rfl, ?_, h60, h61⟩
      simp only [ByteArray.size_append]
      omega
    · rw [if_neg k1]
      exact ⟨_, _, _, rfl, Nat.le_trans hT (by decide), h50, h51⟩
theorem tok_pick (l : List Int) (hl : l.length ≤ 1048576) (a s : Int) (T : ByteArray) (hT : T.size ≤ 3000) (h0 : 0 ≤ a) (h1 : a ≤ l.length) : ∃ r, spec_DrawTokens.j1v T l a s = some r ∧ r.size ≤ 3000 := by
  rw [spec_DrawTokens.j1v_eq]
  obtain ⟨r1, a1, s1, e1, _, h10, h11⟩ := draw_once l hl a s 12 h0 h1 (by omega)
  rw [e1, Option.bind_some]
  by_cases h : r1 = true
  · rw [if_pos h]
    obtain ⟨r6, a6, s6, e6, p6, h60, h61⟩ := draw_str l hl a1 s1 ([(⟨#[49, 46, 50, 51, 52, 53, 54, 55, 56]⟩ : ByteArray), (⟨#[49, 46, 50, 51, 52, 53, 54, 55, 32, 50, 46, 53, 46, 49]⟩ : ByteArray), (⟨#[34, 97, 92, 34, 98, 34]⟩ : ByteArray), (⟨#[47, 97, 92, 47, 98, 47]⟩ : ByteArray), (⟨#[97, 32, 47, 32, 98, 32, 47, 32, 99]⟩ : ByteArray), (⟨#[57, 48, 48, 48, 48, 48, 49]⟩ : ByteArray), (⟨#[97, 98, 99, 100, 101, 102, 103, 104, 105]⟩ : ByteArray), (⟨#[34, 120]⟩ : ByteArray)] : List ByteArray) (fun r => r.size ≤ 100) h10 h11 (by decide) (by decide)
    simp only []
    rw [e6, Option.bind_some]
    exact ⟨_, rfl, Nat.le_trans p6 (by decide)⟩
  · rw [if_neg h]; exact ⟨_, rfl, hT⟩
theorem tok_pad (l : List Int) (hl : l.length ≤ 1048576) (d : Nat) : ∀ (a s : Int) (T : ByteArray), 2002 - T.size ≤ d → T.size ≤ 2002 → 0 ≤ a → a ≤ l.length → ∃ r, spec_DrawTokens.l0v T l a s = some r ∧ r.size ≤ 3000 := by
  induction d with
  | zero =>
    intro a s T h1 h2 h3 h4
    obtain ⟨r1, a1, s1, e1, p1, h10, h11⟩ := draw_below l hl a s 2 h3 h4 (by omega)
    rw [spec_DrawTokens.l0v_eq, e1, Option.bind_some]
    simp only []
    rw [wrap_in (by omega) (by omega), if_neg (show ¬ (T.size : Int) < 2000 + r1 by omega)]
    exact tok_pick l hl a1 s1 T (by omega) h10 h11
  | succ d ih =>
    intro a s T h1 h2 h3 h4
    obtain ⟨r1, a1, s1, e1, p1, h10, h11⟩ := draw_below l hl a s 2 h3 h4 (by omega)
    rw [spec_DrawTokens.l0v_eq, e1, Option.bind_some]
    simp only []
    rw [wrap_in (by omega) (by omega)]
    by_cases h : (T.size : Int) < 2000 + r1
    · rw [if_pos h, if_pos (by omega)]
      have hs : (T ++ (⟨#[32]⟩ : ByteArray)).size = T.size + 1 := by rw [ByteArray.size_append]; rfl
      exact ih a1 s1 _ (by omega) (by omega) h10 h11
    · rw [if_neg h]
      exact tok_pick l hl a1 s1 T (by omega) h10 h11
theorem draw_tokens (l : List Int) (hl : l.length ≤ 1048576) : ∃ m, spec_DrawTokens.fv l = some (B m) ∧ m.length ≤ 3000 := by
  obtain ⟨t, e⟩ := draw_new l hl
  obtain ⟨r1, a1, s1, e1, p1, h10, h11⟩ := draw_source l hl 0 t (by omega) (by omega)
  obtain ⟨r2, a2, s2, e2, p2, h20, h21⟩ := draw_dent l hl a1 s1 r1 p1 h10 h11
  obtain ⟨r3, a3, s3, e3, _, h30, h31⟩ := draw_once l hl a2 s2 40 h20 h21 (by omega)
  rw [spec_DrawTokens.fv_eq, e, Option.bind_some]
  simp only []
  rw [e1, Option.bind_some]
  simp only []
  rw [e2, Option.bind_some]
  simp only []
  rw [e3, Option.bind_some]
  simp only []
  have key : ∃ r, (if r3 = true then spec_DrawTokens.l0v r2 l a3 s3 else spec_DrawTokens.j1v r2 l a3 s3) = some r ∧ r.size ≤ 3000 := by
    by_cases h : r3 = true
    · rw [if_pos h]; exact tok_pad l hl _ a3 s3 r2 (Nat.le_refl _) (by have : r2.size ≤ 1500 := p2; omega) h30 h31
    · rw [if_neg h]; exact tok_pick l hl a3 s3 r2 (by have : r2.size ≤ 1500 := p2; omega) h30 h31
  obtain ⟨r, h1, h2⟩ := key
  exact ⟨r.data.toList, by rw [h1, B_self], by rw [← B_size, B_self]; exact h2⟩
theorem draw_keyword (l : List Int) (hl : l.length ≤ 1048576) : ∃ k, spec_DrawKeyword.fv l = some k := by
  obtain ⟨t, e⟩ := draw_new l hl
  obtain ⟨r6, a6, s6, e6, p6, h60, h61⟩ := draw_str l hl 0 t ([(⟨#[66, 69, 71, 73, 78]⟩ : ByteArray), (⟨#[78, 82]⟩ : ByteArray), (⟨#[120]⟩ : ByteArray), (⟨#[108, 101, 110, 103, 116, 104]⟩ : ByteArray), (⟨#[80, 114, 105, 110, 116]⟩ : ByteArray), (⟨#[108, 111, 119, 101, 114]⟩ : ByteArray), (⟨#[]⟩ : ByteArray), (⟨#[110, 101, 120, 116]⟩ : ByteArray)] : List ByteArray) (fun _ => True) (by omega) (by omega) (by decide) (fun _ _ => trivial)
  rw [spec_DrawKeyword.fv_eq, e, Option.bind_some]
  simp only []
  rw [e6]; exact ⟨_, rfl⟩

theorem tok_law (l : List UInt8) (out L : List S32) (hl : l.length ≤ 4000) (ho : out.length ≤ 5000) (hI : Inv l l.length out) (hlen : L.length = out.length + 1) (hlast : L[out.length]'(by omega) = ⟨0, ⟨#[]⟩, 0, (l.length : Int)⟩) (hin : ∀ (i : Nat) (h : i < out.length), L[i]'(by omega) = out[i]) (d : Nat) : ∀ i : Nat, L.length - i = d → i ≤ L.length → laws_FnTokens.l0v (B l) L (-1) L (i : Int) = some true := by
  induction d with
  | zero =>
    intro i h1 h2
    rw [laws_FnTokens.l0v_eq, if_neg (by omega), if_neg (by omega), if_pos rfl, wrap_in (by omega) (by omega), if_pos (by omega), if_pos (by omega), show (L.length : Int) - 1 = ((out.length : Nat) : Int) by omega, rdin32 L out.length (by omega), hlast, B_size]
    simp
  | succ d ih =>
    intro i h1 h2
    have hi : i < L.length := by omega
    have hw : wrap64 ((i : Int) + 1) = ((i + 1 : Nat) : Int) := by rw [wrap_in (by omega) (by omega)]; omega
    have hgo := ih (i + 1) (by omega) (by omega)
    rw [← hw] at hgo
    have step : laws_FnTokens.j2v (B l) L (-1) L (i : Int) false = some true := by
      rw [laws_FnTokens.j2v_eq, if_neg (show ¬ (false = true) by decide), if_pos (by omega), if_pos (by omega), rdin32 L i hi]
      by_cases hio : i < out.length
      · obtain ⟨_, g1, g2, g3⟩ := hI i hio
        rw [← hin i hio] at g1 g2 g3
        by_cases k : L[i].f0 = 1 ∨ L[i].f0 = 5
        · obtain ⟨t1, t2⟩ := g3 k
          have hcut : ((B l).extract L[i].f3.toNat (L[i].f3 + (L[i].f1.size : Int)).toNat).toList = L[i].f1.toList := by
            rw [show (L[i].f3 + (L[i].f1.size : Int)).toNat = L[i].f3.toNat + L[i].f1.size by omega]
            exact congrArg ByteArray.toList t2.symm
          have hw2 : wrap64 (L[i].f3 + (L[i].f1.size : Int)) = L[i].f3 + (L[i].f1.size : Int) := wrap_in (by omega) (by omega)
          rw [hw2, hcut]
          have hle : L[i].f3 ≤ L[i].f3 + (L[i].f1.size : Int) := by omega
          have hle2 : L[i].f3 + (L[i].f1.size : Int) ≤ ((B l).size : Int) := by rw [B_size]; omega
          simp only [eq_true g1, eq_true hle, eq_true hle2, if_true, hgo]
          split <;> simp
        · rw [if_neg (fun x => k (.inl x)), if_neg (fun x => k (.inr x))]; exact hgo
      · have : i = out.length := by omega
        subst this
        rw [hlast, if_neg (show ¬ (0 : Int) = 1 by decide), if_neg (show ¬ (0 : Int) = 5 by decide)]; exact hgo
    rw [laws_FnTokens.l0v_eq]
    simp only [eq_true (show (i : Int) < (L.length : Int) by omega), eq_true (show (0 : Int) ≤ (i : Int) by omega), if_true]
    rw [if_neg (by simp)]
    by_cases h0 : (i : Int) > 0
    · have hw3 : wrap64 ((i : Int) - 1) = ((i - 1 : Nat) : Int) := by rw [wrap_in (by omega) (by omega)]; omega
      rw [if_pos h0, hw3, if_pos (by omega), if_pos (by omega), rdin32 L i hi, rdin32 L (i - 1) (by omega)]
      by_cases hio : i < out.length
      · obtain ⟨g0, _, _, _⟩ := hI i hio
        rw [hin i hio, hin (i - 1) (by omega), if_neg (by have := g0 (by omega); omega)]
        exact step
      · have : i = out.length := by omega
        subst this
        rw [hlast]
        split
        · exact step
        · exact step
    · rw [if_neg h0]; exact step
end FnTokensAid
open FnTokensAid

theorem FnTokens : laws_FnTokens.Pure := by
  intro l _
  refine (laws_FnTokens.f_lim l).get ?_
  rw [laws_FnTokens.fv_eq]
  unfold laws_big.f
  rw [Option.bind_some]
  by_cases hb : (l.length : Int) > 1048576
  · rw [if_pos (by simpa using hb)]
  · rw [if_neg (by simpa using hb)]
    have hl : l.length ≤ 1048576 := by omega
    obtain ⟨m, e1, hm⟩ := draw_tokens l hl
    obtain ⟨k, e2⟩ := draw_keyword l hl
    obtain ⟨r, t1, t2, t3⟩ := told_both m
    obtain ⟨r', u1, _, u3⟩ := tokens_both (B m)
    have hr : r.1.length ≤ 4000 := by rw [t1] at u1; rw [Option.some.inj u1]; exact u3
    rw [e1, Option.bind_some, t2, Option.bind_some, t1, Option.bind_some, e2, Option.bind_some, if_pos rfl, if_pos rfl, impl_key, Option.bind_some, spec_key, Option.bind_some, bne_self_eq_false, laws_FnTokens.j0v_eq, if_neg (show ¬ (false = true) by decide)]
    rcases t3 with ⟨g1, g2⟩ | ⟨g1, out, g2, g3⟩
    · rw [g2, laws_FnTokens.l0v_eq, if_neg (by simp), if_pos g1]; rfl
    · have hL : r.1.length = out.length + 1 := by rw [g2]; simp
      rw [g1]
      refine tok_law m out r.1 (by omega) (by omega) g3 hL ?_ ?_ _ 0 rfl (by omega)
      · simp only [g2]; simp
      · intro i h
        simp only [g2]
        exact List.getElem_append_left h

end Go.Proofs.YtelaipnanpfniaaDoor.Pure
