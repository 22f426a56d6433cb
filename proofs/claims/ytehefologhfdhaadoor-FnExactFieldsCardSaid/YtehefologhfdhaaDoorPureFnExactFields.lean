/- The program's Fields returns what the reference's returns, for every line. -/
import Derived.Test.YtehefologhfdhaaDoorQFnExactFieldsx2
import Derived.Test.YtehefologhfdhaaDoorBulk
namespace Go.Proofs.YtehefologhfdhaaDoor.Pure
open Go.RowKit Go.Proofs.YtehefologhfdhaaDoor.QFnExactFields Go.Proofs.YtehefologhfdhaaDoorW.PrintWords Go.Proofs.YtehefologhfdhaaDoorW.PrintLast Go.Proofs.YtehefologhfdhaaDoorW.PrintMore Go.Proofs.YtehefologhfdhaaDoorW.Lims
open Go.Proofs.YtehefologhfdhaaDoorW.Bulk
namespace FnExactFieldsAid

-- TODO laws_eqStringS
theorem wrap_small (t : Int) (h : 0 ≤ t) (h' : t ≤ 2000000000) : wrap64 t = t := wrap_in (by omega) (by omega)
/-! marks: texts by number -/
theorem mt_run (d : Nat) : ∀ (n : Int) (s : ByteArray), 0 ≤ n → n ≤ 2000000000 → n < 10 ^ d → s.size + d ≤ 1000000 → ∃ t, laws_markText.l0v n s = some t := by
  induction d with
  | zero =>
    intro n s h0 hm h1 h2
    have : n = 0 := by simp at h1; omega
    subst this
    rw [laws_markText.l0v_eq, if_neg (by omega), if_pos (by omega)]
    exact ⟨_, rfl⟩
  | succ d ih =>
    intro n s h0 hm h1 h2
    rw [laws_markText.l0v_eq]
    by_cases h : n > 0
    · have hsz : (strOfNums ([(wrap64 (48 + (Int.tmod n 10))) % 256] : List Int)).size = 1 := by rw [strOfNums_size]; rfl
      have hd : Int.tdiv n 10 = n / 10 := Int.tdiv_eq_ediv_of_nonneg h0
      have hn : n / 10 < 10 ^ d := by
        have : (10 : Int) ^ (d + 1) = 10 ^ d * 10 := Int.pow_succ 10 d
        omega
      have hp : (10 : Int) ^ d ≤ 10 ^ d := Int.le_refl _
      rw [if_pos h, Option.bind_some, if_pos (by omega), hd]
      rw [wrap_in (by omega) (by omega)]
      exact ih _ _ (by omega) (by omega) hn (by rw [ByteArray.size_append, hsz]; omega)
    · rw [if_neg h, if_pos (by omega)]
      exact ⟨_, rfl⟩
noncomputable def mt (n : Int) : ByteArray := (laws_markText.fv n).getD ⟨#[]⟩
theorem mt_eq (n : Int) (h : 0 < n) (h' : n ≤ 2000000000) : laws_markText.fv n = some (mt n) := by
  obtain ⟨t, ht⟩ : ∃ t, laws_markText.fv n = some t := by
    rw [laws_markText.fv_eq, if_neg (by omega)]
    exact mt_run 12 n _ (by omega) h' (by omega) (by decide)
  rw [mt, ht]
  rfl
-- TODO marks laws_markStringS

/-! ### texts as rows of bytes -/
def B (l : List UInt8) : ByteArray := ⟨l.toArray⟩
theorem B_self (s : ByteArray) : B s.data.toList = s := by cases s; simp [B]
theorem B_size (l : List UInt8) : (B l).size = l.length := by show l.toArray.size = l.length; simp
theorem B_data (l : List UInt8) : (B l).data.toList = l := by simp [B]
theorem B_append (a b : List UInt8) : B a ++ B b = B (a ++ b) := by
  apply ByteArray.ext
  rw [ByteArray.data_append]
  simp [B]
theorem B_inj {a b : List UInt8} (h : B a = B b) : a = b := by
  have := congrArg (fun s : ByteArray => s.data.toList) h
  simpa [B] using this
theorem B_extract (l : List UInt8) (i j : Nat) : (B l).extract i j = B ((l.drop i).take (j - i)) := by rw [Lib.extract_eq, B_data]; rfl
theorem B_toList (l : List UInt8) : (B l).toList = l := by rw [Lib.toList_data, B_data]
theorem B_bt (l : List UInt8) (i : Nat) (h : i < l.length) : bt (B l) (i : Int) = (l[i].toNat : Int) := by
  have h' : (i : Int).toNat < (B l).size := by rw [Int.toNat_natCast, B_size]; exact h
  rw [← bt_at (B l) i h']
  rfl
theorem wrap_in {n : Int} (h0 : -9223372036854775808 ≤ n) (h1 : n ≤ 9223372036854775807) : wrap64 n = n := by unfold wrap64; omega
theorem byte_is (b c : UInt8) (n : Int) (hc : (c.toNat : Int) = n) : ((b.toNat : Int) = n) ↔ b = c := by
  rw [← UInt8.toNat_inj, ← hc]; omega
theorem byte_ofNat (n : Nat) (h : n < 256) : (UInt8.ofNat n).toNat = n := by rw [UInt8.toNat_ofNat']; omega

/-! ### lists of texts: alike, marked, held -/
theorem rdOf_in (r : List ByteArray) (i : Nat) (h : i < r.length) : rdOf ByteArray.empty r (i : Int) = r[i] := by
  unfold rdOf
  rw [Int.toNat_natCast, List.getD_eq_getElem?_getD, List.getElem?_eq_getElem h]
  rfl
theorem eq_StringS (r : List ByteArray) (hr : r.length ≤ 2000000) : laws_eqStringS.fv r r = some true := by
  rw [laws_eqStringS.fv_eq, if_pos rfl]
  refine eq_all laws_eqStringS.l0v (fun x y i => some (decide ((rdOf ByteArray.empty x i).toList = (rdOf ByteArray.empty y i).toList))) (fun x y i => ?_) r (by omega) (fun i h => by simp)
  rw [laws_eqStringS.l0v_eq, Option.bind_some]
  simp only [decide_eq_true_eq]
theorem marks_StringS (r : List ByteArray) (hr : r.length ≤ 1100000) : ∃ m, laws_markStringS.fv r 1 = some (1 + (r.length : Int), m) ∧ laws_heldStringS.fv m 1 = some (1 + (r.length : Int)) := by
  obtain ⟨m, e1, e2, _⟩ := mark_held laws_markStringS.l0v laws_heldStringS.l0v 1 mt 2000000
    (fun x n i h1 h2 h3 h4 => by
      rw [laws_markStringS.l0v_eq, if_pos (by omega), mt_eq n h3 (by omega), Option.bind_some, if_pos (by omega), Int.toNat_natCast, wrap_in (by omega) (by omega), wrap_in (by omega) (by omega)]
      rfl)
    (fun x n i h => by rw [laws_markStringS.l0v_eq, if_neg (by omega)])
    (fun x n i h1 h2 hx h3 h4 => by
      have hv : rdOf ByteArray.empty x (i : Int) = mt n := by
        rw [rdOf_in x i h1]
        rw [List.getElem?_eq_getElem h1] at hx
        exact Option.some.inj hx
      rw [laws_heldStringS.l0v_eq, if_pos (by omega), if_pos (by omega), mt_eq n h3 (by omega), Option.bind_some, hv, if_pos rfl, wrap_in (by omega) (by omega), wrap_in (by omega) (by omega)]
      rfl)
    (fun x n i h => by rw [laws_heldStringS.l0v_eq, if_neg (by omega)])
    r 1 (by omega) (by omega) (by omega)
  refine ⟨m, ?_, ?_⟩
  · rw [laws_markStringS.fv_eq, e1]; simp
  · rw [laws_heldStringS.fv_eq, e2]; simp

/-! ### pieces between blanks -/
def flds : List UInt8 → List UInt8 → List (List UInt8)
  | cur, [] => if cur = [] then [] else [cur]
  | cur, c :: r => if c = 32 then (if cur = [] then flds [] r else cur :: flds [] r) else flds (cur ++ [c]) r
theorem flds_none (a : List UInt8) : ∀ cur, (32 : UInt8) ∉ a → flds cur a = if cur ++ a = [] then [] else [cur ++ a] := by
  induction a with
  | nil => intro cur _; simp [flds]
  | cons c r ih =>
    intro cur h
    rw [flds, if_neg (fun e => h (by simp [e])), ih _ (fun e => h (by simp [e]))]
    simp
theorem flds_hit (a r : List UInt8) : ∀ cur, (32 : UInt8) ∉ a → flds cur (a ++ 32 :: r) = if cur ++ a = [] then flds [] r else (cur ++ a) :: flds [] r := by
  induction a with
  | nil => intro cur _; simp [flds]
  | cons c t ih =>
    intro cur h
    rw [List.cons_append, flds, if_neg (fun e => h (by simp [e])), ih _ (fun e => h (by simp [e]))]
    simp
theorem flds_len (l : List UInt8) : ∀ cur, (flds cur l).length ≤ l.length + 1 := by
  induction l with
  | nil => intro cur; rw [flds]; split <;> simp
  | cons c r ih =>
    intro cur
    have i0 := ih []
    have i1 := ih (cur ++ [c])
    rw [flds]
    split
    · split
      · simp; omega
      · simp; omega
    · simp; omega
theorem idx_blank (l : List UInt8) : (Lib.index l [32] = -1 ∧ (32 : UInt8) ∉ l) ∨ ∃ a r, l = a ++ 32 :: r ∧ (32 : UInt8) ∉ a ∧ Lib.index l [32] = (a.length : Int) := by
  induction l with
  | nil => exact .inl ⟨by simp [Lib.index], by simp⟩
  | cons b l ih =>
    by_cases h : b = 32
    · subst h
      exact .inr ⟨[], l, rfl, by simp, by simp [Lib.index, List.isPrefixOf]⟩
    · have hp : ([32] : List UInt8).isPrefixOf (b :: l) = false := by simp [List.isPrefixOf, Ne.symm h]
      have hix : Lib.index (b :: l) [32] = if Lib.index l [32] == -1 then -1 else Lib.index l [32] + 1 := by rw [Lib.index, hp]; simp
      rcases ih with ⟨e, hn⟩ | ⟨a, r, rfl, hn, e⟩
      · exact .inl ⟨by rw [hix, e]; rfl, by simp [hn, Ne.symm h]⟩
      · refine .inr ⟨b :: a, r, rfl, by simp [hn, Ne.symm h], ?_⟩
        have hne : ¬ ((a.length : Int) == -1) = true := fun z => by have := beq_iff_eq.1 z; omega
        rw [hix, e, if_neg hne]
        simp
def blank : ByteArray := ⟨#[32]⟩
theorem split_flds (n : Nat) : ∀ l : List UInt8, l.length < n → (Lib.splitB blank 0 (Lib.countB (B l) blank) (B l)).filter (fun x => !(x.toList == ([] : List UInt8))) = (flds [] l).map B := by
  induction n with
  | zero => intro l hl; omega
  | succ n ih =>
    intro l hl
    have hB : Lib.indexB (B l) blank = Lib.index l [32] := by
      show Lib.index (B l).data.toList blank.data.toList = _
      rw [B_data]
      rfl
    rcases idx_blank l with ⟨e, hn⟩ | ⟨a, r, rfl, hn, e⟩
    · rw [Lib.splitB_miss _ _ _ _ (hB.trans e), flds_none l [] hn]
      by_cases h : l = []
      · subst h; simp [B_toList]
      · simp [B_toList, h]
    · have hi := hB.trans e
      have e1 : (B (a ++ 32 :: r)).extract 0 (a.length + 0) = B a := by rw [B_extract]; simp
      have e2 : (B (a ++ 32 :: r)).extract (a.length + blank.size) (B (a ++ 32 :: r)).size = B r := by
        rw [B_extract, B_size, show blank.size = 1 from rfl]
        simp
        rw [List.take_of_length_le (by omega)]
      rw [Lib.countB_hit _ _ a.length (by decide) hi, Nat.add_comm 1, Lib.splitB_hit _ _ _ _ a.length hi, e1, e2, flds_hit a r [] hn, List.filter_cons, ih r (by simp at hl; omega)]
      by_cases h : a = []
      · subst h; simp [B_toList]
      · simp [B_toList, h]
theorem impl_fields (l : List UInt8) (hl : l.length ≤ 4194304) : impl_Fields.f (B l) = some ((flds [] l).map B) := by
  unfold impl_Fields.f strings_Split.f
  rw [if_pos ⟨by rw [B_size]; omega, by decide⟩, Option.bind_some]
  unfold slices_DeleteFunc_string_string_15.f
  have hne : ¬ Lib.splitB (⟨#[32]⟩ : ByteArray) 0 (Lib.countB (B l) ⟨#[32]⟩) (B l) = [] := by
    intro e
    have := Lib.splitB_all blank (by decide) 0 _ (B l) rfl
    rw [show Lib.splitB blank 0 (Lib.countB (B l) blank) (B l) = [] from e] at this
    simp at this
  rw [if_neg hne, Option.bind_some]
  exact congrArg some (split_flds _ l (Nat.lt_succ_self _))
theorem spec_sep (l : List UInt8) (hl : l.length ≤ 4194304) (i s : Nat) (out : List ByteArray) (h1 : s ≤ i) (h2 : i ≤ l.length) (h3 : out.length ≤ i) :
    spec_Fields.j1v (B l) out (s : Int) (i : Int) false = spec_Fields.l0v (B l) (if s = i then out else out ++ [B ((l.drop s).take (i - s))]) ((i + 1 : Nat) : Int) ((i + 1 : Nat) : Int) := by
  rw [spec_Fields.j1v_eq, if_neg (by decide), wrap_in (by omega) (by omega), show (i : Int) + 1 = ((i + 1 : Nat) : Int) by omega]
  by_cases h : s = i
  · rw [if_neg (by omega), if_pos h]
  · rw [if_pos (by omega), if_pos (by omega), if_pos (by omega), if_pos (by rw [B_size]; omega), if_pos (by omega), if_neg h, B_extract]
    simp only [Int.toNat_natCast]
theorem spec_end (l : List UInt8) (out : List ByteArray) (s : Int) : spec_Fields.l0v (B l) out s ((l.length + 1 : Nat) : Int) = some out := by
  rw [spec_Fields.l0v_eq, if_neg (by rw [B_size]; omega)]
theorem cur_nil (l : List UInt8) (i s : Nat) (h1 : s ≤ i) (h2 : i ≤ l.length) : (l.drop s).take (i - s) = [] ↔ s = i := by
  constructor
  · intro e
    have := congrArg List.length e
    simp at this
    omega
  · intro e; subst e; simp
theorem spec_loop (l : List UInt8) (hl : l.length ≤ 4194304) (d : Nat) : ∀ (i s : Nat) (out : List ByteArray), l.length - i ≤ d → s ≤ i → i ≤ l.length → out.length ≤ i →
    spec_Fields.l0v (B l) out (s : Int) (i : Int) = some (out ++ (flds ((l.drop s).take (i - s)) (l.drop i)).map B) := by
  induction d with
  | zero =>
    intro i s out h0 h1 h2 h3
    obtain rfl : i = l.length := by omega
    rw [spec_Fields.l0v_eq, if_pos (by rw [B_size]; omega), if_neg (by rw [B_size]; omega), spec_sep l hl _ s out h1 h2 h3, spec_end, List.drop_length, flds]
    by_cases h : s = l.length
    · rw [if_pos h, if_pos ((cur_nil l _ s h1 h2).2 h)]; simp
    · rw [if_neg h, if_neg (fun e => h ((cur_nil l _ s h1 h2).1 e))]; simp
  | succ d ih =>
    intro i s out h0 h1 h2 h3
    by_cases hi : i < l.length
    · have hd : l.drop i = l[i] :: l.drop (i + 1) := List.drop_eq_getElem_cons hi
      rw [spec_Fields.l0v_eq, if_pos (by rw [B_size]; omega), if_pos (by rw [B_size]; omega), if_pos (by omega), B_bt l i hi, hd, flds]
      by_cases hc : l[i] = 32
      · rw [if_pos hc, show ((l[i].toNat : Int) != 32) = false by rw [hc]; rfl, spec_sep l hl i s out h1 h2 h3]
        by_cases h : s = i
        · rw [if_pos h, if_pos ((cur_nil l _ s h1 h2).2 h), ih (i + 1) (i + 1) out (by omega) (by omega) (by omega) (by omega)]
          simp
        · rw [if_neg h, if_neg (fun e => h ((cur_nil l _ s h1 h2).1 e)), ih (i + 1) (i + 1) _ (by omega) (by omega) (by omega) (by simp; omega)]
          simp
      · have hb : ((l[i].toNat : Int) != 32) = true := by
          rw [bne_iff_ne]
          exact fun e => hc ((byte_is _ 32 32 rfl).1 e)
        rw [if_neg hc, hb, spec_Fields.j1v_eq, if_pos rfl, wrap_in (by omega) (by omega), show (i : Int) + 1 = ((i + 1 : Nat) : Int) by omega, ih (i + 1) s out (by omega) (by omega) (by omega) (by omega)]
        have : (l.drop s).take (i + 1 - s) = (l.drop s).take (i - s) ++ [l[i]] := by
          rw [show i + 1 - s = (i - s) + 1 by omega, List.take_add_one, List.getElem?_drop, show s + (i - s) = i by omega, List.getElem?_eq_getElem hi]
          rfl
        rw [this]
    · exact ih i s out (by omega) h1 h2 h3
theorem spec_fields (l : List UInt8) (hl : l.length ≤ 4194304) : spec_Fields.fv (B l) = some ((flds [] l).map B) := by
  rw [spec_Fields.fv_eq]
  have := spec_loop l hl l.length 0 0 [] (by omega) (by omega) (by omega) (by simp)
  simpa using this
end FnExactFieldsAid
open FnExactFieldsAid

theorem FnExactFields : laws_FnExactFields.Pure := by
  intro x hx
  refine (laws_FnExactFields.f_lim _).get ?_
  rw [laws_FnExactFields.fv_eq]
  by_cases h : (x.size : Int) > 1048576
  · rw [if_pos h]
  · rw [if_neg h]
    obtain ⟨l, rfl⟩ : ∃ l, x = B l := ⟨_, (B_self x).symm⟩
    rw [B_size] at h
    have hn := flds_len l []
    rw [spec_fields l (by omega), impl_fields l (by omega)]
    have hr : ((flds [] l).map B).length ≤ 1048577 := by rw [List.length_map]; omega
    generalize (flds [] l).map B = r at hr ⊢
    obtain ⟨m, e1, e2⟩ := marks_StringS r (by omega)
    rw [Option.bind_some, Option.bind_some, eq_StringS r (by omega), Option.bind_some, if_pos rfl, e1, Option.bind_some]
    simp only []
    rw [e2, Option.bind_some, if_neg (by omega), if_pos rfl, Option.bind_some]
    rw [eq_StringS r (by omega), Option.bind_some, if_pos rfl]
    first | rw [if_neg (by omega), if_pos rfl] | (rw [Option.bind_some, if_neg (by omega)]; simp) | (rw [if_neg (by omega)])

end Go.Proofs.YtehefologhfdhaaDoor.Pure
