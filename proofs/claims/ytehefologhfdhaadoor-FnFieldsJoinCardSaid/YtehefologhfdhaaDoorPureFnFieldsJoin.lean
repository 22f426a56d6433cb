/- Fields of a drawn line with one blank between have these fields. -/
import Derived.Test.YtehefologhfdhaaDoorQFnFieldsJoinx2
import Derived.Test.YtehefologhfdhaaDoorBulk
namespace Go.Proofs.YtehefologhfdhaaDoor.Pure
open Go.RowKit Go.Proofs.YtehefologhfdhaaDoor.QFnFieldsJoin Go.Proofs.YtehefologhfdhaaDoorW.PrintWords Go.Proofs.YtehefologhfdhaaDoorW.PrintLast Go.Proofs.YtehefologhfdhaaDoorW.PrintMore Go.Proofs.YtehefologhfdhaaDoorW.Lims
open Go.Proofs.YtehefologhfdhaaDoorW.Bulk
namespace FnFieldsJoinAid

/-! ### texts as rows of bytes -/
def B (l : List UInt8) : ByteArray := ⟨l.toArray⟩
theorem B_self (s : ByteArray) : B s.data.toList = s := by cases s; simp [B]
theorem B_size (l : List UInt8) : (B l).size = l.length := by show l.toArray.size = l.length; simp
theorem B_data (l : List UInt8) : (B l).data.toList = l := by simp [B]
theorem B_append (a b : List UInt8) : B a ++ B b = B (a ++ b) := by
  apply ByteArray.ext
  rw [ByteArray.data_append]
  simp [B]
theorem B_inj {a b : List UInt8} (h : B a = B b) : a = b := by
  have := congrArg (fun s : ByteArray => s.data.toList) h
  simpa [B] using this
theorem B_extract (l : List UInt8) (i j : Nat) : (B l).extract i j = B ((l.drop i).take (j - i)) := by rw [Lib.extract_eq, B_data]; rfl
theorem B_toList (l : List UInt8) : (B l).toList = l := by rw [Lib.toList_data, B_data]
theorem B_bt (l : List UInt8) (i : Nat) (h : i < l.length) : bt (B l) (i : Int) = (l[i].toNat : Int) := by
  have h' : (i : Int).toNat < (B l).size := by rw [Int.toNat_natCast, B_size]; exact h
  rw [← bt_at (B l) i h']
  rfl
theorem wrap_in {n : Int} (h0 : -9223372036854775808 ≤ n) (h1 : n ≤ 9223372036854775807) : wrap64 n = n := by unfold wrap64; omega
theorem byte_is (b c : UInt8) (n : Int) (hc : (c.toNat : Int) = n) : ((b.toNat : Int) = n) ↔ b = c := by
  rw [← UInt8.toNat_inj, ← hc]; omega
theorem byte_ofNat (n : Nat) (h : n < 256) : (UInt8.ofNat n).toNat = n := by rw [UInt8.toNat_ofNat']; omega

/-! ### draws: each says something, and keeps its place -/
theorem and255 (x : Int) : 0 ≤ Go.bits .and .i64 x 255 ∧ Go.bits .and .i64 x 255 ≤ 255 := by
  have e : Go.bits .and .i64 x 255 = IntKind.i64.wrap ((BitVec.ofInt 64 x &&& BitVec.ofInt 64 255).toNat : Nat) := rfl
  have h : (BitVec.ofInt 64 x &&& BitVec.ofInt 64 255).toNat ≤ 255 := by
    rw [BitVec.toNat_and]
    exact Nat.and_le_right
  rw [e, IntKind.wrap_i64]
  omega
theorem new_run (l : List Int) (_hl : l.length ≤ 9223372036854775806) (d : Nat) : ∀ (i : Nat) (s : Int), l.length - i = d → i ≤ l.length → ∃ t, spec_l1New.l0v l s (i : Int) = some (l, 0, t) := by
  induction d with
  | zero =>
    intro i s h1 h2
    rw [spec_l1New.l0v_eq, if_neg (by omega)]
    exact ⟨_, rfl⟩
  | succ d ih =>
    intro i s h1 h2
    rw [spec_l1New.l0v_eq, if_pos (by omega)]
    by_cases h : (i : Int) < 4000
    · rw [if_pos h, if_pos (by omega), wrap_in (n := (i : Int) + 1) (by omega) (by omega), show (i : Int) + 1 = ((i + 1 : Nat) : Int) by omega]
      exact ih (i + 1) _ (by omega) (by omega)
    · rw [if_neg h]
      exact ⟨_, rfl⟩
theorem draw_new (l : List Int) (hl : l.length ≤ 1048576) : ∃ t, spec_l1New.fv l = some (l, 0, t) := by
  rw [spec_l1New.fv_eq]
  exact new_run l (by omega) l.length 0 _ (by omega) (by omega)
/-- A draw's word: what it says has p, and its place stands in the row still. -/
def Draws {α : Type} (l : List Int) (o : Option (α × Int × Int)) (p : α → Prop) : Prop := ∃ r a s, o = some (r, a, s) ∧ p r ∧ 0 ≤ a ∧ a ≤ l.length
theorem draw_byte (l : List Int) (hl : l.length ≤ 1048576) (a s : Int) (h0 : 0 ≤ a) (h1 : a ≤ l.length) : Draws l (spec_l1Byte.f l a s) (fun r => 0 ≤ r ∧ r ≤ 255) := by
  unfold spec_l1Byte.f
  by_cases h : a < (l.length : Int)
  · rw [if_pos h, if_pos h0, wrap_in (n := a + 1) (by omega) (by omega)]
    exact ⟨_, _, _, rfl, and255 _, by omega, by omega⟩
  · rw [if_neg h]
    exact ⟨_, _, _, rfl, and255 _, h0, h1⟩
theorem draw_below (l : List Int) (hl : l.length ≤ 1048576) (a s n : Int) (h0 : 0 ≤ a) (h1 : a ≤ l.length) (hn : 0 < n) : Draws l (spec_l1Below.f l a s n) (fun r => 0 ≤ r ∧ r < n) := by
  unfold spec_l1Below.f
  rw [if_neg (by omega)]
  by_cases h : n ≤ 256
  · rw [if_pos h]
    obtain ⟨r, b, t, e, hr, hb0, hb1⟩ := draw_byte l hl a s h0 h1
    rw [e, Option.bind_some, if_neg (by omega)]
    refine ⟨_, _, _, rfl, ?_, hb0, hb1⟩
    simp only []
    rw [Int.tmod_eq_emod_of_nonneg hr.1]
    exact ⟨Int.emod_nonneg _ (by omega), Int.emod_lt_of_pos _ hn⟩
  · rw [if_neg h]
    obtain ⟨r1, b1, t1, e1, hr1, hb1, hb1'⟩ := draw_byte l hl a s h0 h1
    rw [e1, Option.bind_some]
    obtain ⟨r2, b2, t2, e2, hr2, hb2, hb2'⟩ := draw_byte l hl b1 t1 hb1 hb1'
    simp only []
    rw [e2, Option.bind_some]
    obtain ⟨r3, b3, t3, e3, hr3, hb3, hb3'⟩ := draw_byte l hl b2 t2 hb2 hb2'
    simp only []
    rw [e3, Option.bind_some]
    obtain ⟨r4, b4, t4, e4, hr4, hb4, hb4'⟩ := draw_byte l hl b3 t3 hb3 hb3'
    simp only []
    rw [e4, Option.bind_some, if_neg (by omega)]
    refine ⟨_, _, _, rfl, ?_, hb4, hb4'⟩
    simp only []
    rw [wrap_in (n := r1 * 16777216) (by omega) (by omega), wrap_in (n := r2 * 65536) (by omega) (by omega), wrap_in (n := r3 * 256) (by omega) (by omega), wrap_in (n := r1 * 16777216 + r2 * 65536) (by omega) (by omega), wrap_in (n := r1 * 16777216 + r2 * 65536 + r3 * 256) (by omega) (by omega), wrap_in (n := r1 * 16777216 + r2 * 65536 + r3 * 256 + r4) (by omega) (by omega), Int.tmod_eq_emod_of_nonneg (by omega)]
    exact ⟨Int.emod_nonneg _ (by omega), Int.emod_lt_of_pos _ hn⟩

/-! ### drawn texts of numbers -/
theorem draw_str (l : List Int) (hl : l.length ≤ 1048576) (a s : Int) (m : List ByteArray) (p : ByteArray → Prop) (h0 : 0 ≤ a) (h1 : a ≤ l.length) (hm : 0 < m.length) (hp : ∀ x ∈ m, p x) : Draws l (spec_l1Pick.f l a s m) p := by
  unfold spec_l1Pick.f
  obtain ⟨r, b, t, e, hr, hb0, hb1⟩ := draw_below l hl a s m.length h0 h1 (by omega)
  rw [e, Option.bind_some, if_pos hr.1, if_pos hr.2]
  obtain ⟨j, rfl⟩ := Int.eq_ofNat_of_zero_le hr.1
  refine ⟨_, _, _, rfl, ?_, hb0, hb1⟩
  simp only []
  have e2 : rdOf ByteArray.empty m (j : Int) = m[j]'(by omega) := by
    unfold rdOf
    rw [Int.toNat_natCast]
    simp [List.getD, List.getElem?_eq_getElem (show j < m.length by omega)]
  rw [e2]
  exact hp _ (List.getElem_mem _)

/-! ### pieces between blanks -/
def flds : List UInt8 → List UInt8 → List (List UInt8)
  | cur, [] => if cur = [] then [] else [cur]
  | cur, c :: r => if c = 32 then (if cur = [] then flds [] r else cur :: flds [] r) else flds (cur ++ [c]) r
theorem flds_none (a : List UInt8) : ∀ cur, (32 : UInt8) ∉ a → flds cur a = if cur ++ a = [] then [] else [cur ++ a] := by
  induction a with
  | nil => intro cur _; simp [flds]
  | cons c r ih =>
    intro cur h
    rw [flds, if_neg (fun e => h (by simp [e])), ih _ (fun e => h (by simp [e]))]
    simp
theorem flds_hit (a r : List UInt8) : ∀ cur, (32 : UInt8) ∉ a → flds cur (a ++ 32 :: r) = if cur ++ a = [] then flds [] r else (cur ++ a) :: flds [] r := by
  induction a with
  | nil => intro cur _; simp [flds]
  | cons c t ih =>
    intro cur h
    rw [List.cons_append, flds, if_neg (fun e => h (by simp [e])), ih _ (fun e => h (by simp [e]))]
    simp
theorem flds_len (l : List UInt8) : ∀ cur, (flds cur l).length ≤ l.length + 1 := by
  induction l with
  | nil => intro cur; rw [flds]; split <;> simp
  | cons c r ih =>
    intro cur
    have i0 := ih []
    have i1 := ih (cur ++ [c])
    rw [flds]
    split
    · split
      · simp; omega
      · simp; omega
    · simp; omega
theorem idx_blank (l : List UInt8) : (Lib.index l [32] = -1 ∧ (32 : UInt8) ∉ l) ∨ ∃ a r, l = a ++ 32 :: r ∧ (32 : UInt8) ∉ a ∧ Lib.index l [32] = (a.length : Int) := by
  induction l with
  | nil => exact .inl ⟨by simp [Lib.index], by simp⟩
  | cons b l ih =>
    by_cases h : b = 32
    · subst h
      exact .inr ⟨[], l, rfl, by simp, by simp [Lib.index, List.isPrefixOf]⟩
    · have hp : ([32] : List UInt8).isPrefixOf (b :: l) = false := by simp [List.isPrefixOf, Ne.symm h]
      have hix : Lib.index (b :: l) [32] = if Lib.index l [32] == -1 then -1 else Lib.index l [32] + 1 := by rw [Lib.index, hp]; simp
      rcases ih with ⟨e, hn⟩ | ⟨a, r, rfl, hn, e⟩
      · exact .inl ⟨by rw [hix, e]; rfl, by simp [hn, Ne.symm h]⟩
      · refine .inr ⟨b :: a, r, rfl, by simp [hn, Ne.symm h], ?_⟩
        have hne : ¬ ((a.length : Int) == -1) = true := fun z => by have := beq_iff_eq.1 z; omega
        rw [hix, e, if_neg hne]
        simp
def blank : ByteArray := ⟨#[32]⟩
theorem split_flds (n : Nat) : ∀ l : List UInt8, l.length < n → (Lib.splitB blank 0 (Lib.countB (B l) blank) (B l)).filter (fun x => !(x.toList == ([] : List UInt8))) = (flds [] l).map B := by
  induction n with
  | zero => intro l hl; omega
  | succ n ih =>
    intro l hl
    have hB : Lib.indexB (B l) blank = Lib.index l [32] := by
      show Lib.index (B l).data.toList blank.data.toList = _
      rw [B_data]
      rfl
    rcases idx_blank l with ⟨e, hn⟩ | ⟨a, r, rfl, hn, e⟩
    · rw [Lib.splitB_miss _ _ _ _ (hB.trans e), flds_none l [] hn]
      by_cases h : l = []
      · subst h; simp [B_toList]
      · simp [B_toList, h]
    · have hi := hB.trans e
      have e1 : (B (a ++ 32 :: r)).extract 0 (a.length + 0) = B a := by rw [B_extract]; simp
      have e2 : (B (a ++ 32 :: r)).extract (a.length + blank.size) (B (a ++ 32 :: r)).size = B r := by
        rw [B_extract, B_size, show blank.size = 1 from rfl]
        simp
        rw [List.take_of_length_le (by omega)]
      rw [Lib.countB_hit _ _ a.length (by decide) hi, Nat.add_comm 1, Lib.splitB_hit _ _ _ _ a.length hi, e1, e2, flds_hit a r [] hn, List.filter_cons, ih r (by simp at hl; omega)]
      by_cases h : a = []
      · subst h; simp [B_toList]
      · simp [B_toList, h]
theorem impl_fields (l : List UInt8) (hl : l.length ≤ 4194304) : impl_Fields.f (B l) = some ((flds [] l).map B) := by
  unfold impl_Fields.f strings_Split.f
  rw [if_pos ⟨by rw [B_size]; omega, by decide⟩, Option.bind_some]
  unfold slices_DeleteFunc_string_string_15.f
  have hne : ¬ Lib.splitB (⟨#[32]⟩ : ByteArray) 0 (Lib.countB (B l) ⟨#[32]⟩) (B l) = [] := by
    intro e
    have := Lib.splitB_all blank (by decide) 0 _ (B l) rfl
    rw [show Lib.splitB blank 0 (Lib.countB (B l) blank) (B l) = [] from e] at this
    simp at this
  rw [if_neg hne, Option.bind_some]
  exact congrArg some (split_flds _ l (Nat.lt_succ_self _))
theorem spec_sep (l : List UInt8) (hl : l.length ≤ 4194304) (i s : Nat) (out : List ByteArray) (h1 : s ≤ i) (h2 : i ≤ l.length) (h3 : out.length ≤ i) :
    spec_Fields.j1v (B l) out (s : Int) (i : Int) false = spec_Fields.l0v (B l) (if s = i then out else out ++ [B ((l.drop s).take (i - s))]) ((i + 1 : Nat) : Int) ((i + 1 : Nat) : Int) := by
  rw [spec_Fields.j1v_eq, if_neg (by decide), wrap_in (by omega) (by omega), show (i : Int) + 1 = ((i + 1 : Nat) : Int) by omega]
  by_cases h : s = i
  · rw [if_neg (by omega), if_pos h]
  · rw [if_pos (by omega), if_pos (by omega), if_pos (by omega), if_pos (by rw [B_size]; omega), if_pos (by omega), if_neg h, B_extract]
    simp only [Int.toNat_natCast]
theorem spec_end (l : List UInt8) (out : List ByteArray) (s : Int) : spec_Fields.l0v (B l) out s ((l.length + 1 : Nat) : Int) = some out := by
  rw [spec_Fields.l0v_eq, if_neg (by rw [B_size]; omega)]
theorem cur_nil (l : List UInt8) (i s : Nat) (h1 : s ≤ i) (h2 : i ≤ l.length) : (l.drop s).take (i - s) = [] ↔ s = i := by
  constructor
  · intro e
    have := congrArg List.length e
    simp at this
    omega
  · intro e; subst e; simp
theorem spec_loop (l : List UInt8) (hl : l.length ≤ 4194304) (d : Nat) : ∀ (i s : Nat) (out : List ByteArray), l.length - i ≤ d → s ≤ i → i ≤ l.length → out.length ≤ i →
    spec_Fields.l0v (B l) out (s : Int) (i : Int) = some (out ++ (flds ((l.drop s).take (i - s)) (l.drop i)).map B) := by
  induction d with
  | zero =>
    intro i s out h0 h1 h2 h3
    obtain rfl : i = l.length := by omega
    rw [spec_Fields.l0v_eq, if_pos (by rw [B_size]; omega), if_neg (by rw [B_size]; omega), spec_sep l hl _ s out h1 h2 h3, spec_end, List.drop_length, flds]
    by_cases h : s = l.length
    · rw [if_pos h, if_pos ((cur_nil l _ s h1 h2).2 h)]; simp
    · rw [if_neg h, if_neg (fun e => h ((cur_nil l _ s h1 h2).1 e))]; simp
  | succ d ih =>
    intro i s out h0 h1 h2 h3
    by_cases hi : i < l.length
    · have hd : l.drop i = l[i] :: l.drop (i + 1) := List.drop_eq_getElem_cons hi
      rw [spec_Fields.l0v_eq, if_pos (by rw [B_size]; omega), if_pos (by rw [B_size]; omega), if_pos (by omega), B_bt l i hi, hd, flds]
      by_cases hc : l[i] = 32
      · rw [if_pos hc, show ((l[i].toNat : Int) != 32) = false by rw [hc]; rfl, spec_sep l hl i s out h1 h2 h3]
        by_cases h : s = i
        · rw [if_pos h, if_pos ((cur_nil l _ s h1 h2).2 h), ih (i + 1) (i + 1) out (by omega) (by omega) (by omega) (by omega)]
          simp
        · rw [if_neg h, if_neg (fun e => h ((cur_nil l _ s h1 h2).1 e)), ih (i + 1) (i + 1) _ (by omega) (by omega) (by omega) (by simp; omega)]
          simp
      · have hb : ((l[i].toNat : Int) != 32) = true := by
          rw [bne_iff_ne]
          exact fun e => hc ((byte_is _ 32 32 rfl).1 e)
        rw [if_neg hc, hb, spec_Fields.j1v_eq, if_pos rfl, wrap_in (by omega) (by omega), show (i : Int) + 1 = ((i + 1 : Nat) : Int) by omega, ih (i + 1) s out (by omega) (by omega) (by omega) (by omega)]
        have : (l.drop s).take (i + 1 - s) = (l.drop s).take (i - s) ++ [l[i]] := by
          rw [show i + 1 - s = (i - s) + 1 by omega, List.take_add_one, List.getElem?_drop, show s + (i - s) = i by omega, List.getElem?_eq_getElem hi]
          rfl
        rw [this]
    · exact ih i s out (by omega) h1 h2 h3
theorem spec_fields (l : List UInt8) (hl : l.length ≤ 4194304) : spec_Fields.fv (B l) = some ((flds [] l).map B) := by
  rw [spec_Fields.fv_eq]
  have := spec_loop l hl l.length 0 0 [] (by omega) (by omega) (by omega) (by simp)
  simpa using this

/-! ### a line of fields with one blank between -/
theorem flds_blank (a r : List UInt8) : ∀ cur, flds cur (a ++ 32 :: r) = flds cur a ++ flds [] r := by
  induction a with
  | nil =>
    intro cur
    by_cases h : cur = []
    · simp [flds, h]
    · simp [flds, h]
  | cons c t ih =>
    intro cur
    by_cases h : c = 32
    · by_cases h2 : cur = []
      · simp [flds, h, h2, ih]
      · simp [flds, h, h2, ih]
    · simp [flds, h, ih]
theorem flds_all (l : List UInt8) : ∀ cur, (32 : UInt8) ∉ cur → ∀ x ∈ flds cur l, x ≠ [] ∧ (32 : UInt8) ∉ x ∧ x.length ≤ cur.length + l.length := by
  induction l with
  | nil =>
    intro cur hc x hx
    rw [flds] at hx
    split at hx
    · simp at hx
    · obtain rfl : x = cur := by simpa using hx
      exact ⟨by assumption, hc, by simp⟩
  | cons c r ih =>
    intro cur hc x hx
    rw [flds] at hx
    split at hx
    · split at hx
      · obtain ⟨h1, h2, h3⟩ := ih [] (by simp) x hx
        exact ⟨h1, h2, by simp at h3 ⊢; omega⟩
      · rcases List.mem_cons.1 hx with rfl | hx
        · exact ⟨by assumption, hc, by simp⟩
        · obtain ⟨h1, h2, h3⟩ := ih [] (by simp) x hx
          exact ⟨h1, h2, by simp at h3 ⊢; omega⟩
    · rename_i hne
      obtain ⟨h1, h2, h3⟩ := ih (cur ++ [c]) (by simp [hc, Ne.symm hne]) x hx
      exact ⟨h1, h2, by simp at h3 ⊢; omega⟩
theorem line_run (l : List Int) (hl : l.length ≤ 1048576) (d : Nat) : ∀ (i : Nat) (T : ByteArray) (a s : Int), 5 - i ≤ d → i ≤ 5 → T.size ≤ 5 * i → 0 ≤ a → a ≤ l.length → Draws l (spec_l11DrawLine.l0v T (i : Int) l a s) (fun r => r.size ≤ 25) := by
  induction d with
  | zero =>
    intro i T a s h1 h2 h3 h4 h5
    obtain ⟨r1, a1, s1, e1, p1, h10, h11⟩ := draw_below l hl a s 5 h4 h5 (by omega)
    rw [spec_l11DrawLine.l0v_eq, e1, Option.bind_some]
    simp only []
    rw [if_neg (by omega)]
    exact ⟨_, _, _, rfl, by omega, h10, h11⟩
  | succ d ih =>
    intro i T a s h1 h2 h3 h4 h5
    obtain ⟨r1, a1, s1, e1, p1, h10, h11⟩ := draw_below l hl a s 5 h4 h5 (by omega)
    rw [spec_l11DrawLine.l0v_eq, e1, Option.bind_some]
    simp only []
    by_cases h : (i : Int) < r1
    · rw [if_pos h]
      obtain ⟨r2, a2, s2, e2, p2, h20, h21⟩ := draw_str l hl a1 s1 [(⟨#[97]⟩ : ByteArray), (⟨#[120]⟩ : ByteArray), (⟨#[49, 48]⟩ : ByteArray), (⟨#[55, 46, 53]⟩ : ByteArray), (⟨#[97, 98, 99]⟩ : ByteArray), (⟨#[98, 98, 99]⟩ : ByteArray), (⟨#[45, 51]⟩ : ByteArray), (⟨#[52]⟩ : ByteArray), (⟨#[120, 121, 122]⟩ : ByteArray)] (fun r => r.size ≤ 3) h10 h11 (by decide) (by decide)
      rw [e2, Option.bind_some]
      simp only []
      rw [if_pos (by omega)]
      obtain ⟨r3, a3, s3, e3, p3, h30, h31⟩ := draw_str l hl a2 s2 [(⟨#[32]⟩ : ByteArray), (⟨#[32]⟩ : ByteArray), (⟨#[32, 32]⟩ : ByteArray)] (fun r => r.size ≤ 2) h20 h21 (by decide) (by decide)
      rw [e3, Option.bind_some]
      simp only []
      have hs1 : (T ++ r2).size = T.size + r2.size := ByteArray.size_append
      have hs2 : ((T ++ r2) ++ r3).size = T.size + r2.size + r3.size := by rw [ByteArray.size_append, hs1]
      rw [if_pos (by omega), wrap_in (by omega) (by omega), show (i : Int) + 1 = ((i + 1 : Nat) : Int) by omega]
      exact ih (i + 1) _ a3 s3 (by omega) (by omega) (by omega) h30 h31
    · rw [if_neg h]
      exact ⟨_, _, _, rfl, by omega, h10, h11⟩
theorem draw_fields (l : List Int) (hl : l.length ≤ 1048576) : ∃ m : List UInt8, spec_DrawFields.fv l = some (B m) ∧ m.length ≤ 25 := by
  obtain ⟨t, e⟩ := draw_new l hl
  obtain ⟨r1, a1, s1, e1, p1, _, _⟩ := line_run l hl 5 0 (⟨#[]⟩ : ByteArray) 0 t (by omega) (by omega) (by decide) (by omega) (by omega)
  refine ⟨r1.data.toList, ?_, ?_⟩
  · rw [spec_DrawFields.fv_eq, e, Option.bind_some]
    simp only []
    rw [spec_l11DrawLine.fv_eq]
    rw [show ((0 : Nat) : Int) = 0 from rfl] at e1
    rw [e1, Option.bind_some, B_self]
  · have := B_size r1.data.toList
    rw [B_self] at this
    omega
theorem rdOf_in (r : List ByteArray) (i : Nat) (h : i < r.length) : rdOf ByteArray.empty r (i : Int) = r[i] := by
  unfold rdOf
  rw [Int.toNat_natCast, List.getD_eq_getElem?_getD, List.getElem?_eq_getElem h]
  rfl
theorem same_texts (r : List ByteArray) (hr : r.length ≤ 2000000) : laws_sameTexts.fv r r = some true := by
  rw [laws_sameTexts.fv_eq, if_pos rfl]
  refine eq_all laws_sameTexts.l0v (fun x y i => some (decide ((rdOf ByteArray.empty x i).toList = (rdOf ByteArray.empty y i).toList))) (fun x y i => ?_) r (by omega) (fun i h => by simp)
  rw [laws_sameTexts.l0v_eq, Option.bind_some]
  simp only [decide_eq_true_eq]
theorem join_run (fs : List (List UInt8)) (hf : fs.length ≤ 30) (hx : ∀ x ∈ fs, x ≠ [] ∧ (32 : UInt8) ∉ x ∧ x.length ≤ 25) (d : Nat) : ∀ (i : Nat) (acc : List UInt8), fs.length - i ≤ d → i ≤ fs.length → acc.length ≤ 30 * i → flds [] acc = fs.take i → (i = 0 → acc = []) →
    laws_FnFieldsJoin.l0v (fs.map B) (B acc) (i : Int) = some true := by
  induction d with
  | zero =>
    intro i acc h1 h2 h3 h4 h5
    obtain rfl : i = fs.length := by omega
    rw [laws_FnFieldsJoin.l0v_eq, if_neg (by simp), impl_fields acc (by omega), Option.bind_some, h4, List.take_length, same_texts _ (by rw [List.length_map]; omega), Option.bind_some]
  | succ d ih =>
    intro i acc h1 h2 h3 h4 h5
    by_cases hi : i < fs.length
    · have hm : i < (fs.map B).length := by rw [List.length_map]; exact hi
      obtain ⟨x1, x2, x3⟩ := hx fs[i] (List.getElem_mem hi)
      have hr : rdOf ByteArray.empty (fs.map B) (i : Int) = B fs[i] := by rw [rdOf_in _ i hm, List.getElem_map]
      have one : flds [] fs[i] = [fs[i]] := by rw [flds_none _ [] x2]; simp [x1]
      have tk : fs.take (i + 1) = fs.take i ++ [fs[i]] := by rw [List.take_add_one, List.getElem?_eq_getElem hi]; rfl
      rw [laws_FnFieldsJoin.l0v_eq, if_pos (by omega), if_pos (by omega), hr, B_toList, if_neg x1, wrap_in (by omega) (by omega), show (i : Int) + 1 = ((i + 1 : Nat) : Int) by omega]
      by_cases h0 : i = 0
      · have ha := h5 h0
        subst ha
        rw [if_neg (by omega), if_pos (by rw [B_size, B_size]; simp; omega), B_append, List.nil_append]
        exact ih (i + 1) _ (by omega) (by omega) (by omega) (by rw [one, tk, show fs.take i = [] by rw [h0]; rfl]; rfl) (by omega)
      · have e1 : B acc ++ (⟨#[32]⟩ : ByteArray) = B (acc ++ [32]) := B_append acc [32]
        rw [if_pos (by omega), if_pos (by rw [B_size]; omega), e1, if_pos (by rw [B_size, B_size]; simp; omega), B_append]
        refine ih (i + 1) _ (by omega) (by omega) (by simp; omega) ?_ (by omega)
        rw [List.append_assoc, List.singleton_append, flds_blank, h4, one, tk]
    · exact ih i acc (by omega) h2 h3 h4 h5
end FnFieldsJoinAid
open FnFieldsJoinAid

theorem FnFieldsJoin : laws_FnFieldsJoin.Pure := by
  intro x hx
  refine (laws_FnFieldsJoin.f_lim _).get ?_
  rw [laws_FnFieldsJoin.fv_eq]
  unfold laws_big.f
  rw [Option.bind_some]
  by_cases h : (x.length : Int) > 1048576
  · rw [if_pos (by simpa using h)]
  · rw [if_neg (by simpa using h)]
    obtain ⟨m, e1, hm⟩ := draw_fields x (by omega)
    have hn := flds_len m []
    rw [e1, Option.bind_some, impl_fields m (by omega), spec_fields m (by omega), Option.bind_some, Option.bind_some, same_texts _ (by rw [List.length_map]; omega), Option.bind_some, if_pos rfl]
    have ha := flds_all m [] (by simp)
    exact join_run (flds [] m) (by omega) (fun y hy => ⟨(ha y hy).1, (ha y hy).2.1, by have := (ha y hy).2.2; simp at this; omega⟩) (flds [] m).length 0 [] (by omega) (by omega) (by simp) (by simp [flds]) (fun _ => rfl)

end Go.Proofs.YtehefologhfdhaaDoor.Pure
