/- The program's Check answers as the reference's, for all arguments. -/
import Derived.Test.YthgglepiopijjaaGreatFFnExactCheck
import Derived.Test.YthgglepiopijjaaGreatBulk
set_option linter.unusedVariables false
set_option linter.unusedSimpArgs false
namespace Go.Proofs.YthgglepiopijjaaGreat.Pure
open Go.RowKit Go.Proofs.YthgglepiopijjaaGreat.QFnExactCheck Go.Proofs.YthgglepiopijjaaGreatW.PrintWords Go.Proofs.YthgglepiopijjaaGreatW.PrintLast Go.Proofs.YthgglepiopijjaaGreatW.PrintMore Go.Proofs.YthgglepiopijjaaGreatW.Lims
open Go.Proofs.YthgglepiopijjaaGreatW.Bulk
namespace FnExactCheckAid

/-! ### texts as rows of bytes -/
def B (l : List UInt8) : ByteArray := ⟨l.toArray⟩
theorem B_self (s : ByteArray) : B s.data.toList = s := by cases s; simp [B]
theorem B_size (l : List UInt8) : (B l).size = l.length := by show l.toArray.size = l.length; simp
theorem B_data (l : List UInt8) : (B l).data.toList = l := by simp [B]
theorem B_append (a b : List UInt8) : B a ++ B b = B (a ++ b) := by
  apply ByteArray.ext
  rw [ByteArray.data_append]
  simp [B]
theorem B_inj {a b : List UInt8} (h : B a = B b) : a = b := by
  have := congrArg (fun s : ByteArray => s.data.toList) h
  simpa [B] using this
theorem B_extract (l : List UInt8) (i j : Nat) : (B l).extract i j = B ((l.drop i).take (j - i)) := by rw [Lib.extract_eq, B_data]; rfl
theorem B_toList (l : List UInt8) : (B l).toList = l := by rw [Lib.toList_data, B_data]
theorem B_bt (l : List UInt8) (i : Nat) (h : i < l.length) : bt (B l) (i : Int) = (l[i].toNat : Int) := by
  have h' : (i : Int).toNat < (B l).size := by rw [Int.toNat_natCast, B_size]; exact h
  rw [← bt_at (B l) i h']
  rfl
theorem wrap_in {n : Int} (h0 : -9223372036854775808 ≤ n) (h1 : n ≤ 9223372036854775807) : wrap64 n = n := by unfold wrap64; omega
theorem byte_is (b c : UInt8) (n : Int) (hc : (c.toNat : Int) = n) : ((b.toNat : Int) = n) ↔ b = c := by
  rw [← UInt8.toNat_inj, ← hc]; omega
theorem byte_ofNat (n : Nat) (h : n < 256) : (UInt8.ofNat n).toNat = n := by rw [UInt8.toNat_ofNat']; omega

/-! ### trees that came in: how much they hold; their copy; each is like itself -/
theorem rd_in (xs : List S32) (i : Nat) (h : i < xs.length) : rd_T32 xs (i : Int) = xs[i] := by
  unfold rd_T32
  simp [List.getD_eq_getElem?_getD, h]
theorem rd_in2 (xs : List S38) (i : Nat) (h : i < xs.length) : rd_T38 xs (i : Int) = xs[i] := by
  unfold rd_T38
  simp [List.getD_eq_getElem?_getD, h]

theorem eta2 (y : S38) : (⟨y.f0, y.f1, y.f2, y.f3⟩ : S38) = y := by cases y; rfl

def bulk (x : S32) : Nat := x.f2.size + x.f3.length + (x.f3.attach.map (fun k => bulk k.1)).sum
termination_by SizeOf.sizeOf x
decreasing_by
  have h := k.2
  cases x with
  | mk a b c l =>
    have h2 : SizeOf.sizeOf k.1 < SizeOf.sizeOf l := List.sizeOf_lt_of_mem h
    simp only [S32.mk.sizeOf_spec]
    omega
theorem bulk_eq (x : S32) : bulk x = x.f2.size + x.f3.length + (x.f3.map bulk).sum := by
  rw [bulk, List.attach_map_val (f := bulk)]
def conv (x : S32) : S38 := ⟨x.f0, x.f1, x.f2, x.f3.attach.map (fun k => conv k.1)⟩
termination_by SizeOf.sizeOf x
decreasing_by
  have h := k.2
  cases x with
  | mk a b c l =>
    have h2 : SizeOf.sizeOf k.1 < SizeOf.sizeOf l := List.sizeOf_lt_of_mem h
    simp only [S32.mk.sizeOf_spec]
    omega
theorem conv_eq (x : S32) : conv x = ⟨x.f0, x.f1, x.f2, x.f3.map conv⟩ := by
  rw [conv, List.attach_map_val (f := conv)]

theorem sz_loop (x0 : List S32) (hl : x0.length ≤ 9223372036854775807)
    (ih : ∀ y, y ∈ x0 → ∀ left : Int, 0 ≤ left → left ≤ 1048576 → laws_szNode.fv y.f0 y.f1 y.f2 y.f3 left = some (if (bulk y : Int) ≤ left then left - bulk y else -1)) (d : Nat) :
    ∀ (i : Nat) (left : Int), x0.length - i = d → i ≤ x0.length → 0 ≤ left → left ≤ 1048576 →
      laws_szNodeS.l0v x0 left (i : Int) = some (if ((((x0.drop i).map bulk).sum : Nat) : Int) ≤ left then left - (((x0.drop i).map bulk).sum : Nat) else -1) := by
  induction d with
  | zero =>
    intro i left h1 h2 h3 h4
    rw [laws_szNodeS.l0v_eq, if_neg (by omega), List.drop_of_length_le (by omega)]
    simp [h3]
  | succ d ihd =>
    intro i left h1 h2 h3 h4
    have hi : i < x0.length := by omega
    rw [laws_szNodeS.l0v_eq, if_pos (by omega), if_pos (by omega), rd_in x0 i hi, ih x0[i] (List.getElem_mem hi) left h3 h4]
    rw [List.drop_eq_getElem_cons hi, List.map_cons, List.sum_cons]
    simp only [Option.bind_some]
    by_cases hb : (bulk x0[i] : Int) ≤ left
    · rw [if_pos hb, if_neg (by omega), wrap_in (by omega) (by omega), show (i : Int) + 1 = ((i + 1 : Nat) : Int) by omega, ihd (i + 1) _ (by omega) (by omega) (by omega) (by omega)]
      by_cases hs : (((x0.drop (i + 1)).map bulk).sum : Int) ≤ left - bulk x0[i]
      · rw [if_pos hs, if_pos (by omega)]; congr 1; omega
      · rw [if_neg hs, if_neg (by omega)]
    · rw [if_neg hb, if_pos (by omega), if_neg (by omega)]

theorem sz_kids (x0 : List S32) (hl : x0.length ≤ 9223372036854775807)
    (ih : ∀ y, y ∈ x0 → ∀ left : Int, 0 ≤ left → left ≤ 1048576 → laws_szNode.fv y.f0 y.f1 y.f2 y.f3 left = some (if (bulk y : Int) ≤ left then left - bulk y else -1)) (left : Int) (h0 : 0 ≤ left) (h1 : left ≤ 1048576) :
    laws_szNodeS.fv x0 left = some (if ((x0.length + (x0.map bulk).sum : Nat) : Int) ≤ left then left - (x0.length + (x0.map bulk).sum : Nat) else -1) := by
  rw [laws_szNodeS.fv_eq, wrap_in (by omega) (by omega)]
  by_cases h : left - (x0.length : Int) < 0
  · rw [if_pos h, if_neg (by omega)]
  · rw [if_neg h]
    have := sz_loop x0 hl ih x0.length 0 (left - x0.length) (by omega) (by omega) (by omega) (by omega)
    rw [show (0 : Int) = ((0 : Nat) : Int) from rfl, this, List.drop_zero]
    by_cases hs : (((x0.map bulk).sum : Nat) : Int) ≤ left - x0.length
    · rw [if_pos hs, if_pos (by omega)]; congr 1; omega
    · rw [if_neg hs, if_neg (by omega)]

theorem sz_node (x : S32) (hx : Wf32 x) : ∀ left : Int, 0 ≤ left → left ≤ 1048576 → laws_szNode.fv x.f0 x.f1 x.f2 x.f3 left = some (if (bulk x : Int) ≤ left then left - bulk x else -1) := by
  induction hx with
  | mk x h0 h1 h2 h3 g3 ih =>
    intro left hl0 hl1
    have h2' := len_le h2
    rw [laws_szNode.fv_eq, wrap_in (by omega) (by omega), bulk_eq]
    by_cases h : left - (x.f2.size : Int) < 0
    · rw [if_pos h, if_neg (by omega)]
    · rw [if_neg h, sz_kids x.f3 (len_le h3) ih _ (by omega) (by omega)]
      simp only [Option.bind_some]
      by_cases hs : ((x.f3.length + (x.f3.map bulk).sum : Nat) : Int) ≤ left - x.f2.size
      · rw [if_pos hs, if_neg (by omega), if_pos (by omega)]; congr 1; omega
      · rw [if_neg hs, if_pos (by omega), if_neg (by omega)]

theorem le_sum {l : List Nat} {n : Nat} (h : n ∈ l) : n ≤ l.sum := by
  induction l with
  | nil => simp at h
  | cons a l ih =>
    rw [List.sum_cons]
    rcases List.mem_cons.1 h with rfl | h
    · omega
    · have := ih h; omega

theorem bulk_kid {x y : S32} (h : y ∈ x.f3) : bulk y + x.f3.length + x.f2.size ≤ bulk x := by
  rw [bulk_eq x]
  have := le_sum (List.mem_map_of_mem (f := bulk) h)
  omega

theorem to_loop (x0 : List S32) (hl : x0.length ≤ 1048576) (ih : ∀ y, y ∈ x0 → laws_toNode.fv y.f0 y.f1 y.f2 y.f3 = some ((conv y).f0, (conv y).f1, (conv y).f2, (conv y).f3)) (d : Nat) :
    ∀ (i : Nat) (rest : List S38), x0.length - i = d → i ≤ x0.length → rest.length = x0.length - i → laws_toNodeS.l0v x0 ((x0.take i).map conv ++ rest) (i : Int) = some (x0.map conv) := by
  induction d with
  | zero =>
    intro i rest h1 h2 h3
    have : rest = [] := List.eq_nil_of_length_eq_zero (by omega)
    subst this
    rw [laws_toNodeS.l0v_eq, if_neg (by omega), List.take_of_length_le (by omega), List.append_nil]
  | succ d ihd =>
    intro i rest h1 h2 h3
    have hi : i < x0.length := by omega
    obtain ⟨r, rest, rfl⟩ : ∃ r rs, rest = r :: rs := by cases rest with
      | nil => simp at h3; omega
      | cons r rs => exact ⟨r, rs, rfl⟩
    rw [laws_toNodeS.l0v_eq, if_pos (by omega), if_pos (by omega), rd_in x0 i hi, ih x0[i] (List.getElem_mem hi)]
    simp only [Option.bind_some]
    have hlen : ((x0.take i).map conv).length = i := by simp; omega
    rw [if_pos (by simp; omega), wrap_in (by omega) (by omega), show (i : Int) + 1 = ((i + 1 : Nat) : Int) by omega, Int.toNat_natCast]
    have e : ((x0.take i).map conv ++ r :: rest).set i ⟨(conv x0[i]).f0, (conv x0[i]).f1, (conv x0[i]).f2, (conv x0[i]).f3⟩ = (x0.take (i + 1)).map conv ++ rest := by
      rw [List.set_append_right _ _ (by omega), hlen, Nat.sub_self, List.set_cons_zero, List.take_succ_eq_append_getElem hi, List.map_append, List.append_assoc, eta2]
      simp
    rw [e]
    exact ihd (i + 1) rest (by omega) (by omega) (by simp at h3; omega)

theorem to_kids (x0 : List S32) (hl : x0.length ≤ 1048576) (ih : ∀ y, y ∈ x0 → laws_toNode.fv y.f0 y.f1 y.f2 y.f3 = some ((conv y).f0, (conv y).f1, (conv y).f2, (conv y).f3)) :
    laws_toNodeS.fv x0 = some (x0.map conv) := by
  rw [laws_toNodeS.fv_eq, if_pos (by omega), if_pos (by omega)]
  have := to_loop x0 hl ih x0.length 0 (List.replicate x0.length z38) (by omega) (by omega) (by simp)
  simpa using this

theorem to_node (x : S32) (hx : Wf32 x) (hb : bulk x ≤ 1048576) : laws_toNode.fv x.f0 x.f1 x.f2 x.f3 = some ((conv x).f0, (conv x).f1, (conv x).f2, (conv x).f3) := by
  induction hx with
  | mk x h0 h1 h2 h3 g3 ih =>
    have hk := bulk_eq x
    rw [laws_toNode.fv_eq, to_kids x.f3 (by omega) (fun y hy => ih y hy (by have := bulk_kid hy; omega)), conv_eq]
    rfl

theorem eq_loop (l : List S38) (hl : l.length ≤ 1048576) (ih : ∀ y, y ∈ l → laws_eqNode.fv y.f0 y.f1 y.f2 y.f3 y.f0 y.f1 y.f2 y.f3 = some true) (d : Nat) :
    ∀ i : Nat, l.length - i = d → i ≤ l.length → laws_eqNodeS.l0v l l (i : Int) = some true := by
  induction d with
  | zero =>
    intro i h1 h2
    rw [laws_eqNodeS.l0v_eq, if_neg (by omega)]
  | succ d ihd =>
    intro i h1 h2
    have hi : i < l.length := by omega
    rw [laws_eqNodeS.l0v_eq, if_pos (by omega), if_pos (by omega), if_pos (by omega), rd_in2 l i hi, ih l[i] (List.getElem_mem hi)]
    simp only [Option.bind_some, if_true]
    rw [wrap_in (by omega) (by omega), show (i : Int) + 1 = ((i + 1 : Nat) : Int) by omega]
    exact ihd (i + 1) (by omega) (by omega)

theorem eq_kids (l : List S38) (hl : l.length ≤ 1048576) (ih : ∀ y, y ∈ l → laws_eqNode.fv y.f0 y.f1 y.f2 y.f3 y.f0 y.f1 y.f2 y.f3 = some true) : laws_eqNodeS.fv l l = some true := by
  rw [laws_eqNodeS.fv_eq, if_pos rfl]
  exact eq_loop l hl ih l.length 0 (by omega) (by omega)

theorem eq_node (x : S32) (hx : Wf32 x) (hb : bulk x ≤ 1048576) : laws_eqNode.fv (conv x).f0 (conv x).f1 (conv x).f2 (conv x).f3 (conv x).f0 (conv x).f1 (conv x).f2 (conv x).f3 = some true := by
  induction hx with
  | mk x h0 h1 h2 h3 g3 ih =>
    have hk := bulk_eq x
    rw [laws_eqNode.fv_eq, if_pos rfl, if_pos rfl, if_pos rfl, conv_eq]
    simp only []
    rw [eq_kids (x.f3.map conv) (by simp; omega) (fun y hy => by
      obtain ⟨z, hz, rfl⟩ := List.mem_map.1 hy
      exact ih z hz (by have := bulk_kid hz; omega))]
    rfl

theorem max_some (a b : Int) : spec_l1Max.f a b = some (mx a b) := by
  unfold spec_l1Max.f mx
  by_cases h : a > b
  · rw [if_pos h, if_neg (by omega)]
  · rw [if_neg h]
    by_cases e : a < b
    · rw [if_pos e]
    · rw [if_neg e]; congr 1; omega
theorem mx_bounds {a b c : Int} (ha : 0 ≤ a) (hb : b ≤ c) (ha' : a ≤ c) : 0 ≤ mx a b ∧ mx a b ≤ c := by unfold mx; split <;> omega

theorem deep_loop (l : List S38) (hl : l.length ≤ 1048576) (b : Int) (hb : 0 ≤ b ∧ b ≤ 1048576) (p q : Int) (s : ByteArray)
    (ih : ∀ y, y ∈ l → ∃ t, 0 ≤ t ∧ t ≤ b ∧ spec_Deep.fv y.f0 y.f1 y.f2 y.f3 = some t ∧ impl_Deep.fv y.f0 y.f1 y.f2 y.f3 = some t) (d : Nat) :
    ∀ (i : Nat) (m : Int), l.length - i = d → i ≤ l.length → 0 ≤ m → m ≤ b → ∃ t, 0 ≤ t ∧ t ≤ b + 1 ∧ spec_Deep.l0v m (i : Int) p q s l = some t ∧ impl_Deep.l0v m l (l.length : Int) (i : Int) = some t := by
  induction d with
  | zero =>
    intro i m h1 h2 h3 h4
    refine ⟨m + 1, by omega, by omega, ?_, ?_⟩
    · rw [spec_Deep.l0v_eq, if_neg (by omega), wrap_in (by omega) (by omega)]
    · rw [impl_Deep.l0v_eq, if_neg (by omega), wrap_in (by omega) (by omega)]
  | succ d ihd =>
    intro i m h1 h2 h3 h4
    have hi : i < l.length := by omega
    obtain ⟨t, ht0, htb, hs, hp⟩ := ih l[i] (List.getElem_mem hi)
    obtain ⟨hm0, hm1⟩ := mx_bounds h3 htb h4
    obtain ⟨u, hu0, hu1, hu2, hu3⟩ := ihd (i + 1) (mx m t) (by omega) (by omega) hm0 hm1
    refine ⟨u, hu0, hu1, ?_, ?_⟩
    · rw [spec_Deep.l0v_eq, if_pos (by omega), if_pos (by omega), rd_in2 l i hi, hs]
      simp only [Option.bind_some, max_some]
      rw [wrap_in (by omega) (by omega), show (i : Int) + 1 = ((i + 1 : Nat) : Int) by omega]
      exact hu2
    · rw [impl_Deep.l0v_eq, if_pos (by omega), if_pos (by omega), if_pos (by omega), rd_in2 l i hi, hp]
      simp only [Option.bind_some]
      rw [wrap_in (by omega) (by omega), show (i : Int) + 1 = ((i + 1 : Nat) : Int) by omega]
      exact hu3

theorem deep_node (x : S32) (hx : Wf32 x) (hb : bulk x ≤ 1048576) : ∃ t : Int, 0 ≤ t ∧ t ≤ bulk x + 1 ∧ spec_Deep.fv (conv x).f0 (conv x).f1 (conv x).f2 (conv x).f3 = some t ∧ impl_Deep.fv (conv x).f0 (conv x).f1 (conv x).f2 (conv x).f3 = some t := by
  induction hx with
  | mk x h0 h1 h2 h3 g3 ih =>
    have hk := bulk_eq x
    obtain ⟨t, h4, h5, h6, h7⟩ := deep_loop (x.f3.map conv) (by simp; omega) (bulk x : Int) (by omega) x.f0 x.f1 x.f2 (fun y hy => by
      obtain ⟨z, hz, rfl⟩ := List.mem_map.1 hy
      have hbz := bulk_kid hz
      have hpos : 0 < x.f3.length := List.length_pos_of_mem hz
      obtain ⟨t, h4, h5, h6, h7⟩ := ih z hz (by omega)
      exact ⟨t, h4, by omega, h6, h7⟩) (x.f3.map conv).length 0 0 (by omega) (by omega) (by omega) (by omega)
    refine ⟨t, h4, h5, ?_, ?_⟩
    · rw [conv_eq, spec_Deep.fv_eq]; exact h6
    · rw [conv_eq, impl_Deep.fv_eq]; exact h7

/-! ### rules that came in -/
theorem rdrule (xs : List S34) (i : Nat) (h : i < xs.length) : rd_T34 xs (i : Int) = xs[i] := by
  unfold rd_T34
  simp [List.getD_eq_getElem?_getD, h]
theorem rdrule2 (xs : List S40) (i : Nat) (h : i < xs.length) : rd_T40 xs (i : Int) = xs[i] := by
  unfold rd_T40
  simp [List.getD_eq_getElem?_getD, h]
abbrev whn (x : S34) : S32 := ⟨x.f1, x.f2, x.f3, x.f4⟩
abbrev thn (x : S34) : S32 := ⟨x.f5, x.f6, x.f7, x.f8⟩
theorem wf1 (x : S34) (hx : Wf34 x) : Wf32 (whn x) := Wf32.mk (whn x) hx.2.1 hx.2.2.1 hx.2.2.2.1 hx.2.2.2.2.1.1 hx.2.2.2.2.1.2
theorem wf2 (x : S34) (hx : Wf34 x) : Wf32 (thn x) := Wf32.mk (thn x) hx.2.2.2.2.2.1 hx.2.2.2.2.2.2.1 hx.2.2.2.2.2.2.2.1 hx.2.2.2.2.2.2.2.2.1 hx.2.2.2.2.2.2.2.2.2
def bl_Rule (x : S34) : Nat := bulk (whn x) + (bulk (thn x) + 0)
theorem sz_Rule (x : S34) (hx : Wf34 x) (left : Int) (h0 : 0 ≤ left) (h1 : left ≤ 1048576) :
    laws_szRule.fv x.f0 x.f1 x.f2 x.f3 x.f4 x.f5 x.f6 x.f7 x.f8 left = some (dn (bl_Rule x) left) := by
  rw [laws_szRule.fv_eq]
  show _ = some (dn (bulk (whn x) + (bulk (thn x) + 0)) left)
  refine dn_bind h0 h1 (sz_node (whn x) (wf1 x hx) _ h0 h1) fun t h0 h1 => ?_
  refine dn_bind h0 h1 (sz_node (thn x) (wf2 x hx) _ h0 h1) fun t h0 h1 => ?_
  exact dn_end _ h0
def bls_Rule (l : List S34) : Nat := l.length + (l.map bl_Rule).sum
theorem sz_RuleS (l : List S34) (hx : l.length ≤ maxLen ∧ ∀ x_ ∈ l, Wf34 x_) (left : Int) (h0 : 0 ≤ left) (h1 : left ≤ 1048576) : laws_szRuleS.fv l left = some (dn (bls_Rule l) left) := by
  rw [laws_szRuleS.fv_eq]
  have hl := len_le hx.1
  refine dn_cut h0 h1 hl fun t ht h0 h1 => ?_
  rw [ht]
  exact sz_all laws_szRuleS.l0v (fun x0 x1 x5 => (laws_szRule.fv ((rd_T34 x0 x5).f0) ((rd_T34 x0 x5).f1) ((rd_T34 x0 x5).f2) ((rd_T34 x0 x5).f3) ((rd_T34 x0 x5).f4) ((rd_T34 x0 x5).f5) ((rd_T34 x0 x5).f6) ((rd_T34 x0 x5).f7) ((rd_T34 x0 x5).f8) x1)) bl_Rule (by intro x l i; exact laws_szRuleS.l0v_eq x l i) l hl (fun i h left h0 h1 => by simp only [rdrule l i h]; exact sz_Rule l[i] (hx.2 _ (List.getElem_mem h)) left h0 h1) t h0 h1
def cv_Rule (x : S34) : S40 := ⟨x.f0, (conv (whn x)).f0, (conv (whn x)).f1, (conv (whn x)).f2, (conv (whn x)).f3, (conv (thn x)).f0, (conv (thn x)).f1, (conv (thn x)).f2, (conv (thn x)).f3⟩
theorem to_Rule (x : S34) (hx : Wf34 x) (hb : bl_Rule x ≤ 1048576) :
    laws_toRule.fv x.f0 x.f1 x.f2 x.f3 x.f4 x.f5 x.f6 x.f7 x.f8 = some (x.f0, (conv (whn x)).f0, (conv (whn x)).f1, (conv (whn x)).f2, (conv (whn x)).f3, (conv (thn x)).f0, (conv (thn x)).f1, (conv (thn x)).f2, (conv (thn x)).f3) := by
  unfold bl_Rule at hb
  rw [laws_toRule.fv_eq, to_node (whn x) (wf1 x hx) (by omega), Option.bind_some, to_node (thn x) (wf2 x hx) (by omega), Option.bind_some]
theorem to_RuleS (l : List S34) (hx : ∀ x_ ∈ l, Wf34 x_) (hb : bls_Rule l ≤ 1048576) : laws_toRuleS.fv l = some (l.map cv_Rule) := by
  have hb' := hb
  unfold bls_Rule at hb'
  rw [laws_toRuleS.fv_eq, if_pos (by omega), if_pos (by omega)]
  have := to_all laws_toRuleS.l0v (fun x0 x4 => (laws_toRule.fv ((rd_T34 x0 x4).f0) ((rd_T34 x0 x4).f1) ((rd_T34 x0 x4).f2) ((rd_T34 x0 x4).f3) ((rd_T34 x0 x4).f4) ((rd_T34 x0 x4).f5) ((rd_T34 x0 x4).f6) ((rd_T34 x0 x4).f7) ((rd_T34 x0 x4).f8))) (fun bt215 => (⟨bt215.1, bt215.2.1, bt215.2.2.1, bt215.2.2.2.1, bt215.2.2.2.2.1, bt215.2.2.2.2.2.1, bt215.2.2.2.2.2.2.1, bt215.2.2.2.2.2.2.2.1, bt215.2.2.2.2.2.2.2.2⟩ : S40)) cv_Rule (by intro x acc i; exact laws_toRuleS.l0v_eq x acc i) l (by omega) (fun i h => by
    have hm := Go.Proofs.YthgglepiopijjaaGreatW.Bulk.le_sum (List.mem_map_of_mem (f := bl_Rule) (List.getElem_mem h))
    simp only [rdrule l i h]; exact ⟨_, to_Rule l[i] (hx _ (List.getElem_mem h)) (by omega), rfl⟩) z40
  simpa using this
theorem eq_RuleS (l : List S34) (hx : ∀ x_ ∈ l, Wf34 x_) (hb : bls_Rule l ≤ 1048576) : laws_eqRuleS.fv (l.map cv_Rule) (l.map cv_Rule) = some true := by
  have hb' := hb
  unfold bls_Rule at hb'
  rw [laws_eqRuleS.fv_eq, if_pos rfl]
  exact eq_all laws_eqRuleS.l0v (fun x0 x1 x5 => (laws_eqRule.fv ((rd_T40 x0 x5).f0) ((rd_T40 x0 x5).f1) ((rd_T40 x0 x5).f2) ((rd_T40 x0 x5).f3) ((rd_T40 x0 x5).f4) ((rd_T40 x0 x5).f5) ((rd_T40 x0 x5).f6) ((rd_T40 x0 x5).f7) ((rd_T40 x0 x5).f8) ((rd_T40 x1 x5).f0) ((rd_T40 x1 x5).f1) ((rd_T40 x1 x5).f2) ((rd_T40 x1 x5).f3) ((rd_T40 x1 x5).f4) ((rd_T40 x1 x5).f5) ((rd_T40 x1 x5).f6) ((rd_T40 x1 x5).f7) ((rd_T40 x1 x5).f8))) (by intro x y i; exact laws_eqRuleS.l0v_eq x y i) (l.map cv_Rule) (by simp; omega) (fun i hi => by
    have hi' : i < l.length := by simpa using hi
    have hm := Go.Proofs.YthgglepiopijjaaGreatW.Bulk.le_sum (List.mem_map_of_mem (f := bl_Rule) (List.getElem_mem hi'))
    have hq : bl_Rule l[i] = bulk (whn l[i]) + (bulk (thn l[i]) + 0) := rfl
    have hw := hx _ (List.getElem_mem hi')
    simp only [rdrule2 _ i hi, List.getElem_map]
    show laws_eqRule.fv l[i].f0 (conv (whn l[i])).f0 (conv (whn l[i])).f1 (conv (whn l[i])).f2 (conv (whn l[i])).f3 (conv (thn l[i])).f0 (conv (thn l[i])).f1 (conv (thn l[i])).f2 (conv (thn l[i])).f3 l[i].f0 (conv (whn l[i])).f0 (conv (whn l[i])).f1 (conv (whn l[i])).f2 (conv (whn l[i])).f3 (conv (thn l[i])).f0 (conv (thn l[i])).f1 (conv (thn l[i])).f2 (conv (thn l[i])).f3 = some true
    rw [laws_eqRule.fv_eq, if_pos rfl, eq_node (whn l[i]) (wf1 _ hw) (by omega), Option.bind_some, if_pos rfl, eq_node (thn l[i]) (wf2 _ hw) (by omega), Option.bind_some, if_pos rfl])

theorem within_loop (l : List ByteArray) (s : ByteArray) (hl : l.length ≤ 4000000) (d : Nat) : ∀ i : Nat, l.length - i = d → i ≤ l.length →
    spec_l7Within.l0v l s (i : Int) = some (decide (s.toList ∈ (l.drop i).map ByteArray.toList)) := by
  induction d with
  | zero =>
    intro i h1 h2
    rw [spec_l7Within.l0v_eq, if_neg (by omega), List.drop_of_length_le (by omega)]
    simp
  | succ d ih =>
    intro i h1 h2
    have hi : i < l.length := by omega
    rw [spec_l7Within.l0v_eq, if_pos (by omega), if_pos (by omega), rdOf_nat _ l i hi, wrap_in (by omega) (by omega), show (i : Int) + 1 = ((i + 1 : Nat) : Int) by omega, ih (i + 1) (by omega) (by omega)]
    rw [List.drop_eq_getElem_cons hi, List.map_cons]
    by_cases h : l[i].toList = s.toList
    · rw [if_pos h, h]; congr 1; exact (decide_eq_true List.mem_cons_self).symm
    · rw [if_neg h]; congr 1; rw [decide_eq_decide, List.mem_cons]; exact ⟨Or.inr, fun e => e.resolve_left (fun e => h e.symm)⟩
theorem within (l : List ByteArray) (s : ByteArray) (hl : l.length ≤ 4000000) : spec_l7Within.fv l s = some (decide (s.toList ∈ l.map ByteArray.toList)) := by
  rw [spec_l7Within.fv_eq]
  exact within_loop l s hl l.length 0 (by omega) (by omega)
theorem index_loop (l : List ByteArray) (s : ByteArray) (hl : l.length ≤ 4000000) (d : Nat) : ∀ i : Nat, l.length - i = d → i ≤ l.length →
    ∃ r : Int, slices_Index_string_string.l0v l s (l.length : Int) (i : Int) = some r ∧ (r ≥ 0 ↔ s.toList ∈ (l.drop i).map ByteArray.toList) := by
  induction d with
  | zero =>
    intro i h1 h2
    exact ⟨-1, by rw [slices_Index_string_string.l0v_eq, if_neg (by omega)], by rw [List.drop_of_length_le (by omega)]; simp⟩
  | succ d ih =>
    intro i h1 h2
    have hi : i < l.length := by omega
    obtain ⟨r, hr, he⟩ := ih (i + 1) (by omega) (by omega)
    rw [slices_Index_string_string.l0v_eq, if_pos (by omega), if_pos (by omega), if_pos (by omega), rdOf_nat _ l i hi, wrap_in (by omega) (by omega), show (i : Int) + 1 = ((i + 1 : Nat) : Int) by omega]
    rw [List.drop_eq_getElem_cons hi, List.map_cons]
    by_cases h : s.toList = l[i].toList
    · exact ⟨i, by rw [if_pos h], ⟨fun _ => by rw [h]; exact List.mem_cons_self, fun _ => by omega⟩⟩
    · exact ⟨r, by rw [if_neg h]; exact hr, by rw [he, List.mem_cons]; exact ⟨Or.inr, fun e => e.resolve_left h⟩⟩
theorem contains (l : List ByteArray) (s : ByteArray) (hl : l.length ≤ 4000000) : slices_Contains_string_string.fv l s = some (decide (s.toList ∈ l.map ByteArray.toList)) := by
  rw [slices_Contains_string_string.fv_eq, slices_Index_string_string.fv_eq]
  obtain ⟨r, hr, he⟩ := index_loop l s hl l.length 0 (by omega) (by omega)
  have hr' : slices_Index_string_string.l0v l s (l.length : Int) 0 = some r := hr
  rw [hr']
  simp only [Option.bind_some]
  congr 1
  rw [decide_eq_decide]
  exact he
theorem jl {k l : List UInt8} {X C : Option Bool} : (if k = l then (if (k == l) = true then some true else C) else X) = if k = l then some true else X := by
  by_cases h : k = l
  · subst h; simp
  · rw [if_neg h, if_neg h]
theorem jz {k l : List UInt8} {C : Option Bool} : (if (k == l) = true then some true else C) = if k = l then some true else C := by
  by_cases h : k = l
  · subst h; simp
  · rw [if_neg h, if_neg (by simpa using h)]
theorem or_ite {p q : Prop} [Decidable p] [Decidable q] {a X : Option Bool} : (if p then a else if q then a else X) = if p ∨ q then a else X := by
  by_cases h : p <;> by_cases h2 : q <;> simp [h, h2]
theorem bind_ite {p : Prop} [Decidable p] {X : Option Bool} : ((some (decide p)).bind fun t => if t = true then some true else X) = if p then some true else X := by
  by_cases h : p <;> simp [h]
def words : List (List UInt8) := [[66, 69, 71, 73, 78], [112, 114, 105, 110, 116], [105, 102], [101, 108, 115, 101], [119, 104, 105, 108, 101], [110, 101, 120, 116], [100, 101, 108, 101, 116, 101], [78, 82], [78, 70]]
def callws : List (List UInt8) := [[108, 101, 110, 103, 116, 104], [115, 117, 98, 115, 116, 114], [105, 110, 100, 101, 120], [105, 110, 116], [117, 112, 112, 101, 114], [108, 111, 119, 101, 114]]
/-- Is a text one of the words that are no names? -/
def isKey (k : List UInt8) : Bool := decide (k ∈ words ∨ k ∈ callws)
theorem spec_key (s : ByteArray) : spec_Keyword.fv s = some (isKey s.toList) := by
  rw [spec_Keyword.fv_eq]
  simp only [spec_l7Calls.f, Option.bind_some]
  rw [within _ _ (by simp), within _ _ (by simp)]
  simp only [List.map_cons, List.map_nil, Go.ByteArray.toList_mk]
  rw [bind_ite]
  simp only [Option.bind_some]
  show (if s.toList ∈ words then some true else some (decide (s.toList ∈ callws))) = _
  unfold isKey
  by_cases h : s.toList ∈ words
  · rw [if_pos h]; simp [h]
  · rw [if_neg h]; simp [h]
theorem impl_key (s : ByteArray) : impl_Keyword.fv s = some (isKey s.toList) := by
  rw [impl_Keyword.fv_eq]
  simp only [impl_Keyword.j0v_eq, impl_calls.f, Option.bind_some]
  rw [contains _ _ (by simp)]
  simp only [List.map_cons, List.map_nil, Go.ByteArray.toList_mk]
  simp only [jl, jz]
  simp only [Option.bind_some]
  unfold isKey
  have e : (s.toList ∈ words) ↔ (s.toList = [66, 69, 71, 73, 78] ∨ s.toList = [112, 114, 105, 110, 116] ∨ s.toList = [105, 102] ∨ s.toList = [101, 108, 115, 101] ∨ s.toList = [119, 104, 105, 108, 101] ∨ s.toList = [110, 101, 120, 116] ∨ s.toList = [100, 101, 108, 101, 116, 101] ∨ s.toList = [78, 82] ∨ s.toList = [78, 70]) := by
    simp only [words, List.mem_cons, List.not_mem_nil, or_false]
  by_cases h : s.toList ∈ words
  · rcases e.1 h with g | g | g | g | g | g | g | g | g <;> (rw [g]; rfl)
  · have h2 := h
    rw [e] at h2
    simp only [not_or] at h2
    obtain ⟨h1, h2, h3, h4, h5, h6, h7, h8, h9⟩ := h2
    rw [if_neg h1, if_neg h2, if_neg h3, if_neg h4, if_neg h5, if_neg h6, if_neg h7, if_neg h8, if_neg h9]
    show some (decide (s.toList ∈ callws)) = _
    simp [h]

theorem bt_nat (s : ByteArray) (i : Nat) (h : i < s.data.toList.length) : bt s (i : Int) = (s.data.toList[i].toNat : Int) := by
  have h' : (i : Int).toNat < s.size := by rw [Int.toNat_natCast, Lib.size_eq]; exact h
  rw [← bt_at s i h']
  rfl
theorem byte_eq (b : UInt8) (n : Nat) (hn : n < 256) : ((b.toNat : Int) = (n : Int)) ↔ b = n.toUInt8 := by
  constructor
  · intro h
    apply UInt8.toNat_inj.1
    rw [Nat.toUInt8_eq, UInt8.toNat_ofNat_of_lt' (by simpa using hn)]
    omega
  · intro h
    rw [h, Nat.toUInt8_eq, UInt8.toNat_ofNat_of_lt' (by simpa using hn)]

theorem line_loop (a : ByteArray) (hl : a.size ≤ 9223372036854775806) (d : Nat) : ∀ i : Nat, a.size - i = d → i ≤ a.size → spec_l9Line.l0v a (i : Int) = some (decide ((10 : UInt8) ∉ a.data.toList.drop i)) := by
  have hs := Lib.size_eq a
  induction d with
  | zero =>
    intro i h1 h2
    rw [spec_l9Line.l0v_eq, if_neg (by omega), List.drop_of_length_le (by omega)]
    simp
  | succ d ih =>
    intro i h1 h2
    have hi : i < a.data.toList.length := by omega
    rw [spec_l9Line.l0v_eq, if_pos (by omega), if_pos (by omega), bt_nat a i hi, wrap_in (by omega) (by omega), show (i : Int) + 1 = ((i + 1 : Nat) : Int) by omega, ih (i + 1) (by omega) (by omega), List.drop_eq_getElem_cons hi]
    have hb : ((a.data.toList[i].toNat : Int) = 10) ↔ a.data.toList[i] = (10 : UInt8) := byte_eq a.data.toList[i] 10 (by omega)
    by_cases h : a.data.toList[i] = (10 : UInt8)
    · rw [if_pos (hb.2 h), h]; simp
    · rw [if_neg (fun e => h (hb.1 e))]
      have h' : ¬ (10 : UInt8) = a.data.toList[i] := fun e => h e.symm
      simp only [List.mem_cons, h', false_or]
theorem line (a : ByteArray) (hl : a.size ≤ 9223372036854775806) : spec_l9Line.fv a = some (decide ((10 : UInt8) ∉ a.data.toList)) := by
  rw [spec_l9Line.fv_eq]
  exact line_loop a hl a.size 0 (by omega) (by omega)
theorem idx1 (c : UInt8) : ∀ l : List UInt8, (0 ≤ Lib.index l [c]) ↔ c ∈ l
  | [] => by simp [Lib.index]
  | b :: l => by
    have ih := idx1 c l
    have hg := Lib.index_ge l [c]
    unfold Lib.index
    by_cases h : c = b
    · subst h; simp [List.isPrefixOf]
    · have h' : (c == b) = false := by simpa using h
      have hp : [c].isPrefixOf (b :: l) = false := by rw [List.isPrefixOf, h']; rfl
      rw [hp, if_neg (by simp), List.mem_cons, ← ih]
      by_cases h2 : Lib.index l [c] = -1
      · rw [h2]; simp [h]
      · have h3 : (Lib.index l [c] == -1) = false := by simpa using h2
        rw [h3, if_neg (by simp)]
        constructor
        · intro _; exact .inr (by omega)
        · rintro (k | k)
          · exact absurd k h
          · omega
theorem cont (a : ByteArray) (hl : a.size ≤ 1048576) : strings_Contains.f a (⟨#[10]⟩ : ByteArray) = some (decide ((10 : UInt8) ∈ a.data.toList)) := by
  unfold strings_Contains.f
  rw [if_pos (by omega)]
  congr 1
  show decide (0 ≤ Lib.index a.data.toList [10]) = _
  rw [decide_eq_decide]
  exact idx1 _ _

/-! ### texts: lines, patterns, names -/
theorem in_s (a lo hi : Int) : spec_l1In.f a lo hi = some (decide (lo ≤ a ∧ a ≤ hi)) := by
  unfold spec_l1In.f
  by_cases h : lo ≤ a
  · rw [if_pos h]; simp [h]
  · rw [if_neg h]; simp [h]
theorem in_i (a lo hi : Int) : impl_in.f a lo hi = some (decide (lo ≤ a ∧ a ≤ hi)) := by
  unfold impl_in.f
  by_cases h : lo ≤ a
  · rw [if_pos h]; simp [h]
  · rw [if_neg h]; simp [h]
def ln (c : ByteArray) : Bool := decide ((10 : UInt8) ∉ c.data.toList)
theorem tokenText (c : ByteArray) (hl : c.size ≤ 1048576) : impl_tokenText.f c = some (ln c) := by
  unfold impl_tokenText.f ln
  rw [cont c hl, Option.bind_some, decide_not]
theorem rex_run (c : ByteArray) (hl : c.size ≤ 1048576) (d : Nat) : ∀ i : Nat, c.size - i ≤ d → i ≤ c.size → ∃ b, spec_l9Rex.l0v c (i : Int) = some b ∧ impl_tokenRex.l0v c (i : Int) = some b := by
  induction d with
  | zero =>
    intro i h1 h2
    refine ⟨ln c, ?_, ?_⟩
    · rw [spec_l9Rex.l0v_eq, if_neg (by omega), line c (by omega)]; rfl
    · rw [impl_tokenRex.l0v_eq, if_neg (by omega), tokenText c hl]; rfl
  | succ d ih =>
    intro i h1 h2
    by_cases hi : i < c.size
    · have w1 : wrap64 ((i : Int) + 1) = ((i + 1 : Nat) : Int) := by rw [wrap_in (by omega) (by omega)]; omega
      have w2 : wrap64 (((i + 1 : Nat) : Int) + 1) = ((i + 2 : Nat) : Int) := by rw [wrap_in (by omega) (by omega)]; omega
      have c1 : (i : Int) < (c.size : Int) := by omega
      have c2 : 0 ≤ (i : Int) := by omega
      rw [spec_l9Rex.l0v_eq, impl_tokenRex.l0v_eq]
      simp only [c1, c2, w1, w2, if_true]
      by_cases h : bt c (i : Int) = 92
      · simp only [h, if_true]
        by_cases e : ((i + 1 : Nat) : Int) = (c.size : Int)
        · simp only [e, if_true]; exact ⟨_, rfl, rfl⟩
        · have c3 : ((i + 1 : Nat) : Int) < (c.size : Int) := by omega
          have c4 : 0 ≤ ((i + 1 : Nat) : Int) := by omega
          simp only [e, c3, c4, if_true, if_false]
          by_cases g : bt c ((i + 1 : Nat) : Int) = 47
          · simp only [g, if_true]; exact ⟨_, rfl, rfl⟩
          · simp only [g, if_false]; exact ih (i + 2) (by omega) (by omega)
      · simp only [h, if_false]; exact ih (i + 1) (by omega) (by omega)
    · refine ⟨ln c, ?_, ?_⟩
      · rw [spec_l9Rex.l0v_eq, if_neg (by omega), line c (by omega)]; rfl
      · rw [impl_tokenRex.l0v_eq, if_neg (by omega), tokenText c hl]; rfl
theorem rex_both (c : ByteArray) (hl : c.size ≤ 1048576) : ∃ b, spec_l9Rex.fv c = some b ∧ impl_tokenRex.fv c = some b := by
  rw [spec_l9Rex.fv_eq, impl_tokenRex.fv_eq]
  exact rex_run c hl c.size 0 (by omega) (by omega)
theorem letter_same (n : Int) : spec_l7Letter.f n = impl_isLetter.f n ∧ ∃ b, impl_isLetter.f n = some b := by
  refine ⟨rfl, ?_⟩
  unfold impl_isLetter.f
  (repeat' split) <;> exact ⟨_, rfl⟩
def nmEnd (c : ByteArray) : Bool := decide (1 ≤ (c.size : Int) ∧ (c.size : Int) ≤ 8) && !isKey c.toList
theorem name_run (c : ByteArray) (hl : c.size ≤ 1048576) (d : Nat) : ∀ i : Nat, c.size - i = d → i ≤ c.size → ∃ (b : Bool) (t : Int), spec_l9Name.l0v c (i : Int) = some (b && nmEnd c) ∧ impl_lettersAt.l0v c 0 (i : Int) = some t ∧ (b = true ↔ t = (c.size : Int)) := by
  induction d with
  | zero =>
    intro i h1 h2
    have e : i = c.size := by omega
    refine ⟨true, i, ?_, ?_, by simp [e]⟩
    · rw [spec_l9Name.l0v_eq, if_neg (by omega), in_s, Option.bind_some, spec_key]
      unfold nmEnd
      by_cases h : 1 ≤ (c.size : Int) ∧ (c.size : Int) ≤ 8
      · rw [decide_eq_true h]; rfl
      · rw [decide_eq_false h]; rfl
    · rw [impl_lettersAt.l0v_eq, Int.zero_add, wrap_in (by omega) (by omega), if_neg (by omega)]
  | succ d ih =>
    intro i h1 h2
    have w1 : wrap64 ((i : Int) + 1) = ((i + 1 : Nat) : Int) := by rw [wrap_in (by omega) (by omega)]; omega
    obtain ⟨b, t, e1, e2, e3⟩ := ih (i + 1) (by omega) (by omega)
    obtain ⟨q1, p, q2⟩ := letter_same (bt c (i : Int))
    rw [spec_l9Name.l0v_eq, impl_lettersAt.l0v_eq, Int.zero_add, wrap_in (n := (i : Int)) (by omega) (by omega), if_pos (by omega), if_pos (by omega), if_pos (by omega), if_pos (by omega), q1, q2, w1]
    simp only [Option.bind_some]
    cases p
    · rw [if_neg (by simp), if_neg (by simp)]
      exact ⟨false, i, rfl, rfl, by simp; omega⟩
    · rw [if_pos rfl, if_pos rfl]
      exact ⟨b, t, e1, e2, e3⟩
theorem name_both (c : ByteArray) (hl : c.size ≤ 1048576) : ∃ b, spec_l9Name.fv c = some b ∧ impl_isName.fv c = some b := by
  rw [spec_l9Name.fv_eq, impl_isName.fv_eq, in_i, impl_lettersAt.fv_eq]
  obtain ⟨b, t, e1, e2, e3⟩ := name_run c hl c.size 0 (by omega) (by omega)
  refine ⟨_, e1, ?_⟩
  have e2' : impl_lettersAt.l0v c 0 0 = some t := e2
  rw [Option.bind_some, e2', Option.bind_some, impl_key, Option.bind_some]
  unfold nmEnd
  by_cases h : 1 ≤ (c.size : Int) ∧ (c.size : Int) ≤ 8
  · rw [decide_eq_true h, if_pos rfl]
    by_cases g : t = (c.size : Int)
    · rw [if_pos g, e3.2 g]; rfl
    · rw [if_neg g]
      have : b = false := by cases b with
        | false => rfl
        | true => exact absurd (e3.1 rfl) g
      rw [this]; rfl
  · rw [decide_eq_false h, if_neg (by simp)]; cases b <;> rfl

/-! ### nodes -/
noncomputable def nb (y : S38) : Bool := (spec_l9Node.fv y.f0 y.f1 y.f2 y.f3).getD false
def eop (y : S38) : Bool := decide (1 ≤ y.f0 ∧ y.f0 ≤ 28)
def sop (y : S38) : Bool := decide (29 ≤ y.f0 ∧ y.f0 ≤ 35)
def bop (y : S38) : Bool := decide (y.f0 = 29)
/-- The program's three readings of a node, by the reference's one. -/
structure Good (y : S38) : Prop where
  sp : spec_l9Node.fv y.f0 y.f1 y.f2 y.f3 = some (nb y)
  e : impl_isE.fv y.f0 y.f1 y.f2 y.f3 = some (nb y && eop y)
  s : impl_isStatement.fv y.f0 y.f1 y.f2 y.f3 = some (nb y && sop y)
  b : impl_isBlock.fv y.f0 y.f1 y.f2 y.f3 = some (nb y && bop y)
theorem good_of (y : S38) (X : Bool) (h1 : spec_l9Node.fv y.f0 y.f1 y.f2 y.f3 = some X) (h2 : impl_isE.fv y.f0 y.f1 y.f2 y.f3 = some (X && eop y))
    (h3 : impl_isStatement.fv y.f0 y.f1 y.f2 y.f3 = some (X && sop y)) (h4 : impl_isBlock.fv y.f0 y.f1 y.f2 y.f3 = some (X && bop y)) : Good y := by
  have e : nb y = X := by unfold nb; rw [h1]; rfl
  exact ⟨by rw [h1, e], by rw [h2, e], by rw [h3, e], by rw [h4, e]⟩
noncomputable def allE (l : List S38) : Bool := l.all fun k => nb k && eop k
noncomputable def allS (l : List S38) : Bool := l.all fun k => nb k && sop k
noncomputable def allB (l : List S38) : Bool := l.all fun k => nb k && bop k
theorem allE_cons (k : S38) (l : List S38) : allE (k :: l) = (nb k && eop k && allE l) := rfl
theorem allS_cons (k : S38) (l : List S38) : allS (k :: l) = (nb k && sop k && allS l) := rfl
theorem allB_cons (k : S38) (l : List S38) : allB (k :: l) = (nb k && bop k && allB l) := rfl
theorem isE_op (n : Int) : spec_l9IsE.f n = some (decide (1 ≤ n ∧ n ≤ 28)) := by
  unfold spec_l9IsE.f
  rw [in_s]; rfl
section
theorem es_run (l : List S38) (hl : l.length ≤ 1048576) (ih : ∀ k, k ∈ l → Good k) (p q : Int) (s : ByteArray) (t : Nat) (ht : t ≤ l.length) (d : Nat) : ∀ i : Nat, t - i = d → i ≤ t → spec_l9Es.l0v (t : Int) (i : Int) p q s l = some (allE ((l.take t).drop i)) := by
  induction d with
  | zero =>
    intro i h1 h2
    rw [spec_l9Es.l0v_eq, if_neg (by omega), List.drop_of_length_le (by simp; omega)]
    rfl
  | succ d ihd =>
    intro i h1 h2
    have hi : i < l.length := by omega
    have hg := ih l[i] (List.getElem_mem hi)
    have hc : (l.take t).drop i = l[i] :: (l.take t).drop (i + 1) := by
      rw [List.drop_eq_getElem_cons (by simp; omega)]; simp
    rw [spec_l9Es.l0v_eq, if_pos (by omega), if_pos (by omega), if_pos (by omega), rd_in2 l i hi, isE_op, hc, allE_cons, wrap_in (by omega) (by omega), show (i : Int) + 1 = ((i + 1 : Nat) : Int) by omega, ihd (i + 1) (by omega) (by omega), hg.sp]
    simp only [Option.bind_some]
    have hq : decide (1 ≤ l[i].f0 ∧ l[i].f0 ≤ 28) = eop l[i] := rfl
    rw [hq]
    cases eop l[i] <;> cases nb l[i] <;> rfl
theorem es_all (l : List S38) (hl : l.length ≤ 1048576) (ih : ∀ k, k ∈ l → Good k) (a b : Int) (c : ByteArray) (t : Nat) (ht : (l.length : Int) = (t : Int)) : spec_l9Es.fv a b c l 0 (t : Int) = some (allE l) := by
  rw [spec_l9Es.fv_eq]
  have := es_run l hl ih a b c t (by omega) t 0 (by omega) (by omega)
  rw [List.drop_zero, List.take_of_length_le (by omega)] at this
  exact this
theorem es_one (l : List S38) (hl : l.length ≤ 1048576) (ih : ∀ k, k ∈ l → Good k) (a b : Int) (c : ByteArray) (ht : 1 ≤ l.length) : spec_l9Es.fv a b c l 0 1 = some (allE (l.take 1)) := by
  rw [spec_l9Es.fv_eq]
  have := es_run l hl ih a b c 1 ht 1 0 (by omega) (by omega)
  rw [List.drop_zero] at this
  exact this
theorem bs_run (l : List S38) (hl : l.length ≤ 1048576) (ih : ∀ k, k ∈ l → Good k) (p q : Int) (s : ByteArray) (d : Nat) : ∀ i : Nat, l.length - i = d → i ≤ l.length → spec_l9Blocks.l0v (i : Int) p q s l = some (allB (l.drop i)) := by
  induction d with
  | zero =>
    intro i h1 h2
    rw [spec_l9Blocks.l0v_eq, if_neg (by omega), List.drop_of_length_le (by omega)]
    rfl
  | succ d ihd =>
    intro i h1 h2
    have hi : i < l.length := by omega
    have hg := ih l[i] (List.getElem_mem hi)
    rw [spec_l9Blocks.l0v_eq, if_pos (by omega), if_pos (by omega), rd_in2 l i hi, List.drop_eq_getElem_cons hi, allB_cons, wrap_in (by omega) (by omega), show (i : Int) + 1 = ((i + 1 : Nat) : Int) by omega, ihd (i + 1) (by omega) (by omega), hg.sp]
    simp only [Option.bind_some]
    have hq : bop l[i] = decide (l[i].f0 = 29) := rfl
    rw [hq]
    by_cases h : l[i].f0 = 29
    · rw [if_pos h, decide_eq_true h]; cases nb l[i] <;> rfl
    · rw [if_neg h, decide_eq_false h]; cases nb l[i] <;> rfl
theorem ss_run (l : List S38) (hl : l.length ≤ 1048576) (ih : ∀ k, k ∈ l → Good k) (p q : Int) (s : ByteArray) (d : Nat) : ∀ i : Nat, l.length - i = d → i ≤ l.length → spec_l9Kids.l0v (l.length : Int) (i : Int) p q s l = some (allS (l.drop i)) := by
  induction d with
  | zero =>
    intro i h1 h2
    rw [spec_l9Kids.l0v_eq, if_neg (by omega), List.drop_of_length_le (by omega)]
    rfl
  | succ d ihd =>
    intro i h1 h2
    have hi : i < l.length := by omega
    have hg := ih l[i] (List.getElem_mem hi)
    rw [spec_l9Kids.l0v_eq, if_pos (by omega), if_pos (by omega), if_pos (by omega), rd_in2 l i hi, in_s, List.drop_eq_getElem_cons hi, allS_cons, wrap_in (by omega) (by omega), show (i : Int) + 1 = ((i + 1 : Nat) : Int) by omega, ihd (i + 1) (by omega) (by omega), hg.sp]
    simp only [Option.bind_some]
    have hq : decide (29 ≤ l[i].f0 ∧ l[i].f0 ≤ 35) = sop l[i] := rfl
    rw [hq]
    cases sop l[i] <;> cases nb l[i] <;> rfl
theorem ie_run (l : List S38) (hl : l.length ≤ 1048576) (ih : ∀ k, k ∈ l → Good k) (d : Nat) : ∀ i : Nat, l.length - i = d → i ≤ l.length → ∃ t, slices_IndexFunc_impl_Node_impl_Node__impl_allEs_1.l0v l (l.length : Int) (i : Int) = some t ∧ decide (t ≥ 0) = !(allE (l.drop i)) := by
  induction d with
  | zero =>
    intro i h1 h2
    rw [slices_IndexFunc_impl_Node_impl_Node__impl_allEs_1.l0v_eq, if_neg (by omega), List.drop_of_length_le (by omega)]
    exact ⟨-1, rfl, rfl⟩
  | succ d ihd =>
    intro i h1 h2
    have hi : i < l.length := by omega
    have hg := ih l[i] (List.getElem_mem hi)
    obtain ⟨t, e1, e2⟩ := ihd (i + 1) (by omega) (by omega)
    rw [slices_IndexFunc_impl_Node_impl_Node__impl_allEs_1.l0v_eq, if_pos (by omega), if_pos (by omega), if_pos (by omega), rd_in2 l i hi, impl_allEs_1.fv_eq, hg.e, List.drop_eq_getElem_cons hi, allE_cons, wrap_in (by omega) (by omega), show (i : Int) + 1 = ((i + 1 : Nat) : Int) by omega, e1]
    simp only [Option.bind_some]
    cases hq : (nb l[i] && eop l[i])
    · exact ⟨i, rfl, by simp⟩
    · exact ⟨t, rfl, by rw [e2]; rfl⟩
theorem ie_all (l : List S38) (hl : l.length ≤ 1048576) (ih : ∀ k, k ∈ l → Good k) : impl_allEs.fv l = some (allE l) := by
  rw [impl_allEs.fv_eq, slices_ContainsFunc_impl_Node_impl_Node__impl_allEs_1.fv_eq, slices_IndexFunc_impl_Node_impl_Node__impl_allEs_1.fv_eq]
  obtain ⟨t, e1, e2⟩ := ie_run l hl ih l.length 0 (by omega) (by omega)
  have e1' : slices_IndexFunc_impl_Node_impl_Node__impl_allEs_1.l0v l (l.length : Int) 0 = some t := e1
  rw [List.drop_zero] at e2
  rw [e1', Option.bind_some, Option.bind_some, e2, Bool.not_not]
theorem is_run (l : List S38) (hl : l.length ≤ 1048576) (ih : ∀ k, k ∈ l → Good k) (d : Nat) : ∀ i : Nat, l.length - i = d → i ≤ l.length → ∃ t, slices_IndexFunc_impl_Node_impl_Node__impl_isBlock_1.l0v l (l.length : Int) (i : Int) = some t ∧ decide (t ≥ 0) = !(allS (l.drop i)) := by
  induction d with
  | zero =>
    intro i h1 h2
    rw [slices_IndexFunc_impl_Node_impl_Node__impl_isBlock_1.l0v_eq, if_neg (by omega), List.drop_of_length_le (by omega)]
    exact ⟨-1, rfl, rfl⟩
  | succ d ihd =>
    intro i h1 h2
    have hi : i < l.length := by omega
    have hg := ih l[i] (List.getElem_mem hi)
    obtain ⟨t, e1, e2⟩ := ihd (i + 1) (by omega) (by omega)
    rw [slices_IndexFunc_impl_Node_impl_Node__impl_isBlock_1.l0v_eq, if_pos (by omega), if_pos (by omega), if_pos (by omega), rd_in2 l i hi, impl_isBlock_1.fv_eq, hg.s, List.drop_eq_getElem_cons hi, allS_cons, wrap_in (by omega) (by omega), show (i : Int) + 1 = ((i + 1 : Nat) : Int) by omega, e1]
    simp only [Option.bind_some]
    cases hq : (nb l[i] && sop l[i])
    · exact ⟨i, rfl, by simp⟩
    · exact ⟨t, rfl, by rw [e2]; rfl⟩
theorem is_all (l : List S38) (hl : l.length ≤ 1048576) (ih : ∀ k, k ∈ l → Good k) : slices_ContainsFunc_impl_Node_impl_Node__impl_isBlock_1.fv l = some (!(allS l)) := by
  rw [slices_ContainsFunc_impl_Node_impl_Node__impl_isBlock_1.fv_eq, slices_IndexFunc_impl_Node_impl_Node__impl_isBlock_1.fv_eq]
  obtain ⟨t, e1, e2⟩ := is_run l hl ih l.length 0 (by omega) (by omega)
  have e1' : slices_IndexFunc_impl_Node_impl_Node__impl_isBlock_1.l0v l (l.length : Int) 0 = some t := e1
  rw [List.drop_zero] at e2
  rw [e1', Option.bind_some, e2]
end

theorem plain_i (a b : Int) (c : ByteArray) (l : List S38) : impl_plainNode.f a b c l = some (decide (b = 0) && decide (c.toList = [])) := by
  unfold impl_plainNode.f
  have e0 : (⟨#[]⟩ : ByteArray).toList = [] := by
    unfold ByteArray.toList; unfold ByteArray.toList.loop; rfl
  rw [e0]
  by_cases h : b = 0
  · rw [if_pos h, decide_eq_true h]
    by_cases g : c.toList = []
    · rw [g]; rfl
    · rw [decide_eq_false g]
      have : (c.toList == ([] : List UInt8)) = false := by simpa using g
      rw [this]; rfl
  · rw [if_neg h, decide_eq_false h]; rfl
theorem calls_s (c : ByteArray) : ((spec_l7Calls.f).bind fun t => ((spec_l7Within.fv t c).bind fun u => (some u))) = some (decide (c.toList ∈ callws)) := by
  simp only [spec_l7Calls.f, Option.bind_some]
  rw [within _ _ (by simp)]
  simp only [List.map_cons, List.map_nil, Go.ByteArray.toList_mk, Option.bind_some]
  rfl
theorem calls_i (c : ByteArray) (K : Bool → Option Bool) : ((impl_calls.f).bind fun t => ((slices_Contains_string_string.fv t c).bind fun u => K u)) = K (decide (c.toList ∈ callws)) := by
  simp only [impl_calls.f, Option.bind_some]
  rw [contains _ _ (by simp)]
  simp only [List.map_cons, List.map_nil, Go.ByteArray.toList_mk, Option.bind_some]
  rfl
theorem len0 (l : List S38) : ((l.length : Int) == 0) = decide (l = []) := by
  cases l with
  | nil => rfl
  | cons k l =>
    rw [decide_eq_false (by simp)]
    simp only [beq_eq_false_iff_ne, List.length_cons]
    omega
theorem all_nil {l : List S38} (h : (l.length : Int) = 0) : allE l = true := by
  have : l = [] := List.eq_nil_of_length_eq_zero (by omega)
  subst this
  rfl
section
/-- A node whose text must be none, by its kids. -/
theorem node_plain (a : Int) (b : Int) (c : ByteArray) (l : List S38) (K : Bool) (hK : spec_l9Kids.fv a b c l = some K) (h0 : 1 ≤ a) (h1 : a ≤ 35) (n1 : a ≠ 1) (n2 : a ≠ 2) (n3 : a ≠ 3) (n4 : a ≠ 4) (n5 : a ≠ 5) (n6 : a ≠ 34) (n7 : a ≠ 28) :
    spec_l9Node.fv a b c l = some (decide (b = 0) && decide (c.toList = []) && K) := by
  rw [spec_l9Node.fv_eq, hK]
  cases K <;> by_cases hb : b = 0 <;> by_cases hg : c.toList = [] <;> simp [spec_l9Node.j0v_eq, spec_l9Node.j1v_eq, in_s, h0, h1, n1, n2, n3, n4, n5, n6, n7, hb, hg]
/-- Nodes with one kid and nothing else. -/
theorem one_kid (a : Int) (b : Int) (c : ByteArray) (l : List S38) (hl : l.length ≤ 1048576) (ih : ∀ k, k ∈ l → Good k) (ha : a = 6 ∨ a = 22 ∨ a = 23) : Good ⟨a, b, c, l⟩ := by
  have h2 := ie_all l hl ih
  have hK : spec_l9Kids.fv a b c l = some (decide ((l.length : Int) = 1) && allE l) := by
    rw [spec_l9Kids.fv_eq]
    by_cases hk : (l.length : Int) = 1
    · have hs := es_all l hl ih a b c 1 hk
      rcases ha with rfl | rfl | rfl <;> simp [spec_l9Kids.j0v_eq, hk] <;> exact hs
    · rcases ha with rfl | rfl | rfl <;> simp [spec_l9Kids.j0v_eq, hk]
  refine good_of _ _ (node_plain a b c l _ hK (by omega) (by omega) (by omega) (by omega) (by omega) (by omega) (by omega) (by omega) (by omega)) ?_ ?_ ?_
  · show impl_isE.fv a b c l = _
    rw [impl_isE.fv_eq]
    by_cases hk : (l.length : Int) = 1 <;> by_cases hb : b = 0 <;> by_cases hg : c.toList = [] <;> rcases ha with rfl | rfl | rfl <;> simp [impl_isE.j0v_eq, impl_isE.j1v_eq, plain_i, h2, hk, hb, hg, eop]
  · show impl_isStatement.fv a b c l = _
    rw [impl_isStatement.fv_eq]
    rcases ha with rfl | rfl | rfl <;> simp [sop]
  · show impl_isBlock.fv a b c l = _
    rw [impl_isBlock.fv_eq]
    rcases ha with rfl | rfl | rfl <;> simp [bop]
end

section
theorem two_kid (a : Int) (b : Int) (c : ByteArray) (l : List S38) (hl : l.length ≤ 1048576) (ih : ∀ k, k ∈ l → Good k) (ha : a = 9 ∨ a = 10 ∨ a = 11 ∨ a = 12 ∨ a = 13 ∨ a = 14 ∨ a = 15 ∨ a = 16 ∨ a = 17 ∨ a = 18 ∨ a = 19 ∨ a = 20 ∨ a = 21 ∨ a = 24 ∨ a = 25) : Good ⟨a, b, c, l⟩ := by
  have h2 := ie_all l hl ih
  have hK : spec_l9Kids.fv a b c l = some (decide ((l.length : Int) = 2) && allE l) := by
    rw [spec_l9Kids.fv_eq]
    by_cases hk : (l.length : Int) = 2
    · have hs := es_all l hl ih a b c 2 hk
      rcases ha with rfl | rfl | rfl | rfl | rfl | rfl | rfl | rfl | rfl | rfl | rfl | rfl | rfl | rfl | rfl <;> simp [spec_l9Kids.j0v_eq, spec_l9Kids.j1v_eq, hk] <;> exact hs
    · rcases ha with rfl | rfl | rfl | rfl | rfl | rfl | rfl | rfl | rfl | rfl | rfl | rfl | rfl | rfl | rfl <;> simp [spec_l9Kids.j0v_eq, spec_l9Kids.j1v_eq, hk]
  refine good_of _ _ (node_plain a b c l _ hK (by omega) (by omega) (by omega) (by omega) (by omega) (by omega) (by omega) (by omega) (by omega)) ?_ ?_ ?_
  · show impl_isE.fv a b c l = _
    rw [impl_isE.fv_eq]
    by_cases hk : (l.length : Int) = 2 <;> by_cases hb : b = 0 <;> by_cases hg : c.toList = [] <;> rcases ha with rfl | rfl | rfl | rfl | rfl | rfl | rfl | rfl | rfl | rfl | rfl | rfl | rfl | rfl | rfl <;> simp [impl_isE.j0v_eq, impl_isE.j1v_eq, impl_isE.j2v_eq, in_i, plain_i, h2, hk, hb, hg, eop]
  · show impl_isStatement.fv a b c l = _
    rw [impl_isStatement.fv_eq]
    rcases ha with rfl | rfl | rfl | rfl | rfl | rfl | rfl | rfl | rfl | rfl | rfl | rfl | rfl | rfl | rfl <;> simp [sop]
  · show impl_isBlock.fv a b c l = _
    rw [impl_isBlock.fv_eq]
    rcases ha with rfl | rfl | rfl | rfl | rfl | rfl | rfl | rfl | rfl | rfl | rfl | rfl | rfl | rfl | rfl <;> simp [bop]
theorem no_kid (a : Int) (b : Int) (c : ByteArray) (l : List S38) (hl : l.length ≤ 1048576) (ih : ∀ k, k ∈ l → Good k) (ha : a = 7 ∨ a = 8) : Good ⟨a, b, c, l⟩ := by
  have h2 := ie_all l hl ih
  have h3 : (l.length : Int) = 0 → allE l = true := all_nil
  have hK : spec_l9Kids.fv a b c l = some (decide ((l.length : Int) = 0)) := by
    rw [spec_l9Kids.fv_eq]
    rcases ha with rfl | rfl <;> simp [spec_l9Kids.j0v_eq, spec_l9Kids.j1v_eq, spec_l9Kids.j2v_eq, spec_l9Kids.j3v_eq, len0]
  refine good_of _ _ (node_plain a b c l _ hK (by omega) (by omega) (by omega) (by omega) (by omega) (by omega) (by omega) (by omega) (by omega)) ?_ ?_ ?_
  · show impl_isE.fv a b c l = _
    rw [impl_isE.fv_eq, ]
    by_cases hk : (l.length : Int) = 0
    · have h4 := h3 hk
      by_cases hb : b = 0 <;> by_cases hg : c.toList = [] <;> rcases ha with rfl | rfl <;> simp [impl_isE.j0v_eq, plain_i, h2, h4, hk, hb, hg, eop]
    · have hk' : l ≠ [] := fun h => hk (by rw [h]; rfl)
      by_cases hb : b = 0 <;> by_cases hg : c.toList = [] <;> rcases ha with rfl | rfl <;> simp [impl_isE.j0v_eq, plain_i, h2, hk', hb, hg, eop]
  · show impl_isStatement.fv a b c l = _
    rw [impl_isStatement.fv_eq]
    rcases ha with rfl | rfl <;> simp [sop]
  · show impl_isBlock.fv a b c l = _
    rw [impl_isBlock.fv_eq]
    rcases ha with rfl | rfl <;> simp [bop]
theorem set_kid (a : Int) (b : Int) (c : ByteArray) (l : List S38) (hl : l.length ≤ 1048576) (ih : ∀ k, k ∈ l → Good k) (ha : a = 26 ∨ a = 27) : Good ⟨a, b, c, l⟩ := by
  have h2 := ie_all l hl ih
  have hK : spec_l9Kids.fv a b c l = some (decide ((l.length : Int) = 2) && (decide ((rd_T38 l 0).f0 = 4 ∨ (rd_T38 l 0).f0 = 5) && allE l)) := by
    rw [spec_l9Kids.fv_eq]
    by_cases hk : (l.length : Int) = 2
    · have hs := es_all l hl ih a b c 2 hk
      have hp : 0 < (l.length : Int) := by omega
      have hs' : spec_l9Es.fv a b c l 0 2 = some (allE l) := hs
      by_cases h4 : (rd_T38 l 0).f0 = 4
      · rcases ha with rfl | rfl <;> simp [spec_l9Kids.j0v_eq, spec_l9Kids.j1v_eq, spec_l9Kids.j2v_eq, hk, h4, hs']
      · by_cases h5 : (rd_T38 l 0).f0 = 5
        · rcases ha with rfl | rfl <;> simp [spec_l9Kids.j0v_eq, spec_l9Kids.j1v_eq, spec_l9Kids.j2v_eq, hk, h5, hs']
        · rcases ha with rfl | rfl <;> simp [spec_l9Kids.j0v_eq, spec_l9Kids.j1v_eq, spec_l9Kids.j2v_eq, hk, h4, h5]
    · rcases ha with rfl | rfl <;> simp [spec_l9Kids.j0v_eq, spec_l9Kids.j1v_eq, spec_l9Kids.j2v_eq, hk]
  refine good_of _ _ (node_plain a b c l _ hK (by omega) (by omega) (by omega) (by omega) (by omega) (by omega) (by omega) (by omega) (by omega)) ?_ ?_ ?_
  · show impl_isE.fv a b c l = _
    rw [impl_isE.fv_eq]
    by_cases hk : (l.length : Int) = 2
    · have hp : 0 < (l.length : Int) := by omega
      by_cases h4 : (rd_T38 l 0).f0 = 4
      · by_cases hb : b = 0 <;> by_cases hg : c.toList = [] <;> rcases ha with rfl | rfl <;> simp [impl_isE.j0v_eq, impl_isE.j1v_eq, impl_isE.j2v_eq, plain_i, h2, hk, hb, hg, h4, eop]
      · by_cases h5 : (rd_T38 l 0).f0 = 5
        · by_cases hb : b = 0 <;> by_cases hg : c.toList = [] <;> rcases ha with rfl | rfl <;> simp [impl_isE.j0v_eq, impl_isE.j1v_eq, impl_isE.j2v_eq, plain_i, h2, hk, hb, hg, h5, eop]
        · by_cases hb : b = 0 <;> by_cases hg : c.toList = [] <;> rcases ha with rfl | rfl <;> simp [impl_isE.j0v_eq, impl_isE.j1v_eq, impl_isE.j2v_eq, plain_i, h2, hk, hb, hg, h4, h5, eop]
    · by_cases hb : b = 0 <;> by_cases hg : c.toList = [] <;> rcases ha with rfl | rfl <;> simp [impl_isE.j0v_eq, impl_isE.j1v_eq, impl_isE.j2v_eq, plain_i, h2, hk, hb, hg, eop]
  · show impl_isStatement.fv a b c l = _
    rw [impl_isStatement.fv_eq]
    rcases ha with rfl | rfl <;> simp [sop]
  · show impl_isBlock.fv a b c l = _
    rw [impl_isBlock.fv_eq]
    rcases ha with rfl | rfl <;> simp [bop]
theorem call_kid (b : Int) (c : ByteArray) (l : List S38) (hl : l.length ≤ 1048576) (ih : ∀ k, k ∈ l → Good k) : Good ⟨28, b, c, l⟩ := by
  have h2 := ie_all l hl ih
  have hs := es_all l hl ih 28 b c l.length rfl
  have hK : spec_l9Kids.fv 28 b c l = some (allE l) := by
    rw [spec_l9Kids.fv_eq]
    simp [spec_l9Kids.j0v_eq, spec_l9Kids.j1v_eq, spec_l9Kids.j2v_eq, spec_l9Kids.j3v_eq, hs]
  refine good_of _ (decide (b = 0) && decide (c.toList ∈ callws) && allE l) ?_ ?_ ?_ ?_
  · show spec_l9Node.fv 28 b c l = _
    rw [spec_l9Node.fv_eq, hK]
    have hcs := calls_s c
    cases hE : allE l <;> by_cases hb : b = 0 <;> simp [spec_l9Node.j0v_eq, spec_l9Node.j1v_eq, in_s, hb] <;> simpa using hcs
  · show impl_isE.fv 28 b c l = _
    rw [impl_isE.fv_eq]
    simp only [impl_isE.j0v_eq, impl_isE.j1v_eq, impl_isE.j2v_eq, calls_i, h2]
    by_cases hb : b = 0 <;> by_cases hg : c.toList ∈ callws <;> simp [hb, hg, eop]
  · show impl_isStatement.fv 28 b c l = _
    rw [impl_isStatement.fv_eq]
    simp [sop]
  · show impl_isBlock.fv 28 b c l = _
    rw [impl_isBlock.fv_eq]
    simp [bop]
theorem print_kid (b : Int) (c : ByteArray) (l : List S38) (hl : l.length ≤ 1048576) (ih : ∀ k, k ∈ l → Good k) : Good ⟨30, b, c, l⟩ := by
  have h2 := ie_all l hl ih
  have hs := es_all l hl ih 30 b c l.length rfl
  have hK : spec_l9Kids.fv 30 b c l = some (allE l) := by
    rw [spec_l9Kids.fv_eq]
    simp [spec_l9Kids.j0v_eq, spec_l9Kids.j1v_eq, spec_l9Kids.j2v_eq, spec_l9Kids.j3v_eq, hs]
  refine good_of _ _ (node_plain 30 b c l _ hK (by omega) (by omega) (by omega) (by omega) (by omega) (by omega) (by omega) (by omega) (by omega)) ?_ ?_ ?_
  · show impl_isE.fv 30 b c l = _
    rw [impl_isE.fv_eq]
    simp [impl_isE.j0v_eq, impl_isE.j1v_eq, impl_isE.j2v_eq, in_i, eop]
  · show impl_isStatement.fv 30 b c l = _
    rw [impl_isStatement.fv_eq]
    by_cases hb : b = 0 <;> by_cases hg : c.toList = [] <;> simp [plain_i, h2, hb, hg, sop]
  · show impl_isBlock.fv 30 b c l = _
    rw [impl_isBlock.fv_eq]
    simp [bop]
theorem block_kid (b : Int) (c : ByteArray) (l : List S38) (hl : l.length ≤ 1048576) (ih : ∀ k, k ∈ l → Good k) : Good ⟨29, b, c, l⟩ := by
  have h2 := is_all l hl ih
  have hs : spec_l9Kids.l0v (l.length : Int) 0 29 b c l = some (allS l) := by
    have := ss_run l hl ih 29 b c l.length 0 (by omega) (by omega)
    rwa [List.drop_zero] at this
  have hK : spec_l9Kids.fv 29 b c l = some (allS l) := by
    rw [spec_l9Kids.fv_eq]
    simp [spec_l9Kids.j0v_eq, spec_l9Kids.j1v_eq, spec_l9Kids.j2v_eq, spec_l9Kids.j3v_eq, hs]
  have hB : impl_isBlock.fv 29 b c l = some (decide (b = 0) && decide (c.toList = []) && allS l) := by
    rw [impl_isBlock.fv_eq]
    by_cases hb : b = 0 <;> by_cases hg : c.toList = [] <;> simp [plain_i, h2, hb, hg]
  refine good_of _ _ (node_plain 29 b c l _ hK (by omega) (by omega) (by omega) (by omega) (by omega) (by omega) (by omega) (by omega) (by omega)) ?_ ?_ ?_
  · show impl_isE.fv 29 b c l = _
    rw [impl_isE.fv_eq]
    simp [impl_isE.j0v_eq, impl_isE.j1v_eq, impl_isE.j2v_eq, in_i, eop]
  · show impl_isStatement.fv 29 b c l = _
    rw [impl_isStatement.fv_eq, hB]
    simp [sop]
  · show impl_isBlock.fv 29 b c l = _
    rw [hB]
    simp [bop]
theorem next_kid (b : Int) (c : ByteArray) (l : List S38) (hl : l.length ≤ 1048576) (ih : ∀ k, k ∈ l → Good k) : Good ⟨33, b, c, l⟩ := by
  have _ := hl
  have _ := ih
  have hK : spec_l9Kids.fv 33 b c l = some (decide ((l.length : Int) = 0)) := by
    rw [spec_l9Kids.fv_eq]
    simp [spec_l9Kids.j0v_eq, spec_l9Kids.j1v_eq, spec_l9Kids.j2v_eq, spec_l9Kids.j3v_eq, len0]
  refine good_of _ _ (node_plain 33 b c l _ hK (by omega) (by omega) (by omega) (by omega) (by omega) (by omega) (by omega) (by omega) (by omega)) ?_ ?_ ?_
  · show impl_isE.fv 33 b c l = _
    rw [impl_isE.fv_eq]
    simp [impl_isE.j0v_eq, impl_isE.j1v_eq, impl_isE.j2v_eq, in_i, eop]
  · show impl_isStatement.fv 33 b c l = _
    rw [impl_isStatement.fv_eq]
    by_cases hb : b = 0 <;> by_cases hg : c.toList = [] <;> simp [plain_i, len0, hb, hg, sop]
  · show impl_isBlock.fv 33 b c l = _
    rw [impl_isBlock.fv_eq]
    simp [bop]
end

section
theorem do_kid (b : Int) (c : ByteArray) (l : List S38) (hl : l.length ≤ 1048576) (ih : ∀ k, k ∈ l → Good k) : Good ⟨35, b, c, l⟩ := by
  have hK : spec_l9Kids.fv 35 b c l = some (decide ((l.length : Int) = 1) && allE l) := by
    rw [spec_l9Kids.fv_eq]
    by_cases hk : (l.length : Int) = 1
    · have hs := es_all l hl ih 35 b c 1 hk
      simp [spec_l9Kids.j0v_eq, hk]; exact hs
    · simp [spec_l9Kids.j0v_eq, hk]
  refine good_of _ _ (node_plain 35 b c l _ hK (by omega) (by omega) (by omega) (by omega) (by omega) (by omega) (by omega) (by omega) (by omega)) ?_ ?_ ?_
  · show impl_isE.fv 35 b c l = _
    rw [impl_isE.fv_eq]
    simp [impl_isE.j0v_eq, impl_isE.j1v_eq, impl_isE.j2v_eq, in_i, eop]
  · show impl_isStatement.fv 35 b c l = _
    rw [impl_isStatement.fv_eq]
    by_cases hk : (l.length : Int) = 1
    · have hp : 0 < l.length := by omega
      have hg0 := (ih l[0] (List.getElem_mem hp)).e
      have hr := rd_in2 l 0 hp
      have hr' : rd_T38 l 0 = l[0] := hr
      have hE : allE l = (nb l[0] && eop l[0]) := by
        obtain ⟨k, hk2⟩ := List.length_eq_one_iff.1 (by omega : l.length = 1)
        subst hk2
        rw [allE_cons]
        simp [allE]
      by_cases hb : b = 0 <;> by_cases hg : c.toList = [] <;> simp [plain_i, hk, hb, hg, sop, hr', hg0, hE]
    · by_cases hb : b = 0 <;> by_cases hg : c.toList = [] <;> simp [plain_i, hk, hb, hg, sop]
  · show impl_isBlock.fv 35 b c l = _
    rw [impl_isBlock.fv_eq]
    simp [bop]
theorem num_kid (b : Int) (c : ByteArray) (l : List S38) (hc : c.size ≤ 1048576) (hl : l.length ≤ 1048576) (ih : ∀ k, k ∈ l → Good k) : Good ⟨1, b, c, l⟩ := by
  have _ := hl
  have _ := ih
  have h2 := ie_all l hl ih
  refine good_of _ (decide (0 ≤ b ∧ b ≤ 9000000000000) && decide (c.toList = []) && decide (l = [])) ?_ ?_ ?_ ?_
  · show spec_l9Node.fv 1 b c l = _
    rw [spec_l9Node.fv_eq, spec_l9Kids.fv_eq]
    by_cases hk : l = [] <;> by_cases hb : b = 0 <;> by_cases hg : c.toList = [] <;> by_cases hr : 0 ≤ b ∧ b ≤ 9000000000000 <;> simp [spec_l9Kids.j0v_eq, spec_l9Kids.j1v_eq, spec_l9Kids.j2v_eq, spec_l9Kids.j3v_eq, spec_l9Node.j0v_eq, in_s, len0, hk, hb, hg, hr]
  · show impl_isE.fv 1 b c l = _
    rw [impl_isE.fv_eq]
    by_cases hk : l = []
    · have h4 : allE l = true := by rw [hk]; rfl
      by_cases hg : c.toList = [] <;> by_cases hr : 0 ≤ b ∧ b ≤ 9000000000000 <;> simp [in_i, h2, h4, hk, hg, hr, eop]
      all_goals simp_all
    · by_cases hg : c.toList = [] <;> by_cases hr : 0 ≤ b ∧ b ≤ 9000000000000 <;> simp [in_i, h2, hk, hg, hr, eop]
  · show impl_isStatement.fv 1 b c l = _
    rw [impl_isStatement.fv_eq]
    simp [sop]
  · show impl_isBlock.fv 1 b c l = _
    rw [impl_isBlock.fv_eq]
    simp [bop]
theorem text_kid (b : Int) (c : ByteArray) (l : List S38) (hc : c.size ≤ 1048576) (hl : l.length ≤ 1048576) (ih : ∀ k, k ∈ l → Good k) : Good ⟨2, b, c, l⟩ := by
  have h2 := ie_all l hl ih
  have ht := tokenText c (by omega)
  have hs : spec_l9Line.fv c = some (ln c) := line c (by omega)
  refine good_of _ (decide (b = 0) && ln c && decide (l = [])) ?_ ?_ ?_ ?_
  · show spec_l9Node.fv 2 b c l = _
    rw [spec_l9Node.fv_eq, spec_l9Kids.fv_eq]
    by_cases hk : l = [] <;> by_cases hb : b = 0 <;> cases hg : ln c <;> simp [spec_l9Kids.j0v_eq, spec_l9Kids.j1v_eq, spec_l9Kids.j2v_eq, spec_l9Kids.j3v_eq, spec_l9Node.j0v_eq, in_s, len0, hk, hb, hg, hs]
  · show impl_isE.fv 2 b c l = _
    rw [impl_isE.fv_eq]
    by_cases hk : l = []
    · have h4 : impl_allEs.fv ([] : List S38) = some true := by rw [hk] at h2; exact h2
      by_cases hb : b = 0 <;> cases hg : ln c <;> simp [ht, h4, hk, hb, hg, eop]
    · by_cases hb : b = 0 <;> cases hg : ln c <;> simp [ht, hk, hb, hg, eop]
  · show impl_isStatement.fv 2 b c l = _
    rw [impl_isStatement.fv_eq]
    simp [sop]
  · show impl_isBlock.fv 2 b c l = _
    rw [impl_isBlock.fv_eq]
    simp [bop]
theorem rex_kid (b : Int) (c : ByteArray) (l : List S38) (hc : c.size ≤ 1048576) (hl : l.length ≤ 1048576) (ih : ∀ k, k ∈ l → Good k) : Good ⟨3, b, c, l⟩ := by
  have h2 := ie_all l hl ih
  obtain ⟨x, hs, ht⟩ := rex_both c hc
  refine good_of _ (decide (b = 0) && x && decide (l = [])) ?_ ?_ ?_ ?_
  · show spec_l9Node.fv 3 b c l = _
    rw [spec_l9Node.fv_eq, spec_l9Kids.fv_eq]
    by_cases hk : l = [] <;> by_cases hb : b = 0 <;> cases x <;> simp [spec_l9Kids.j0v_eq, spec_l9Kids.j1v_eq, spec_l9Kids.j2v_eq, spec_l9Kids.j3v_eq, spec_l9Node.j0v_eq, in_s, len0, hk, hb, hs]
  · show impl_isE.fv 3 b c l = _
    rw [impl_isE.fv_eq]
    by_cases hk : l = []
    · have h4 : impl_allEs.fv ([] : List S38) = some true := by rw [hk] at h2; exact h2
      by_cases hb : b = 0 <;> cases x <;> simp [ht, h4, hk, hb, eop]
    · by_cases hb : b = 0 <;> cases x <;> simp [ht, hk, hb, eop]
  · show impl_isStatement.fv 3 b c l = _
    rw [impl_isStatement.fv_eq]
    simp [sop]
  · show impl_isBlock.fv 3 b c l = _
    rw [impl_isBlock.fv_eq]
    simp [bop]
theorem var_kid (b : Int) (c : ByteArray) (l : List S38) (hc : c.size ≤ 1048576) (hl : l.length ≤ 1048576) (ih : ∀ k, k ∈ l → Good k) : Good ⟨4, b, c, l⟩ := by
  have h2 := ie_all l hl ih
  obtain ⟨x, hs, ht⟩ := name_both c hc
  refine good_of _ (decide (b = 0) && x && decide (l = [])) ?_ ?_ ?_ ?_
  · show spec_l9Node.fv 4 b c l = _
    rw [spec_l9Node.fv_eq, spec_l9Kids.fv_eq]
    by_cases hk : l = [] <;> by_cases hb : b = 0 <;> cases x <;> simp [spec_l9Kids.j0v_eq, spec_l9Kids.j1v_eq, spec_l9Kids.j2v_eq, spec_l9Kids.j3v_eq, spec_l9Node.j0v_eq, spec_l9Node.j1v_eq, in_s, len0, hk, hb, hs]
  · show impl_isE.fv 4 b c l = _
    rw [impl_isE.fv_eq]
    by_cases hk : l = []
    · have h4 : impl_allEs.fv ([] : List S38) = some true := by rw [hk] at h2; exact h2
      by_cases hb : b = 0 <;> cases x <;> simp [ht, h4, hk, hb, eop]
    · by_cases hb : b = 0 <;> cases x <;> simp [ht, hk, hb, eop]
  · show impl_isStatement.fv 4 b c l = _
    rw [impl_isStatement.fv_eq]
    simp [sop]
  · show impl_isBlock.fv 4 b c l = _
    rw [impl_isBlock.fv_eq]
    simp [bop]
theorem cell_kid (b : Int) (c : ByteArray) (l : List S38) (hc : c.size ≤ 1048576) (hl : l.length ≤ 1048576) (ih : ∀ k, k ∈ l → Good k) : Good ⟨5, b, c, l⟩ := by
  have h2 := ie_all l hl ih
  obtain ⟨x, hs, ht⟩ := name_both c hc
  have hK : spec_l9Kids.fv 5 b c l = some (decide ((l.length : Int) = 1) && allE l) := by
    rw [spec_l9Kids.fv_eq]
    by_cases hk : (l.length : Int) = 1
    · have hs := es_all l hl ih 5 b c 1 hk
      simp [spec_l9Kids.j0v_eq, hk]; exact hs
    · simp [spec_l9Kids.j0v_eq, hk]
  refine good_of _ (decide (b = 0) && x && (decide ((l.length : Int) = 1) && allE l)) ?_ ?_ ?_ ?_
  · show spec_l9Node.fv 5 b c l = _
    rw [spec_l9Node.fv_eq, hK]
    cases hq : (decide ((l.length : Int) = 1) && allE l) <;> by_cases hb : b = 0 <;> cases x <;> simp [spec_l9Node.j0v_eq, spec_l9Node.j1v_eq, in_s, hb, hs]
  · show impl_isE.fv 5 b c l = _
    rw [impl_isE.fv_eq]
    by_cases hk : (l.length : Int) = 1 <;> by_cases hb : b = 0 <;> cases x <;> simp [ht, h2, hk, hb, eop]
  · show impl_isStatement.fv 5 b c l = _
    rw [impl_isStatement.fv_eq]
    simp [sop]
  · show impl_isBlock.fv 5 b c l = _
    rw [impl_isBlock.fv_eq]
    simp [bop]
theorem drop_kid (b : Int) (c : ByteArray) (l : List S38) (hc : c.size ≤ 1048576) (hl : l.length ≤ 1048576) (ih : ∀ k, k ∈ l → Good k) : Good ⟨34, b, c, l⟩ := by
  obtain ⟨x, hs, ht⟩ := name_both c hc
  have hK : spec_l9Kids.fv 34 b c l = some (decide ((l.length : Int) = 1) && allE l) := by
    rw [spec_l9Kids.fv_eq]
    by_cases hk : (l.length : Int) = 1
    · have hs := es_all l hl ih 34 b c 1 hk
      simp [spec_l9Kids.j0v_eq, hk]; exact hs
    · simp [spec_l9Kids.j0v_eq, hk]
  refine good_of _ (decide (b = 0) && x && (decide ((l.length : Int) = 1) && allE l)) ?_ ?_ ?_ ?_
  · show spec_l9Node.fv 34 b c l = _
    rw [spec_l9Node.fv_eq, hK]
    cases hq : (decide ((l.length : Int) = 1) && allE l) <;> by_cases hb : b = 0 <;> cases x <;> simp [spec_l9Node.j0v_eq, spec_l9Node.j1v_eq, in_s, hb, hs]
  · show impl_isE.fv 34 b c l = _
    rw [impl_isE.fv_eq]
    simp [impl_isE.j0v_eq, impl_isE.j1v_eq, impl_isE.j2v_eq, in_i, eop]
  · show impl_isStatement.fv 34 b c l = _
    rw [impl_isStatement.fv_eq]
    by_cases hk : (l.length : Int) = 1
    · have hp : 0 < l.length := by omega
      have hg0 := (ih l[0] (List.getElem_mem hp)).e
      have hr' : rd_T38 l 0 = l[0] := rd_in2 l 0 hp
      have hE : allE l = (nb l[0] && eop l[0]) := by
        obtain ⟨k, hk2⟩ := List.length_eq_one_iff.1 (by omega : l.length = 1)
        subst hk2
        rw [allE_cons]
        simp [allE]
      by_cases hb : b = 0 <;> cases x <;> simp [hk, hb, ht, sop, hr', hg0, hE]
    · by_cases hb : b = 0 <;> cases x <;> simp [hk, hb, ht, sop]
  · show impl_isBlock.fv 34 b c l = _
    rw [impl_isBlock.fv_eq]
    simp [bop]
end

theorem len_two {α : Type} {l : List α} (h : l.length = 2) : ∃ p q, l = [p, q] := by
  match l, h with
  | [p, q], _ => exact ⟨p, q, rfl⟩
theorem len_three {α : Type} {l : List α} (h : l.length = 3) : ∃ p q r, l = [p, q, r] := by
  match l, h with
  | [p, q, r], _ => exact ⟨p, q, r, rfl⟩
section
theorem rd0 (k : S38) (m : List S38) : rd_T38 (k :: m) 0 = k := rfl
theorem rd1 (k k2 : S38) (m : List S38) : rd_T38 (k :: k2 :: m) 1 = k2 := rfl
theorem rd2 (k k2 k3 : S38) (m : List S38) : rd_T38 (k :: k2 :: k3 :: m) 2 = k3 := rfl
theorem while_kid (b : Int) (c : ByteArray) (l : List S38) (hl : l.length ≤ 1048576) (ih : ∀ k, k ∈ l → Good k) : Good ⟨32, b, c, l⟩ := by
  have hK : spec_l9Kids.fv 32 b c l = some (decide ((l.length : Int) = 2) && (allE (l.take 1) && allB (l.drop 1))) := by
    rw [spec_l9Kids.fv_eq]
    by_cases hk : (l.length : Int) = 2
    · have hs := es_one l hl ih 32 b c (by omega)
      have hb1 : spec_l9Blocks.fv 32 b c l 1 = some (allB (l.drop 1)) := by
        rw [spec_l9Blocks.fv_eq]; exact bs_run l hl ih 32 b c (l.length - 1) 1 rfl (by omega)
      cases h1 : allE (l.take 1) <;> simp [spec_l9Kids.j0v_eq, spec_l9Kids.j1v_eq, spec_l9Kids.j2v_eq, spec_l9Kids.j3v_eq, hk, hs, h1, hb1]
    · simp [spec_l9Kids.j0v_eq, spec_l9Kids.j1v_eq, spec_l9Kids.j2v_eq, spec_l9Kids.j3v_eq, hk]
  refine good_of _ _ (node_plain 32 b c l _ hK (by omega) (by omega) (by omega) (by omega) (by omega) (by omega) (by omega) (by omega) (by omega)) ?_ ?_ ?_
  · show impl_isE.fv 32 b c l = _
    rw [impl_isE.fv_eq]
    simp [impl_isE.j0v_eq, impl_isE.j1v_eq, impl_isE.j2v_eq, in_i, eop]
  · show impl_isStatement.fv 32 b c l = _
    rw [impl_isStatement.fv_eq]
    by_cases hk : (l.length : Int) = 2
    · obtain ⟨k1, k2, hk2⟩ := len_two (by omega : l.length = 2)
      subst hk2
      have g1 := (ih k1 (by simp)).e
      have g2 := (ih k2 (by simp)).b
      have e1 : allE (List.take 1 [k1, k2]) = (nb k1 && eop k1) := by show allE [k1] = _; rw [allE_cons]; simp [allE]
      have e2 : allB (List.drop 1 [k1, k2]) = (nb k2 && bop k2) := by show allB [k2] = _; rw [allB_cons]; simp [allB]
      rw [e1, e2]
      cases h1 : (nb k1 && eop k1) <;> by_cases hb : b = 0 <;> by_cases hg : c.toList = [] <;> simp [plain_i, hb, hg, sop, rd0, rd1, g1, g2, h1]
    · by_cases hb : b = 0 <;> by_cases hg : c.toList = [] <;> simp [plain_i, hk, hb, hg, sop]
  · show impl_isBlock.fv 32 b c l = _
    rw [impl_isBlock.fv_eq]
    simp [bop]
theorem if_kid (b : Int) (c : ByteArray) (l : List S38) (hl : l.length ≤ 1048576) (ih : ∀ k, k ∈ l → Good k) : Good ⟨31, b, c, l⟩ := by
  have hK : spec_l9Kids.fv 31 b c l = some (decide (2 ≤ (l.length : Int) ∧ (l.length : Int) ≤ 3) && (allE (l.take 1) && allB (l.drop 1))) := by
    rw [spec_l9Kids.fv_eq]
    by_cases hk : 2 ≤ (l.length : Int) ∧ (l.length : Int) ≤ 3
    · have hs := es_one l hl ih 31 b c (by omega)
      have hb1 : spec_l9Blocks.fv 31 b c l 1 = some (allB (l.drop 1)) := by
        rw [spec_l9Blocks.fv_eq]; exact bs_run l hl ih 31 b c (l.length - 1) 1 rfl (by omega)
      simp only [spec_l9Kids.j0v_eq, spec_l9Kids.j1v_eq, spec_l9Kids.j2v_eq, spec_l9Kids.j3v_eq, in_s, decide_eq_true hk]
      cases h1 : allE (l.take 1) <;> simp [hs, h1, hb1]
    · simp only [spec_l9Kids.j0v_eq, spec_l9Kids.j1v_eq, spec_l9Kids.j2v_eq, spec_l9Kids.j3v_eq, in_s, decide_eq_false hk]
      simp
  refine good_of _ _ (node_plain 31 b c l _ hK (by omega) (by omega) (by omega) (by omega) (by omega) (by omega) (by omega) (by omega) (by omega)) ?_ ?_ ?_
  · show impl_isE.fv 31 b c l = _
    rw [impl_isE.fv_eq]
    simp [impl_isE.j0v_eq, impl_isE.j1v_eq, impl_isE.j2v_eq, in_i, eop]
  · show impl_isStatement.fv 31 b c l = _
    rw [impl_isStatement.fv_eq]
    by_cases hk : 2 ≤ (l.length : Int) ∧ (l.length : Int) ≤ 3
    · rcases (by omega : l.length = 2 ∨ l.length = 3) with h2 | h3
      · obtain ⟨k1, k2, hk2⟩ := len_two h2
        subst hk2
        have g1 := (ih k1 (by simp)).e
        have g2 := (ih k2 (by simp)).b
        have e1 : allE (List.take 1 [k1, k2]) = (nb k1 && eop k1) := by show allE [k1] = _; rw [allE_cons]; simp [allE]
        have e2 : allB (List.drop 1 [k1, k2]) = (nb k2 && bop k2) := by show allB [k2] = _; rw [allB_cons]; simp [allB]
        have w : wrap64 ((([k1, k2] : List S38).length : Int) - 1) = 1 := by rw [wrap_in (by simp) (by simp)]; rfl
        rw [e1, e2, w]
        cases h1 : (nb k1 && eop k1) <;> cases h4 : (nb k2 && bop k2) <;> by_cases hb : b = 0 <;> by_cases hg : c.toList = [] <;> simp [plain_i, in_i, hb, hg, sop, rd0, rd1, g1, g2, h1, h4]
      · obtain ⟨k1, k2, k3, hk3⟩ := len_three h3
        subst hk3
        have g1 := (ih k1 (by simp)).e
        have g2 := (ih k2 (by simp)).b
        have g3 := (ih k3 (by simp)).b
        have e1 : allE (List.take 1 [k1, k2, k3]) = (nb k1 && eop k1) := by show allE [k1] = _; rw [allE_cons]; simp [allE]
        have e2 : allB (List.drop 1 [k1, k2, k3]) = ((nb k2 && bop k2) && (nb k3 && bop k3)) := by show allB [k2, k3] = _; rw [allB_cons, allB_cons]; simp [allB]
        have w : wrap64 ((([k1, k2, k3] : List S38).length : Int) - 1) = 2 := by rw [wrap_in (by simp) (by simp)]; rfl
        rw [e1, e2, w]
        cases h1 : (nb k1 && eop k1) <;> cases h4 : (nb k2 && bop k2) <;> by_cases hb : b = 0 <;> by_cases hg : c.toList = [] <;> simp [plain_i, in_i, hb, hg, sop, rd0, rd1, rd2, g1, g2, g3, h1, h4]
    · simp only [in_i, decide_eq_false hk]
      by_cases hb : b = 0 <;> by_cases hg : c.toList = [] <;> simp [plain_i, hb, hg, sop]
  · show impl_isBlock.fv 31 b c l = _
    rw [impl_isBlock.fv_eq]
    simp [bop]
theorem other_kid (a : Int) (b : Int) (c : ByteArray) (l : List S38) (hl : l.length ≤ 1048576) (ih : ∀ k, k ∈ l → Good k) (ha : a < 1 ∨ 35 < a) : Good ⟨a, b, c, l⟩ := by
  have _ := hl
  have _ := ih
  have n : ∀ k : Int, 1 ≤ k → k ≤ 35 → a ≠ k := fun k h h' => by omega
  have hK : spec_l9Kids.fv a b c l = some (decide (l = [])) := by
    rw [spec_l9Kids.fv_eq]
    simp [spec_l9Kids.j0v_eq, spec_l9Kids.j1v_eq, spec_l9Kids.j2v_eq, spec_l9Kids.j3v_eq, len0, n]
  refine good_of _ false ?_ ?_ ?_ ?_
  · show spec_l9Node.fv a b c l = _
    have hd : ¬ (1 ≤ a ∧ a ≤ 35) := by omega
    rw [spec_l9Node.fv_eq, hK]
    cases hq : decide (l = []) <;> simp [spec_l9Node.j0v_eq, in_s, hd]
    all_goals omega
  · show impl_isE.fv a b c l = _
    have hd : ¬ (9 ≤ a ∧ a ≤ 21) := by omega
    rw [impl_isE.fv_eq]
    simp [impl_isE.j0v_eq, impl_isE.j1v_eq, impl_isE.j2v_eq, in_i, n]
    all_goals omega
  · show impl_isStatement.fv a b c l = _
    rw [impl_isStatement.fv_eq]
    simp [n]
  · show impl_isBlock.fv a b c l = _
    rw [impl_isBlock.fv_eq]
    simp [n]
end
theorem step (y : S38) (hc : y.f2.size ≤ 1048576) (hl : y.f3.length ≤ 1048576) (ih : ∀ k, k ∈ y.f3 → Good k) : Good y := by
  obtain ⟨a, b, c, l⟩ := y
  by_cases h0 : a < 1 ∨ 35 < a
  · exact other_kid a b c l hl ih h0
  · rcases (by omega : a = 1 ∨ a = 2 ∨ a = 3 ∨ a = 4 ∨ a = 5 ∨ (a = 6 ∨ a = 22 ∨ a = 23) ∨ (a = 7 ∨ a = 8) ∨ (a = 9 ∨ a = 10 ∨ a = 11 ∨ a = 12 ∨ a = 13 ∨ a = 14 ∨ a = 15 ∨ a = 16 ∨ a = 17 ∨ a = 18 ∨ a = 19 ∨ a = 20 ∨ a = 21 ∨ a = 24 ∨ a = 25) ∨ (a = 26 ∨ a = 27) ∨ a = 28 ∨ a = 29 ∨ a = 30 ∨ a = 31 ∨ a = 32 ∨ a = 33 ∨ a = 34 ∨ a = 35) with rfl | rfl | rfl | rfl | rfl | h | h | h | h | rfl | rfl | rfl | rfl | rfl | rfl | rfl | rfl
    · exact num_kid b c l hc hl ih
    · exact text_kid b c l hc hl ih
    · exact rex_kid b c l hc hl ih
    · exact var_kid b c l hc hl ih
    · exact cell_kid b c l hc hl ih
    · exact one_kid a b c l hl ih h
    · exact no_kid a b c l hl ih h
    · exact two_kid a b c l hl ih h
    · exact set_kid a b c l hl ih h
    · exact call_kid b c l hl ih
    · exact block_kid b c l hl ih
    · exact print_kid b c l hl ih
    · exact if_kid b c l hl ih
    · exact while_kid b c l hl ih
    · exact next_kid b c l hl ih
    · exact drop_kid b c l hc hl ih
    · exact do_kid b c l hl ih
theorem good (x : S32) (hx : Wf32 x) (hb : bulk x ≤ 1048576) : Good (conv x) := by
  induction hx with
  | mk x h0 h1 h2 h3 g3 ih =>
    have hk := bulk_eq x
    rw [conv_eq]
    refine step _ (by show x.f2.size ≤ 1048576; omega) (by simp; omega) (fun y hy => ?_)
    obtain ⟨z, hz, rfl⟩ := List.mem_map.1 hy
    exact ih z hz (by have := bulk_kid hz; omega)

/-! ### rules -/
theorem rule_both (x : S34) (hx : Wf34 x) (hb : bl_Rule x ≤ 1048576) : ∃ b : Bool,
    impl_Tidy_1.fv (cv_Rule x).f0 (cv_Rule x).f1 (cv_Rule x).f2 (cv_Rule x).f3 (cv_Rule x).f4 (cv_Rule x).f5 (cv_Rule x).f6 (cv_Rule x).f7 (cv_Rule x).f8 = some (!b) ∧
    ∀ (l : List S40) (i : Nat) (K : Bool), i < l.length → l.length ≤ 1048576 → l[i]? = some (cv_Rule x) → spec_Tidy.l0v l ((i + 1 : Nat) : Int) = some K → spec_Tidy.l0v l (i : Int) = some (b && K) := by
  unfold bl_Rule at hb
  have g1 := good (whn x) (wf1 x hx) (by omega)
  have g2 := good (thn x) (wf2 x hx) (by omega)
  obtain ⟨t1, a1, a2, a3, a4⟩ := deep_node (whn x) (wf1 x hx) (by omega)
  obtain ⟨t2, b1, b2, b3, b4⟩ := deep_node (thn x) (wf2 x hx) (by omega)
  show ∃ b : Bool, impl_Tidy_1.fv x.f0 (conv (whn x)).f0 (conv (whn x)).f1 (conv (whn x)).f2 (conv (whn x)).f3 (conv (thn x)).f0 (conv (thn x)).f1 (conv (thn x)).f2 (conv (thn x)).f3 = some (!b) ∧ _
  generalize hp : conv (whn x) = p at *
  generalize hq : conv (thn x) = q at *
  have hcv : cv_Rule x = ⟨x.f0, p.f0, p.f1, p.f2, p.f3, q.f0, q.f1, q.f2, q.f3⟩ := by rw [← hp, ← hq]; rfl
  have hnone : impl_noNode.f p.f0 p.f1 p.f2 p.f3 = some (decide (p.f0 = 0) && decide (p.f1 = 0) && decide (p.f2.toList = []) && decide (p.f3 = [])) := by
    unfold impl_noNode.f
    rw [plain_i, len0]
    by_cases h0 : p.f0 = 0 <;> by_cases h1 : p.f1 = 0 <;> by_cases h2 : p.f2.toList = [] <;> simp [h0, h1, h2]
  obtain ⟨none, hnn⟩ : ∃ none : Bool, none = (decide (p.f0 = 0) && decide (p.f1 = 0) && decide (p.f2.toList = []) && decide (p.f3 = [])) := ⟨_, rfl⟩
  rw [← hnn] at hnone
  refine ⟨(decide (x.f0 = 1 ∨ x.f0 = 2) && none && decide (t1 ≤ 16) || decide (x.f0 = 3) && (nb p && eop p) && decide (t1 ≤ 16)) && (nb q && bop q) && decide (t2 ≤ 16), ?_, ?_⟩
  · rw [impl_Tidy_1.fv_eq, a4, Option.bind_some, b4, g2.b]
    simp only [Option.bind_some, impl_Tidy_1.j0v_eq, impl_Tidy_1.j1v_eq, hnone, g1.e]
    by_cases c1 : t1 > 16
    · have c1' : ¬ t1 ≤ 16 := by omega
      simp [c1, c1']
    · have c1' : t1 ≤ 16 := by omega
      by_cases c2 : t2 > 16
      · have c2' : ¬ t2 ≤ 16 := by omega
        simp [c1, c2, c2']
      · have c2' : t2 ≤ 16 := by omega
        cases h3 : (nb q && bop q)
        · simp [c1, c2]
        · by_cases k1 : x.f0 = 1
          · simp [c1, c2, c1', c2', k1]
          · by_cases k2 : x.f0 = 2
            · simp [c1, c2, c1', c2', k2]
            · by_cases k3 : x.f0 = 3
              · simp [c1, c2, c1', c2', k3]
              · simp [c1, c2, c1', c2', k1, k2, k3]
  · intro l i K hi hl hx2 hK
    have hr : rd_T40 l (i : Int) = ⟨x.f0, p.f0, p.f1, p.f2, p.f3, q.f0, q.f1, q.f2, q.f3⟩ := by
      rw [rdrule2 l i hi, ← hcv]
      rw [List.getElem?_eq_getElem hi] at hx2
      exact Option.some.inj hx2
    have hw : wrap64 ((i : Int) + 1) = ((i + 1 : Nat) : Int) := by rw [wrap_in (by omega) (by omega)]; omega
    have hd0 : none = true → t1 ≤ 16 := by
      intro hn
      rw [hnn] at hn
      simp only [Bool.and_eq_true, decide_eq_true_eq] at hn
      rw [hn.2, spec_Deep.fv_eq, spec_Deep.l0v_eq, if_neg (by simp), wrap_in (by omega) (by omega)] at a3
      have := Option.some.inj a3
      omega
    have J2 : ∀ v : Bool, spec_Tidy.j2v l (i : Int) v x.f0 p.f0 p.f1 p.f2 p.f3 q.f0 q.f1 q.f2 q.f3 = some (v && ((nb q && bop q) && (decide (t2 ≤ 16) && K))) := by
      intro v
      rw [spec_Tidy.j2v_eq, b3, g2.sp, hw, hK]
      unfold bop
      cases v
      · rfl
      · rw [if_pos rfl]
        by_cases h29 : q.f0 = 29
        · rw [if_pos h29, Option.bind_some, Option.bind_some, decide_eq_true h29]
          by_cases c2 : t2 > 16
          · rw [if_pos c2, decide_eq_false (by omega)]; cases nb q <;> rfl
          · rw [if_neg c2, decide_eq_true (by omega)]; cases nb q <;> rfl
        · rw [if_neg h29, decide_eq_false h29]; cases nb q <;> rfl
    have J1 : spec_Tidy.j1v l (i : Int) none x.f0 p.f0 p.f1 p.f2 p.f3 q.f0 q.f1 q.f2 q.f3 = some (((decide (x.f0 = 1 ∨ x.f0 = 2) && none && decide (t1 ≤ 16) || decide (x.f0 = 3) && (nb p && eop p) && decide (t1 ≤ 16)) && (nb q && bop q) && decide (t2 ≤ 16)) && K) := by
      rw [spec_Tidy.j1v_eq]
      simp only [J2, in_s, isE_op, g1.sp, a3, Option.bind_some]
      have hq2 : decide (1 ≤ p.f0 ∧ p.f0 ≤ 28) = eop p := rfl
      rw [hq2]
      by_cases k12 : 1 ≤ x.f0 ∧ x.f0 ≤ 2
      · have k12' : x.f0 = 1 ∨ x.f0 = 2 := by omega
        have k3 : ¬ x.f0 = 3 := by omega
        rw [decide_eq_true k12, if_pos rfl, decide_eq_true k12', decide_eq_false k3, if_neg k3]
        cases hnn2 : none
        · rw [if_neg (by simp)]; simp
        · rw [if_pos rfl, decide_eq_true (hd0 hnn2)]; simp [Bool.and_assoc]
      · have k12' : ¬ (x.f0 = 1 ∨ x.f0 = 2) := by omega
        rw [decide_eq_false k12, if_neg (by simp), decide_eq_false k12']
        by_cases k3 : x.f0 = 3
        · rw [if_pos k3, decide_eq_true k3]
          cases eop p <;> cases nb p <;> simp [Bool.and_assoc]
        · rw [if_neg k3, decide_eq_false k3]; simp
    rw [spec_Tidy.l0v_eq, if_pos (by omega), if_pos (by omega), hr]
    simp only []
    rw [← J1]
    have hz : none = (decide (p.f0 = 0) && decide (p.f1 = 0) && decide (p.f2.toList = []) && ((p.f3.length : Int) == 0)) := by rw [len0]; exact hnn
    rw [hz]
    by_cases z0 : p.f0 = 0
    · rw [if_pos z0, decide_eq_true z0]
      by_cases z1 : p.f1 = 0
      · rw [if_pos z1, decide_eq_true z1]
        by_cases z2 : p.f2.toList = []
        · rw [if_pos z2, decide_eq_true z2]; rfl
        · rw [if_neg z2, decide_eq_false z2]; rfl
      · rw [if_neg z1, decide_eq_false z1]; rfl
    · rw [if_neg z0, decide_eq_false z0]; rfl
theorem tidy_loop (x : List S34) (hx : ∀ x_ ∈ x, Wf34 x_) (hb : bls_Rule x ≤ 1048576) (d : Nat) : ∀ i : Nat, x.length - i = d → i ≤ x.length →
    ∃ (b : Bool) (t : Int), spec_Tidy.l0v (x.map cv_Rule) (i : Int) = some b ∧ slices_IndexFunc_impl_Rule_impl_Rule__impl_Tidy_1.l0v (x.map cv_Rule) ((x.map cv_Rule).length : Int) (i : Int) = some t ∧ decide (t ≥ 0) = !b := by
  have hb' := hb
  unfold bls_Rule at hb'
  have hlen : (x.map cv_Rule).length = x.length := List.length_map _
  induction d with
  | zero =>
    intro i h1 h2
    refine ⟨true, -1, ?_, ?_, rfl⟩
    · rw [spec_Tidy.l0v_eq, if_neg (by omega)]
    · rw [slices_IndexFunc_impl_Rule_impl_Rule__impl_Tidy_1.l0v_eq, if_neg (by omega)]
  | succ d ih =>
    intro i h1 h2
    have hi : i < x.length := by omega
    have hm := Go.Proofs.YthgglepiopijjaaGreatW.Bulk.le_sum (List.mem_map_of_mem (f := bl_Rule) (List.getElem_mem hi))
    obtain ⟨b, e1, e2⟩ := rule_both x[i] (hx _ (List.getElem_mem hi)) (by omega)
    obtain ⟨c, t, f1, f2, f3⟩ := ih (i + 1) (by omega) (by omega)
    have hs := e2 (x.map cv_Rule) i c (by omega) (by omega) (by simp [hi]) f1
    refine ⟨b && c, (if b = true then t else i), hs, ?_, ?_⟩
    · rw [slices_IndexFunc_impl_Rule_impl_Rule__impl_Tidy_1.l0v_eq, if_pos (by omega), if_pos (by omega), if_pos (by omega), rdrule2 _ i (by omega), List.getElem_map, e1, wrap_in (by omega) (by omega), show (i : Int) + 1 = ((i + 1 : Nat) : Int) by omega, f2]
      cases b <;> simp
    · cases b
      · simp
      · simpa using f3
theorem tidy_both (x : List S34) (hx : ∀ x_ ∈ x, Wf34 x_) (hb : bls_Rule x ≤ 1048576) : ∃ b : Bool, spec_Tidy.fv (x.map cv_Rule) = some b ∧ impl_Tidy.fv (x.map cv_Rule) = some b := by
  obtain ⟨b, t, e1, e2, e3⟩ := tidy_loop x hx hb x.length 0 (by omega) (by omega)
  refine ⟨b, ?_, ?_⟩
  · rw [spec_Tidy.fv_eq]; exact e1
  · have e2' : slices_IndexFunc_impl_Rule_impl_Rule__impl_Tidy_1.l0v (x.map cv_Rule) ((x.map cv_Rule).length : Int) 0 = some t := e2
    rw [impl_Tidy.fv_eq, slices_ContainsFunc_impl_Rule_impl_Rule__impl_Tidy_1.fv_eq, slices_IndexFunc_impl_Rule_impl_Rule__impl_Tidy_1.fv_eq, e2', Option.bind_some, Option.bind_some, e3, Bool.not_not]

/-! ### which of two texts comes first -/
theorem less_cons (a b : UInt8) (x y : List UInt8) : Op.bytesLess (a :: x) (b :: y) = (decide (a < b) || (a == b && Op.bytesLess x y)) := rfl
theorem less_more (x y : List UInt8) : (!(Op.bytesLess x y) && !(x == y)) = Op.bytesLess y x := by
  induction x generalizing y with
  | nil => cases y <;> rfl
  | cons a x ih =>
    cases y with
    | nil => rfl
    | cons b y =>
      rw [less_cons, less_cons, ← ih y]
      by_cases h1 : a < b
      · have h2 : ¬ b < a := fun h => by rw [UInt8.lt_iff_toNat_lt] at h h1; omega
        have hne : ¬ b = a := by intro e; subst e; exact h2 h1
        simp [h1, h2, hne]
      · by_cases h2 : b < a
        · have hne : ¬ a = b := by intro e; subst e; exact h1 h2
          have hne2 : ¬ b = a := fun e => hne e.symm
          simp [h1, h2, hne, hne2]
        · have e : a = b := by
            rw [← UInt8.toNat_inj]
            have := _root_.mt UInt8.lt_iff_toNat_lt.2 h1
            have := _root_.mt UInt8.lt_iff_toNat_lt.2 h2
            omega
          subst e
          simp [h1]

/-! ### texts in order, each once -/
abbrev TL := List UInt8
theorem tl_less : ∀ x y : TL, Op.bytesLess x y = decide (x < y)
  | [], [] => by simp [Op.bytesLess]
  | _ :: _, [] => by simp [Op.bytesLess]
  | [], _ :: _ => by simp [Op.bytesLess]
  | a :: x, b :: y => by
    rw [less_cons, tl_less x y]
    by_cases h : a < b
    · simp [h, List.cons_lt_cons_iff]
    · by_cases e : a = b
      · subst e; simp [List.cons_lt_cons_iff]
      · simp [h, e, List.cons_lt_cons_iff]
theorem tl_irr (x : TL) : ¬ x < x := fun h => by
  have h1 : Op.bytesLess x x = true := by rw [tl_less]; exact decide_eq_true h
  have h2 := less_more x x
  rw [h1] at h2
  cases h2
theorem tl_trans : ∀ {x y z : TL}, x < y → y < z → x < z := by
  intro x y z h1 h2
  exact List.lt_trans h1 h2
theorem tl_asym {x y : TL} (h1 : x < y) (h2 : y < x) : False := tl_irr x (tl_trans h1 h2)
theorem tl_tri (x y : TL) (h1 : ¬ x < y) (h2 : x ≠ y) : y < x := by
  have h := less_more x y
  rw [tl_less, tl_less, decide_eq_false h1] at h
  have h3 : (x == y) = false := by simpa using h2
  rw [h3] at h
  simpa using h.symm
theorem uniq_sorted : ∀ l m : List TL, l.Pairwise (· < ·) → m.Pairwise (· < ·) → (∀ a, a ∈ l ↔ a ∈ m) → l = m
  | [], [], _, _, _ => rfl
  | [], b :: m, _, _, h => by have := (h b).2 (List.mem_cons_self ..); cases this
  | a :: l, [], _, _, h => by have := (h a).1 (List.mem_cons_self ..); cases this
  | a :: l, b :: m, hl, hm, h => by
    have hl' := List.pairwise_cons.1 hl
    have hm' := List.pairwise_cons.1 hm
    have e : a = b := by
      rcases List.mem_cons.1 ((h a).1 (List.mem_cons_self ..)) with e | e
      · exact e
      · rcases List.mem_cons.1 ((h b).2 (List.mem_cons_self ..)) with f | f
        · exact f.symm
        · exact (tl_asym (hm'.1 a e) (hl'.1 b f)).elim
    subst e
    congr 1
    refine uniq_sorted l m hl'.2 hm'.2 fun x => ⟨fun hx => ?_, fun hx => ?_⟩
    · rcases List.mem_cons.1 ((h x).1 (List.mem_cons_of_mem _ hx)) with e | e
      · subst e; exact (tl_irr _ (hl'.1 _ hx)).elim
      · exact e
    · rcases List.mem_cons.1 ((h x).2 (List.mem_cons_of_mem _ hx)) with e | e
      · subst e; exact (tl_irr _ (hm'.1 _ hx)).elim
      · exact e
theorem compact_go (zs : List TL) (hs : zs.Pairwise fun x y => ¬ y < x) (m : Nat) : m ≤ zs.length →
    (Lib.compactUpTo zs.toArray m).Pairwise (· < ·) ∧ (∀ a, a ∈ Lib.compactUpTo zs.toArray m ↔ a ∈ zs.take m) := by
  induction m with
  | zero => intro _; refine ⟨?_, fun a => ?_⟩ <;> simp [Lib.compactUpTo]
  | succ m ih =>
    intro h
    obtain ⟨h1, h2⟩ := ih (by omega)
    have hm : m < zs.length := by omega
    have ht : zs.take (m + 1) = zs.take m ++ [zs[m]] := by rw [List.take_succ_eq_append_getElem hm]
    have hd : zs.toArray[m]! = zs[m] := by simp [hm]
    rw [Lib.compactUpTo_succ, hd]
    by_cases hk : Lib.keeps zs.toArray m = true
    · rw [if_pos hk]
      have hlt : ∀ a, a ∈ Lib.compactUpTo zs.toArray m → a < zs[m] := by
        intro a ha
        have ha' := (h2 a).1 ha
        obtain ⟨j, hj, e⟩ := List.mem_iff_getElem.1 ha'
        rw [List.length_take] at hj
        rw [List.getElem_take] at e
        unfold Lib.keeps at hk
        have hk' := of_decide_eq_true hk
        have hne : zs[m] ≠ zs[m - 1]'(by omega) := by
          rcases hk' with h0 | h0
          · omega
          · intro e2
            apply h0
            rw [hd, e2]
            simp [show m - 1 < zs.length by omega]
        have hle : ¬ zs[m] < zs[m - 1]'(by omega) := List.pairwise_iff_getElem.1 hs (m - 1) m (by omega) hm (by omega)
        have hlt2 : zs[m - 1]'(by omega) < zs[m] := tl_tri _ _ hle hne
        subst e
        by_cases hj2 : j = m - 1
        · subst hj2; exact hlt2
        · have hle2 : ¬ zs[m - 1]'(by omega) < zs[j]'(by omega) := List.pairwise_iff_getElem.1 hs j (m - 1) (by omega) (by omega) (by omega)
          by_cases he : zs[m - 1]'(by omega) = zs[j]'(by omega)
          · rw [← he]; exact hlt2
          · exact tl_trans (tl_tri _ _ hle2 he) hlt2
      refine ⟨List.pairwise_append.2 ⟨h1, List.pairwise_singleton .., fun a ha b hb => ?_⟩, fun a => ?_⟩
      · rw [List.mem_singleton] at hb; subst hb; exact hlt a ha
      · rw [ht, List.mem_append, List.mem_append, h2]
    · rw [if_neg hk, List.append_nil]
      refine ⟨h1, fun a => ?_⟩
      have hk2 : ¬ (m = 0 ∨ zs.toArray[m]! ≠ zs.toArray[m - 1]!) := fun e => hk (by unfold Lib.keeps; exact decide_eq_true e)
      have hm0 : m ≠ 0 := fun e => hk2 (.inl e)
      have he : zs[m] = zs[m - 1]'(by omega) := by
        by_cases e : zs.toArray[m]! = zs.toArray[m - 1]!
        · rw [hd] at e
          rw [e]; simp [show m - 1 < zs.length by omega]
        · exact (hk2 (.inr e)).elim
      have hin : zs[m] ∈ zs.take m := by
        rw [he]
        exact List.mem_iff_getElem.2 ⟨m - 1, by rw [List.length_take]; omega, by rw [List.getElem_take]⟩
      rw [ht, List.mem_append, List.mem_singleton, h2]
      constructor
      · exact .inl
      · rintro (e | e)
        · exact e
        · rw [e]; exact hin
theorem compact_sorted (zs : List TL) (hs : zs.Pairwise fun x y => ¬ y < x) : (Lib.compact zs).Pairwise (· < ·) ∧ (∀ a, a ∈ Lib.compact zs ↔ a ∈ zs) := by
  have := compact_go zs hs zs.length (Nat.le_refl _)
  rw [List.take_length] at this
  exact this
theorem sort_sorted (l : List TL) : (l.mergeSort fun x y => decide (x ≤ y)).Pairwise fun x y => ¬ y < x := by
  have tr : ∀ a b c : TL, decide (a ≤ b) = true → decide (b ≤ c) = true → decide (a ≤ c) = true := by
    intro a b c h1 h2
    have h1 : ¬ b < a := of_decide_eq_true h1
    have h2 : ¬ c < b := of_decide_eq_true h2
    refine decide_eq_true ?_
    show ¬ c < a
    intro h
    by_cases e : b = a
    · subst e; exact h2 h
    · exact h2 (tl_trans h (tl_tri _ _ h1 e))
  have tot : ∀ a b : TL, (decide (a ≤ b) || decide (b ≤ a)) = true := by
    intro a b
    by_cases h : b < a
    · have : ¬ a < b := fun k => tl_asym h k
      have h2 : decide (b ≤ a) = true := decide_eq_true this
      rw [h2, Bool.or_true]
    · have h2 : decide (a ≤ b) = true := decide_eq_true h
      rw [h2, Bool.true_or]
  exact (List.pairwise_mergeSort tr tot l).imp fun h => of_decide_eq_true h
/-- What is sorted and made compact is the one ordered list of what it holds. -/
theorem sorted_is (l : List TL) (m : List TL) (hm : m.Pairwise (· < ·)) (h : ∀ a, a ∈ m ↔ a ∈ l) : Lib.compact (l.mergeSort fun x y => decide (x ≤ y)) = m := by
  obtain ⟨h1, h2⟩ := compact_sorted _ (sort_sorted l)
  refine uniq_sorted _ _ h1 hm fun a => ?_
  rw [h2, h, (List.mergeSort_perm l _).mem_iff]

/-! ### two readers of patterns: what both see -/
theorem next_nil (b : Bool) : impl_rexReader_next.f (B []) b = some (0, false, B [], b) := by
  unfold impl_rexReader_next.f
  rw [B_toList, if_pos rfl]
theorem next_bad (l : List UInt8) : impl_rexReader_next.f (B l) true = some (0, false, B l, true) := by
  unfold impl_rexReader_next.f
  split
  · rfl
  · rw [if_pos rfl]
theorem next_cons (c : UInt8) (l : List UInt8) : impl_rexReader_next.f (B (c :: l)) false = some ((c.toNat : Int), true, B (c :: l), false) := by
  unfold impl_rexReader_next.f
  have e : bt (B (c :: l)) ((0 : Nat) : Int) = (c.toNat : Int) := B_bt _ 0 (by simp)
  rw [B_toList, if_neg (by simp), if_neg (by decide), if_pos (by rw [B_size, List.length_cons]; omega)]
  rw [show ((0 : Nat) : Int) = 0 from rfl] at e
  rw [e]
theorem rest_of (c : UInt8) (l : List UInt8) : (B (c :: l)).extract 1 (B (c :: l)).size = B l := by rw [B_extract, B_size]; simp
theorem one_in (c : UInt8) (l : List UInt8) : 1 ≤ ((B (c :: l)).size : Int) := by rw [B_size, List.length_cons]; omega
theorem take_nil (b : Bool) (ch : Int) : impl_rexReader_take.f (B []) b ch = some (false, B [], b) := by
  unfold impl_rexReader_take.f
  rw [next_nil, Option.bind_some, if_neg (by simp)]
theorem take_bad (l : List UInt8) (ch : Int) : impl_rexReader_take.f (B l) true ch = some (false, B l, true) := by
  unfold impl_rexReader_take.f
  rw [next_bad, Option.bind_some, if_neg (by simp)]
theorem take_hit (c : UInt8) (l : List UInt8) (ch : Int) (h : (c.toNat : Int) = ch) : impl_rexReader_take.f (B (c :: l)) false ch = some (true, B l, false) := by
  unfold impl_rexReader_take.f
  rw [next_cons, Option.bind_some, if_pos rfl, if_pos h, if_pos (one_in c l), rest_of]
theorem take_miss (c : UInt8) (l : List UInt8) (ch : Int) (h : ¬ (c.toNat : Int) = ch) : impl_rexReader_take.f (B (c :: l)) false ch = some (false, B (c :: l), false) := by
  unfold impl_rexReader_take.f
  rw [next_cons, Option.bind_some, if_pos rfl, if_neg h]
/-- where a rest of T begins -/
def pl (T l : List UInt8) : Int := ((T.length - l.length : Nat) : Int)
def Ctx (T l : List UInt8) (d : Nat) : Prop := ∃ pre, T = pre ++ l ∧ d ≤ pre.length ∧ T.length ≤ 60
theorem ctx_bt {T l : List UInt8} {c : UInt8} {d : Nat} (h : Ctx T (c :: l) d) : bt (B T) (pl T (c :: l)) = (c.toNat : Int) := by
  obtain ⟨pre, rfl, _, _⟩ := h
  have e : pl (pre ++ c :: l) (c :: l) = ((pre.length : Nat) : Int) := by unfold pl; simp
  rw [e, B_bt _ pre.length (by simp)]
  simp
theorem pl_ge (T l : List UInt8) : 0 ≤ pl T l := by unfold pl; omega
theorem ctx_lt {T l : List UInt8} {c : UInt8} {d : Nat} (h : Ctx T (c :: l) d) : pl T (c :: l) < ((B T).size : Int) := by
  obtain ⟨pre, rfl, _, _⟩ := h
  unfold pl
  rw [B_size, List.length_append, List.length_cons]
  omega
theorem ctx_next {T l : List UInt8} {c : UInt8} {d : Nat} (h : Ctx T (c :: l) d) : wrap64 (pl T (c :: l) + 1) = pl T l := by
  obtain ⟨pre, rfl, _, h3⟩ := h
  unfold pl
  rw [List.length_append, List.length_cons] at h3 ⊢
  rw [wrap_in (by omega) (by omega)]
  omega
theorem pl_nil (T : List UInt8) : pl T [] = (T.length : Int) := by unfold pl; simp
theorem ctx_drop {T l : List UInt8} {d : Nat} (h : Ctx T l d) (k : Nat) : Ctx T (l.drop k) d := by
  obtain ⟨pre, rfl, h2, h3⟩ := h
  exact ⟨pre ++ l.take k, by rw [List.append_assoc, List.take_append_drop], by rw [List.length_append]; omega, h3⟩
theorem ctx_tail {T l : List UInt8} {c : UInt8} {d : Nat} (h : Ctx T (c :: l) d) : Ctx T l d := ctx_drop h 1
theorem ctx_in {T l : List UInt8} {c : UInt8} {d : Nat} (h : Ctx T (c :: l) d) : Ctx T l (d + 1) := by
  obtain ⟨pre, rfl, h2, h3⟩ := h
  exact ⟨pre ++ [c], by simp, by rw [List.length_append, List.length_singleton]; omega, h3⟩
theorem ctx_len {T l : List UInt8} {d : Nat} (h : Ctx T l d) : d + l.length ≤ 60 := by
  obtain ⟨pre, rfl, h2, h3⟩ := h
  rw [List.length_append] at h3
  omega
theorem now_bad (T : List UInt8) (at_ ch : Int) : spec_l3Now.f (B T) at_ true ch = some (false, B T, at_, true) := by
  unfold spec_l3Now.f
  rw [if_pos rfl]
theorem now_end (T : List UInt8) (ch : Int) : spec_l3Now.f (B T) (pl T []) false ch = some (false, B T, pl T [], false) := by
  unfold spec_l3Now.f
  rw [if_neg (by decide), pl_nil, if_neg (by rw [B_size]; omega)]
theorem now_cons {T l : List UInt8} {c : UInt8} {d : Nat} (h : Ctx T (c :: l) d) (ch : Int) : spec_l3Now.f (B T) (pl T (c :: l)) false ch = some (((c.toNat : Int) == ch), B T, pl T (c :: l), false) := by
  unfold spec_l3Now.f
  rw [if_neg (by decide), if_pos (ctx_lt h), if_pos (pl_ge _ _), ctx_bt h]
def IR (o : Option (Int × Int × ByteArray × Bool × List S58 × ByteArray × Bool)) (x : S58) (l : List UInt8) (b : Bool) : Prop := o = some (x.f0, x.f1, x.f2, x.f3, x.f4, B l, b)
def SR (T : List UInt8) (o : Option (Int × Int × ByteArray × Bool × List S58 × ByteArray × Int × Bool)) (x : S58) (a : Int) (b : Bool) : Prop := o = some (x.f0, x.f1, x.f2, x.f3, x.f4, B T, a, b)
/-! ### sets -/
theorem mark_both (n : Nat) : ∀ (has : List Bool) (lo hi : Int), (hi + 1 - lo).toNat = n → 0 ≤ lo → hi ≤ 255 → has.length = 256 → ∃ has' : List Bool, has'.length = 256 ∧
    (∀ x5 x7 S c p q s f, impl_rexReader_set.l1v x5 has x7 hi lo S c p q s f = impl_rexReader_set.l0v x5 has' (wrap64 (x7 + 1)) S c p q s f) ∧
    (∀ m T a c p q s f, spec_l3Set.l1v has m hi lo T a c p q s f = spec_l3Set.l0v has' (wrap64 (m + 1)) T a c p q s f) := by
  induction n with
  | zero =>
    intro has lo hi h1 h2 h3 h4
    refine ⟨has, h4, fun x5 x7 S c p q s f => ?_, fun m T a c p q s f => ?_⟩
    · rw [impl_rexReader_set.l1v_eq, if_neg (by omega)]
    · rw [spec_l3Set.l1v_eq, if_neg (by omega)]
  | succ n ih =>
    intro has lo hi h1 h2 h3 h4
    obtain ⟨has', e1, e2, e3⟩ := ih (has.set lo.toNat true) (lo + 1) hi (by omega) (by omega) h3 (by rw [List.length_set]; exact h4)
    refine ⟨has', e1, fun x5 x7 S c p q s f => ?_, fun m T a c p q s f => ?_⟩
    · rw [impl_rexReader_set.l1v_eq, if_pos (by omega), if_pos h2, if_pos (by omega), wrap_in (n := lo + 1) (by omega) (by omega)]
      exact e2 x5 x7 S c p q s f
    · rw [spec_l3Set.l1v_eq, if_pos (by omega), if_pos h2, if_pos (by omega), wrap_in (n := lo + 1) (by omega) (by omega)]
      exact e3 m T a c p q s f
theorem out_both (has : List Bool) (hh : has.length = 256) (n : Nat) : ∀ (i : Nat) (out : List Int), 256 - i = n → i ≤ 256 → out.length ≤ i → ∃ out' : List Int,
    (∀ S c p q s f, impl_rexReader_set.l2v out has 256 (i : Int) S c p q s f = some (p, q, strOfNums out', f, [], S, c)) ∧
    (∀ T a c p q s f, spec_l3Set.l2v has out (i : Int) T a c p q s f = some (p, q, strOfNums out', f, [], T, a, c)) := by
  induction n with
  | zero =>
    intro i out h1 h2 h3
    refine ⟨out, fun S c p q s f => ?_, fun T a c p q s f => ?_⟩
    · rw [impl_rexReader_set.l2v_eq, if_neg (by omega)]
    · rw [spec_l3Set.l2v_eq, if_neg (by omega)]
  | succ n ih =>
    intro i out h1 h2 h3
    have hw : wrap64 ((i : Int) + 1) = ((i + 1 : Nat) : Int) := by rw [wrap_in (by omega) (by omega)]; omega
    by_cases h : rdOf false has (i : Int) = true
    · obtain ⟨out', e1, e2⟩ := ih (i + 1) (out ++ [(i : Int) % 256]) (by omega) (by omega) (by simp; omega)
      refine ⟨out', fun S c p q s f => ?_, fun T a c p q s f => ?_⟩
      · rw [impl_rexReader_set.l2v_eq, if_pos (by omega), if_pos (by omega), if_pos (by omega), if_pos h, if_pos (by omega), hw]
        exact e1 S c p q s f
      · rw [spec_l3Set.l2v_eq, if_pos (by omega), if_pos (by omega), if_pos (by omega), if_pos h, if_pos (by omega), hw]
        exact e2 T a c p q s f
    · obtain ⟨out', e1, e2⟩ := ih (i + 1) out (by omega) (by omega) (by omega)
      refine ⟨out', fun S c p q s f => ?_, fun T a c p q s f => ?_⟩
      · rw [impl_rexReader_set.l2v_eq, if_pos (by omega), if_pos (by omega), if_pos (by omega), if_neg h, hw]
        exact e1 S c p q s f
      · rw [spec_l3Set.l2v_eq, if_pos (by omega), if_pos (by omega), if_pos (by omega), if_neg h, hw]
        exact e2 T a c p q s f
theorem idx_close (l : List UInt8) : (Lib.indexByte l 93 = -1 ∧ (93 : UInt8) ∉ l) ∨ ∃ a r, l = a ++ 93 :: r ∧ (93 : UInt8) ∉ a ∧ Lib.indexByte l 93 = (a.length : Int) := by
  induction l with
  | nil => exact .inl ⟨rfl, by simp⟩
  | cons b l ih =>
    by_cases h : b = 93
    · subst h
      exact .inr ⟨[], l, rfl, by simp, by simp [Lib.indexByte]⟩
    · have hb : (b == 93) = false := by simpa using h
      rcases ih with ⟨e, hn⟩ | ⟨a, r, rfl, hn, e⟩
      · exact .inl ⟨by rw [Lib.indexByte, hb, e]; rfl, by simp [hn, Ne.symm h]⟩
      · refine .inr ⟨b :: a, r, rfl, by simp [hn, Ne.symm h], ?_⟩
        have hne : ¬ ((a.length : Int) == -1) = true := fun z => by have := beq_iff_eq.1 z; omega
        rw [Lib.indexByte, hb, e, if_neg (by decide), if_neg hne]
        simp

theorem place_body (T pre body rest : List UInt8) (hT : T = pre ++ (body ++ rest)) (j : Nat) (hj : j < body.length) : bt (B T) ((pre.length + j : Nat) : Int) = (body[j].toNat : Int) := by
  have hlen : T.length = pre.length + (body.length + rest.length) := by rw [hT, List.length_append, List.length_append]
  rw [B_bt T (pre.length + j) (by omega)]
  congr 2
  subst hT
  rw [List.getElem_append_right (by omega)]
  simp only [Nat.add_sub_cancel_left]
  rw [List.getElem_append_left hj]
theorem place_end (T pre body r2 : List UInt8) (hT : T = pre ++ (body ++ 93 :: r2)) : bt (B T) ((pre.length + body.length : Nat) : Int) = 93 := by
  have hlen : T.length = pre.length + (body.length + (r2.length + 1)) := by rw [hT, List.length_append, List.length_append, List.length_cons]
  rw [B_bt T (pre.length + body.length) (by omega)]
  subst hT
  rw [List.getElem_append_right (by omega)]
  simp only [Nat.add_sub_cancel_left]
  rw [List.getElem_append_right (by omega)]
  simp
theorem impl_range (body : List UInt8) (h60 : body.length ≤ 60) (i : Nat) (hR1 : i + 2 < body.length) (hR3 : body[i + 1]'(by omega) = 45) (has has1 : List Bool) (c : Bool)
    (g2 : ∀ x5 x7 S c p q s f, impl_rexReader_set.l1v x5 has x7 (body[i + 2].toNat : Int) ((body[i]'(by omega)).toNat : Int) S c p q s f = impl_rexReader_set.l0v x5 has1 (wrap64 (x7 + 1)) S c p q s f) (S p q s f) :
    impl_rexReader_set.l0v (B body) has (i : Int) S c p q s f = impl_rexReader_set.l0v (B body) has1 ((i + 3 : Nat) : Int) S (c || decide ((body[i + 2].toNat : Int) < ((body[i]'(by omega)).toNat : Int))) p q s f := by
  have l1 := (body[i]'(by omega)).toNat_lt
  have l2 := body[i + 2].toNat_lt
  have w1 : wrap64 ((i : Int) + 1) = ((i + 1 : Nat) : Int) := by rw [wrap_in (by omega) (by omega)]; omega
  have w2 : wrap64 ((i : Int) + 2) = ((i + 2 : Nat) : Int) := by rw [wrap_in (by omega) (by omega)]; omega
  have w7 : wrap64 (((i + 2 : Nat) : Int) + 1) = ((i + 3 : Nat) : Int) := by rw [wrap_in (by omega) (by omega)]; omega
  have b0 : bt (B body) (i : Int) = ((body[i]'(by omega)).toNat : Int) := B_bt body i (by omega)
  have b1 : bt (B body) ((i + 1 : Nat) : Int) = 45 := by rw [B_bt body (i + 1) (by omega), hR3]; rfl
  have b2 : bt (B body) ((i + 2 : Nat) : Int) = (body[i + 2].toNat : Int) := B_bt body (i + 2) hR1
  generalize body[i]'(by omega) = u at *
  generalize body[i + 2] = v at *
  have wu : wrap64 (u.toNat : Int) = (u.toNat : Int) := wrap_in (by omega) (by omega)
  have wv : wrap64 (v.toNat : Int) = (v.toNat : Int) := wrap_in (by omega) (by omega)
  have hs : ((B body).size : Int) = (body.length : Int) := by rw [B_size]
  have c1 : (i : Int) < (body.length : Int) := by omega
  have c2 : (0 : Int) ≤ (i : Int) := by omega
  have c3 : ((i + 2 : Nat) : Int) < (body.length : Int) := by omega
  have c4 : (0 : Int) ≤ ((i + 1 : Nat) : Int) := by omega
  have c5 : ((i + 1 : Nat) : Int) < (body.length : Int) := by omega
  have c6 : (0 : Int) ≤ ((i + 2 : Nat) : Int) := by omega
  have d45 : ((45 : Int) == 45) = true := rfl
  rw [impl_rexReader_set.l0v_eq]
  simp only [hs, w1, w2, c1, c2, c3, c4, c5, b0, b1, wu, d45, if_true]
  rw [impl_rexReader_set.j1v_eq]
  simp only [hs, w2, c6, c3, b2, wv, if_true]
  cases c
  · simp only [Bool.false_eq_true, if_false, Bool.false_or]
    rw [impl_rexReader_set.j2v_eq, g2, w7]
  · simp only [if_true, Bool.true_or]
    rw [impl_rexReader_set.j2v_eq, g2, w7]
theorem impl_byte (body : List UInt8) (h60 : body.length ≤ 60) (i : Nat) (hi : i < body.length) (hR : ∀ h : i + 2 < body.length, ¬ body[i + 1]'(by omega) = 45) (has has1 : List Bool) (c : Bool)
    (g2 : ∀ x5 x7 S c p q s f, impl_rexReader_set.l1v x5 has x7 (body[i].toNat : Int) (body[i].toNat : Int) S c p q s f = impl_rexReader_set.l0v x5 has1 (wrap64 (x7 + 1)) S c p q s f) (S p q s f) :
    impl_rexReader_set.l0v (B body) has (i : Int) S c p q s f = impl_rexReader_set.l0v (B body) has1 ((i + 1 : Nat) : Int) S c p q s f := by
  have l1 := body[i].toNat_lt
  have w1 : wrap64 ((i : Int) + 1) = ((i + 1 : Nat) : Int) := by rw [wrap_in (by omega) (by omega)]; omega
  have w2 : wrap64 ((i : Int) + 2) = ((i + 2 : Nat) : Int) := by rw [wrap_in (by omega) (by omega)]; omega
  have b0 : bt (B body) (i : Int) = (body[i].toNat : Int) := B_bt body i hi
  have hs : ((B body).size : Int) = (body.length : Int) := by rw [B_size]
  have c1 : (i : Int) < (body.length : Int) := by omega
  have c2 : (0 : Int) ≤ (i : Int) := by omega
  have wu : wrap64 (body[i].toNat : Int) = (body[i].toNat : Int) := wrap_in (by omega) (by omega)
  have hj : impl_rexReader_set.j1v (B body) has (i : Int) (body[i].toNat : Int) (body[i].toNat : Int) false S c p q s f = impl_rexReader_set.l0v (B body) has1 ((i + 1 : Nat) : Int) S c p q s f := by
    rw [impl_rexReader_set.j1v_eq]
    simp only [Bool.false_eq_true, if_false]
    rw [impl_rexReader_set.j2v_eq, g2, w1]
  rw [impl_rexReader_set.l0v_eq]
  by_cases h5 : i + 2 < body.length
  · have c3 : ((i + 2 : Nat) : Int) < (body.length : Int) := by omega
    have c4 : (0 : Int) ≤ ((i + 1 : Nat) : Int) := by omega
    have c5 : ((i + 1 : Nat) : Int) < (body.length : Int) := by omega
    have b1 : (bt (B body) ((i + 1 : Nat) : Int) == 45) = false := by
      rw [B_bt body (i + 1) (by omega), beq_eq_false_iff_ne]
      exact fun e => hR h5 ((byte_is _ 45 45 rfl).1 e)
    simp only [hs, w1, w2, c1, c2, c3, c4, c5, b0, b1, wu, if_true, hj]
  · have c3 : ¬ ((i + 2 : Nat) : Int) < (body.length : Int) := by omega
    simp only [hs, w2, c1, c2, c3, b0, wu, if_true, if_false, hj]

theorem wr (a b : Nat) (k : Int) (h : (b : Int) = (a : Int) + k) (hb : b ≤ 1000) : wrap64 ((a : Int) + k) = (b : Int) := by rw [wrap_in (by omega) (by omega)]; omega
theorem wrap_byte (u : UInt8) : wrap64 (u.toNat : Int) = (u.toNat : Int) := by
  have := u.toNat_lt
  exact wrap_in (by omega) (by omega)
theorem not93 (u : UInt8) (hu : u ≠ 93) : ((u.toNat : Int) != 93) = true := by rw [bne_iff_ne]; exact fun e => hu ((byte_is _ 93 93 rfl).1 e)
theorem spec_range (T : List UInt8) (h60 : T.length ≤ 60) (a a1 a2 a3 : Nat) (e1 : a1 = a + 1) (e2 : a2 = a + 2) (e3 : a3 = a + 3) (hN : a2 < T.length) (u v : UInt8) (b0 : bt (B T) (a : Int) = (u.toNat : Int)) (b1 : bt (B T) (a1 : Int) = 45) (b2 : bt (B T) (a2 : Int) = (v.toNat : Int)) (hu : u ≠ 93) (hv : v ≠ 93)
    (has has1 : List Bool) (many : Nat) (hm : many ≤ 100) (c : Bool)
    (g3 : ∀ m T a c p q s f, spec_l3Set.l1v has m (v.toNat : Int) (u.toNat : Int) T a c p q s f = spec_l3Set.l0v has1 (wrap64 (m + 1)) T a c p q s f) (p q s f) :
    spec_l3Set.l0v has (many : Int) (B T) (a : Int) c p q s f = spec_l3Set.l0v has1 ((many + 1 : Nat) : Int) (B T) (a3 : Int) (c || decide ((v.toNat : Int) < (u.toNat : Int))) p q s f := by
  have c1 : (a : Int) < (T.length : Int) := by clear b0 b1 b2; omega
  have c2 : (0 : Int) ≤ (a : Int) := by clear b0 b1 b2; omega
  have c3 : (a2 : Int) < (T.length : Int) := by clear b0 b1 b2; omega
  have c4 : (0 : Int) ≤ (a1 : Int) := by clear b0 b1 b2; omega
  have c5 : (a1 : Int) < (T.length : Int) := by clear b0 b1 b2; omega
  have c6 : (0 : Int) ≤ (a2 : Int) := by clear b0 b1 b2; omega
  have w3 : wrap64 ((a : Int) + 1) = (a1 : Int) := wr a a1 1 (by clear b0 b1 b2; omega) (by clear b0 b1 b2; omega)
  have w4 : wrap64 ((a1 : Int) + 1) = (a2 : Int) := wr a1 a2 1 (by clear b0 b1 b2 w3; omega) (by clear b0 b1 b2 w3; omega)
  have w5 : wrap64 ((a1 : Int) + 2) = (a3 : Int) := wr a1 a3 2 (by clear b0 b1 b2 w3 w4; omega) (by clear b0 b1 b2 w3 w4; omega)
  have w6 : wrap64 ((many : Int) + 1) = ((many + 1 : Nat) : Int) := wr many (many + 1) 1 (by clear b0 b1 b2 w3 w4 w5; omega) (by clear b0 b1 b2 w3 w4 w5; omega)
  clear e1 e2 e3 hN hm
  have wu : wrap64 (u.toNat : Int) = (u.toNat : Int) := wrap_byte u
  have wv : wrap64 (v.toNat : Int) = (v.toNat : Int) := wrap_byte v
  have du : ((u.toNat : Int) != 93) = true := not93 u hu
  have dv : ((v.toNat : Int) != 93) = true := not93 v hv
  have hs : ((B T).size : Int) = (T.length : Int) := by rw [B_size]
  rw [spec_l3Set.l0v_eq]
  simp only [hs, c1, c2, b0, du, if_true]
  rw [spec_l3Set.j2v_eq]
  simp only [hs, c1, c2, w3, w4, c3, c4, c5, c6, b0, b1, b2, dv, wu, if_true]
  rw [spec_l3Set.j3v_eq]
  simp only [hs, w4, c3, c6, b2, wv, w5, if_true]
  rw [spec_l3Set.j4v_eq]
  by_cases hlh : (v.toNat : Int) < (u.toNat : Int)
  · simp only [hlh, if_true, decide_true, Bool.or_true]
    rw [spec_l3Set.j5v_eq, g3, w6]
  · simp only [hlh, if_false, decide_false, Bool.or_false]
    rw [spec_l3Set.j5v_eq, g3, w6]
theorem spec_byte (T : List UInt8) (h60 : T.length ≤ 60) (P i : Nat) (hN : P + i < T.length) (u : UInt8) (b0 : bt (B T) ((P + i : Nat) : Int) = (u.toNat : Int)) (hu : u ≠ 93)
    (hR : P + (i + 2) < T.length → bt (B T) ((P + (i + 1) : Nat) : Int) = 45 → bt (B T) ((P + (i + 2) : Nat) : Int) = 93)
    (has has1 : List Bool) (many : Nat) (hm : many ≤ 100) (c : Bool)
    (g3 : ∀ m T a c p q s f, spec_l3Set.l1v has m (u.toNat : Int) (u.toNat : Int) T a c p q s f = spec_l3Set.l0v has1 (wrap64 (m + 1)) T a c p q s f) (p q s f) :
    spec_l3Set.l0v has (many : Int) (B T) ((P + i : Nat) : Int) c p q s f = spec_l3Set.l0v has1 ((many + 1 : Nat) : Int) (B T) ((P + (i + 1) : Nat) : Int) c p q s f := by
  have l1 := u.toNat_lt
  have w3 : wrap64 (((P + i : Nat) : Int) + 1) = ((P + (i + 1) : Nat) : Int) := by
    have e_ : ((P + i : Nat) : Int) + 1 = ((P + (i + 1) : Nat) : Int) := by omega
    rw [e_]
    exact wrap_in (by omega) (by omega)
  have w4 : wrap64 (((P + (i + 1) : Nat) : Int) + 1) = ((P + (i + 2) : Nat) : Int) := by
    have e_ : ((P + (i + 1) : Nat) : Int) + 1 = ((P + (i + 2) : Nat) : Int) := by omega
    rw [e_]
    exact wrap_in (by omega) (by omega)
  have w6 : wrap64 ((many : Int) + 1) = ((many + 1 : Nat) : Int) := by rw [wrap_in (by omega) (by omega)]; omega
  have wu : wrap64 (u.toNat : Int) = (u.toNat : Int) := wrap_in (by omega) (by omega)
  have du : ((u.toNat : Int) != 93) = true := by rw [bne_iff_ne]; exact fun e => hu ((byte_is _ 93 93 rfl).1 e)
  have hs : ((B T).size : Int) = (T.length : Int) := by rw [B_size]
  have c1 : ((P + i : Nat) : Int) < (T.length : Int) := by omega
  have c2 : (0 : Int) ≤ ((P + i : Nat) : Int) := by omega
  have c0 : ¬ (u.toNat : Int) < (u.toNat : Int) := by omega
  have hj : spec_l3Set.j3v has (many : Int) (u.toNat : Int) (u.toNat : Int) false (B T) ((P + (i + 1) : Nat) : Int) c p q s f = spec_l3Set.l0v has1 ((many + 1 : Nat) : Int) (B T) ((P + (i + 1) : Nat) : Int) c p q s f := by
    rw [spec_l3Set.j3v_eq]
    simp only [Bool.false_eq_true, if_false]
    rw [spec_l3Set.j4v_eq, if_neg c0, spec_l3Set.j5v_eq, g3, w6]
  rw [spec_l3Set.l0v_eq]
  simp only [hs, c1, c2, b0, du, if_true]
  rw [spec_l3Set.j2v_eq]
  by_cases h5 : P + (i + 2) < T.length
  · have c3 : ((P + (i + 2) : Nat) : Int) < (T.length : Int) := by omega
    have c4 : (0 : Int) ≤ ((P + (i + 1) : Nat) : Int) := by omega
    have c5 : ((P + (i + 1) : Nat) : Int) < (T.length : Int) := by omega
    have c6 : (0 : Int) ≤ ((P + (i + 2) : Nat) : Int) := by omega
    by_cases h7 : bt (B T) ((P + (i + 1) : Nat) : Int) = 45
    · have h8 : ((93 : Int) != 93) = false := rfl
      simp only [hs, c1, c2, w3, w4, c3, c4, c5, c6, b0, h7, hR h5 h7, h8, wu, if_true, hj]
    · simp only [hs, c1, c2, w3, w4, c3, c4, c5, b0, h7, wu, if_true, if_false, hj]
  · have c3 : ¬ ((P + (i + 2) : Nat) : Int) < (T.length : Int) := by omega
    simp only [hs, c1, c2, w3, w4, c3, b0, wu, if_true, if_false, hj]
theorem spec_last (T pre body rest : List UInt8) (hT : T = pre ++ (body ++ rest)) (hr : rest = [] ∨ ∃ r2, rest = 93 :: r2) (has : List Bool) (m : Int) (c : Bool) (p q s f) :
    spec_l3Set.l0v has m (B T) ((pre.length + body.length : Nat) : Int) c p q s f = spec_l3Set.j2v has m false (B T) ((pre.length + body.length : Nat) : Int) c p q s f := by
  have hlen : T.length = pre.length + (body.length + rest.length) := by rw [hT, List.length_append, List.length_append]
  rw [spec_l3Set.l0v_eq]
  rcases hr with e | ⟨r2, e⟩
  · rw [if_neg (by rw [B_size, hlen, e, List.length_nil]; omega)]
  · rw [if_pos (by rw [B_size, hlen, e, List.length_cons]; omega), if_pos (by omega), place_end T pre body r2 (by rw [hT, e])]
    rfl
theorem set_run (T pre body rest : List UInt8) (hT : T = pre ++ (body ++ rest)) (h60 : T.length ≤ 60) (hb : (93 : UInt8) ∉ body) (hr : rest = [] ∨ ∃ r2, rest = 93 :: r2) (n : Nat) : ∀ (i many : Nat) (has : List Bool) (c : Bool), body.length - i ≤ n → i ≤ body.length → has.length = 256 → many ≤ i → (0 < i → 0 < many) →
    ∃ (has' : List Bool) (m' : Nat) (c' : Bool), has'.length = 256 ∧ m' ≤ body.length ∧ (0 < body.length → 0 < m') ∧
      (∀ S p q s f, impl_rexReader_set.l0v (B body) has (i : Int) S c p q s f = impl_rexReader_set.l2v [] has' 256 0 S c' p q s f) ∧
      (∀ p q s f, spec_l3Set.l0v has (many : Int) (B T) ((pre.length + i : Nat) : Int) c p q s f = spec_l3Set.j2v has' (m' : Int) false (B T) ((pre.length + body.length : Nat) : Int) c' p q s f) := by
  have hlen : T.length = pre.length + (body.length + rest.length) := by rw [hT, List.length_append, List.length_append]
  have hp := place_body T pre body rest hT
  induction n with
  | zero =>
    intro i many has c h0 h1 h2 h3 h4
    obtain rfl : i = body.length := by omega
    refine ⟨has, many, c, h2, h3, h4, fun S p q s f => ?_, fun p q s f => spec_last T pre body rest hT hr has _ c p q s f⟩
    rw [impl_rexReader_set.l0v_eq, if_neg (by rw [B_size]; omega), h2]
    rfl
  | succ n ih =>
    intro i many has c h0 h1 h2 h3 h4
    by_cases hi : i < body.length
    · have hne : body[i] ≠ 93 := fun e => hb (e ▸ List.getElem_mem hi)
      have hl := body[i].toNat_lt
      by_cases hR : ∃ h : i + 2 < body.length, body[i + 1]'(by omega) = 45
      · obtain ⟨hR1, hR3⟩ := hR
        have hne2 : body[i + 2] ≠ 93 := fun e => hb (e ▸ List.getElem_mem hR1)
        have hl2 := body[i + 2].toNat_lt
        obtain ⟨has1, g1, g2, g3⟩ := mark_both _ has (body[i].toNat : Int) (body[i + 2].toNat : Int) rfl (by omega) (by omega) h2
        obtain ⟨has', m', c', k1, k2, k3, k4, k5⟩ := ih (i + 3) (many + 1) has1 (c || decide ((body[i + 2].toNat : Int) < (body[i].toNat : Int))) (by omega) (by omega) g1 (by omega) (by omega)
        refine ⟨has', m', c', k1, k2, k3, fun S p q s f => ?_, fun p q s f => ?_⟩
        · rw [impl_range body (by omega) i hR1 hR3 has has1 c g2, k4]
        · rw [spec_range T h60 (pre.length + i) (pre.length + (i + 1)) (pre.length + (i + 2)) (pre.length + (i + 3)) (by omega) (by omega) (by omega) (by omega) body[i] body[i + 2] (hp i hi) (by rw [hp (i + 1) (by omega), hR3]; rfl) (hp (i + 2) hR1) hne hne2 has has1 many (by omega) c g3, k5]
      · obtain ⟨has1, g1, g2, g3⟩ := mark_both _ has (body[i].toNat : Int) (body[i].toNat : Int) rfl (by omega) (by omega) h2
        obtain ⟨has', m', c', k1, k2, k3, k4, k5⟩ := ih (i + 1) (many + 1) has1 c (by omega) (by omega) g1 (by omega) (by omega)
        refine ⟨has', m', c', k1, k2, k3, fun S p q s f => ?_, fun p q s f => ?_⟩
        · rw [impl_byte body (by omega) i hi (fun h e => hR ⟨h, e⟩) has has1 c g2, k4]
        · rw [spec_byte T h60 pre.length i (by omega) body[i] (hp i hi) hne (fun h5 h7 => ?_) has has1 many (by omega) c g3, k5]
          by_cases h9 : i + 1 < body.length
          · have h10 : body[i + 1] = 45 := by
              rw [hp (i + 1) h9] at h7
              exact (byte_is _ 45 45 rfl).1 h7
            have h11 : i + 2 = body.length := by
              by_cases h12 : i + 2 < body.length
              · exact absurd ⟨h12, h10⟩ hR
              · omega
            rcases hr with e | ⟨r2, e⟩
            · rw [e, List.length_nil] at hlen; omega
            · rw [h11, place_end T pre body r2 (by rw [hT, e])]
          · exfalso
            have h11 : i + 1 = body.length := by omega
            rcases hr with e | ⟨r2, e⟩
            · rw [e, List.length_nil] at hlen; omega
            · rw [h11, place_end T pre body r2 (by rw [hT, e])] at h7
              omega
    · exact ih i many has c (by omega) h1 h2 h3 h4

/-! ### both readers' answers -/
/-- both ask alike how deep a tree is -/
def RGood (x : S58) : Prop := ∃ v, spec_l3Deep.fv x.f0 x.f1 x.f2 x.f3 x.f4 = some v ∧ impl_rexDeep.fv x.f0 x.f1 x.f2 x.f3 x.f4 = some v
theorem max_both (a b : Int) : spec_l1Max.f a b = some (mx a b) := by
  unfold spec_l1Max.f mx
  by_cases h : a > b
  · rw [if_pos h]
    split <;> first | rfl | (congr 1; omega)
  · rw [if_neg h]
    split <;> first | rfl | (congr 1; omega)
theorem rdeep_loop (xs : List S58) (hl : xs.length ≤ 1000) (hg : ∀ x ∈ xs, RGood x) (n : Nat) : ∀ (i : Nat) (m : Int), xs.length - i = n → ∃ v, (∀ a b c e, spec_l3Deep.l0v m (i : Int) a b c e xs = some v) ∧ impl_rexDeep.l0v m xs (xs.length : Int) (i : Int) = some v := by
  induction n with
  | zero =>
    intro i m h
    refine ⟨wrap64 (m + 1), fun a b c e => ?_, ?_⟩
    · rw [spec_l3Deep.l0v_eq, if_neg (by omega)]
    · rw [impl_rexDeep.l0v_eq, if_neg (by omega)]
  | succ n ih =>
    intro i m h
    have hi : i < xs.length := by omega
    have hw : wrap64 ((i : Int) + 1) = ((i + 1 : Nat) : Int) := wr i (i + 1) 1 (by omega) (by omega)
    obtain ⟨v, e1, e2⟩ := hg _ (List.getElem_mem hi)
    have hrd : rd_T58 xs (i : Int) = xs[i] := by
      unfold rd_T58
      simp [List.getD, List.getElem?_eq_getElem hi]
    obtain ⟨u, k1, k2⟩ := ih (i + 1) (mx m v) (by omega)
    refine ⟨u, fun a b c e => ?_, ?_⟩
    · rw [spec_l3Deep.l0v_eq, if_pos (by omega), if_pos (by omega), hrd, e1, Option.bind_some, max_both, Option.bind_some, hw, k1]
    · rw [impl_rexDeep.l0v_eq, if_pos (by omega), if_pos (by omega), if_pos (by omega), hrd, e2, Option.bind_some, hw, k2]
theorem good_node (a b : Int) (c : ByteArray) (e : Bool) (xs : List S58) (hl : xs.length ≤ 1000) (hg : ∀ x ∈ xs, RGood x) : RGood (⟨a, b, c, e, xs⟩ : S58) := by
  obtain ⟨v, h1, h2⟩ := rdeep_loop xs hl hg _ 0 0 rfl
  refine ⟨v, ?_, ?_⟩
  · show spec_l3Deep.fv a b c e xs = some v
    rw [spec_l3Deep.fv_eq]
    exact h1 a b c e
  · show impl_rexDeep.fv a b c e xs = some v
    rw [impl_rexDeep.fv_eq]
    exact h2
theorem good_leaf (a b : Int) (c : ByteArray) (e : Bool) : RGood (⟨a, b, c, e, []⟩ : S58) := good_node a b c e [] (by simp) (by simp)
def Out (T l : List UInt8) (d k : Nat) (so : Option (Int × Int × ByteArray × Bool × List S58 × ByteArray × Int × Bool)) (io : Option (Int × Int × ByteArray × Bool × List S58 × ByteArray × Bool)) : Prop :=
  (∃ x l' p, l = p ++ l' ∧ k ≤ p.length ∧ RGood x ∧ SR T so x (pl T l') false ∧ IR io x l' false) ∨
  (∃ x y l' a, SR T so x a true ∧ IR io y l' true) ∨
  (∃ x y l' a, l'.length < d ∧ l'.length + k ≤ l.length ∧ RGood y ∧ SR T so x a true ∧ IR io y l' false)
theorem out_cons {T l : List UInt8} {c : UInt8} {d k k' : Nat} {so io} (h : Out T l d k so io) (hk : k' ≤ k + 1) : Out T (c :: l) d k' so io := by
  rcases h with ⟨x, l', p, e, h1, h2⟩ | h | ⟨x, y, l', a, h1, h2, h3⟩
  · exact .inl ⟨x, l', c :: p, by rw [e, List.cons_append], by rw [List.length_cons]; omega, h2⟩
  · exact .inr (.inl h)
  · exact .inr (.inr ⟨x, y, l', a, h1, by rw [List.length_cons]; omega, h3⟩)
theorem out_app {T l l' p : List UInt8} {d k k' : Nat} {so io} (e : l = p ++ l') (h : Out T l' d k so io) (hk : k' ≤ k + p.length) : Out T l d k' so io := by
  subst e
  rcases h with ⟨x, l2, p2, e, h1, h2⟩ | h | ⟨x, y, l2, a, h1, h2, h3⟩
  · exact .inl ⟨x, l2, p ++ p2, by rw [e, List.append_assoc], by rw [List.length_append]; omega, h2⟩
  · exact .inr (.inl h)
  · exact .inr (.inr ⟨x, y, l2, a, h1, by rw [List.length_append]; omega, h3⟩)
theorem ctx_app {T l l' p : List UInt8} {d : Nat} (h : Ctx T l d) (e : l = p ++ l') : Ctx T l' d := by
  have := ctx_drop h p.length
  rw [e, List.drop_left] at this
  exact this
theorem ctx_self (l : List UInt8) (h : l.length ≤ 60) : Ctx l l 0 := ⟨[], rfl, Nat.zero_le _, h⟩
theorem after_close (a r : List UInt8) : (B (a ++ 93 :: r)).extract (((a.length + 1 : Nat) : Int)).toNat (B (a ++ 93 :: r)).size = B r := by
  have e1 : (a ++ 93 :: r).drop (a.length + 1) = r := by
    rw [show a ++ 93 :: r = (a ++ [93]) ++ r by simp]
    exact List.drop_left' (by simp)
  rw [Int.toNat_natCast, B_extract, B_size, e1]
  congr 1
  apply List.take_of_length_le
  rw [List.length_append, List.length_cons]
  omega
theorem set_core (T l : List UInt8) (d : Nat) (h : Ctx T l d) (neg : Bool) : Out T l d 0 (spec_l3Set.j0v (B T) (pl T l) false 3 0 (⟨#[]⟩ : ByteArray) neg)
    ((strings_IndexByte.f (B l) 93).bind fun t324 => (if t324 < 1 then (some (0, 0, (⟨#[]⟩ : ByteArray), false, ([] : List (S58)), B l, true)) else (if 0 ≤ t324 then (if t324 ≤ ((B l).size : Int) then (if 0 ≤ (wrap64 (t324 + 1)) then (if (wrap64 (t324 + 1)) ≤ ((B l).size : Int) then (if 256 ≤ 281474976710656 then (impl_rexReader_set.l0v ((B l).extract 0 (t324 : Int).toNat) (List.replicate 256 false) 0 ((B l).extract ((wrap64 (t324 + 1)) : Int).toNat (B l).size) false 3 0 (⟨#[]⟩ : ByteArray) neg) else (none)) else (none)) else (none)) else (none)) else (none)))) := by
  obtain ⟨pre, hT, hd, h60⟩ := h
  have hlen : T.length = pre.length + l.length := by rw [hT, List.length_append]
  have hpl : pl T l = ((pre.length + 0 : Nat) : Int) := by unfold pl; omega
  rw [hpl, spec_l3Set.j0v_eq, if_pos (by omega)]
  show Out T l d 0 _ ((some (Lib.indexByte (B l).data.toList 93)).bind _)
  rw [Option.bind_some, B_data]
  rcases idx_close l with ⟨e, hn⟩ | ⟨a, r, e, hn, hk⟩
  · obtain ⟨has', m', c', k1, k2, k3, -, k5⟩ := set_run T pre l [] (by rw [List.append_nil]; exact hT) h60 hn (.inl rfl) _ 0 0 (List.replicate 256 false) false (Nat.le_refl _) (Nat.zero_le _) (List.length_replicate ..) (Nat.le_refl _) (fun z => absurd z (Nat.lt_irrefl 0))
    obtain ⟨out', -, o2⟩ := out_both has' k1 _ 0 [] rfl (by omega) (by simp)
    have k5' := k5 3 0 (⟨#[]⟩ : ByteArray) neg
    rw [show ((0 : Nat) : Int) = 0 from rfl] at k5' o2
    rw [k5', spec_l3Set.j2v_eq, if_neg (by decide), if_pos (by rw [B_size]; omega), spec_l3Set.j7v_eq, if_pos rfl, spec_l3Set.j8v_eq, o2, e, if_pos (by decide)]
    exact .inr (.inl ⟨(⟨_, _, _, _, _⟩ : S58), (⟨_, _, _, _, _⟩ : S58), l, _, rfl, rfl⟩)
  · obtain ⟨has', m', c', k1, k2, k3, k4, k5⟩ := set_run T pre a (93 :: r) (by rw [hT, e]) h60 hn (.inr ⟨r, rfl⟩) _ 0 0 (List.replicate 256 false) false (Nat.le_refl _) (Nat.zero_le _) (List.length_replicate ..) (Nat.le_refl _) (fun z => absurd z (Nat.lt_irrefl 0))
    obtain ⟨out', o1, o2⟩ := out_both has' k1 _ 0 [] rfl (by omega) (by simp)
    have hl : l.length = a.length + (r.length + 1) := by rw [e, List.length_append, List.length_cons]
    have k5' := k5 3 0 (⟨#[]⟩ : ByteArray) neg
    have k4' := k4 (B r) 3 0 (⟨#[]⟩ : ByteArray) neg
    rw [show ((0 : Nat) : Int) = 0 from rfl] at k5' k4' o1 o2
    rw [k5', spec_l3Set.j2v_eq, if_neg (by decide), if_neg (by rw [B_size]; omega), spec_l3Set.j7v_eq, hk]
    by_cases h0 : a.length = 0
    · have hm : m' = 0 := by omega
      subst hm
      rw [if_pos (by rfl), spec_l3Set.j8v_eq, o2, if_pos (by omega)]
      exact .inr (.inl ⟨(⟨_, _, _, _, _⟩ : S58), (⟨_, _, _, _, _⟩ : S58), l, _, rfl, rfl⟩)
    · have hm := k3 (by omega)
      have x1 : (B l).extract 0 ((a.length : Nat) : Int).toNat = B a := by rw [Int.toNat_natCast, B_extract, e]; simp
      have x2 : (B l).extract (((a.length + 1 : Nat) : Int)).toNat (B l).size = B r := by rw [e]; exact after_close a r
      have y1 : ¬ ((m' : Int) == 0) = true := by rw [beq_iff_eq]; omega
      have y2 : ¬ (a.length : Int) < 1 := by omega
      have y3 : (0 : Int) ≤ (a.length : Int) := by omega
      have y4 : (a.length : Int) ≤ ((B l).size : Int) := by rw [B_size]; omega
      have y5 : (0 : Int) ≤ ((a.length + 1 : Nat) : Int) := by omega
      have y6 : ((a.length + 1 : Nat) : Int) ≤ ((B l).size : Int) := by rw [B_size]; omega
      have y7 : pl T r = ((pre.length + a.length + 1 : Nat) : Int) := by unfold pl; omega
      have w2 : wrap64 ((a.length : Int) + 1) = ((a.length + 1 : Nat) : Int) := wr a.length (a.length + 1) 1 (by omega) (by omega)
      have w1 : wrap64 (((pre.length + a.length : Nat) : Int) + 1) = pl T r := by
        rw [y7]
        exact wr (pre.length + a.length) (pre.length + a.length + 1) 1 (by clear w2; omega) (by clear w2; omega)
      rw [if_neg y1, spec_l3Set.j8v_eq, o2, if_neg y2, if_pos y3, if_pos y4, w2, if_pos y5, if_pos y6, if_pos (by decide), x1, x2, k4', o1, w1]
      cases c'
      · exact .inl ⟨(⟨_, _, _, _, _⟩ : S58), r, a ++ [93], by rw [e]; simp, Nat.zero_le _, good_leaf _ _ _ _, rfl, rfl⟩
      · exact .inr (.inl ⟨(⟨_, _, _, _, _⟩ : S58), (⟨_, _, _, _, _⟩ : S58), r, _, rfl, rfl⟩)
theorem set_sim (T l : List UInt8) (d : Nat) (h : Ctx T l d) : Out T l d 0 (spec_l3Set.fv (B T) (pl T l) false) (impl_rexReader_set.fv (B l) false) := by
  rw [spec_l3Set.fv_eq, impl_rexReader_set.fv_eq]
  cases l with
  | nil =>
    rw [now_end, take_nil]
    exact set_core T [] d h false
  | cons c l =>
    rw [now_cons h]
    by_cases hc : (c.toNat : Int) = 94
    · rw [take_hit c l 94 hc, Option.bind_some, Option.bind_some]
      dsimp only
      rw [if_pos (by rw [hc]; rfl), ctx_next h]
      exact out_cons (set_core T l d (ctx_tail h) true) (by omega)
    · rw [take_miss c l 94 hc, Option.bind_some, Option.bind_some]
      dsimp only
      rw [if_neg (by rw [beq_iff_eq]; exact hc)]
      exact set_core T (c :: l) d h false

/-! ### one atom -/
def PatS (T l : List UInt8) (d : Nat) : Prop := Out T l d 0 (spec_l3Pattern.fv (B T) (pl T l) false (d : Int)) (impl_rexReader_pattern.fv (B l) false)
def AtomS (T l : List UInt8) (d : Nat) : Prop := Out T l d 1 (spec_l3Atom.fv (B T) (pl T l) false (d : Int)) (impl_rexReader_atom.fv (B l) false)
def PieceS (T l : List UInt8) (d : Nat) : Prop := Out T l d 1 (spec_l3Piece.fv (B T) (pl T l) false (d : Int)) (impl_rexReader_piece.fv (B l) false)
def PartS (T l : List UInt8) (d : Nat) : Prop := Out T l d 0 (spec_l3Part.fv (B T) (pl T l) false (d : Int)) (impl_rexReader_part.fv (B l) false)
theorem out_leaf (T : List UInt8) (c : UInt8) (l : List UInt8) (d : Nat) (a b : Int) (s : ByteArray) (e : Bool) : Out T (c :: l) d 1 (some (a, b, s, e, [], B T, pl T l, false)) (some (a, b, s, e, [], B l, false)) :=
  .inl ⟨(⟨a, b, s, e, []⟩ : S58), l, [c], rfl, Nat.le_refl _, good_leaf _ _ _ _, rfl, rfl⟩
theorem out_bad (T l l' : List UInt8) (d k : Nat) (a b a2 b2 at_ : Int) (s s2 : ByteArray) (e e2 : Bool) (xs ys : List S58) : Out T l d k (some (a, b, s, e, xs, B T, at_, true)) (some (a2, b2, s2, e2, ys, B l', true)) :=
  .inr (.inl ⟨(⟨a, b, s, e, xs⟩ : S58), (⟨a2, b2, s2, e2, ys⟩ : S58), l', at_, rfl, rfl⟩)
theorem atom_brackets (T : List UInt8) (c : UInt8) (l : List UInt8) (d : Nat) (h : Ctx T (c :: l) d) (hp : PatS T l (d + 1)) : Out T (c :: l) d 1
    ((spec_l3Pattern.fv (B T) (pl T l) false ((d + 1 : Nat) : Int)).bind fun bt124 => ((spec_l3Now.f bt124.2.2.2.2.2.1 bt124.2.2.2.2.2.2.1 bt124.2.2.2.2.2.2.2 41).bind fun bt135 => (if bt135.1 = true then (some (bt124.1, bt124.2.1, bt124.2.2.1, bt124.2.2.2.1, bt124.2.2.2.2.1, bt135.2.1, wrap64 (bt135.2.2.1 + 1), bt135.2.2.2)) else (some (bt124.1, bt124.2.1, bt124.2.2.1, bt124.2.2.2.1, bt124.2.2.2.2.1, bt135.2.1, wrap64 (bt135.2.2.1 + 1), true)))))
    ((impl_rexReader_pattern.fv (B l) false).bind fun bt341 => ((impl_rexReader_take.f bt341.2.2.2.2.2.1 bt341.2.2.2.2.2.2 41).bind fun bt351 => (if bt351.1 = true then (some (bt341.1, bt341.2.1, bt341.2.2.1, bt341.2.2.2.1, bt341.2.2.2.2.1, bt351.2.1, bt351.2.2)) else (some (bt341.1, bt341.2.1, bt341.2.2.1, bt341.2.2.2.1, bt341.2.2.2.2.1, bt351.2.1, true))))) := by
  have h1 := ctx_tail h
  rcases hp with ⟨x, l', p, e, -, hg, hs, hi⟩ | ⟨x, y, l', a, hs, hi⟩ | ⟨x, y, l', a, hlt, hle, hg, hs, hi⟩
  · rw [show _ = _ from hs, show _ = _ from hi, Option.bind_some, Option.bind_some]
    dsimp only
    have h2 : Ctx T l' d := ctx_app h1 e
    cases l' with
    | nil =>
      rw [now_end, take_nil, Option.bind_some, Option.bind_some]
      dsimp only
      rw [if_neg (by decide), if_neg (by decide)]
      exact out_bad ..
    | cons c' l' =>
      rw [now_cons h2]
      by_cases hc : (c'.toNat : Int) = 41
      · rw [take_hit c' l' 41 hc, Option.bind_some, Option.bind_some]
        dsimp only
        rw [if_pos (by rw [hc]; rfl), if_pos rfl, ctx_next h2]
        exact .inl ⟨x, l', c :: p ++ [c'], by rw [e]; simp, by simp, hg, rfl, rfl⟩
      · rw [take_miss c' l' 41 hc, Option.bind_some, Option.bind_some]
        dsimp only
        rw [if_neg (by rw [beq_iff_eq]; exact hc), if_neg (by decide)]
        exact out_bad ..
  · rw [show _ = _ from hs, show _ = _ from hi, Option.bind_some, Option.bind_some]
    dsimp only
    rw [now_bad, take_bad, Option.bind_some, Option.bind_some]
    dsimp only
    rw [if_neg (by decide), if_neg (by decide)]
    exact out_bad ..
  · rw [show _ = _ from hs, show _ = _ from hi, Option.bind_some, Option.bind_some]
    dsimp only
    rw [now_bad, Option.bind_some]
    dsimp only
    rw [if_neg (by decide)]
    cases l' with
    | nil =>
      rw [take_nil, Option.bind_some]
      dsimp only
      rw [if_neg (by decide)]
      exact out_bad ..
    | cons c' l' =>
      by_cases hc : (c'.toNat : Int) = 41
      · rw [take_hit c' l' 41 hc, Option.bind_some]
        dsimp only
        rw [if_pos rfl]
        rw [List.length_cons] at hlt hle
        exact .inr (.inr ⟨x, y, l', _, by omega, by rw [List.length_cons]; omega, hg, rfl, rfl⟩)
      · rw [take_miss c' l' 41 hc, Option.bind_some]
        dsimp only
        rw [if_neg (by decide)]
        exact out_bad ..
theorem atom_set (T : List UInt8) (c : UInt8) (l : List UInt8) (d : Nat) (h : Ctx T (c :: l) d) : Out T (c :: l) d 1
    ((spec_l3Set.fv (B T) (pl T l) false).bind fun bt139 => (some (bt139.1, bt139.2.1, bt139.2.2.1, bt139.2.2.2.1, bt139.2.2.2.2.1, bt139.2.2.2.2.2.1, bt139.2.2.2.2.2.2.1, bt139.2.2.2.2.2.2.2)))
    ((impl_rexReader_set.fv (B l) false).bind fun bt354 => (some (bt354.1, bt354.2.1, bt354.2.2.1, bt354.2.2.2.1, bt354.2.2.2.2.1, bt354.2.2.2.2.2.1, bt354.2.2.2.2.2.2))) := by
  have e1 : ∀ o : Option (Int × Int × ByteArray × Bool × List S58 × ByteArray × Int × Bool), (o.bind fun bt139 => (some (bt139.1, bt139.2.1, bt139.2.2.1, bt139.2.2.2.1, bt139.2.2.2.2.1, bt139.2.2.2.2.2.1, bt139.2.2.2.2.2.2.1, bt139.2.2.2.2.2.2.2))) = o := fun o => by cases o <;> rfl
  have e2 : ∀ o : Option (Int × Int × ByteArray × Bool × List S58 × ByteArray × Bool), (o.bind fun bt354 => (some (bt354.1, bt354.2.1, bt354.2.2.1, bt354.2.2.2.1, bt354.2.2.2.2.1, bt354.2.2.2.2.2.1, bt354.2.2.2.2.2.2))) = o := fun o => by cases o <;> rfl
  rw [e1, e2]
  exact out_cons (set_sim T l d (ctx_tail h)) (Nat.le_refl _)
theorem atom_escape (T : List UInt8) (c : UInt8) (l : List UInt8) (d : Nat) (h : Ctx T (c :: l) d) : Out T (c :: l) d 1
    (if (pl T l) ≥ ((B T).size : Int) then (some (0, 0, (⟨#[]⟩ : ByteArray), false, ([] : List (S58)), B T, pl T l, true)) else (if 0 ≤ pl T l then (if pl T l < ((B T).size : Int) then (some (1, wrap64 (bt (B T) (pl T l)), (⟨#[]⟩ : ByteArray), false, ([] : List (S58)), B T, wrap64 (pl T l + 1), false)) else (none)) else (none)))
    ((impl_rexReader_next.f (B l) false).bind fun bt363 => (if bt363.2.1 = true then (if 1 ≤ (bt363.2.2.1.size : Int) then (some (1, wrap64 (bt363.1), (⟨#[]⟩ : ByteArray), false, ([] : List (S58)), bt363.2.2.1.extract 1 bt363.2.2.1.size, bt363.2.2.2)) else (none)) else (some (0, 0, (⟨#[]⟩ : ByteArray), false, ([] : List (S58)), bt363.2.2.1, true)))) := by
  have h1 := ctx_tail h
  cases l with
  | nil =>
    rw [if_pos (by rw [pl_nil, B_size]; omega), next_nil, Option.bind_some]
    dsimp only
    rw [if_neg (by decide)]
    exact out_bad ..
  | cons c2 l =>
    rw [if_neg (by have := ctx_lt h1; omega), if_pos (pl_ge _ _), if_pos (ctx_lt h1), ctx_bt h1, ctx_next h1, next_cons, Option.bind_some]
    dsimp only
    rw [if_pos rfl, if_pos (one_in c2 l), rest_of]
    exact out_cons (out_leaf T c2 l d 1 (wrap64 (c2.toNat : Int)) (⟨#[]⟩ : ByteArray) false) (by omega)
theorem atom_low (T : List UInt8) (c : UInt8) (l : List UInt8) (d : Nat) (h : Ctx T (c :: l) d) (hd : d ≤ 40) (hp : PatS T l (d + 1)) : AtomS T (c :: l) d := by
  unfold AtomS
  have hw : wrap64 ((d : Int) + 1) = ((d + 1 : Nat) : Int) := wr d (d + 1) 1 (by omega) (by omega)
  have h0 : decide ((d : Int) > 40) = false := decide_eq_false (by omega)
  have hge : ¬ pl T (c :: l) ≥ ((B T).size : Int) := by have := ctx_lt h; omega
  rw [spec_l3Atom.fv_eq, if_neg (by decide), if_neg hge, h0, spec_l3Atom.j0v_eq, if_neg (by decide), if_pos (pl_ge _ _), if_pos (ctx_lt h), ctx_bt h, ctx_next h, hw,
    impl_rexReader_atom.fv_eq, next_cons, Option.bind_some]
  dsimp only
  rw [if_pos (one_in c l), rest_of c l]
  by_cases h40 : (c.toNat : Int) = 40
  · rw [if_pos h40, if_pos h40]
    exact atom_brackets T c l d h hp
  rw [if_neg h40, if_neg h40]
  by_cases h46 : (c.toNat : Int) = 46
  · rw [if_pos h46, if_pos h46]
    exact out_leaf ..
  rw [if_neg h46, if_neg h46]
  by_cases h94 : (c.toNat : Int) = 94
  · rw [if_pos h94, if_pos h94]
    exact out_leaf ..
  rw [if_neg h94, if_neg h94]
  by_cases h36 : (c.toNat : Int) = 36
  · rw [if_pos h36, if_pos h36]
    exact out_leaf ..
  rw [if_neg h36, if_neg h36]
  by_cases h91 : (c.toNat : Int) = 91
  · rw [if_pos h91, if_pos h91]
    exact atom_set T c l d h
  rw [if_neg h91, if_neg h91]
  by_cases h92 : (c.toNat : Int) = 92
  · rw [if_pos h92, if_pos h92]
    exact atom_escape T c l d h
  rw [if_neg h92, if_neg h92]
  by_cases h42 : (c.toNat : Int) = 42
  · rw [if_pos h42, if_pos h42]
    exact out_bad ..
  rw [if_neg h42, if_neg h42]
  by_cases h43 : (c.toNat : Int) = 43
  · rw [if_pos h43, if_pos h43]
    exact out_bad ..
  rw [if_neg h43, if_neg h43]
  by_cases h63 : (c.toNat : Int) = 63
  · rw [if_pos h63, if_pos h63]
    exact out_bad ..
  rw [if_neg h63, if_neg h63]
  exact out_leaf ..
theorem atom_sim (T : List UInt8) (c : UInt8) (l : List UInt8) (d : Nat) (h : Ctx T (c :: l) d) (hp : PatS T l (d + 1)) (hp2 : PatS (c :: l) l 1) : AtomS T (c :: l) d := by
  by_cases hd : d ≤ 40
  · exact atom_low T c l d h hd hp
  · have hlen := ctx_len h
    rw [List.length_cons] at hlen
    have h0 : decide ((d : Int) > 40) = true := decide_eq_true (by omega)
    have hge : ¬ pl T (c :: l) ≥ ((B T).size : Int) := by have := ctx_lt h; omega
    have hs : spec_l3Atom.fv (B T) (pl T (c :: l)) false (d : Int) = some (0, 0, (⟨#[]⟩ : ByteArray), false, ([] : List (S58)), B T, pl T (c :: l), true) := by
      rw [spec_l3Atom.fv_eq, if_neg (by decide), if_neg hge, h0, spec_l3Atom.j0v_eq, if_pos rfl]
    unfold AtomS
    rw [hs]
    rcases atom_low (c :: l) c l 0 (ctx_self _ (by rw [List.length_cons]; omega)) (by omega) hp2 with ⟨x, l', p, e, hk, hg, -, hi⟩ | ⟨x, y, l', a, -, hi⟩ | ⟨x, y, l', a, hlt, _⟩
    · have e2 := congrArg List.length e
      rw [List.length_cons, List.length_append] at e2
      exact .inr (.inr ⟨(⟨0, 0, (⟨#[]⟩ : ByteArray), false, []⟩ : S58), x, l', _, by omega, by rw [List.length_cons]; omega, hg, rfl, hi⟩)
    · exact .inr (.inl ⟨(⟨0, 0, (⟨#[]⟩ : ByteArray), false, []⟩ : S58), y, l', _, rfl, hi⟩)
    · exact absurd hlt (Nat.not_lt_zero _)

/-! ### pieces, parts, patterns -/
theorem eta_ (x : S58) : (⟨x.f0, x.f1, x.f2, x.f3, x.f4⟩ : S58) = x := by cases x; rfl
theorem good_rep (k : Int) (x : S58) (hg : RGood x) : RGood (⟨k, 0, (⟨#[]⟩ : ByteArray), false, [x]⟩ : S58) :=
  good_node _ _ _ _ [x] (by simp) (fun y hy => by rw [List.mem_singleton] at hy; rw [hy]; exact hg)
theorem piece_loop (l : List UInt8) : ∀ (T : List UInt8) (d : Nat) (x : S58), Ctx T l d → RGood x →
    Out T l d 0 (spec_l3Piece.l0v (B T) (pl T l) false x.f0 x.f1 x.f2 x.f3 x.f4) (impl_rexReader_piece.l0v (B l) false x.f0 x.f1 x.f2 x.f3 x.f4) := by
  induction l with
  | nil =>
    intro T d x h hg
    rw [spec_l3Piece.l0v_eq, if_neg (by decide), now_end, Option.bind_some]
    dsimp only
    rw [if_neg (by decide), now_end, Option.bind_some]
    dsimp only
    rw [if_neg (by decide), now_end, Option.bind_some]
    dsimp only
    rw [if_neg (by decide), if_pos rfl, impl_rexReader_piece.l0v_eq, next_nil, Option.bind_some]
    dsimp only
    rw [if_neg (by decide)]
    exact .inl ⟨x, [], [], rfl, Nat.le_refl _, hg, rfl, rfl⟩
  | cons c l ih =>
    intro T d x h hg
    have h1 := ctx_tail h
    rw [spec_l3Piece.l0v_eq, if_neg (by decide), now_cons h, Option.bind_some, impl_rexReader_piece.l0v_eq, next_cons, Option.bind_some]
    dsimp only
    rw [if_pos rfl]
    by_cases h42 : (c.toNat : Int) = 42
    · have hr : impl_repeatOf.f (c.toNat : Int) = some 8 := by unfold impl_repeatOf.f; rw [if_pos h42]
      rw [if_pos (by rw [h42]; rfl), if_neg (by decide), ctx_next h, hr, Option.bind_some, Option.bind_some, if_neg (by decide), if_pos (one_in c l), rest_of, eta_]
      exact out_cons (ih T d (⟨8, 0, (⟨#[]⟩ : ByteArray), false, [x]⟩ : S58) h1 (good_rep 8 x hg)) (by omega)
    rw [if_neg (by rw [beq_iff_eq]; exact h42), now_cons h, Option.bind_some]
    dsimp only
    by_cases h43 : (c.toNat : Int) = 43
    · have hr : impl_repeatOf.f (c.toNat : Int) = some 9 := by unfold impl_repeatOf.f; rw [if_neg h42, if_pos h43]
      rw [if_pos (by rw [h43]; rfl), if_neg (by decide), ctx_next h, hr, Option.bind_some, Option.bind_some, if_neg (by decide), if_pos (one_in c l), rest_of, eta_]
      exact out_cons (ih T d (⟨9, 0, (⟨#[]⟩ : ByteArray), false, [x]⟩ : S58) h1 (good_rep 9 x hg)) (by omega)
    rw [if_neg (by rw [beq_iff_eq]; exact h43), now_cons h, Option.bind_some]
    dsimp only
    by_cases h63 : (c.toNat : Int) = 63
    · have hr : impl_repeatOf.f (c.toNat : Int) = some 10 := by unfold impl_repeatOf.f; rw [if_neg h42, if_neg h43, if_pos h63]
      rw [if_pos (by rw [h63]; rfl), if_neg (by decide), ctx_next h, hr, Option.bind_some, Option.bind_some, if_neg (by decide), if_pos (one_in c l), rest_of, eta_]
      exact out_cons (ih T d (⟨10, 0, (⟨#[]⟩ : ByteArray), false, [x]⟩ : S58) h1 (good_rep 10 x hg)) (by omega)
    have hr : impl_repeatOf.f (c.toNat : Int) = some 0 := by unfold impl_repeatOf.f; rw [if_neg h42, if_neg h43, if_neg h63]
    rw [if_neg (by rw [beq_iff_eq]; exact h63), if_pos rfl, hr, Option.bind_some, if_pos rfl]
    exact .inl ⟨x, c :: l, [], rfl, Nat.le_refl _, hg, rfl, rfl⟩
theorem piece_sim (T : List UInt8) (c : UInt8) (l : List UInt8) (d : Nat) (h : Ctx T (c :: l) d) (ha : AtomS T (c :: l) d) : PieceS T (c :: l) d := by
  unfold PieceS
  rw [spec_l3Piece.fv_eq, impl_rexReader_piece.fv_eq]
  rcases ha with ⟨x, l', p, e, hk, hg, hs, hi⟩ | ⟨x, y, l', a, hs, hi⟩ | ⟨x, y, l', a, hlt, hle, hg, hs, hi⟩
  · rw [show _ = _ from hs, show _ = _ from hi, Option.bind_some, Option.bind_some]
    dsimp only
    exact out_app e (piece_loop l' T d x (ctx_app h e) hg) (by omega)
  · rw [show _ = _ from hs, show _ = _ from hi, Option.bind_some, Option.bind_some]
    dsimp only
    rw [spec_l3Piece.l0v_eq, if_pos rfl, impl_rexReader_piece.l0v_eq, next_bad, Option.bind_some]
    dsimp only
    rw [if_neg (by decide)]
    exact out_bad ..
  · rw [show _ = _ from hs, show _ = _ from hi, Option.bind_some, Option.bind_some]
    dsimp only
    rw [spec_l3Piece.l0v_eq, if_pos rfl]
    have hlen := ctx_len h
    rw [List.length_cons] at hlen hle
    rcases piece_loop l' l' 0 y (ctx_self l' (by omega)) hg with ⟨z, l2, p2, e2, -, hg2, -, hi2⟩ | ⟨z, z2, l2, a2, -, hi2⟩ | ⟨z, z2, l2, a2, hlt2, _⟩
    · have e3 := congrArg List.length e2
      rw [List.length_append] at e3
      exact .inr (.inr ⟨x, z, l2, _, by omega, by rw [List.length_cons]; omega, hg2, rfl, hi2⟩)
    · exact .inr (.inl ⟨x, z2, l2, _, rfl, hi2⟩)
    · exact absurd hlt2 (Nat.not_lt_zero _)
theorem part_end (xs : List S58) : ∃ x : S58, ((xs.length ≤ 1000 → (∀ y ∈ xs, RGood y) → RGood x)) ∧ (∀ S a b, spec_l3Part.j1v xs S a b = some (x.f0, x.f1, x.f2, x.f3, x.f4, S, a, b)) ∧ (∀ S b, impl_rexReader_part.j1v xs S b = some (x.f0, x.f1, x.f2, x.f3, x.f4, S, b)) := by
  by_cases h0 : (xs.length : Int) = 0
  · refine ⟨⟨11, 0, (⟨#[]⟩ : ByteArray), false, []⟩, fun _ _ => good_leaf _ _ _ _, fun S a b => ?_, fun S b => ?_⟩
    · rw [spec_l3Part.j1v_eq, if_pos h0]
    · rw [impl_rexReader_part.j1v_eq, if_pos h0]
  · by_cases h1 : (xs.length : Int) = 1
    · obtain ⟨y, rfl⟩ : ∃ y, xs = [y] := List.length_eq_one_iff.1 (by omega)
      refine ⟨y, fun _ hg => hg y (by simp), fun S a b => ?_, fun S b => ?_⟩
      · rw [spec_l3Part.j1v_eq, if_neg h0, if_pos h1, if_pos (by omega)]
        rfl
      · rw [impl_rexReader_part.j1v_eq, if_neg h0, if_pos h1, if_pos (by omega)]
        rfl
    · refine ⟨⟨6, 0, (⟨#[]⟩ : ByteArray), false, xs⟩, fun hl hg => good_node _ _ _ _ xs hl hg, fun S a b => ?_, fun S b => ?_⟩
      · rw [spec_l3Part.j1v_eq, if_neg h0, if_neg h1]
      · rw [impl_rexReader_part.j1v_eq, if_neg h0, if_neg h1]
theorem mem_more {xs : List S58} {x : S58} (h : ∀ y ∈ xs, RGood y) (hx : RGood x) : ∀ y ∈ xs ++ [x], RGood y := by
  intro y hy
  rcases List.mem_append.1 hy with h1 | h1
  · exact h y h1
  · rw [List.mem_singleton] at h1
    rw [h1]
    exact hx
theorem part_loop (n : Nat) (HP : ∀ (T : List UInt8) (c : UInt8) (l : List UInt8) (d : Nat), l.length < n → Ctx T (c :: l) d → PieceS T (c :: l) d) (m : Nat) : ∀ (l T : List UInt8) (d : Nat) (xs : List S58), l.length ≤ m → l.length ≤ n → Ctx T l d → xs.length + l.length ≤ 500 → (∀ y ∈ xs, RGood y) →
    Out T l d 0 (spec_l3Part.l0v (d : Int) xs (B T) (pl T l) false) (impl_rexReader_part.l0v xs (B l) false) := by
  induction m with
  | zero =>
    intro l T d xs hm hn h hx hg
    obtain rfl : l = [] := List.length_eq_zero_iff.1 (by omega)
    obtain ⟨x, hgx, h1, h2⟩ := part_end xs
    rw [spec_l3Part.l0v_eq, if_neg (by decide), if_neg (by rw [pl_nil, B_size]; omega), h1, impl_rexReader_part.l0v_eq, next_nil, Option.bind_some]
    dsimp only
    rw [if_neg (by decide), h2]
    exact .inl ⟨x, [], [], rfl, Nat.le_refl _, hgx (by omega) hg, rfl, rfl⟩
  | succ m ih =>
    intro l T d xs hm hn h hx hg
    obtain ⟨x, hgx, h1, h2⟩ := part_end xs
    cases l with
    | nil =>
      rw [spec_l3Part.l0v_eq, if_neg (by decide), if_neg (by rw [pl_nil, B_size]; omega), h1, impl_rexReader_part.l0v_eq, next_nil, Option.bind_some]
      dsimp only
      rw [if_neg (by decide), h2]
      exact .inl ⟨x, [], [], rfl, Nat.le_refl _, hgx (by omega) hg, rfl, rfl⟩
    | cons c l =>
      rw [List.length_cons] at hm hn hx
      rw [spec_l3Part.l0v_eq, if_neg (by decide), if_pos (ctx_lt h), if_pos (pl_ge _ _), ctx_bt h, impl_rexReader_part.l0v_eq, next_cons, Option.bind_some]
      dsimp only
      rw [if_pos rfl]
      by_cases h124 : (c.toNat : Int) = 124
      · rw [if_pos h124, if_pos h124, h1, h2]
        exact .inl ⟨x, c :: l, [], rfl, Nat.le_refl _, hgx (by omega) hg, rfl, rfl⟩
      rw [if_neg h124, if_neg h124]
      by_cases h41 : (c.toNat : Int) = 41
      · rw [if_pos h41, if_pos h41, h1, h2]
        exact .inl ⟨x, c :: l, [], rfl, Nat.le_refl _, hgx (by omega) hg, rfl, rfl⟩
      rw [if_neg h41, if_neg h41]
      rcases HP T c l d (by omega) h with ⟨z, l', p, e, hk, hgz, hs, hi⟩ | ⟨z, y, l', a, hs, hi⟩ | ⟨z, y, l', a, hlt, hle, hgy, hs, hi⟩
      · have e3 := congrArg List.length e
        rw [List.length_append, List.length_cons] at e3
        rw [show _ = _ from hs, show _ = _ from hi, Option.bind_some, Option.bind_some]
        dsimp only
        rw [if_pos (by omega), if_pos (by omega), eta_]
        exact out_app e (ih l' T d (xs ++ [z]) (by omega) (by omega) (ctx_app h e) (by rw [List.length_append, List.length_singleton]; omega) (mem_more hg hgz)) (by omega)
      · rw [show _ = _ from hs, show _ = _ from hi, Option.bind_some, Option.bind_some]
        dsimp only
        rw [if_pos (by omega), if_pos (by omega), eta_, eta_]
        obtain ⟨u, -, u1, -⟩ := part_end (xs ++ [z])
        obtain ⟨v, -, -, v1⟩ := part_end (xs ++ [y])
        rw [spec_l3Part.l0v_eq, if_pos rfl, impl_rexReader_part.l0v_eq, next_bad, Option.bind_some]
        dsimp only
        rw [if_neg (by decide)]
        exact .inr (.inl ⟨u, v, l', a, u1 .., v1 ..⟩)
      · rw [show _ = _ from hs, show _ = _ from hi, Option.bind_some, Option.bind_some]
        dsimp only
        rw [if_pos (by omega), if_pos (by omega), eta_, eta_]
        obtain ⟨u, -, u1, -⟩ := part_end (xs ++ [z])
        rw [spec_l3Part.l0v_eq, if_pos rfl]
        have hlen := ctx_len h
        rw [List.length_cons] at hlen hle
        rcases ih l' l' 0 (xs ++ [y]) (by omega) (by omega) (ctx_self l' (by omega)) (by rw [List.length_append, List.length_singleton]; omega) (mem_more hg hgy) with ⟨z2, l2, p2, e2, -, hg2, -, hi2⟩ | ⟨z1, z2, l2, a2, -, hi2⟩ | ⟨z1, z2, l2, a2, hlt2, _⟩
        · have e3 := congrArg List.length e2
          rw [List.length_append] at e3
          exact .inr (.inr ⟨u, z2, l2, a, by omega, by rw [List.length_cons]; omega, hg2, u1 .., hi2⟩)
        · exact .inr (.inl ⟨u, z2, l2, a, u1 .., hi2⟩)
        · exact absurd hlt2 (Nat.not_lt_zero _)
theorem part_sim (n : Nat) (HP : ∀ (T : List UInt8) (c : UInt8) (l : List UInt8) (d : Nat), l.length < n → Ctx T (c :: l) d → PieceS T (c :: l) d) (l T : List UInt8) (d : Nat) (hn : l.length ≤ n) (h : Ctx T l d) : PartS T l d := by
  unfold PartS
  rw [spec_l3Part.fv_eq, impl_rexReader_part.fv_eq]
  have hlen := ctx_len h
  exact part_loop n HP _ l T d [] (Nat.le_refl _) hn h (by rw [List.length_nil]; omega) (by simp)
/-- what a pattern of these parts is -/
theorem pat_end (xs : List S58) : ∃ x : S58, ((xs.length ≤ 1000 → (∀ y ∈ xs, RGood y) → RGood x)) ∧
    (∀ (S : ByteArray) (a : Int) (b : Bool), (if (xs.length : Int) = 1 then (if 0 < (xs.length : Int) then (some ((rd_T58 xs 0).f0, (rd_T58 xs 0).f1, (rd_T58 xs 0).f2, (rd_T58 xs 0).f3, (rd_T58 xs 0).f4, S, a, b)) else (none)) else (some (7, 0, (⟨#[]⟩ : ByteArray), false, xs, S, a, b))) = some (x.f0, x.f1, x.f2, x.f3, x.f4, S, a, b)) ∧
    (∀ (S : ByteArray) (b : Bool), (if (xs.length : Int) = 1 then (if 0 < (xs.length : Int) then (some ((rd_T58 xs 0).f0, (rd_T58 xs 0).f1, (rd_T58 xs 0).f2, (rd_T58 xs 0).f3, (rd_T58 xs 0).f4, S, b)) else (none)) else (some (7, 0, (⟨#[]⟩ : ByteArray), false, xs, S, b))) = some (x.f0, x.f1, x.f2, x.f3, x.f4, S, b)) := by
  by_cases h1 : (xs.length : Int) = 1
  · obtain ⟨y, rfl⟩ : ∃ y, xs = [y] := List.length_eq_one_iff.1 (by omega)
    refine ⟨y, fun _ hg => hg y (by simp), fun S a b => ?_, fun S b => ?_⟩
    · rw [if_pos h1, if_pos (by omega)]
      rfl
    · rw [if_pos h1, if_pos (by omega)]
      rfl
  · refine ⟨⟨7, 0, (⟨#[]⟩ : ByteArray), false, xs⟩, fun hl hg => good_node _ _ _ _ xs hl hg, fun S a b => ?_, fun S b => ?_⟩
    · rw [if_neg h1]
    · rw [if_neg h1]
theorem pat_loop (n : Nat) (HP : ∀ (l T : List UInt8) (d : Nat), l.length ≤ n → Ctx T l d → PartS T l d) (m : Nat) : ∀ (l T : List UInt8) (d : Nat) (xs : List S58), l.length ≤ m → l.length ≤ n → Ctx T l d → xs.length + l.length ≤ 500 → (∀ y ∈ xs, RGood y) →
    Out T l d 0 (spec_l3Pattern.l0v (d : Int) xs (B T) (pl T l) false) (impl_rexReader_pattern.l0v xs (B l) false) := by
  induction m with
  | zero =>
    intro l T d xs hm hn h hx hg
    obtain rfl : l = [] := List.length_eq_zero_iff.1 (by omega)
    obtain ⟨x, hgx, h1, h2⟩ := pat_end xs
    rw [spec_l3Pattern.l0v_eq, now_end, Option.bind_some, impl_rexReader_pattern.l0v_eq, take_nil, Option.bind_some]
    dsimp only
    rw [if_neg (by decide), h1, if_neg (by decide), h2]
    exact .inl ⟨x, [], [], rfl, Nat.le_refl _, hgx (by omega) hg, rfl, rfl⟩
  | succ m ih =>
    intro l T d xs hm hn h hx hg
    obtain ⟨x, hgx, h1, h2⟩ := pat_end xs
    cases l with
    | nil =>
      rw [spec_l3Pattern.l0v_eq, now_end, Option.bind_some, impl_rexReader_pattern.l0v_eq, take_nil, Option.bind_some]
      dsimp only
      rw [if_neg (by decide), h1, if_neg (by decide), h2]
      exact .inl ⟨x, [], [], rfl, Nat.le_refl _, hgx (by omega) hg, rfl, rfl⟩
    | cons c l =>
      rw [List.length_cons] at hm hn hx
      rw [spec_l3Pattern.l0v_eq, now_cons h, Option.bind_some, impl_rexReader_pattern.l0v_eq]
      dsimp only
      by_cases h124 : (c.toNat : Int) = 124
      · have h3 := ctx_tail h
        rw [take_hit c l 124 h124, Option.bind_some]
        dsimp only
        rw [if_pos (by rw [h124]; rfl), if_pos rfl, ctx_next h]
        rcases HP l T d (by omega) h3 with ⟨z, l', p, e, hk, hgz, hs, hi⟩ | ⟨z, y, l', a, hs, hi⟩ | ⟨z, y, l', a, hlt, hle, hgy, hs, hi⟩
        · have e3 := congrArg List.length e
          rw [List.length_append] at e3
          rw [show _ = _ from hs, show _ = _ from hi, Option.bind_some, Option.bind_some]
          dsimp only
          rw [if_pos (by omega), if_pos (by omega), eta_]
          exact out_cons (out_app e (ih l' T d (xs ++ [z]) (by omega) (by omega) (ctx_app h3 e) (by rw [List.length_append, List.length_singleton]; omega) (mem_more hg hgz)) (Nat.zero_le _)) (Nat.zero_le _)
        · rw [show _ = _ from hs, show _ = _ from hi, Option.bind_some, Option.bind_some]
          dsimp only
          rw [if_pos (by omega), if_pos (by omega), eta_, eta_]
          obtain ⟨u, -, u1, -⟩ := pat_end (xs ++ [z])
          obtain ⟨v, -, -, v1⟩ := pat_end (xs ++ [y])
          rw [spec_l3Pattern.l0v_eq, now_bad, Option.bind_some, impl_rexReader_pattern.l0v_eq, take_bad, Option.bind_some]
          dsimp only
          rw [if_neg (by decide), u1, if_neg (by decide), v1]
          exact .inr (.inl ⟨u, v, l', a, rfl, rfl⟩)
        · rw [show _ = _ from hs, show _ = _ from hi, Option.bind_some, Option.bind_some]
          dsimp only
          rw [if_pos (by omega), if_pos (by omega), eta_, eta_]
          obtain ⟨u, -, u1, -⟩ := pat_end (xs ++ [z])
          rw [spec_l3Pattern.l0v_eq, now_bad, Option.bind_some]
          dsimp only
          rw [if_neg (by decide)]
          have hlen := ctx_len h
          rw [List.length_cons] at hlen
          rcases ih l' l' 0 (xs ++ [y]) (by omega) (by omega) (ctx_self l' (by omega)) (by rw [List.length_append, List.length_singleton]; omega) (mem_more hg hgy) with ⟨z2, l2, p2, e2, -, hg2, -, hi2⟩ | ⟨z1, z2, l2, a2, -, hi2⟩ | ⟨z1, z2, l2, a2, hlt2, _⟩
          · have e3 := congrArg List.length e2
            rw [List.length_append] at e3
            exact .inr (.inr ⟨u, z2, l2, a, by omega, by rw [List.length_cons]; omega, hg2, u1 .., hi2⟩)
          · exact .inr (.inl ⟨u, z2, l2, a, u1 .., hi2⟩)
          · exact absurd hlt2 (Nat.not_lt_zero _)
      · rw [take_miss c l 124 h124, Option.bind_some]
        dsimp only
        rw [if_neg (by rw [beq_iff_eq]; exact h124), h1, if_neg (by decide), h2]
        exact .inl ⟨x, c :: l, [], rfl, Nat.le_refl _, hgx (by omega) hg, rfl, rfl⟩
theorem pat_sim (n : Nat) (HP : ∀ (l T : List UInt8) (d : Nat), l.length ≤ n → Ctx T l d → PartS T l d) (l T : List UInt8) (d : Nat) (hn : l.length ≤ n) (h : Ctx T l d) : PatS T l d := by
  unfold PatS
  rw [spec_l3Pattern.fv_eq, impl_rexReader_pattern.fv_eq]
  have hlen := ctx_len h
  rcases HP l T d hn h with ⟨z, l', p, e, hk, hgz, hs, hi⟩ | ⟨z, y, l', a, hs, hi⟩ | ⟨z, y, l', a, hlt, hle, hgy, hs, hi⟩
  · have e3 := congrArg List.length e
    rw [List.length_append] at e3
    rw [show _ = _ from hs, show _ = _ from hi, Option.bind_some, Option.bind_some]
    dsimp only
    rw [eta_]
    exact out_app e (pat_loop n HP _ l' T d [z] (Nat.le_refl _) (by omega) (ctx_app h e) (by rw [List.length_singleton]; omega) (mem_more (xs := []) (by simp) hgz)) (Nat.zero_le _)
  · rw [show _ = _ from hs, show _ = _ from hi, Option.bind_some, Option.bind_some]
    dsimp only
    rw [eta_, eta_]
    obtain ⟨u, -, u1, -⟩ := pat_end [z]
    obtain ⟨v, -, -, v1⟩ := pat_end [y]
    rw [spec_l3Pattern.l0v_eq, now_bad, Option.bind_some, impl_rexReader_pattern.l0v_eq, take_bad, Option.bind_some]
    dsimp only
    rw [if_neg (by decide), u1, if_neg (by decide), v1]
    exact .inr (.inl ⟨u, v, l', a, rfl, rfl⟩)
  · rw [show _ = _ from hs, show _ = _ from hi, Option.bind_some, Option.bind_some]
    dsimp only
    rw [eta_, eta_]
    obtain ⟨u, -, u1, -⟩ := pat_end [z]
    rw [spec_l3Pattern.l0v_eq, now_bad, Option.bind_some]
    dsimp only
    rw [if_neg (by decide)]
    rcases pat_loop n HP _ l' l' 0 [y] (Nat.le_refl _) (by omega) (ctx_self l' (by omega)) (by rw [List.length_singleton]; omega) (mem_more (xs := []) (by simp) hgy) with ⟨z2, l2, p2, e2, -, hg2, -, hi2⟩ | ⟨z1, z2, l2, a2, -, hi2⟩ | ⟨z1, z2, l2, a2, hlt2, _⟩
    · have e3 := congrArg List.length e2
      rw [List.length_append] at e3
      exact .inr (.inr ⟨u, z2, l2, a, by omega, by omega, hg2, u1 .., hi2⟩)
    · exact .inr (.inl ⟨u, z2, l2, a, u1 .., hi2⟩)
    · exact absurd hlt2 (Nat.not_lt_zero _)
theorem all_sim (n : Nat) : ∀ (l T : List UInt8) (d : Nat), l.length < n → Ctx T l d → PatS T l d := by
  induction n with
  | zero => intro l T d h; exact absurd h (Nat.not_lt_zero _)
  | succ n ih =>
    have HA : ∀ (T : List UInt8) (c : UInt8) (l : List UInt8) (d : Nat), l.length < n → Ctx T (c :: l) d → PieceS T (c :: l) d := by
      intro T c l d hl h
      have hlen := ctx_len h
      rw [List.length_cons] at hlen
      exact piece_sim T c l d h (atom_sim T c l d h (ih l T (d + 1) hl (ctx_in h)) (ih l (c :: l) 1 hl (ctx_in (ctx_self (c :: l) (by rw [List.length_cons]; omega)))))
    intro l T d hl h
    exact pat_sim n (fun l T d hl h => part_sim n HA l T d hl h) l T d (by omega) h
/-- both read a text alike -/
theorem parse_both (s : ByteArray) : ∃ (x : S58) (ok : Bool), spec_RexParse.fv s = some (x.f0, x.f1, x.f2, x.f3, x.f4, ok) ∧ impl_RexParse.fv s = some (x.f0, x.f1, x.f2, x.f3, x.f4, ok) := by
  rw [spec_RexParse.fv_eq, impl_RexParse.fv_eq]
  by_cases h60 : (s.size : Int) > 60
  · rw [if_pos h60, if_pos h60]
    exact ⟨⟨0, 0, (⟨#[]⟩ : ByteArray), false, []⟩, false, rfl, rfl⟩
  rw [if_neg h60, if_neg h60]
  have hs : B s.data.toList = s := B_self s
  generalize s.data.toList = l at hs
  subst hs
  rw [B_size] at h60
  have hp0 : (0 : Int) = pl l l := by unfold pl; omega
  have hz : spec_l3Pattern.fv (B l) 0 false 0 = spec_l3Pattern.fv (B l) (pl l l) false ((0 : Nat) : Int) := by rw [← hp0]; rfl
  rw [hz]
  rcases all_sim (l.length + 1) l l 0 (by omega) (ctx_self l (by omega)) with ⟨z, l', p, e, hk, ⟨v, g1, g2⟩, hs, hi⟩ | ⟨z, y, l', a, hs, hi⟩ | ⟨z, y, l', a, hlt, _⟩
  · rw [show _ = _ from hs, show _ = _ from hi, Option.bind_some, Option.bind_some]
    dsimp only
    cases l' with
    | nil =>
      have y1 : pl l [] = ((B l).size : Int) := by rw [pl_nil, B_size]
      simp only [Bool.false_eq_true, if_false, if_pos y1, B_toList, if_true, g1, g2, Option.bind_some]
      by_cases h12 : v > 12
      · rw [if_pos h12]
        exact ⟨⟨0, 0, (⟨#[]⟩ : ByteArray), false, []⟩, false, rfl, rfl⟩
      · rw [if_neg h12]
        exact ⟨z, true, rfl, rfl⟩
    | cons c l' =>
      have e3 := congrArg List.length e
      rw [List.length_append, List.length_cons] at e3
      have y1 : ¬ pl l (c :: l') = ((B l).size : Int) := by unfold pl; rw [List.length_cons, B_size]; omega
      have y2 : ¬ (c :: l') = ([] : List UInt8) := by simp
      simp only [Bool.false_eq_true, if_false, if_neg y1, B_toList, if_neg y2]
      exact ⟨⟨0, 0, (⟨#[]⟩ : ByteArray), false, []⟩, false, rfl, rfl⟩
  · rw [show _ = _ from hs, show _ = _ from hi, Option.bind_some, Option.bind_some]
    dsimp only
    rw [if_pos rfl, if_pos rfl]
    exact ⟨⟨0, 0, (⟨#[]⟩ : ByteArray), false, []⟩, false, rfl, rfl⟩
  · exact absurd hlt (Nat.not_lt_zero _)

/-! ### a node and all below it, in the order of the walk -/
def pre (x : S38) : List S38 := x :: (x.f3.attach.map (fun k => pre k.1)).flatten
termination_by SizeOf.sizeOf x
decreasing_by
  have h := k.2
  cases x with
  | mk a b c l =>
    have h2 : SizeOf.sizeOf k.1 < SizeOf.sizeOf l := List.sizeOf_lt_of_mem h
    simp only [S38.mk.sizeOf_spec]
    omega
theorem pre_eq (x : S38) : pre x = x :: (x.f3.map pre).flatten := by
  rw [pre, List.attach_map_val (f := pre)]
theorem pre_pos (x : S38) : 1 ≤ (pre x).length := by rw [pre_eq]; simp
theorem flat_cut (l : List S38) (i : Nat) (h : i < l.length) : ((l.drop i).map pre).flatten = pre l[i] ++ ((l.drop (i + 1)).map pre).flatten := by
  rw [List.drop_eq_getElem_cons h, List.map_cons, List.flatten_cons]
theorem flat_len : ∀ l : List S38, l.length ≤ ((l.map pre).flatten).length
  | [] => by simp
  | k :: l => by
    have h1 := flat_len l
    have h2 := pre_pos k
    simp only [List.map_cons, List.flatten_cons, List.length_append, List.length_cons]
    omega
theorem flat_mem : ∀ (l : List S38) (k : S38), k ∈ l → (pre k).length ≤ ((l.map pre).flatten).length
  | [], k, h => by cases h
  | j :: l, k, h => by
    simp only [List.map_cons, List.flatten_cons, List.length_append]
    rcases List.mem_cons.1 h with e | e
    · subst e; omega
    · have := flat_mem l k e; omega
theorem pre_kid {x k : S38} (h : k ∈ x.f3) : (pre k).length < (pre x).length := by
  have := flat_mem x.f3 k h
  rw [pre_eq x, List.length_cons]; omega
theorem pre_len (x : S38) : x.f3.length < (pre x).length := by
  have := flat_len x.f3
  rw [pre_eq x, List.length_cons]; omega
theorem walk {σ : Type} (F : S38 → σ → Option σ) (L : S38 → Nat → σ → Option σ) (st : σ → S38 → Option σ)
    (hF : ∀ n s, F n s = (st s n).bind fun t => L n 0 t)
    (hC : ∀ n i s (h : i < n.f3.length), n.f3.length ≤ 2097153 → L n i s = (F n.f3[i] s).bind fun t => L n (i + 1) t)
    (hE : ∀ n s, L n n.f3.length s = some s) (d : Nat) :
    ∀ n : S38, (pre n).length ≤ d → d ≤ 2097153 → ∀ s, F n s = (pre n).foldlM st s := by
  induction d with
  | zero => intro n h; have := pre_pos n; omega
  | succ d ih =>
    intro n h hd s
    have hl := pre_len n
    have hL : ∀ e i : Nat, n.f3.length - i = e → i ≤ n.f3.length → ∀ t, L n i t = (((n.f3.drop i).map pre).flatten).foldlM st t := by
      intro e
      induction e with
      | zero =>
        intro i h1 h2 t
        have : i = n.f3.length := by omega
        subst this
        rw [hE, List.drop_of_length_le (by omega)]; rfl
      | succ e ihe =>
        intro i h1 h2 t
        have hi : i < n.f3.length := by omega
        have hk := pre_kid (List.getElem_mem hi)
        rw [hC n i t hi (by omega), ih n.f3[i] (by omega) (by omega) t, flat_cut _ _ hi, List.foldlM_append]
        congr 1
        funext u
        exact ihe (i + 1) (by omega) (by omega) u
    rw [hF, pre_eq n, List.foldlM_cons]
    show (st s n).bind _ = (st s n).bind _
    congr 1
    funext t
    have := hL n.f3.length 0 (by omega) (by omega) t
    rw [List.drop_zero] at this
    exact this
theorem walkB (F : S38 → Option Bool) (L : S38 → Nat → Option Bool) (p : S38 → Bool) (Q : S38 → Prop)
    (hF : ∀ n, Q n → F n = if p n = true then L n 0 else some false)
    (hC : ∀ n i (h : i < n.f3.length), n.f3.length ≤ 2097153 → L n i = (F n.f3[i]).bind fun t => if t = true then L n (i + 1) else some false)
    (hE : ∀ n, L n n.f3.length = some true) (d : Nat) :
    ∀ n : S38, (pre n).length ≤ d → d ≤ 2097153 → (∀ m, m ∈ pre n → Q m) → F n = some ((pre n).all p) := by
  induction d with
  | zero => intro n h; have := pre_pos n; omega
  | succ d ih =>
    intro n h hd hq
    have hl := pre_len n
    have hqk : ∀ (i : Nat) (hi : i < n.f3.length) (m : S38), m ∈ pre n.f3[i] → Q m := by
      intro i hi m hm
      refine hq m ?_
      rw [pre_eq n]
      exact List.mem_cons_of_mem _ (List.mem_flatten.2 ⟨_, List.mem_map_of_mem (List.getElem_mem hi), hm⟩)
    have hL : ∀ e i : Nat, n.f3.length - i = e → i ≤ n.f3.length → L n i = some ((((n.f3.drop i).map pre).flatten).all p) := by
      intro e
      induction e with
      | zero =>
        intro i h1 h2
        have : i = n.f3.length := by omega
        subst this
        rw [hE, List.drop_of_length_le (by omega)]; rfl
      | succ e ihe =>
        intro i h1 h2
        have hi : i < n.f3.length := by omega
        have hk := pre_kid (List.getElem_mem hi)
        rw [hC n i hi (by omega), ih n.f3[i] (by omega) (by omega) (hqk i hi), flat_cut _ _ hi, List.all_append, Option.bind_some, ihe (i + 1) (by omega) (by omega)]
        cases (pre n.f3[i]).all p <;> rfl
    have h0 := hL n.f3.length 0 (by omega) (by omega)
    rw [List.drop_zero] at h0
    have hme : n ∈ pre n := by rw [pre_eq n]; exact List.mem_cons_self ..
    rw [hF n (hq n hme), pre_eq n, List.all_cons, h0]
    cases p n <;> rfl
theorem pre_conv (d : Nat) : ∀ x : S32, bulk x ≤ d → (pre (conv x)).length ≤ bulk x + 1 := by
  induction d with
  | zero =>
    intro x h
    have hb := bulk_eq x
    have : x.f3 = [] := List.length_eq_zero_iff.1 (by omega)
    rw [conv_eq, pre_eq]
    simp [this]
  | succ d ih =>
    intro x h
    have hb := bulk_eq x
    rw [conv_eq, pre_eq]
    have hk : ∀ l : List S32, (∀ k, k ∈ l → k ∈ x.f3) → (((l.map conv).map pre).flatten).length ≤ (l.map bulk).sum + l.length := by
      intro l
      induction l with
      | nil => intro _; simp
      | cons k l ihl =>
        intro hm
        have h1 := ihl fun j hj => hm j (List.mem_cons_of_mem _ hj)
        have hkb := bulk_kid (hm k (List.mem_cons_self ..))
        have hpos : 1 ≤ x.f3.length := List.length_pos_of_mem (hm k (List.mem_cons_self ..))
        have h2 := ih k (by omega)
        simp only [List.map_cons, List.flatten_cons, List.length_append, List.sum_cons, List.length_cons]
        omega
    have := hk x.f3 fun k h => h
    simp only [List.length_cons]
    omega

/-! ### what a tidy node holds -/
def QQ (n : S38) : Prop := (n.f0 = 3 → n.f3 = []) ∧ (n.f0 = 21 → n.f3.length = 2)
theorem allE_nb {l : List S38} (h : allE l = true) : ∀ k, k ∈ l → nb k = true := fun k hk => by
  have := List.all_eq_true.1 h k hk
  rw [Bool.and_eq_true] at this
  exact this.1
theorem allS_nb {l : List S38} (h : allS l = true) : ∀ k, k ∈ l → nb k = true := fun k hk => by
  have := List.all_eq_true.1 h k hk
  rw [Bool.and_eq_true] at this
  exact this.1
theorem allB_nb {l : List S38} (h : allB l = true) : ∀ k, k ∈ l → nb k = true := fun k hk => by
  have := List.all_eq_true.1 h k hk
  rw [Bool.and_eq_true] at this
  exact this.1
theorem kids_of (n : S38) (h : spec_l9Node.fv n.f0 n.f1 n.f2 n.f3 = some true) : spec_l9Kids.fv n.f0 n.f1 n.f2 n.f3 = some true := by
  rw [spec_l9Node.fv_eq] at h
  cases hk : spec_l9Kids.fv n.f0 n.f1 n.f2 n.f3 with
  | none => rw [hk] at h; cases h
  | some b =>
    cases b
    · rw [hk, Option.bind_some, if_neg (by simp), spec_l9Node.j0v_eq, if_pos rfl] at h
      cases h
    · rfl
theorem kids_ok (a b : Int) (c : ByteArray) (l : List S38) (hl : l.length ≤ 1048576) (ih : ∀ k, k ∈ l → Good k) (h : spec_l9Kids.fv a b c l = some true) :
    (a = 3 → l = []) ∧ (a = 21 → l.length = 2) ∧ ∀ k, k ∈ l → nb k = true := by
  have run : ∀ t : Nat, (l.length : Int) = (t : Int) → spec_l9Es.fv a b c l 0 (t : Int) = some (allE l) := fun t ht => es_all l hl ih a b c t ht
  have run1 : (l.length : Int) = 1 → spec_l9Es.fv a b c l 0 1 = some (allE l) := fun h => run 1 h
  have run2 : (l.length : Int) = 2 → spec_l9Es.fv a b c l 0 2 = some (allE l) := fun h => run 2 h
  have bl : spec_l9Blocks.fv a b c l 1 = some (allB (l.drop 1)) ∨ l = [] := by
    by_cases h0 : l = []
    · exact .inr h0
    · have h1 : 1 ≤ l.length := List.length_pos_iff.2 h0
      rw [spec_l9Blocks.fv_eq]
      exact .inl (bs_run l hl ih a b c (l.length - 1) 1 rfl h1)
  have one : 1 ≤ l.length → spec_l9Es.fv a b c l 0 1 = some (allE (l.take 1)) := fun h => es_one l hl ih a b c h
  by_cases g1 : a = 5 ∨ a = 6 ∨ a = 22 ∨ a = 23 ∨ a = 34 ∨ a = 35
  · have e : spec_l9Kids.fv a b c l = (if (l.length : Int) = 1 then ((spec_l9Es.fv a b c l 0 1).bind fun t21 => (some t21)) else (some false)) := by
      rw [spec_l9Kids.fv_eq]
      rcases g1 with rfl | rfl | rfl | rfl | rfl | rfl <;> simp [spec_l9Kids.j0v_eq]
    rw [e] at h
    by_cases h1 : (l.length : Int) = 1
    · rw [if_pos h1, run1 h1, Option.bind_some] at h
      exact ⟨fun e => by omega, fun e => by omega, allE_nb (Option.some.inj h)⟩
    · rw [if_neg h1] at h; cases h
  · by_cases g2 : a = 9 ∨ a = 10 ∨ a = 11 ∨ a = 12 ∨ a = 13 ∨ a = 14 ∨ a = 15 ∨ a = 16 ∨ a = 17 ∨ a = 18 ∨ a = 19 ∨ a = 20 ∨ a = 21 ∨ a = 24 ∨ a = 25
    · have e : spec_l9Kids.fv a b c l = (if (l.length : Int) = 2 then ((spec_l9Es.fv a b c l 0 2).bind fun t21 => (some t21)) else (some false)) := by
        rw [spec_l9Kids.fv_eq]
        rcases g2 with rfl | rfl | rfl | rfl | rfl | rfl | rfl | rfl | rfl | rfl | rfl | rfl | rfl | rfl | rfl <;> simp [spec_l9Kids.j0v_eq, spec_l9Kids.j1v_eq]
      rw [e] at h
      by_cases h1 : (l.length : Int) = 2
      · rw [if_pos h1, run2 h1, Option.bind_some] at h
        exact ⟨fun e => by omega, fun e => by omega, allE_nb (Option.some.inj h)⟩
      · rw [if_neg h1] at h; cases h
    · by_cases g3 : a = 26 ∨ a = 27
      · have e : spec_l9Kids.fv a b c l = (if (l.length : Int) = 2 then (if 0 < (l.length : Int) then (if (rd_T38 l 0).f0 = 4 then ((spec_l9Es.fv a b c l 0 2).bind fun t68 => (some t68)) else (if (rd_T38 l 0).f0 = 5 then ((spec_l9Es.fv a b c l 0 2).bind fun t68 => (some t68)) else (some false))) else (none)) else (some false)) := by
          rw [spec_l9Kids.fv_eq]
          rcases g3 with rfl | rfl <;> simp [spec_l9Kids.j0v_eq, spec_l9Kids.j1v_eq, spec_l9Kids.j2v_eq]
        rw [e] at h
        by_cases h1 : (l.length : Int) = 2
        · rw [if_pos h1, if_pos (by omega), run2 h1, Option.bind_some] at h
          refine ⟨fun e => by omega, fun e => by omega, ?_⟩
          by_cases k4 : (rd_T38 l 0).f0 = 4
          · rw [if_pos k4] at h; exact allE_nb (Option.some.inj h)
          · rw [if_neg k4] at h
            by_cases k5 : (rd_T38 l 0).f0 = 5
            · rw [if_pos k5] at h; exact allE_nb (Option.some.inj h)
            · rw [if_neg k5] at h; cases h
        · rw [if_neg h1] at h; cases h
      · by_cases g4 : a = 28 ∨ a = 30
        · have e : spec_l9Kids.fv a b c l = ((spec_l9Es.fv a b c l 0 (l.length : Int)).bind fun t75 => (some t75)) := by
            rw [spec_l9Kids.fv_eq]
            rcases g4 with rfl | rfl <;> simp [spec_l9Kids.j0v_eq, spec_l9Kids.j1v_eq, spec_l9Kids.j2v_eq, spec_l9Kids.j3v_eq]
          rw [e, run _ rfl, Option.bind_some] at h
          exact ⟨fun e => by omega, fun e => by omega, allE_nb (Option.some.inj h)⟩
        · have two : ∀ K : Option Bool, 1 ≤ l.length → ((spec_l9Es.fv a b c l 0 1).bind fun t82 => (if t82 = true then ((spec_l9Blocks.fv a b c l 1).bind fun t86 => (some t86)) else (some false))) = some true → ∀ k, k ∈ l → nb k = true := by
            intro _ h1 h2
            rw [one h1, Option.bind_some] at h2
            by_cases q : allE (l.take 1) = true
            · rw [if_pos q] at h2
              rcases bl with hb | hb
              · rw [hb, Option.bind_some] at h2
                intro k hk
                rw [← List.take_append_drop 1 l] at hk
                rcases List.mem_append.1 hk with hk | hk
                · exact allE_nb q k hk
                · exact allB_nb (Option.some.inj h2) k hk
              · rw [hb] at h1; cases h1
            · rw [if_neg q] at h2; cases h2
          by_cases g31 : a = 31
          · subst g31
            have e : spec_l9Kids.fv 31 b c l = ((spec_l1In.f (l.length : Int) 2 3).bind fun t79 => (if t79 = true then ((spec_l9Es.fv 31 b c l 0 1).bind fun t82 => (if t82 = true then ((spec_l9Blocks.fv 31 b c l 1).bind fun t86 => (some t86)) else (some false))) else (some false))) := by
              rw [spec_l9Kids.fv_eq]
              simp [spec_l9Kids.j0v_eq, spec_l9Kids.j1v_eq, spec_l9Kids.j2v_eq, spec_l9Kids.j3v_eq]
            rw [e, in_s, Option.bind_some] at h
            by_cases q : 2 ≤ (l.length : Int) ∧ (l.length : Int) ≤ 3
            · rw [if_pos (decide_eq_true q)] at h
              exact ⟨fun e => by omega, fun e => by omega, two none (by omega) h⟩
            · rw [if_neg (by simp only [decide_eq_true_eq]; exact q)] at h; cases h
          · by_cases g32 : a = 32
            · subst g32
              have e : spec_l9Kids.fv 32 b c l = (if (l.length : Int) = 2 then ((spec_l9Es.fv 32 b c l 0 1).bind fun t94 => (if t94 = true then ((spec_l9Blocks.fv 32 b c l 1).bind fun t98 => (some t98)) else (some false))) else (some false)) := by
                rw [spec_l9Kids.fv_eq]
                simp [spec_l9Kids.j0v_eq, spec_l9Kids.j1v_eq, spec_l9Kids.j2v_eq, spec_l9Kids.j3v_eq]
              rw [e] at h
              by_cases q : (l.length : Int) = 2
              · rw [if_pos q] at h
                exact ⟨fun e => by omega, fun e => by omega, two none (by omega) h⟩
              · rw [if_neg q] at h; cases h
            · by_cases g29 : a = 29
              · subst g29
                have hs : spec_l9Kids.l0v (l.length : Int) 0 29 b c l = some (allS l) := by
                  have := ss_run l hl ih 29 b c l.length 0 (by omega) (by omega)
                  rwa [List.drop_zero] at this
                have e : spec_l9Kids.fv 29 b c l = some (allS l) := by
                  rw [spec_l9Kids.fv_eq]
                  simp [spec_l9Kids.j0v_eq, spec_l9Kids.j1v_eq, spec_l9Kids.j2v_eq, spec_l9Kids.j3v_eq, hs]
                rw [e] at h
                exact ⟨fun e => by omega, fun e => by omega, allS_nb (Option.some.inj h)⟩
              · have n1 : a ≠ 5 ∧ a ≠ 6 ∧ a ≠ 22 ∧ a ≠ 23 ∧ a ≠ 34 ∧ a ≠ 35 := by omega
                have n2 : a ≠ 9 ∧ a ≠ 10 ∧ a ≠ 11 ∧ a ≠ 12 ∧ a ≠ 13 ∧ a ≠ 14 ∧ a ≠ 15 ∧ a ≠ 16 ∧ a ≠ 17 ∧ a ≠ 18 ∧ a ≠ 19 ∧ a ≠ 20 ∧ a ≠ 21 ∧ a ≠ 24 ∧ a ≠ 25 := by omega
                have n3 : a ≠ 26 ∧ a ≠ 27 ∧ a ≠ 28 ∧ a ≠ 30 := by omega
                have e : spec_l9Kids.fv a b c l = some ((l.length : Int) == 0) := by
                  rw [spec_l9Kids.fv_eq]
                  simp [spec_l9Kids.j0v_eq, spec_l9Kids.j1v_eq, spec_l9Kids.j2v_eq, spec_l9Kids.j3v_eq, n1, n2, n3, g31, g32, g29]
                rw [e, len0] at h
                have h0 := of_decide_eq_true (Option.some.inj h)
                subst h0
                exact ⟨fun _ => rfl, fun e => by omega, fun k hk => by cases hk⟩
/-- All nodes below a tidy node have what their kind wants. -/
theorem nodes_ok (d : Nat) : ∀ x : S32, Wf32 x → bulk x ≤ d → d ≤ 1048576 → nb (conv x) = true → ∀ m, m ∈ pre (conv x) → QQ m := by
  induction d with
  | zero =>
    intro x hx hb hd hn m hm
    have hk := bulk_eq x
    have h3 : x.f3 = [] := List.length_eq_zero_iff.1 (by omega)
    have hg := good x hx (by omega)
    have hs := hg.sp
    rw [hn] at hs
    have hk2 : (conv x).f3 = [] := by rw [conv_eq, h3]; rfl
    obtain ⟨q1, q2, q3⟩ := kids_ok _ _ _ _ (by rw [hk2]; simp) (by rw [hk2]; intro k hk; cases hk) (kids_of _ hs)
    rw [pre_eq, hk2] at hm
    rcases List.mem_cons.1 hm with e | e
    · subst e; exact ⟨q1, q2⟩
    · cases e
  | succ d ih =>
    intro x hx hb hd hn m hm
    have hk := bulk_eq x
    have hg := good x hx (by omega)
    have hs := hg.sp
    rw [hn] at hs
    have hk2 : (conv x).f3 = x.f3.map conv := by rw [conv_eq]
    have hwf : ∀ y, y ∈ x.f3 → Wf32 y := by cases hx with | mk _ _ _ _ _ g => exact g
    obtain ⟨q1, q2, q3⟩ := kids_ok _ _ _ _ (by rw [hk2, List.length_map]; omega) (by
      rw [hk2]; intro k hk
      obtain ⟨y, hy, e⟩ := List.mem_map.1 hk
      have := bulk_kid hy
      subst e
      exact good y (hwf y hy) (by omega)) (kids_of _ hs)
    rw [pre_eq] at hm
    rcases List.mem_cons.1 hm with e | e
    · subst e; exact ⟨q1, q2⟩
    · obtain ⟨l, hl, hml⟩ := List.mem_flatten.1 e
      obtain ⟨k, hkm, ek⟩ := List.mem_map.1 hl
      have hkb := q3 k hkm
      rw [hk2] at hkm
      obtain ⟨y, hy, ey⟩ := List.mem_map.1 hkm
      have hb2 := bulk_kid hy
      have hp : 1 ≤ x.f3.length := List.length_pos_of_mem hy
      subst ek ey
      exact ih y (hwf y hy) (by omega) (by omega) hkb m hml

/-! ### the names of a program -/
def KL (l : List ByteArray) : List TL := l.map fun s => s.data.toList
theorem KL_len (l : List ByteArray) : (KL l).length = l.length := by simp [KL]
theorem KL_app (l m : List ByteArray) : KL (l ++ m) = KL l ++ KL m := by simp [KL]
theorem KL_back (l : List ByteArray) : (KL l).map (fun b => (⟨b.toArray⟩ : ByteArray)) = l := by
  unfold KL
  rw [List.map_map]
  conv => rhs; rw [← List.map_id l]
  exact List.map_congr_left fun s _ => B_self s
theorem rdS (r : List ByteArray) (i : Nat) (h : i < r.length) : rdOf ByteArray.empty r (i : Int) = r[i] := by
  unfold rdOf
  rw [Int.toNat_natCast, List.getD_eq_getElem?_getD, List.getElem?_eq_getElem h]
  rfl
theorem within_k (l : List ByteArray) (s : ByteArray) (hl : l.length ≤ 4000000) : spec_l7Within.fv l s = some (decide (s.data.toList ∈ KL l)) := by
  rw [within l s hl, Lib.toList_data]
  have : l.map ByteArray.toList = KL l := by unfold KL; exact List.map_congr_left fun s _ => Lib.toList_data s
  rw [this]
theorem put_loop (l : List ByteArray) (a : ByteArray) (hs : (KL l).Pairwise (· < ·)) (hn : a.data.toList ∉ KL l) (hl : l.length ≤ 4000000) (d : Nat) : ∀ i : Nat, l.length - i = d → i ≤ l.length →
    (∀ x, x ∈ (KL l).take i → x < a.data.toList) →
    ∃ r, spec_l10Put.l0v l a (i : Int) = some r ∧ (KL r).Pairwise (· < ·) ∧ (∀ x, x ∈ KL r ↔ x = a.data.toList ∨ x ∈ KL l) ∧ r.length ≤ l.length + 1 := by
  have fin : ∀ i : Nat, i ≤ l.length → (∀ x, x ∈ (KL l).take i → x < a.data.toList) → (∀ x, x ∈ (KL l).drop i → a.data.toList < x) →
      ∃ r, spec_l10Put.j0v l a (i : Int) = some r ∧ (KL r).Pairwise (· < ·) ∧ (∀ x, x ∈ KL r ↔ x = a.data.toList ∨ x ∈ KL l) ∧ r.length ≤ l.length + 1 := by
    intro i hi h1 h2
    refine ⟨l.take i ++ [a] ++ l.drop i, ?_, ?_, ?_, ?_⟩
    · rw [spec_l10Put.j0v_eq, Int.toNat_natCast, if_pos (by omega), if_pos (by omega), List.nil_append, if_pos (by simp; omega), if_pos (by simp; omega), if_pos (by simp; omega)]
    · have e : KL (l.take i ++ [a] ++ l.drop i) = (KL l).take i ++ ([a.data.toList] ++ (KL l).drop i) := by simp [KL]
      rw [e]
      have hs' := hs
      rw [← List.take_append_drop i (KL l)] at hs'
      obtain ⟨p1, p2, p3⟩ := List.pairwise_append.1 hs'
      refine List.pairwise_append.2 ⟨p1, List.pairwise_append.2 ⟨List.pairwise_singleton .., p2, ?_⟩, ?_⟩
      · intro x hx y hy
        rw [List.mem_singleton] at hx
        subst hx; exact h2 y hy
      · intro x hx y hy
        rcases List.mem_append.1 hy with hy | hy
        · rw [List.mem_singleton] at hy
          subst hy; exact h1 x hx
        · exact p3 x hx y hy
    · intro x
      have e : KL (l.take i ++ [a] ++ l.drop i) = (KL l).take i ++ ([a.data.toList] ++ (KL l).drop i) := by simp [KL]
      have e2 : x ∈ KL l ↔ x ∈ (KL l).take i ∨ x ∈ (KL l).drop i := by rw [← List.mem_append, List.take_append_drop]
      rw [e, List.mem_append, List.mem_append, List.mem_singleton, e2]
      constructor
      · rintro (h | h | h)
        · exact .inr (.inl h)
        · exact .inl h
        · exact .inr (.inr h)
      · rintro (h | h | h)
        · exact .inr (.inl h)
        · exact .inl h
        · exact .inr (.inr h)
    · simp; omega
  induction d with
  | zero =>
    intro i h1 h2 h3
    have e : i = l.length := by omega
    rw [spec_l10Put.l0v_eq, if_neg (by omega)]
    refine fin i h2 h3 fun x hx => ?_
    rw [List.drop_of_length_le (by rw [KL_len]; omega)] at hx
    cases hx
  | succ d ih =>
    intro i h1 h2 h3
    have hi : i < l.length := by omega
    have hk : i < (KL l).length := by rw [KL_len]; exact hi
    have hg : (KL l)[i] = l[i].data.toList := by simp [KL]
    rw [spec_l10Put.l0v_eq, if_pos (by omega), if_pos (by omega), rdS l i hi, Lib.toList_data, Lib.toList_data, tl_less, ← hg]
    by_cases hc : (KL l)[i] < a.data.toList
    · rw [if_pos (decide_eq_true hc), wrap_in (by omega) (by omega), show (i : Int) + 1 = ((i + 1 : Nat) : Int) by omega]
      refine ih (i + 1) (by omega) (by omega) fun x hx => ?_
      rw [List.take_succ_eq_append_getElem hk, List.mem_append, List.mem_singleton] at hx
      rcases hx with hx | hx
      · exact h3 x hx
      · subst hx; exact hc
    · rw [if_neg (by simp only [decide_eq_true_eq]; exact hc)]
      refine fin i h2 h3 fun x hx => ?_
      have hne : (KL l)[i] ≠ a.data.toList := fun e => hn (e ▸ List.getElem_mem hk)
      have hlt := tl_tri _ _ hc hne
      have hp := hs
      rw [← List.take_append_drop i (KL l)] at hp
      obtain ⟨_, p2, _⟩ := List.pairwise_append.1 hp
      rw [List.drop_eq_getElem_cons hk] at hx p2
      rcases List.mem_cons.1 hx with e | e
      · subst e; exact hlt
      · exact tl_trans hlt ((List.pairwise_cons.1 p2).1 x e)
theorem put_ok (l : List ByteArray) (a : ByteArray) (hs : (KL l).Pairwise (· < ·)) (hl : l.length ≤ 4000000) :
    ∃ r, spec_l10Put.fv l a = some r ∧ (KL r).Pairwise (· < ·) ∧ (∀ x, x ∈ KL r ↔ x = a.data.toList ∨ x ∈ KL l) ∧ r.length ≤ l.length + 1 := by
  rw [spec_l10Put.fv_eq, within_k l a hl, Option.bind_some]
  by_cases h : a.data.toList ∈ KL l
  · rw [if_pos (decide_eq_true h)]
    refine ⟨l, rfl, hs, fun x => ⟨.inr, ?_⟩, by omega⟩
    rintro (e | e)
    · rw [e]; exact h
    · exact e
  · rw [if_neg (by simp only [decide_eq_true_eq]; exact h)]
    exact put_loop l a hs h hl l.length 0 (by omega) (by omega) fun x hx => by cases hx
def isV (n : S38) : Bool := decide (n.f0 = 4)
def isC (n : S38) : Bool := decide (n.f0 = 5) || decide (n.f0 = 34)
def vars (l : List S38) : List ByteArray := (l.filter isV).map (·.f2)
def cels (l : List S38) : List ByteArray := (l.filter isC).map (·.f2)
theorem vars_len (l : List S38) : (vars l).length ≤ l.length := by unfold vars; rw [List.length_map]; exact List.length_filter_le ..
theorem cels_len (l : List S38) : (cels l).length ≤ l.length := by unfold cels; rw [List.length_map]; exact List.length_filter_le ..
abbrev NS := List ByteArray × List ByteArray
/-- The reference's step: a name is put where it belongs. -/
noncomputable def stS (s : NS) (n : S38) : Option NS :=
  if n.f0 = 4 then (spec_l10Put.fv s.1 n.f2).bind fun t => some (t, s.2) else if n.f0 = 5 ∨ n.f0 = 34 then (spec_l10Put.fv s.2 n.f2).bind fun t => some (s.1, t) else some s
theorem spec_names (n : S38) (d : Nat) (h : (pre n).length ≤ d) (hd : d ≤ 2097153) (s : NS) : spec_l10Names.fv n.f0 n.f1 n.f2 n.f3 s.1 s.2 = (pre n).foldlM stS s := by
  refine walk (fun n s => spec_l10Names.fv n.f0 n.f1 n.f2 n.f3 s.1 s.2) (fun n i s => spec_l10Names.l0v s.1 s.2 (i : Int) n.f0 n.f1 n.f2 n.f3) stS ?_ ?_ ?_ d n h hd s
  · intro n s
    show spec_l10Names.fv n.f0 n.f1 n.f2 n.f3 s.1 s.2 = _
    unfold stS
    rw [spec_l10Names.fv_eq]
    by_cases h4 : n.f0 = 4
    · rw [if_pos h4, if_pos h4, Option.bind_assoc]
      congr 1; funext t
      rw [spec_l10Names.j0v_eq]; rfl
    · rw [if_neg h4, if_neg h4]
      by_cases h5 : n.f0 = 5
      · rw [if_pos h5, if_pos (.inl h5), spec_l10Names.j1v_eq, if_pos (by simp [h5]), Option.bind_assoc]
        congr 1; funext t
        rw [spec_l10Names.j0v_eq]; rfl
      · rw [if_neg h5, spec_l10Names.j1v_eq]
        by_cases h34 : n.f0 = 34
        · rw [if_pos (by simp [h34]), if_pos (.inr h34), Option.bind_assoc]
          congr 1; funext t
          rw [spec_l10Names.j0v_eq]; rfl
        · rw [if_neg (by simp [h34]), if_neg (by rintro (e | e); exact h5 e; exact h34 e), spec_l10Names.j0v_eq]; rfl
  · intro n i s hi hl
    show spec_l10Names.l0v s.1 s.2 (i : Int) n.f0 n.f1 n.f2 n.f3 = _
    rw [spec_l10Names.l0v_eq, if_pos (by omega), if_pos (by omega), rd_in2 n.f3 i hi, wrap_in (by omega) (by omega), show (i : Int) + 1 = ((i + 1 : Nat) : Int) by omega]
  · intro n s
    show spec_l10Names.l0v s.1 s.2 (n.f3.length : Int) n.f0 n.f1 n.f2 n.f3 = _
    rw [spec_l10Names.l0v_eq, if_neg (by omega)]
theorem fold_spec : ∀ (l : List S38) (s : NS), (KL s.1).Pairwise (· < ·) → (KL s.2).Pairwise (· < ·) → s.1.length + l.length ≤ 4000000 → s.2.length + l.length ≤ 4000000 →
    ∃ r : NS, l.foldlM stS s = some r ∧ (KL r.1).Pairwise (· < ·) ∧ (KL r.2).Pairwise (· < ·) ∧ (∀ x, x ∈ KL r.1 ↔ x ∈ KL s.1 ∨ x ∈ KL (vars l)) ∧ (∀ x, x ∈ KL r.2 ↔ x ∈ KL s.2 ∨ x ∈ KL (cels l)) ∧ r.1.length ≤ s.1.length + l.length ∧ r.2.length ≤ s.2.length + l.length
  | [], s, h1, h2, _, _ => ⟨s, rfl, h1, h2, by simp [vars, KL], by simp [cels, KL], by simp, by simp⟩
  | n :: l, s, h1, h2, h3, h4 => by
    rw [List.length_cons] at h3 h4
    rw [List.foldlM_cons]
    show ∃ r : NS, (stS s n).bind (fun t => l.foldlM stS t) = some r ∧ _
    unfold stS
    by_cases c4 : n.f0 = 4
    · obtain ⟨t, e, q1, q2, q3⟩ := put_ok s.1 n.f2 h1 (by omega)
      obtain ⟨r, f, r1, r2, r3, r4, r5, r6⟩ := fold_spec l (t, s.2) q1 h2 (by show t.length + _ ≤ _; omega) (by show s.2.length + _ ≤ _; omega)
      rw [if_pos c4, e]
      have hv : vars (n :: l) = n.f2 :: vars l := by simp [vars, isV, c4]
      have hc : cels (n :: l) = cels l := by simp [cels, isC, c4]
      refine ⟨r, f, r1, r2, fun x => ?_, fun x => by rw [hc]; exact r4 x, ?_, ?_⟩
      · rw [hv, r3 x, q2 x]
        show _ ↔ x ∈ KL s.1 ∨ x ∈ n.f2.data.toList :: KL (vars l)
        rw [List.mem_cons]
        constructor
        · rintro ((a | a) | a)
          · exact .inr (.inl a)
          · exact .inl a
          · exact .inr (.inr a)
        · rintro (a | a | a)
          · exact .inl (.inr a)
          · exact .inl (.inl a)
          · exact .inr a
      · have : r.1.length ≤ t.length + l.length := r5
        rw [List.length_cons]; omega
      · have : r.2.length ≤ s.2.length + l.length := r6
        rw [List.length_cons]; omega
    · rw [if_neg c4]
      have hv : vars (n :: l) = vars l := by simp [vars, isV, c4]
      by_cases c5 : n.f0 = 5 ∨ n.f0 = 34
      · obtain ⟨t, e, q1, q2, q3⟩ := put_ok s.2 n.f2 h2 (by omega)
        obtain ⟨r, f, r1, r2, r3, r4, r5, r6⟩ := fold_spec l (s.1, t) h1 q1 (by show s.1.length + _ ≤ _; omega) (by show t.length + _ ≤ _; omega)
        rw [if_pos c5, e]
        have ic : isC n = true := by unfold isC; rcases c5 with h | h <;> simp [h]
        have hc : cels (n :: l) = n.f2 :: cels l := by simp [cels, ic]
        refine ⟨r, f, r1, r2, fun x => by rw [hv]; exact r3 x, fun x => ?_, ?_, ?_⟩
        · rw [hc, r4 x, q2 x]
          show _ ↔ x ∈ KL s.2 ∨ x ∈ n.f2.data.toList :: KL (cels l)
          rw [List.mem_cons]
          constructor
          · rintro ((a | a) | a)
            · exact .inr (.inl a)
            · exact .inl a
            · exact .inr (.inr a)
          · rintro (a | a | a)
            · exact .inl (.inr a)
            · exact .inl (.inl a)
            · exact .inr a
        · have : r.1.length ≤ s.1.length + l.length := r5
          rw [List.length_cons]; omega
        · have : r.2.length ≤ t.length + l.length := r6
          rw [List.length_cons]; omega
      · obtain ⟨r, f, r1, r2, r3, r4, r5, r6⟩ := fold_spec l s h1 h2 (by omega) (by omega)
        have hc : cels (n :: l) = cels l := by simp [cels, isC, c5]
        rw [if_neg c5]
        refine ⟨r, f, r1, r2, fun x => by rw [hv]; exact r3 x, fun x => by rw [hc]; exact r4 x, ?_, ?_⟩ <;> rw [List.length_cons] <;> omega

/-! ### the program's walk of all nodes -/
def ruleN (r : S40) : List S38 := pre ⟨r.f1, r.f2, r.f3, r.f4⟩ ++ pre ⟨r.f5, r.f6, r.f7, r.f8⟩
def nodesN (l : List S40) : List S38 := (l.map ruleN).flatten
theorem nodes_cut (l : List S40) (i : Nat) (h : i < l.length) : nodesN (l.drop i) = pre ⟨l[i].f1, l[i].f2, l[i].f3, l[i].f4⟩ ++ (pre ⟨l[i].f5, l[i].f6, l[i].f7, l[i].f8⟩ ++ nodesN (l.drop (i + 1))) := by
  unfold nodesN
  rw [List.drop_eq_getElem_cons h, List.map_cons, List.flatten_cons]
  show ruleN l[i] ++ _ = _
  unfold ruleN
  rw [List.append_assoc]
theorem nodes_mem {l : List S40} {r : S40} (h : r ∈ l) {n : S38} (hn : n ∈ ruleN r) : n ∈ nodesN l :=
  List.mem_flatten.2 ⟨_, List.mem_map_of_mem h, hn⟩
theorem nodes_le : ∀ (l : List S40) (r : S40), r ∈ l → (ruleN r).length ≤ (nodesN l).length
  | [], _, h => by cases h
  | q :: l, r, h => by
    have e : nodesN (q :: l) = ruleN q ++ nodesN l := rfl
    rw [e, List.length_append]
    rcases List.mem_cons.1 h with e | e
    · subst e; omega
    · have := nodes_le l r e; omega
/-- Rounds over rules that carry something on. -/
theorem walkR {σ : Type} (G : S38 → σ → Option σ) (st : σ → S38 → Option σ) (x : List S40) (L : Nat → σ → Option σ)
    (hx : (nodesN x).length ≤ 2097153) (hl : x.length ≤ 1048576)
    (hG : ∀ n : S38, (pre n).length ≤ 2097153 → ∀ s, G n s = (pre n).foldlM st s)
    (hC : ∀ i s (h : i < x.length), L i s = (G ⟨x[i].f1, x[i].f2, x[i].f3, x[i].f4⟩ s).bind fun t => (G ⟨x[i].f5, x[i].f6, x[i].f7, x[i].f8⟩ t).bind fun u => L (i + 1) u)
    (hE : ∀ s, L x.length s = some s) (s : σ) : L 0 s = (nodesN x).foldlM st s := by
  have hL : ∀ e i : Nat, x.length - i = e → i ≤ x.length → ∀ t, L i t = (nodesN (x.drop i)).foldlM st t := by
    intro e
    induction e with
    | zero =>
      intro i h1 h2 t
      have : i = x.length := by omega
      subst this
      rw [hE, List.drop_of_length_le (by omega)]; rfl
    | succ e ihe =>
      intro i h1 h2 t
      have hi : i < x.length := by omega
      have hr := nodes_le x x[i] (List.getElem_mem hi)
      unfold ruleN at hr
      rw [List.length_append] at hr
      rw [hC i t hi, hG _ (by omega), nodes_cut _ _ hi, List.foldlM_append]
      show Option.bind _ _ = Option.bind _ _
      congr 1; funext u
      rw [hG _ (by omega), List.foldlM_append]
      show Option.bind _ _ = Option.bind _ _
      congr 1; funext v
      exact ihe (i + 1) (by omega) (by omega) v
  have := hL x.length 0 (by omega) (by omega) s
  rw [List.drop_zero] at this
  exact this
theorem spec_all (x : List S40) (hl : x.length ≤ 1048576) (hx : (nodesN x).length ≤ 2097153) : spec_Names.fv x = (nodesN x).foldlM stS (([], []) : NS) := by
  rw [spec_Names.fv_eq]
  refine walkR (fun n s => spec_l10Names.fv n.f0 n.f1 n.f2 n.f3 s.1 s.2) stS x (fun i s => spec_Names.l0v x s.1 s.2 (i : Int)) hx hl (fun n h s => spec_names n _ h (by omega) s) ?_ ?_ (([], []) : NS)
  · intro i s hi
    show spec_Names.l0v x s.1 s.2 (i : Int) = _
    rw [spec_Names.l0v_eq, if_pos (by omega), if_pos (by omega), rdrule2 x i hi, wrap_in (by omega) (by omega), show (i : Int) + 1 = ((i + 1 : Nat) : Int) by omega]
  · intro s
    show spec_Names.l0v x s.1 s.2 (x.length : Int) = _
    rw [spec_Names.l0v_eq, if_neg (by omega)]
/-- The program's step: a name is put behind the others. -/
noncomputable def stI (s : NS) (n : S38) : Option NS := impl_Names_1.fv n.f0 n.f1 n.f2 n.f3 s.1 s.2
theorem impl_names (n : S38) (d : Nat) (h : (pre n).length ≤ d) (hd : d ≤ 2097153) (s : NS) : impl_each__impl_Names_1.fv n.f0 n.f1 n.f2 n.f3 s.1 s.2 = (pre n).foldlM stI s := by
  refine walk (fun n s => impl_each__impl_Names_1.fv n.f0 n.f1 n.f2 n.f3 s.1 s.2) (fun n i s => impl_each__impl_Names_1.l0v n.f3 (n.f3.length : Int) (i : Int) s.1 s.2) stI ?_ ?_ ?_ d n h hd s
  · intro n s
    show impl_each__impl_Names_1.fv n.f0 n.f1 n.f2 n.f3 s.1 s.2 = _
    rw [impl_each__impl_Names_1.fv_eq]; rfl
  · intro n i s hi hl
    show impl_each__impl_Names_1.l0v n.f3 (n.f3.length : Int) (i : Int) s.1 s.2 = _
    rw [impl_each__impl_Names_1.l0v_eq, if_pos (by omega), if_pos (by omega), if_pos (by omega), rd_in2 n.f3 i hi, wrap_in (by omega) (by omega), show (i : Int) + 1 = ((i + 1 : Nat) : Int) by omega]
  · intro n s
    show impl_each__impl_Names_1.l0v n.f3 (n.f3.length : Int) (n.f3.length : Int) s.1 s.2 = _
    rw [impl_each__impl_Names_1.l0v_eq, if_neg (by omega)]
theorem impl_all (x : List S40) (hl : x.length ≤ 1048576) (hx : (nodesN x).length ≤ 2097153) : impl_eachNode__impl_Names_1.fv x [] [] = (nodesN x).foldlM stI (([], []) : NS) := by
  rw [impl_eachNode__impl_Names_1.fv_eq]
  refine walkR (fun n s => impl_each__impl_Names_1.fv n.f0 n.f1 n.f2 n.f3 s.1 s.2) stI x (fun i s => impl_eachNode__impl_Names_1.l0v x (x.length : Int) (i : Int) s.1 s.2) hx hl (fun n h s => impl_names n _ h (by omega) s) ?_ ?_ (([], []) : NS)
  · intro i s hi
    show impl_eachNode__impl_Names_1.l0v x (x.length : Int) (i : Int) s.1 s.2 = _
    rw [impl_eachNode__impl_Names_1.l0v_eq, if_pos (by omega), if_pos (by omega), if_pos (by omega), rdrule2 x i hi, wrap_in (by omega) (by omega), show (i : Int) + 1 = ((i + 1 : Nat) : Int) by omega]
  · intro s
    show impl_eachNode__impl_Names_1.l0v x (x.length : Int) (x.length : Int) s.1 s.2 = _
    rw [impl_eachNode__impl_Names_1.l0v_eq, if_neg (by omega)]
theorem fold_impl : ∀ (l : List S38) (s : NS), s.1.length + l.length ≤ 8796093022208 → s.2.length + l.length ≤ 8796093022208 → l.foldlM stI s = some (s.1 ++ vars l, s.2 ++ cels l)
  | [], s, _, _ => by
    have h1 : vars ([] : List S38) = [] := rfl
    have h2 : cels ([] : List S38) = [] := rfl
    rw [h1, h2, List.append_nil, List.append_nil]; rfl
  | n :: l, s, h1, h2 => by
    rw [List.length_cons] at h1 h2
    rw [List.foldlM_cons]
    show (stI s n).bind (fun t => l.foldlM stI t) = _
    have hst : stI s n = impl_Names_1.fv n.f0 n.f1 n.f2 n.f3 s.1 s.2 := rfl
    rw [hst, impl_Names_1.fv_eq]
    by_cases c4 : n.f0 = 4
    · have hv : vars (n :: l) = n.f2 :: vars l := by simp [vars, isV, c4]
      have hc : cels (n :: l) = cels l := by simp [cels, isC, c4]
      rw [if_pos c4, if_pos (by omega), Option.bind_some, fold_impl l _ (by simp; omega) (by show s.2.length + _ ≤ _; omega), hv, hc]
      show some (s.1 ++ [n.f2] ++ vars l, _) = _
      rw [List.append_assoc]; rfl
    · have hv : vars (n :: l) = vars l := by simp [vars, isV, c4]
      rw [if_neg c4]
      have key : ∀ b : Bool, b = (decide (n.f0 = 5) || decide (n.f0 = 34)) → (impl_Names_1.j0v b s.1 s.2 n.f0 n.f1 n.f2 n.f3).bind (fun t => l.foldlM stI t) = some (s.1 ++ vars (n :: l), s.2 ++ cels (n :: l)) := by
        intro b hb
        rw [impl_Names_1.j0v_eq, hv]
        cases hb2 : b
        · have hc : cels (n :: l) = cels l := by
            have : isC n = false := by unfold isC; rw [← hb, hb2]
            simp [cels, this]
          rw [if_neg (by simp), Option.bind_some, fold_impl l _ (by show s.1.length + _ ≤ _; omega) (by show s.2.length + _ ≤ _; omega), hc]
        · have hc : cels (n :: l) = n.f2 :: cels l := by
            have : isC n = true := by unfold isC; rw [← hb, hb2]
            simp [cels, this]
          rw [if_pos rfl, if_pos (by omega), Option.bind_some, fold_impl l _ (by show s.1.length + _ ≤ _; omega) (by simp; omega), hc]
          show some (_, s.2 ++ [n.f2] ++ cels l) = _
          rw [List.append_assoc]; rfl
      by_cases c5 : n.f0 = 5
      · rw [if_pos c5]; exact key _ (by simp [c5])
      · rw [if_neg c5]; exact key _ (by by_cases c : n.f0 = 34 <;> simp [c5, c])
theorem sorted_i (l : List ByteArray) (hl : l.length ≤ 4000000) : impl_sorted.f l = some ((Lib.compact ((KL l).mergeSort fun x y => decide (x ≤ y))).map fun b => (⟨b.toArray⟩ : ByteArray)) := by
  unfold impl_sorted.f slices_Sort_string.f slices_Compact_string.f
  rw [if_pos (by omega), Option.bind_some, if_pos (by simp; omega), Option.bind_some, List.map_map]
  congr 2
  have : (fun s : ByteArray => s.data.toList) ∘ (fun b : List UInt8 => (⟨b.toArray⟩ : ByteArray)) = id := by funext b; simp
  rw [this, List.map_id]; rfl
/-- Both tell the same names; the program does so of every program. -/
theorem names_both (x : List S40) (hl : x.length ≤ 1048576) (hx : (nodesN x).length ≤ 2097153) : ∃ v c : List ByteArray, spec_Names.fv x = some (v, c) ∧ impl_Names.fv x = some (v, c) ∧ v.length ≤ 4000000 ∧ c.length ≤ 4000000 := by
  obtain ⟨r, e, p1, p2, p3, p4, p5, p6⟩ := fold_spec (nodesN x) ([], []) List.Pairwise.nil List.Pairwise.nil (by simp; omega) (by simp; omega)
  have hv := vars_len (nodesN x)
  have hc := cels_len (nodesN x)
  have e1 := sorted_is (KL (vars (nodesN x))) (KL r.1) p1 (fun a => by rw [p3 a]; simp [KL])
  have e2 := sorted_is (KL (cels (nodesN x))) (KL r.2) p2 (fun a => by rw [p4 a]; simp [KL])
  refine ⟨r.1, r.2, by rw [spec_all x hl hx, e], ?_, ?_, ?_⟩
  · rw [impl_Names.fv_eq, impl_all x hl hx, fold_impl _ _ (by simp; omega) (by simp; omega), Option.bind_some, List.nil_append, List.nil_append, sorted_i (vars (nodesN x)) (by omega), Option.bind_some, sorted_i (cels (nodesN x)) (by omega), Option.bind_some, e1, e2, KL_back, KL_back]
  · have : r.1.length ≤ 0 + _ := p5
    omega
  · have : r.2.length ≤ 0 + _ := p6
    omega

/-! ### what reads or ends a line -/
theorem line_both (d : Nat) : ∀ n : S38, (pre n).length ≤ d → d ≤ 2097153 → ∃ b, spec_l10Line.fv n.f0 n.f1 n.f2 n.f3 = some b ∧ impl_noLine.fv n.f0 n.f1 n.f2 n.f3 = some (!b) := by
  induction d with
  | zero => intro n h; have := pre_pos n; omega
  | succ d ih =>
    intro n h hd
    have hl := pre_len n
    have hL : ∀ e i : Nat, n.f3.length - i = e → i ≤ n.f3.length → ∃ b, spec_l10Line.l0v (i : Int) n.f0 n.f1 n.f2 n.f3 = some b ∧ impl_noLine.l0v n.f3 (n.f3.length : Int) (i : Int) n.f0 n.f1 n.f2 n.f3 = some (!b) := by
      intro e
      induction e with
      | zero =>
        intro i h1 h2
        refine ⟨false, ?_, ?_⟩
        · rw [spec_l10Line.l0v_eq, if_neg (by omega)]
        · rw [impl_noLine.l0v_eq, if_neg (by omega)]; rfl
      | succ e ihe =>
        intro i h1 h2
        have hi : i < n.f3.length := by omega
        have hk := pre_kid (List.getElem_mem hi)
        obtain ⟨b, e1, e2⟩ := ihe (i + 1) (by omega) (by omega)
        obtain ⟨c, g1, g2⟩ := ih n.f3[i] (by omega) (by omega)
        have hw : wrap64 ((i : Int) + 1) = ((i + 1 : Nat) : Int) := by rw [wrap_in (by omega) (by omega)]; omega
        have key : ∀ sk : Bool, ∃ b, spec_l10Line.j3v (i : Int) sk n.f0 n.f1 n.f2 n.f3 = some b ∧ impl_noLine.j3v n.f3 (n.f3.length : Int) (i : Int) sk n.f0 n.f1 n.f2 n.f3 n.f3[i].f0 n.f3[i].f1 n.f3[i].f2 n.f3[i].f3 = some (!b) := by
          intro sk
          cases sk
          · rw [spec_l10Line.j3v_eq, impl_noLine.j3v_eq, if_neg (by simp), if_neg (by simp), spec_l10Line.j2v_eq, impl_noLine.j2v_eq, if_pos (by omega), if_pos (by omega), rd_in2 n.f3 i hi, g1, g2, Option.bind_some, Option.bind_some, hw, e1, e2]
            cases c
            · exact ⟨b, by simp, by simp⟩
            · exact ⟨true, by simp, by simp⟩
          · rw [spec_l10Line.j3v_eq, impl_noLine.j3v_eq, if_pos rfl, if_pos rfl, hw, e1, e2]
            exact ⟨b, rfl, rfl⟩
        obtain ⟨sk, hsk⟩ : ∃ sk : Bool, sk = if n.f0 = 21 then (if (i : Int) = 1 then n.f3[i].f0 == 3 else false) else false := ⟨_, rfl⟩
        have s1 : spec_l10Line.l0v (i : Int) n.f0 n.f1 n.f2 n.f3 = spec_l10Line.j3v (i : Int) sk n.f0 n.f1 n.f2 n.f3 := by
          rw [spec_l10Line.l0v_eq, if_pos (by omega), rd_in2 n.f3 i hi, hsk]
          by_cases c21 : n.f0 = 21
          · rw [if_pos c21, if_pos c21]
            by_cases c1 : (i : Int) = 1
            · rw [if_pos c1, if_pos c1, if_pos (by omega)]
            · rw [if_neg c1, if_neg c1]
          · rw [if_neg c21, if_neg c21]
        have s2 : impl_noLine.l0v n.f3 (n.f3.length : Int) (i : Int) n.f0 n.f1 n.f2 n.f3 = impl_noLine.j3v n.f3 (n.f3.length : Int) (i : Int) sk n.f0 n.f1 n.f2 n.f3 n.f3[i].f0 n.f3[i].f1 n.f3[i].f2 n.f3[i].f3 := by
          rw [impl_noLine.l0v_eq, if_pos (by omega), if_pos (by omega), if_pos (by omega), rd_in2 n.f3 i hi, hsk]
          by_cases c21 : n.f0 = 21
          · rw [if_pos c21, if_pos c21]
            by_cases c1 : (i : Int) = 1
            · rw [if_pos c1, if_pos c1]
            · rw [if_neg c1, if_neg c1]
          · rw [if_neg c21, if_neg c21]
        rw [s1, s2]
        exact key sk
    obtain ⟨b, e1, e2⟩ := hL n.f3.length 0 (by omega) (by omega)
    have K : ∀ v : Bool, ∃ b, spec_l10Line.j1v v n.f0 n.f1 n.f2 n.f3 = some b ∧ impl_noLine.j1v v n.f0 n.f1 n.f2 n.f3 = some (!b) := by
      intro v
      rw [spec_l10Line.j1v_eq, impl_noLine.j1v_eq, spec_l10Line.j0v_eq, impl_noLine.j0v_eq]
      cases v
      · exact ⟨b, by rw [if_neg (by simp)]; exact e1, by rw [if_neg (by simp)]; exact e2⟩
      · exact ⟨true, by rw [if_pos rfl], by rw [if_pos rfl]; rfl⟩
    rw [spec_l10Line.fv_eq, impl_noLine.fv_eq]
    by_cases c6 : n.f0 = 6
    · rw [if_pos c6, if_pos c6, show (n.f0 == 6) = true by simp [c6]]; exact K true
    · rw [if_neg c6, if_neg c6]
      by_cases c7 : n.f0 = 7
      · rw [if_pos c7, if_pos c7, show (n.f0 == 7) = true by simp [c7]]; exact K true
      · rw [if_neg c7, if_neg c7]
        by_cases c8 : n.f0 = 8
        · rw [if_pos c8, if_pos c8, show (n.f0 == 8) = true by simp [c8]]; exact K true
        · rw [if_neg c8, if_neg c8]
          by_cases c33 : n.f0 = 33
          · rw [if_pos c33, if_pos c33, show (n.f0 == 33) = true by simp [c33]]; exact K true
          · rw [if_neg c33, if_neg c33]; exact K _
theorem begin_both (x : List S40) (hl : x.length ≤ 1048576) (hx : (nodesN x).length ≤ 2097153) (R : Option Int) (hR : spec_Check.l0v x (x.length : Int) = R) (d : Nat) : ∀ i : Nat, x.length - i = d → i ≤ x.length →
    ∃ b, impl_beginFault.l0v x (x.length : Int) (i : Int) = some b ∧ spec_Check.l0v x (i : Int) = if b = true then some 2 else R := by
  induction d with
  | zero =>
    intro i h1 h2
    have : i = x.length := by omega
    subst this
    exact ⟨false, by rw [impl_beginFault.l0v_eq, if_neg (by omega)], by rw [hR]; rfl⟩
  | succ d ih =>
    intro i h1 h2
    have hi : i < x.length := by omega
    obtain ⟨b, e1, e2⟩ := ih (i + 1) (by omega) (by omega)
    have hr := nodes_le x x[i] (List.getElem_mem hi)
    unfold ruleN at hr
    rw [List.length_append] at hr
    obtain ⟨c, g1, g2⟩ := line_both 2097153 ⟨x[i].f5, x[i].f6, x[i].f7, x[i].f8⟩ (by omega) (by omega)
    have hw : wrap64 ((i : Int) + 1) = ((i + 1 : Nat) : Int) := by rw [wrap_in (by omega) (by omega)]; omega
    have g1' : spec_l10Line.fv x[i].f5 x[i].f6 x[i].f7 x[i].f8 = some c := g1
    have g2' : impl_noLine.fv x[i].f5 x[i].f6 x[i].f7 x[i].f8 = some (!c) := g2
    have J : ∀ v : Bool, spec_Check.j0v x (i : Int) v = if v = true then some 2 else (if b = true then some 2 else R) := by
      intro v
      rw [spec_Check.j0v_eq, hw, e2]
    have s1 : impl_beginFault.l0v x (x.length : Int) (i : Int) = if x[i].f0 = 1 then (if (i : Int) > 0 then some true else ((some (!c)).bind fun t21 => (if t21 = true then some b else some true))) else some b := by
      rw [impl_beginFault.l0v_eq, if_pos (by omega), if_pos (by omega), if_pos (by omega), rdrule2 x i hi, hw, e1, g2']
    have s2 : spec_Check.l0v x (i : Int) = if x[i].f0 = 1 then (if (i : Int) > 0 then spec_Check.j0v x (i : Int) true else ((some c).bind fun t33 => spec_Check.j0v x (i : Int) t33)) else spec_Check.j0v x (i : Int) false := by
      rw [spec_Check.l0v_eq, if_pos (by omega), if_pos (by omega), rdrule2 x i hi, g1']
    rw [s1, s2]
    simp only [Option.bind_some, J]
    by_cases k1 : x[i].f0 = 1
    · rw [if_pos k1, if_pos k1]
      by_cases k0 : (i : Int) > 0
      · rw [if_pos k0, if_pos k0]; exact ⟨true, rfl, by simp⟩
      · rw [if_neg k0, if_neg k0]
        cases c
        · exact ⟨b, by simp, by simp⟩
        · exact ⟨true, by simp, by simp⟩
    · rw [if_neg k1, if_neg k1]; exact ⟨b, rfl, by simp⟩
/-! ### what must hold at each node -/
theorem fold_any (p : S38 → Bool) (st : Bool → S38 → Option Bool) : ∀ (l : List S38) (s : Bool), (∀ s n, n ∈ l → st s n = some (s || !p n)) → l.foldlM st s = some (s || !(l.all p))
  | [], s, _ => by simp
  | n :: l, s, h => by
    rw [List.foldlM_cons]
    show (st s n).bind (fun t => l.foldlM st t) = _
    rw [h s n (List.mem_cons_self ..), Option.bind_some, fold_any p st l _ (fun s n hn => h s n (List.mem_cons_of_mem _ hn)), List.all_cons]
    cases p n <;> cases s <;> rfl
theorem walkRB (G : S38 → Option Bool) (p : S38 → Bool) (x : List S40) (L : Nat → Option Int) (bad : Int) (R : Option Int)
    (hx : (nodesN x).length ≤ 2097153)
    (hG : ∀ n : S38, (pre n).length ≤ 2097153 → (∀ m, m ∈ pre n → m ∈ nodesN x) → G n = some ((pre n).all p))
    (hC : ∀ i (h : i < x.length), L i = (G ⟨x[i].f1, x[i].f2, x[i].f3, x[i].f4⟩).bind fun t => if t = true then (G ⟨x[i].f5, x[i].f6, x[i].f7, x[i].f8⟩).bind fun u => (if (!u) = true then some bad else L (i + 1)) else some bad)
    (hE : L x.length = R) : L 0 = if (nodesN x).all p = true then R else some bad := by
  have hL : ∀ e i : Nat, x.length - i = e → i ≤ x.length → L i = if (nodesN (x.drop i)).all p = true then R else some bad := by
    intro e
    induction e with
    | zero =>
      intro i h1 h2
      have : i = x.length := by omega
      subst this
      rw [hE, List.drop_of_length_le (by omega)]; rfl
    | succ e ihe =>
      intro i h1 h2
      have hi : i < x.length := by omega
      have hr := nodes_le x x[i] (List.getElem_mem hi)
      have hm1 : ∀ m, m ∈ pre ⟨x[i].f1, x[i].f2, x[i].f3, x[i].f4⟩ → m ∈ nodesN x := fun m hm => nodes_mem (List.getElem_mem hi) (List.mem_append.2 (.inl hm))
      have hm2 : ∀ m, m ∈ pre ⟨x[i].f5, x[i].f6, x[i].f7, x[i].f8⟩ → m ∈ nodesN x := fun m hm => nodes_mem (List.getElem_mem hi) (List.mem_append.2 (.inr hm))
      unfold ruleN at hr
      rw [List.length_append] at hr
      rw [hC i hi, hG _ (by omega) hm1, Option.bind_some, hG _ (by omega) hm2, Option.bind_some, nodes_cut _ _ hi, ihe (i + 1) (by omega) (by omega), List.all_append, List.all_append]
      cases (pre ⟨x[i].f1, x[i].f2, x[i].f3, x[i].f4⟩).all p <;> cases (pre ⟨x[i].f5, x[i].f6, x[i].f7, x[i].f8⟩).all p <;> simp
  have := hL x.length 0 (by omega) (by omega)
  rw [List.drop_zero] at this
  exact this
/-! ### calls -/
def argP (n : S38) : Bool := if n.f0 = 28 then (if n.f2.toList = ([105, 110, 100, 101, 120] : List UInt8) then (n.f3.length : Int) == 2 else if n.f2.toList = ([115, 117, 98, 115, 116, 114] : List UInt8) then (if (n.f3.length : Int) = 2 then true else (n.f3.length : Int) == 3) else (n.f3.length : Int) == 1) else true
theorem args_spec (n : S38) (h : (pre n).length ≤ 2097153) : spec_l10Args.fv n.f0 n.f1 n.f2 n.f3 = some ((pre n).all argP) := by
  refine walkB (fun n => spec_l10Args.fv n.f0 n.f1 n.f2 n.f3) (fun n i => spec_l10Args.l0v (n.f3.length : Int) (i : Int) n.f0 n.f1 n.f2 n.f3) argP (fun _ => True) ?_ ?_ ?_ _ n h (by omega) (fun _ _ => trivial)
  · intro n _
    show spec_l10Args.fv n.f0 n.f1 n.f2 n.f3 = if argP n = true then spec_l10Args.l0v (n.f3.length : Int) 0 n.f0 n.f1 n.f2 n.f3 else some false
    rw [spec_l10Args.fv_eq]
    unfold argP
    simp only [spec_l10Args.j1v_eq, spec_l10Args.j0v_eq]
    by_cases c : n.f0 = 28
    · rw [if_pos c, if_pos c]
      by_cases c1 : n.f2.toList = ([105, 110, 100, 101, 120] : List UInt8)
      · rw [if_pos c1, if_pos c1]
        by_cases k : (n.f3.length : Int) = 2 <;> simp [k]
      · rw [if_neg c1, if_neg c1]
        by_cases c2 : n.f2.toList = ([115, 117, 98, 115, 116, 114] : List UInt8)
        · rw [if_pos c2, if_pos c2]
          by_cases k : (n.f3.length : Int) = 2
          · simp [k]
          · by_cases k3 : (n.f3.length : Int) = 3 <;> simp [k, k3]
        · rw [if_neg c2, if_neg c2]
          by_cases k : (n.f3.length : Int) = 1 <;> simp [k]
    · rw [if_neg c, if_neg c]; simp
  · intro n i hi hl
    show spec_l10Args.l0v (n.f3.length : Int) (i : Int) n.f0 n.f1 n.f2 n.f3 = _
    rw [spec_l10Args.l0v_eq, if_pos (by omega), if_pos (by omega), if_pos (by omega), rd_in2 n.f3 i hi, wrap_in (by omega) (by omega), show (i : Int) + 1 = ((i + 1 : Nat) : Int) by omega]
  · intro n
    show spec_l10Args.l0v (n.f3.length : Int) (n.f3.length : Int) n.f0 n.f1 n.f2 n.f3 = _
    rw [spec_l10Args.l0v_eq, if_neg (by omega)]
theorem args_step (n : S38) (s : Bool) : impl_anyNode_1.f n.f0 n.f1 n.f2 n.f3 s = some (s || !argP n) := by
  unfold impl_anyNode_1.f impl_Check_2.f impl_argsOk.f argP
  by_cases c : n.f0 = 28
  · rw [if_pos c, if_pos c]
    by_cases c1 : n.f2.toList = ([105, 110, 100, 101, 120] : List UInt8)
    · rw [if_pos c1, if_pos c1]
      by_cases k : (n.f3.length : Int) = 2 <;> cases s <;> simp [k]
    · rw [if_neg c1, if_neg c1]
      by_cases c2 : n.f2.toList = ([115, 117, 98, 115, 116, 114] : List UInt8)
      · rw [if_pos c2, if_pos c2]
        by_cases k : (n.f3.length : Int) = 2
        · cases s <;> simp [k]
        · by_cases k3 : (n.f3.length : Int) = 3 <;> cases s <;> simp [k, k3]
      · rw [if_neg c2, if_neg c2]
        by_cases k : (n.f3.length : Int) = 1 <;> cases s <;> simp [k]
  · rw [if_neg c, if_neg c]; simp
theorem args_impl (x : List S40) (hl : x.length ≤ 1048576) (hx : (nodesN x).length ≤ 2097153) : impl_anyNode__impl_Check_2.fv x = some (!((nodesN x).all argP)) := by
  rw [impl_anyNode__impl_Check_2.fv_eq, impl_eachNode__impl_anyNode_1.fv_eq]
  have h1 : ∀ n : S38, (pre n).length ≤ 2097153 → ∀ s, impl_each__impl_anyNode_1.fv n.f0 n.f1 n.f2 n.f3 s = (pre n).foldlM (fun s n => impl_anyNode_1.f n.f0 n.f1 n.f2 n.f3 s) s := by
    intro n h s
    refine walk (fun n s => impl_each__impl_anyNode_1.fv n.f0 n.f1 n.f2 n.f3 s) (fun n i s => impl_each__impl_anyNode_1.l0v n.f3 (n.f3.length : Int) (i : Int) s) (fun s n => impl_anyNode_1.f n.f0 n.f1 n.f2 n.f3 s) ?_ ?_ ?_ _ n h (by omega) s
    · intro n s
      show impl_each__impl_anyNode_1.fv n.f0 n.f1 n.f2 n.f3 s = _
      rw [impl_each__impl_anyNode_1.fv_eq]; rfl
    · intro n i s hi hl
      show impl_each__impl_anyNode_1.l0v n.f3 (n.f3.length : Int) (i : Int) s = _
      rw [impl_each__impl_anyNode_1.l0v_eq, if_pos (by omega), if_pos (by omega), if_pos (by omega), rd_in2 n.f3 i hi, wrap_in (by omega) (by omega), show (i : Int) + 1 = ((i + 1 : Nat) : Int) by omega]
    · intro n s
      show impl_each__impl_anyNode_1.l0v n.f3 (n.f3.length : Int) (n.f3.length : Int) s = _
      rw [impl_each__impl_anyNode_1.l0v_eq, if_neg (by omega)]
  have h2 := walkR (fun n s => impl_each__impl_anyNode_1.fv n.f0 n.f1 n.f2 n.f3 s) (fun s n => impl_anyNode_1.f n.f0 n.f1 n.f2 n.f3 s) x (fun i s => impl_eachNode__impl_anyNode_1.l0v x (x.length : Int) (i : Int) s) hx hl h1 (by
    intro i s hi
    show impl_eachNode__impl_anyNode_1.l0v x (x.length : Int) (i : Int) s = _
    rw [impl_eachNode__impl_anyNode_1.l0v_eq, if_pos (by omega), if_pos (by omega), if_pos (by omega), rdrule2 x i hi, wrap_in (by omega) (by omega), show (i : Int) + 1 = ((i + 1 : Nat) : Int) by omega]) (by
    intro s
    show impl_eachNode__impl_anyNode_1.l0v x (x.length : Int) (x.length : Int) s = _
    rw [impl_eachNode__impl_anyNode_1.l0v_eq, if_neg (by omega)]) false
  have h3 : impl_eachNode__impl_anyNode_1.l0v x (x.length : Int) 0 false = _ := h2
  rw [h3, fold_any argP _ _ _ (fun s n _ => args_step n s), Option.bind_some, Bool.false_or]
/-! ### patterns -/
noncomputable def okR (s : ByteArray) : Bool := ((spec_RexParse.fv s).map fun t => t.2.2.2.2.2).getD false
theorem okR_s (s : ByteArray) : ((spec_RexParse.fv s).bind fun t12 => (some t12.2.2.2.2.2)) = some (okR s) := by
  obtain ⟨x, ok, e1, e2⟩ := parse_both s
  unfold okR
  rw [e1]; rfl
theorem okR_i (s : ByteArray) : ((impl_RexParse.fv s).bind fun t12 => (some (!t12.2.2.2.2.2))) = some (!okR s) := by
  obtain ⟨x, ok, e1, e2⟩ := parse_both s
  unfold okR
  rw [e1, e2]; rfl
noncomputable def rexP (n : S38) : Bool := if n.f0 = 3 then okR n.f2 else if n.f0 = 21 then (rd_T38 n.f3 1).f0 == 3 else true
theorem rex_spec (n : S38) (h : (pre n).length ≤ 2097153) (hq : ∀ m, m ∈ pre n → QQ m) : spec_l10Rexes.fv n.f0 n.f1 n.f2 n.f3 = some ((pre n).all rexP) := by
  refine walkB (fun n => spec_l10Rexes.fv n.f0 n.f1 n.f2 n.f3) (fun n i => spec_l10Rexes.l0v (i : Int) n.f0 n.f1 n.f2 n.f3) rexP QQ ?_ ?_ ?_ _ n h (by omega) hq
  · intro n q
    show spec_l10Rexes.fv n.f0 n.f1 n.f2 n.f3 = if rexP n = true then spec_l10Rexes.l0v 0 n.f0 n.f1 n.f2 n.f3 else some false
    rw [spec_l10Rexes.fv_eq]
    unfold rexP
    by_cases c3 : n.f0 = 3
    · have e0 : spec_l10Rexes.l0v 0 n.f0 n.f1 n.f2 n.f3 = some true := by rw [q.1 c3, spec_l10Rexes.l0v_eq, if_neg (by simp)]
      rw [if_pos c3, if_pos c3, okR_s, e0]
      cases okR n.f2 <;> rfl
    · rw [if_neg c3, if_neg c3]
      by_cases c21 : n.f0 = 21
      · have := q.2 c21
        rw [if_pos c21, if_pos c21, if_pos (by omega), spec_l10Rexes.j1v_eq, spec_l10Rexes.j0v_eq]
        by_cases k : (rd_T38 n.f3 1).f0 = 3 <;> simp [k]
      · rw [if_neg c21, if_neg c21, spec_l10Rexes.j1v_eq, spec_l10Rexes.j0v_eq]; simp
  · intro n i hi hl
    show spec_l10Rexes.l0v (i : Int) n.f0 n.f1 n.f2 n.f3 = _
    rw [spec_l10Rexes.l0v_eq, if_pos (by omega), if_pos (by omega), rd_in2 n.f3 i hi, wrap_in (by omega) (by omega), show (i : Int) + 1 = ((i + 1 : Nat) : Int) by omega]
  · intro n
    show spec_l10Rexes.l0v (n.f3.length : Int) n.f0 n.f1 n.f2 n.f3 = _
    rw [spec_l10Rexes.l0v_eq, if_neg (by omega)]
theorem rex_step (n : S38) (q : QQ n) (s : Bool) : impl_anyNode_1_2.fv n.f0 n.f1 n.f2 n.f3 s = some (s || !rexP n) := by
  rw [impl_anyNode_1_2.fv_eq, impl_rexFault.fv_eq]
  unfold rexP
  by_cases c3 : n.f0 = 3
  · rw [if_pos c3, if_pos c3, okR_i, Option.bind_some]
    cases okR n.f2 <;> cases s <;> rfl
  · rw [if_neg c3, if_neg c3]
    by_cases c21 : n.f0 = 21
    · have := q.2 c21
      rw [if_pos c21, if_pos c21, if_pos (by omega), Option.bind_some]
      by_cases k : (rd_T38 n.f3 1).f0 = 3 <;> cases s <;> simp [k]
    · rw [if_neg c21, if_neg c21]; simp
theorem rex_impl (x : List S40) (hl : x.length ≤ 1048576) (hx : (nodesN x).length ≤ 2097153) (hq : ∀ m, m ∈ nodesN x → QQ m) : impl_anyNode__impl_rexFault.fv x = some (!((nodesN x).all rexP)) := by
  rw [impl_anyNode__impl_rexFault.fv_eq, impl_eachNode__impl_anyNode_1_2.fv_eq]
  have h1 : ∀ n : S38, (pre n).length ≤ 2097153 → ∀ s, impl_each__impl_anyNode_1_2.fv n.f0 n.f1 n.f2 n.f3 s = (pre n).foldlM (fun s n => impl_anyNode_1_2.fv n.f0 n.f1 n.f2 n.f3 s) s := by
    intro n h s
    refine walk (fun n s => impl_each__impl_anyNode_1_2.fv n.f0 n.f1 n.f2 n.f3 s) (fun n i s => impl_each__impl_anyNode_1_2.l0v n.f3 (n.f3.length : Int) (i : Int) s) (fun s n => impl_anyNode_1_2.fv n.f0 n.f1 n.f2 n.f3 s) ?_ ?_ ?_ _ n h (by omega) s
    · intro n s
      show impl_each__impl_anyNode_1_2.fv n.f0 n.f1 n.f2 n.f3 s = _
      rw [impl_each__impl_anyNode_1_2.fv_eq]; rfl
    · intro n i s hi hl
      show impl_each__impl_anyNode_1_2.l0v n.f3 (n.f3.length : Int) (i : Int) s = _
      rw [impl_each__impl_anyNode_1_2.l0v_eq, if_pos (by omega), if_pos (by omega), if_pos (by omega), rd_in2 n.f3 i hi, wrap_in (by omega) (by omega), show (i : Int) + 1 = ((i + 1 : Nat) : Int) by omega]
    · intro n s
      show impl_each__impl_anyNode_1_2.l0v n.f3 (n.f3.length : Int) (n.f3.length : Int) s = _
      rw [impl_each__impl_anyNode_1_2.l0v_eq, if_neg (by omega)]
  have h2 := walkR (fun n s => impl_each__impl_anyNode_1_2.fv n.f0 n.f1 n.f2 n.f3 s) (fun s n => impl_anyNode_1_2.fv n.f0 n.f1 n.f2 n.f3 s) x (fun i s => impl_eachNode__impl_anyNode_1_2.l0v x (x.length : Int) (i : Int) s) hx hl h1 (by
    intro i s hi
    show impl_eachNode__impl_anyNode_1_2.l0v x (x.length : Int) (i : Int) s = _
    rw [impl_eachNode__impl_anyNode_1_2.l0v_eq, if_pos (by omega), if_pos (by omega), if_pos (by omega), rdrule2 x i hi, wrap_in (by omega) (by omega), show (i : Int) + 1 = ((i + 1 : Nat) : Int) by omega]) (by
    intro s
    show impl_eachNode__impl_anyNode_1_2.l0v x (x.length : Int) (x.length : Int) s = _
    rw [impl_eachNode__impl_anyNode_1_2.l0v_eq, if_neg (by omega)]) false
  have h3 : impl_eachNode__impl_anyNode_1_2.l0v x (x.length : Int) 0 false = _ := h2
  rw [h3, fold_any rexP _ _ _ (fun s n hn => rex_step n (hq n hn) s), Option.bind_some, Bool.false_or]

/-! ### all of it -/
theorem vars_loop (x : List S40) (v c : List ByteArray) (hv : v.length ≤ 4000000) (hc : c.length ≤ 4000000) (d : Nat) : ∀ i : Nat, v.length - i = d → i ≤ v.length →
    ∃ t : Int, slices_IndexFunc_string_string__impl_Check_1.l0v v (v.length : Int) (i : Int) c = some t ∧ spec_Check.l1v x v c (i : Int) = if decide (t ≥ 0) = true then some 4 else spec_Check.l2v x 0 := by
  induction d with
  | zero =>
    intro i h1 h2
    exact ⟨-1, by rw [slices_IndexFunc_string_string__impl_Check_1.l0v_eq, if_neg (by omega)], by rw [spec_Check.l1v_eq, if_neg (by omega)]; rfl⟩
  | succ d ih =>
    intro i h1 h2
    have hi : i < v.length := by omega
    obtain ⟨t, e1, e2⟩ := ih (i + 1) (by omega) (by omega)
    have hw : wrap64 ((i : Int) + 1) = ((i + 1 : Nat) : Int) := by rw [wrap_in (by omega) (by omega)]; omega
    have s1 : slices_IndexFunc_string_string__impl_Check_1.l0v v (v.length : Int) (i : Int) c = if decide (v[i].toList ∈ c.map ByteArray.toList) = true then some (i : Int) else some t := by
      rw [slices_IndexFunc_string_string__impl_Check_1.l0v_eq, if_pos (by omega), if_pos (by omega), if_pos (by omega), rdS v i hi, impl_Check_1.fv_eq, contains c v[i] hc, Option.bind_some, Option.bind_some, hw, e1]
    have s2 : spec_Check.l1v x v c (i : Int) = if decide (v[i].toList ∈ c.map ByteArray.toList) = true then some 4 else (if decide (t ≥ 0) = true then some 4 else spec_Check.l2v x 0) := by
      rw [spec_Check.l1v_eq, if_pos (by omega), if_pos (by omega), rdS v i hi, within c v[i] hc, Option.bind_some, hw, e2]
    rw [s1, s2]
    by_cases k : decide (v[i].toList ∈ c.map ByteArray.toList) = true
    · rw [if_pos k, if_pos k]
      exact ⟨(i : Int), rfl, by rw [if_pos (decide_eq_true (by omega))]⟩
    · rw [if_neg k, if_neg k]
      exact ⟨t, rfl, rfl⟩
theorem check_both (x : List S40) (hl : x.length ≤ 1048576) (hx : (nodesN x).length ≤ 2097153) (b : Bool) (h1 : spec_Tidy.fv x = some b) (h2 : impl_Tidy.fv x = some b) (hq : b = true → ∀ m, m ∈ nodesN x → QQ m) :
    ∃ r : Int, spec_Check.fv x = some r ∧ impl_Check.fv x = some r := by
  obtain ⟨v, c, n1, n2, n3, n4⟩ := names_both x hl hx
  rw [spec_Check.fv_eq, impl_Check.fv_eq, n2, h1, h2]
  simp only [Option.bind_some]
  cases b
  · exact ⟨1, by simp, by simp⟩
  · have q := hq rfl
    rw [if_pos rfl, if_pos rfl]
    -- patterns
    have L3 : spec_Check.l3v x 0 = if (nodesN x).all rexP = true then some 0 else some 6 := by
      refine walkRB (fun n => spec_l10Rexes.fv n.f0 n.f1 n.f2 n.f3) rexP x (fun i => spec_Check.l3v x (i : Int)) 6 (some 0) hx (fun n h hm => rex_spec n h fun m hmm => q m (hm m hmm)) ?_ ?_
      · intro i hi
        show spec_Check.l3v x (i : Int) = _
        rw [spec_Check.l3v_eq, if_pos (by omega), if_pos (by omega), rdrule2 x i hi]
        simp only [spec_Check.j4v_eq]
        rw [wrap_in (by omega) (by omega), show (i : Int) + 1 = ((i + 1 : Nat) : Int) by omega]
        rfl
      · show spec_Check.l3v x (x.length : Int) = _
        rw [spec_Check.l3v_eq, if_neg (by omega)]
    -- calls
    have L2 : spec_Check.l2v x 0 = if (nodesN x).all argP = true then spec_Check.l3v x 0 else some 5 := by
      refine walkRB (fun n => spec_l10Args.fv n.f0 n.f1 n.f2 n.f3) argP x (fun i => spec_Check.l2v x (i : Int)) 5 (spec_Check.l3v x 0) hx (fun n h _ => args_spec n h) ?_ ?_
      · intro i hi
        show spec_Check.l2v x (i : Int) = _
        rw [spec_Check.l2v_eq, if_pos (by omega), if_pos (by omega), rdrule2 x i hi]
        simp only [spec_Check.j3v_eq]
        rw [wrap_in (by omega) (by omega), show (i : Int) + 1 = ((i + 1 : Nat) : Int) by omega]
        rfl
      · show spec_Check.l2v x (x.length : Int) = _
        rw [spec_Check.l2v_eq, if_neg (by omega)]
    obtain ⟨t, t1, t2⟩ := vars_loop x v c n3 n4 v.length 0 (by omega) (by omega)
    have t1' : slices_IndexFunc_string_string__impl_Check_1.l0v v (v.length : Int) 0 c = some t := t1
    have t2' : spec_Check.l1v x v c 0 = _ := t2
    have tail : ∀ w : Bool, ∃ r : Int, spec_Check.j2v x v c w = some r ∧ impl_Check.j0v x v w c = some r := by
      intro w
      rw [spec_Check.j2v_eq, impl_Check.j0v_eq, spec_Check.j1v_eq, slices_ContainsFunc_string_string__impl_Check_1.fv_eq, slices_IndexFunc_string_string__impl_Check_1.fv_eq, t1', t2', args_impl x hl hx, rex_impl x hl hx q, L2, L3]
      simp only [Option.bind_some]
      cases w
      · by_cases k : decide (t ≥ 0) = true
        · exact ⟨4, by simp [k], by simp [k]⟩
        · cases (nodesN x).all argP
          · exact ⟨5, by simp [k], by simp [k]⟩
          · cases (nodesN x).all rexP
            · exact ⟨6, by simp [k], by simp [k]⟩
            · exact ⟨0, by simp [k], by simp [k]⟩
      · exact ⟨3, by simp, by simp⟩
    obtain ⟨R, hR⟩ : ∃ R, R = spec_Check.l0v x (x.length : Int) := ⟨_, rfl⟩
    obtain ⟨f, f1, f2⟩ := begin_both x hl hx R hR.symm x.length 0 (by omega) (by omega)
    have f2' : spec_Check.l0v x 0 = _ := f2
    have f1' : impl_beginFault.l0v x (x.length : Int) 0 = some f := f1
    rw [spec_Check.l0v_eq, if_neg (by omega), n1] at hR
    simp only [Option.bind_some] at hR
    rw [f2', impl_beginFault.fv_eq, f1', Option.bind_some]
    cases f
    · rw [if_neg (by simp), if_neg (by simp), hR]
      by_cases k : (v.length : Int) > 8
      · rw [if_pos k, if_pos k]; exact tail _
      · rw [if_neg k, if_neg k]; exact tail _
    · exact ⟨2, by simp, by simp⟩
theorem rule_pre (r : S34) : ruleN (cv_Rule r) = pre (conv (whn r)) ++ pre (conv (thn r)) := by
  show pre ⟨(conv (whn r)).f0, (conv (whn r)).f1, (conv (whn r)).f2, (conv (whn r)).f3⟩ ++ pre ⟨(conv (thn r)).f0, (conv (thn r)).f1, (conv (thn r)).f2, (conv (thn r)).f3⟩ = _
  rw [eta2, eta2]
theorem nodes_bound : ∀ l : List S34, (∀ r, r ∈ l → bl_Rule r ≤ 1048576) → (nodesN (l.map cv_Rule)).length ≤ (l.map bl_Rule).sum + 2 * l.length
  | [], _ => by simp [nodesN]
  | r :: l, h => by
    have h1 := nodes_bound l fun q hq => h q (List.mem_cons_of_mem _ hq)
    have e : nodesN ((r :: l).map cv_Rule) = (pre (conv (whn r)) ++ pre (conv (thn r))) ++ nodesN (l.map cv_Rule) := by
      rw [← rule_pre]; rfl
    have h2 := pre_conv _ (whn r) (Nat.le_refl _)
    have h3 := pre_conv _ (thn r) (Nat.le_refl _)
    have h4 : bl_Rule r = bulk (whn r) + (bulk (thn r) + 0) := rfl
    rw [e, List.length_append, List.length_append, List.map_cons, List.sum_cons, List.length_cons]
    omega
theorem rule_nb (x : S34) (hx : Wf34 x) (hb : bl_Rule x ≤ 1048576)
    (h : impl_Tidy_1.fv (cv_Rule x).f0 (cv_Rule x).f1 (cv_Rule x).f2 (cv_Rule x).f3 (cv_Rule x).f4 (cv_Rule x).f5 (cv_Rule x).f6 (cv_Rule x).f7 (cv_Rule x).f8 = some false) :
    nb (conv (thn x)) = true ∧ (nb (conv (whn x)) = true ∨ ((conv (whn x)).f0 = 0 ∧ (conv (whn x)).f3 = [])) := by
  unfold bl_Rule at hb
  have g1 := good (whn x) (wf1 x hx) (by omega)
  have g2 := good (thn x) (wf2 x hx) (by omega)
  obtain ⟨t1, a1, a2, a3, a4⟩ := deep_node (whn x) (wf1 x hx) (by omega)
  obtain ⟨t2, b1, b2, b3, b4⟩ := deep_node (thn x) (wf2 x hx) (by omega)
  have h : impl_Tidy_1.fv x.f0 (conv (whn x)).f0 (conv (whn x)).f1 (conv (whn x)).f2 (conv (whn x)).f3 (conv (thn x)).f0 (conv (thn x)).f1 (conv (thn x)).f2 (conv (thn x)).f3 = some false := h
  generalize hp : conv (whn x) = p at *
  generalize hq : conv (thn x) = q at *
  have hnone : impl_noNode.f p.f0 p.f1 p.f2 p.f3 = some (decide (p.f0 = 0) && decide (p.f1 = 0) && decide (p.f2.toList = []) && decide (p.f3 = [])) := by
    unfold impl_noNode.f
    rw [plain_i, len0]
    by_cases h0 : p.f0 = 0 <;> by_cases h1 : p.f1 = 0 <;> by_cases h2 : p.f2.toList = [] <;> simp [h0, h1, h2]
  rw [impl_Tidy_1.fv_eq, a4, Option.bind_some, b4, g2.b] at h
  simp only [Option.bind_some, impl_Tidy_1.j0v_eq, impl_Tidy_1.j1v_eq, hnone, g1.e] at h
  have hJ : ∀ v : Bool, (if v = true then ((some (!(decide (p.f0 = 0) && decide (p.f1 = 0) && decide (p.f2.toList = []) && decide (p.f3 = []))))) else (if x.f0 = 3 then (some (!(nb p && eop p))) else (some true))) = some false → nb p = true ∨ (p.f0 = 0 ∧ p.f3 = []) := by
    intro v hv
    cases v
    · rw [if_neg (by simp)] at hv
      by_cases k3 : x.f0 = 3
      · rw [if_pos k3] at hv
        left
        cases hb2 : nb p
        · rw [hb2] at hv; cases hv
        · rfl
      · rw [if_neg k3] at hv; cases hv
    · rw [if_pos rfl] at hv
      right
      by_cases z0 : p.f0 = 0
      · refine ⟨z0, ?_⟩
        by_cases z3 : p.f3 = []
        · exact z3
        · rw [decide_eq_false z3, Bool.and_false] at hv; cases hv
      · rw [decide_eq_false z0, Bool.false_and, Bool.false_and, Bool.false_and] at hv; cases hv
  by_cases c1 : t1 > 16
  · simp [c1] at h
  · rw [if_neg c1] at h
    by_cases c2 : t2 > 16
    · simp [c2] at h
    · rw [if_neg c2] at h
      cases hq2 : nb q
      · simp [hq2] at h
      · refine ⟨rfl, ?_⟩
        cases hq3 : bop q
        · simp [hq3] at h
        · rw [hq2, hq3] at h
          simp only [Bool.and_self, Bool.not_true, Bool.false_eq_true, ↓reduceIte] at h
          by_cases k1 : x.f0 = 1
          · rw [if_pos k1] at h; exact hJ _ h
          · rw [if_neg k1] at h; exact hJ _ h
theorem no_fault (x : List S34) (hx : ∀ x_ ∈ x, Wf34 x_) (hb : bls_Rule x ≤ 1048576) (t : Int) (ht : ¬ t ≥ 0) (d : Nat) : ∀ i : Nat, x.length - i = d → i ≤ x.length →
    slices_IndexFunc_impl_Rule_impl_Rule__impl_Tidy_1.l0v (x.map cv_Rule) ((x.map cv_Rule).length : Int) (i : Int) = some t →
    ∀ (j : Nat) (hj : j < x.length), i ≤ j → impl_Tidy_1.fv (cv_Rule x[j]).f0 (cv_Rule x[j]).f1 (cv_Rule x[j]).f2 (cv_Rule x[j]).f3 (cv_Rule x[j]).f4 (cv_Rule x[j]).f5 (cv_Rule x[j]).f6 (cv_Rule x[j]).f7 (cv_Rule x[j]).f8 = some false := by
  have hb' := hb
  unfold bls_Rule at hb'
  have hlen : (x.map cv_Rule).length = x.length := List.length_map _
  induction d with
  | zero => intro i h1 h2 _ j hj h; omega
  | succ d ih =>
    intro i h1 h2 he j hj hij
    have hi : i < x.length := by omega
    have hm := Go.Proofs.YthgglepiopijjaaGreatW.Bulk.le_sum (List.mem_map_of_mem (f := bl_Rule) (List.getElem_mem hi))
    obtain ⟨b, e1, _⟩ := rule_both x[i] (hx _ (List.getElem_mem hi)) (by omega)
    rw [slices_IndexFunc_impl_Rule_impl_Rule__impl_Tidy_1.l0v_eq, if_pos (by omega), if_pos (by omega), if_pos (by omega), rdrule2 _ i (by omega), List.getElem_map, e1, Option.bind_some, wrap_in (by omega) (by omega), show (i : Int) + 1 = ((i + 1 : Nat) : Int) by omega] at he
    cases b
    · rw [if_pos (show (!false) = true from rfl)] at he
      have := Option.some.inj he
      omega
    · rw [if_neg (by simp)] at he
      by_cases hje : j = i
      · subst hje; exact e1
      · exact ih (i + 1) (by omega) (by omega) he j hj (by omega)
/-- A tidy program's nodes. -/
theorem tidy_nodes (x : List S34) (hx : ∀ x_ ∈ x, Wf34 x_) (hb : bls_Rule x ≤ 1048576) (h : impl_Tidy.fv (x.map cv_Rule) = some true) : ∀ m, m ∈ nodesN (x.map cv_Rule) → QQ m := by
  have hb' := hb
  unfold bls_Rule at hb'
  obtain ⟨b, t, _, e2, e3⟩ := tidy_loop x hx hb x.length 0 (by omega) (by omega)
  have e2' : slices_IndexFunc_impl_Rule_impl_Rule__impl_Tidy_1.l0v (x.map cv_Rule) ((x.map cv_Rule).length : Int) 0 = some t := e2
  rw [impl_Tidy.fv_eq, slices_ContainsFunc_impl_Rule_impl_Rule__impl_Tidy_1.fv_eq, slices_IndexFunc_impl_Rule_impl_Rule__impl_Tidy_1.fv_eq, e2', Option.bind_some, Option.bind_some] at h
  have ht : ¬ t ≥ 0 := by
    intro k
    rw [decide_eq_true k] at h; cases h
  intro m hm
  obtain ⟨l, hl, hml⟩ := List.mem_flatten.1 hm
  obtain ⟨r, hr, er⟩ := List.mem_map.1 hl
  obtain ⟨y, hy, ey⟩ := List.mem_map.1 hr
  obtain ⟨j, hj, ej⟩ := List.mem_iff_getElem.1 hy
  have hm2 := Go.Proofs.YthgglepiopijjaaGreatW.Bulk.le_sum (List.mem_map_of_mem (f := bl_Rule) hy)
  have hf := no_fault x hx hb t ht x.length 0 (by omega) (by omega) e2 j hj (by omega)
  rw [ej] at hf
  obtain ⟨q1, q2⟩ := rule_nb y (hx y hy) (by omega) hf
  have hbl : bl_Rule y = bulk (whn y) + (bulk (thn y) + 0) := rfl
  subst er ey
  rw [rule_pre] at hml
  rcases List.mem_append.1 hml with k | k
  · rcases q2 with q2 | ⟨q2, q3⟩
    · exact nodes_ok _ (whn y) (wf1 y (hx y hy)) (Nat.le_refl _) (by omega) q2 m k
    · rw [pre_eq, q3] at k
      rcases List.mem_cons.1 k with e | e
      · subst e; exact ⟨fun e => by omega, fun e => by omega⟩
      · cases e
  · exact nodes_ok _ (thn y) (wf2 y (hx y hy)) (Nat.le_refl _) (by omega) q1 m k
end FnExactCheckAid
open FnExactCheckAid

theorem FnExactCheck : laws_FnExactCheck.Pure := by
  intro x hx
  rw [laws_FnExactCheck.fv_eq, sz_RuleS x hx 1048576 (by omega) (by omega), Option.bind_some]
  by_cases h : dn (bls_Rule x) 1048576 < 0
  · rw [if_pos h]
  · have hn := dn_pos h (by omega)
    have hb1 : bls_Rule x ≤ 1048576 := by omega
    have hb2 := hb1
    unfold bls_Rule at hb2
    have hlen : (x.map cv_Rule).length = x.length := List.length_map _
    obtain ⟨b, e1, e2⟩ := tidy_both x hx.2 hb1
    have hbd := nodes_bound x fun r hr => by
      have := Go.Proofs.YthgglepiopijjaaGreatW.Bulk.le_sum (List.mem_map_of_mem (f := bl_Rule) hr)
      omega
    obtain ⟨r, c1, c2⟩ := check_both (x.map cv_Rule) (by omega) (by omega) b e1 e2 (fun e => by subst e; exact tidy_nodes x hx.2 hb1 e2)
    rw [if_neg h, to_RuleS x hx.2 hb1]
    simp only [Option.bind_some, c1, c2]
    rw [if_pos trivial, eq_RuleS x hx.2 hb1, Option.bind_some, if_pos rfl]

end Go.Proofs.YthgglepiopijjaaGreat.Pure
