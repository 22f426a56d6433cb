/- The program's Write answers as the reference's, for all arguments. -/
import Derived.Test.YthgglepiopijjaaGreatDoorFFnExactWrite
import Derived.Test.YthgglepiopijjaaGreatDoorBulk
import Derived.Lib.ItoaLen
import Derived.Lib.ReplaceLaws
import Derived.Lib.Join
set_option linter.unusedVariables false
set_option linter.unusedSimpArgs false
namespace Go.Proofs.YthgglepiopijjaaGreatDoor.Pure
open Go.RowKit Go.Proofs.YthgglepiopijjaaGreatDoor.QFnExactWrite Go.Proofs.YthgglepiopijjaaGreatDoorW.PrintWords Go.Proofs.YthgglepiopijjaaGreatDoorW.PrintLast Go.Proofs.YthgglepiopijjaaGreatDoorW.PrintMore Go.Proofs.YthgglepiopijjaaGreatDoorW.Lims
open Go.Proofs.YthgglepiopijjaaGreatDoorW.Bulk
namespace FnExactWriteAid

/-! ### texts as rows of bytes -/
def B (l : List UInt8) : ByteArray := ⟨l.toArray⟩
theorem B_self (s : ByteArray) : B s.data.toList = s := by cases s; simp [B]
theorem B_size (l : List UInt8) : (B l).size = l.length := by show l.toArray.size = l.length; simp
theorem B_data (l : List UInt8) : (B l).data.toList = l := by simp [B]
theorem B_append (a b : List UInt8) : B a ++ B b = B (a ++ b) := by
  apply ByteArray.ext
  rw [ByteArray.data_append]
  simp [B]
theorem B_inj {a b : List UInt8} (h : B a = B b) : a = b := by
  have := congrArg (fun s : ByteArray => s.data.toList) h
  simpa [B] using this
theorem B_extract (l : List UInt8) (i j : Nat) : (B l).extract i j = B ((l.drop i).take (j - i)) := by rw [Lib.extract_eq, B_data]; rfl
theorem B_toList (l : List UInt8) : (B l).toList = l := by rw [Lib.toList_data, B_data]
theorem B_bt (l : List UInt8) (i : Nat) (h : i < l.length) : bt (B l) (i : Int) = (l[i].toNat : Int) := by
  have h' : (i : Int).toNat < (B l).size := by rw [Int.toNat_natCast, B_size]; exact h
  rw [← bt_at (B l) i h']
  rfl
theorem wrap_in {n : Int} (h0 : -9223372036854775808 ≤ n) (h1 : n ≤ 9223372036854775807) : wrap64 n = n := by unfold wrap64; omega
theorem byte_is (b c : UInt8) (n : Int) (hc : (c.toNat : Int) = n) : ((b.toNat : Int) = n) ↔ b = c := by
  rw [← UInt8.toNat_inj, ← hc]; omega
theorem byte_ofNat (n : Nat) (h : n < 256) : (UInt8.ofNat n).toNat = n := by rw [UInt8.toNat_ofNat']; omega

/-! ### trees that came in: how much they hold; their copy; each is like itself -/
theorem rd_in (xs : List S32) (i : Nat) (h : i < xs.length) : rd_T32 xs (i : Int) = xs[i] := by
  unfold rd_T32
  simp [List.getD_eq_getElem?_getD, h]
theorem rd_in2 (xs : List S38) (i : Nat) (h : i < xs.length) : rd_T38 xs (i : Int) = xs[i] := by
  unfold rd_T38
  simp [List.getD_eq_getElem?_getD, h]

theorem eta2 (y : S38) : (⟨y.f0, y.f1, y.f2, y.f3⟩ : S38) = y := by cases y; rfl

def bulk (x : S32) : Nat := x.f2.size + x.f3.length + (x.f3.attach.map (fun k => bulk k.1)).sum
termination_by SizeOf.sizeOf x
decreasing_by
  have h := k.2
  cases x with
  | mk a b c l =>
    have h2 : SizeOf.sizeOf k.1 < SizeOf.sizeOf l := List.sizeOf_lt_of_mem h
    simp only [S32.mk.sizeOf_spec]
    omega
theorem bulk_eq (x : S32) : bulk x = x.f2.size + x.f3.length + (x.f3.map bulk).sum := by
  rw [bulk, List.attach_map_val (f := bulk)]
def conv (x : S32) : S38 := ⟨x.f0, x.f1, x.f2, x.f3.attach.map (fun k => conv k.1)⟩
termination_by SizeOf.sizeOf x
decreasing_by
  have h := k.2
  cases x with
  | mk a b c l =>
    have h2 : SizeOf.sizeOf k.1 < SizeOf.sizeOf l := List.sizeOf_lt_of_mem h
    simp only [S32.mk.sizeOf_spec]
    omega
theorem conv_eq (x : S32) : conv x = ⟨x.f0, x.f1, x.f2, x.f3.map conv⟩ := by
  rw [conv, List.attach_map_val (f := conv)]

theorem sz_loop (x0 : List S32) (hl : x0.length ≤ 9223372036854775807)
    (ih : ∀ y, y ∈ x0 → ∀ left : Int, 0 ≤ left → left ≤ 1048576 → laws_szNode.fv y.f0 y.f1 y.f2 y.f3 left = some (if (bulk y : Int) ≤ left then left - bulk y else -1)) (d : Nat) :
    ∀ (i : Nat) (left : Int), x0.length - i = d → i ≤ x0.length → 0 ≤ left → left ≤ 1048576 →
      laws_szNodeS.l0v x0 left (i : Int) = some (if ((((x0.drop i).map bulk).sum : Nat) : Int) ≤ left then left - (((x0.drop i).map bulk).sum : Nat) else -1) := by
  induction d with
  | zero =>
    intro i left h1 h2 h3 h4
    rw [laws_szNodeS.l0v_eq, if_neg (by omega), List.drop_of_length_le (by omega)]
    simp [h3]
  | succ d ihd =>
    intro i left h1 h2 h3 h4
    have hi : i < x0.length := by omega
    rw [laws_szNodeS.l0v_eq, if_pos (by omega), if_pos (by omega), rd_in x0 i hi, ih x0[i] (List.getElem_mem hi) left h3 h4]
    rw [List.drop_eq_getElem_cons hi, List.map_cons, List.sum_cons]
    simp only [Option.bind_some]
    by_cases hb : (bulk x0[i] : Int) ≤ left
    · rw [if_pos hb, if_neg (by omega), wrap_in (by omega) (by omega), show (i : Int) + 1 = ((i + 1 : Nat) : Int) by omega, ihd (i + 1) _ (by omega) (by omega) (by omega) (by omega)]
      by_cases hs : (((x0.drop (i + 1)).map bulk).sum : Int) ≤ left - bulk x0[i]
      · rw [if_pos hs, if_pos (by omega)]; congr 1; omega
      · rw [if_neg hs, if_neg (by omega)]
    · rw [if_neg hb, if_pos (by omega), if_neg (by omega)]

theorem sz_kids (x0 : List S32) (hl : x0.length ≤ 9223372036854775807)
    (ih : ∀ y, y ∈ x0 → ∀ left : Int, 0 ≤ left → left ≤ 1048576 → laws_szNode.fv y.f0 y.f1 y.f2 y.f3 left = some (if (bulk y : Int) ≤ left then left - bulk y else -1)) (left : Int) (h0 : 0 ≤ left) (h1 : left ≤ 1048576) :
    laws_szNodeS.fv x0 left = some (if ((x0.length + (x0.map bulk).sum : Nat) : Int) ≤ left then left - (x0.length + (x0.map bulk).sum : Nat) else -1) := by
  rw [laws_szNodeS.fv_eq, wrap_in (by omega) (by omega)]
  by_cases h : left - (x0.length : Int) < 0
  · rw [if_pos h, if_neg (by omega)]
  · rw [if_neg h]
    have := sz_loop x0 hl ih x0.length 0 (left - x0.length) (by omega) (by omega) (by omega) (by omega)
    rw [show (0 : Int) = ((0 : Nat) : Int) from rfl, this, List.drop_zero]
    by_cases hs : (((x0.map bulk).sum : Nat) : Int) ≤ left - x0.length
    · rw [if_pos hs, if_pos (by omega)]; congr 1; omega
    · rw [if_neg hs, if_neg (by omega)]

theorem sz_node (x : S32) (hx : Wf32 x) : ∀ left : Int, 0 ≤ left → left ≤ 1048576 → laws_szNode.fv x.f0 x.f1 x.f2 x.f3 left = some (if (bulk x : Int) ≤ left then left - bulk x else -1) := by
  induction hx with
  | mk x h0 h1 h2 h3 g3 ih =>
    intro left hl0 hl1
    have h2' := len_le h2
    rw [laws_szNode.fv_eq, wrap_in (by omega) (by omega), bulk_eq]
    by_cases h : left - (x.f2.size : Int) < 0
    · rw [if_pos h, if_neg (by omega)]
    · rw [if_neg h, sz_kids x.f3 (len_le h3) ih _ (by omega) (by omega)]
      simp only [Option.bind_some]
      by_cases hs : ((x.f3.length + (x.f3.map bulk).sum : Nat) : Int) ≤ left - x.f2.size
      · rw [if_pos hs, if_neg (by omega), if_pos (by omega)]; congr 1; omega
      · rw [if_neg hs, if_pos (by omega), if_neg (by omega)]

theorem le_sum {l : List Nat} {n : Nat} (h : n ∈ l) : n ≤ l.sum := by
  induction l with
  | nil => simp at h
  | cons a l ih =>
    rw [List.sum_cons]
    rcases List.mem_cons.1 h with rfl | h
    · omega
    · have := ih h; omega

theorem bulk_kid {x y : S32} (h : y ∈ x.f3) : bulk y + x.f3.length + x.f2.size ≤ bulk x := by
  rw [bulk_eq x]
  have := le_sum (List.mem_map_of_mem (f := bulk) h)
  omega

theorem to_loop (x0 : List S32) (hl : x0.length ≤ 1048576) (ih : ∀ y, y ∈ x0 → laws_toNode.fv y.f0 y.f1 y.f2 y.f3 = some ((conv y).f0, (conv y).f1, (conv y).f2, (conv y).f3)) (d : Nat) :
    ∀ (i : Nat) (rest : List S38), x0.length - i = d → i ≤ x0.length → rest.length = x0.length - i → laws_toNodeS.l0v x0 ((x0.take i).map conv ++ rest) (i : Int) = some (x0.map conv) := by
  induction d with
  | zero =>
    intro i rest h1 h2 h3
    have : rest = [] := List.eq_nil_of_length_eq_zero (by omega)
    subst this
    rw [laws_toNodeS.l0v_eq, if_neg (by omega), List.take_of_length_le (by omega), List.append_nil]
  | succ d ihd =>
    intro i rest h1 h2 h3
    have hi : i < x0.length := by omega
    obtain ⟨r, rest, rfl⟩ : ∃ r rs, rest = r :: rs := by cases rest with
      | nil => simp at h3; omega
      | cons r rs => exact ⟨r, rs, rfl⟩
    rw [laws_toNodeS.l0v_eq, if_pos (by omega), if_pos (by omega), rd_in x0 i hi, ih x0[i] (List.getElem_mem hi)]
    simp only [Option.bind_some]
    have hlen : ((x0.take i).map conv).length = i := by simp; omega
    rw [if_pos (by simp; omega), wrap_in (by omega) (by omega), show (i : Int) + 1 = ((i + 1 : Nat) : Int) by omega, Int.toNat_natCast]
    have e : ((x0.take i).map conv ++ r :: rest).set i ⟨(conv x0[i]).f0, (conv x0[i]).f1, (conv x0[i]).f2, (conv x0[i]).f3⟩ = (x0.take (i + 1)).map conv ++ rest := by
      rw [List.set_append_right _ _ (by omega), hlen, Nat.sub_self, List.set_cons_zero, List.take_succ_eq_append_getElem hi, List.map_append, List.append_assoc, eta2]
      simp
    rw [e]
    exact ihd (i + 1) rest (by omega) (by omega) (by simp at h3; omega)

theorem to_kids (x0 : List S32) (hl : x0.length ≤ 1048576) (ih : ∀ y, y ∈ x0 → laws_toNode.fv y.f0 y.f1 y.f2 y.f3 = some ((conv y).f0, (conv y).f1, (conv y).f2, (conv y).f3)) :
    laws_toNodeS.fv x0 = some (x0.map conv) := by
  rw [laws_toNodeS.fv_eq, if_pos (by omega), if_pos (by omega)]
  have := to_loop x0 hl ih x0.length 0 (List.replicate x0.length z38) (by omega) (by omega) (by simp)
  simpa using this

theorem to_node (x : S32) (hx : Wf32 x) (hb : bulk x ≤ 1048576) : laws_toNode.fv x.f0 x.f1 x.f2 x.f3 = some ((conv x).f0, (conv x).f1, (conv x).f2, (conv x).f3) := by
  induction hx with
  | mk x h0 h1 h2 h3 g3 ih =>
    have hk := bulk_eq x
    rw [laws_toNode.fv_eq, to_kids x.f3 (by omega) (fun y hy => ih y hy (by have := bulk_kid hy; omega)), conv_eq]
    rfl

theorem eq_loop (l : List S38) (hl : l.length ≤ 1048576) (ih : ∀ y, y ∈ l → laws_eqNode.fv y.f0 y.f1 y.f2 y.f3 y.f0 y.f1 y.f2 y.f3 = some true) (d : Nat) :
    ∀ i : Nat, l.length - i = d → i ≤ l.length → laws_eqNodeS.l0v l l (i : Int) = some true := by
  induction d with
  | zero =>
    intro i h1 h2
    rw [laws_eqNodeS.l0v_eq, if_neg (by omega)]
  | succ d ihd =>
    intro i h1 h2
    have hi : i < l.length := by omega
    rw [laws_eqNodeS.l0v_eq, if_pos (by omega), if_pos (by omega), if_pos (by omega), rd_in2 l i hi, ih l[i] (List.getElem_mem hi)]
    simp only [Option.bind_some, if_true]
    rw [wrap_in (by omega) (by omega), show (i : Int) + 1 = ((i + 1 : Nat) : Int) by omega]
    exact ihd (i + 1) (by omega) (by omega)

theorem eq_kids (l : List S38) (hl : l.length ≤ 1048576) (ih : ∀ y, y ∈ l → laws_eqNode.fv y.f0 y.f1 y.f2 y.f3 y.f0 y.f1 y.f2 y.f3 = some true) : laws_eqNodeS.fv l l = some true := by
  rw [laws_eqNodeS.fv_eq, if_pos rfl]
  exact eq_loop l hl ih l.length 0 (by omega) (by omega)

theorem eq_node (x : S32) (hx : Wf32 x) (hb : bulk x ≤ 1048576) : laws_eqNode.fv (conv x).f0 (conv x).f1 (conv x).f2 (conv x).f3 (conv x).f0 (conv x).f1 (conv x).f2 (conv x).f3 = some true := by
  induction hx with
  | mk x h0 h1 h2 h3 g3 ih =>
    have hk := bulk_eq x
    rw [laws_eqNode.fv_eq, if_pos rfl, if_pos rfl, if_pos rfl, conv_eq]
    simp only []
    rw [eq_kids (x.f3.map conv) (by simp; omega) (fun y hy => by
      obtain ⟨z, hz, rfl⟩ := List.mem_map.1 hy
      exact ih z hz (by have := bulk_kid hz; omega))]
    rfl

theorem max_some (a b : Int) : spec_l1Max.f a b = some (mx a b) := by
  unfold spec_l1Max.f mx
  by_cases h : a > b
  · rw [if_pos h, if_neg (by omega)]
  · rw [if_neg h]
    by_cases e : a < b
    · rw [if_pos e]
    · rw [if_neg e]; congr 1; omega
theorem mx_bounds {a b c : Int} (ha : 0 ≤ a) (hb : b ≤ c) (ha' : a ≤ c) : 0 ≤ mx a b ∧ mx a b ≤ c := by unfold mx; split <;> omega

theorem deep_loop (l : List S38) (hl : l.length ≤ 1048576) (b : Int) (hb : 0 ≤ b ∧ b ≤ 1048576) (p q : Int) (s : ByteArray)
    (ih : ∀ y, y ∈ l → ∃ t, 0 ≤ t ∧ t ≤ b ∧ spec_Deep.fv y.f0 y.f1 y.f2 y.f3 = some t ∧ impl_Deep.fv y.f0 y.f1 y.f2 y.f3 = some t) (d : Nat) :
    ∀ (i : Nat) (m : Int), l.length - i = d → i ≤ l.length → 0 ≤ m → m ≤ b → ∃ t, 0 ≤ t ∧ t ≤ b + 1 ∧ spec_Deep.l0v m (i : Int) p q s l = some t ∧ impl_Deep.l0v m l (l.length : Int) (i : Int) = some t := by
  induction d with
  | zero =>
    intro i m h1 h2 h3 h4
    refine ⟨m + 1, by omega, by omega, ?_, ?_⟩
    · rw [spec_Deep.l0v_eq, if_neg (by omega), wrap_in (by omega) (by omega)]
    · rw [impl_Deep.l0v_eq, if_neg (by omega), wrap_in (by omega) (by omega)]
  | succ d ihd =>
    intro i m h1 h2 h3 h4
    have hi : i < l.length := by omega
    obtain ⟨t, ht0, htb, hs, hp⟩ := ih l[i] (List.getElem_mem hi)
    obtain ⟨hm0, hm1⟩ := mx_bounds h3 htb h4
    obtain ⟨u, hu0, hu1, hu2, hu3⟩ := ihd (i + 1) (mx m t) (by omega) (by omega) hm0 hm1
    refine ⟨u, hu0, hu1, ?_, ?_⟩
    · rw [spec_Deep.l0v_eq, if_pos (by omega), if_pos (by omega), rd_in2 l i hi, hs]
      simp only [Option.bind_some, max_some]
      rw [wrap_in (by omega) (by omega), show (i : Int) + 1 = ((i + 1 : Nat) : Int) by omega]
      exact hu2
    · rw [impl_Deep.l0v_eq, if_pos (by omega), if_pos (by omega), if_pos (by omega), rd_in2 l i hi, hp]
      simp only [Option.bind_some]
      rw [wrap_in (by omega) (by omega), show (i : Int) + 1 = ((i + 1 : Nat) : Int) by omega]
      exact hu3

theorem deep_node (x : S32) (hx : Wf32 x) (hb : bulk x ≤ 1048576) : ∃ t : Int, 0 ≤ t ∧ t ≤ bulk x + 1 ∧ spec_Deep.fv (conv x).f0 (conv x).f1 (conv x).f2 (conv x).f3 = some t ∧ impl_Deep.fv (conv x).f0 (conv x).f1 (conv x).f2 (conv x).f3 = some t := by
  induction hx with
  | mk x h0 h1 h2 h3 g3 ih =>
    have hk := bulk_eq x
    obtain ⟨t, h4, h5, h6, h7⟩ := deep_loop (x.f3.map conv) (by simp; omega) (bulk x : Int) (by omega) x.f0 x.f1 x.f2 (fun y hy => by
      obtain ⟨z, hz, rfl⟩ := List.mem_map.1 hy
      have hbz := bulk_kid hz
      have hpos : 0 < x.f3.length := List.length_pos_of_mem hz
      obtain ⟨t, h4, h5, h6, h7⟩ := ih z hz (by omega)
      exact ⟨t, h4, by omega, h6, h7⟩) (x.f3.map conv).length 0 0 (by omega) (by omega) (by omega) (by omega)
    refine ⟨t, h4, h5, ?_, ?_⟩
    · rw [conv_eq, spec_Deep.fv_eq]; exact h6
    · rw [conv_eq, impl_Deep.fv_eq]; exact h7

/-! ### rules that came in -/
theorem rdrule (xs : List S34) (i : Nat) (h : i < xs.length) : rd_T34 xs (i : Int) = xs[i] := by
  unfold rd_T34
  simp [List.getD_eq_getElem?_getD, h]
theorem rdrule2 (xs : List S40) (i : Nat) (h : i < xs.length) : rd_T40 xs (i : Int) = xs[i] := by
  unfold rd_T40
  simp [List.getD_eq_getElem?_getD, h]
abbrev whn (x : S34) : S32 := ⟨x.f1, x.f2, x.f3, x.f4⟩
abbrev thn (x : S34) : S32 := ⟨x.f5, x.f6, x.f7, x.f8⟩
theorem wf1 (x : S34) (hx : Wf34 x) : Wf32 (whn x) := Wf32.mk (whn x) hx.2.1 hx.2.2.1 hx.2.2.2.1 hx.2.2.2.2.1.1 hx.2.2.2.2.1.2
theorem wf2 (x : S34) (hx : Wf34 x) : Wf32 (thn x) := Wf32.mk (thn x) hx.2.2.2.2.2.1 hx.2.2.2.2.2.2.1 hx.2.2.2.2.2.2.2.1 hx.2.2.2.2.2.2.2.2.1 hx.2.2.2.2.2.2.2.2.2
def bl_Rule (x : S34) : Nat := bulk (whn x) + (bulk (thn x) + 0)
theorem sz_Rule (x : S34) (hx : Wf34 x) (left : Int) (h0 : 0 ≤ left) (h1 : left ≤ 1048576) :
    laws_szRule.fv x.f0 x.f1 x.f2 x.f3 x.f4 x.f5 x.f6 x.f7 x.f8 left = some (dn (bl_Rule x) left) := by
  rw [laws_szRule.fv_eq]
  show _ = some (dn (bulk (whn x) + (bulk (thn x) + 0)) left)
  refine dn_bind h0 h1 (sz_node (whn x) (wf1 x hx) _ h0 h1) fun t h0 h1 => ?_
  refine dn_bind h0 h1 (sz_node (thn x) (wf2 x hx) _ h0 h1) fun t h0 h1 => ?_
  exact dn_end _ h0
def bls_Rule (l : List S34) : Nat := l.length + (l.map bl_Rule).sum
theorem sz_RuleS (l : List S34) (hx : l.length ≤ maxLen ∧ ∀ x_ ∈ l, Wf34 x_) (left : Int) (h0 : 0 ≤ left) (h1 : left ≤ 1048576) : laws_szRuleS.fv l left = some (dn (bls_Rule l) left) := by
  rw [laws_szRuleS.fv_eq]
  have hl := len_le hx.1
  refine dn_cut h0 h1 hl fun t ht h0 h1 => ?_
  rw [ht]
  exact sz_all laws_szRuleS.l0v (fun x0 x1 x5 => (laws_szRule.fv ((rd_T34 x0 x5).f0) ((rd_T34 x0 x5).f1) ((rd_T34 x0 x5).f2) ((rd_T34 x0 x5).f3) ((rd_T34 x0 x5).f4) ((rd_T34 x0 x5).f5) ((rd_T34 x0 x5).f6) ((rd_T34 x0 x5).f7) ((rd_T34 x0 x5).f8) x1)) bl_Rule (by intro x l i; exact laws_szRuleS.l0v_eq x l i) l hl (fun i h left h0 h1 => by simp only [rdrule l i h]; exact sz_Rule l[i] (hx.2 _ (List.getElem_mem h)) left h0 h1) t h0 h1
def cv_Rule (x : S34) : S40 := ⟨x.f0, (conv (whn x)).f0, (conv (whn x)).f1, (conv (whn x)).f2, (conv (whn x)).f3, (conv (thn x)).f0, (conv (thn x)).f1, (conv (thn x)).f2, (conv (thn x)).f3⟩
theorem to_Rule (x : S34) (hx : Wf34 x) (hb : bl_Rule x ≤ 1048576) :
    laws_toRule.fv x.f0 x.f1 x.f2 x.f3 x.f4 x.f5 x.f6 x.f7 x.f8 = some (x.f0, (conv (whn x)).f0, (conv (whn x)).f1, (conv (whn x)).f2, (conv (whn x)).f3, (conv (thn x)).f0, (conv (thn x)).f1, (conv (thn x)).f2, (conv (thn x)).f3) := by
  unfold bl_Rule at hb
  rw [laws_toRule.fv_eq, to_node (whn x) (wf1 x hx) (by omega), Option.bind_some, to_node (thn x) (wf2 x hx) (by omega), Option.bind_some]
theorem to_RuleS (l : List S34) (hx : ∀ x_ ∈ l, Wf34 x_) (hb : bls_Rule l ≤ 1048576) : laws_toRuleS.fv l = some (l.map cv_Rule) := by
  have hb' := hb
  unfold bls_Rule at hb'
  rw [laws_toRuleS.fv_eq, if_pos (by omega), if_pos (by omega)]
  have := to_all laws_toRuleS.l0v (fun x0 x4 => (laws_toRule.fv ((rd_T34 x0 x4).f0) ((rd_T34 x0 x4).f1) ((rd_T34 x0 x4).f2) ((rd_T34 x0 x4).f3) ((rd_T34 x0 x4).f4) ((rd_T34 x0 x4).f5) ((rd_T34 x0 x4).f6) ((rd_T34 x0 x4).f7) ((rd_T34 x0 x4).f8))) (fun bt215 => (⟨bt215.1, bt215.2.1, bt215.2.2.1, bt215.2.2.2.1, bt215.2.2.2.2.1, bt215.2.2.2.2.2.1, bt215.2.2.2.2.2.2.1, bt215.2.2.2.2.2.2.2.1, bt215.2.2.2.2.2.2.2.2⟩ : S40)) cv_Rule (by intro x acc i; exact laws_toRuleS.l0v_eq x acc i) l (by omega) (fun i h => by
    have hm := Go.Proofs.YthgglepiopijjaaGreatDoorW.Bulk.le_sum (List.mem_map_of_mem (f := bl_Rule) (List.getElem_mem h))
    simp only [rdrule l i h]; exact ⟨_, to_Rule l[i] (hx _ (List.getElem_mem h)) (by omega), rfl⟩) z40
  simpa using this
theorem eq_RuleS (l : List S34) (hx : ∀ x_ ∈ l, Wf34 x_) (hb : bls_Rule l ≤ 1048576) : laws_eqRuleS.fv (l.map cv_Rule) (l.map cv_Rule) = some true := by
  have hb' := hb
  unfold bls_Rule at hb'
  rw [laws_eqRuleS.fv_eq, if_pos rfl]
  exact eq_all laws_eqRuleS.l0v (fun x0 x1 x5 => (laws_eqRule.fv ((rd_T40 x0 x5).f0) ((rd_T40 x0 x5).f1) ((rd_T40 x0 x5).f2) ((rd_T40 x0 x5).f3) ((rd_T40 x0 x5).f4) ((rd_T40 x0 x5).f5) ((rd_T40 x0 x5).f6) ((rd_T40 x0 x5).f7) ((rd_T40 x0 x5).f8) ((rd_T40 x1 x5).f0) ((rd_T40 x1 x5).f1) ((rd_T40 x1 x5).f2) ((rd_T40 x1 x5).f3) ((rd_T40 x1 x5).f4) ((rd_T40 x1 x5).f5) ((rd_T40 x1 x5).f6) ((rd_T40 x1 x5).f7) ((rd_T40 x1 x5).f8))) (by intro x y i; exact laws_eqRuleS.l0v_eq x y i) (l.map cv_Rule) (by simp; omega) (fun i hi => by
    have hi' : i < l.length := by simpa using hi
    have hm := Go.Proofs.YthgglepiopijjaaGreatDoorW.Bulk.le_sum (List.mem_map_of_mem (f := bl_Rule) (List.getElem_mem hi'))
    have hq : bl_Rule l[i] = bulk (whn l[i]) + (bulk (thn l[i]) + 0) := rfl
    have hw := hx _ (List.getElem_mem hi')
    simp only [rdrule2 _ i hi, List.getElem_map]
    show laws_eqRule.fv l[i].f0 (conv (whn l[i])).f0 (conv (whn l[i])).f1 (conv (whn l[i])).f2 (conv (whn l[i])).f3 (conv (thn l[i])).f0 (conv (thn l[i])).f1 (conv (thn l[i])).f2 (conv (thn l[i])).f3 l[i].f0 (conv (whn l[i])).f0 (conv (whn l[i])).f1 (conv (whn l[i])).f2 (conv (whn l[i])).f3 (conv (thn l[i])).f0 (conv (thn l[i])).f1 (conv (thn l[i])).f2 (conv (thn l[i])).f3 = some true
    rw [laws_eqRule.fv_eq, if_pos rfl, eq_node (whn l[i]) (wf1 _ hw) (by omega), Option.bind_some, if_pos rfl, eq_node (thn l[i]) (wf2 _ hw) (by omega), Option.bind_some, if_pos rfl])

theorem within_loop (l : List ByteArray) (s : ByteArray) (hl : l.length ≤ 4000000) (d : Nat) : ∀ i : Nat, l.length - i = d → i ≤ l.length →
    spec_l7Within.l0v l s (i : Int) = some (decide (s.toList ∈ (l.drop i).map ByteArray.toList)) := by
  induction d with
  | zero =>
    intro i h1 h2
    rw [spec_l7Within.l0v_eq, if_neg (by omega), List.drop_of_length_le (by omega)]
    simp
  | succ d ih =>
    intro i h1 h2
    have hi : i < l.length := by omega
    rw [spec_l7Within.l0v_eq, if_pos (by omega), if_pos (by omega), rdOf_nat _ l i hi, wrap_in (by omega) (by omega), show (i : Int) + 1 = ((i + 1 : Nat) : Int) by omega, ih (i + 1) (by omega) (by omega)]
    rw [List.drop_eq_getElem_cons hi, List.map_cons]
    by_cases h : l[i].toList = s.toList
    · rw [if_pos h, h]; congr 1; exact (decide_eq_true List.mem_cons_self).symm
    · rw [if_neg h]; congr 1; rw [decide_eq_decide, List.mem_cons]; exact ⟨Or.inr, fun e => e.resolve_left (fun e => h e.symm)⟩
theorem within (l : List ByteArray) (s : ByteArray) (hl : l.length ≤ 4000000) : spec_l7Within.fv l s = some (decide (s.toList ∈ l.map ByteArray.toList)) := by
  rw [spec_l7Within.fv_eq]
  exact within_loop l s hl l.length 0 (by omega) (by omega)
theorem index_loop (l : List ByteArray) (s : ByteArray) (hl : l.length ≤ 4000000) (d : Nat) : ∀ i : Nat, l.length - i = d → i ≤ l.length →
    ∃ r : Int, slices_Index_string_string.l0v l s (l.length : Int) (i : Int) = some r ∧ (r ≥ 0 ↔ s.toList ∈ (l.drop i).map ByteArray.toList) := by
  induction d with
  | zero =>
    intro i h1 h2
    exact ⟨-1, by rw [slices_Index_string_string.l0v_eq, if_neg (by omega)], by rw [List.drop_of_length_le (by omega)]; simp⟩
  | succ d ih =>
    intro i h1 h2
    have hi : i < l.length := by omega
    obtain ⟨r, hr, he⟩ := ih (i + 1) (by omega) (by omega)
    rw [slices_Index_string_string.l0v_eq, if_pos (by omega), if_pos (by omega), if_pos (by omega), rdOf_nat _ l i hi, wrap_in (by omega) (by omega), show (i : Int) + 1 = ((i + 1 : Nat) : Int) by omega]
    rw [List.drop_eq_getElem_cons hi, List.map_cons]
    by_cases h : s.toList = l[i].toList
    · exact ⟨i, by rw [if_pos h], ⟨fun _ => by rw [h]; exact List.mem_cons_self, fun _ => by omega⟩⟩
    · exact ⟨r, by rw [if_neg h]; exact hr, by rw [he, List.mem_cons]; exact ⟨Or.inr, fun e => e.resolve_left h⟩⟩
theorem contains (l : List ByteArray) (s : ByteArray) (hl : l.length ≤ 4000000) : slices_Contains_string_string.fv l s = some (decide (s.toList ∈ l.map ByteArray.toList)) := by
  rw [slices_Contains_string_string.fv_eq, slices_Index_string_string.fv_eq]
  obtain ⟨r, hr, he⟩ := index_loop l s hl l.length 0 (by omega) (by omega)
  have hr' : slices_Index_string_string.l0v l s (l.length : Int) 0 = some r := hr
  rw [hr']
  simp only [Option.bind_some]
  congr 1
  rw [decide_eq_decide]
  exact he
theorem jl {k l : List UInt8} {X C : Option Bool} : (if k = l then (if (k == l) = true then some true else C) else X) = if k = l then some true else X := by
  by_cases h : k = l
  · subst h; simp
  · rw [if_neg h, if_neg h]
theorem jz {k l : List UInt8} {C : Option Bool} : (if (k == l) = true then some true else C) = if k = l then some true else C := by
  by_cases h : k = l
  · subst h; simp
  · rw [if_neg h, if_neg (by simpa using h)]
theorem or_ite {p q : Prop} [Decidable p] [Decidable q] {a X : Option Bool} : (if p then a else if q then a else X) = if p ∨ q then a else X := by
  by_cases h : p <;> by_cases h2 : q <;> simp [h, h2]
theorem bind_ite {p : Prop} [Decidable p] {X : Option Bool} : ((some (decide p)).bind fun t => if t = true then some true else X) = if p then some true else X := by
  by_cases h : p <;> simp [h]
def words : List (List UInt8) := [[66, 69, 71, 73, 78], [112, 114, 105, 110, 116], [105, 102], [101, 108, 115, 101], [119, 104, 105, 108, 101], [110, 101, 120, 116], [100, 101, 108, 101, 116, 101], [78, 82], [78, 70]]
def callws : List (List UInt8) := [[108, 101, 110, 103, 116, 104], [115, 117, 98, 115, 116, 114], [105, 110, 100, 101, 120], [105, 110, 116], [117, 112, 112, 101, 114], [108, 111, 119, 101, 114]]
/-- Is a text one of the words that are no names? -/
def isKey (k : List UInt8) : Bool := decide (k ∈ words ∨ k ∈ callws)
theorem spec_key (s : ByteArray) : spec_Keyword.fv s = some (isKey s.toList) := by
  rw [spec_Keyword.fv_eq]
  simp only [spec_l7Calls.f, Option.bind_some]
  rw [within _ _ (by simp), within _ _ (by simp)]
  simp only [List.map_cons, List.map_nil, Go.ByteArray.toList_mk]
  rw [bind_ite]
  simp only [Option.bind_some]
  show (if s.toList ∈ words then some true else some (decide (s.toList ∈ callws))) = _
  unfold isKey
  by_cases h : s.toList ∈ words
  · rw [if_pos h]; simp [h]
  · rw [if_neg h]; simp [h]
theorem impl_key (s : ByteArray) : impl_Keyword.fv s = some (isKey s.toList) := by
  rw [impl_Keyword.fv_eq]
  simp only [impl_Keyword.j0v_eq, impl_calls.f, Option.bind_some]
  rw [contains _ _ (by simp)]
  simp only [List.map_cons, List.map_nil, Go.ByteArray.toList_mk]
  simp only [jl, jz]
  simp only [Option.bind_some]
  unfold isKey
  have e : (s.toList ∈ words) ↔ (s.toList = [66, 69, 71, 73, 78] ∨ s.toList = [112, 114, 105, 110, 116] ∨ s.toList = [105, 102] ∨ s.toList = [101, 108, 115, 101] ∨ s.toList = [119, 104, 105, 108, 101] ∨ s.toList = [110, 101, 120, 116] ∨ s.toList = [100, 101, 108, 101, 116, 101] ∨ s.toList = [78, 82] ∨ s.toList = [78, 70]) := by
    simp only [words, List.mem_cons, List.not_mem_nil, or_false]
  by_cases h : s.toList ∈ words
  · rcases e.1 h with g | g | g | g | g | g | g | g | g <;> (rw [g]; rfl)
  · have h2 := h
    rw [e] at h2
    simp only [not_or] at h2
    obtain ⟨h1, h2, h3, h4, h5, h6, h7, h8, h9⟩ := h2
    rw [if_neg h1, if_neg h2, if_neg h3, if_neg h4, if_neg h5, if_neg h6, if_neg h7, if_neg h8, if_neg h9]
    show some (decide (s.toList ∈ callws)) = _
    simp [h]

theorem bt_nat (s : ByteArray) (i : Nat) (h : i < s.data.toList.length) : bt s (i : Int) = (s.data.toList[i].toNat : Int) := by
  have h' : (i : Int).toNat < s.size := by rw [Int.toNat_natCast, Lib.size_eq]; exact h
  rw [← bt_at s i h']
  rfl
theorem byte_eq (b : UInt8) (n : Nat) (hn : n < 256) : ((b.toNat : Int) = (n : Int)) ↔ b = n.toUInt8 := by
  constructor
  · intro h
    apply UInt8.toNat_inj.1
    rw [Nat.toUInt8_eq, UInt8.toNat_ofNat_of_lt' (by simpa using hn)]
    omega
  · intro h
    rw [h, Nat.toUInt8_eq, UInt8.toNat_ofNat_of_lt' (by simpa using hn)]

theorem line_loop (a : ByteArray) (hl : a.size ≤ 9223372036854775806) (d : Nat) : ∀ i : Nat, a.size - i = d → i ≤ a.size → spec_l9Line.l0v a (i : Int) = some (decide ((10 : UInt8) ∉ a.data.toList.drop i)) := by
  have hs := Lib.size_eq a
  induction d with
  | zero =>
    intro i h1 h2
    rw [spec_l9Line.l0v_eq, if_neg (by omega), List.drop_of_length_le (by omega)]
    simp
  | succ d ih =>
    intro i h1 h2
    have hi : i < a.data.toList.length := by omega
    rw [spec_l9Line.l0v_eq, if_pos (by omega), if_pos (by omega), bt_nat a i hi, wrap_in (by omega) (by omega), show (i : Int) + 1 = ((i + 1 : Nat) : Int) by omega, ih (i + 1) (by omega) (by omega), List.drop_eq_getElem_cons hi]
    have hb : ((a.data.toList[i].toNat : Int) = 10) ↔ a.data.toList[i] = (10 : UInt8) := byte_eq a.data.toList[i] 10 (by omega)
    by_cases h : a.data.toList[i] = (10 : UInt8)
    · rw [if_pos (hb.2 h), h]; simp
    · rw [if_neg (fun e => h (hb.1 e))]
      have h' : ¬ (10 : UInt8) = a.data.toList[i] := fun e => h e.symm
      simp only [List.mem_cons, h', false_or]
theorem line (a : ByteArray) (hl : a.size ≤ 9223372036854775806) : spec_l9Line.fv a = some (decide ((10 : UInt8) ∉ a.data.toList)) := by
  rw [spec_l9Line.fv_eq]
  exact line_loop a hl a.size 0 (by omega) (by omega)
theorem idx1 (c : UInt8) : ∀ l : List UInt8, (0 ≤ Lib.index l [c]) ↔ c ∈ l
  | [] => by simp [Lib.index]
  | b :: l => by
    have ih := idx1 c l
    have hg := Lib.index_ge l [c]
    unfold Lib.index
    by_cases h : c = b
    · subst h; simp [List.isPrefixOf]
    · have h' : (c == b) = false := by simpa using h
      have hp : [c].isPrefixOf (b :: l) = false := by rw [List.isPrefixOf, h']; rfl
      rw [hp, if_neg (by simp), List.mem_cons, ← ih]
      by_cases h2 : Lib.index l [c] = -1
      · rw [h2]; simp [h]
      · have h3 : (Lib.index l [c] == -1) = false := by simpa using h2
        rw [h3, if_neg (by simp)]
        constructor
        · intro _; exact .inr (by omega)
        · rintro (k | k)
          · exact absurd k h
          · omega
theorem cont (a : ByteArray) (hl : a.size ≤ 1048576) : strings_Contains.f a (⟨#[10]⟩ : ByteArray) = some (decide ((10 : UInt8) ∈ a.data.toList)) := by
  unfold strings_Contains.f
  rw [if_pos (by omega)]
  congr 1
  show decide (0 ≤ Lib.index a.data.toList [10]) = _
  rw [decide_eq_decide]
  exact idx1 _ _

/-! ### texts: lines, patterns, names -/
theorem in_s (a lo hi : Int) : spec_l1In.f a lo hi = some (decide (lo ≤ a ∧ a ≤ hi)) := by
  unfold spec_l1In.f
  by_cases h : lo ≤ a
  · rw [if_pos h]; simp [h]
  · rw [if_neg h]; simp [h]
theorem in_i (a lo hi : Int) : impl_in.f a lo hi = some (decide (lo ≤ a ∧ a ≤ hi)) := by
  unfold impl_in.f
  by_cases h : lo ≤ a
  · rw [if_pos h]; simp [h]
  · rw [if_neg h]; simp [h]
def ln (c : ByteArray) : Bool := decide ((10 : UInt8) ∉ c.data.toList)
theorem tokenText (c : ByteArray) (hl : c.size ≤ 1048576) : impl_tokenText.f c = some (ln c) := by
  unfold impl_tokenText.f ln
  rw [cont c hl, Option.bind_some, decide_not]
theorem rex_run (c : ByteArray) (hl : c.size ≤ 1048576) (d : Nat) : ∀ i : Nat, c.size - i ≤ d → i ≤ c.size → ∃ b, spec_l9Rex.l0v c (i : Int) = some b ∧ impl_tokenRex.l0v c (i : Int) = some b := by
  induction d with
  | zero =>
    intro i h1 h2
    refine ⟨ln c, ?_, ?_⟩
    · rw [spec_l9Rex.l0v_eq, if_neg (by omega), line c (by omega)]; rfl
    · rw [impl_tokenRex.l0v_eq, if_neg (by omega), tokenText c hl]; rfl
  | succ d ih =>
    intro i h1 h2
    by_cases hi : i < c.size
    · have w1 : wrap64 ((i : Int) + 1) = ((i + 1 : Nat) : Int) := by rw [wrap_in (by omega) (by omega)]; omega
      have w2 : wrap64 (((i + 1 : Nat) : Int) + 1) = ((i + 2 : Nat) : Int) := by rw [wrap_in (by omega) (by omega)]; omega
      have c1 : (i : Int) < (c.size : Int) := by omega
      have c2 : 0 ≤ (i : Int) := by omega
      rw [spec_l9Rex.l0v_eq, impl_tokenRex.l0v_eq]
      simp only [c1, c2, w1, w2, if_true]
      by_cases h : bt c (i : Int) = 92
      · simp only [h, if_true]
        by_cases e : ((i + 1 : Nat) : Int) = (c.size : Int)
        · simp only [e, if_true]; exact ⟨_, rfl, rfl⟩
        · have c3 : ((i + 1 : Nat) : Int) < (c.size : Int) := by omega
          have c4 : 0 ≤ ((i + 1 : Nat) : Int) := by omega
          simp only [e, c3, c4, if_true, if_false]
          by_cases g : bt c ((i + 1 : Nat) : Int) = 47
          · simp only [g, if_true]; exact ⟨_, rfl, rfl⟩
          · simp only [g, if_false]; exact ih (i + 2) (by omega) (by omega)
      · simp only [h, if_false]; exact ih (i + 1) (by omega) (by omega)
    · refine ⟨ln c, ?_, ?_⟩
      · rw [spec_l9Rex.l0v_eq, if_neg (by omega), line c (by omega)]; rfl
      · rw [impl_tokenRex.l0v_eq, if_neg (by omega), tokenText c hl]; rfl
theorem rex_both (c : ByteArray) (hl : c.size ≤ 1048576) : ∃ b, spec_l9Rex.fv c = some b ∧ impl_tokenRex.fv c = some b := by
  rw [spec_l9Rex.fv_eq, impl_tokenRex.fv_eq]
  exact rex_run c hl c.size 0 (by omega) (by omega)
theorem letter_same (n : Int) : spec_l7Letter.f n = impl_isLetter.f n ∧ ∃ b, impl_isLetter.f n = some b := by
  refine ⟨rfl, ?_⟩
  unfold impl_isLetter.f
  (repeat' split) <;> exact ⟨_, rfl⟩
def nmEnd (c : ByteArray) : Bool := decide (1 ≤ (c.size : Int) ∧ (c.size : Int) ≤ 8) && !isKey c.toList
theorem name_run (c : ByteArray) (hl : c.size ≤ 1048576) (d : Nat) : ∀ i : Nat, c.size - i = d → i ≤ c.size → ∃ (b : Bool) (t : Int), spec_l9Name.l0v c (i : Int) = some (b && nmEnd c) ∧ impl_lettersAt.l0v c 0 (i : Int) = some t ∧ (b = true ↔ t = (c.size : Int)) := by
  induction d with
  | zero =>
    intro i h1 h2
    have e : i = c.size := by omega
    refine ⟨true, i, ?_, ?_, by simp [e]⟩
    · rw [spec_l9Name.l0v_eq, if_neg (by omega), in_s, Option.bind_some, spec_key]
      unfold nmEnd
      by_cases h : 1 ≤ (c.size : Int) ∧ (c.size : Int) ≤ 8
      · rw [decide_eq_true h]; rfl
      · rw [decide_eq_false h]; rfl
    · rw [impl_lettersAt.l0v_eq, Int.zero_add, wrap_in (by omega) (by omega), if_neg (by omega)]
  | succ d ih =>
    intro i h1 h2
    have w1 : wrap64 ((i : Int) + 1) = ((i + 1 : Nat) : Int) := by rw [wrap_in (by omega) (by omega)]; omega
    obtain ⟨b, t, e1, e2, e3⟩ := ih (i + 1) (by omega) (by omega)
    obtain ⟨q1, p, q2⟩ := letter_same (bt c (i : Int))
    rw [spec_l9Name.l0v_eq, impl_lettersAt.l0v_eq, Int.zero_add, wrap_in (n := (i : Int)) (by omega) (by omega), if_pos (by omega), if_pos (by omega), if_pos (by omega), if_pos (by omega), q1, q2, w1]
    simp only [Option.bind_some]
    cases p
    · rw [if_neg (by simp), if_neg (by simp)]
      exact ⟨false, i, rfl, rfl, by simp; omega⟩
    · rw [if_pos rfl, if_pos rfl]
      exact ⟨b, t, e1, e2, e3⟩
theorem name_both (c : ByteArray) (hl : c.size ≤ 1048576) : ∃ b, spec_l9Name.fv c = some b ∧ impl_isName.fv c = some b := by
  rw [spec_l9Name.fv_eq, impl_isName.fv_eq, in_i, impl_lettersAt.fv_eq]
  obtain ⟨b, t, e1, e2, e3⟩ := name_run c hl c.size 0 (by omega) (by omega)
  refine ⟨_, e1, ?_⟩
  have e2' : impl_lettersAt.l0v c 0 0 = some t := e2
  rw [Option.bind_some, e2', Option.bind_some, impl_key, Option.bind_some]
  unfold nmEnd
  by_cases h : 1 ≤ (c.size : Int) ∧ (c.size : Int) ≤ 8
  · rw [decide_eq_true h, if_pos rfl]
    by_cases g : t = (c.size : Int)
    · rw [if_pos g, e3.2 g]; rfl
    · rw [if_neg g]
      have : b = false := by cases b with
        | false => rfl
        | true => exact absurd (e3.1 rfl) g
      rw [this]; rfl
  · rw [decide_eq_false h, if_neg (by simp)]; cases b <;> rfl

/-! ### nodes -/
noncomputable def nb (y : S38) : Bool := (spec_l9Node.fv y.f0 y.f1 y.f2 y.f3).getD false
def eop (y : S38) : Bool := decide (1 ≤ y.f0 ∧ y.f0 ≤ 28)
def sop (y : S38) : Bool := decide (29 ≤ y.f0 ∧ y.f0 ≤ 35)
def bop (y : S38) : Bool := decide (y.f0 = 29)
/-- The program's three readings of a node, by the reference's one. -/
structure Good (y : S38) : Prop where
  sp : spec_l9Node.fv y.f0 y.f1 y.f2 y.f3 = some (nb y)
  e : impl_isE.fv y.f0 y.f1 y.f2 y.f3 = some (nb y && eop y)
  s : impl_isStatement.fv y.f0 y.f1 y.f2 y.f3 = some (nb y && sop y)
  b : impl_isBlock.fv y.f0 y.f1 y.f2 y.f3 = some (nb y && bop y)
theorem good_of (y : S38) (X : Bool) (h1 : spec_l9Node.fv y.f0 y.f1 y.f2 y.f3 = some X) (h2 : impl_isE.fv y.f0 y.f1 y.f2 y.f3 = some (X && eop y))
    (h3 : impl_isStatement.fv y.f0 y.f1 y.f2 y.f3 = some (X && sop y)) (h4 : impl_isBlock.fv y.f0 y.f1 y.f2 y.f3 = some (X && bop y)) : Good y := by
  have e : nb y = X := by unfold nb; rw [h1]; rfl
  exact ⟨by rw [h1, e], by rw [h2, e], by rw [h3, e], by rw [h4, e]⟩
noncomputable def allE (l : List S38) : Bool := l.all fun k => nb k && eop k
noncomputable def allS (l : List S38) : Bool := l.all fun k => nb k && sop k
noncomputable def allB (l : List S38) : Bool := l.all fun k => nb k && bop k
theorem allE_cons (k : S38) (l : List S38) : allE (k :: l) = (nb k && eop k && allE l) := rfl
theorem allS_cons (k : S38) (l : List S38) : allS (k :: l) = (nb k && sop k && allS l) := rfl
theorem allB_cons (k : S38) (l : List S38) : allB (k :: l) = (nb k && bop k && allB l) := rfl
theorem isE_op (n : Int) : spec_l9IsE.f n = some (decide (1 ≤ n ∧ n ≤ 28)) := by
  unfold spec_l9IsE.f
  rw [in_s]; rfl
section
theorem es_run (l : List S38) (hl : l.length ≤ 1048576) (ih : ∀ k, k ∈ l → Good k) (p q : Int) (s : ByteArray) (t : Nat) (ht : t ≤ l.length) (d : Nat) : ∀ i : Nat, t - i = d → i ≤ t → spec_l9Es.l0v (t : Int) (i : Int) p q s l = some (allE ((l.take t).drop i)) := by
  induction d with
  | zero =>
    intro i h1 h2
    rw [spec_l9Es.l0v_eq, if_neg (by omega), List.drop_of_length_le (by simp; omega)]
    rfl
  | succ d ihd =>
    intro i h1 h2
    have hi : i < l.length := by omega
    have hg := ih l[i] (List.getElem_mem hi)
    have hc : (l.take t).drop i = l[i] :: (l.take t).drop (i + 1) := by
      rw [List.drop_eq_getElem_cons (by simp; omega)]; simp
    rw [spec_l9Es.l0v_eq, if_pos (by omega), if_pos (by omega), if_pos (by omega), rd_in2 l i hi, isE_op, hc, allE_cons, wrap_in (by omega) (by omega), show (i : Int) + 1 = ((i + 1 : Nat) : Int) by omega, ihd (i + 1) (by omega) (by omega), hg.sp]
    simp only [Option.bind_some]
    have hq : decide (1 ≤ l[i].f0 ∧ l[i].f0 ≤ 28) = eop l[i] := rfl
    rw [hq]
    cases eop l[i] <;> cases nb l[i] <;> rfl
theorem es_all (l : List S38) (hl : l.length ≤ 1048576) (ih : ∀ k, k ∈ l → Good k) (a b : Int) (c : ByteArray) (t : Nat) (ht : (l.length : Int) = (t : Int)) : spec_l9Es.fv a b c l 0 (t : Int) = some (allE l) := by
  rw [spec_l9Es.fv_eq]
  have := es_run l hl ih a b c t (by omega) t 0 (by omega) (by omega)
  rw [List.drop_zero, List.take_of_length_le (by omega)] at this
  exact this
theorem es_one (l : List S38) (hl : l.length ≤ 1048576) (ih : ∀ k, k ∈ l → Good k) (a b : Int) (c : ByteArray) (ht : 1 ≤ l.length) : spec_l9Es.fv a b c l 0 1 = some (allE (l.take 1)) := by
  rw [spec_l9Es.fv_eq]
  have := es_run l hl ih a b c 1 ht 1 0 (by omega) (by omega)
  rw [List.drop_zero] at this
  exact this
theorem bs_run (l : List S38) (hl : l.length ≤ 1048576) (ih : ∀ k, k ∈ l → Good k) (p q : Int) (s : ByteArray) (d : Nat) : ∀ i : Nat, l.length - i = d → i ≤ l.length → spec_l9Blocks.l0v (i : Int) p q s l = some (allB (l.drop i)) := by
  induction d with
  | zero =>
    intro i h1 h2
    rw [spec_l9Blocks.l0v_eq, if_neg (by omega), List.drop_of_length_le (by omega)]
    rfl
  | succ d ihd =>
    intro i h1 h2
    have hi : i < l.length := by omega
    have hg := ih l[i] (List.getElem_mem hi)
    rw [spec_l9Blocks.l0v_eq, if_pos (by omega), if_pos (by omega), rd_in2 l i hi, List.drop_eq_getElem_cons hi, allB_cons, wrap_in (by omega) (by omega), show (i : Int) + 1 = ((i + 1 : Nat) : Int) by omega, ihd (i + 1) (by omega) (by omega), hg.sp]
    simp only [Option.bind_some]
    have hq : bop l[i] = decide (l[i].f0 = 29) := rfl
    rw [hq]
    by_cases h : l[i].f0 = 29
    · rw [if_pos h, decide_eq_true h]; cases nb l[i] <;> rfl
    · rw [if_neg h, decide_eq_false h]; cases nb l[i] <;> rfl
theorem ss_run (l : List S38) (hl : l.length ≤ 1048576) (ih : ∀ k, k ∈ l → Good k) (p q : Int) (s : ByteArray) (d : Nat) : ∀ i : Nat, l.length - i = d → i ≤ l.length → spec_l9Kids.l0v (l.length : Int) (i : Int) p q s l = some (allS (l.drop i)) := by
  induction d with
  | zero =>
    intro i h1 h2
    rw [spec_l9Kids.l0v_eq, if_neg (by omega), List.drop_of_length_le (by omega)]
    rfl
  | succ d ihd =>
    intro i h1 h2
    have hi : i < l.length := by omega
    have hg := ih l[i] (List.getElem_mem hi)
    rw [spec_l9Kids.l0v_eq, if_pos (by omega), if_pos (by omega), if_pos (by omega), rd_in2 l i hi, in_s, List.drop_eq_getElem_cons hi, allS_cons, wrap_in (by omega) (by omega), show (i : Int) + 1 = ((i + 1 : Nat) : Int) by omega, ihd (i + 1) (by omega) (by omega), hg.sp]
    simp only [Option.bind_some]
    have hq : decide (29 ≤ l[i].f0 ∧ l[i].f0 ≤ 35) = sop l[i] := rfl
    rw [hq]
    cases sop l[i] <;> cases nb l[i] <;> rfl
theorem ie_run (l : List S38) (hl : l.length ≤ 1048576) (ih : ∀ k, k ∈ l → Good k) (d : Nat) : ∀ i : Nat, l.length - i = d → i ≤ l.length → ∃ t, slices_IndexFunc_impl_Node_impl_Node__impl_allEs_1.l0v l (l.length : Int) (i : Int) = some t ∧ decide (t ≥ 0) = !(allE (l.drop i)) := by
  induction d with
  | zero =>
    intro i h1 h2
    rw [slices_IndexFunc_impl_Node_impl_Node__impl_allEs_1.l0v_eq, if_neg (by omega), List.drop_of_length_le (by omega)]
    exact ⟨-1, rfl, rfl⟩
  | succ d ihd =>
    intro i h1 h2
    have hi : i < l.length := by omega
    have hg := ih l[i] (List.getElem_mem hi)
    obtain ⟨t, e1, e2⟩ := ihd (i + 1) (by omega) (by omega)
    rw [slices_IndexFunc_impl_Node_impl_Node__impl_allEs_1.l0v_eq, if_pos (by omega), if_pos (by omega), if_pos (by omega), rd_in2 l i hi, impl_allEs_1.fv_eq, hg.e, List.drop_eq_getElem_cons hi, allE_cons, wrap_in (by omega) (by omega), show (i : Int) + 1 = ((i + 1 : Nat) : Int) by omega, e1]
    simp only [Option.bind_some]
    cases hq : (nb l[i] && eop l[i])
    · exact ⟨i, rfl, by simp⟩
    · exact ⟨t, rfl, by rw [e2]; rfl⟩
theorem ie_all (l : List S38) (hl : l.length ≤ 1048576) (ih : ∀ k, k ∈ l → Good k) : impl_allEs.fv l = some (allE l) := by
  rw [impl_allEs.fv_eq, slices_ContainsFunc_impl_Node_impl_Node__impl_allEs_1.fv_eq, slices_IndexFunc_impl_Node_impl_Node__impl_allEs_1.fv_eq]
  obtain ⟨t, e1, e2⟩ := ie_run l hl ih l.length 0 (by omega) (by omega)
  have e1' : slices_IndexFunc_impl_Node_impl_Node__impl_allEs_1.l0v l (l.length : Int) 0 = some t := e1
  rw [List.drop_zero] at e2
  rw [e1', Option.bind_some, Option.bind_some, e2, Bool.not_not]
theorem is_run (l : List S38) (hl : l.length ≤ 1048576) (ih : ∀ k, k ∈ l → Good k) (d : Nat) : ∀ i : Nat, l.length - i = d → i ≤ l.length → ∃ t, slices_IndexFunc_impl_Node_impl_Node__impl_isBlock_1.l0v l (l.length : Int) (i : Int) = some t ∧ decide (t ≥ 0) = !(allS (l.drop i)) := by
  induction d with
  | zero =>
    intro i h1 h2
    rw [slices_IndexFunc_impl_Node_impl_Node__impl_isBlock_1.l0v_eq, if_neg (by omega), List.drop_of_length_le (by omega)]
    exact ⟨-1, rfl, rfl⟩
  | succ d ihd =>
    intro i h1 h2
    have hi : i < l.length := by omega
    have hg := ih l[i] (List.getElem_mem hi)
    obtain ⟨t, e1, e2⟩ := ihd (i + 1) (by omega) (by omega)
    rw [slices_IndexFunc_impl_Node_impl_Node__impl_isBlock_1.l0v_eq, if_pos (by omega), if_pos (by omega), if_pos (by omega), rd_in2 l i hi, impl_isBlock_1.fv_eq, hg.s, List.drop_eq_getElem_cons hi, allS_cons, wrap_in (by omega) (by omega), show (i : Int) + 1 = ((i + 1 : Nat) : Int) by omega, e1]
    simp only [Option.bind_some]
    cases hq : (nb l[i] && sop l[i])
    · exact ⟨i, rfl, by simp⟩
    · exact ⟨t, rfl, by rw [e2]; rfl⟩
theorem is_all (l : List S38) (hl : l.length ≤ 1048576) (ih : ∀ k, k ∈ l → Good k) : slices_ContainsFunc_impl_Node_impl_Node__impl_isBlock_1.fv l = some (!(allS l)) := by
  rw [slices_ContainsFunc_impl_Node_impl_Node__impl_isBlock_1.fv_eq, slices_IndexFunc_impl_Node_impl_Node__impl_isBlock_1.fv_eq]
  obtain ⟨t, e1, e2⟩ := is_run l hl ih l.length 0 (by omega) (by omega)
  have e1' : slices_IndexFunc_impl_Node_impl_Node__impl_isBlock_1.l0v l (l.length : Int) 0 = some t := e1
  rw [List.drop_zero] at e2
  rw [e1', Option.bind_some, e2]
end

theorem plain_i (a b : Int) (c : ByteArray) (l : List S38) : impl_plainNode.f a b c l = some (decide (b = 0) && decide (c.toList = [])) := by
  unfold impl_plainNode.f
  have e0 : (⟨#[]⟩ : ByteArray).toList = [] := by
    unfold ByteArray.toList; unfold ByteArray.toList.loop; rfl
  rw [e0]
  by_cases h : b = 0
  · rw [if_pos h, decide_eq_true h]
    by_cases g : c.toList = []
    · rw [g]; rfl
    · rw [decide_eq_false g]
      have : (c.toList == ([] : List UInt8)) = false := by simpa using g
      rw [this]; rfl
  · rw [if_neg h, decide_eq_false h]; rfl
theorem calls_s (c : ByteArray) : ((spec_l7Calls.f).bind fun t => ((spec_l7Within.fv t c).bind fun u => (some u))) = some (decide (c.toList ∈ callws)) := by
  simp only [spec_l7Calls.f, Option.bind_some]
  rw [within _ _ (by simp)]
  simp only [List.map_cons, List.map_nil, Go.ByteArray.toList_mk, Option.bind_some]
  rfl
theorem calls_i (c : ByteArray) (K : Bool → Option Bool) : ((impl_calls.f).bind fun t => ((slices_Contains_string_string.fv t c).bind fun u => K u)) = K (decide (c.toList ∈ callws)) := by
  simp only [impl_calls.f, Option.bind_some]
  rw [contains _ _ (by simp)]
  simp only [List.map_cons, List.map_nil, Go.ByteArray.toList_mk, Option.bind_some]
  rfl
theorem len0 (l : List S38) : ((l.length : Int) == 0) = decide (l = []) := by
  cases l with
  | nil => rfl
  | cons k l =>
    rw [decide_eq_false (by simp)]
    simp only [beq_eq_false_iff_ne, List.length_cons]
    omega
theorem all_nil {l : List S38} (h : (l.length : Int) = 0) : allE l = true := by
  have : l = [] := List.eq_nil_of_length_eq_zero (by omega)
  subst this
  rfl
section
/-- A node whose text must be none, by its kids. -/
theorem node_plain (a : Int) (b : Int) (c : ByteArray) (l : List S38) (K : Bool) (hK : spec_l9Kids.fv a b c l = some K) (h0 : 1 ≤ a) (h1 : a ≤ 35) (n1 : a ≠ 1) (n2 : a ≠ 2) (n3 : a ≠ 3) (n4 : a ≠ 4) (n5 : a ≠ 5) (n6 : a ≠ 34) (n7 : a ≠ 28) :
    spec_l9Node.fv a b c l = some (decide (b = 0) && decide (c.toList = []) && K) := by
  rw [spec_l9Node.fv_eq, hK]
  cases K <;> by_cases hb : b = 0 <;> by_cases hg : c.toList = [] <;> simp [spec_l9Node.j0v_eq, spec_l9Node.j1v_eq, in_s, h0, h1, n1, n2, n3, n4, n5, n6, n7, hb, hg]
/-- Nodes with one kid and nothing else. -/
theorem one_kid (a : Int) (b : Int) (c : ByteArray) (l : List S38) (hl : l.length ≤ 1048576) (ih : ∀ k, k ∈ l → Good k) (ha : a = 6 ∨ a = 22 ∨ a = 23) : Good ⟨a, b, c, l⟩ := by
  have h2 := ie_all l hl ih
  have hK : spec_l9Kids.fv a b c l = some (decide ((l.length : Int) = 1) && allE l) := by
    rw [spec_l9Kids.fv_eq]
    by_cases hk : (l.length : Int) = 1
    · have hs := es_all l hl ih a b c 1 hk
      rcases ha with rfl | rfl | rfl <;> simp [spec_l9Kids.j0v_eq, hk] <;> exact hs
    · rcases ha with rfl | rfl | rfl <;> simp [spec_l9Kids.j0v_eq, hk]
  refine good_of _ _ (node_plain a b c l _ hK (by omega) (by omega) (by omega) (by omega) (by omega) (by omega) (by omega) (by omega) (by omega)) ?_ ?_ ?_
  · show impl_isE.fv a b c l = _
    rw [impl_isE.fv_eq]
    by_cases hk : (l.length : Int) = 1 <;> by_cases hb : b = 0 <;> by_cases hg : c.toList = [] <;> rcases ha with rfl | rfl | rfl <;> simp [impl_isE.j0v_eq, impl_isE.j1v_eq, plain_i, h2, hk, hb, hg, eop]
  · show impl_isStatement.fv a b c l = _
    rw [impl_isStatement.fv_eq]
    rcases ha with rfl | rfl | rfl <;> simp [sop]
  · show impl_isBlock.fv a b c l = _
    rw [impl_isBlock.fv_eq]
    rcases ha with rfl | rfl | rfl <;> simp [bop]
end

section
theorem two_kid (a : Int) (b : Int) (c : ByteArray) (l : List S38) (hl : l.length ≤ 1048576) (ih : ∀ k, k ∈ l → Good k) (ha : a = 9 ∨ a = 10 ∨ a = 11 ∨ a = 12 ∨ a = 13 ∨ a = 14 ∨ a = 15 ∨ a = 16 ∨ a = 17 ∨ a = 18 ∨ a = 19 ∨ a = 20 ∨ a = 21 ∨ a = 24 ∨ a = 25) : Good ⟨a, b, c, l⟩ := by
  have h2 := ie_all l hl ih
  have hK : spec_l9Kids.fv a b c l = some (decide ((l.length : Int) = 2) && allE l) := by
    rw [spec_l9Kids.fv_eq]
    by_cases hk : (l.length : Int) = 2
    · have hs := es_all l hl ih a b c 2 hk
      rcases ha with rfl | rfl | rfl | rfl | rfl | rfl | rfl | rfl | rfl | rfl | rfl | rfl | rfl | rfl | rfl <;> simp [spec_l9Kids.j0v_eq, spec_l9Kids.j1v_eq, hk] <;> exact hs
    · rcases ha with rfl | rfl | rfl | rfl | rfl | rfl | rfl | rfl | rfl | rfl | rfl | rfl | rfl | rfl | rfl <;> simp [spec_l9Kids.j0v_eq, spec_l9Kids.j1v_eq, hk]
  refine good_of _ _ (node_plain a b c l _ hK (by omega) (by omega) (by omega) (by omega) (by omega) (by omega) (by omega) (by omega) (by omega)) ?_ ?_ ?_
  · show impl_isE.fv a b c l = _
    rw [impl_isE.fv_eq]
    by_cases hk : (l.length : Int) = 2 <;> by_cases hb : b = 0 <;> by_cases hg : c.toList = [] <;> rcases ha with rfl | rfl | rfl | rfl | rfl | rfl | rfl | rfl | rfl | rfl | rfl | rfl | rfl | rfl | rfl <;> simp [impl_isE.j0v_eq, impl_isE.j1v_eq, impl_isE.j2v_eq, in_i, plain_i, h2, hk, hb, hg, eop]
  · show impl_isStatement.fv a b c l = _
    rw [impl_isStatement.fv_eq]
    rcases ha with rfl | rfl | rfl | rfl | rfl | rfl | rfl | rfl | rfl | rfl | rfl | rfl | rfl | rfl | rfl <;> simp [sop]
  · show impl_isBlock.fv a b c l = _
    rw [impl_isBlock.fv_eq]
    rcases ha with rfl | rfl | rfl | rfl | rfl | rfl | rfl | rfl | rfl | rfl | rfl | rfl | rfl | rfl | rfl <;> simp [bop]
theorem no_kid (a : Int) (b : Int) (c : ByteArray) (l : List S38) (hl : l.length ≤ 1048576) (ih : ∀ k, k ∈ l → Good k) (ha : a = 7 ∨ a = 8) : Good ⟨a, b, c, l⟩ := by
  have h2 := ie_all l hl ih
  have h3 : (l.length : Int) = 0 → allE l = true := all_nil
  have hK : spec_l9Kids.fv a b c l = some (decide ((l.length : Int) = 0)) := by
    rw [spec_l9Kids.fv_eq]
    rcases ha with rfl | rfl <;> simp [spec_l9Kids.j0v_eq, spec_l9Kids.j1v_eq, spec_l9Kids.j2v_eq, spec_l9Kids.j3v_eq, len0]
  refine good_of _ _ (node_plain a b c l _ hK (by omega) (by omega) (by omega) (by omega) (by omega) (by omega) (by omega) (by omega) (by omega)) ?_ ?_ ?_
  · show impl_isE.fv a b c l = _
    rw [impl_isE.fv_eq, ]
    by_cases hk : (l.length : Int) = 0
    · have h4 := h3 hk
      by_cases hb : b = 0 <;> by_cases hg : c.toList = [] <;> rcases ha with rfl | rfl <;> simp [impl_isE.j0v_eq, plain_i, h2, h4, hk, hb, hg, eop]
    · have hk' : l ≠ [] := fun h => hk (by rw [h]; rfl)
      by_cases hb : b = 0 <;> by_cases hg : c.toList = [] <;> rcases ha with rfl | rfl <;> simp [impl_isE.j0v_eq, plain_i, h2, hk', hb, hg, eop]
  · show impl_isStatement.fv a b c l = _
    rw [impl_isStatement.fv_eq]
    rcases ha with rfl | rfl <;> simp [sop]
  · show impl_isBlock.fv a b c l = _
    rw [impl_isBlock.fv_eq]
    rcases ha with rfl | rfl <;> simp [bop]
theorem set_kid (a : Int) (b : Int) (c : ByteArray) (l : List S38) (hl : l.length ≤ 1048576) (ih : ∀ k, k ∈ l → Good k) (ha : a = 26 ∨ a = 27) : Good ⟨a, b, c, l⟩ := by
  have h2 := ie_all l hl ih
  have hK : spec_l9Kids.fv a b c l = some (decide ((l.length : Int) = 2) && (decide ((rd_T38 l 0).f0 = 4 ∨ (rd_T38 l 0).f0 = 5) && allE l)) := by
    rw [spec_l9Kids.fv_eq]
    by_cases hk : (l.length : Int) = 2
    · have hs := es_all l hl ih a b c 2 hk
      have hp : 0 < (l.length : Int) := by omega
      have hs' : spec_l9Es.fv a b c l 0 2 = some (allE l) := hs
      by_cases h4 : (rd_T38 l 0).f0 = 4
      · rcases ha with rfl | rfl <;> simp [spec_l9Kids.j0v_eq, spec_l9Kids.j1v_eq, spec_l9Kids.j2v_eq, hk, h4, hs']
      · by_cases h5 : (rd_T38 l 0).f0 = 5
        · rcases ha with rfl | rfl <;> simp [spec_l9Kids.j0v_eq, spec_l9Kids.j1v_eq, spec_l9Kids.j2v_eq, hk, h5, hs']
        · rcases ha with rfl | rfl <;> simp [spec_l9Kids.j0v_eq, spec_l9Kids.j1v_eq, spec_l9Kids.j2v_eq, hk, h4, h5]
    · rcases ha with rfl | rfl <;> simp [spec_l9Kids.j0v_eq, spec_l9Kids.j1v_eq, spec_l9Kids.j2v_eq, hk]
  refine good_of _ _ (node_plain a b c l _ hK (by omega) (by omega) (by omega) (by omega) (by omega) (by omega) (by omega) (by omega) (by omega)) ?_ ?_ ?_
  · show impl_isE.fv a b c l = _
    rw [impl_isE.fv_eq]
    by_cases hk : (l.length : Int) = 2
    · have hp : 0 < (l.length : Int) := by omega
      by_cases h4 : (rd_T38 l 0).f0 = 4
      · by_cases hb : b = 0 <;> by_cases hg : c.toList = [] <;> rcases ha with rfl | rfl <;> simp [impl_isE.j0v_eq, impl_isE.j1v_eq, impl_isE.j2v_eq, plain_i, h2, hk, hb, hg, h4, eop]
      · by_cases h5 : (rd_T38 l 0).f0 = 5
        · by_cases hb : b = 0 <;> by_cases hg : c.toList = [] <;> rcases ha with rfl | rfl <;> simp [impl_isE.j0v_eq, impl_isE.j1v_eq, impl_isE.j2v_eq, plain_i, h2, hk, hb, hg, h5, eop]
        · by_cases hb : b = 0 <;> by_cases hg : c.toList = [] <;> rcases ha with rfl | rfl <;> simp [impl_isE.j0v_eq, impl_isE.j1v_eq, impl_isE.j2v_eq, plain_i, h2, hk, hb, hg, h4, h5, eop]
    · by_cases hb : b = 0 <;> by_cases hg : c.toList = [] <;> rcases ha with rfl | rfl <;> simp [impl_isE.j0v_eq, impl_isE.j1v_eq, impl_isE.j2v_eq, plain_i, h2, hk, hb, hg, eop]
  · show impl_isStatement.fv a b c l = _
    rw [impl_isStatement.fv_eq]
    rcases ha with rfl | rfl <;> simp [sop]
  · show impl_isBlock.fv a b c l = _
    rw [impl_isBlock.fv_eq]
    rcases ha with rfl | rfl <;> simp [bop]
theorem call_kid (b : Int) (c : ByteArray) (l : List S38) (hl : l.length ≤ 1048576) (ih : ∀ k, k ∈ l → Good k) : Good ⟨28, b, c, l⟩ := by
  have h2 := ie_all l hl ih
  have hs := es_all l hl ih 28 b c l.length rfl
  have hK : spec_l9Kids.fv 28 b c l = some (allE l) := by
    rw [spec_l9Kids.fv_eq]
    simp [spec_l9Kids.j0v_eq, spec_l9Kids.j1v_eq, spec_l9Kids.j2v_eq, spec_l9Kids.j3v_eq, hs]
  refine good_of _ (decide (b = 0) && decide (c.toList ∈ callws) && allE l) ?_ ?_ ?_ ?_
  · show spec_l9Node.fv 28 b c l = _
    rw [spec_l9Node.fv_eq, hK]
    have hcs := calls_s c
    cases hE : allE l <;> by_cases hb : b = 0 <;> simp [spec_l9Node.j0v_eq, spec_l9Node.j1v_eq, in_s, hb] <;> simpa using hcs
  · show impl_isE.fv 28 b c l = _
    rw [impl_isE.fv_eq]
    simp only [impl_isE.j0v_eq, impl_isE.j1v_eq, impl_isE.j2v_eq, calls_i, h2]
    by_cases hb : b = 0 <;> by_cases hg : c.toList ∈ callws <;> simp [hb, hg, eop]
  · show impl_isStatement.fv 28 b c l = _
    rw [impl_isStatement.fv_eq]
    simp [sop]
  · show impl_isBlock.fv 28 b c l = _
    rw [impl_isBlock.fv_eq]
    simp [bop]
theorem print_kid (b : Int) (c : ByteArray) (l : List S38) (hl : l.length ≤ 1048576) (ih : ∀ k, k ∈ l → Good k) : Good ⟨30, b, c, l⟩ := by
  have h2 := ie_all l hl ih
  have hs := es_all l hl ih 30 b c l.length rfl
  have hK : spec_l9Kids.fv 30 b c l = some (allE l) := by
    rw [spec_l9Kids.fv_eq]
    simp [spec_l9Kids.j0v_eq, spec_l9Kids.j1v_eq, spec_l9Kids.j2v_eq, spec_l9Kids.j3v_eq, hs]
  refine good_of _ _ (node_plain 30 b c l _ hK (by omega) (by omega) (by omega) (by omega) (by omega) (by omega) (by omega) (by omega) (by omega)) ?_ ?_ ?_
  · show impl_isE.fv 30 b c l = _
    rw [impl_isE.fv_eq]
    simp [impl_isE.j0v_eq, impl_isE.j1v_eq, impl_isE.j2v_eq, in_i, eop]
  · show impl_isStatement.fv 30 b c l = _
    rw [impl_isStatement.fv_eq]
    by_cases hb : b = 0 <;> by_cases hg : c.toList = [] <;> simp [plain_i, h2, hb, hg, sop]
  · show impl_isBlock.fv 30 b c l = _
    rw [impl_isBlock.fv_eq]
    simp [bop]
theorem block_kid (b : Int) (c : ByteArray) (l : List S38) (hl : l.length ≤ 1048576) (ih : ∀ k, k ∈ l → Good k) : Good ⟨29, b, c, l⟩ := by
  have h2 := is_all l hl ih
  have hs : spec_l9Kids.l0v (l.length : Int) 0 29 b c l = some (allS l) := by
    have := ss_run l hl ih 29 b c l.length 0 (by omega) (by omega)
    rwa [List.drop_zero] at this
  have hK : spec_l9Kids.fv 29 b c l = some (allS l) := by
    rw [spec_l9Kids.fv_eq]
    simp [spec_l9Kids.j0v_eq, spec_l9Kids.j1v_eq, spec_l9Kids.j2v_eq, spec_l9Kids.j3v_eq, hs]
  have hB : impl_isBlock.fv 29 b c l = some (decide (b = 0) && decide (c.toList = []) && allS l) := by
    rw [impl_isBlock.fv_eq]
    by_cases hb : b = 0 <;> by_cases hg : c.toList = [] <;> simp [plain_i, h2, hb, hg]
  refine good_of _ _ (node_plain 29 b c l _ hK (by omega) (by omega) (by omega) (by omega) (by omega) (by omega) (by omega) (by omega) (by omega)) ?_ ?_ ?_
  · show impl_isE.fv 29 b c l = _
    rw [impl_isE.fv_eq]
    simp [impl_isE.j0v_eq, impl_isE.j1v_eq, impl_isE.j2v_eq, in_i, eop]
  · show impl_isStatement.fv 29 b c l = _
    rw [impl_isStatement.fv_eq, hB]
    simp [sop]
  · show impl_isBlock.fv 29 b c l = _
    rw [hB]
    simp [bop]
theorem next_kid (b : Int) (c : ByteArray) (l : List S38) (hl : l.length ≤ 1048576) (ih : ∀ k, k ∈ l → Good k) : Good ⟨33, b, c, l⟩ := by
  have _ := hl
  have _ := ih
  have hK : spec_l9Kids.fv 33 b c l = some (decide ((l.length : Int) = 0)) := by
    rw [spec_l9Kids.fv_eq]
    simp [spec_l9Kids.j0v_eq, spec_l9Kids.j1v_eq, spec_l9Kids.j2v_eq, spec_l9Kids.j3v_eq, len0]
  refine good_of _ _ (node_plain 33 b c l _ hK (by omega) (by omega) (by omega) (by omega) (by omega) (by omega) (by omega) (by omega) (by omega)) ?_ ?_ ?_
  · show impl_isE.fv 33 b c l = _
    rw [impl_isE.fv_eq]
    simp [impl_isE.j0v_eq, impl_isE.j1v_eq, impl_isE.j2v_eq, in_i, eop]
  · show impl_isStatement.fv 33 b c l = _
    rw [impl_isStatement.fv_eq]
    by_cases hb : b = 0 <;> by_cases hg : c.toList = [] <;> simp [plain_i, len0, hb, hg, sop]
  · show impl_isBlock.fv 33 b c l = _
    rw [impl_isBlock.fv_eq]
    simp [bop]
end

section
theorem do_kid (b : Int) (c : ByteArray) (l : List S38) (hl : l.length ≤ 1048576) (ih : ∀ k, k ∈ l → Good k) : Good ⟨35, b, c, l⟩ := by
  have hK : spec_l9Kids.fv 35 b c l = some (decide ((l.length : Int) = 1) && allE l) := by
    rw [spec_l9Kids.fv_eq]
    by_cases hk : (l.length : Int) = 1
    · have hs := es_all l hl ih 35 b c 1 hk
      simp [spec_l9Kids.j0v_eq, hk]; exact hs
    · simp [spec_l9Kids.j0v_eq, hk]
  refine good_of _ _ (node_plain 35 b c l _ hK (by omega) (by omega) (by omega) (by omega) (by omega) (by omega) (by omega) (by omega) (by omega)) ?_ ?_ ?_
  · show impl_isE.fv 35 b c l = _
    rw [impl_isE.fv_eq]
    simp [impl_isE.j0v_eq, impl_isE.j1v_eq, impl_isE.j2v_eq, in_i, eop]
  · show impl_isStatement.fv 35 b c l = _
    rw [impl_isStatement.fv_eq]
    by_cases hk : (l.length : Int) = 1
    · have hp : 0 < l.length := by omega
      have hg0 := (ih l[0] (List.getElem_mem hp)).e
      have hr := rd_in2 l 0 hp
      have hr' : rd_T38 l 0 = l[0] := hr
      have hE : allE l = (nb l[0] && eop l[0]) := by
        obtain ⟨k, hk2⟩ := List.length_eq_one_iff.1 (by omega : l.length = 1)
        subst hk2
        rw [allE_cons]
        simp [allE]
      by_cases hb : b = 0 <;> by_cases hg : c.toList = [] <;> simp [plain_i, hk, hb, hg, sop, hr', hg0, hE]
    · by_cases hb : b = 0 <;> by_cases hg : c.toList = [] <;> simp [plain_i, hk, hb, hg, sop]
  · show impl_isBlock.fv 35 b c l = _
    rw [impl_isBlock.fv_eq]
    simp [bop]
theorem num_kid (b : Int) (c : ByteArray) (l : List S38) (hc : c.size ≤ 1048576) (hl : l.length ≤ 1048576) (ih : ∀ k, k ∈ l → Good k) : Good ⟨1, b, c, l⟩ := by
  have _ := hl
  have _ := ih
  have h2 := ie_all l hl ih
  refine good_of _ (decide (0 ≤ b ∧ b ≤ 9000000000000) && decide (c.toList = []) && decide (l = [])) ?_ ?_ ?_ ?_
  · show spec_l9Node.fv 1 b c l = _
    rw [spec_l9Node.fv_eq, spec_l9Kids.fv_eq]
    by_cases hk : l = [] <;> by_cases hb : b = 0 <;> by_cases hg : c.toList = [] <;> by_cases hr : 0 ≤ b ∧ b ≤ 9000000000000 <;> simp [spec_l9Kids.j0v_eq, spec_l9Kids.j1v_eq, spec_l9Kids.j2v_eq, spec_l9Kids.j3v_eq, spec_l9Node.j0v_eq, in_s, len0, hk, hb, hg, hr]
  · show impl_isE.fv 1 b c l = _
    rw [impl_isE.fv_eq]
    by_cases hk : l = []
    · have h4 : allE l = true := by rw [hk]; rfl
      by_cases hg : c.toList = [] <;> by_cases hr : 0 ≤ b ∧ b ≤ 9000000000000 <;> simp [in_i, h2, h4, hk, hg, hr, eop]
      all_goals simp_all
    · by_cases hg : c.toList = [] <;> by_cases hr : 0 ≤ b ∧ b ≤ 9000000000000 <;> simp [in_i, h2, hk, hg, hr, eop]
  · show impl_isStatement.fv 1 b c l = _
    rw [impl_isStatement.fv_eq]
    simp [sop]
  · show impl_isBlock.fv 1 b c l = _
    rw [impl_isBlock.fv_eq]
    simp [bop]
theorem text_kid (b : Int) (c : ByteArray) (l : List S38) (hc : c.size ≤ 1048576) (hl : l.length ≤ 1048576) (ih : ∀ k, k ∈ l → Good k) : Good ⟨2, b, c, l⟩ := by
  have h2 := ie_all l hl ih
  have ht := tokenText c (by omega)
  have hs : spec_l9Line.fv c = some (ln c) := line c (by omega)
  refine good_of _ (decide (b = 0) && ln c && decide (l = [])) ?_ ?_ ?_ ?_
  · show spec_l9Node.fv 2 b c l = _
    rw [spec_l9Node.fv_eq, spec_l9Kids.fv_eq]
    by_cases hk : l = [] <;> by_cases hb : b = 0 <;> cases hg : ln c <;> simp [spec_l9Kids.j0v_eq, spec_l9Kids.j1v_eq, spec_l9Kids.j2v_eq, spec_l9Kids.j3v_eq, spec_l9Node.j0v_eq, in_s, len0, hk, hb, hg, hs]
  · show impl_isE.fv 2 b c l = _
    rw [impl_isE.fv_eq]
    by_cases hk : l = []
    · have h4 : impl_allEs.fv ([] : List S38) = some true := by rw [hk] at h2; exact h2
      by_cases hb : b = 0 <;> cases hg : ln c <;> simp [ht, h4, hk, hb, hg, eop]
    · by_cases hb : b = 0 <;> cases hg : ln c <;> simp [ht, hk, hb, hg, eop]
  · show impl_isStatement.fv 2 b c l = _
    rw [impl_isStatement.fv_eq]
    simp [sop]
  · show impl_isBlock.fv 2 b c l = _
    rw [impl_isBlock.fv_eq]
    simp [bop]
theorem rex_kid (b : Int) (c : ByteArray) (l : List S38) (hc : c.size ≤ 1048576) (hl : l.length ≤ 1048576) (ih : ∀ k, k ∈ l → Good k) : Good ⟨3, b, c, l⟩ := by
  have h2 := ie_all l hl ih
  obtain ⟨x, hs, ht⟩ := rex_both c hc
  refine good_of _ (decide (b = 0) && x && decide (l = [])) ?_ ?_ ?_ ?_
  · show spec_l9Node.fv 3 b c l = _
    rw [spec_l9Node.fv_eq, spec_l9Kids.fv_eq]
    by_cases hk : l = [] <;> by_cases hb : b = 0 <;> cases x <;> simp [spec_l9Kids.j0v_eq, spec_l9Kids.j1v_eq, spec_l9Kids.j2v_eq, spec_l9Kids.j3v_eq, spec_l9Node.j0v_eq, in_s, len0, hk, hb, hs]
  · show impl_isE.fv 3 b c l = _
    rw [impl_isE.fv_eq]
    by_cases hk : l = []
    · have h4 : impl_allEs.fv ([] : List S38) = some true := by rw [hk] at h2; exact h2
      by_cases hb : b = 0 <;> cases x <;> simp [ht, h4, hk, hb, eop]
    · by_cases hb : b = 0 <;> cases x <;> simp [ht, hk, hb, eop]
  · show impl_isStatement.fv 3 b c l = _
    rw [impl_isStatement.fv_eq]
    simp [sop]
  · show impl_isBlock.fv 3 b c l = _
    rw [impl_isBlock.fv_eq]
    simp [bop]
theorem var_kid (b : Int) (c : ByteArray) (l : List S38) (hc : c.size ≤ 1048576) (hl : l.length ≤ 1048576) (ih : ∀ k, k ∈ l → Good k) : Good ⟨4, b, c, l⟩ := by
  have h2 := ie_all l hl ih
  obtain ⟨x, hs, ht⟩ := name_both c hc
  refine good_of _ (decide (b = 0) && x && decide (l = [])) ?_ ?_ ?_ ?_
  · show spec_l9Node.fv 4 b c l = _
    rw [spec_l9Node.fv_eq, spec_l9Kids.fv_eq]
    by_cases hk : l = [] <;> by_cases hb : b = 0 <;> cases x <;> simp [spec_l9Kids.j0v_eq, spec_l9Kids.j1v_eq, spec_l9Kids.j2v_eq, spec_l9Kids.j3v_eq, spec_l9Node.j0v_eq, spec_l9Node.j1v_eq, in_s, len0, hk, hb, hs]
  · show impl_isE.fv 4 b c l = _
    rw [impl_isE.fv_eq]
    by_cases hk : l = []
    · have h4 : impl_allEs.fv ([] : List S38) = some true := by rw [hk] at h2; exact h2
      by_cases hb : b = 0 <;> cases x <;> simp [ht, h4, hk, hb, eop]
    · by_cases hb : b = 0 <;> cases x <;> simp [ht, hk, hb, eop]
  · show impl_isStatement.fv 4 b c l = _
    rw [impl_isStatement.fv_eq]
    simp [sop]
  · show impl_isBlock.fv 4 b c l = _
    rw [impl_isBlock.fv_eq]
    simp [bop]
theorem cell_kid (b : Int) (c : ByteArray) (l : List S38) (hc : c.size ≤ 1048576) (hl : l.length ≤ 1048576) (ih : ∀ k, k ∈ l → Good k) : Good ⟨5, b, c, l⟩ := by
  have h2 := ie_all l hl ih
  obtain ⟨x, hs, ht⟩ := name_both c hc
  have hK : spec_l9Kids.fv 5 b c l = some (decide ((l.length : Int) = 1) && allE l) := by
    rw [spec_l9Kids.fv_eq]
    by_cases hk : (l.length : Int) = 1
    · have hs := es_all l hl ih 5 b c 1 hk
      simp [spec_l9Kids.j0v_eq, hk]; exact hs
    · simp [spec_l9Kids.j0v_eq, hk]
  refine good_of _ (decide (b = 0) && x && (decide ((l.length : Int) = 1) && allE l)) ?_ ?_ ?_ ?_
  · show spec_l9Node.fv 5 b c l = _
    rw [spec_l9Node.fv_eq, hK]
    cases hq : (decide ((l.length : Int) = 1) && allE l) <;> by_cases hb : b = 0 <;> cases x <;> simp [spec_l9Node.j0v_eq, spec_l9Node.j1v_eq, in_s, hb, hs]
  · show impl_isE.fv 5 b c l = _
    rw [impl_isE.fv_eq]
    by_cases hk : (l.length : Int) = 1 <;> by_cases hb : b = 0 <;> cases x <;> simp [ht, h2, hk, hb, eop]
  · show impl_isStatement.fv 5 b c l = _
    rw [impl_isStatement.fv_eq]
    simp [sop]
  · show impl_isBlock.fv 5 b c l = _
    rw [impl_isBlock.fv_eq]
    simp [bop]
theorem drop_kid (b : Int) (c : ByteArray) (l : List S38) (hc : c.size ≤ 1048576) (hl : l.length ≤ 1048576) (ih : ∀ k, k ∈ l → Good k) : Good ⟨34, b, c, l⟩ := by
  obtain ⟨x, hs, ht⟩ := name_both c hc
  have hK : spec_l9Kids.fv 34 b c l = some (decide ((l.length : Int) = 1) && allE l) := by
    rw [spec_l9Kids.fv_eq]
    by_cases hk : (l.length : Int) = 1
    · have hs := es_all l hl ih 34 b c 1 hk
      simp [spec_l9Kids.j0v_eq, hk]; exact hs
    · simp [spec_l9Kids.j0v_eq, hk]
  refine good_of _ (decide (b = 0) && x && (decide ((l.length : Int) = 1) && allE l)) ?_ ?_ ?_ ?_
  · show spec_l9Node.fv 34 b c l = _
    rw [spec_l9Node.fv_eq, hK]
    cases hq : (decide ((l.length : Int) = 1) && allE l) <;> by_cases hb : b = 0 <;> cases x <;> simp [spec_l9Node.j0v_eq, spec_l9Node.j1v_eq, in_s, hb, hs]
  · show impl_isE.fv 34 b c l = _
    rw [impl_isE.fv_eq]
    simp [impl_isE.j0v_eq, impl_isE.j1v_eq, impl_isE.j2v_eq, in_i, eop]
  · show impl_isStatement.fv 34 b c l = _
    rw [impl_isStatement.fv_eq]
    by_cases hk : (l.length : Int) = 1
    · have hp : 0 < l.length := by omega
      have hg0 := (ih l[0] (List.getElem_mem hp)).e
      have hr' : rd_T38 l 0 = l[0] := rd_in2 l 0 hp
      have hE : allE l = (nb l[0] && eop l[0]) := by
        obtain ⟨k, hk2⟩ := List.length_eq_one_iff.1 (by omega : l.length = 1)
        subst hk2
        rw [allE_cons]
        simp [allE]
      by_cases hb : b = 0 <;> cases x <;> simp [hk, hb, ht, sop, hr', hg0, hE]
    · by_cases hb : b = 0 <;> cases x <;> simp [hk, hb, ht, sop]
  · show impl_isBlock.fv 34 b c l = _
    rw [impl_isBlock.fv_eq]
    simp [bop]
end

theorem len_two {α : Type} {l : List α} (h : l.length = 2) : ∃ p q, l = [p, q] := by
  match l, h with
  | [p, q], _ => exact ⟨p, q, rfl⟩
theorem len_three {α : Type} {l : List α} (h : l.length = 3) : ∃ p q r, l = [p, q, r] := by
  match l, h with
  | [p, q, r], _ => exact ⟨p, q, r, rfl⟩
section
theorem rd0 (k : S38) (m : List S38) : rd_T38 (k :: m) 0 = k := rfl
theorem rd1 (k k2 : S38) (m : List S38) : rd_T38 (k :: k2 :: m) 1 = k2 := rfl
theorem rd2 (k k2 k3 : S38) (m : List S38) : rd_T38 (k :: k2 :: k3 :: m) 2 = k3 := rfl
theorem while_kid (b : Int) (c : ByteArray) (l : List S38) (hl : l.length ≤ 1048576) (ih : ∀ k, k ∈ l → Good k) : Good ⟨32, b, c, l⟩ := by
  have hK : spec_l9Kids.fv 32 b c l = some (decide ((l.length : Int) = 2) && (allE (l.take 1) && allB (l.drop 1))) := by
    rw [spec_l9Kids.fv_eq]
    by_cases hk : (l.length : Int) = 2
    · have hs := es_one l hl ih 32 b c (by omega)
      have hb1 : spec_l9Blocks.fv 32 b c l 1 = some (allB (l.drop 1)) := by
        rw [spec_l9Blocks.fv_eq]; exact bs_run l hl ih 32 b c (l.length - 1) 1 rfl (by omega)
      cases h1 : allE (l.take 1) <;> simp [spec_l9Kids.j0v_eq, spec_l9Kids.j1v_eq, spec_l9Kids.j2v_eq, spec_l9Kids.j3v_eq, hk, hs, h1, hb1]
    · simp [spec_l9Kids.j0v_eq, spec_l9Kids.j1v_eq, spec_l9Kids.j2v_eq, spec_l9Kids.j3v_eq, hk]
  refine good_of _ _ (node_plain 32 b c l _ hK (by omega) (by omega) (by omega) (by omega) (by omega) (by omega) (by omega) (by omega) (by omega)) ?_ ?_ ?_
  · show impl_isE.fv 32 b c l = _
    rw [impl_isE.fv_eq]
    simp [impl_isE.j0v_eq, impl_isE.j1v_eq, impl_isE.j2v_eq, in_i, eop]
  · show impl_isStatement.fv 32 b c l = _
    rw [impl_isStatement.fv_eq]
    by_cases hk : (l.length : Int) = 2
    · obtain ⟨k1, k2, hk2⟩ := len_two (by omega : l.length = 2)
      subst hk2
      have g1 := (ih k1 (by simp)).e
      have g2 := (ih k2 (by simp)).b
      have e1 : allE (List.take 1 [k1, k2]) = (nb k1 && eop k1) := by show allE [k1] = _; rw [allE_cons]; simp [allE]
      have e2 : allB (List.drop 1 [k1, k2]) = (nb k2 && bop k2) := by show allB [k2] = _; rw [allB_cons]; simp [allB]
      rw [e1, e2]
      cases h1 : (nb k1 && eop k1) <;> by_cases hb : b = 0 <;> by_cases hg : c.toList = [] <;> simp [plain_i, hb, hg, sop, rd0, rd1, g1, g2, h1]
    · by_cases hb : b = 0 <;> by_cases hg : c.toList = [] <;> simp [plain_i, hk, hb, hg, sop]
  · show impl_isBlock.fv 32 b c l = _
    rw [impl_isBlock.fv_eq]
    simp [bop]
theorem if_kid (b : Int) (c : ByteArray) (l : List S38) (hl : l.length ≤ 1048576) (ih : ∀ k, k ∈ l → Good k) : Good ⟨31, b, c, l⟩ := by
  have hK : spec_l9Kids.fv 31 b c l = some (decide (2 ≤ (l.length : Int) ∧ (l.length : Int) ≤ 3) && (allE (l.take 1) && allB (l.drop 1))) := by
    rw [spec_l9Kids.fv_eq]
    by_cases hk : 2 ≤ (l.length : Int) ∧ (l.length : Int) ≤ 3
    · have hs := es_one l hl ih 31 b c (by omega)
      have hb1 : spec_l9Blocks.fv 31 b c l 1 = some (allB (l.drop 1)) := by
        rw [spec_l9Blocks.fv_eq]; exact bs_run l hl ih 31 b c (l.length - 1) 1 rfl (by omega)
      simp only [spec_l9Kids.j0v_eq, spec_l9Kids.j1v_eq, spec_l9Kids.j2v_eq, spec_l9Kids.j3v_eq, in_s, decide_eq_true hk]
      cases h1 : allE (l.take 1) <;> simp [hs, h1, hb1]
    · simp only [spec_l9Kids.j0v_eq, spec_l9Kids.j1v_eq, spec_l9Kids.j2v_eq, spec_l9Kids.j3v_eq, in_s, decide_eq_false hk]
      simp
  refine good_of _ _ (node_plain 31 b c l _ hK (by omega) (by omega) (by omega) (by omega) (by omega) (by omega) (by omega) (by omega) (by omega)) ?_ ?_ ?_
  · show impl_isE.fv 31 b c l = _
    rw [impl_isE.fv_eq]
    simp [impl_isE.j0v_eq, impl_isE.j1v_eq, impl_isE.j2v_eq, in_i, eop]
  · show impl_isStatement.fv 31 b c l = _
    rw [impl_isStatement.fv_eq]
    by_cases hk : 2 ≤ (l.length : Int) ∧ (l.length : Int) ≤ 3
    · rcases (by omega : l.length = 2 ∨ l.length = 3) with h2 | h3
      · obtain ⟨k1, k2, hk2⟩ := len_two h2
        subst hk2
        have g1 := (ih k1 (by simp)).e
        have g2 := (ih k2 (by simp)).b
        have e1 : allE (List.take 1 [k1, k2]) = (nb k1 && eop k1) := by show allE [k1] = _; rw [allE_cons]; simp [allE]
        have e2 : allB (List.drop 1 [k1, k2]) = (nb k2 && bop k2) := by show allB [k2] = _; rw [allB_cons]; simp [allB]
        have w : wrap64 ((([k1, k2] : List S38).length : Int) - 1) = 1 := by rw [wrap_in (by simp) (by simp)]; rfl
        rw [e1, e2, w]
        cases h1 : (nb k1 && eop k1) <;> cases h4 : (nb k2 && bop k2) <;> by_cases hb : b = 0 <;> by_cases hg : c.toList = [] <;> simp [plain_i, in_i, hb, hg, sop, rd0, rd1, g1, g2, h1, h4]
      · obtain ⟨k1, k2, k3, hk3⟩ := len_three h3
        subst hk3
        have g1 := (ih k1 (by simp)).e
        have g2 := (ih k2 (by simp)).b
        have g3 := (ih k3 (by simp)).b
        have e1 : allE (List.take 1 [k1, k2, k3]) = (nb k1 && eop k1) := by show allE [k1] = _; rw [allE_cons]; simp [allE]
        have e2 : allB (List.drop 1 [k1, k2, k3]) = ((nb k2 && bop k2) && (nb k3 && bop k3)) := by show allB [k2, k3] = _; rw [allB_cons, allB_cons]; simp [allB]
        have w : wrap64 ((([k1, k2, k3] : List S38).length : Int) - 1) = 2 := by rw [wrap_in (by simp) (by simp)]; rfl
        rw [e1, e2, w]
        cases h1 : (nb k1 && eop k1) <;> cases h4 : (nb k2 && bop k2) <;> by_cases hb : b = 0 <;> by_cases hg : c.toList = [] <;> simp [plain_i, in_i, hb, hg, sop, rd0, rd1, rd2, g1, g2, g3, h1, h4]
    · simp only [in_i, decide_eq_false hk]
      by_cases hb : b = 0 <;> by_cases hg : c.toList = [] <;> simp [plain_i, hb, hg, sop]
  · show impl_isBlock.fv 31 b c l = _
    rw [impl_isBlock.fv_eq]
    simp [bop]
theorem other_kid (a : Int) (b : Int) (c : ByteArray) (l : List S38) (hl : l.length ≤ 1048576) (ih : ∀ k, k ∈ l → Good k) (ha : a < 1 ∨ 35 < a) : Good ⟨a, b, c, l⟩ := by
  have _ := hl
  have _ := ih
  have n : ∀ k : Int, 1 ≤ k → k ≤ 35 → a ≠ k := fun k h h' => by omega
  have hK : spec_l9Kids.fv a b c l = some (decide (l = [])) := by
    rw [spec_l9Kids.fv_eq]
    simp [spec_l9Kids.j0v_eq, spec_l9Kids.j1v_eq, spec_l9Kids.j2v_eq, spec_l9Kids.j3v_eq, len0, n]
  refine good_of _ false ?_ ?_ ?_ ?_
  · show spec_l9Node.fv a b c l = _
    have hd : ¬ (1 ≤ a ∧ a ≤ 35) := by omega
    rw [spec_l9Node.fv_eq, hK]
    cases hq : decide (l = []) <;> simp [spec_l9Node.j0v_eq, in_s, hd]
    all_goals omega
  · show impl_isE.fv a b c l = _
    have hd : ¬ (9 ≤ a ∧ a ≤ 21) := by omega
    rw [impl_isE.fv_eq]
    simp [impl_isE.j0v_eq, impl_isE.j1v_eq, impl_isE.j2v_eq, in_i, n]
    all_goals omega
  · show impl_isStatement.fv a b c l = _
    rw [impl_isStatement.fv_eq]
    simp [n]
  · show impl_isBlock.fv a b c l = _
    rw [impl_isBlock.fv_eq]
    simp [n]
end
theorem step (y : S38) (hc : y.f2.size ≤ 1048576) (hl : y.f3.length ≤ 1048576) (ih : ∀ k, k ∈ y.f3 → Good k) : Good y := by
  obtain ⟨a, b, c, l⟩ := y
  by_cases h0 : a < 1 ∨ 35 < a
  · exact other_kid a b c l hl ih h0
  · rcases (by omega : a = 1 ∨ a = 2 ∨ a = 3 ∨ a = 4 ∨ a = 5 ∨ (a = 6 ∨ a = 22 ∨ a = 23) ∨ (a = 7 ∨ a = 8) ∨ (a = 9 ∨ a = 10 ∨ a = 11 ∨ a = 12 ∨ a = 13 ∨ a = 14 ∨ a = 15 ∨ a = 16 ∨ a = 17 ∨ a = 18 ∨ a = 19 ∨ a = 20 ∨ a = 21 ∨ a = 24 ∨ a = 25) ∨ (a = 26 ∨ a = 27) ∨ a = 28 ∨ a = 29 ∨ a = 30 ∨ a = 31 ∨ a = 32 ∨ a = 33 ∨ a = 34 ∨ a = 35) with rfl | rfl | rfl | rfl | rfl | h | h | h | h | rfl | rfl | rfl | rfl | rfl | rfl | rfl | rfl
    · exact num_kid b c l hc hl ih
    · exact text_kid b c l hc hl ih
    · exact rex_kid b c l hc hl ih
    · exact var_kid b c l hc hl ih
    · exact cell_kid b c l hc hl ih
    · exact one_kid a b c l hl ih h
    · exact no_kid a b c l hl ih h
    · exact two_kid a b c l hl ih h
    · exact set_kid a b c l hl ih h
    · exact call_kid b c l hl ih
    · exact block_kid b c l hl ih
    · exact print_kid b c l hl ih
    · exact if_kid b c l hl ih
    · exact while_kid b c l hl ih
    · exact next_kid b c l hl ih
    · exact drop_kid b c l hc hl ih
    · exact do_kid b c l hl ih
theorem good (x : S32) (hx : Wf32 x) (hb : bulk x ≤ 1048576) : Good (conv x) := by
  induction hx with
  | mk x h0 h1 h2 h3 g3 ih =>
    have hk := bulk_eq x
    rw [conv_eq]
    refine step _ (by show x.f2.size ≤ 1048576; omega) (by simp; omega) (fun y hy => ?_)
    obtain ⟨z, hz, rfl⟩ := List.mem_map.1 hy
    exact ih z hz (by have := bulk_kid hz; omega)

/-! ### rules -/
theorem rule_both (x : S34) (hx : Wf34 x) (hb : bl_Rule x ≤ 1048576) : ∃ b : Bool,
    impl_Tidy_1.fv (cv_Rule x).f0 (cv_Rule x).f1 (cv_Rule x).f2 (cv_Rule x).f3 (cv_Rule x).f4 (cv_Rule x).f5 (cv_Rule x).f6 (cv_Rule x).f7 (cv_Rule x).f8 = some (!b) ∧
    ∀ (l : List S40) (i : Nat) (K : Bool), i < l.length → l.length ≤ 1048576 → l[i]? = some (cv_Rule x) → spec_Tidy.l0v l ((i + 1 : Nat) : Int) = some K → spec_Tidy.l0v l (i : Int) = some (b && K) := by
  unfold bl_Rule at hb
  have g1 := good (whn x) (wf1 x hx) (by omega)
  have g2 := good (thn x) (wf2 x hx) (by omega)
  obtain ⟨t1, a1, a2, a3, a4⟩ := deep_node (whn x) (wf1 x hx) (by omega)
  obtain ⟨t2, b1, b2, b3, b4⟩ := deep_node (thn x) (wf2 x hx) (by omega)
  show ∃ b : Bool, impl_Tidy_1.fv x.f0 (conv (whn x)).f0 (conv (whn x)).f1 (conv (whn x)).f2 (conv (whn x)).f3 (conv (thn x)).f0 (conv (thn x)).f1 (conv (thn x)).f2 (conv (thn x)).f3 = some (!b) ∧ _
  generalize hp : conv (whn x) = p at *
  generalize hq : conv (thn x) = q at *
  have hcv : cv_Rule x = ⟨x.f0, p.f0, p.f1, p.f2, p.f3, q.f0, q.f1, q.f2, q.f3⟩ := by rw [← hp, ← hq]; rfl
  have hnone : impl_noNode.f p.f0 p.f1 p.f2 p.f3 = some (decide (p.f0 = 0) && decide (p.f1 = 0) && decide (p.f2.toList = []) && decide (p.f3 = [])) := by
    unfold impl_noNode.f
    rw [plain_i, len0]
    by_cases h0 : p.f0 = 0 <;> by_cases h1 : p.f1 = 0 <;> by_cases h2 : p.f2.toList = [] <;> simp [h0, h1, h2]
  obtain ⟨none, hnn⟩ : ∃ none : Bool, none = (decide (p.f0 = 0) && decide (p.f1 = 0) && decide (p.f2.toList = []) && decide (p.f3 = [])) := ⟨_, rfl⟩
  rw [← hnn] at hnone
  refine ⟨(decide (x.f0 = 1 ∨ x.f0 = 2) && none && decide (t1 ≤ 16) || decide (x.f0 = 3) && (nb p && eop p) && decide (t1 ≤ 16)) && (nb q && bop q) && decide (t2 ≤ 16), ?_, ?_⟩
  · rw [impl_Tidy_1.fv_eq, a4, Option.bind_some, b4, g2.b]
    simp only [Option.bind_some, impl_Tidy_1.j0v_eq, impl_Tidy_1.j1v_eq, hnone, g1.e]
    by_cases c1 : t1 > 16
    · have c1' : ¬ t1 ≤ 16 := by omega
      simp [c1, c1']
    · have c1' : t1 ≤ 16 := by omega
      by_cases c2 : t2 > 16
      · have c2' : ¬ t2 ≤ 16 := by omega
        simp [c1, c2, c2']
      · have c2' : t2 ≤ 16 := by omega
        cases h3 : (nb q && bop q)
        · simp [c1, c2]
        · by_cases k1 : x.f0 = 1
          · simp [c1, c2, c1', c2', k1]
          · by_cases k2 : x.f0 = 2
            · simp [c1, c2, c1', c2', k2]
            · by_cases k3 : x.f0 = 3
              · simp [c1, c2, c1', c2', k3]
              · simp [c1, c2, c1', c2', k1, k2, k3]
  · intro l i K hi hl hx2 hK
    have hr : rd_T40 l (i : Int) = ⟨x.f0, p.f0, p.f1, p.f2, p.f3, q.f0, q.f1, q.f2, q.f3⟩ := by
      rw [rdrule2 l i hi, ← hcv]
      rw [List.getElem?_eq_getElem hi] at hx2
      exact Option.some.inj hx2
    have hw : wrap64 ((i : Int) + 1) = ((i + 1 : Nat) : Int) := by rw [wrap_in (by omega) (by omega)]; omega
    have hd0 : none = true → t1 ≤ 16 := by
      intro hn
      rw [hnn] at hn
      simp only [Bool.and_eq_true, decide_eq_true_eq] at hn
      rw [hn.2, spec_Deep.fv_eq, spec_Deep.l0v_eq, if_neg (by simp), wrap_in (by omega) (by omega)] at a3
      have := Option.some.inj a3
      omega
    have J2 : ∀ v : Bool, spec_Tidy.j2v l (i : Int) v x.f0 p.f0 p.f1 p.f2 p.f3 q.f0 q.f1 q.f2 q.f3 = some (v && ((nb q && bop q) && (decide (t2 ≤ 16) && K))) := by
      intro v
      rw [spec_Tidy.j2v_eq, b3, g2.sp, hw, hK]
      unfold bop
      cases v
      · rfl
      · rw [if_pos rfl]
        by_cases h29 : q.f0 = 29
        · rw [if_pos h29, Option.bind_some, Option.bind_some, decide_eq_true h29]
          by_cases c2 : t2 > 16
          · rw [if_pos c2, decide_eq_false (by omega)]; cases nb q <;> rfl
          · rw [if_neg c2, decide_eq_true (by omega)]; cases nb q <;> rfl
        · rw [if_neg h29, decide_eq_false h29]; cases nb q <;> rfl
    have J1 : spec_Tidy.j1v l (i : Int) none x.f0 p.f0 p.f1 p.f2 p.f3 q.f0 q.f1 q.f2 q.f3 = some (((decide (x.f0 = 1 ∨ x.f0 = 2) && none && decide (t1 ≤ 16) || decide (x.f0 = 3) && (nb p && eop p) && decide (t1 ≤ 16)) && (nb q && bop q) && decide (t2 ≤ 16)) && K) := by
      rw [spec_Tidy.j1v_eq]
      simp only [J2, in_s, isE_op, g1.sp, a3, Option.bind_some]
      have hq2 : decide (1 ≤ p.f0 ∧ p.f0 ≤ 28) = eop p := rfl
      rw [hq2]
      by_cases k12 : 1 ≤ x.f0 ∧ x.f0 ≤ 2
      · have k12' : x.f0 = 1 ∨ x.f0 = 2 := by omega
        have k3 : ¬ x.f0 = 3 := by omega
        rw [decide_eq_true k12, if_pos rfl, decide_eq_true k12', decide_eq_false k3, if_neg k3]
        cases hnn2 : none
        · rw [if_neg (by simp)]; simp
        · rw [if_pos rfl, decide_eq_true (hd0 hnn2)]; simp [Bool.and_assoc]
      · have k12' : ¬ (x.f0 = 1 ∨ x.f0 = 2) := by omega
        rw [decide_eq_false k12, if_neg (by simp), decide_eq_false k12']
        by_cases k3 : x.f0 = 3
        · rw [if_pos k3, decide_eq_true k3]
          cases eop p <;> cases nb p <;> simp [Bool.and_assoc]
        · rw [if_neg k3, decide_eq_false k3]; simp
    rw [spec_Tidy.l0v_eq, if_pos (by omega), if_pos (by omega), hr]
    simp only []
    rw [← J1]
    have hz : none = (decide (p.f0 = 0) && decide (p.f1 = 0) && decide (p.f2.toList = []) && ((p.f3.length : Int) == 0)) := by rw [len0]; exact hnn
    rw [hz]
    by_cases z0 : p.f0 = 0
    · rw [if_pos z0, decide_eq_true z0]
      by_cases z1 : p.f1 = 0
      · rw [if_pos z1, decide_eq_true z1]
        by_cases z2 : p.f2.toList = []
        · rw [if_pos z2, decide_eq_true z2]; rfl
        · rw [if_neg z2, decide_eq_false z2]; rfl
      · rw [if_neg z1, decide_eq_false z1]; rfl
    · rw [if_neg z0, decide_eq_false z0]; rfl
theorem tidy_loop (x : List S34) (hx : ∀ x_ ∈ x, Wf34 x_) (hb : bls_Rule x ≤ 1048576) (d : Nat) : ∀ i : Nat, x.length - i = d → i ≤ x.length →
    ∃ (b : Bool) (t : Int), spec_Tidy.l0v (x.map cv_Rule) (i : Int) = some b ∧ slices_IndexFunc_impl_Rule_impl_Rule__impl_Tidy_1.l0v (x.map cv_Rule) ((x.map cv_Rule).length : Int) (i : Int) = some t ∧ decide (t ≥ 0) = !b := by
  have hb' := hb
  unfold bls_Rule at hb'
  have hlen : (x.map cv_Rule).length = x.length := List.length_map _
  induction d with
  | zero =>
    intro i h1 h2
    refine ⟨true, -1, ?_, ?_, rfl⟩
    · rw [spec_Tidy.l0v_eq, if_neg (by omega)]
    · rw [slices_IndexFunc_impl_Rule_impl_Rule__impl_Tidy_1.l0v_eq, if_neg (by omega)]
  | succ d ih =>
    intro i h1 h2
    have hi : i < x.length := by omega
    have hm := Go.Proofs.YthgglepiopijjaaGreatDoorW.Bulk.le_sum (List.mem_map_of_mem (f := bl_Rule) (List.getElem_mem hi))
    obtain ⟨b, e1, e2⟩ := rule_both x[i] (hx _ (List.getElem_mem hi)) (by omega)
    obtain ⟨c, t, f1, f2, f3⟩ := ih (i + 1) (by omega) (by omega)
    have hs := e2 (x.map cv_Rule) i c (by omega) (by omega) (by simp [hi]) f1
    refine ⟨b && c, (if b = true then t else i), hs, ?_, ?_⟩
    · rw [slices_IndexFunc_impl_Rule_impl_Rule__impl_Tidy_1.l0v_eq, if_pos (by omega), if_pos (by omega), if_pos (by omega), rdrule2 _ i (by omega), List.getElem_map, e1, wrap_in (by omega) (by omega), show (i : Int) + 1 = ((i + 1 : Nat) : Int) by omega, f2]
      cases b <;> simp
    · cases b
      · simp
      · simpa using f3
theorem tidy_both (x : List S34) (hx : ∀ x_ ∈ x, Wf34 x_) (hb : bls_Rule x ≤ 1048576) : ∃ b : Bool, spec_Tidy.fv (x.map cv_Rule) = some b ∧ impl_Tidy.fv (x.map cv_Rule) = some b := by
  obtain ⟨b, t, e1, e2, e3⟩ := tidy_loop x hx hb x.length 0 (by omega) (by omega)
  refine ⟨b, ?_, ?_⟩
  · rw [spec_Tidy.fv_eq]; exact e1
  · have e2' : slices_IndexFunc_impl_Rule_impl_Rule__impl_Tidy_1.l0v (x.map cv_Rule) ((x.map cv_Rule).length : Int) 0 = some t := e2
    rw [impl_Tidy.fv_eq, slices_ContainsFunc_impl_Rule_impl_Rule__impl_Tidy_1.fv_eq, slices_IndexFunc_impl_Rule_impl_Rule__impl_Tidy_1.fv_eq, e2', Option.bind_some, Option.bind_some, e3, Bool.not_not]

/-! ### decimal digits -/
theorem dig_one (n : Int) (h0 : 0 ≤ n) (h1 : n ≤ 9223372036854775807) : strOfNums [(wrap64 (48 + Int.tmod n 10)) % 256] = B [UInt8.ofNat (48 + n.toNat % 10)] := by
  have e : (wrap64 (48 + Int.tmod n 10)) % 256 = ((48 + n.toNat % 10 : Nat) : Int) := by
    rw [Int.tmod_eq_emod_of_nonneg h0, wrap_in (by omega) (by omega)]
    omega
  rw [e]
  rfl
theorem digits_loop (u : Nat) : ∀ acc : List UInt8, 1 ≤ u → u ≤ 9223372036854775807 → acc.length + Lib.nDigits u ≤ 1000 → spec_l2Digits.l0v (u : Int) (B acc) = some (B (Lib.decDigits u ++ acc)) := by
  induction u using Nat.strongRecOn with
  | _ u ih =>
    intro acc h1 h2 h3
    rw [spec_l2Digits.l0v_eq, if_pos (by omega)]
    rw [dig_one _ (by omega) (by omega), B_append, Int.toNat_natCast, Int.tdiv_eq_ediv_of_nonneg (by omega), wrap_in (by omega) (by omega)]
    rw [if_pos (by rw [B_size, B_size]; have := Lib.nDigits_pos u; simp; omega)]
    rw [show ((u : Int) / 10) = ((u / 10 : Nat) : Int) by omega]
    by_cases h : u < 10
    · rw [show u / 10 = 0 by omega, spec_l2Digits.l0v_eq, if_neg (by simp)]
      rw [Lib.decDigits_one h, Nat.mod_eq_of_lt h]
    · rw [ih (u / 10) (by omega) _ (by omega) (by omega) (by rw [Lib.nDigits_big h] at h3; simp; omega)]
      rw [Lib.decDigits.eq_def u, dif_neg h]
      simp
theorem digits_spec (u : Nat) (h : u ≤ 9223372036854775807) : spec_l2Digits.fv (u : Int) = some (B (Lib.decDigits u)) := by
  rw [spec_l2Digits.fv_eq]
  by_cases h0 : u = 0
  · subst h0
    rw [if_pos (by simp), Lib.decDigits_one (by omega)]
    rfl
  · rw [if_neg (by omega), show (⟨#[]⟩ : ByteArray) = B [] from rfl, digits_loop u [] (by omega) h (by have := Lib.nDigits_le20 u (by omega); simp; omega)]
    simp
theorem seven (u : Nat) (h0 : 1000000 ≤ u) (h1 : u < 2000000) : Lib.decDigits u = [49, UInt8.ofNat (48 + u / 100000 % 10), UInt8.ofNat (48 + u / 10000 % 10), UInt8.ofNat (48 + u / 1000 % 10), UInt8.ofNat (48 + u / 100 % 10), UInt8.ofNat (48 + u / 10 % 10), UInt8.ofNat (48 + u % 10)] := by
  rw [Lib.decDigits.eq_def, dif_neg (by omega), Lib.decDigits.eq_def, dif_neg (by omega), Lib.decDigits.eq_def, dif_neg (by omega), Lib.decDigits.eq_def, dif_neg (by omega), Lib.decDigits.eq_def, dif_neg (by omega), Lib.decDigits.eq_def, dif_neg (by omega), Lib.decDigits_one (by omega)]
  simp only [Nat.div_div_eq_div_mul]
  rw [show u / (10 * 10 * 10 * 10 * 10 * 10) = 1 by omega]
  rfl
theorem rest_any (r : Nat) (h0 : 0 < r) (h1 : r < 1000000) : ∃ b ∈ (Lib.decDigits (1000000 + r)).drop 1, b ≠ 48 := by
  rw [seven _ (by omega) (by omega)]
  simp only [List.drop_succ_cons, List.drop_zero]
  apply Classical.byContradiction
  intro hn
  have hz : ∀ k : Nat, k < 10 → UInt8.ofNat (48 + k) = 48 → k = 0 := by
    intro k hk e
    have := congrArg UInt8.toNat e
    rw [byte_ofNat _ (by omega)] at this
    have h48 : (48 : UInt8).toNat = 48 := rfl
    omega
  have hall : ∀ b ∈ [UInt8.ofNat (48 + (1000000 + r) / 100000 % 10), UInt8.ofNat (48 + (1000000 + r) / 10000 % 10), UInt8.ofNat (48 + (1000000 + r) / 1000 % 10), UInt8.ofNat (48 + (1000000 + r) / 100 % 10), UInt8.ofNat (48 + (1000000 + r) / 10 % 10), UInt8.ofNat (48 + (1000000 + r) % 10)], b = 48 := fun b hb => Classical.byContradiction fun e => hn ⟨b, hb, e⟩
  have a1 := hz _ (by omega) (hall (UInt8.ofNat (48 + (1000000 + r) / 100000 % 10)) (by simp))
  have a2 := hz _ (by omega) (hall (UInt8.ofNat (48 + (1000000 + r) / 10000 % 10)) (by simp))
  have a3 := hz _ (by omega) (hall (UInt8.ofNat (48 + (1000000 + r) / 1000 % 10)) (by simp))
  have a4 := hz _ (by omega) (hall (UInt8.ofNat (48 + (1000000 + r) / 100 % 10)) (by simp))
  have a5 := hz _ (by omega) (hall (UInt8.ofNat (48 + (1000000 + r) / 10 % 10)) (by simp))
  have a6 := hz _ (by omega) (hall (UInt8.ofNat (48 + (1000000 + r) % 10)) (by simp))
  omega

/-! ### noughts at the end fall away -/
def sgn (x : Int) : List UInt8 := if x < 0 then [45] else []
theorem trim_snoc (t : List UInt8) (b : UInt8) : Lib.trimRightB (t ++ [b]) 48 = if b = 48 then Lib.trimRightB t 48 else t ++ [b] := by
  unfold Lib.trimRightB
  rw [List.reverse_append, List.reverse_singleton, List.singleton_append, List.dropWhile_cons]
  by_cases h : b = 48
  · simp [h]
  · rw [if_neg (by simpa using h), if_neg h]; simp
theorem trim_le (t : List UInt8) : (Lib.trimRightB t 48).length ≤ t.length := by
  unfold Lib.trimRightB
  rw [List.length_reverse]
  exact Nat.le_trans (List.dropWhile_sublist _).length_le (by simp)
theorem strip (x0 : Int) (a : List UInt8) (ha : a.length ≤ 1000) (n : Nat) : ∀ t : List UInt8, t.length = n → t.length ≤ 1000 → (∃ b ∈ t, b ≠ 48) → spec_DecText.l0v x0 (B a) (B t) = some (B (sgn x0 ++ (a ++ [46] ++ Lib.trimRightB t 48))) := by
  induction n with
  | zero =>
    intro t h1 _ ⟨b, hb, _⟩
    rw [List.eq_nil_of_length_eq_zero h1] at hb
    simp at hb
  | succ n ih =>
    intro t h1 h2 h3
    obtain ⟨t, b, rfl⟩ : ∃ t' b, t = t' ++ [b] := ⟨t.dropLast, t.getLast (by intro e; rw [e] at h1; simp at h1), (List.dropLast_concat_getLast _).symm⟩
    have hl : t.length = n := by simpa using h1
    have e1 : wrap64 (((B (t ++ [b])).size : Int) - 1) = (n : Int) := by rw [B_size]; simp; rw [wrap_in (by omega) (by omega)]; omega
    have e2 : bt (B (t ++ [b])) (n : Int) = (b.toNat : Int) := by
      rw [B_bt _ n (by simp; omega)]
      subst hl; simp
    rw [spec_DecText.l0v_eq, e1, e2, if_pos (by omega), if_pos (by rw [B_size]; simp; omega), trim_snoc]
    have hb := byte_is b 48 48 rfl
    by_cases h : b = 48
    · rw [if_pos (hb.2 h), if_pos (by rw [B_size]; simp; omega), if_pos h, B_extract]
      have e3 : (List.drop 0 (t ++ [b])).take (((n : Int)).toNat - 0) = t := by subst hl; simp
      rw [e3]
      refine ih t hl (by simp at h2; omega) ?_
      obtain ⟨c, hc, hc2⟩ := h3
      rcases List.mem_append.1 hc with hc | hc
      · exact ⟨c, hc, hc2⟩
      · rw [List.mem_singleton] at hc; exact absurd (hc.trans h) hc2
    · rw [if_neg (fun e => h (hb.1 e)), if_neg h, show (⟨#[46]⟩ : ByteArray) = B [46] from rfl, show (⟨#[45]⟩ : ByteArray) = B [45] from rfl]
      simp only [B_append, B_size]
      rw [if_pos (by simp; omega), if_pos (by simp; simp at h2; omega)]
      by_cases hx : x0 < 0
      · rw [if_pos hx, if_pos (by simp; simp at h2; omega)]; simp [sgn, hx]
      · rw [if_neg hx]; simp [sgn, hx]

/-! ### both texts -/
theorem decok_spec (a : Int) : spec_DecOk.f a = some (decide (-9000000000000 ≤ a ∧ a ≤ 9000000000000)) := by
  unfold spec_DecOk.f spec_l1In.f
  by_cases h : a ≥ -9000000000000
  · rw [if_pos h]; simp [h]
  · rw [if_neg h]; simp; omega
theorem decok_impl (a : Int) : impl_DecOk.f a = some (decide (-9000000000000 ≤ a ∧ a ≤ 9000000000000)) := by
  unfold impl_DecOk.f impl_in.f
  by_cases h : a ≥ -9000000000000
  · rw [if_pos h]; simp [h]
  · rw [if_neg h]; simp; omega
/-- The text of a number that is right: sign, whole part, and what stands behind the point. -/
def decText (a : Int) : List UInt8 := if -9000000000000 ≤ a ∧ a ≤ 9000000000000 then sgn a ++ (Lib.decDigits (a.natAbs / 1000000) ++ if a.natAbs % 1000000 = 0 then [] else [46] ++ Lib.trimRightB ((Lib.decDigits (1000000 + a.natAbs % 1000000)).drop 1) 48) else []
theorem dec_len (u : Nat) (h : u ≤ 9223372036854775807) : (Lib.decDigits u).length ≤ 20 := by rw [Lib.decDigits_length]; exact Lib.nDigits_le20 u (by omega)
theorem text_spec (a : Int) : spec_DecText.fv a = some (B (decText a)) := by
  rw [spec_DecText.fv_eq, decok_spec, Option.bind_some]
  unfold decText
  by_cases h : -9000000000000 ≤ a ∧ a ≤ 9000000000000
  · rw [if_pos (by simpa using h), if_pos h]
    have e0 : spec_l1Abs.f a = some ((a.natAbs : Nat) : Int) := by
      unfold spec_l1Abs.f
      by_cases hn : a < 0
      · rw [if_pos hn, wrap_in (by omega) (by omega)]; congr 1; omega
      · rw [if_neg hn]; congr 1; omega
    rw [e0, Option.bind_some, Int.tdiv_eq_ediv_of_nonneg (by omega), Int.tmod_eq_emod_of_nonneg (by omega), wrap_in (by omega) (by omega)]
    generalize hu : a.natAbs = u
    have hu2 : u ≤ 9000000000000 := by omega
    rw [show ((u : Int) / 1000000) = ((u / 1000000 : Nat) : Int) by omega, digits_spec _ (by omega), Option.bind_some]
    have hd := dec_len (u / 1000000) (by omega)
    by_cases hr : u % 1000000 = 0
    · rw [if_neg (by omega), if_pos hr, List.append_nil, B_size, show (⟨#[45]⟩ : ByteArray) = B [45] from rfl, B_append]
      by_cases hn : a < 0
      · rw [if_pos hn, if_pos (by rw [B_size]; simp; omega)]; simp [sgn, hn]
      · rw [if_neg hn]; simp [sgn, hn]
    · rw [if_pos (by omega), if_neg hr, wrap_in (by omega) (by omega), show (1000000 + (u : Int) % 1000000) = ((1000000 + u % 1000000 : Nat) : Int) by omega, digits_spec _ (by omega), Option.bind_some]
      have hd2 := dec_len (1000000 + u % 1000000) (by omega)
      rw [B_size, if_pos (by rw [seven _ (by omega) (by omega)]; simp), B_extract]
      rw [List.take_of_length_le (by simp)]
      rw [strip a _ (by omega) _ _ rfl (by simp; omega) (rest_any _ (by omega) (by omega))]
      simp
  · rw [if_neg (by simpa using h), if_neg h]; rfl
theorem text_impl (a : Int) : impl_DecText.fv a = some (B (decText a)) := by
  rw [impl_DecText.fv_eq, decok_impl, Option.bind_some]
  unfold decText
  by_cases h : -9000000000000 ≤ a ∧ a ≤ 9000000000000
  · rw [if_pos (by simpa using h), if_pos h]
    have key : ∀ (u : Nat) (s : List UInt8), u ≤ 9000000000000 → s.length ≤ 10 → impl_DecText.j0v (u : Int) (B s) = some (B (s ++ (Lib.decDigits (u / 1000000) ++ if u % 1000000 = 0 then [] else [46] ++ Lib.trimRightB ((Lib.decDigits (1000000 + u % 1000000)).drop 1) 48))) := by
      intro u s hu hs
      have hit : ∀ v : Nat, v ≤ 9223372036854775807 → strconv_Itoa.f (v : Int) = some (B (Lib.decDigits v)) := by
        intro v hv
        unfold strconv_Itoa.f
        rw [if_pos (by omega), Lib.itoa_nonneg]; rfl
      have hd := dec_len (u / 1000000) (by omega)
      rw [impl_DecText.j0v_eq, Int.tdiv_eq_ediv_of_nonneg (by omega), Int.tmod_eq_emod_of_nonneg (by omega), wrap_in (by omega) (by omega), show ((u : Int) / 1000000) = ((u / 1000000 : Nat) : Int) by omega, hit _ (by omega), Option.bind_some]
      rw [if_pos (by rw [B_size, B_size]; omega)]
      by_cases hr : u % 1000000 = 0
      · rw [if_neg (by omega), if_pos hr, List.append_nil, B_append]
      · rw [if_pos (by omega), if_neg hr, wrap_in (by omega) (by omega), show (1000000 + (u : Int) % 1000000) = ((1000000 + u % 1000000 : Nat) : Int) by omega, hit _ (by omega), Option.bind_some]
        have hd2 := dec_len (1000000 + u % 1000000) (by omega)
        rw [B_size, if_pos (by rw [seven _ (by omega) (by omega)]; simp), B_extract, List.take_of_length_le (by simp)]
        generalize ht : (Lib.decDigits (1000000 + u % 1000000)).drop 1 = t
        have ht2 : t.length ≤ 20 := by rw [← ht]; simp; omega
        have htr : strings_TrimRight.f (B t) (⟨#[48]⟩ : ByteArray) = some (B (Lib.trimRightB t 48)) := by
          unfold strings_TrimRight.f
          simp only [B_data, B_size]
          rw [if_pos ⟨by decide, by omega⟩]; rfl
        have := trim_le t
        rw [htr, Option.bind_some, show (⟨#[46]⟩ : ByteArray) = B [46] from rfl]
        simp only [B_append, B_size]
        rw [if_pos (by simp; omega), if_pos (by simp; omega)]
        simp
    by_cases hn : a < 0
    · rw [if_pos hn, wrap_in (by omega) (by omega), show (0 - a) = ((a.natAbs : Nat) : Int) by omega, show (⟨#[45]⟩ : ByteArray) = B [45] from rfl, key _ _ (by omega) (by simp)]
      simp [sgn, hn]
    · rw [if_neg hn, show (⟨#[]⟩ : ByteArray) = B [] from rfl]
      have e : a = ((a.natAbs : Nat) : Int) := by omega
      have k2 := key a.natAbs [] (by omega) (by simp)
      rw [← e] at k2
      rw [k2]
      simp [sgn, hn]
  · rw [if_neg (by simpa using h), if_neg h]; rfl

/-! ### bytes with a sign ahead of some -/
theorem strN (xs : List Int) : strOfNums xs = B (xs.map fun n => UInt8.ofNat n.toNat) := rfl
theorem ofN (b : UInt8) : UInt8.ofNat ((b.toNat : Int)).toNat = b := by rw [Int.toNat_natCast, UInt8.ofNat_toNat]
def escB (p : UInt8 → Bool) (l : List UInt8) : List UInt8 := l.flatMap fun b => if p b = true then [92, b] else [b]
theorem escB_cons (p : UInt8 → Bool) (b : UInt8) (l : List UInt8) : escB p (b :: l) = (if p b = true then [92, b] else [b]) ++ escB p l := by
  unfold escB; rw [List.flatMap_cons]
theorem escB_len (p : UInt8 → Bool) : ∀ l : List UInt8, (escB p l).length ≤ 2 * l.length
  | [] => by simp [escB]
  | b :: l => by
    have := escB_len p l
    rw [escB_cons, List.length_append, List.length_cons]
    split <;> simp <;> omega
theorem back_run (p : UInt8 → Bool) (w : ByteArray) (hp : ∀ b : UInt8, spec_l5In.fv w (b.toNat : Int) = some (p b)) (cl : List UInt8) (hl : cl.length ≤ 1048576) (d : Nat) :
    ∀ (i : Nat) (xs : List Int), cl.length - i = d → i ≤ cl.length → xs.length ≤ 2 * i →
      spec_l9Back.l0v (B cl) w xs (i : Int) = some (B ((xs.map fun n => UInt8.ofNat n.toNat) ++ escB p (cl.drop i))) := by
  induction d with
  | zero =>
    intro i xs h1 h2 h3
    rw [spec_l9Back.l0v_eq, if_neg (by rw [B_size]; omega), List.drop_of_length_le (by omega), strN]
    simp [escB]
  | succ d ih =>
    intro i xs h1 h2 h3
    have hi : i < cl.length := by omega
    rw [spec_l9Back.l0v_eq, if_pos (by rw [B_size]; omega), if_pos (by omega), B_bt cl i hi, hp, Option.bind_some, List.drop_eq_getElem_cons hi, escB_cons]
    by_cases hb : p cl[i] = true
    · rw [if_pos hb, if_pos hb, if_pos (by omega), spec_l9Back.j0v_eq, if_pos (by omega), if_pos (by rw [B_size]; omega), if_pos (by simp; omega), B_bt cl i hi, wrap_in (by omega) (by omega), show (i : Int) + 1 = ((i + 1 : Nat) : Int) by omega,
        ih (i + 1) _ (by omega) (by omega) (by simp; omega)]
      simp only [List.map_append, List.map_cons, List.map_nil, ofN, List.append_assoc, List.cons_append, List.nil_append]
      rfl
    · rw [if_neg hb, if_neg hb, spec_l9Back.j0v_eq, if_pos (by omega), if_pos (by rw [B_size]; omega), if_pos (by omega), B_bt cl i hi, wrap_in (by omega) (by omega), show (i : Int) + 1 = ((i + 1 : Nat) : Int) by omega,
        ih (i + 1) _ (by omega) (by omega) (by simp; omega)]
      simp only [List.map_append, List.map_cons, List.map_nil, ofN, List.append_assoc, List.cons_append, List.nil_append]
def isQ (b : UInt8) : Bool := decide (b = 34) || decide (b = 92)
def isR (b : UInt8) : Bool := decide (b = 47)
theorem in_q (b : UInt8) : spec_l5In.fv (⟨#[34, 92]⟩ : ByteArray) (b.toNat : Int) = some (isQ b) := by
  have e0 : bt (⟨#[34, 92]⟩ : ByteArray) 0 = 34 := rfl
  have e1 : bt (⟨#[34, 92]⟩ : ByteArray) 1 = 92 := rfl
  have es : ((⟨#[34, 92]⟩ : ByteArray).size : Int) = 2 := rfl
  have w0 : wrap64 (0 + 1) = 1 := wrap_in (by omega) (by omega)
  have w1 : wrap64 (1 + 1) = 2 := wrap_in (by omega) (by omega)
  rw [spec_l5In.fv_eq, spec_l5In.l0v_eq, es, if_pos (by decide), if_pos (by decide), e0]
  unfold isQ
  by_cases h : b = 34
  · subst h; rw [if_pos (show (34 : Int) = ((34 : UInt8).toNat : Int) from rfl)]; rfl
  · have h' : ¬ ((34 : Int) = (b.toNat : Int)) := fun e => h ((byte_is b 34 34 rfl).1 e.symm)
    rw [if_neg h', w0, spec_l5In.l0v_eq, es, if_pos (by decide), if_pos (by decide), e1]
    by_cases h2 : b = 92
    · subst h2; rw [if_pos (show (92 : Int) = ((92 : UInt8).toNat : Int) from rfl)]; rfl
    · have h2' : ¬ ((92 : Int) = (b.toNat : Int)) := fun e => h2 ((byte_is b 92 92 rfl).1 e.symm)
      rw [if_neg h2', w1, spec_l5In.l0v_eq, es, if_neg (by decide), decide_eq_false h, decide_eq_false h2]
      rfl
theorem in_r (b : UInt8) : spec_l5In.fv (⟨#[47]⟩ : ByteArray) (b.toNat : Int) = some (isR b) := by
  have e0 : bt (⟨#[47]⟩ : ByteArray) 0 = 47 := rfl
  have es : ((⟨#[47]⟩ : ByteArray).size : Int) = 1 := rfl
  have w0 : wrap64 (0 + 1) = 1 := wrap_in (by omega) (by omega)
  rw [spec_l5In.fv_eq, spec_l5In.l0v_eq, es, if_pos (by decide), if_pos (by decide), e0]
  unfold isR
  by_cases h : b = 47
  · subst h; rw [if_pos (show (47 : Int) = ((47 : UInt8).toNat : Int) from rfl)]; rfl
  · have h' : ¬ ((47 : Int) = (b.toNat : Int)) := fun e => h ((byte_is b 47 47 rfl).1 e.symm)
    rw [if_neg h', w0, spec_l5In.l0v_eq, es, if_neg (by decide), decide_eq_false h]
theorem back_q (cl : List UInt8) (hl : cl.length ≤ 1048576) : spec_l9Back.fv (B cl) (⟨#[34, 92]⟩ : ByteArray) = some (B (escB isQ cl)) := by
  rw [spec_l9Back.fv_eq]
  have := back_run isQ _ in_q cl hl cl.length 0 [] (by omega) (by omega) (by simp)
  simpa using this
theorem back_r (cl : List UInt8) (hl : cl.length ≤ 1048576) : spec_l9Back.fv (B cl) (⟨#[47]⟩ : ByteArray) = some (B (escB isR cl)) := by
  rw [spec_l9Back.fv_eq]
  have := back_run isR _ in_r cl hl cl.length 0 [] (by omega) (by omega) (by simp)
  simpa using this
theorem quote_run (cl : List UInt8) (hl : cl.length ≤ 1048576) (d : Nat) :
    ∀ (i : Nat) (xs : List Int), cl.length - i = d → i ≤ cl.length → xs.length ≤ 2 * i + 1 →
      impl_quotedText.l0v (B cl) xs (cl.length : Int) (i : Int) = some (B ((xs.map fun n => UInt8.ofNat n.toNat) ++ (escB isQ (cl.drop i) ++ [34]))) := by
  induction d with
  | zero =>
    intro i xs h1 h2 h3
    rw [impl_quotedText.l0v_eq, if_neg (by omega), if_pos (by omega), List.drop_of_length_le (by omega), strN]
    simp [escB]
  | succ d ih =>
    intro i xs h1 h2 h3
    have hi : i < cl.length := by omega
    have hj : ∀ (ys : List Int), ys.length ≤ 2 * i + 2 → impl_quotedText.j0v (B cl) ys (i : Int) (cl.length : Int) (i : Int) = some (B (((ys ++ [(cl[i].toNat : Int)]).map fun n => UInt8.ofNat n.toNat) ++ (escB isQ (cl.drop (i + 1)) ++ [34]))) := by
      intro ys hy
      rw [impl_quotedText.j0v_eq, if_pos (by omega), if_pos (by rw [B_size]; omega), if_pos (by omega), B_bt cl i hi, wrap_in (by omega) (by omega), show (i : Int) + 1 = ((i + 1 : Nat) : Int) by omega,
        ih (i + 1) _ (by omega) (by omega) (by simp; omega)]
    have hq : (if (cl[i].toNat : Int) = 34 then impl_quotedText.j1v (B cl) xs (i : Int) (cl.length : Int) (i : Int) true else impl_quotedText.j1v (B cl) xs (i : Int) (cl.length : Int) (i : Int) ((cl[i].toNat : Int) == 92)) = impl_quotedText.j1v (B cl) xs (i : Int) (cl.length : Int) (i : Int) (isQ cl[i]) := by
      unfold isQ
      by_cases h : cl[i] = 34
      · rw [if_pos ((byte_is _ 34 34 rfl).2 h), decide_eq_true h]; rfl
      · rw [if_neg (fun e => h ((byte_is _ 34 34 rfl).1 e)), decide_eq_false h]
        congr 1
        by_cases h2 : cl[i] = 92
        · rw [decide_eq_true h2]; exact beq_iff_eq.2 ((byte_is _ 92 92 rfl).2 h2)
        · rw [decide_eq_false h2]; exact beq_eq_false_iff_ne.2 (fun e => h2 ((byte_is _ 92 92 rfl).1 e))
    rw [impl_quotedText.l0v_eq, if_pos (by omega), if_pos (by omega), if_pos (by rw [B_size]; omega), B_bt cl i hi, hq, impl_quotedText.j1v_eq, List.drop_eq_getElem_cons hi, escB_cons]
    by_cases hb : isQ cl[i] = true
    · rw [if_pos hb, if_pos hb, if_pos (by omega), hj _ (by simp; omega)]
      simp only [List.map_append, List.map_cons, List.map_nil, ofN, List.append_assoc, List.cons_append, List.nil_append]
      rfl
    · rw [if_neg hb, if_neg hb, hj _ (by omega)]
      simp only [List.map_append, List.map_cons, List.map_nil, ofN, List.append_assoc, List.cons_append, List.nil_append]
theorem quote_i (cl : List UInt8) (hl : cl.length ≤ 1048576) : impl_quotedText.fv (B cl) = some (B (34 :: (escB isQ cl ++ [34]))) := by
  rw [impl_quotedText.fv_eq, B_size]
  have := quote_run cl hl cl.length 0 [34] (by omega) (by omega) (by simp)
  rw [List.drop_zero] at this
  exact this
theorem replK_ne (c : UInt8) (new : List UInt8) (b : UInt8) (l : List UInt8) (h : b ≠ c) : ∀ k, Lib.replaceK [c] new k (b :: l) = b :: Lib.replaceK [c] new k l
  | 0 => rfl
  | k + 1 => by
    have hb : (b == c) = false := beq_eq_false_iff_ne.2 h
    have hge := Lib.indexByte_ge l c
    by_cases hm : Lib.indexByte l c = -1
    · have e2 : Lib.indexByte (b :: l) c = -1 := by unfold Lib.indexByte; rw [hb, hm]; rfl
      rw [Lib.replaceK, Lib.replaceK, Lib.index_one, Lib.index_one, hm, e2]
      rfl
    · have e2 : Lib.indexByte (b :: l) c = Lib.indexByte l c + 1 := by
        unfold Lib.indexByte; rw [hb, if_neg (by simp), if_neg (by simpa using hm)]
        cases l <;> rfl
      obtain ⟨i, hi⟩ := Int.eq_ofNat_of_zero_le (show 0 ≤ Lib.indexByte l c by omega)
      rw [Lib.replaceK_hit [c] new k l i (by rw [Lib.index_one]; exact hi), Lib.replaceK_hit [c] new k (b :: l) (i + 1) (by rw [Lib.index_one, e2, hi]; omega)]
      simp
theorem repl_all (c : UInt8) (new : List UInt8) : ∀ l : List UInt8, Lib.replaceK [c] new (l.count c) l = l.flatMap fun b => if b = c then new else [b]
  | [] => rfl
  | b :: l => by
    rw [List.flatMap_cons]
    by_cases h : b = c
    · subst h
      rw [List.count_cons_self, Lib.replaceK_hit [b] new _ (b :: l) 0 (by rw [Lib.index_one]; unfold Lib.indexByte; rw [beq_self_eq_true]; rfl), if_pos rfl, ← repl_all b new l]
      simp
    · rw [List.count_cons_of_ne (fun e => h (by first | exact e | exact e.symm)), replK_ne c new b l h, if_neg h, repl_all c new l]
      rfl
theorem repl_r (cl : List UInt8) (hl : cl.length ≤ 1048576) : strings_ReplaceAll.f (B cl) (⟨#[47]⟩ : ByteArray) (⟨#[92, 47]⟩ : ByteArray) = some (B (escB isR cl)) := by
  have hc := Lib.countB_mul_le (⟨#[47]⟩ : ByteArray) (by decide) (B cl).size (B cl) (Nat.le_refl _)
  have e1 : (⟨#[47]⟩ : ByteArray).size = 1 := rfl
  have e2 : (⟨#[92, 47]⟩ : ByteArray).size = 2 := rfl
  unfold strings_ReplaceAll.f
  rw [e1] at hc
  rw [if_pos ⟨by rw [B_size]; omega, by decide, by rw [e2]; rw [B_size] at hc ⊢; omega⟩]
  rw [B_data]
  show some (B (Lib.replaceAll cl [47] [92, 47])) = _
  unfold Lib.replaceAll Lib.replace Lib.replaceNum
  rw [if_neg (by decide), if_pos (.inl (by decide)), Lib.count_one, repl_all]
  unfold escB isR
  congr 3
  funext b
  by_cases h : b = 47
  · subst h; rfl
  · rw [if_neg h, decide_eq_false h]; rfl

/-! ### what a tidy node's kids are -/
def one6 (a : Int) : Prop := a = 5 ∨ a = 6 ∨ a = 22 ∨ a = 23 ∨ a = 34 ∨ a = 35
def two2 (a : Int) : Prop := (9 ≤ a ∧ a ≤ 21) ∨ a = 24 ∨ a = 25 ∨ a = 26 ∨ a = 27
/-- What the kids are, by the kind. -/
structure KQ (a : Int) (l : List S38) : Prop where
  one : one6 a → l.length = 1 ∧ allE l = true
  two : two2 a → l.length = 2 ∧ allE l = true
  all : a = 28 ∨ a = 30 → allE l = true
  cond : a = 31 → 2 ≤ l.length ∧ l.length ≤ 3 ∧ allE (l.take 1) = true ∧ allB (l.drop 1) = true
  loop : a = 32 → l.length = 2 ∧ allE (l.take 1) = true ∧ allB (l.drop 1) = true
  blk : a = 29 → allS l = true
theorem kids_of (n : S38) (h : spec_l9Node.fv n.f0 n.f1 n.f2 n.f3 = some true) : spec_l9Kids.fv n.f0 n.f1 n.f2 n.f3 = some true := by
  rw [spec_l9Node.fv_eq] at h
  cases hk : spec_l9Kids.fv n.f0 n.f1 n.f2 n.f3 with
  | none => rw [hk] at h; cases h
  | some b =>
    cases b
    · rw [hk, Option.bind_some, if_neg (by simp), spec_l9Node.j0v_eq, if_pos rfl] at h
      cases h
    · rfl
theorem kids_full (a b : Int) (c : ByteArray) (l : List S38) (hl : l.length ≤ 1048576) (ih : ∀ k, k ∈ l → Good k) (h : spec_l9Kids.fv a b c l = some true) : KQ a l := by
  have run : ∀ t : Nat, (l.length : Int) = (t : Int) → spec_l9Es.fv a b c l 0 (t : Int) = some (allE l) := fun t ht => es_all l hl ih a b c t ht
  have run1 : (l.length : Int) = 1 → spec_l9Es.fv a b c l 0 1 = some (allE l) := fun h => run 1 h
  have run2 : (l.length : Int) = 2 → spec_l9Es.fv a b c l 0 2 = some (allE l) := fun h => run 2 h
  have bl : spec_l9Blocks.fv a b c l 1 = some (allB (l.drop 1)) ∨ l = [] := by
    by_cases h0 : l = []
    · exact .inr h0
    · have h1 : 1 ≤ l.length := List.length_pos_iff.2 h0
      rw [spec_l9Blocks.fv_eq]
      exact .inl (bs_run l hl ih a b c (l.length - 1) 1 rfl h1)
  have one : 1 ≤ l.length → spec_l9Es.fv a b c l 0 1 = some (allE (l.take 1)) := fun h => es_one l hl ih a b c h
  by_cases g1 : a = 5 ∨ a = 6 ∨ a = 22 ∨ a = 23 ∨ a = 34 ∨ a = 35
  · have e : spec_l9Kids.fv a b c l = (if (l.length : Int) = 1 then ((spec_l9Es.fv a b c l 0 1).bind fun t21 => (some t21)) else (some false)) := by
      rw [spec_l9Kids.fv_eq]
      rcases g1 with rfl | rfl | rfl | rfl | rfl | rfl <;> simp [spec_l9Kids.j0v_eq]
    rw [e] at h
    by_cases h1 : (l.length : Int) = 1
    · rw [if_pos h1, run1 h1, Option.bind_some] at h
      exact ⟨fun _ => ⟨by omega, Option.some.inj h⟩, fun e => by unfold two2 at e; omega, fun e => by omega, fun e => by omega, fun e => by omega, fun e => by omega⟩
    · rw [if_neg h1] at h; cases h
  · by_cases g2 : a = 9 ∨ a = 10 ∨ a = 11 ∨ a = 12 ∨ a = 13 ∨ a = 14 ∨ a = 15 ∨ a = 16 ∨ a = 17 ∨ a = 18 ∨ a = 19 ∨ a = 20 ∨ a = 21 ∨ a = 24 ∨ a = 25
    · have e : spec_l9Kids.fv a b c l = (if (l.length : Int) = 2 then ((spec_l9Es.fv a b c l 0 2).bind fun t21 => (some t21)) else (some false)) := by
        rw [spec_l9Kids.fv_eq]
        rcases g2 with rfl | rfl | rfl | rfl | rfl | rfl | rfl | rfl | rfl | rfl | rfl | rfl | rfl | rfl | rfl <;> simp [spec_l9Kids.j0v_eq, spec_l9Kids.j1v_eq]
      rw [e] at h
      by_cases h1 : (l.length : Int) = 2
      · rw [if_pos h1, run2 h1, Option.bind_some] at h
        exact ⟨fun e => by unfold one6 at e; omega, fun _ => ⟨by omega, Option.some.inj h⟩, fun e => by omega, fun e => by omega, fun e => by omega, fun e => by omega⟩
      · rw [if_neg h1] at h; cases h
    · by_cases g3 : a = 26 ∨ a = 27
      · have e : spec_l9Kids.fv a b c l = (if (l.length : Int) = 2 then (if 0 < (l.length : Int) then (if (rd_T38 l 0).f0 = 4 then ((spec_l9Es.fv a b c l 0 2).bind fun t68 => (some t68)) else (if (rd_T38 l 0).f0 = 5 then ((spec_l9Es.fv a b c l 0 2).bind fun t68 => (some t68)) else (some false))) else (none)) else (some false)) := by
          rw [spec_l9Kids.fv_eq]
          rcases g3 with rfl | rfl <;> simp [spec_l9Kids.j0v_eq, spec_l9Kids.j1v_eq, spec_l9Kids.j2v_eq]
        rw [e] at h
        by_cases h1 : (l.length : Int) = 2
        · rw [if_pos h1, if_pos (by omega), run2 h1, Option.bind_some] at h
          have hE : allE l = true := by
            by_cases k4 : (rd_T38 l 0).f0 = 4
            · rw [if_pos k4] at h; exact Option.some.inj h
            · rw [if_neg k4] at h
              by_cases k5 : (rd_T38 l 0).f0 = 5
              · rw [if_pos k5] at h; exact Option.some.inj h
              · rw [if_neg k5] at h; cases h
          exact ⟨fun e => by unfold one6 at e; omega, fun _ => ⟨by omega, hE⟩, fun e => by omega, fun e => by omega, fun e => by omega, fun e => by omega⟩
        · rw [if_neg h1] at h; cases h
      · by_cases g4 : a = 28 ∨ a = 30
        · have e : spec_l9Kids.fv a b c l = ((spec_l9Es.fv a b c l 0 (l.length : Int)).bind fun t75 => (some t75)) := by
            rw [spec_l9Kids.fv_eq]
            rcases g4 with rfl | rfl <;> simp [spec_l9Kids.j0v_eq, spec_l9Kids.j1v_eq, spec_l9Kids.j2v_eq, spec_l9Kids.j3v_eq]
          rw [e, run _ rfl, Option.bind_some] at h
          exact ⟨fun e => by unfold one6 at e; omega, fun e => by unfold two2 at e; omega, fun _ => Option.some.inj h, fun e => by omega, fun e => by omega, fun e => by omega⟩
        · have two : 1 ≤ l.length → ((spec_l9Es.fv a b c l 0 1).bind fun t82 => (if t82 = true then ((spec_l9Blocks.fv a b c l 1).bind fun t86 => (some t86)) else (some false))) = some true → allE (l.take 1) = true ∧ allB (l.drop 1) = true := by
            intro h1 h2
            rw [one h1, Option.bind_some] at h2
            by_cases q : allE (l.take 1) = true
            · rw [if_pos q] at h2
              rcases bl with hb | hb
              · rw [hb, Option.bind_some] at h2
                exact ⟨q, Option.some.inj h2⟩
              · rw [hb] at h1; cases h1
            · rw [if_neg q] at h2; cases h2
          by_cases g31 : a = 31
          · subst g31
            have e : spec_l9Kids.fv 31 b c l = ((spec_l1In.f (l.length : Int) 2 3).bind fun t79 => (if t79 = true then ((spec_l9Es.fv 31 b c l 0 1).bind fun t82 => (if t82 = true then ((spec_l9Blocks.fv 31 b c l 1).bind fun t86 => (some t86)) else (some false))) else (some false))) := by
              rw [spec_l9Kids.fv_eq]
              simp [spec_l9Kids.j0v_eq, spec_l9Kids.j1v_eq, spec_l9Kids.j2v_eq, spec_l9Kids.j3v_eq]
            rw [e, in_s, Option.bind_some] at h
            by_cases q : 2 ≤ (l.length : Int) ∧ (l.length : Int) ≤ 3
            · rw [if_pos (decide_eq_true q)] at h
              exact ⟨fun e => by unfold one6 at e; omega, fun e => by unfold two2 at e; omega, fun e => by omega, fun _ => ⟨by omega, by omega, two (by omega) h⟩, fun e => by omega, fun e => by omega⟩
            · rw [if_neg (by simp only [decide_eq_true_eq]; exact q)] at h; cases h
          · by_cases g32 : a = 32
            · subst g32
              have e : spec_l9Kids.fv 32 b c l = (if (l.length : Int) = 2 then ((spec_l9Es.fv 32 b c l 0 1).bind fun t94 => (if t94 = true then ((spec_l9Blocks.fv 32 b c l 1).bind fun t98 => (some t98)) else (some false))) else (some false)) := by
                rw [spec_l9Kids.fv_eq]
                simp [spec_l9Kids.j0v_eq, spec_l9Kids.j1v_eq, spec_l9Kids.j2v_eq, spec_l9Kids.j3v_eq]
              rw [e] at h
              by_cases q : (l.length : Int) = 2
              · rw [if_pos q] at h
                exact ⟨fun e => by unfold one6 at e; omega, fun e => by unfold two2 at e; omega, fun e => by omega, fun e => by omega, fun _ => ⟨by omega, two (by omega) h⟩, fun e => by omega⟩
              · rw [if_neg q] at h; cases h
            · by_cases g29 : a = 29
              · subst g29
                have hs : spec_l9Kids.l0v (l.length : Int) 0 29 b c l = some (allS l) := by
                  have := ss_run l hl ih 29 b c l.length 0 (by omega) (by omega)
                  rwa [List.drop_zero] at this
                have e : spec_l9Kids.fv 29 b c l = some (allS l) := by
                  rw [spec_l9Kids.fv_eq]
                  simp [spec_l9Kids.j0v_eq, spec_l9Kids.j1v_eq, spec_l9Kids.j2v_eq, spec_l9Kids.j3v_eq, hs]
                rw [e] at h
                exact ⟨fun e => by unfold one6 at e; omega, fun e => by unfold two2 at e; omega, fun e => by omega, fun e => by omega, fun e => by omega, fun _ => Option.some.inj h⟩
              · exact ⟨fun e => by unfold one6 at e; omega, fun e => by unfold two2 at e; omega, fun e => by omega, fun e => by omega, fun e => by omega, fun e => by omega⟩

/-! ### texts of nodes -/
theorem szc (a : UInt8) (l : List UInt8) : (⟨(a :: l).toArray⟩ : ByteArray).size = l.length + 1 := B_size (a :: l)
theorem szn : (⟨#[]⟩ : ByteArray).size = 0 := rfl
theorem okS {α : Type} {a : Nat} {x y : α} (h : a ≤ 9223372036854775807) : (if a ≤ 9223372036854775807 then x else y) = x := if_pos h
theorem nil_app (x : ByteArray) : (⟨#[]⟩ : ByteArray) ++ x = x := by
  have := B_append [] x.data.toList
  rw [List.nil_append, B_self] at this
  exact this
theorem app_nil (x : ByteArray) : x ++ (⟨#[]⟩ : ByteArray) = x := by
  have := B_append x.data.toList []
  rw [List.append_nil, B_self] at this
  exact this
theorem rk0 (k : S38) (l : List S38) : rd_T38 (k :: l) 0 = k := by simp [rd_T38]
theorem rk1 (k m : S38) (l : List S38) : rd_T38 (k :: m :: l) 1 = m := by simp [rd_T38]
theorem rk2 (k m j : S38) (l : List S38) : rd_T38 (k :: m :: j :: l) 2 = j := by simp [rd_T38]
theorem ln0 (k : S38) (l : List S38) : (0 < ((k :: l).length : Int)) = True := by simp
theorem ln1 (k m : S38) (l : List S38) : (1 < ((k :: m :: l).length : Int)) = True := by simp; omega
theorem ln2 (k m j : S38) (l : List S38) : (2 < ((k :: m :: j :: l).length : Int)) = True := by simp; omega
noncomputable def tx (k : S38) : ByteArray := (impl_eText.fv k.f0 k.f1 k.f2 k.f3).getD ⟨#[]⟩
noncomputable def ty (k : S38) : ByteArray := (impl_statementText.fv k.f0 k.f1 k.f2 k.f3).getD ⟨#[]⟩
noncomputable def tz (k : S38) : ByteArray := (impl_blockText.fv k.f0 k.f1 k.f2 k.f3).getD ⟨#[]⟩
/-- Both say one text of an e, of no more than n bytes. -/
structure TE (k : S38) (n : Nat) : Prop where
  i : impl_eText.fv k.f0 k.f1 k.f2 k.f3 = some (tx k)
  s : spec_l9E.fv k.f0 k.f1 k.f2 k.f3 = some (tx k)
  z : (tx k).size ≤ n
structure TS (k : S38) (n : Nat) : Prop where
  i : impl_statementText.fv k.f0 k.f1 k.f2 k.f3 = some (ty k)
  s : spec_l9Stmt.fv k.f0 k.f1 k.f2 k.f3 = some (ty k)
  z : (ty k).size ≤ n
structure TB (k : S38) (n : Nat) : Prop where
  i : impl_blockText.fv k.f0 k.f1 k.f2 k.f3 = some (tz k)
  s : spec_l9Block.fv k.f0 k.f1 k.f2 k.f3 = some (tz k)
  z : (tz k).size ≤ n
theorem TE_of {k : S38} {n : Nat} {s : ByteArray} (h1 : impl_eText.fv k.f0 k.f1 k.f2 k.f3 = some s) (h2 : spec_l9E.fv k.f0 k.f1 k.f2 k.f3 = some s) (h3 : s.size ≤ n) : TE k n := by
  have e : tx k = s := by unfold tx; rw [h1]; rfl
  exact ⟨by rw [h1, e], by rw [h2, e], by rw [e]; exact h3⟩
theorem TS_of {k : S38} {n : Nat} {s : ByteArray} (h1 : impl_statementText.fv k.f0 k.f1 k.f2 k.f3 = some s) (h2 : spec_l9Stmt.fv k.f0 k.f1 k.f2 k.f3 = some s) (h3 : s.size ≤ n) : TS k n := by
  have e : ty k = s := by unfold ty; rw [h1]; rfl
  exact ⟨by rw [h1, e], by rw [h2, e], by rw [e]; exact h3⟩
theorem TB_of {k : S38} {n : Nat} {s : ByteArray} (h1 : impl_blockText.fv k.f0 k.f1 k.f2 k.f3 = some s) (h2 : spec_l9Block.fv k.f0 k.f1 k.f2 k.f3 = some s) (h3 : s.size ≤ n) : TB k n := by
  have e : tz k = s := by unfold tz; rw [h1]; rfl
  exact ⟨by rw [h1, e], by rw [h2, e], by rw [e]; exact h3⟩
/-! rows of es -/
theorem es_i (l : List S38) (hl : l.length ≤ 1048576) (h : ∀ k, k ∈ l → ∃ n, TE k n) (d : Nat) : ∀ (i : Nat) (xs : List ByteArray), l.length - i = d → i ≤ l.length → xs.length = i →
    impl_eTexts.l0v xs l (l.length : Int) (i : Int) = strings_Join.f (xs ++ (l.drop i).map tx) (⟨#[44, 32]⟩ : ByteArray) := by
  induction d with
  | zero =>
    intro i xs h1 h2 h3
    rw [impl_eTexts.l0v_eq, if_neg (by omega), List.drop_of_length_le (by omega), List.map_nil, List.append_nil]
    cases strings_Join.f xs (⟨#[44, 32]⟩ : ByteArray) <;> rfl
  | succ d ih =>
    intro i xs h1 h2 h3
    have hi : i < l.length := by omega
    obtain ⟨n, hk⟩ := h l[i] (List.getElem_mem hi)
    rw [impl_eTexts.l0v_eq, if_pos (by omega), if_pos (by omega), if_pos (by omega), rd_in2 l i hi, hk.i, Option.bind_some, if_pos (by omega), wrap_in (by omega) (by omega), show (i : Int) + 1 = ((i + 1 : Nat) : Int) by omega,
      ih (i + 1) _ (by omega) (by omega) (by simp [h3]), List.drop_eq_getElem_cons hi, List.map_cons, List.append_assoc, List.singleton_append]
noncomputable def jt (l : List S38) : ByteArray := B (Lib.joinTail [44, 32] ((l.map tx).map fun s => s.data.toList))
theorem jt_cons (k : S38) (l : List S38) : jt (k :: l) = ((⟨#[44, 32]⟩ : ByteArray) ++ tx k) ++ jt l := by
  have e : jt (k :: l) = B ([44, 32] ++ (tx k).data.toList ++ Lib.joinTail [44, 32] ((l.map tx).map fun s => s.data.toList)) := by
    unfold jt Lib.joinTail
    simp
  rw [e, ← B_append, ← B_append, B_self]
  rfl
theorem es_s (l : List S38) (w : S38 → Nat) (hl : l.length ≤ 1048576) (h : ∀ k, k ∈ l → TE k (w k)) (d : Nat) : ∀ (i : Nat) (acc : ByteArray), l.length - i = d → 1 ≤ i → i ≤ l.length → acc.size + ((l.drop i).map fun k => w k + 2).sum ≤ 1099511627776 →
    spec_l9List.l0v l acc (i : Int) = some (acc ++ jt (l.drop i)) := by
  induction d with
  | zero =>
    intro i acc h1 h2 h3 h4
    rw [spec_l9List.l0v_eq, if_neg (by omega), List.drop_of_length_le (by omega)]
    show some acc = some (acc ++ (⟨#[]⟩ : ByteArray))
    rw [app_nil]
  | succ d ih =>
    intro i acc h1 h2 h3 h4
    have hi : i < l.length := by omega
    have hk := h l[i] (List.getElem_mem hi)
    have hz := hk.z
    rw [List.drop_eq_getElem_cons hi, List.map_cons, List.sum_cons] at h4
    rw [spec_l9List.l0v_eq, if_pos (by omega), if_pos (by omega), if_pos (by (try simp only [ByteArray.size_append, szc, szn, List.length_cons, List.length_nil]); omega), spec_l9List.j0v_eq, if_pos (by omega), if_pos (by omega), rd_in2 l i hi, hk.s, Option.bind_some,
      if_pos (by (try simp only [ByteArray.size_append, szc, szn, List.length_cons, List.length_nil]); omega), wrap_in (by omega) (by omega), show (i : Int) + 1 = ((i + 1 : Nat) : Int) by omega,
      ih (i + 1) _ (by omega) (by omega) (by omega) (by (try simp only [ByteArray.size_append, szc, szn, List.length_cons, List.length_nil]); omega), List.drop_eq_getElem_cons hi, jt_cons]
    simp only [ByteArray.append_assoc]
theorem jt_size (w : S38 → Nat) : ∀ l : List S38, (∀ k, k ∈ l → TE k (w k)) → (jt l).size ≤ (l.map fun k => w k + 2).sum
  | [], _ => Nat.zero_le _
  | k :: l, h => by
    have := jt_size w l fun j hj => h j (List.mem_cons_of_mem _ hj)
    have hz := (h k (List.mem_cons_self ..)).z
    rw [jt_cons, List.map_cons, List.sum_cons]
    simp only [ByteArray.size_append, szc, List.length_cons, List.length_nil]
    omega
theorem list_both (l : List S38) (w : S38 → Nat) (hl : l.length ≤ 1048576) (hw : (l.map fun k => w k + 2).sum ≤ 137438953472) (h : ∀ k, k ∈ l → TE k (w k)) :
    ∃ s, impl_eTexts.fv l = some s ∧ spec_l9List.fv l = some s ∧ s.size ≤ (l.map fun k => w k + 2).sum := by
  have hi := es_i l hl (fun k hk => ⟨_, h k hk⟩) l.length 0 [] (by omega) (by omega) rfl
  rw [List.nil_append, List.drop_zero] at hi
  cases l with
  | nil =>
    refine ⟨⟨#[]⟩, ?_, ?_, by rw [szn]; exact Nat.zero_le _⟩
    · rw [impl_eTexts.fv_eq]
      refine hi.trans ?_
      unfold strings_Join.f
      rw [if_pos ⟨by simp, by simp [Lib.join, List.intercalate]⟩]
      rfl
    · rw [spec_l9List.fv_eq, spec_l9List.l0v_eq, if_neg (by simp)]
  | cons k r =>
    have hk := h k (List.mem_cons_self ..)
    have hr : ∀ j, j ∈ r → TE j (w j) := fun j hj => h j (List.mem_cons_of_mem _ hj)
    have hz := hk.z
    have hj := jt_size w r hr
    rw [List.map_cons, List.sum_cons] at hw
    have hln : (k :: r).length = r.length + 1 := rfl
    have e : B (Lib.join (((k :: r).map tx).map fun s : ByteArray => s.data.toList) [44, 32]) = tx k ++ jt r := by
      rw [List.map_cons, List.map_cons, Lib.join_cons, ← B_append, B_self]
      rfl
    have ez : (Lib.join (((k :: r).map tx).map fun s : ByteArray => s.data.toList) [44, 32]).length = (tx k).size + (jt r).size := by
      rw [← B_size, e, ByteArray.size_append]
    refine ⟨tx k ++ jt r, ?_, ?_, ?_⟩
    · rw [impl_eTexts.fv_eq]
      refine hi.trans ?_
      have e2 : (⟨#[44, 32]⟩ : ByteArray).data.toList = [44, 32] := rfl
      unfold strings_Join.f
      rw [e2, if_pos ⟨by rw [List.length_map]; omega, by rw [ez]; omega⟩]
      exact congrArg some e
    · have h2 := es_s (k :: r) w hl h r.length 1 (tx k) (by rw [hln]; omega) (by omega) (by rw [hln]; omega) (by rw [List.drop_succ_cons, List.drop_zero]; omega)
      rw [List.drop_succ_cons, List.drop_zero] at h2
      rw [spec_l9List.fv_eq, spec_l9List.l0v_eq, if_pos (by rw [hln]; omega), if_neg (by omega), spec_l9List.j0v_eq, if_pos (by omega), if_pos (by rw [hln]; omega), rk0, hk.s, Option.bind_some, if_pos (by (try simp only [szn]); omega), nil_app, wrap_in (by omega) (by omega)]
      exact h2
    · rw [ByteArray.size_append, List.map_cons, List.sum_cons]; omega
/-! es, one by one -/
theorem e_num (b : Int) (c : ByteArray) (l : List S38) : TE ⟨1, b, c, l⟩ 45 := by
  refine TE_of (s := B (decText b)) ?_ ?_ ?_
  · show impl_eText.fv 1 b c l = _
    rw [impl_eText.fv_eq, if_pos rfl, text_impl]; rfl
  · show spec_l9E.fv 1 b c l = _
    rw [spec_l9E.fv_eq, Option.bind_some, if_pos rfl, text_spec]; rfl
  · rw [B_size]
    unfold decText
    split
    · have h1 := dec_len (b.natAbs / 1000000) (by omega)
      have h2 := dec_len (1000000 + b.natAbs % 1000000) (by omega)
      have h3 : (sgn b).length ≤ 1 := by unfold sgn; split <;> simp
      have h4 := trim_le ((Lib.decDigits (1000000 + b.natAbs % 1000000)).drop 1)
      rw [List.length_drop] at h4
      rw [List.length_append, List.length_append]
      split
      · simp; omega
      · simp only [List.length_append, List.length_cons, List.length_nil]; omega
    · simp
theorem e_text (b : Int) (c : ByteArray) (l : List S38) (hc : c.size ≤ 1048576) : TE ⟨2, b, c, l⟩ (2 * c.size + 2) := by
  have hcl : c.data.toList.length ≤ 1048576 := by rw [← B_size, B_self]; exact hc
  have hcs : c.data.toList.length = c.size := by rw [← B_size, B_self]
  have he := escB_len isQ c.data.toList
  refine TE_of (s := B (34 :: (escB isQ c.data.toList ++ [34]))) ?_ ?_ ?_
  · show impl_eText.fv 2 b c l = _
    rw [impl_eText.fv_eq, if_neg (by decide), if_pos rfl]
    have := quote_i c.data.toList hcl
    rw [B_self] at this
    rw [this]; rfl
  · show spec_l9E.fv 2 b c l = _
    rw [spec_l9E.fv_eq, Option.bind_some, if_neg (by decide), if_pos rfl]
    have := back_q c.data.toList hcl
    rw [B_self] at this
    rw [this, Option.bind_some, if_pos (by (try simp only [ByteArray.size_append, szc, szn, List.length_cons, List.length_nil, B_size]); omega), if_pos (by (try simp only [ByteArray.size_append, szc, szn, List.length_cons, List.length_nil, B_size]); omega)]
    show some ((B [34] ++ B _) ++ B [34]) = _
    rw [B_append, B_append]
    rfl
  · rw [B_size]; simp only [List.length_cons, List.length_append, List.length_nil]; omega
theorem e_rex (b : Int) (c : ByteArray) (l : List S38) (hc : c.size ≤ 1048576) : TE ⟨3, b, c, l⟩ (2 * c.size + 4) := by
  have hcl : c.data.toList.length ≤ 1048576 := by rw [← B_size, B_self]; exact hc
  have hcs : c.data.toList.length = c.size := by rw [← B_size, B_self]
  have he := escB_len isR c.data.toList
  have s1 : ∀ x : ByteArray, x.size ≤ 2 * c.size → (⟨#[40, 47]⟩ : ByteArray).size + x.size ≤ 9223372036854775807 := fun x h => by (try simp only [ByteArray.size_append, szc, szn, List.length_cons, List.length_nil]); omega
  have s2 : ∀ x : ByteArray, x.size ≤ 2 * c.size → ((⟨#[40, 47]⟩ : ByteArray) ++ x).size + (⟨#[47, 41]⟩ : ByteArray).size ≤ 9223372036854775807 := fun x h => by (try simp only [ByteArray.size_append, szc, szn, List.length_cons, List.length_nil]); omega
  refine TE_of (s := ((⟨#[40, 47]⟩ : ByteArray) ++ B (escB isR c.data.toList)) ++ (⟨#[47, 41]⟩ : ByteArray)) ?_ ?_ ?_
  · show impl_eText.fv 3 b c l = _
    have := repl_r c.data.toList hcl
    rw [B_self] at this
    rw [impl_eText.fv_eq, if_neg (by decide), if_neg (by decide), if_pos rfl, this, Option.bind_some, if_pos (s1 _ (by rw [B_size]; omega)), if_pos (s2 _ (by rw [B_size]; omega))]
  · show spec_l9E.fv 3 b c l = _
    have := back_r c.data.toList hcl
    rw [B_self] at this
    rw [spec_l9E.fv_eq, Option.bind_some, if_neg (by decide), if_neg (by decide), if_pos rfl, this, Option.bind_some, if_pos (s1 _ (by rw [B_size]; omega)), if_pos (s2 _ (by rw [B_size]; omega))]
  · simp only [ByteArray.size_append, szc, szn, List.length_cons, List.length_nil, B_size]; omega
theorem e_name (b : Int) (c : ByteArray) (l : List S38) : TE ⟨4, b, c, l⟩ c.size := by
  refine TE_of (s := c) ?_ ?_ (Nat.le_refl _)
  · show impl_eText.fv 4 b c l = _
    rw [impl_eText.fv_eq]; simp only [Int.reduceEq, ↓reduceIte]
  · show spec_l9E.fv 4 b c l = _
    rw [spec_l9E.fv_eq, Option.bind_some]; simp only [Int.reduceEq, ↓reduceIte]
theorem e_nr (b : Int) (c : ByteArray) (l : List S38) : TE ⟨7, b, c, l⟩ 2 := by
  refine TE_of (s := (⟨#[78, 82]⟩ : ByteArray)) ?_ ?_ (by decide)
  · show impl_eText.fv 7 b c l = _
    rw [impl_eText.fv_eq]; simp only [Int.reduceEq, ↓reduceIte]
  · show spec_l9E.fv 7 b c l = _
    rw [spec_l9E.fv_eq, Option.bind_some]; simp only [Int.reduceEq, ↓reduceIte]
theorem e_nf (b : Int) (c : ByteArray) (l : List S38) : TE ⟨8, b, c, l⟩ 2 := by
  refine TE_of (s := (⟨#[78, 70]⟩ : ByteArray)) ?_ ?_ (by decide)
  · show impl_eText.fv 8 b c l = _
    rw [impl_eText.fv_eq]; simp only [Int.reduceEq, ↓reduceIte]
  · show spec_l9E.fv 8 b c l = _
    rw [spec_l9E.fv_eq, Option.bind_some]; simp only [Int.reduceEq, ↓reduceIte]
theorem e_cell (b : Int) (c : ByteArray) (k : S38) (n : Nat) (hc : c.size ≤ 1048576) (hk : TE k n) (hn : n ≤ 1099511627776) : TE ⟨5, b, c, [k]⟩ (c.size + n + 2) := by
  have hz := hk.z
  refine TE_of (s := ((c ++ (⟨#[91]⟩ : ByteArray)) ++ tx k) ++ (⟨#[93]⟩ : ByteArray)) ?_ ?_ ?_
  · show impl_eText.fv 5 b c [k] = _
    rw [impl_eText.fv_eq]
    simp (disch := ((try simp only [ByteArray.size_append, szc, szn, List.length_cons, List.length_nil]); omega)) only [Int.reduceEq, ↓reduceIte, okS, ln0, rk0, hk.i, Option.bind_some]
  · show spec_l9E.fv 5 b c [k] = _
    rw [spec_l9E.fv_eq]
    simp (disch := ((try simp only [ByteArray.size_append, szc, szn, List.length_cons, List.length_nil]); omega)) only [Int.reduceEq, ↓reduceIte, okS, ln0, rk0, hk.s, Option.bind_some]
  · (try simp only [ByteArray.size_append, szc, szn, List.length_cons, List.length_nil]); omega
theorem e_field (b : Int) (c : ByteArray) (k : S38) (n : Nat) (hk : TE k n) (hn : n ≤ 1099511627776) : TE ⟨6, b, c, [k]⟩ (n + 3) := by
  have hz := hk.z
  by_cases hp : k.f0 = 1 ∨ k.f0 = 4 ∨ k.f0 = 6
  · refine TE_of (s := (⟨#[36]⟩ : ByteArray) ++ tx k) ?_ ?_ ?_
    · show impl_eText.fv 6 b c [k] = _
      rw [impl_eText.fv_eq]
      have hj : ∀ v : Bool, v = true → impl_eText.j1v v k.f0 k.f1 k.f2 k.f3 = some ((⟨#[36]⟩ : ByteArray) ++ tx k) := by
        intro v hv
        rw [impl_eText.j1v_eq, if_pos hv, hk.i, Option.bind_some, if_pos (by (try simp only [ByteArray.size_append, szc, szn, List.length_cons, List.length_nil]); omega)]
      simp only [Int.reduceEq, ↓reduceIte, ln0, rk0]
      by_cases h1 : k.f0 = 1
      · rw [if_pos h1]; exact hj _ (by first | rfl | simp [h1])
      · rw [if_neg h1]
        by_cases h4 : k.f0 = 4
        · rw [if_pos h4]; exact hj _ (by first | rfl | simp [h4])
        · rw [if_neg h4]; exact hj _ (beq_iff_eq.2 (by omega))
    · show spec_l9E.fv 6 b c [k] = _
      rw [spec_l9E.fv_eq]
      have hj : ∀ v : Bool, v = true → spec_l9Field.j1v v k.f0 k.f1 k.f2 k.f3 = some ((⟨#[36]⟩ : ByteArray) ++ tx k) := by
        intro v hv
        rw [spec_l9Field.j1v_eq, if_pos hv, hk.s, Option.bind_some, if_pos (by (try simp only [ByteArray.size_append, szc, szn, List.length_cons, List.length_nil]); omega)]
      have hf : spec_l9Field.fv k.f0 k.f1 k.f2 k.f3 = some ((⟨#[36]⟩ : ByteArray) ++ tx k) := by
        rw [spec_l9Field.fv_eq]
        by_cases h1 : k.f0 = 1
        · rw [if_pos h1]; exact hj _ (by first | rfl | simp [h1])
        · rw [if_neg h1]
          by_cases h4 : k.f0 = 4
          · rw [if_pos h4]; exact hj _ (by first | rfl | simp [h4])
          · rw [if_neg h4]; exact hj _ (beq_iff_eq.2 (by omega))
      simp only [Int.reduceEq, ↓reduceIte, ln0, rk0, hf, Option.bind_some]
    · (try simp only [ByteArray.size_append, szc, szn, List.length_cons, List.length_nil]); omega
  · have n1 : ¬ k.f0 = 1 := by omega
    have n4 : ¬ k.f0 = 4 := by omega
    have n6 : (k.f0 == 6) = false := beq_eq_false_iff_ne.2 (by omega)
    refine TE_of (s := ((⟨#[36, 40]⟩ : ByteArray) ++ tx k) ++ (⟨#[41]⟩ : ByteArray)) ?_ ?_ ?_
    · show impl_eText.fv 6 b c [k] = _
      rw [impl_eText.fv_eq]
      simp (disch := ((try simp only [ByteArray.size_append, szc, szn, List.length_cons, List.length_nil]); omega)) only [Int.reduceEq, ↓reduceIte, okS, ln0, rk0, if_neg n1, if_neg n4, n6, impl_eText.j1v_eq, impl_eText.j0v_eq, hk.i, Option.bind_some, Bool.false_eq_true]
    · show spec_l9E.fv 6 b c [k] = _
      rw [spec_l9E.fv_eq]
      simp (disch := ((try simp only [ByteArray.size_append, szc, szn, List.length_cons, List.length_nil]); omega)) only [Int.reduceEq, ↓reduceIte, okS, ln0, rk0, spec_l9Field.fv_eq, if_neg n1, if_neg n4, n6, spec_l9Field.j1v_eq, spec_l9Field.j0v_eq, hk.s, Option.bind_some, Bool.false_eq_true]
    · (try simp only [ByteArray.size_append, szc, szn, List.length_cons, List.length_nil]); omega
theorem e_not (b : Int) (c : ByteArray) (k : S38) (n : Nat) (hk : TE k n) (hn : n ≤ 1099511627776) : TE ⟨22, b, c, [k]⟩ (n + 3) := by
  have hz := hk.z
  refine TE_of (s := ((⟨#[40, 33]⟩ : ByteArray) ++ tx k) ++ (⟨#[41]⟩ : ByteArray)) ?_ ?_ ?_
  · show impl_eText.fv 22 b c [k] = _
    rw [impl_eText.fv_eq]
    simp (disch := ((try simp only [ByteArray.size_append, szc, szn, List.length_cons, List.length_nil]); omega)) only [Int.reduceEq, ↓reduceIte, okS, ln0, rk0, hk.i, Option.bind_some]
  · show spec_l9E.fv 22 b c [k] = _
    rw [spec_l9E.fv_eq]
    simp (disch := ((try simp only [ByteArray.size_append, szc, szn, List.length_cons, List.length_nil]); omega)) only [Int.reduceEq, ↓reduceIte, okS, ln0, rk0, hk.s, Option.bind_some]
  · (try simp only [ByteArray.size_append, szc, szn, List.length_cons, List.length_nil]); omega
theorem e_minus (b : Int) (c : ByteArray) (k : S38) (n : Nat) (hk : TE k n) (hn : n ≤ 1099511627776) : TE ⟨23, b, c, [k]⟩ (n + 3) := by
  have hz := hk.z
  refine TE_of (s := ((⟨#[40, 45]⟩ : ByteArray) ++ tx k) ++ (⟨#[41]⟩ : ByteArray)) ?_ ?_ ?_
  · show impl_eText.fv 23 b c [k] = _
    rw [impl_eText.fv_eq]
    simp (disch := ((try simp only [ByteArray.size_append, szc, szn, List.length_cons, List.length_nil]); omega)) only [Int.reduceEq, ↓reduceIte, okS, ln0, rk0, hk.i, Option.bind_some]
  · show spec_l9E.fv 23 b c [k] = _
    rw [spec_l9E.fv_eq]
    simp (disch := ((try simp only [ByteArray.size_append, szc, szn, List.length_cons, List.length_nil]); omega)) only [Int.reduceEq, ↓reduceIte, okS, ln0, rk0, hk.s, Option.bind_some]
  · (try simp only [ByteArray.size_append, szc, szn, List.length_cons, List.length_nil]); omega
theorem e_call (b : Int) (c : ByteArray) (l : List S38) (w : S38 → Nat) (hc : c.size ≤ 1048576) (hl : l.length ≤ 1048576) (hw : (l.map fun k => w k + 2).sum ≤ 137438953472) (h : ∀ k, k ∈ l → TE k (w k)) : TE ⟨28, b, c, l⟩ (c.size + (l.map fun k => w k + 2).sum + 2) := by
  obtain ⟨s, h1, h2, h3⟩ := list_both l w hl hw h
  refine TE_of (s := ((c ++ (⟨#[40]⟩ : ByteArray)) ++ s) ++ (⟨#[41]⟩ : ByteArray)) ?_ ?_ ?_
  · show impl_eText.fv 28 b c l = _
    rw [impl_eText.fv_eq]
    simp (disch := ((try simp only [ByteArray.size_append, szc, szn, List.length_cons, List.length_nil]); omega)) only [Int.reduceEq, ↓reduceIte, okS, h1, Option.bind_some]
  · show spec_l9E.fv 28 b c l = _
    rw [spec_l9E.fv_eq]
    simp (disch := ((try simp only [ByteArray.size_append, szc, szn, List.length_cons, List.length_nil]); omega)) only [Int.reduceEq, ↓reduceIte, okS, h2, Option.bind_some]
  · (try simp only [ByteArray.size_append, szc, szn, List.length_cons, List.length_nil]); omega
theorem sign_both (a b : Int) (c : ByteArray) (l : List S38) (h : two2 a) : ∃ g : ByteArray, impl_signOf.f a = some g ∧ g.size ≤ 4 ∧ spec_l9E.fv a b c l = spec_l9E.j0v g a b c l := by
  have hw : wrap64 (a - 9) = a - 9 := wrap_in (by unfold two2 at h; omega) (by unfold two2 at h; omega)
  rw [spec_l9E.fv_eq, Option.bind_some, hw]
  have hh : a = 9 ∨ a = 10 ∨ a = 11 ∨ a = 12 ∨ a = 13 ∨ a = 14 ∨ a = 15 ∨ a = 16 ∨ a = 17 ∨ a = 18 ∨ a = 19 ∨ a = 20 ∨ a = 21 ∨ a = 24 ∨ a = 25 ∨ a = 26 ∨ a = 27 := by unfold two2 at h; omega
  rcases hh with rfl | rfl | rfl | rfl | rfl | rfl | rfl | rfl | rfl | rfl | rfl | rfl | rfl | rfl | rfl | rfl | rfl <;> exact ⟨_, rfl, by decide, by first | rfl | simp [rdOf]⟩
theorem e_two (a b : Int) (c : ByteArray) (k m : S38) (n1 n2 : Nat) (ha : two2 a) (hk : TE k n1) (hm : TE m n2) (hn : n1 ≤ 1099511627776) (hn2 : n2 ≤ 1099511627776) : TE ⟨a, b, c, [k, m]⟩ (n1 + n2 + 6) := by
  have hz := hk.z
  have hz2 := hm.z
  obtain ⟨g, g1, g2, g3⟩ := sign_both a b c [k, m] ha
  have q : ¬ a = 1 ∧ ¬ a = 2 ∧ ¬ a = 3 ∧ ¬ a = 4 ∧ ¬ a = 5 ∧ ¬ a = 6 ∧ ¬ a = 7 ∧ ¬ a = 8 ∧ ¬ a = 22 ∧ ¬ a = 23 ∧ ¬ a = 28 := by unfold two2 at ha; omega
  obtain ⟨q1, q2, q3, q4, q5, q6, q7, q8, q22, q23, q28⟩ := q
  refine TE_of (s := ((((⟨#[40]⟩ : ByteArray) ++ tx k) ++ g) ++ tx m) ++ (⟨#[41]⟩ : ByteArray)) ?_ ?_ ?_
  · show impl_eText.fv a b c [k, m] = _
    rw [impl_eText.fv_eq, if_neg q1, if_neg q2, if_neg q3, if_neg q6, if_neg q7, if_neg q8, if_neg q4, if_neg q5, if_neg q28, if_neg q22, if_neg q23]
    simp (disch := ((try simp only [ByteArray.size_append, szc, szn, List.length_cons, List.length_nil]); omega)) only [↓reduceIte, okS, ln0, ln1, rk0, rk1, hk.i, hm.i, g1, Option.bind_some]
  · show spec_l9E.fv a b c [k, m] = _
    rw [g3, spec_l9E.j0v_eq]
    simp (disch := ((try simp only [ByteArray.size_append, szc, szn, List.length_cons, List.length_nil]); omega)) only [↓reduceIte, okS, ln0, ln1, rk0, rk1, hk.s, hm.s, Option.bind_some]
  · (try simp only [ByteArray.size_append, szc, szn, List.length_cons, List.length_nil]); omega

/-! ### statements, blocks -/
noncomputable def bt2 : List S38 → ByteArray
  | [] => ⟨#[]⟩
  | k :: r => (ty k ++ (⟨#[10]⟩ : ByteArray)) ++ bt2 r
theorem blk_i (l : List S38) (w : S38 → Nat) (hl : l.length ≤ 1048576) (h : ∀ k, k ∈ l → TS k (w k)) (d : Nat) : ∀ (i : Nat) (acc : ByteArray), l.length - i = d → i ≤ l.length → acc.size + ((l.drop i).map fun k => w k + 1).sum ≤ 1099511627776 →
    impl_blockText.l0v acc l (l.length : Int) (i : Int) = some ((acc ++ bt2 (l.drop i)) ++ (⟨#[125]⟩ : ByteArray)) := by
  induction d with
  | zero =>
    intro i acc h1 h2 h3
    rw [List.drop_of_length_le (by omega)] at h3
    rw [impl_blockText.l0v_eq, if_neg (by omega), if_pos (by (try simp only [szc, List.length_nil]); omega), List.drop_of_length_le (by omega), bt2, app_nil]
  | succ d ih =>
    intro i acc h1 h2 h3
    have hi : i < l.length := by omega
    have hk := h l[i] (List.getElem_mem hi)
    have hz := hk.z
    rw [List.drop_eq_getElem_cons hi, List.map_cons, List.sum_cons] at h3
    rw [impl_blockText.l0v_eq, if_pos (by omega), if_pos (by omega), if_pos (by omega), rd_in2 l i hi, hk.i, Option.bind_some,
      if_pos (by simp only [ByteArray.size_append, szc, List.length_nil]; omega), if_pos (by simp only [ByteArray.size_append, szc, List.length_nil]; omega), wrap_in (by omega) (by omega), show (i : Int) + 1 = ((i + 1 : Nat) : Int) by omega,
      ih (i + 1) _ (by omega) (by omega) (by simp only [ByteArray.size_append, szc, List.length_nil]; omega), List.drop_eq_getElem_cons hi, bt2]
    simp only [ByteArray.append_assoc]
theorem blk_s (l : List S38) (w : S38 → Nat) (a b : Int) (c : ByteArray) (hl : l.length ≤ 1048576) (h : ∀ k, k ∈ l → TS k (w k)) (d : Nat) : ∀ (i : Nat) (acc : ByteArray), l.length - i = d → i ≤ l.length → acc.size + ((l.drop i).map fun k => w k + 1).sum ≤ 1099511627776 →
    spec_l9Block.l0v acc (i : Int) a b c l = some ((acc ++ bt2 (l.drop i)) ++ (⟨#[125]⟩ : ByteArray)) := by
  induction d with
  | zero =>
    intro i acc h1 h2 h3
    rw [List.drop_of_length_le (by omega)] at h3
    rw [spec_l9Block.l0v_eq, if_neg (by omega), if_pos (by (try simp only [szc, List.length_nil]); omega), List.drop_of_length_le (by omega), bt2, app_nil]
  | succ d ih =>
    intro i acc h1 h2 h3
    have hi : i < l.length := by omega
    have hk := h l[i] (List.getElem_mem hi)
    have hz := hk.z
    rw [List.drop_eq_getElem_cons hi, List.map_cons, List.sum_cons] at h3
    rw [spec_l9Block.l0v_eq, if_pos (by omega), if_pos (by omega), rd_in2 l i hi, hk.s, Option.bind_some,
      if_pos (by omega), if_pos (by simp only [ByteArray.size_append, szc, List.length_nil]; omega), wrap_in (by omega) (by omega), show (i : Int) + 1 = ((i + 1 : Nat) : Int) by omega,
      ih (i + 1) _ (by omega) (by omega) (by simp only [ByteArray.size_append, szc, List.length_nil]; omega), List.drop_eq_getElem_cons hi, bt2]
    simp only [ByteArray.append_assoc]
theorem bt2_size (w : S38 → Nat) : ∀ l : List S38, (∀ k, k ∈ l → TS k (w k)) → (bt2 l).size ≤ (l.map fun k => w k + 1).sum
  | [], _ => Nat.zero_le _
  | k :: l, h => by
    have := bt2_size w l fun j hj => h j (List.mem_cons_of_mem _ hj)
    have hz := (h k (List.mem_cons_self ..)).z
    rw [bt2, List.map_cons, List.sum_cons]
    simp only [ByteArray.size_append, szc, List.length_nil]
    omega
theorem blk_both (a b : Int) (c : ByteArray) (l : List S38) (w : S38 → Nat) (hl : l.length ≤ 1048576) (hw : (l.map fun k => w k + 1).sum ≤ 137438953472) (h : ∀ k, k ∈ l → TS k (w k)) : TB ⟨a, b, c, l⟩ ((l.map fun k => w k + 1).sum + 3) := by
  have hs := bt2_size w l h
  have h1 := blk_i l w hl h l.length 0 (⟨#[123, 10]⟩ : ByteArray) (by omega) (by omega) (by rw [List.drop_zero]; (try simp only [szc, List.length_cons, List.length_nil]); omega)
  have h2 := blk_s l w a b c hl h l.length 0 (⟨#[123, 10]⟩ : ByteArray) (by omega) (by omega) (by rw [List.drop_zero]; (try simp only [szc, List.length_cons, List.length_nil]); omega)
  rw [List.drop_zero] at h1 h2
  refine TB_of (s := ((⟨#[123, 10]⟩ : ByteArray) ++ bt2 l) ++ (⟨#[125]⟩ : ByteArray)) ?_ ?_ ?_
  · show impl_blockText.fv a b c l = _
    rw [impl_blockText.fv_eq]; exact h1
  · show spec_l9Block.fv a b c l = _
    rw [spec_l9Block.fv_eq]; exact h2
  · simp only [ByteArray.size_append, szc, List.length_cons, List.length_nil]; omega
/-! statements, one by one -/
theorem s_next (b : Int) (c : ByteArray) (l : List S38) : TS ⟨33, b, c, l⟩ 5 := by
  refine TS_of (s := (⟨#[110, 101, 120, 116, 59]⟩ : ByteArray)) ?_ ?_ (by decide)
  · show impl_statementText.fv 33 b c l = _
    rw [impl_statementText.fv_eq]; simp only [Int.reduceEq, ↓reduceIte]
  · show spec_l9Stmt.fv 33 b c l = _
    rw [spec_l9Stmt.fv_eq]; simp only [Int.reduceEq, ↓reduceIte]
theorem s_block (b : Int) (c : ByteArray) (l : List S38) (n : Nat) (h : TB ⟨29, b, c, l⟩ n) : TS ⟨29, b, c, l⟩ n := by
  refine TS_of (s := tz ⟨29, b, c, l⟩) ?_ ?_ h.z
  · show impl_statementText.fv 29 b c l = _
    have := h.i
    rw [impl_statementText.fv_eq]; simp only [Int.reduceEq, ↓reduceIte]
    rw [show impl_blockText.fv 29 b c l = _ from this]; rfl
  · show spec_l9Stmt.fv 29 b c l = _
    have := h.s
    rw [spec_l9Stmt.fv_eq]; simp only [Int.reduceEq, ↓reduceIte]
    rw [show spec_l9Block.fv 29 b c l = _ from this]; rfl
theorem s_do (b : Int) (c : ByteArray) (k : S38) (n : Nat) (hk : TE k n) (hn : n ≤ 1099511627776) : TS ⟨35, b, c, [k]⟩ (n + 1) := by
  have hz := hk.z
  refine TS_of (s := tx k ++ (⟨#[59]⟩ : ByteArray)) ?_ ?_ ?_
  · show impl_statementText.fv 35 b c [k] = _
    rw [impl_statementText.fv_eq]
    simp (disch := ((try simp only [ByteArray.size_append, szc, szn, List.length_cons, List.length_nil]); omega)) only [Int.reduceEq, ↓reduceIte, okS, ln0, rk0, hk.i, Option.bind_some]
  · show spec_l9Stmt.fv 35 b c [k] = _
    rw [spec_l9Stmt.fv_eq]
    simp (disch := ((try simp only [ByteArray.size_append, szc, szn, List.length_cons, List.length_nil]); omega)) only [Int.reduceEq, ↓reduceIte, okS, ln0, rk0, hk.s, Option.bind_some]
  · simp only [ByteArray.size_append, szc, List.length_nil]; omega
theorem s_drop (b : Int) (c : ByteArray) (k : S38) (n : Nat) (hc : c.size ≤ 1048576) (hk : TE k n) (hn : n ≤ 1099511627776) : TS ⟨34, b, c, [k]⟩ (c.size + n + 10) := by
  have hz := hk.z
  refine TS_of (s := ((((⟨#[100, 101, 108, 101, 116, 101, 32]⟩ : ByteArray) ++ c) ++ (⟨#[91]⟩ : ByteArray)) ++ tx k) ++ (⟨#[93, 59]⟩ : ByteArray)) ?_ ?_ ?_
  · show impl_statementText.fv 34 b c [k] = _
    rw [impl_statementText.fv_eq]
    simp (disch := ((try simp only [ByteArray.size_append, szc, szn, List.length_cons, List.length_nil]); omega)) only [Int.reduceEq, ↓reduceIte, okS, ln0, rk0, hk.i, Option.bind_some]
  · show spec_l9Stmt.fv 34 b c [k] = _
    rw [spec_l9Stmt.fv_eq]
    simp (disch := ((try simp only [ByteArray.size_append, szc, szn, List.length_cons, List.length_nil]); omega)) only [Int.reduceEq, ↓reduceIte, okS, ln0, rk0, hk.s, Option.bind_some]
  · simp only [ByteArray.size_append, szc, List.length_cons, List.length_nil]; omega
theorem s_print (b : Int) (c : ByteArray) (l : List S38) (w : S38 → Nat) (hl : l.length ≤ 1048576) (hw : (l.map fun k => w k + 2).sum ≤ 137438953472) (h : ∀ k, k ∈ l → TE k (w k)) : TS ⟨30, b, c, l⟩ ((l.map fun k => w k + 2).sum + 7) := by
  obtain ⟨s, h1, h2, h3⟩ := list_both l w hl hw h
  by_cases h0 : (l.length : Int) = 0
  · refine TS_of (s := (⟨#[112, 114, 105, 110, 116, 59]⟩ : ByteArray)) ?_ ?_ ?_
    · show impl_statementText.fv 30 b c l = _
      rw [impl_statementText.fv_eq, if_pos rfl, if_pos h0]
    · show spec_l9Stmt.fv 30 b c l = _
      rw [spec_l9Stmt.fv_eq, if_pos rfl, if_pos h0]
    · simp only [szc, List.length_cons, List.length_nil]; omega
  · refine TS_of (s := ((⟨#[112, 114, 105, 110, 116, 32]⟩ : ByteArray) ++ s) ++ (⟨#[59]⟩ : ByteArray)) ?_ ?_ ?_
    · show impl_statementText.fv 30 b c l = _
      rw [impl_statementText.fv_eq, if_pos rfl, if_neg h0, h1, Option.bind_some]
      simp (disch := ((try simp only [ByteArray.size_append, szc, szn, List.length_cons, List.length_nil]); omega)) only [okS]
    · show spec_l9Stmt.fv 30 b c l = _
      rw [spec_l9Stmt.fv_eq, if_pos rfl, if_neg h0, h2, Option.bind_some]
      simp (disch := ((try simp only [ByteArray.size_append, szc, szn, List.length_cons, List.length_nil]); omega)) only [okS]
    · simp only [ByteArray.size_append, szc, List.length_cons, List.length_nil]; omega
theorem s_while (b : Int) (c : ByteArray) (k m : S38) (n1 n2 : Nat) (hk : TE k n1) (hm : TB m n2) (hn : n1 ≤ 1099511627776) (hn2 : n2 ≤ 1099511627776) : TS ⟨32, b, c, [k, m]⟩ (n1 + n2 + 9) := by
  have hz := hk.z
  have hz2 := hm.z
  refine TS_of (s := (((⟨#[119, 104, 105, 108, 101, 32, 40]⟩ : ByteArray) ++ tx k) ++ (⟨#[41, 32]⟩ : ByteArray)) ++ tz m) ?_ ?_ ?_
  · show impl_statementText.fv 32 b c [k, m] = _
    rw [impl_statementText.fv_eq]
    simp (disch := ((try simp only [ByteArray.size_append, szc, szn, List.length_cons, List.length_nil]); omega)) only [Int.reduceEq, ↓reduceIte, okS, ln0, ln1, rk0, rk1, hk.i, hm.i, Option.bind_some]
  · show spec_l9Stmt.fv 32 b c [k, m] = _
    rw [spec_l9Stmt.fv_eq]
    simp (disch := ((try simp only [ByteArray.size_append, szc, szn, List.length_cons, List.length_nil]); omega)) only [Int.reduceEq, ↓reduceIte, okS, ln0, ln1, rk0, rk1, hk.s, hm.s, Option.bind_some]
  · simp only [ByteArray.size_append, szc, List.length_cons, List.length_nil]; omega
theorem s_if2 (b : Int) (c : ByteArray) (k m : S38) (n1 n2 : Nat) (hk : TE k n1) (hm : TB m n2) (hn : n1 ≤ 1099511627776) (hn2 : n2 ≤ 1099511627776) : TS ⟨31, b, c, [k, m]⟩ (n1 + n2 + 6) := by
  have hz := hk.z
  have hz2 := hm.z
  have h3 : ((([k, m] : List S38).length : Int) = 3) = False := by simp
  refine TS_of (s := (((⟨#[105, 102, 32, 40]⟩ : ByteArray) ++ tx k) ++ (⟨#[41, 32]⟩ : ByteArray)) ++ tz m) ?_ ?_ ?_
  · show impl_statementText.fv 31 b c [k, m] = _
    rw [impl_statementText.fv_eq]
    simp (disch := ((try simp only [ByteArray.size_append, szc, szn, List.length_cons, List.length_nil]); omega)) only [Int.reduceEq, ↓reduceIte, okS, ln0, ln1, rk0, rk1, hk.i, hm.i, h3, impl_statementText.j0v_eq, Option.bind_some]
  · show spec_l9Stmt.fv 31 b c [k, m] = _
    rw [spec_l9Stmt.fv_eq]
    simp (disch := ((try simp only [ByteArray.size_append, szc, szn, List.length_cons, List.length_nil]); omega)) only [Int.reduceEq, ↓reduceIte, okS, ln0, ln1, rk0, rk1, hk.s, hm.s, h3, spec_l9Stmt.j0v_eq, Option.bind_some]
  · simp only [ByteArray.size_append, szc, List.length_cons, List.length_nil]; omega
theorem s_if3 (b : Int) (c : ByteArray) (k m j : S38) (n1 n2 n3 : Nat) (hk : TE k n1) (hm : TB m n2) (hj : TB j n3) (hn : n1 ≤ 1099511627776) (hn2 : n2 ≤ 1099511627776) (hn3 : n3 ≤ 1099511627776) : TS ⟨31, b, c, [k, m, j]⟩ (n1 + n2 + n3 + 12) := by
  have hz := hk.z
  have hz2 := hm.z
  have hz3 := hj.z
  have h3 : ((([k, m, j] : List S38).length : Int) = 3) = True := by simp
  refine TS_of (s := ((((⟨#[105, 102, 32, 40]⟩ : ByteArray) ++ tx k) ++ (⟨#[41, 32]⟩ : ByteArray)) ++ tz m) ++ ((⟨#[32, 101, 108, 115, 101, 32]⟩ : ByteArray) ++ tz j)) ?_ ?_ ?_
  · show impl_statementText.fv 31 b c [k, m, j] = _
    rw [impl_statementText.fv_eq]
    simp (disch := ((try simp only [ByteArray.size_append, szc, szn, List.length_cons, List.length_nil]); omega)) only [Int.reduceEq, ↓reduceIte, okS, ln0, ln1, ln2, rk0, rk1, rk2, hk.i, hm.i, hj.i, h3, impl_statementText.j0v_eq, Option.bind_some]
  · show spec_l9Stmt.fv 31 b c [k, m, j] = _
    rw [spec_l9Stmt.fv_eq]
    simp (disch := ((try simp only [ByteArray.size_append, szc, szn, List.length_cons, List.length_nil]); omega)) only [Int.reduceEq, ↓reduceIte, okS, ln0, ln1, ln2, rk0, rk1, rk2, hk.s, hm.s, hj.s, h3, spec_l9Stmt.j0v_eq, Option.bind_some]
    simp only [ByteArray.append_assoc]
  · simp only [ByteArray.size_append, szc, List.length_cons, List.length_nil]; omega
/-! ### a tidy node's text -/
def bk (x : S38) : Nat := x.f2.size + x.f3.length + (x.f3.attach.map (fun k => bk k.1)).sum
termination_by SizeOf.sizeOf x
decreasing_by
  have h := k.2
  cases x with
  | mk a b c l =>
    have h2 : SizeOf.sizeOf k.1 < SizeOf.sizeOf l := List.sizeOf_lt_of_mem h
    simp only [S38.mk.sizeOf_spec]
    omega
theorem bk_eq (x : S38) : bk x = x.f2.size + x.f3.length + (x.f3.map bk).sum := by
  rw [bk, List.attach_map_val (f := bk)]
theorem bk_conv (d : Nat) : ∀ x : S32, bulk x ≤ d → bk (conv x) = bulk x := by
  induction d with
  | zero =>
    intro x h
    have hb := bulk_eq x
    have h3 : x.f3 = [] := List.length_eq_zero_iff.1 (by omega)
    rw [conv_eq, bk_eq, bulk_eq, h3]; rfl
  | succ d ih =>
    intro x h
    rw [conv_eq, bk_eq, bulk_eq]
    have hk : ∀ l : List S32, (∀ k, k ∈ l → k ∈ x.f3) → ((l.map conv).map bk).sum = (l.map bulk).sum := by
      intro l
      induction l with
      | nil => intro _; rfl
      | cons k l ihl =>
        intro hm
        have h1 := ihl fun j hj => hm j (List.mem_cons_of_mem _ hj)
        have hkb := bulk_kid (hm k (List.mem_cons_self ..))
        have hpos : 1 ≤ x.f3.length := List.length_pos_of_mem (hm k (List.mem_cons_self ..))
        simp only [List.map_cons, List.sum_cons, ih k (by omega), h1]
    simp only [List.length_map, hk x.f3 fun k h => h]
theorem len2 {α : Type} {l : List α} (h : l.length = 2) : ∃ a b, l = [a, b] := by
  match l, h with
  | [a, b], _ => exact ⟨a, b, rfl⟩
theorem len3 {α : Type} {l : List α} (h : l.length = 3) : ∃ a b c, l = [a, b, c] := by
  match l, h with
  | [a, b, c], _ => exact ⟨a, b, c, rfl⟩
structure Txt (x : S38) : Prop where
  e : eop x = true → TE x (60 * bk x + 50)
  s : sop x = true → TS x (60 * bk x + 55)
  b : bop x = true → TB x (60 * bk x + 50)
theorem TE.mono {k : S38} {n m : Nat} (h : TE k n) (hm : n ≤ m) : TE k m := ⟨h.i, h.s, Nat.le_trans h.z hm⟩
theorem TS.mono {k : S38} {n m : Nat} (h : TS k n) (hm : n ≤ m) : TS k m := ⟨h.i, h.s, Nat.le_trans h.z hm⟩
theorem TB.mono {k : S38} {n m : Nat} (h : TB k n) (hm : n ≤ m) : TB k m := ⟨h.i, h.s, Nat.le_trans h.z hm⟩
theorem sum_lin (c d : Nat) : ∀ l : List S38, (l.map fun k => 60 * bk k + c + d).sum = 60 * (l.map bk).sum + (c + d) * l.length
  | [] => by simp
  | k :: l => by
    have := sum_lin c d l
    simp only [List.map_cons, List.sum_cons, List.length_cons, Nat.mul_add, Nat.mul_one]
    omega
theorem allE_mem {l : List S38} (h : allE l = true) (k : S38) (hk : k ∈ l) : nb k = true ∧ eop k = true := by
  have := List.all_eq_true.1 h k hk
  rwa [Bool.and_eq_true] at this
theorem allS_mem {l : List S38} (h : allS l = true) (k : S38) (hk : k ∈ l) : nb k = true ∧ sop k = true := by
  have := List.all_eq_true.1 h k hk
  rwa [Bool.and_eq_true] at this
theorem allB_mem {l : List S38} (h : allB l = true) (k : S38) (hk : k ∈ l) : nb k = true ∧ bop k = true := by
  have := List.all_eq_true.1 h k hk
  rwa [Bool.and_eq_true] at this
theorem txt_step (a b : Int) (c : ByteArray) (l : List S38) (hb : bk ⟨a, b, c, l⟩ ≤ 1048576) (hq : KQ a l) (ih : ∀ k, k ∈ l → nb k = true → Txt k) : Txt ⟨a, b, c, l⟩ := by
  have hs : bk ⟨a, b, c, l⟩ = c.size + l.length + (l.map bk).sum := bk_eq _
  have hB : bop ⟨a, b, c, l⟩ = true → TB ⟨a, b, c, l⟩ (60 * bk ⟨a, b, c, l⟩ + 50) := by
    intro ho
    have ha : a = 29 := of_decide_eq_true ho
    have hA := hq.blk ha
    have h1 := blk_both a b c l (fun k => 60 * bk k + 55) (by omega) (by rw [sum_lin]; omega) (fun k hk => (ih k hk (allS_mem hA k hk).1).s (allS_mem hA k hk).2)
    exact h1.mono (by rw [sum_lin]; omega)
  refine ⟨fun ho => ?_, fun ho => ?_, hB⟩
  · have ha : 1 ≤ a ∧ a ≤ 28 := of_decide_eq_true ho
    by_cases c1 : a = 1
    · subst c1; exact (e_num b c l).mono (by omega)
    by_cases c2 : a = 2
    · subst c2; exact (e_text b c l (by omega)).mono (by omega)
    by_cases c3 : a = 3
    · subst c3; exact (e_rex b c l (by omega)).mono (by omega)
    by_cases c4 : a = 4
    · subst c4; exact (e_name b c l).mono (by omega)
    by_cases c7 : a = 7
    · subst c7; exact (e_nr b c l).mono (by omega)
    by_cases c8 : a = 8
    · subst c8; exact (e_nf b c l).mono (by omega)
    by_cases c28 : a = 28
    · subst c28
      have hA := hq.all (.inl rfl)
      exact (e_call b c l (fun k => 60 * bk k + 50) (by omega) (by omega) (by rw [sum_lin]; omega) (fun k hk => (ih k hk (allE_mem hA k hk).1).e (allE_mem hA k hk).2)).mono (by rw [sum_lin]; omega)
    by_cases ct : two2 a
    · obtain ⟨h2, hA⟩ := hq.two ct
      obtain ⟨k, m, rfl⟩ := len2 h2
      have hk := (ih k (by simp) (allE_mem hA k (by simp)).1).e (allE_mem hA k (by simp)).2
      have hm := (ih m (by simp) (allE_mem hA m (by simp)).1).e (allE_mem hA m (by simp)).2
      simp only [List.map_cons, List.map_nil, List.sum_cons, List.sum_nil, List.length_cons, List.length_nil] at hs
      exact (e_two a b c k m _ _ ct hk hm (by omega) (by omega)).mono (by omega)
    have co : a = 5 ∨ a = 6 ∨ a = 22 ∨ a = 23 := by unfold two2 at ct; omega
    obtain ⟨h1, hA⟩ := hq.one (by unfold one6; omega)
    obtain ⟨k, rfl⟩ := List.length_eq_one_iff.1 h1
    have hk := (ih k (by simp) (allE_mem hA k (by simp)).1).e (allE_mem hA k (by simp)).2
    simp only [List.map_cons, List.map_nil, List.sum_cons, List.sum_nil, List.length_cons, List.length_nil] at hs
    rcases co with rfl | rfl | rfl | rfl
    · exact (e_cell b c k _ (by omega) hk (by omega)).mono (by omega)
    · exact (e_field b c k _ hk (by omega)).mono (by omega)
    · exact (e_not b c k _ hk (by omega)).mono (by omega)
    · exact (e_minus b c k _ hk (by omega)).mono (by omega)
  · have ha : 29 ≤ a ∧ a ≤ 35 := of_decide_eq_true ho
    by_cases c29 : a = 29
    · subst c29; exact (s_block b c l _ (hB rfl)).mono (by omega)
    by_cases c33 : a = 33
    · subst c33; exact (s_next b c l).mono (by omega)
    by_cases c30 : a = 30
    · subst c30
      have hA := hq.all (.inr rfl)
      exact (s_print b c l (fun k => 60 * bk k + 50) (by omega) (by rw [sum_lin]; omega) (fun k hk => (ih k hk (allE_mem hA k hk).1).e (allE_mem hA k hk).2)).mono (by rw [sum_lin]; omega)
    by_cases c32 : a = 32
    · subst c32
      obtain ⟨h2, hA, hA2⟩ := hq.loop rfl
      obtain ⟨k, m, rfl⟩ := len2 h2
      have q1 := allE_mem hA k (by simp)
      have q2 := allB_mem hA2 m (by simp)
      have hk := (ih k (by simp) q1.1).e q1.2
      have hm := (ih m (by simp) q2.1).b q2.2
      simp only [List.map_cons, List.map_nil, List.sum_cons, List.sum_nil, List.length_cons, List.length_nil] at hs
      exact (s_while b c k m _ _ hk hm (by omega) (by omega)).mono (by omega)
    by_cases c31 : a = 31
    · subst c31
      obtain ⟨h2, h3, hA, hA2⟩ := hq.cond rfl
      have hl : l.length = 2 ∨ l.length = 3 := by omega
      rcases hl with h2 | h2
      · obtain ⟨k, m, rfl⟩ := len2 h2
        have q1 := allE_mem hA k (by simp)
        have q2 := allB_mem hA2 m (by simp)
        have hk := (ih k (by simp) q1.1).e q1.2
        have hm := (ih m (by simp) q2.1).b q2.2
        simp only [List.map_cons, List.map_nil, List.sum_cons, List.sum_nil, List.length_cons, List.length_nil] at hs
        exact (s_if2 b c k m _ _ hk hm (by omega) (by omega)).mono (by omega)
      · obtain ⟨k, m, j, rfl⟩ := len3 h2
        have q1 := allE_mem hA k (by simp)
        have q2 := allB_mem hA2 m (by simp)
        have q3 := allB_mem hA2 j (by simp)
        have hk := (ih k (by simp) q1.1).e q1.2
        have hm := (ih m (by simp) q2.1).b q2.2
        have hj := (ih j (by simp) q3.1).b q3.2
        simp only [List.map_cons, List.map_nil, List.sum_cons, List.sum_nil, List.length_cons, List.length_nil] at hs
        exact (s_if3 b c k m j _ _ _ hk hm hj (by omega) (by omega) (by omega)).mono (by omega)
    have co : a = 34 ∨ a = 35 := by omega
    obtain ⟨h1, hA⟩ := hq.one (by unfold one6; omega)
    obtain ⟨k, rfl⟩ := List.length_eq_one_iff.1 h1
    have hk := (ih k (by simp) (allE_mem hA k (by simp)).1).e (allE_mem hA k (by simp)).2
    simp only [List.map_cons, List.map_nil, List.sum_cons, List.sum_nil, List.length_cons, List.length_nil] at hs
    rcases co with rfl | rfl
    · exact (s_drop b c k _ (by omega) hk (by omega)).mono (by omega)
    · exact (s_do b c k _ hk (by omega)).mono (by omega)
theorem txt (d : Nat) : ∀ x : S32, Wf32 x → bulk x ≤ d → d ≤ 1048576 → nb (conv x) = true → Txt (conv x) := by
  induction d with
  | zero =>
    intro x hx hb hd hn
    have hk := bulk_eq x
    have h3 : x.f3 = [] := List.length_eq_zero_iff.1 (by omega)
    have hs := (good x hx (by omega)).sp
    rw [hn] at hs
    have hz := bk_conv 0 x hb
    have hk2 : (conv x).f3 = [] := by rw [conv_eq, h3]; rfl
    have hq := kids_full _ _ _ _ (by rw [hk2]; simp) (by rw [hk2]; intro k hk; cases hk) (kids_of _ hs)
    have := txt_step (conv x).f0 (conv x).f1 (conv x).f2 (conv x).f3 (by rw [eta2]; omega) hq (by rw [hk2]; intro k hk; cases hk)
    rwa [eta2] at this
  | succ d ih =>
    intro x hx hb hd hn
    have hk := bulk_eq x
    have hs := (good x hx (by omega)).sp
    rw [hn] at hs
    have hz := bk_conv _ x hb
    have hk2 : (conv x).f3 = x.f3.map conv := by rw [conv_eq]
    have hwf : ∀ y, y ∈ x.f3 → Wf32 y := by cases hx with | mk _ _ _ _ _ g => exact g
    have hq := kids_full _ _ _ _ (by rw [hk2, List.length_map]; omega) (by
      rw [hk2]; intro k hk
      obtain ⟨y, hy, e⟩ := List.mem_map.1 hk
      have := bulk_kid hy
      subst e
      exact good y (hwf y hy) (by omega)) (kids_of _ hs)
    have := txt_step (conv x).f0 (conv x).f1 (conv x).f2 (conv x).f3 (by rw [eta2]; omega) hq (by
      rw [hk2]; intro k hk hkn
      obtain ⟨y, hy, e⟩ := List.mem_map.1 hk
      have hb2 := bulk_kid hy
      have hp : 1 ≤ x.f3.length := List.length_pos_of_mem hy
      subst e
      exact ih y (hwf y hy) (by omega) (by omega) hkn)
    rwa [eta2] at this

/-! ### tidy rules -/
/-- What a tidy rule's trees are. -/
structure RuleOk (x : S34) : Prop where
  pat : x.f0 = 3 → nb (conv (whn x)) = true ∧ eop (conv (whn x)) = true
  body : nb (conv (thn x)) = true ∧ bop (conv (thn x)) = true
theorem rule_ok (x : S34) (hx : Wf34 x) (hb : bl_Rule x ≤ 1048576) (h : impl_Tidy_1.fv (cv_Rule x).f0 (cv_Rule x).f1 (cv_Rule x).f2 (cv_Rule x).f3 (cv_Rule x).f4 (cv_Rule x).f5 (cv_Rule x).f6 (cv_Rule x).f7 (cv_Rule x).f8 = some false) : RuleOk x := by
  unfold bl_Rule at hb
  have g1 := good (whn x) (wf1 x hx) (by omega)
  have g2 := good (thn x) (wf2 x hx) (by omega)
  obtain ⟨t1, a1, a2, a3, a4⟩ := deep_node (whn x) (wf1 x hx) (by omega)
  obtain ⟨t2, b1, b2, b3, b4⟩ := deep_node (thn x) (wf2 x hx) (by omega)
  have h : impl_Tidy_1.fv x.f0 (conv (whn x)).f0 (conv (whn x)).f1 (conv (whn x)).f2 (conv (whn x)).f3 (conv (thn x)).f0 (conv (thn x)).f1 (conv (thn x)).f2 (conv (thn x)).f3 = some false := h
  have gg : ∀ p q : S38, conv (whn x) = p → conv (thn x) = q → (x.f0 = 3 → nb p = true ∧ eop p = true) ∧ (nb q = true ∧ bop q = true) := by
    intro p q hp hq
    rw [hp] at h g1 a4
    rw [hq] at h g2 b4
    rw [impl_Tidy_1.fv_eq, a4, Option.bind_some, b4, g2.b] at h
    simp only [Option.bind_some, impl_Tidy_1.j0v_eq, impl_Tidy_1.j1v_eq, g1.e] at h
    by_cases c1 : t1 > 16
    · simp [c1] at h
    · rw [if_neg c1] at h
      by_cases c2 : t2 > 16
      · simp [c2] at h
      · rw [if_neg c2] at h
        cases hq2 : nb q
        · simp [hq2] at h
        · cases hq3 : bop q
          · simp [hq3] at h
          · rw [hq2, hq3] at h
            refine ⟨fun k3 => ?_, rfl, rfl⟩
            simp only [Bool.and_self, Bool.not_true, Bool.false_eq_true, ↓reduceIte] at h
            rw [if_neg (by omega)] at h
            have e2 : (x.f0 == 2) = false := beq_eq_false_iff_ne.2 (by omega)
            rw [e2, if_neg (by simp), if_pos k3] at h
            cases p1 : nb p <;> cases p2 : eop p <;> rw [p1, p2] at h <;> first | exact ⟨rfl, rfl⟩ | cases h
  obtain ⟨r1, r2⟩ := gg _ _ rfl rfl
  exact ⟨r1, r2⟩
theorem no_fault (x : List S34) (hx : ∀ x_ ∈ x, Wf34 x_) (hb : bls_Rule x ≤ 1048576) (t : Int) (ht : ¬ t ≥ 0) (d : Nat) : ∀ i : Nat, x.length - i = d → i ≤ x.length →
    slices_IndexFunc_impl_Rule_impl_Rule__impl_Tidy_1.l0v (x.map cv_Rule) ((x.map cv_Rule).length : Int) (i : Int) = some t →
    ∀ (j : Nat) (hj : j < x.length), i ≤ j → impl_Tidy_1.fv (cv_Rule x[j]).f0 (cv_Rule x[j]).f1 (cv_Rule x[j]).f2 (cv_Rule x[j]).f3 (cv_Rule x[j]).f4 (cv_Rule x[j]).f5 (cv_Rule x[j]).f6 (cv_Rule x[j]).f7 (cv_Rule x[j]).f8 = some false := by
  have hb' := hb
  unfold bls_Rule at hb'
  have hlen : (x.map cv_Rule).length = x.length := List.length_map _
  induction d with
  | zero => intro i h1 h2 _ j hj h; omega
  | succ d ih =>
    intro i h1 h2 he j hj hij
    have hi : i < x.length := by omega
    have hm := Go.Proofs.YthgglepiopijjaaGreatDoorW.Bulk.le_sum (List.mem_map_of_mem (f := bl_Rule) (List.getElem_mem hi))
    obtain ⟨b, e1, _⟩ := rule_both x[i] (hx _ (List.getElem_mem hi)) (by omega)
    rw [slices_IndexFunc_impl_Rule_impl_Rule__impl_Tidy_1.l0v_eq, if_pos (by omega), if_pos (by omega), if_pos (by omega), rdrule2 _ i (by omega), List.getElem_map, e1, Option.bind_some, wrap_in (by omega) (by omega), show (i : Int) + 1 = ((i + 1 : Nat) : Int) by omega] at he
    cases b
    · rw [if_pos (show (!false) = true from rfl)] at he
      have := Option.some.inj he
      omega
    · rw [if_neg (by simp)] at he
      by_cases hje : j = i
      · subst hje; exact e1
      · exact ih (i + 1) (by omega) (by omega) he j hj (by omega)
theorem tidy_ok (x : List S34) (hx : ∀ x_ ∈ x, Wf34 x_) (hb : bls_Rule x ≤ 1048576) (h : impl_Tidy.fv (x.map cv_Rule) = some true) : ∀ y, y ∈ x → RuleOk y := by
  have hb' := hb
  unfold bls_Rule at hb'
  obtain ⟨b, t, _, e2, e3⟩ := tidy_loop x hx hb x.length 0 (by omega) (by omega)
  have e2' : slices_IndexFunc_impl_Rule_impl_Rule__impl_Tidy_1.l0v (x.map cv_Rule) ((x.map cv_Rule).length : Int) 0 = some t := e2
  rw [impl_Tidy.fv_eq, slices_ContainsFunc_impl_Rule_impl_Rule__impl_Tidy_1.fv_eq, slices_IndexFunc_impl_Rule_impl_Rule__impl_Tidy_1.fv_eq, e2', Option.bind_some, Option.bind_some] at h
  have ht : ¬ t ≥ 0 := by
    intro k
    rw [decide_eq_true k] at h; cases h
  intro y hy
  obtain ⟨j, hj, ej⟩ := List.mem_iff_getElem.1 hy
  have hm2 := Go.Proofs.YthgglepiopijjaaGreatDoorW.Bulk.le_sum (List.mem_map_of_mem (f := bl_Rule) hy)
  have hf := no_fault x hx hb t ht x.length 0 (by omega) (by omega) e2 j hj (by omega)
  rw [ej] at hf
  exact rule_ok y (hx y hy) (by omega) hf
/-! ### rules, one behind the other -/
noncomputable def rt (y : S40) : ByteArray := (if y.f0 = 1 then (⟨#[66, 69, 71, 73, 78, 32]⟩ : ByteArray) else if y.f0 = 3 then tx ⟨y.f1, y.f2, y.f3, y.f4⟩ ++ (⟨#[32]⟩ : ByteArray) else (⟨#[]⟩ : ByteArray)) ++ (tz ⟨y.f5, y.f6, y.f7, y.f8⟩ ++ (⟨#[10]⟩ : ByteArray))
noncomputable def rts : List S40 → ByteArray
  | [] => ⟨#[]⟩
  | y :: r => rt y ++ rts r
structure RT (y : S40) (n : Nat) : Prop where
  p : y.f0 = 3 → TE ⟨y.f1, y.f2, y.f3, y.f4⟩ n
  b : TB ⟨y.f5, y.f6, y.f7, y.f8⟩ n
theorem rule_text (x : S34) (hx : Wf34 x) (hb : bl_Rule x ≤ 1048576) (h : RuleOk x) : RT (cv_Rule x) (60 * 1048576 + 50) := by
  unfold bl_Rule at hb
  have z1 := bk_conv _ (whn x) (Nat.le_refl _)
  have z2 := bk_conv _ (thn x) (Nat.le_refl _)
  refine ⟨fun k3 => ?_, ?_⟩
  · have q := h.pat k3
    have t : TE (conv (whn x)) (60 * 1048576 + 50) := TE.mono ((txt (bulk (whn x)) (whn x) (wf1 x hx) (Nat.le_refl _) (by omega) q.1).e q.2) (by omega)
    rw [show (⟨(cv_Rule x).f1, (cv_Rule x).f2, (cv_Rule x).f3, (cv_Rule x).f4⟩ : S38) = conv (whn x) from eta2 _]
    exact t
  · have q := h.body
    have t : TB (conv (thn x)) (60 * 1048576 + 50) := TB.mono ((txt (bulk (thn x)) (thn x) (wf2 x hx) (Nat.le_refl _) (by omega) q.1).b q.2) (by omega)
    rw [show (⟨(cv_Rule x).f5, (cv_Rule x).f6, (cv_Rule x).f7, (cv_Rule x).f8⟩ : S38) = conv (thn x) from eta2 _]
    exact t
theorem rules_i (l : List S40) (hl : l.length ≤ 1048576) (h : ∀ y, y ∈ l → RT y 62914610) (d : Nat) : ∀ (i : Nat) (acc : ByteArray), l.length - i = d → i ≤ l.length → acc.size ≤ 200000000 * i →
    impl_Write.l0v acc l (l.length : Int) (i : Int) = some (acc ++ rts (l.drop i)) := by
  induction d with
  | zero =>
    intro i acc h1 h2 h3
    rw [impl_Write.l0v_eq, if_neg (by omega), List.drop_of_length_le (by omega), rts, app_nil]
  | succ d ih =>
    intro i acc h1 h2 h3
    have hi : i < l.length := by omega
    have hk := h l[i] (List.getElem_mem hi)
    have hz := hk.b.z
    have hbi := hk.b.i
    have hj : ∀ (a2 : ByteArray), a2.size ≤ 200000000 * i + 70000000 → impl_Write.j0v a2 l (l.length : Int) (i : Int) l[i].f0 l[i].f1 l[i].f2 l[i].f3 l[i].f4 l[i].f5 l[i].f6 l[i].f7 l[i].f8 = some ((a2 ++ (tz ⟨l[i].f5, l[i].f6, l[i].f7, l[i].f8⟩ ++ (⟨#[10]⟩ : ByteArray))) ++ rts (l.drop (i + 1))) := by
      intro a2 ha
      rw [impl_Write.j0v_eq, show impl_blockText.fv l[i].f5 l[i].f6 l[i].f7 l[i].f8 = _ from hbi, Option.bind_some, if_pos (by simp only [szc, List.length_nil]; omega), if_pos (by simp only [ByteArray.size_append, szc, List.length_nil]; omega), wrap_in (by omega) (by omega), show (i : Int) + 1 = ((i + 1 : Nat) : Int) by omega,
        ih (i + 1) _ (by omega) (by omega) (by simp only [ByteArray.size_append, szc, List.length_nil]; omega)]
    rw [impl_Write.l0v_eq, if_pos (by omega), if_pos (by omega), if_pos (by omega), rdrule2 l i hi, List.drop_eq_getElem_cons hi, rts, rt]
    by_cases k1 : l[i].f0 = 1
    · rw [if_pos k1, if_pos (by simp only [szc, List.length_cons, List.length_nil]; omega), hj _ (by simp only [ByteArray.size_append, szc, List.length_cons, List.length_nil]; omega), if_pos k1]
      simp only [ByteArray.append_assoc]
    · rw [if_neg k1, if_neg k1]
      by_cases k3 : l[i].f0 = 3
      · have hp := hk.p k3
        have hpz := hp.z
        rw [if_pos k3, if_pos k3, show impl_eText.fv l[i].f1 l[i].f2 l[i].f3 l[i].f4 = _ from hp.i, Option.bind_some, if_pos (by simp only [szc, List.length_nil]; omega), if_pos (by simp only [ByteArray.size_append, szc, List.length_nil]; omega), hj _ (by simp only [ByteArray.size_append, szc, List.length_nil]; omega)]
        simp only [ByteArray.append_assoc]
      · rw [if_neg k3, if_neg k3, hj _ (by omega), nil_app]
        simp only [ByteArray.append_assoc]
theorem rules_s (l : List S40) (hl : l.length ≤ 1048576) (ht : spec_Tidy.fv l = some true) (h : ∀ y, y ∈ l → RT y 62914610) (d : Nat) : ∀ (i : Nat) (acc : ByteArray), l.length - i = d → i ≤ l.length → acc.size ≤ 200000000 * i →
    spec_Write.l0v l acc (i : Int) = some (acc ++ rts (l.drop i)) := by
  induction d with
  | zero =>
    intro i acc h1 h2 h3
    rw [spec_Write.l0v_eq, if_neg (by omega), spec_Write.j1v_eq, if_neg (by simp), List.drop_of_length_le (by omega), rts, app_nil]
  | succ d ih =>
    intro i acc h1 h2 h3
    have hi : i < l.length := by omega
    have hk := h l[i] (List.getElem_mem hi)
    have hz := hk.b.z
    have hbs := hk.b.s
    have hj : ∀ (a2 : ByteArray), a2.size ≤ 200000000 * i + 70000000 → spec_Write.j2v l a2 (i : Int) l[i].f0 l[i].f1 l[i].f2 l[i].f3 l[i].f4 l[i].f5 l[i].f6 l[i].f7 l[i].f8 = some ((a2 ++ (tz ⟨l[i].f5, l[i].f6, l[i].f7, l[i].f8⟩ ++ (⟨#[10]⟩ : ByteArray))) ++ rts (l.drop (i + 1))) := by
      intro a2 ha
      rw [spec_Write.j2v_eq, show spec_l9Block.fv l[i].f5 l[i].f6 l[i].f7 l[i].f8 = _ from hbs, Option.bind_some, if_pos (by omega), if_pos (by simp only [ByteArray.size_append, szc, List.length_nil]; omega), wrap_in (by omega) (by omega), show (i : Int) + 1 = ((i + 1 : Nat) : Int) by omega,
        ih (i + 1) _ (by omega) (by omega) (by simp only [ByteArray.size_append, szc, List.length_nil]; omega)]
      simp only [ByteArray.append_assoc]
    rw [spec_Write.l0v_eq, if_pos (by omega), ht, Option.bind_some, spec_Write.j1v_eq, if_pos rfl, spec_Write.j0v_eq, if_pos (by omega), if_pos (by omega), rdrule2 l i hi, List.drop_eq_getElem_cons hi, rts, rt]
    by_cases k1 : l[i].f0 = 1
    · rw [if_pos k1, if_pos (by simp only [szc, List.length_cons, List.length_nil]; omega), hj _ (by simp only [ByteArray.size_append, szc, List.length_cons, List.length_nil]; omega), if_pos k1]
      simp only [ByteArray.append_assoc]
    · rw [if_neg k1, if_neg k1]
      by_cases k3 : l[i].f0 = 3
      · have hp := hk.p k3
        have hpz := hp.z
        rw [if_pos k3, if_pos k3, show spec_l9E.fv l[i].f1 l[i].f2 l[i].f3 l[i].f4 = _ from hp.s, Option.bind_some, if_pos (by omega), if_pos (by simp only [ByteArray.size_append, szc, List.length_nil]; omega), hj _ (by simp only [ByteArray.size_append, szc, List.length_nil]; omega)]
        simp only [ByteArray.append_assoc]
      · rw [if_neg k3, if_neg k3, hj _ (by omega), nil_app]
        simp only [ByteArray.append_assoc]
theorem write_both (x : List S34) (hx : ∀ x_ ∈ x, Wf34 x_) (hb : bls_Rule x ≤ 1048576) : ∃ s, spec_Write.fv (x.map cv_Rule) = some s ∧ impl_Write.fv (x.map cv_Rule) = some s := by
  have hb' := hb
  unfold bls_Rule at hb'
  have hlen : (x.map cv_Rule).length = x.length := List.length_map _
  obtain ⟨b, e1, e2⟩ := tidy_both x hx hb
  rw [spec_Write.fv_eq, impl_Write.fv_eq, e2, Option.bind_some]
  cases b
  · refine ⟨⟨#[]⟩, ?_, by rw [if_neg (by simp)]⟩
    rw [spec_Write.l0v_eq, e1, Option.bind_some]
    simp only [spec_Write.j1v_eq]
    split <;> simp
  · have hr := tidy_ok x hx hb e2
    have hR : ∀ y, y ∈ x.map cv_Rule → RT y 62914610 := by
      intro y hy
      obtain ⟨z, hz, e⟩ := List.mem_map.1 hy
      have hm := Go.Proofs.YthgglepiopijjaaGreatDoorW.Bulk.le_sum (List.mem_map_of_mem (f := bl_Rule) hz)
      subst e
      exact rule_text z (hx z hz) (by omega) (hr z hz)
    have h1 := rules_i _ (by omega) hR (x.map cv_Rule).length 0 (⟨#[]⟩ : ByteArray) (by omega) (by omega) (by rw [szn]; omega)
    have h2 := rules_s _ (by omega) e1 hR (x.map cv_Rule).length 0 (⟨#[]⟩ : ByteArray) (by omega) (by omega) (by rw [szn]; omega)
    exact ⟨_, h2, by rw [if_pos rfl]; exact h1⟩
end FnExactWriteAid
open FnExactWriteAid

theorem FnExactWrite : laws_FnExactWrite.Pure := by
  intro x hx
  rw [laws_FnExactWrite.fv_eq, sz_RuleS x hx 1048576 (by omega) (by omega), Option.bind_some]
  by_cases h : dn (bls_Rule x) 1048576 < 0
  · rw [if_pos h]
  · have hn := dn_pos h (by omega)
    have hb1 : bls_Rule x ≤ 1048576 := by omega
    obtain ⟨s, e1, e2⟩ := write_both x hx.2 hb1
    rw [if_neg h, to_RuleS x hx.2 hb1]
    simp only [Option.bind_some, e1, e2]
    rw [if_pos trivial, eq_RuleS x hx.2 hb1, Option.bind_some, if_pos rfl]

end Go.Proofs.YthgglepiopijjaaGreatDoor.Pure
