/- The program's Names answers as the reference's, for all arguments. -/
import Derived.Test.YtccldchklemogaaFFnExactNames
import Derived.Test.YtccldchklemogaaBulk
set_option linter.unusedVariables false
set_option linter.unusedSimpArgs false
namespace Go.Proofs.Ytccldchklemogaa.Pure
open Go.RowKit Go.Proofs.Ytccldchklemogaa.QFnExactNames Go.Proofs.YtccldchklemogaaW.PrintWords Go.Proofs.YtccldchklemogaaW.PrintLast Go.Proofs.YtccldchklemogaaW.PrintMore Go.Proofs.YtccldchklemogaaW.Lims
open Go.Proofs.YtccldchklemogaaW.Bulk
namespace FnExactNamesAid

/-! ### texts as rows of bytes -/
def B (l : List UInt8) : ByteArray := ⟨l.toArray⟩
theorem B_self (s : ByteArray) : B s.data.toList = s := by cases s; simp [B]
theorem B_size (l : List UInt8) : (B l).size = l.length := by show l.toArray.size = l.length; simp
theorem B_data (l : List UInt8) : (B l).data.toList = l := by simp [B]
theorem B_append (a b : List UInt8) : B a ++ B b = B (a ++ b) := by
  apply ByteArray.ext
  rw [ByteArray.data_append]
  simp [B]
theorem B_inj {a b : List UInt8} (h : B a = B b) : a = b := by
  have := congrArg (fun s : ByteArray => s.data.toList) h
  simpa [B] using this
theorem B_extract (l : List UInt8) (i j : Nat) : (B l).extract i j = B ((l.drop i).take (j - i)) := by rw [Lib.extract_eq, B_data]; rfl
theorem B_toList (l : List UInt8) : (B l).toList = l := by rw [Lib.toList_data, B_data]
theorem B_bt (l : List UInt8) (i : Nat) (h : i < l.length) : bt (B l) (i : Int) = (l[i].toNat : Int) := by
  have h' : (i : Int).toNat < (B l).size := by rw [Int.toNat_natCast, B_size]; exact h
  rw [← bt_at (B l) i h']
  rfl
theorem wrap_in {n : Int} (h0 : -9223372036854775808 ≤ n) (h1 : n ≤ 9223372036854775807) : wrap64 n = n := by unfold wrap64; omega
theorem byte_is (b c : UInt8) (n : Int) (hc : (c.toNat : Int) = n) : ((b.toNat : Int) = n) ↔ b = c := by
  rw [← UInt8.toNat_inj, ← hc]; omega
theorem byte_ofNat (n : Nat) (h : n < 256) : (UInt8.ofNat n).toNat = n := by rw [UInt8.toNat_ofNat']; omega

/-! ### trees that came in: how much they hold; their copy; each is like itself -/
theorem rd_in (xs : List S56) (i : Nat) (h : i < xs.length) : rd_T56 xs (i : Int) = xs[i] := by
  unfold rd_T56
  simp [List.getD_eq_getElem?_getD, h]
theorem rd_in2 (xs : List S62) (i : Nat) (h : i < xs.length) : rd_T62 xs (i : Int) = xs[i] := by
  unfold rd_T62
  simp [List.getD_eq_getElem?_getD, h]

theorem eta2 (y : S62) : (⟨y.f0, y.f1, y.f2, y.f3⟩ : S62) = y := by cases y; rfl

def bulk (x : S56) : Nat := x.f2.size + x.f3.length + (x.f3.attach.map (fun k => bulk k.1)).sum
termination_by SizeOf.sizeOf x
decreasing_by
  have h := k.2
  cases x with
  | mk a b c l =>
    have h2 : SizeOf.sizeOf k.1 < SizeOf.sizeOf l := List.sizeOf_lt_of_mem h
    simp only [S56.mk.sizeOf_spec]
    omega
theorem bulk_eq (x : S56) : bulk x = x.f2.size + x.f3.length + (x.f3.map bulk).sum := by
  rw [bulk, List.attach_map_val (f := bulk)]
def conv (x : S56) : S62 := ⟨x.f0, x.f1, x.f2, x.f3.attach.map (fun k => conv k.1)⟩
termination_by SizeOf.sizeOf x
decreasing_by
  have h := k.2
  cases x with
  | mk a b c l =>
    have h2 : SizeOf.sizeOf k.1 < SizeOf.sizeOf l := List.sizeOf_lt_of_mem h
    simp only [S56.mk.sizeOf_spec]
    omega
theorem conv_eq (x : S56) : conv x = ⟨x.f0, x.f1, x.f2, x.f3.map conv⟩ := by
  rw [conv, List.attach_map_val (f := conv)]

theorem sz_loop (x0 : List S56) (hl : x0.length ≤ 9223372036854775807)
    (ih : ∀ y, y ∈ x0 → ∀ left : Int, 0 ≤ left → left ≤ 1048576 → laws_szNode.fv y.f0 y.f1 y.f2 y.f3 left = some (if (bulk y : Int) ≤ left then left - bulk y else -1)) (d : Nat) :
    ∀ (i : Nat) (left : Int), x0.length - i = d → i ≤ x0.length → 0 ≤ left → left ≤ 1048576 →
      laws_szNodeS.l0v x0 left (i : Int) = some (if ((((x0.drop i).map bulk).sum : Nat) : Int) ≤ left then left - (((x0.drop i).map bulk).sum : Nat) else -1) := by
  induction d with
  | zero =>
    intro i left h1 h2 h3 h4
    rw [laws_szNodeS.l0v_eq, if_neg (by omega), List.drop_of_length_le (by omega)]
    simp [h3]
  | succ d ihd =>
    intro i left h1 h2 h3 h4
    have hi : i < x0.length := by omega
    rw [laws_szNodeS.l0v_eq, if_pos (by omega), if_pos (by omega), rd_in x0 i hi, ih x0[i] (List.getElem_mem hi) left h3 h4]
    rw [List.drop_eq_getElem_cons hi, List.map_cons, List.sum_cons]
    simp only [Option.bind_some]
    by_cases hb : (bulk x0[i] : Int) ≤ left
    · rw [if_pos hb, if_neg (by omega), wrap_in (by omega) (by omega), show (i : Int) + 1 = ((i + 1 : Nat) : Int) by omega, ihd (i + 1) _ (by omega) (by omega) (by omega) (by omega)]
      by_cases hs : (((x0.drop (i + 1)).map bulk).sum : Int) ≤ left - bulk x0[i]
      · rw [if_pos hs, if_pos (by omega)]; congr 1; omega
      · rw [if_neg hs, if_neg (by omega)]
    · rw [if_neg hb, if_pos (by omega), if_neg (by omega)]

theorem sz_kids (x0 : List S56) (hl : x0.length ≤ 9223372036854775807)
    (ih : ∀ y, y ∈ x0 → ∀ left : Int, 0 ≤ left → left ≤ 1048576 → laws_szNode.fv y.f0 y.f1 y.f2 y.f3 left = some (if (bulk y : Int) ≤ left then left - bulk y else -1)) (left : Int) (h0 : 0 ≤ left) (h1 : left ≤ 1048576) :
    laws_szNodeS.fv x0 left = some (if ((x0.length + (x0.map bulk).sum : Nat) : Int) ≤ left then left - (x0.length + (x0.map bulk).sum : Nat) else -1) := by
  rw [laws_szNodeS.fv_eq, wrap_in (by omega) (by omega)]
  by_cases h : left - (x0.length : Int) < 0
  · rw [if_pos h, if_neg (by omega)]
  · rw [if_neg h]
    have := sz_loop x0 hl ih x0.length 0 (left - x0.length) (by omega) (by omega) (by omega) (by omega)
    rw [show (0 : Int) = ((0 : Nat) : Int) from rfl, this, List.drop_zero]
    by_cases hs : (((x0.map bulk).sum : Nat) : Int) ≤ left - x0.length
    · rw [if_pos hs, if_pos (by omega)]; congr 1; omega
    · rw [if_neg hs, if_neg (by omega)]

theorem sz_node (x : S56) (hx : Wf56 x) : ∀ left : Int, 0 ≤ left → left ≤ 1048576 → laws_szNode.fv x.f0 x.f1 x.f2 x.f3 left = some (if (bulk x : Int) ≤ left then left - bulk x else -1) := by
  induction hx with
  | mk x h0 h1 h2 h3 g3 ih =>
    intro left hl0 hl1
    have h2' := len_le h2
    rw [laws_szNode.fv_eq, wrap_in (by omega) (by omega), bulk_eq]
    by_cases h : left - (x.f2.size : Int) < 0
    · rw [if_pos h, if_neg (by omega)]
    · rw [if_neg h, sz_kids x.f3 (len_le h3) ih _ (by omega) (by omega)]
      simp only [Option.bind_some]
      by_cases hs : ((x.f3.length + (x.f3.map bulk).sum : Nat) : Int) ≤ left - x.f2.size
      · rw [if_pos hs, if_neg (by omega), if_pos (by omega)]; congr 1; omega
      · rw [if_neg hs, if_pos (by omega), if_neg (by omega)]

theorem le_sum {l : List Nat} {n : Nat} (h : n ∈ l) : n ≤ l.sum := by
  induction l with
  | nil => simp at h
  | cons a l ih =>
    rw [List.sum_cons]
    rcases List.mem_cons.1 h with rfl | h
    · omega
    · have := ih h; omega

theorem bulk_kid {x y : S56} (h : y ∈ x.f3) : bulk y + x.f3.length + x.f2.size ≤ bulk x := by
  rw [bulk_eq x]
  have := le_sum (List.mem_map_of_mem (f := bulk) h)
  omega

theorem to_loop (x0 : List S56) (hl : x0.length ≤ 1048576) (ih : ∀ y, y ∈ x0 → laws_toNode.fv y.f0 y.f1 y.f2 y.f3 = some ((conv y).f0, (conv y).f1, (conv y).f2, (conv y).f3)) (d : Nat) :
    ∀ (i : Nat) (rest : List S62), x0.length - i = d → i ≤ x0.length → rest.length = x0.length - i → laws_toNodeS.l0v x0 ((x0.take i).map conv ++ rest) (i : Int) = some (x0.map conv) := by
  induction d with
  | zero =>
    intro i rest h1 h2 h3
    have : rest = [] := List.eq_nil_of_length_eq_zero (by omega)
    subst this
    rw [laws_toNodeS.l0v_eq, if_neg (by omega), List.take_of_length_le (by omega), List.append_nil]
  | succ d ihd =>
    intro i rest h1 h2 h3
    have hi : i < x0.length := by omega
    obtain ⟨r, rest, rfl⟩ : ∃ r rs, rest = r :: rs := by cases rest with
      | nil => simp at h3; omega
      | cons r rs => exact ⟨r, rs, rfl⟩
    rw [laws_toNodeS.l0v_eq, if_pos (by omega), if_pos (by omega), rd_in x0 i hi, ih x0[i] (List.getElem_mem hi)]
    simp only [Option.bind_some]
    have hlen : ((x0.take i).map conv).length = i := by simp; omega
    rw [if_pos (by simp; omega), wrap_in (by omega) (by omega), show (i : Int) + 1 = ((i + 1 : Nat) : Int) by omega, Int.toNat_natCast]
    have e : ((x0.take i).map conv ++ r :: rest).set i ⟨(conv x0[i]).f0, (conv x0[i]).f1, (conv x0[i]).f2, (conv x0[i]).f3⟩ = (x0.take (i + 1)).map conv ++ rest := by
      rw [List.set_append_right _ _ (by omega), hlen, Nat.sub_self, List.set_cons_zero, List.take_succ_eq_append_getElem hi, List.map_append, List.append_assoc, eta2]
      simp
    rw [e]
    exact ihd (i + 1) rest (by omega) (by omega) (by simp at h3; omega)

theorem to_kids (x0 : List S56) (hl : x0.length ≤ 1048576) (ih : ∀ y, y ∈ x0 → laws_toNode.fv y.f0 y.f1 y.f2 y.f3 = some ((conv y).f0, (conv y).f1, (conv y).f2, (conv y).f3)) :
    laws_toNodeS.fv x0 = some (x0.map conv) := by
  rw [laws_toNodeS.fv_eq, if_pos (by omega), if_pos (by omega)]
  have := to_loop x0 hl ih x0.length 0 (List.replicate x0.length z62) (by omega) (by omega) (by simp)
  simpa using this

theorem to_node (x : S56) (hx : Wf56 x) (hb : bulk x ≤ 1048576) : laws_toNode.fv x.f0 x.f1 x.f2 x.f3 = some ((conv x).f0, (conv x).f1, (conv x).f2, (conv x).f3) := by
  induction hx with
  | mk x h0 h1 h2 h3 g3 ih =>
    have hk := bulk_eq x
    rw [laws_toNode.fv_eq, to_kids x.f3 (by omega) (fun y hy => ih y hy (by have := bulk_kid hy; omega)), conv_eq]
    rfl

theorem eq_loop (l : List S62) (hl : l.length ≤ 1048576) (ih : ∀ y, y ∈ l → laws_eqNode.fv y.f0 y.f1 y.f2 y.f3 y.f0 y.f1 y.f2 y.f3 = some true) (d : Nat) :
    ∀ i : Nat, l.length - i = d → i ≤ l.length → laws_eqNodeS.l0v l l (i : Int) = some true := by
  induction d with
  | zero =>
    intro i h1 h2
    rw [laws_eqNodeS.l0v_eq, if_neg (by omega)]
  | succ d ihd =>
    intro i h1 h2
    have hi : i < l.length := by omega
    rw [laws_eqNodeS.l0v_eq, if_pos (by omega), if_pos (by omega), if_pos (by omega), rd_in2 l i hi, ih l[i] (List.getElem_mem hi)]
    rw [Option.bind_some, if_pos rfl]
    rw [wrap_in (by omega) (by omega), show (i : Int) + 1 = ((i + 1 : Nat) : Int) by omega]
    exact ihd (i + 1) (by omega) (by omega)

theorem eq_kids (l : List S62) (hl : l.length ≤ 1048576) (ih : ∀ y, y ∈ l → laws_eqNode.fv y.f0 y.f1 y.f2 y.f3 y.f0 y.f1 y.f2 y.f3 = some true) : laws_eqNodeS.fv l l = some true := by
  rw [laws_eqNodeS.fv_eq, if_pos rfl]
  exact eq_loop l hl ih l.length 0 (by omega) (by omega)

theorem eq_node (x : S56) (hx : Wf56 x) (hb : bulk x ≤ 1048576) : laws_eqNode.fv (conv x).f0 (conv x).f1 (conv x).f2 (conv x).f3 (conv x).f0 (conv x).f1 (conv x).f2 (conv x).f3 = some true := by
  induction hx with
  | mk x h0 h1 h2 h3 g3 ih =>
    have hk := bulk_eq x
    rw [laws_eqNode.fv_eq, if_pos rfl, if_pos rfl, if_pos rfl, conv_eq]
    simp only []
    rw [eq_kids (x.f3.map conv) (by simp; omega) (fun y hy => by
      obtain ⟨z, hz, rfl⟩ := List.mem_map.1 hy
      exact ih z hz (by have := bulk_kid hz; omega))]
    rfl

/-! ### rules that came in -/
theorem rdrule (xs : List S58) (i : Nat) (h : i < xs.length) : rd_T58 xs (i : Int) = xs[i] := by
  unfold rd_T58
  simp [List.getD_eq_getElem?_getD, h]
theorem rdrule2 (xs : List S64) (i : Nat) (h : i < xs.length) : rd_T64 xs (i : Int) = xs[i] := by
  unfold rd_T64
  simp [List.getD_eq_getElem?_getD, h]
abbrev whn (x : S58) : S56 := ⟨x.f1, x.f2, x.f3, x.f4⟩
abbrev thn (x : S58) : S56 := ⟨x.f5, x.f6, x.f7, x.f8⟩
theorem wf1 (x : S58) (hx : Wf58 x) : Wf56 (whn x) := Wf56.mk (whn x) hx.2.1 hx.2.2.1 hx.2.2.2.1 hx.2.2.2.2.1.1 hx.2.2.2.2.1.2
theorem wf2 (x : S58) (hx : Wf58 x) : Wf56 (thn x) := Wf56.mk (thn x) hx.2.2.2.2.2.1 hx.2.2.2.2.2.2.1 hx.2.2.2.2.2.2.2.1 hx.2.2.2.2.2.2.2.2.1 hx.2.2.2.2.2.2.2.2.2
def bl_Rule (x : S58) : Nat := bulk (whn x) + (bulk (thn x) + 0)
theorem sz_Rule (x : S58) (hx : Wf58 x) (left : Int) (h0 : 0 ≤ left) (h1 : left ≤ 1048576) :
    laws_szRule.fv x.f0 x.f1 x.f2 x.f3 x.f4 x.f5 x.f6 x.f7 x.f8 left = some (dn (bl_Rule x) left) := by
  rw [laws_szRule.fv_eq]
  show _ = some (dn (bulk (whn x) + (bulk (thn x) + 0)) left)
  refine dn_bind h0 h1 (sz_node (whn x) (wf1 x hx) _ h0 h1) fun t h0 h1 => ?_
  refine dn_bind h0 h1 (sz_node (thn x) (wf2 x hx) _ h0 h1) fun t h0 h1 => ?_
  exact dn_end _ h0
def bls_Rule (l : List S58) : Nat := l.length + (l.map bl_Rule).sum
theorem sz_RuleS (l : List S58) (hx : l.length ≤ maxLen ∧ ∀ x_ ∈ l, Wf58 x_) (left : Int) (h0 : 0 ≤ left) (h1 : left ≤ 1048576) : laws_szRuleS.fv l left = some (dn (bls_Rule l) left) := by
  rw [laws_szRuleS.fv_eq]
  have hl := len_le hx.1
  refine dn_cut h0 h1 hl fun t ht h0 h1 => ?_
  rw [ht]
  exact sz_all laws_szRuleS.l0v (fun x0 x1 x5 => (laws_szRule.fv ((rd_T58 x0 x5).f0) ((rd_T58 x0 x5).f1) ((rd_T58 x0 x5).f2) ((rd_T58 x0 x5).f3) ((rd_T58 x0 x5).f4) ((rd_T58 x0 x5).f5) ((rd_T58 x0 x5).f6) ((rd_T58 x0 x5).f7) ((rd_T58 x0 x5).f8) x1)) bl_Rule (by intro x l i; exact laws_szRuleS.l0v_eq x l i) l hl (fun i h left h0 h1 => by simp only [rdrule l i h]; exact sz_Rule l[i] (hx.2 _ (List.getElem_mem h)) left h0 h1) t h0 h1
def cv_Rule (x : S58) : S64 := ⟨x.f0, (conv (whn x)).f0, (conv (whn x)).f1, (conv (whn x)).f2, (conv (whn x)).f3, (conv (thn x)).f0, (conv (thn x)).f1, (conv (thn x)).f2, (conv (thn x)).f3⟩
theorem to_Rule (x : S58) (hx : Wf58 x) (hb : bl_Rule x ≤ 1048576) :
    laws_toRule.fv x.f0 x.f1 x.f2 x.f3 x.f4 x.f5 x.f6 x.f7 x.f8 = some (x.f0, (conv (whn x)).f0, (conv (whn x)).f1, (conv (whn x)).f2, (conv (whn x)).f3, (conv (thn x)).f0, (conv (thn x)).f1, (conv (thn x)).f2, (conv (thn x)).f3) := by
  unfold bl_Rule at hb
  rw [laws_toRule.fv_eq, to_node (whn x) (wf1 x hx) (by omega), Option.bind_some, to_node (thn x) (wf2 x hx) (by omega), Option.bind_some]
theorem to_RuleS (l : List S58) (hx : ∀ x_ ∈ l, Wf58 x_) (hb : bls_Rule l ≤ 1048576) : laws_toRuleS.fv l = some (l.map cv_Rule) := by
  have hb' := hb
  unfold bls_Rule at hb'
  rw [laws_toRuleS.fv_eq, if_pos (by omega), if_pos (by omega)]
  have := to_all laws_toRuleS.l0v (fun x0 x4 => (laws_toRule.fv ((rd_T58 x0 x4).f0) ((rd_T58 x0 x4).f1) ((rd_T58 x0 x4).f2) ((rd_T58 x0 x4).f3) ((rd_T58 x0 x4).f4) ((rd_T58 x0 x4).f5) ((rd_T58 x0 x4).f6) ((rd_T58 x0 x4).f7) ((rd_T58 x0 x4).f8))) (fun bt215 => (⟨bt215.1, bt215.2.1, bt215.2.2.1, bt215.2.2.2.1, bt215.2.2.2.2.1, bt215.2.2.2.2.2.1, bt215.2.2.2.2.2.2.1, bt215.2.2.2.2.2.2.2.1, bt215.2.2.2.2.2.2.2.2⟩ : S64)) cv_Rule (by intro x acc i; exact laws_toRuleS.l0v_eq x acc i) l (by omega) (fun i h => by
    have hm := Go.Proofs.YtccldchklemogaaW.Bulk.le_sum (List.mem_map_of_mem (f := bl_Rule) (List.getElem_mem h))
    simp only [rdrule l i h]; exact ⟨_, to_Rule l[i] (hx _ (List.getElem_mem h)) (by omega), rfl⟩) z64
  simpa using this
theorem eq_RuleS (l : List S58) (hx : ∀ x_ ∈ l, Wf58 x_) (hb : bls_Rule l ≤ 1048576) : laws_eqRuleS.fv (l.map cv_Rule) (l.map cv_Rule) = some true := by
  have hb' := hb
  unfold bls_Rule at hb'
  rw [laws_eqRuleS.fv_eq, if_pos rfl]
  exact eq_all laws_eqRuleS.l0v (fun x0 x1 x5 => (laws_eqRule.fv ((rd_T64 x0 x5).f0) ((rd_T64 x0 x5).f1) ((rd_T64 x0 x5).f2) ((rd_T64 x0 x5).f3) ((rd_T64 x0 x5).f4) ((rd_T64 x0 x5).f5) ((rd_T64 x0 x5).f6) ((rd_T64 x0 x5).f7) ((rd_T64 x0 x5).f8) ((rd_T64 x1 x5).f0) ((rd_T64 x1 x5).f1) ((rd_T64 x1 x5).f2) ((rd_T64 x1 x5).f3) ((rd_T64 x1 x5).f4) ((rd_T64 x1 x5).f5) ((rd_T64 x1 x5).f6) ((rd_T64 x1 x5).f7) ((rd_T64 x1 x5).f8))) (by intro x y i; exact laws_eqRuleS.l0v_eq x y i) (l.map cv_Rule) (by simp; omega) (fun i hi => by
    have hi' : i < l.length := by simpa using hi
    have hm := Go.Proofs.YtccldchklemogaaW.Bulk.le_sum (List.mem_map_of_mem (f := bl_Rule) (List.getElem_mem hi'))
    have hq : bl_Rule l[i] = bulk (whn l[i]) + (bulk (thn l[i]) + 0) := rfl
    have hw := hx _ (List.getElem_mem hi')
    simp only [rdrule2 _ i hi, List.getElem_map]
    show laws_eqRule.fv l[i].f0 (conv (whn l[i])).f0 (conv (whn l[i])).f1 (conv (whn l[i])).f2 (conv (whn l[i])).f3 (conv (thn l[i])).f0 (conv (thn l[i])).f1 (conv (thn l[i])).f2 (conv (thn l[i])).f3 l[i].f0 (conv (whn l[i])).f0 (conv (whn l[i])).f1 (conv (whn l[i])).f2 (conv (whn l[i])).f3 (conv (thn l[i])).f0 (conv (thn l[i])).f1 (conv (thn l[i])).f2 (conv (thn l[i])).f3 = some true
    rw [laws_eqRule.fv_eq, if_pos rfl, eq_node (whn l[i]) (wf1 _ hw) (by omega), Option.bind_some, if_pos rfl, eq_node (thn l[i]) (wf2 _ hw) (by omega), Option.bind_some, if_pos rfl])

theorem within_loop (l : List ByteArray) (s : ByteArray) (hl : l.length ≤ 4000000) (d : Nat) : ∀ i : Nat, l.length - i = d → i ≤ l.length →
    spec_l7Within.l0v l s (i : Int) = some (decide (s.toList ∈ (l.drop i).map ByteArray.toList)) := by
  induction d with
  | zero =>
    intro i h1 h2
    rw [spec_l7Within.l0v_eq, if_neg (by omega), List.drop_of_length_le (by omega)]
    simp
  | succ d ih =>
    intro i h1 h2
    have hi : i < l.length := by omega
    rw [spec_l7Within.l0v_eq, if_pos (by omega), if_pos (by omega), rdOf_nat _ l i hi, wrap_in (by omega) (by omega), show (i : Int) + 1 = ((i + 1 : Nat) : Int) by omega, ih (i + 1) (by omega) (by omega)]
    rw [List.drop_eq_getElem_cons hi, List.map_cons]
    by_cases h : l[i].toList = s.toList
    · rw [if_pos h, h]; congr 1; exact (decide_eq_true List.mem_cons_self).symm
    · rw [if_neg h]; congr 1; rw [decide_eq_decide, List.mem_cons]; exact ⟨Or.inr, fun e => e.resolve_left (fun e => h e.symm)⟩
theorem within (l : List ByteArray) (s : ByteArray) (hl : l.length ≤ 4000000) : spec_l7Within.fv l s = some (decide (s.toList ∈ l.map ByteArray.toList)) := by
  rw [spec_l7Within.fv_eq]
  exact within_loop l s hl l.length 0 (by omega) (by omega)
theorem jl {k l : List UInt8} {X C : Option Bool} : (if k = l then (if (k == l) = true then some true else C) else X) = if k = l then some true else X := by
  by_cases h : k = l
  · subst h; simp
  · rw [if_neg h, if_neg h]
theorem jz {k l : List UInt8} {C : Option Bool} : (if (k == l) = true then some true else C) = if k = l then some true else C := by
  by_cases h : k = l
  · subst h; simp
  · rw [if_neg h, if_neg (by simpa using h)]
theorem or_ite {p q : Prop} [Decidable p] [Decidable q] {a X : Option Bool} : (if p then a else if q then a else X) = if p ∨ q then a else X := by
  by_cases h : p <;> by_cases h2 : q <;> simp [h, h2]
theorem bind_ite {p : Prop} [Decidable p] {X : Option Bool} : ((some (decide p)).bind fun t => if t = true then some true else X) = if p then some true else X := by
  by_cases h : p <;> simp [h]
def words : List (List UInt8) := [[66, 69, 71, 73, 78], [112, 114, 105, 110, 116], [105, 102], [101, 108, 115, 101], [119, 104, 105, 108, 101], [110, 101, 120, 116], [100, 101, 108, 101, 116, 101], [78, 82], [78, 70]]
def callws : List (List UInt8) := [[108, 101, 110, 103, 116, 104], [115, 117, 98, 115, 116, 114], [105, 110, 100, 101, 120], [105, 110, 116], [117, 112, 112, 101, 114], [108, 111, 119, 101, 114]]
/-- Is a text one of the words that are no names? -/
def isKey (k : List UInt8) : Bool := decide (k ∈ words ∨ k ∈ callws)

/-! ### which of two texts comes first -/
theorem less_cons (a b : UInt8) (x y : List UInt8) : Op.bytesLess (a :: x) (b :: y) = (decide (a < b) || (a == b && Op.bytesLess x y)) := rfl
theorem less_more (x y : List UInt8) : (!(Op.bytesLess x y) && !(x == y)) = Op.bytesLess y x := by
  induction x generalizing y with
  | nil => cases y <;> rfl
  | cons a x ih =>
    cases y with
    | nil => rfl
    | cons b y =>
      rw [less_cons, less_cons, ← ih y]
      by_cases h1 : a < b
      · have h2 : ¬ b < a := fun h => by rw [UInt8.lt_iff_toNat_lt] at h h1; omega
        have hne : ¬ b = a := by intro e; subst e; exact h2 h1
        simp [h1, h2, hne]
      · by_cases h2 : b < a
        · have hne : ¬ a = b := by intro e; subst e; exact h1 h2
          have hne2 : ¬ b = a := fun e => hne e.symm
          simp [h1, h2, hne, hne2]
        · have e : a = b := by
            rw [← UInt8.toNat_inj]
            have := _root_.mt UInt8.lt_iff_toNat_lt.2 h1
            have := _root_.mt UInt8.lt_iff_toNat_lt.2 h2
            omega
          subst e
          simp [h1]

/-! ### texts in order, each once -/
abbrev TL := List UInt8
theorem tl_less : ∀ x y : TL, Op.bytesLess x y = decide (x < y)
  | [], [] => by simp [Op.bytesLess]
  | _ :: _, [] => by simp [Op.bytesLess]
  | [], _ :: _ => by simp [Op.bytesLess]
  | a :: x, b :: y => by
    rw [less_cons, tl_less x y]
    by_cases h : a < b
    · simp [h, List.cons_lt_cons_iff]
    · by_cases e : a = b
      · subst e; simp [List.cons_lt_cons_iff]
      · simp [h, e, List.cons_lt_cons_iff]
theorem tl_irr (x : TL) : ¬ x < x := fun h => by
  have h1 : Op.bytesLess x x = true := by rw [tl_less]; exact decide_eq_true h
  have h2 := less_more x x
  rw [h1] at h2
  cases h2
theorem tl_trans : ∀ {x y z : TL}, x < y → y < z → x < z := by
  intro x y z h1 h2
  exact List.lt_trans h1 h2
theorem tl_asym {x y : TL} (h1 : x < y) (h2 : y < x) : False := tl_irr x (tl_trans h1 h2)
theorem tl_tri (x y : TL) (h1 : ¬ x < y) (h2 : x ≠ y) : y < x := by
  have h := less_more x y
  rw [tl_less, tl_less, decide_eq_false h1] at h
  have h3 : (x == y) = false := by simpa using h2
  rw [h3] at h
  simpa using h.symm
theorem uniq_sorted : ∀ l m : List TL, l.Pairwise (· < ·) → m.Pairwise (· < ·) → (∀ a, a ∈ l ↔ a ∈ m) → l = m
  | [], [], _, _, _ => rfl
  | [], b :: m, _, _, h => by have := (h b).2 (List.mem_cons_self ..); cases this
  | a :: l, [], _, _, h => by have := (h a).1 (List.mem_cons_self ..); cases this
  | a :: l, b :: m, hl, hm, h => by
    have hl' := List.pairwise_cons.1 hl
    have hm' := List.pairwise_cons.1 hm
    have e : a = b := by
      rcases List.mem_cons.1 ((h a).1 (List.mem_cons_self ..)) with e | e
      · exact e
      · rcases List.mem_cons.1 ((h b).2 (List.mem_cons_self ..)) with f | f
        · exact f.symm
        · exact (tl_asym (hm'.1 a e) (hl'.1 b f)).elim
    subst e
    congr 1
    refine uniq_sorted l m hl'.2 hm'.2 fun x => ⟨fun hx => ?_, fun hx => ?_⟩
    · rcases List.mem_cons.1 ((h x).1 (List.mem_cons_of_mem _ hx)) with e | e
      · subst e; exact (tl_irr _ (hl'.1 _ hx)).elim
      · exact e
    · rcases List.mem_cons.1 ((h x).2 (List.mem_cons_of_mem _ hx)) with e | e
      · subst e; exact (tl_irr _ (hm'.1 _ hx)).elim
      · exact e
theorem compact_go (zs : List TL) (hs : zs.Pairwise fun x y => ¬ y < x) (m : Nat) : m ≤ zs.length →
    (Lib.compactUpTo zs.toArray m).Pairwise (· < ·) ∧ (∀ a, a ∈ Lib.compactUpTo zs.toArray m ↔ a ∈ zs.take m) := by
  induction m with
  | zero => intro _; refine ⟨?_, fun a => ?_⟩ <;> simp [Lib.compactUpTo]
  | succ m ih =>
    intro h
    obtain ⟨h1, h2⟩ := ih (by omega)
    have hm : m < zs.length := by omega
    have ht : zs.take (m + 1) = zs.take m ++ [zs[m]] := by rw [List.take_succ_eq_append_getElem hm]
    have hd : zs.toArray[m]! = zs[m] := by simp [hm]
    rw [Lib.compactUpTo_succ, hd]
    by_cases hk : Lib.keeps zs.toArray m = true
    · rw [if_pos hk]
      have hlt : ∀ a, a ∈ Lib.compactUpTo zs.toArray m → a < zs[m] := by
        intro a ha
        have ha' := (h2 a).1 ha
        obtain ⟨j, hj, e⟩ := List.mem_iff_getElem.1 ha'
        rw [List.length_take] at hj
        rw [List.getElem_take] at e
        unfold Lib.keeps at hk
        have hk' := of_decide_eq_true hk
        have hne : zs[m] ≠ zs[m - 1]'(by omega) := by
          rcases hk' with h0 | h0
          · omega
          · intro e2
            apply h0
            rw [hd, e2]
            simp [show m - 1 < zs.length by omega]
        have hle : ¬ zs[m] < zs[m - 1]'(by omega) := List.pairwise_iff_getElem.1 hs (m - 1) m (by omega) hm (by omega)
        have hlt2 : zs[m - 1]'(by omega) < zs[m] := tl_tri _ _ hle hne
        subst e
        by_cases hj2 : j = m - 1
        · subst hj2; exact hlt2
        · have hle2 : ¬ zs[m - 1]'(by omega) < zs[j]'(by omega) := List.pairwise_iff_getElem.1 hs j (m - 1) (by omega) (by omega) (by omega)
          by_cases he : zs[m - 1]'(by omega) = zs[j]'(by omega)
          · rw [← he]; exact hlt2
          · exact tl_trans (tl_tri _ _ hle2 he) hlt2
      refine ⟨List.pairwise_append.2 ⟨h1, List.pairwise_singleton .., fun a ha b hb => ?_⟩, fun a => ?_⟩
      · rw [List.mem_singleton] at hb; subst hb; exact hlt a ha
      · rw [ht, List.mem_append, List.mem_append, h2]
    · rw [if_neg hk, List.append_nil]
      refine ⟨h1, fun a => ?_⟩
      have hk2 : ¬ (m = 0 ∨ zs.toArray[m]! ≠ zs.toArray[m - 1]!) := fun e => hk (by unfold Lib.keeps; exact decide_eq_true e)
      have hm0 : m ≠ 0 := fun e => hk2 (.inl e)
      have he : zs[m] = zs[m - 1]'(by omega) := by
        by_cases e : zs.toArray[m]! = zs.toArray[m - 1]!
        · rw [hd] at e
          rw [e]; simp [show m - 1 < zs.length by omega]
        · exact (hk2 (.inr e)).elim
      have hin : zs[m] ∈ zs.take m := by
        rw [he]
        exact List.mem_iff_getElem.2 ⟨m - 1, by rw [List.length_take]; omega, by rw [List.getElem_take]⟩
      rw [ht, List.mem_append, List.mem_singleton, h2]
      constructor
      · exact .inl
      · rintro (e | e)
        · exact e
        · rw [e]; exact hin
theorem compact_sorted (zs : List TL) (hs : zs.Pairwise fun x y => ¬ y < x) : (Lib.compact zs).Pairwise (· < ·) ∧ (∀ a, a ∈ Lib.compact zs ↔ a ∈ zs) := by
  have := compact_go zs hs zs.length (Nat.le_refl _)
  rw [List.take_length] at this
  exact this
theorem sort_sorted (l : List TL) : (l.mergeSort fun x y => decide (x ≤ y)).Pairwise fun x y => ¬ y < x := by
  have tr : ∀ a b c : TL, decide (a ≤ b) = true → decide (b ≤ c) = true → decide (a ≤ c) = true := by
    intro a b c h1 h2
    have h1 : ¬ b < a := of_decide_eq_true h1
    have h2 : ¬ c < b := of_decide_eq_true h2
    refine decide_eq_true ?_
    show ¬ c < a
    intro h
    by_cases e : b = a
    · subst e; exact h2 h
    · exact h2 (tl_trans h (tl_tri _ _ h1 e))
  have tot : ∀ a b : TL, (decide (a ≤ b) || decide (b ≤ a)) = true := by
    intro a b
    by_cases h : b < a
    · have : ¬ a < b := fun k => tl_asym h k
      have h2 : decide (b ≤ a) = true := decide_eq_true this
      rw [h2, Bool.or_true]
    · have h2 : decide (a ≤ b) = true := decide_eq_true h
      rw [h2, Bool.true_or]
  exact (List.pairwise_mergeSort tr tot l).imp fun h => of_decide_eq_true h
/-- What is sorted and made compact is the one ordered list of what it holds. -/
theorem sorted_is (l : List TL) (m : List TL) (hm : m.Pairwise (· < ·)) (h : ∀ a, a ∈ m ↔ a ∈ l) : Lib.compact (l.mergeSort fun x y => decide (x ≤ y)) = m := by
  obtain ⟨h1, h2⟩ := compact_sorted _ (sort_sorted l)
  refine uniq_sorted _ _ h1 hm fun a => ?_
  rw [h2, h, (List.mergeSort_perm l _).mem_iff]

/-! marks: texts by number -/
theorem mt_run (d : Nat) : ∀ (n : Int) (s : ByteArray), 0 ≤ n → n ≤ 2000000000 → n < 10 ^ d → s.size + d ≤ 1000000 → ∃ t, laws_markText.l0v n s = some t := by
  induction d with
  | zero =>
    intro n s h0 hm h1 h2
    have : n = 0 := by simp at h1; omega
    subst this
    have h109 : (⟨#[109]⟩ : ByteArray).size = 1 := rfl
    rw [laws_markText.l0v_eq, if_neg (by omega), if_pos (by omega)]
    exact ⟨_, rfl⟩
  | succ d ih =>
    intro n s h0 hm h1 h2
    rw [laws_markText.l0v_eq]
    by_cases h : n > 0
    · have hsz : (strOfNums ([(wrap64 (48 + (Int.tmod n 10))) % 256] : List Int)).size = 1 := by rw [strOfNums_size]; rfl
      have hd : Int.tdiv n 10 = n / 10 := Int.tdiv_eq_ediv_of_nonneg h0
      have hn : n / 10 < 10 ^ d := by
        have : (10 : Int) ^ (d + 1) = 10 ^ d * 10 := Int.pow_succ 10 d
        omega
      have hp : (10 : Int) ^ d ≤ 10 ^ d := Int.le_refl _
      rw [if_pos h]
      try rw [Option.bind_some]
      rw [if_pos (by omega), hd]
      rw [wrap_in (by omega) (by omega)]
      exact ih _ _ (by omega) (by omega) hn (by rw [ByteArray.size_append, hsz]; omega)
    · have h109 : (⟨#[109]⟩ : ByteArray).size = 1 := rfl
      rw [if_neg h, if_pos (by omega)]
      exact ⟨_, rfl⟩
noncomputable def mt (n : Int) : ByteArray := (laws_markText.fv n).getD ⟨#[]⟩
theorem mt_eq (n : Int) (h : 0 < n) (h' : n ≤ 2000000000) : laws_markText.fv n = some (mt n) := by
  obtain ⟨t, ht⟩ : ∃ t, laws_markText.fv n = some t := by
    rw [laws_markText.fv_eq, if_neg (by omega)]
    exact mt_run 12 n _ (by omega) h' (by omega) (by decide)
  rw [mt, ht]
  rfl

/-! ### a node and all below it, in the order of the walk -/
def pre (x : S62) : List S62 := x :: (x.f3.attach.map (fun k => pre k.1)).flatten
termination_by SizeOf.sizeOf x
decreasing_by
  have h := k.2
  cases x with
  | mk a b c l =>
    have h2 : SizeOf.sizeOf k.1 < SizeOf.sizeOf l := List.sizeOf_lt_of_mem h
    simp only [S62.mk.sizeOf_spec]
    omega
theorem pre_eq (x : S62) : pre x = x :: (x.f3.map pre).flatten := by
  rw [pre, List.attach_map_val (f := pre)]
theorem pre_pos (x : S62) : 1 ≤ (pre x).length := by rw [pre_eq]; simp
theorem flat_cut (l : List S62) (i : Nat) (h : i < l.length) : ((l.drop i).map pre).flatten = pre l[i] ++ ((l.drop (i + 1)).map pre).flatten := by
  rw [List.drop_eq_getElem_cons h, List.map_cons, List.flatten_cons]
theorem flat_len : ∀ l : List S62, l.length ≤ ((l.map pre).flatten).length
  | [] => by simp
  | k :: l => by
    have h1 := flat_len l
    have h2 := pre_pos k
    simp only [List.map_cons, List.flatten_cons, List.length_append, List.length_cons]
    omega
theorem flat_mem : ∀ (l : List S62) (k : S62), k ∈ l → (pre k).length ≤ ((l.map pre).flatten).length
  | [], k, h => by cases h
  | j :: l, k, h => by
    simp only [List.map_cons, List.flatten_cons, List.length_append]
    rcases List.mem_cons.1 h with e | e
    · subst e; omega
    · have := flat_mem l k e; omega
theorem pre_kid {x k : S62} (h : k ∈ x.f3) : (pre k).length < (pre x).length := by
  have := flat_mem x.f3 k h
  rw [pre_eq x, List.length_cons]; omega
theorem pre_len (x : S62) : x.f3.length < (pre x).length := by
  have := flat_len x.f3
  rw [pre_eq x, List.length_cons]; omega
theorem walk {σ : Type} (F : S62 → σ → Option σ) (L : S62 → Nat → σ → Option σ) (st : σ → S62 → Option σ)
    (hF : ∀ n s, F n s = (st s n).bind fun t => L n 0 t)
    (hC : ∀ n i s (h : i < n.f3.length), n.f3.length ≤ 2097153 → L n i s = (F n.f3[i] s).bind fun t => L n (i + 1) t)
    (hE : ∀ n s, L n n.f3.length s = some s) (d : Nat) :
    ∀ n : S62, (pre n).length ≤ d → d ≤ 2097153 → ∀ s, F n s = (pre n).foldlM st s := by
  induction d with
  | zero => intro n h; have := pre_pos n; omega
  | succ d ih =>
    intro n h hd s
    have hl := pre_len n
    have hL : ∀ e i : Nat, n.f3.length - i = e → i ≤ n.f3.length → ∀ t, L n i t = (((n.f3.drop i).map pre).flatten).foldlM st t := by
      intro e
      induction e with
      | zero =>
        intro i h1 h2 t
        have : i = n.f3.length := by omega
        subst this
        rw [hE, List.drop_of_length_le (by omega)]; rfl
      | succ e ihe =>
        intro i h1 h2 t
        have hi : i < n.f3.length := by omega
        have hk := pre_kid (List.getElem_mem hi)
        rw [hC n i t hi (by omega), ih n.f3[i] (by omega) (by omega) t, flat_cut _ _ hi, List.foldlM_append]
        congr 1
        funext u
        exact ihe (i + 1) (by omega) (by omega) u
    rw [hF, pre_eq n, List.foldlM_cons]
    show (st s n).bind _ = (st s n).bind _
    congr 1
    funext t
    have := hL n.f3.length 0 (by omega) (by omega) t
    rw [List.drop_zero] at this
    exact this
theorem walkB (F : S62 → Option Bool) (L : S62 → Nat → Option Bool) (p : S62 → Bool) (Q : S62 → Prop)
    (hF : ∀ n, Q n → F n = if p n = true then L n 0 else some false)
    (hC : ∀ n i (h : i < n.f3.length), n.f3.length ≤ 2097153 → L n i = (F n.f3[i]).bind fun t => if t = true then L n (i + 1) else some false)
    (hE : ∀ n, L n n.f3.length = some true) (d : Nat) :
    ∀ n : S62, (pre n).length ≤ d → d ≤ 2097153 → (∀ m, m ∈ pre n → Q m) → F n = some ((pre n).all p) := by
  induction d with
  | zero => intro n h; have := pre_pos n; omega
  | succ d ih =>
    intro n h hd hq
    have hl := pre_len n
    have hqk : ∀ (i : Nat) (hi : i < n.f3.length) (m : S62), m ∈ pre n.f3[i] → Q m := by
      intro i hi m hm
      refine hq m ?_
      rw [pre_eq n]
      exact List.mem_cons_of_mem _ (List.mem_flatten.2 ⟨_, List.mem_map_of_mem (List.getElem_mem hi), hm⟩)
    have hL : ∀ e i : Nat, n.f3.length - i = e → i ≤ n.f3.length → L n i = some ((((n.f3.drop i).map pre).flatten).all p) := by
      intro e
      induction e with
      | zero =>
        intro i h1 h2
        have : i = n.f3.length := by omega
        subst this
        rw [hE, List.drop_of_length_le (by omega)]; rfl
      | succ e ihe =>
        intro i h1 h2
        have hi : i < n.f3.length := by omega
        have hk := pre_kid (List.getElem_mem hi)
        rw [hC n i hi (by omega), ih n.f3[i] (by omega) (by omega) (hqk i hi), flat_cut _ _ hi, List.all_append, Option.bind_some, ihe (i + 1) (by omega) (by omega)]
        cases (pre n.f3[i]).all p <;> rfl
    have h0 := hL n.f3.length 0 (by omega) (by omega)
    rw [List.drop_zero] at h0
    have hme : n ∈ pre n := by rw [pre_eq n]; exact List.mem_cons_self ..
    rw [hF n (hq n hme), pre_eq n, List.all_cons, h0]
    cases p n <;> rfl
theorem pre_conv (d : Nat) : ∀ x : S56, bulk x ≤ d → (pre (conv x)).length ≤ bulk x + 1 := by
  induction d with
  | zero =>
    intro x h
    have hb := bulk_eq x
    have : x.f3 = [] := List.length_eq_zero_iff.1 (by omega)
    rw [conv_eq, pre_eq]
    simp [this]
  | succ d ih =>
    intro x h
    have hb := bulk_eq x
    rw [conv_eq, pre_eq]
    have hk : ∀ l : List S56, (∀ k, k ∈ l → k ∈ x.f3) → (((l.map conv).map pre).flatten).length ≤ (l.map bulk).sum + l.length := by
      intro l
      induction l with
      | nil => intro _; simp
      | cons k l ihl =>
        intro hm
        have h1 := ihl fun j hj => hm j (List.mem_cons_of_mem _ hj)
        have hkb := bulk_kid (hm k (List.mem_cons_self ..))
        have hpos : 1 ≤ x.f3.length := List.length_pos_of_mem (hm k (List.mem_cons_self ..))
        have h2 := ih k (by omega)
        simp only [List.map_cons, List.flatten_cons, List.length_append, List.sum_cons, List.length_cons]
        omega
    have := hk x.f3 fun k h => h
    simp only [List.length_cons]
    omega

/-! ### the names of a program -/
def KL (l : List ByteArray) : List TL := l.map fun s => s.data.toList
theorem KL_len (l : List ByteArray) : (KL l).length = l.length := by simp [KL]
theorem KL_app (l m : List ByteArray) : KL (l ++ m) = KL l ++ KL m := by simp [KL]
theorem KL_back (l : List ByteArray) : (KL l).map (fun b => (⟨b.toArray⟩ : ByteArray)) = l := by
  unfold KL
  rw [List.map_map]
  conv => rhs; rw [← List.map_id l]
  exact List.map_congr_left fun s _ => B_self s
theorem rdS (r : List ByteArray) (i : Nat) (h : i < r.length) : rdOf ByteArray.empty r (i : Int) = r[i] := by
  unfold rdOf
  rw [Int.toNat_natCast, List.getD_eq_getElem?_getD, List.getElem?_eq_getElem h]
  rfl
theorem within_k (l : List ByteArray) (s : ByteArray) (hl : l.length ≤ 4000000) : spec_l7Within.fv l s = some (decide (s.data.toList ∈ KL l)) := by
  rw [within l s hl, Lib.toList_data]
  have : l.map ByteArray.toList = KL l := by unfold KL; exact List.map_congr_left fun s _ => Lib.toList_data s
  rw [this]
theorem put_loop (l : List ByteArray) (a : ByteArray) (hs : (KL l).Pairwise (· < ·)) (hn : a.data.toList ∉ KL l) (hl : l.length ≤ 4000000) (d : Nat) : ∀ i : Nat, l.length - i = d → i ≤ l.length →
    (∀ x, x ∈ (KL l).take i → x < a.data.toList) →
    ∃ r, spec_l10Put.l0v l a (i : Int) = some r ∧ (KL r).Pairwise (· < ·) ∧ (∀ x, x ∈ KL r ↔ x = a.data.toList ∨ x ∈ KL l) ∧ r.length ≤ l.length + 1 := by
  have fin : ∀ i : Nat, i ≤ l.length → (∀ x, x ∈ (KL l).take i → x < a.data.toList) → (∀ x, x ∈ (KL l).drop i → a.data.toList < x) →
      ∃ r, spec_l10Put.j0v l a (i : Int) = some r ∧ (KL r).Pairwise (· < ·) ∧ (∀ x, x ∈ KL r ↔ x = a.data.toList ∨ x ∈ KL l) ∧ r.length ≤ l.length + 1 := by
    intro i hi h1 h2
    refine ⟨l.take i ++ [a] ++ l.drop i, ?_, ?_, ?_, ?_⟩
    · rw [spec_l10Put.j0v_eq, Int.toNat_natCast, if_pos (by omega), if_pos (by omega), List.nil_append, if_pos (by simp; omega), if_pos (by simp; omega), if_pos (by simp; omega)]
    · have e : KL (l.take i ++ [a] ++ l.drop i) = (KL l).take i ++ ([a.data.toList] ++ (KL l).drop i) := by simp [KL]
      rw [e]
      have hs' := hs
      rw [← List.take_append_drop i (KL l)] at hs'
      obtain ⟨p1, p2, p3⟩ := List.pairwise_append.1 hs'
      refine List.pairwise_append.2 ⟨p1, List.pairwise_append.2 ⟨List.pairwise_singleton .., p2, ?_⟩, ?_⟩
      · intro x hx y hy
        rw [List.mem_singleton] at hx
        subst hx; exact h2 y hy
      · intro x hx y hy
        rcases List.mem_append.1 hy with hy | hy
        · rw [List.mem_singleton] at hy
          subst hy; exact h1 x hx
        · exact p3 x hx y hy
    · intro x
      have e : KL (l.take i ++ [a] ++ l.drop i) = (KL l).take i ++ ([a.data.toList] ++ (KL l).drop i) := by simp [KL]
      have e2 : x ∈ KL l ↔ x ∈ (KL l).take i ∨ x ∈ (KL l).drop i := by rw [← List.mem_append, List.take_append_drop]
      rw [e, List.mem_append, List.mem_append, List.mem_singleton, e2]
      constructor
      · rintro (h | h | h)
        · exact .inr (.inl h)
        · exact .inl h
        · exact .inr (.inr h)
      · rintro (h | h | h)
        · exact .inr (.inl h)
        · exact .inl h
        · exact .inr (.inr h)
    · simp; omega
  induction d with
  | zero =>
    intro i h1 h2 h3
    have e : i = l.length := by omega
    rw [spec_l10Put.l0v_eq, if_neg (by omega)]
    refine fin i h2 h3 fun x hx => ?_
    rw [List.drop_of_length_le (by rw [KL_len]; omega)] at hx
    cases hx
  | succ d ih =>
    intro i h1 h2 h3
    have hi : i < l.length := by omega
    have hk : i < (KL l).length := by rw [KL_len]; exact hi
    have hg : (KL l)[i] = l[i].data.toList := by simp [KL]
    rw [spec_l10Put.l0v_eq, if_pos (by omega), if_pos (by omega), rdS l i hi, Lib.toList_data, Lib.toList_data, tl_less, ← hg]
    by_cases hc : (KL l)[i] < a.data.toList
    · rw [if_pos (decide_eq_true hc), wrap_in (by omega) (by omega), show (i : Int) + 1 = ((i + 1 : Nat) : Int) by omega]
      refine ih (i + 1) (by omega) (by omega) fun x hx => ?_
      rw [List.take_succ_eq_append_getElem hk, List.mem_append, List.mem_singleton] at hx
      rcases hx with hx | hx
      · exact h3 x hx
      · subst hx; exact hc
    · rw [if_neg (by simp only [decide_eq_true_eq]; exact hc)]
      refine fin i h2 h3 fun x hx => ?_
      have hne : (KL l)[i] ≠ a.data.toList := fun e => hn (e ▸ List.getElem_mem hk)
      have hlt := tl_tri _ _ hc hne
      have hp := hs
      rw [← List.take_append_drop i (KL l)] at hp
      obtain ⟨_, p2, _⟩ := List.pairwise_append.1 hp
      rw [List.drop_eq_getElem_cons hk] at hx p2
      rcases List.mem_cons.1 hx with e | e
      · subst e; exact hlt
      · exact tl_trans hlt ((List.pairwise_cons.1 p2).1 x e)
theorem put_ok (l : List ByteArray) (a : ByteArray) (hs : (KL l).Pairwise (· < ·)) (hl : l.length ≤ 4000000) :
    ∃ r, spec_l10Put.fv l a = some r ∧ (KL r).Pairwise (· < ·) ∧ (∀ x, x ∈ KL r ↔ x = a.data.toList ∨ x ∈ KL l) ∧ r.length ≤ l.length + 1 := by
  rw [spec_l10Put.fv_eq, within_k l a hl, Option.bind_some]
  by_cases h : a.data.toList ∈ KL l
  · rw [if_pos (decide_eq_true h)]
    refine ⟨l, rfl, hs, fun x => ⟨.inr, ?_⟩, by omega⟩
    rintro (e | e)
    · rw [e]; exact h
    · exact e
  · rw [if_neg (by simp only [decide_eq_true_eq]; exact h)]
    exact put_loop l a hs h hl l.length 0 (by omega) (by omega) fun x hx => by cases hx
def isV (n : S62) : Bool := decide (n.f0 = 4)
def isC (n : S62) : Bool := decide (n.f0 = 5) || decide (n.f0 = 34)
def vars (l : List S62) : List ByteArray := (l.filter isV).map (·.f2)
def cels (l : List S62) : List ByteArray := (l.filter isC).map (·.f2)
theorem vars_len (l : List S62) : (vars l).length ≤ l.length := by unfold vars; rw [List.length_map]; exact List.length_filter_le ..
theorem cels_len (l : List S62) : (cels l).length ≤ l.length := by unfold cels; rw [List.length_map]; exact List.length_filter_le ..
abbrev NS := List ByteArray × List ByteArray
/-- The reference's step: a name is put where it belongs. -/
noncomputable def stS (s : NS) (n : S62) : Option NS :=
  if n.f0 = 4 then (spec_l10Put.fv s.1 n.f2).bind fun t => some (t, s.2) else if n.f0 = 5 ∨ n.f0 = 34 then (spec_l10Put.fv s.2 n.f2).bind fun t => some (s.1, t) else some s
theorem spec_names (n : S62) (d : Nat) (h : (pre n).length ≤ d) (hd : d ≤ 2097153) (s : NS) : spec_l10Names.fv n.f0 n.f1 n.f2 n.f3 s.1 s.2 = (pre n).foldlM stS s := by
  refine walk (fun n s => spec_l10Names.fv n.f0 n.f1 n.f2 n.f3 s.1 s.2) (fun n i s => spec_l10Names.l0v s.1 s.2 (i : Int) n.f0 n.f1 n.f2 n.f3) stS ?_ ?_ ?_ d n h hd s
  · intro n s
    show spec_l10Names.fv n.f0 n.f1 n.f2 n.f3 s.1 s.2 = _
    unfold stS
    rw [spec_l10Names.fv_eq]
    by_cases h4 : n.f0 = 4
    · rw [if_pos h4, if_pos h4, Option.bind_assoc]
      congr 1; funext t
      rw [spec_l10Names.j0v_eq]; rfl
    · rw [if_neg h4, if_neg h4]
      by_cases h5 : n.f0 = 5
      · rw [if_pos h5, if_pos (.inl h5), spec_l10Names.j1v_eq, if_pos (by simp [h5]), Option.bind_assoc]
        congr 1; funext t
        rw [spec_l10Names.j0v_eq]; rfl
      · rw [if_neg h5, spec_l10Names.j1v_eq]
        by_cases h34 : n.f0 = 34
        · rw [if_pos (by simp [h34]), if_pos (.inr h34), Option.bind_assoc]
          congr 1; funext t
          rw [spec_l10Names.j0v_eq]; rfl
        · rw [if_neg (by simp [h34]), if_neg (by rintro (e | e); exact h5 e; exact h34 e), spec_l10Names.j0v_eq]; rfl
  · intro n i s hi hl
    show spec_l10Names.l0v s.1 s.2 (i : Int) n.f0 n.f1 n.f2 n.f3 = _
    rw [spec_l10Names.l0v_eq, if_pos (by omega), if_pos (by omega), rd_in2 n.f3 i hi, wrap_in (by omega) (by omega), show (i : Int) + 1 = ((i + 1 : Nat) : Int) by omega]
  · intro n s
    show spec_l10Names.l0v s.1 s.2 (n.f3.length : Int) n.f0 n.f1 n.f2 n.f3 = _
    rw [spec_l10Names.l0v_eq, if_neg (by omega)]
theorem fold_spec : ∀ (l : List S62) (s : NS), (KL s.1).Pairwise (· < ·) → (KL s.2).Pairwise (· < ·) → s.1.length + l.length ≤ 4000000 → s.2.length + l.length ≤ 4000000 →
    ∃ r : NS, l.foldlM stS s = some r ∧ (KL r.1).Pairwise (· < ·) ∧ (KL r.2).Pairwise (· < ·) ∧ (∀ x, x ∈ KL r.1 ↔ x ∈ KL s.1 ∨ x ∈ KL (vars l)) ∧ (∀ x, x ∈ KL r.2 ↔ x ∈ KL s.2 ∨ x ∈ KL (cels l)) ∧ r.1.length ≤ s.1.length + l.length ∧ r.2.length ≤ s.2.length + l.length
  | [], s, h1, h2, _, _ => ⟨s, rfl, h1, h2, by simp [vars, KL], by simp [cels, KL], by simp, by simp⟩
  | n :: l, s, h1, h2, h3, h4 => by
    rw [List.length_cons] at h3 h4
    rw [List.foldlM_cons]
    show ∃ r : NS, (stS s n).bind (fun t => l.foldlM stS t) = some r ∧ _
    unfold stS
    by_cases c4 : n.f0 = 4
    · obtain ⟨t, e, q1, q2, q3⟩ := put_ok s.1 n.f2 h1 (by omega)
      obtain ⟨r, f, r1, r2, r3, r4, r5, r6⟩ := fold_spec l (t, s.2) q1 h2 (by show t.length + _ ≤ _; omega) (by show s.2.length + _ ≤ _; omega)
      rw [if_pos c4, e]
      have hv : vars (n :: l) = n.f2 :: vars l := by simp [vars, isV, c4]
      have hc : cels (n :: l) = cels l := by simp [cels, isC, c4]
      refine ⟨r, f, r1, r2, fun x => ?_, fun x => by rw [hc]; exact r4 x, ?_, ?_⟩
      · rw [hv, r3 x, q2 x]
        show _ ↔ x ∈ KL s.1 ∨ x ∈ n.f2.data.toList :: KL (vars l)
        rw [List.mem_cons]
        constructor
        · rintro ((a | a) | a)
          · exact .inr (.inl a)
          · exact .inl a
          · exact .inr (.inr a)
        · rintro (a | a | a)
          · exact .inl (.inr a)
          · exact .inl (.inl a)
          · exact .inr a
      · have : r.1.length ≤ t.length + l.length := r5
        rw [List.length_cons]; omega
      · have : r.2.length ≤ s.2.length + l.length := r6
        rw [List.length_cons]; omega
    · rw [if_neg c4]
      have hv : vars (n :: l) = vars l := by simp [vars, isV, c4]
      by_cases c5 : n.f0 = 5 ∨ n.f0 = 34
      · obtain ⟨t, e, q1, q2, q3⟩ := put_ok s.2 n.f2 h2 (by omega)
        obtain ⟨r, f, r1, r2, r3, r4, r5, r6⟩ := fold_spec l (s.1, t) h1 q1 (by show s.1.length + _ ≤ _; omega) (by show t.length + _ ≤ _; omega)
        rw [if_pos c5, e]
        have ic : isC n = true := by unfold isC; rcases c5 with h | h <;> simp [h]
        have hc : cels (n :: l) = n.f2 :: cels l := by simp [cels, ic]
        refine ⟨r, f, r1, r2, fun x => by rw [hv]; exact r3 x, fun x => ?_, ?_, ?_⟩
        · rw [hc, r4 x, q2 x]
          show _ ↔ x ∈ KL s.2 ∨ x ∈ n.f2.data.toList :: KL (cels l)
          rw [List.mem_cons]
          constructor
          · rintro ((a | a) | a)
            · exact .inr (.inl a)
            · exact .inl a
            · exact .inr (.inr a)
          · rintro (a | a | a)
            · exact .inl (.inr a)
            · exact .inl (.inl a)
            · exact .inr a
        · have : r.1.length ≤ s.1.length + l.length := r5
          rw [List.length_cons]; omega
        · have : r.2.length ≤ t.length + l.length := r6
          rw [List.length_cons]; omega
      · obtain ⟨r, f, r1, r2, r3, r4, r5, r6⟩ := fold_spec l s h1 h2 (by omega) (by omega)
        have hc : cels (n :: l) = cels l := by simp [cels, isC, c5]
        rw [if_neg c5]
        refine ⟨r, f, r1, r2, fun x => by rw [hv]; exact r3 x, fun x => by rw [hc]; exact r4 x, ?_, ?_⟩ <;> rw [List.length_cons] <;> omega

/-! ### the program's walk of all nodes -/
def ruleN (r : S64) : List S62 := pre ⟨r.f1, r.f2, r.f3, r.f4⟩ ++ pre ⟨r.f5, r.f6, r.f7, r.f8⟩
def nodesN (l : List S64) : List S62 := (l.map ruleN).flatten
theorem nodes_cut (l : List S64) (i : Nat) (h : i < l.length) : nodesN (l.drop i) = pre ⟨l[i].f1, l[i].f2, l[i].f3, l[i].f4⟩ ++ (pre ⟨l[i].f5, l[i].f6, l[i].f7, l[i].f8⟩ ++ nodesN (l.drop (i + 1))) := by
  unfold nodesN
  rw [List.drop_eq_getElem_cons h, List.map_cons, List.flatten_cons]
  show ruleN l[i] ++ _ = _
  unfold ruleN
  rw [List.append_assoc]
theorem nodes_mem {l : List S64} {r : S64} (h : r ∈ l) {n : S62} (hn : n ∈ ruleN r) : n ∈ nodesN l :=
  List.mem_flatten.2 ⟨_, List.mem_map_of_mem h, hn⟩
theorem nodes_le : ∀ (l : List S64) (r : S64), r ∈ l → (ruleN r).length ≤ (nodesN l).length
  | [], _, h => by cases h
  | q :: l, r, h => by
    have e : nodesN (q :: l) = ruleN q ++ nodesN l := rfl
    rw [e, List.length_append]
    rcases List.mem_cons.1 h with e | e
    · subst e; omega
    · have := nodes_le l r e; omega
/-- Rounds over rules that carry something on. -/
theorem walkR {σ : Type} (G : S62 → σ → Option σ) (st : σ → S62 → Option σ) (x : List S64) (L : Nat → σ → Option σ)
    (hx : (nodesN x).length ≤ 2097153) (hl : x.length ≤ 1048576)
    (hG : ∀ n : S62, (pre n).length ≤ 2097153 → ∀ s, G n s = (pre n).foldlM st s)
    (hC : ∀ i s (h : i < x.length), L i s = (G ⟨x[i].f1, x[i].f2, x[i].f3, x[i].f4⟩ s).bind fun t => (G ⟨x[i].f5, x[i].f6, x[i].f7, x[i].f8⟩ t).bind fun u => L (i + 1) u)
    (hE : ∀ s, L x.length s = some s) (s : σ) : L 0 s = (nodesN x).foldlM st s := by
  have hL : ∀ e i : Nat, x.length - i = e → i ≤ x.length → ∀ t, L i t = (nodesN (x.drop i)).foldlM st t := by
    intro e
    induction e with
    | zero =>
      intro i h1 h2 t
      have : i = x.length := by omega
      subst this
      rw [hE, List.drop_of_length_le (by omega)]; rfl
    | succ e ihe =>
      intro i h1 h2 t
      have hi : i < x.length := by omega
      have hr := nodes_le x x[i] (List.getElem_mem hi)
      unfold ruleN at hr
      rw [List.length_append] at hr
      rw [hC i t hi, hG _ (by omega), nodes_cut _ _ hi, List.foldlM_append]
      show Option.bind _ _ = Option.bind _ _
      congr 1; funext u
      rw [hG _ (by omega), List.foldlM_append]
      show Option.bind _ _ = Option.bind _ _
      congr 1; funext v
      exact ihe (i + 1) (by omega) (by omega) v
  have := hL x.length 0 (by omega) (by omega) s
  rw [List.drop_zero] at this
  exact this
theorem spec_all (x : List S64) (hl : x.length ≤ 1048576) (hx : (nodesN x).length ≤ 2097153) : spec_Names.fv x = (nodesN x).foldlM stS (([], []) : NS) := by
  rw [spec_Names.fv_eq]
  refine walkR (fun n s => spec_l10Names.fv n.f0 n.f1 n.f2 n.f3 s.1 s.2) stS x (fun i s => spec_Names.l0v x s.1 s.2 (i : Int)) hx hl (fun n h s => spec_names n _ h (by omega) s) ?_ ?_ (([], []) : NS)
  · intro i s hi
    show spec_Names.l0v x s.1 s.2 (i : Int) = _
    rw [spec_Names.l0v_eq, if_pos (by omega), if_pos (by omega), rdrule2 x i hi, wrap_in (by omega) (by omega), show (i : Int) + 1 = ((i + 1 : Nat) : Int) by omega]
  · intro s
    show spec_Names.l0v x s.1 s.2 (x.length : Int) = _
    rw [spec_Names.l0v_eq, if_neg (by omega)]
/-- The program's step: a name is put behind the others. -/
noncomputable def stI (s : NS) (n : S62) : Option NS := impl_Names_1.fv n.f0 n.f1 n.f2 n.f3 s.1 s.2
theorem impl_names (n : S62) (d : Nat) (h : (pre n).length ≤ d) (hd : d ≤ 2097153) (s : NS) : impl_each__impl_Names_1.fv n.f0 n.f1 n.f2 n.f3 s.1 s.2 = (pre n).foldlM stI s := by
  refine walk (fun n s => impl_each__impl_Names_1.fv n.f0 n.f1 n.f2 n.f3 s.1 s.2) (fun n i s => impl_each__impl_Names_1.l0v n.f3 (n.f3.length : Int) (i : Int) s.1 s.2) stI ?_ ?_ ?_ d n h hd s
  · intro n s
    show impl_each__impl_Names_1.fv n.f0 n.f1 n.f2 n.f3 s.1 s.2 = _
    rw [impl_each__impl_Names_1.fv_eq]; rfl
  · intro n i s hi hl
    show impl_each__impl_Names_1.l0v n.f3 (n.f3.length : Int) (i : Int) s.1 s.2 = _
    rw [impl_each__impl_Names_1.l0v_eq, if_pos (by omega), if_pos (by omega), if_pos (by omega), rd_in2 n.f3 i hi, wrap_in (by omega) (by omega), show (i : Int) + 1 = ((i + 1 : Nat) : Int) by omega]
  · intro n s
    show impl_each__impl_Names_1.l0v n.f3 (n.f3.length : Int) (n.f3.length : Int) s.1 s.2 = _
    rw [impl_each__impl_Names_1.l0v_eq, if_neg (by omega)]
theorem impl_all (x : List S64) (hl : x.length ≤ 1048576) (hx : (nodesN x).length ≤ 2097153) : impl_eachNode__impl_Names_1.fv x [] [] = (nodesN x).foldlM stI (([], []) : NS) := by
  rw [impl_eachNode__impl_Names_1.fv_eq]
  refine walkR (fun n s => impl_each__impl_Names_1.fv n.f0 n.f1 n.f2 n.f3 s.1 s.2) stI x (fun i s => impl_eachNode__impl_Names_1.l0v x (x.length : Int) (i : Int) s.1 s.2) hx hl (fun n h s => impl_names n _ h (by omega) s) ?_ ?_ (([], []) : NS)
  · intro i s hi
    show impl_eachNode__impl_Names_1.l0v x (x.length : Int) (i : Int) s.1 s.2 = _
    rw [impl_eachNode__impl_Names_1.l0v_eq, if_pos (by omega), if_pos (by omega), if_pos (by omega), rdrule2 x i hi, wrap_in (by omega) (by omega), show (i : Int) + 1 = ((i + 1 : Nat) : Int) by omega]
  · intro s
    show impl_eachNode__impl_Names_1.l0v x (x.length : Int) (x.length : Int) s.1 s.2 = _
    rw [impl_eachNode__impl_Names_1.l0v_eq, if_neg (by omega)]
theorem fold_impl : ∀ (l : List S62) (s : NS), s.1.length + l.length ≤ 8796093022208 → s.2.length + l.length ≤ 8796093022208 → l.foldlM stI s = some (s.1 ++ vars l, s.2 ++ cels l)
  | [], s, _, _ => by
    have h1 : vars ([] : List S62) = [] := rfl
    have h2 : cels ([] : List S62) = [] := rfl
    rw [h1, h2, List.append_nil, List.append_nil]; rfl
  | n :: l, s, h1, h2 => by
    rw [List.length_cons] at h1 h2
    rw [List.foldlM_cons]
    show (stI s n).bind (fun t => l.foldlM stI t) = _
    have hst : stI s n = impl_Names_1.fv n.f0 n.f1 n.f2 n.f3 s.1 s.2 := rfl
    rw [hst, impl_Names_1.fv_eq]
    by_cases c4 : n.f0 = 4
    · have hv : vars (n :: l) = n.f2 :: vars l := by simp [vars, isV, c4]
      have hc : cels (n :: l) = cels l := by simp [cels, isC, c4]
      rw [if_pos c4, if_pos (by omega), Option.bind_some, fold_impl l _ (by simp; omega) (by show s.2.length + _ ≤ _; omega), hv, hc]
      show some (s.1 ++ [n.f2] ++ vars l, _) = _
      rw [List.append_assoc]; rfl
    · have hv : vars (n :: l) = vars l := by simp [vars, isV, c4]
      rw [if_neg c4]
      have key : ∀ b : Bool, b = (decide (n.f0 = 5) || decide (n.f0 = 34)) → (impl_Names_1.j0v b s.1 s.2 n.f0 n.f1 n.f2 n.f3).bind (fun t => l.foldlM stI t) = some (s.1 ++ vars (n :: l), s.2 ++ cels (n :: l)) := by
        intro b hb
        rw [impl_Names_1.j0v_eq, hv]
        cases hb2 : b
        · have hc : cels (n :: l) = cels l := by
            have : isC n = false := by unfold isC; rw [← hb, hb2]
            simp [cels, this]
          rw [if_neg (by simp), Option.bind_some, fold_impl l _ (by show s.1.length + _ ≤ _; omega) (by show s.2.length + _ ≤ _; omega), hc]
        · have hc : cels (n :: l) = n.f2 :: cels l := by
            have : isC n = true := by unfold isC; rw [← hb, hb2]
            simp [cels, this]
          rw [if_pos rfl, if_pos (by omega), Option.bind_some, fold_impl l _ (by show s.1.length + _ ≤ _; omega) (by simp; omega), hc]
          show some (_, s.2 ++ [n.f2] ++ cels l) = _
          rw [List.append_assoc]; rfl
      by_cases c5 : n.f0 = 5
      · rw [if_pos c5]; exact key _ (by simp [c5])
      · rw [if_neg c5]; exact key _ (by by_cases c : n.f0 = 34 <;> simp [c5, c])
theorem sorted_i (l : List ByteArray) (hl : l.length ≤ 4000000) : impl_sorted.f l = some ((Lib.compact ((KL l).mergeSort fun x y => decide (x ≤ y))).map fun b => (⟨b.toArray⟩ : ByteArray)) := by
  unfold impl_sorted.f slices_Sort_string.f slices_Compact_string.f
  rw [if_pos (by omega), Option.bind_some, if_pos (by simp; omega), Option.bind_some, List.map_map]
  congr 2
  have : (fun s : ByteArray => s.data.toList) ∘ (fun b : List UInt8 => (⟨b.toArray⟩ : ByteArray)) = id := by funext b; simp
  rw [this, List.map_id]; rfl
/-- Both tell the same names; the program does so of every program. -/
theorem names_both (x : List S64) (hl : x.length ≤ 1048576) (hx : (nodesN x).length ≤ 2097153) : ∃ v c : List ByteArray, spec_Names.fv x = some (v, c) ∧ impl_Names.fv x = some (v, c) ∧ v.length ≤ 4000000 ∧ c.length ≤ 4000000 := by
  obtain ⟨r, e, p1, p2, p3, p4, p5, p6⟩ := fold_spec (nodesN x) ([], []) List.Pairwise.nil List.Pairwise.nil (by simp; omega) (by simp; omega)
  have hv := vars_len (nodesN x)
  have hc := cels_len (nodesN x)
  have e1 := sorted_is (KL (vars (nodesN x))) (KL r.1) p1 (fun a => by rw [p3 a]; simp [KL])
  have e2 := sorted_is (KL (cels (nodesN x))) (KL r.2) p2 (fun a => by rw [p4 a]; simp [KL])
  refine ⟨r.1, r.2, by rw [spec_all x hl hx, e], ?_, ?_, ?_⟩
  · rw [impl_Names.fv_eq, impl_all x hl hx, fold_impl _ _ (by simp; omega) (by simp; omega), Option.bind_some, List.nil_append, List.nil_append, sorted_i (vars (nodesN x)) (by omega), Option.bind_some, sorted_i (cels (nodesN x)) (by omega), Option.bind_some, e1, e2, KL_back, KL_back]
  · have : r.1.length ≤ 0 + _ := p5
    omega
  · have : r.2.length ≤ 0 + _ := p6
    omega

/-! ### how many nodes there are; lists of texts: alike, marked, held -/
theorem rule_pre (r : S58) : ruleN (cv_Rule r) = pre (conv (whn r)) ++ pre (conv (thn r)) := by
  show pre ⟨(conv (whn r)).f0, (conv (whn r)).f1, (conv (whn r)).f2, (conv (whn r)).f3⟩ ++ pre ⟨(conv (thn r)).f0, (conv (thn r)).f1, (conv (thn r)).f2, (conv (thn r)).f3⟩ = _
  rw [eta2, eta2]
theorem nodes_bound : ∀ l : List S58, (∀ r, r ∈ l → bl_Rule r ≤ 1048576) → (nodesN (l.map cv_Rule)).length ≤ (l.map bl_Rule).sum + 2 * l.length
  | [], _ => by simp [nodesN]
  | r :: l, h => by
    have h1 := nodes_bound l fun q hq => h q (List.mem_cons_of_mem _ hq)
    have e : nodesN ((r :: l).map cv_Rule) = (pre (conv (whn r)) ++ pre (conv (thn r))) ++ nodesN (l.map cv_Rule) := by
      rw [← rule_pre]; rfl
    have h2 := pre_conv _ (whn r) (Nat.le_refl _)
    have h3 := pre_conv _ (thn r) (Nat.le_refl _)
    have h4 : bl_Rule r = bulk (whn r) + (bulk (thn r) + 0) := rfl
    rw [e, List.length_append, List.length_append, List.map_cons, List.sum_cons, List.length_cons]
    omega
/-- Marks in a row, each element by its own number; what is marked is held. -/
theorem mark_run8 {B : Type} (F : List B → Int → Int → Option (Int × List B)) (s : Nat) (val : Int → B) (top : Int)
    (hF : ∀ (x : List B) (n : Int) (i : Nat), i < x.length → x.length ≤ 8000000 → 0 < n → n ≤ top → F x n (i : Int) = F (x.set i (val n)) (n + s) ((i + 1 : Nat) : Int))
    (hE : ∀ (x : List B) (n : Int) (i : Nat), ¬ i < x.length → F x n (i : Int) = some (n, x)) (d : Nat) :
    ∀ (x : List B) (n : Int) (i : Nat), x.length - i = d → i ≤ x.length → x.length ≤ 8000000 → 0 < n → n + s * d ≤ top →
      ∃ m, F x n i = some (n + s * d, m) ∧ m.length = x.length ∧ (∀ (j : Nat), j < i → m[j]? = x[j]?) ∧ ∀ j : Nat, i ≤ j → j < x.length → m[j]? = some (val (n + s * (j - i : Nat))) := by
  induction d with
  | zero =>
    intro x n i h1 h2 h3 h4 h5
    refine ⟨x, by rw [hE x n i (by omega)]; simp, rfl, fun _ _ => rfl, fun j h h' => by omega⟩
  | succ d ih =>
    intro x n i h1 h2 h3 h4 h5
    have hs : ((s : Int) * ((d + 1 : Nat) : Int)) = s + s * d := by rw [Int.natCast_succ, Int.mul_add, Int.mul_one, Int.add_comm]
    have hp : (0 : Int) ≤ s * d := Int.mul_nonneg (by omega) (by omega)
    obtain ⟨m, e1, e2, e3, e4⟩ := ih (x.set i (val n)) (n + s) (i + 1) (by simp; omega) (by simp; omega) (by simpa using h3) (by omega) (by omega)
    refine ⟨m, ?_, by simpa using e2, fun j hj => ?_, fun j hj hj' => ?_⟩
    · rw [hF x n i (by omega) h3 h4 (by omega), e1, hs]; congr 2; omega
    · rw [e3 j (by omega), List.getElem?_set_ne (by omega)]
    · by_cases hji : j = i
      · subst hji
        rw [e3 j (by omega), List.getElem?_set_self (by omega)]; simp
      · rw [e4 j (by omega) (by simpa using hj')]
        have : (((j - i : Nat) : Int)) = 1 + ((j - (i + 1) : Nat) : Int) := by omega
        rw [this, Int.mul_add, Int.mul_one, ← Int.add_assoc]

theorem held_run8 {B : Type} (G : List B → Int → Int → Option Int) (s : Nat) (val : Int → B) (top : Int)
    (hG : ∀ (x : List B) (n : Int) (i : Nat), i < x.length → x.length ≤ 8000000 → x[i]? = some (val n) → 0 < n → n ≤ top → G x n (i : Int) = G x (n + s) ((i + 1 : Nat) : Int))
    (hE : ∀ (x : List B) (n : Int) (i : Nat), ¬ i < x.length → G x n (i : Int) = some n) (d : Nat) :
    ∀ (m : List B) (n : Int) (i : Nat), m.length - i = d → i ≤ m.length → m.length ≤ 8000000 → 0 < n → n + s * d ≤ top →
      (∀ j : Nat, i ≤ j → j < m.length → m[j]? = some (val (n + s * (j - i : Nat)))) → G m n i = some (n + s * d) := by
  induction d with
  | zero =>
    intro x n i h1 h2 h3 h4 h5 h6
    rw [hE x n i (by omega)]; simp
  | succ d ih =>
    intro x n i h1 h2 h3 h4 h5 h6
    have hs : ((s : Int) * ((d + 1 : Nat) : Int)) = s + s * d := by rw [Int.natCast_succ, Int.mul_add, Int.mul_one, Int.add_comm]
    have hp : (0 : Int) ≤ s * d := Int.mul_nonneg (by omega) (by omega)
    have h0 := h6 i (by omega) (by omega)
    rw [Nat.sub_self] at h0
    rw [hG x n i (by omega) h3 (by simpa using h0) h4 (by omega), ih x (n + s) (i + 1) (by omega) (by omega) h3 (by omega) (by omega) (fun j hj hj' => ?_), hs, Int.add_assoc]
    rw [h6 j (by omega) hj']
    have : (((j - i : Nat) : Int)) = 1 + ((j - (i + 1) : Nat) : Int) := by omega
    rw [this, Int.mul_add, Int.mul_one, ← Int.add_assoc]

theorem mark_held8 {B : Type} (F : List B → Int → Int → Option (Int × List B)) (G : List B → Int → Int → Option Int) (s : Nat) (val : Int → B) (top : Int)
    (hF : ∀ (x : List B) (n : Int) (i : Nat), i < x.length → x.length ≤ 8000000 → 0 < n → n ≤ top → F x n (i : Int) = F (x.set i (val n)) (n + s) ((i + 1 : Nat) : Int))
    (hE : ∀ (x : List B) (n : Int) (i : Nat), ¬ i < x.length → F x n (i : Int) = some (n, x))
    (hG : ∀ (x : List B) (n : Int) (i : Nat), i < x.length → x.length ≤ 8000000 → x[i]? = some (val n) → 0 < n → n ≤ top → G x n (i : Int) = G x (n + s) ((i + 1 : Nat) : Int))
    (hE' : ∀ (x : List B) (n : Int) (i : Nat), ¬ i < x.length → G x n (i : Int) = some n)
    (x : List B) (n : Int) (h3 : x.length ≤ 8000000) (h4 : 0 < n) (h5 : n + s * x.length ≤ top) :
    ∃ m, F x n 0 = some (n + s * x.length, m) ∧ G m n 0 = some (n + s * x.length) ∧ m.length = x.length := by
  obtain ⟨m, e1, e2, e3, e4⟩ := mark_run8 F s val top hF hE x.length x n 0 (by omega) (by omega) h3 h4 h5
  refine ⟨m, e1, ?_, e2⟩
  have := held_run8 G s val top hG hE' x.length m n 0 (by omega) (by omega) (by omega) h4 h5 (fun j h h' => e4 j h (by omega))
  exact this

theorem rdOf_in (r : List ByteArray) (i : Nat) (h : i < r.length) : rdOf ByteArray.empty r (i : Int) = r[i] := rdS r i h
theorem eq_StringS (r : List ByteArray) (hr : r.length ≤ 4000000) : laws_eqStringS.fv r r = some true := by
  rw [laws_eqStringS.fv_eq, if_pos rfl]
  refine eq_all laws_eqStringS.l0v (fun x y i => some (decide ((rdOf ByteArray.empty x i).toList = (rdOf ByteArray.empty y i).toList))) (fun x y i => ?_) r (by omega) (fun i h => by simp)
  rw [laws_eqStringS.l0v_eq, Option.bind_some]
  simp only [decide_eq_true_eq]
theorem eq_StringS2 (r : List ByteArray) (hr : r.length ≤ 4000000) : laws_eqStringS_2.fv r r = some true := by
  rw [laws_eqStringS_2.fv_eq, if_pos rfl]
  refine eq_all laws_eqStringS_2.l0v (fun x y i => some (decide ((rdOf ByteArray.empty x i).toList = (rdOf ByteArray.empty y i).toList))) (fun x y i => ?_) r (by omega) (fun i h => by simp)
  rw [laws_eqStringS_2.l0v_eq, Option.bind_some]
  simp only [decide_eq_true_eq]
theorem marks_from (r : List ByteArray) (n : Int) (hr : r.length ≤ 4000000) (h0 : 0 < n) (h1 : n ≤ 8000000) : ∃ m, laws_markStringS.fv r n = some (n + (r.length : Int), m) ∧ laws_heldStringS.fv m n = some (n + (r.length : Int)) := by
  obtain ⟨m, e1, e2, _⟩ := mark_held8 laws_markStringS.l0v laws_heldStringS.l0v 1 mt 100000000
    (fun x n i h1 h2 h3 h4 => by
      rw [laws_markStringS.l0v_eq, if_pos (by omega), mt_eq n h3 (by omega), Option.bind_some, if_pos (by omega), Int.toNat_natCast, wrap_in (by omega) (by omega), wrap_in (by omega) (by omega)]
      rfl)
    (fun x n i h => by rw [laws_markStringS.l0v_eq, if_neg (by omega)])
    (fun x n i h1 h2 hx h3 h4 => by
      have hv : rdOf ByteArray.empty x (i : Int) = mt n := by
        rw [rdOf_in x i h1]
        rw [List.getElem?_eq_getElem h1] at hx
        exact Option.some.inj hx
      rw [laws_heldStringS.l0v_eq, if_pos (by omega), if_pos (by omega), mt_eq n h3 (by omega), Option.bind_some, hv, if_pos rfl, wrap_in (by omega) (by omega), wrap_in (by omega) (by omega)]
      rfl)
    (fun x n i h => by rw [laws_heldStringS.l0v_eq, if_neg (by omega)])
    r n (by omega) (by omega) (by omega)
  refine ⟨m, ?_, ?_⟩
  · rw [laws_markStringS.fv_eq, e1]; simp
  · rw [laws_heldStringS.fv_eq, e2]; simp
/-! ### marks in trees of nodes -/
theorem wrap_small (t : Int) (h : 0 ≤ t) (h' : t ≤ 2000000000) : wrap64 t = t := wrap_in (by omega) (by omega)
def pL (l : List S62) : Nat := ((l.map pre).flatten).length
theorem pL_nil : pL [] = 0 := rfl
theorem pL_cons (x : S62) (l : List S62) : pL (x :: l) = 1 + pL x.f3 + pL l := by
  unfold pL
  rw [List.map_cons, List.flatten_cons, List.length_append, pre_eq, List.length_cons]; omega
theorem rd_mid (pre xs : List S62) (x : S62) : rd_T62 (pre ++ x :: xs) (pre.length : Int) = x := by
  unfold rd_T62
  rw [Int.toNat_natCast, List.getD_eq_getElem?_getD, List.getElem?_append_right (Nat.le_refl _), Nat.sub_self]
  rfl
theorem rd_midR (pre xs : List S64) (x : S64) : rd_T64 (pre ++ x :: xs) (pre.length : Int) = x := by
  unfold rd_T64
  rw [Int.toNat_natCast, List.getD_eq_getElem?_getD, List.getElem?_append_right (Nat.le_refl _), Nat.sub_self]
  rfl
theorem set_mid {α : Type} (pre xs : List α) (x v : α) : (pre ++ x :: xs).set pre.length v = pre ++ v :: xs := by
  rw [List.set_append_right _ _ (Nat.le_refl _), Nat.sub_self, List.set_cons_zero]
theorem lt_mid {α : Type} (pre xs : List α) (x : α) : ((pre.length : Int) < ((pre ++ x :: xs).length : Int)) = True := by
  rw [List.length_append, List.length_cons]
  exact eq_true (by omega)
theorem app_mid {α : Type} (pre xs : List α) (x : α) : pre ++ x :: xs = (pre ++ [x]) ++ xs := by rw [List.append_assoc]; rfl
theorem len_mid {α : Type} (pre : List α) (x : α) : ((pre.length : Int) + 1) = ((pre ++ [x]).length : Int) := by rw [List.length_append]; rfl
theorem mark_loop (N : Nat) (ih : ∀ (l : List S62) (n : Int), pL l ≤ N → 0 < n → n + 3 * (pL l : Int) ≤ 1000000000 → ∃ l', laws_markNodeS.fv l n = some (n + 3 * (pL l : Int), l')) :
    ∀ (suf pre : List S62) (n : Int), pL suf ≤ N + 1 → pre.length + suf.length ≤ 1000000000 → 0 < n → n + 3 * (pL suf : Int) ≤ 1000000000 →
      ∃ l', laws_markNodeS.l0v (pre ++ suf) n (pre.length : Int) = some (n + 3 * (pL suf : Int), l')
  | [], pre, n, h1, h2, h3, h4 => by
    refine ⟨pre, ?_⟩
    rw [laws_markNodeS.l0v_eq, if_neg (by rw [List.append_nil]; omega), pL_nil]
    simp
  | x :: xs, pre, n, h1, h2, h3, h4 => by
    rw [pL_cons] at h1
    have e5 : (pL (x :: xs) : Int) = 1 + (pL x.f3 : Int) + (pL xs : Int) := by rw [pL_cons]; omega
    rw [e5] at h4 ⊢
    rw [List.length_cons] at h2
    obtain ⟨k', k1⟩ := ih x.f3 (n + 1 + 1 + 1) (by omega) (by omega) (by omega)
    obtain ⟨suf', m1⟩ := mark_loop N ih xs (pre ++ [(⟨n, n + 1, mt (n + 1 + 1), k'⟩ : S62)]) (n + 1 + 1 + 1 + 3 * (pL x.f3 : Int)) (by omega) (by rw [List.length_append, List.length_singleton]; omega) (by omega) (by omega)
    refine ⟨suf', ?_⟩
    rw [laws_markNodeS.l0v_eq, if_pos (by rw [lt_mid]; trivial), if_pos (by omega)]
    simp (disch := omega) only [Int.toNat_natCast, Option.bind_some, rd_mid, set_mid, lt_mid, if_true, wrap_small, mt_eq, k1]
    rw [len_mid pre (⟨n, n + 1, mt (n + 1 + 1), k'⟩ : S62), app_mid pre xs (⟨n, n + 1, mt (n + 1 + 1), k'⟩ : S62), m1]
    rw [show n + 1 + 1 + 1 + 3 * (pL x.f3 : Int) + 3 * (pL xs : Int) = n + 3 * (1 + (pL x.f3 : Int) + (pL xs : Int)) by omega]
theorem mark_tree (N : Nat) : ∀ (l : List S62) (n : Int), pL l ≤ N → 0 < n → n + 3 * (pL l : Int) ≤ 1000000000 → ∃ l', laws_markNodeS.fv l n = some (n + 3 * (pL l : Int), l') := by
  induction N with
  | zero =>
    intro l n h1 h2 h3
    have hl : l = [] := List.length_eq_zero_iff.1 (by have := flat_len l; unfold pL at h1; omega)
    subst hl
    refine ⟨[], ?_⟩
    rw [laws_markNodeS.fv_eq, laws_markNodeS.l0v_eq, if_neg (by simp), pL_nil]; simp
  | succ N ih =>
    intro l n h1 h2 h3
    have hll : l.length ≤ pL l := flat_len l
    obtain ⟨l', m1⟩ := mark_loop N ih l [] n h1 (by rw [List.length_nil]; omega) h2 h3
    refine ⟨l', ?_⟩
    rw [laws_markNodeS.fv_eq]; exact m1
def pR (l : List S64) : Nat := (l.map fun r => 7 + 3 * pL r.f4 + 3 * pL r.f8).sum
theorem pR_le : ∀ l : List S64, pR l ≤ l.length + 3 * (nodesN l).length
  | [] => Nat.le_refl _
  | r :: l => by
    have h := pR_le l
    have e1 : pR (r :: l) = 7 + 3 * pL r.f4 + 3 * pL r.f8 + pR l := by unfold pR; rw [List.map_cons, List.sum_cons]
    have e2 : nodesN (r :: l) = ruleN r ++ nodesN l := rfl
    have pp : ∀ y : S62, (pre y).length = 1 + pL y.f3 := fun y => by rw [pre_eq, List.length_cons, Nat.add_comm]; rfl
    have e3 : (ruleN r).length = 1 + pL r.f4 + (1 + pL r.f8) := by
      unfold ruleN
      rw [List.length_append, pp, pp]
    rw [e1, e2, List.length_append, e3, List.length_cons]; omega
set_option maxHeartbeats 4000000 in
theorem rules_loop (suf : List S64) : ∀ (pre : List S64) (n : Int), pre.length + suf.length ≤ 1000000000 → 0 < n → n + (pR suf : Int) ≤ 1000000000 →
      ∃ l', laws_markRuleS.l0v (pre ++ suf) n (pre.length : Int) = some (n + (pR suf : Int), l') := by
  induction suf with
  | nil =>
    intro pre n h2 h3 h4
    refine ⟨pre, ?_⟩
    rw [laws_markRuleS.l0v_eq, if_neg (by rw [List.append_nil]; omega)]
    simp [pR]
  | cons x xs ihx =>
    intro pre n h2 h3 h4
    have e5 : (pR (x :: xs) : Int) = 7 + 3 * (pL x.f4 : Int) + 3 * (pL x.f8 : Int) + (pR xs : Int) := by
      have : pR (x :: xs) = 7 + 3 * pL x.f4 + 3 * pL x.f8 + pR xs := by unfold pR; rw [List.map_cons, List.sum_cons]
      rw [this]; omega
    rw [e5] at h4 ⊢
    rw [List.length_cons] at h2
    obtain ⟨k1, g1⟩ := mark_tree _ x.f4 (n + 1 + 1 + 1 + 1) (Nat.le_refl _) (by omega) (by omega)
    obtain ⟨k2, g2⟩ := mark_tree _ x.f8 (n + 1 + 1 + 1 + 1 + 3 * (pL x.f4 : Int) + 1 + 1 + 1) (Nat.le_refl _) (by omega) (by omega)
    obtain ⟨y, hy⟩ : ∃ y : S64, y = ⟨n, n + 1, n + 1 + 1, mt (n + 1 + 1 + 1), k1, n + 1 + 1 + 1 + 1 + 3 * (pL x.f4 : Int), n + 1 + 1 + 1 + 1 + 3 * (pL x.f4 : Int) + 1, mt (n + 1 + 1 + 1 + 1 + 3 * (pL x.f4 : Int) + 1 + 1), k2⟩ := ⟨_, rfl⟩
    obtain ⟨suf', m1⟩ := ihx (pre ++ [y]) (n + 1 + 1 + 1 + 1 + 3 * (pL x.f4 : Int) + 1 + 1 + 1 + 3 * (pL x.f8 : Int)) (by rw [List.length_append, List.length_singleton]; omega) (by omega) (by omega)
    refine ⟨suf', ?_⟩
    rw [laws_markRuleS.l0v_eq, if_pos (by rw [lt_mid]; trivial), if_pos (by omega)]
    rw [wrap_small (n + 1) (by omega) (by omega), wrap_small (n + 1 + 1) (by omega) (by omega), wrap_small (n + 1 + 1 + 1) (by omega) (by omega), wrap_small (n + 1 + 1 + 1 + 1) (by omega) (by omega)]
    rw [rd_midR, Int.toNat_natCast, set_mid, Option.bind_some]
    rw [if_pos (by rw [lt_mid]; trivial), rd_midR]
    try dsimp only
    rw [set_mid, Option.bind_some]
    rw [if_pos (by rw [lt_mid]; trivial), rd_midR]
    try dsimp only
    rw [set_mid, Option.bind_some]
    rw [mt_eq _ (by omega) (by omega), Option.bind_some]
    rw [if_pos (by rw [lt_mid]; trivial), rd_midR]
    try dsimp only
    rw [set_mid, Option.bind_some]
    rw [if_pos (by rw [lt_mid]; trivial), rd_midR]
    try dsimp only
    rw [g1, Option.bind_some]
    try dsimp only
    rw [wrap_small (n + 1 + 1 + 1 + 1 + 3 * (pL x.f4 : Int) + 1) (by omega) (by omega), wrap_small (n + 1 + 1 + 1 + 1 + 3 * (pL x.f4 : Int) + 1 + 1) (by omega) (by omega), wrap_small (n + 1 + 1 + 1 + 1 + 3 * (pL x.f4 : Int) + 1 + 1 + 1) (by omega) (by omega)]
    try rw [rd_midR]
    try dsimp only
    rw [set_mid, Option.bind_some]
    rw [if_pos (by rw [lt_mid]; trivial), rd_midR]
    try dsimp only
    rw [set_mid, Option.bind_some]
    rw [if_pos (by rw [lt_mid]; trivial), rd_midR]
    try dsimp only
    rw [set_mid, Option.bind_some]
    rw [mt_eq _ (by omega) (by omega), Option.bind_some]
    rw [if_pos (by rw [lt_mid]; trivial), rd_midR]
    try dsimp only
    rw [set_mid, Option.bind_some]
    rw [if_pos (by rw [lt_mid]; trivial), rd_midR]
    try dsimp only
    rw [g2, Option.bind_some]
    try dsimp only
    rw [wrap_small ((pre.length : Int) + 1) (by omega) (by omega)]
    try rw [rd_midR]
    try dsimp only
    rw [set_mid, Option.bind_some]
    rw [← hy, len_mid pre y, app_mid pre xs y, m1]
    rw [show n + 1 + 1 + 1 + 1 + 3 * (pL x.f4 : Int) + 1 + 1 + 1 + 3 * (pL x.f8 : Int) + (pR xs : Int) = n + (7 + 3 * (pL x.f4 : Int) + 3 * (pL x.f8 : Int) + (pR xs : Int)) by omega]
theorem mark_rules (l : List S64) (n : Int) (h1 : l.length ≤ 1000000000) (h2 : 0 < n) (h3 : n + (pR l : Int) ≤ 1000000000) : ∃ l', laws_markRuleS.fv l n = some (n + (pR l : Int), l') := by
  rw [laws_markRuleS.fv_eq]
  exact rules_loop l [] n (by rw [List.length_nil]; omega) h2 h3
end FnExactNamesAid
open FnExactNamesAid

theorem FnExactNames : laws_FnExactNames.Pure := by
  intro x hx
  rw [laws_FnExactNames.fv_eq, sz_RuleS x hx 1048576 (by omega) (by omega), Option.bind_some]
  by_cases h : dn (bls_Rule x) 1048576 < 0
  · rw [if_pos h]
  · have hn := dn_pos h (by omega)
    have hb1 : bls_Rule x ≤ 1048576 := by omega
    have hb2 := hb1
    unfold bls_Rule at hb2
    have hlen : (x.map cv_Rule).length = x.length := List.length_map _
    have hbd := nodes_bound x fun r hr => by
      have := Go.Proofs.YtccldchklemogaaW.Bulk.le_sum (List.mem_map_of_mem (f := bl_Rule) hr)
      omega
    obtain ⟨v, c, n1, n2, n3, n4⟩ := names_both (x.map cv_Rule) (by omega) (by omega)
    have ht := to_RuleS x hx.2 hb1
    have hp := pR_le (x.map cv_Rule)
    obtain ⟨l', hm⟩ := mark_rules (x.map cv_Rule) 1 (by omega) (by omega) (by omega)
    obtain ⟨m1, a1, a2⟩ := marks_from v 1 n3 (by omega) (by omega)
    obtain ⟨m2, b1, b2⟩ := marks_from c (1 + (v.length : Int)) n4 (by omega) (by omega)
    have ev := eq_StringS v n3
    have ec := eq_StringS c n4
    have ev2 := eq_StringS2 v n3
    have ec2 := eq_StringS2 c n4
    rw [if_neg h, ht]
    simp only [Option.bind_some, n1, n2, ev, ec, if_true, Bool.not_true]
    rw [laws_FnExactNames.j1v_eq, if_neg (by simp), laws_FnExactNames.j0v_eq, ht]
    simp only [Option.bind_some, eq_RuleS x hx.2 hb1, if_true, hm, ev, ec, Bool.not_true]
    rw [if_neg (by omega), laws_FnExactNames.j3v_eq, if_neg (by simp), laws_FnExactNames.j2v_eq, a1]
    simp only [Option.bind_some, b1, a2]
    rw [if_neg (by omega), b2]
    simp only [Option.bind_some]
    rw [if_neg (by omega), if_pos trivial, ht]
    simp only [Option.bind_some, n2, ev2, ec2, if_true, Bool.not_true]
    rw [laws_FnExactNames.j5v_eq, if_neg (by simp), laws_FnExactNames.j4v_eq, a2]
    simp only [Option.bind_some]
    rw [if_neg (by omega), b2]
    simp only [Option.bind_some]
    rw [if_neg (by omega), if_pos trivial]

end Go.Proofs.Ytccldchklemogaa.Pure
