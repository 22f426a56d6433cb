/- The pure statement of FnExactTidy holds: both take the same lists of rules for tidy. -/
import Derived.Test.YthigelphmjepaaaQFnExactTidyx7
import Derived.Test.YthigelphmjepaaaWFnExactTidy
namespace Go.Proofs.Ythigelphmjepaaa.Pure
open Go.RowKit Go.Proofs.Ythigelphmjepaaa.QFnExactTidy Go.Proofs.YthigelphmjepaaaW.PrintWords Go.Proofs.YthigelphmjepaaaW.PrintLast Go.Proofs.YthigelphmjepaaaW.PrintMore Go.Proofs.YthigelphmjepaaaW.Lims
open Go.Proofs.YthigelphmjepaaaW.Bulk
namespace FnExactTidyAid

/-! ### trees that came in: how much they hold; their copy; each is like itself -/
theorem rd_in (xs : List S61) (i : Nat) (h : i < xs.length) : rd_T61 xs (i : Int) = xs[i] := by
  unfold rd_T61
  simp [List.getD_eq_getElem?_getD, h]
theorem rd_in2 (xs : List S66) (i : Nat) (h : i < xs.length) : rd_T66 xs (i : Int) = xs[i] := by
  unfold rd_T66
  simp [List.getD_eq_getElem?_getD, h]

theorem eta2 (y : S66) : (⟨y.f0, y.f1, y.f2, y.f3⟩ : S66) = y := by cases y; rfl

def bulk (x : S61) : Nat := x.f2.size + x.f3.length + (x.f3.attach.map (fun k => bulk k.1)).sum
termination_by SizeOf.sizeOf x
decreasing_by
  have h := k.2
  cases x with
  | mk a b c l =>
    have h2 : SizeOf.sizeOf k.1 < SizeOf.sizeOf l := List.sizeOf_lt_of_mem h
    simp only [S61.mk.sizeOf_spec]
    omega
theorem bulk_eq (x : S61) : bulk x = x.f2.size + x.f3.length + (x.f3.map bulk).sum := by
  rw [bulk, List.attach_map_val (f := bulk)]
def conv (x : S61) : S66 := ⟨x.f0, x.f1, x.f2, x.f3.attach.map (fun k => conv k.1)⟩
termination_by SizeOf.sizeOf x
decreasing_by
  have h := k.2
  cases x with
  | mk a b c l =>
    have h2 : SizeOf.sizeOf k.1 < SizeOf.sizeOf l := List.sizeOf_lt_of_mem h
    simp only [S61.mk.sizeOf_spec]
    omega
theorem conv_eq (x : S61) : conv x = ⟨x.f0, x.f1, x.f2, x.f3.map conv⟩ := by
  rw [conv, List.attach_map_val (f := conv)]

theorem sz_loop (x0 : List S61) (hl : x0.length ≤ 9223372036854775807)
    (ih : ∀ y, y ∈ x0 → ∀ left : Int, 0 ≤ left → left ≤ 1048576 → laws_szNode.fv y.f0 y.f1 y.f2 y.f3 left = some (if (bulk y : Int) ≤ left then left - bulk y else -1)) (d : Nat) :
    ∀ (i : Nat) (left : Int), x0.length - i = d → i ≤ x0.length → 0 ≤ left → left ≤ 1048576 →
      laws_szNodeS.l0v x0 left (i : Int) = some (if ((((x0.drop i).map bulk).sum : Nat) : Int) ≤ left then left - (((x0.drop i).map bulk).sum : Nat) else -1) := by
  induction d with
  | zero =>
    intro i left h1 h2 h3 h4
    rw [laws_szNodeS.l0v_eq, if_neg (by omega), List.drop_of_length_le (by omega)]
    simp [h3]
  | succ d ihd =>
    intro i left h1 h2 h3 h4
    have hi : i < x0.length := by omega
    rw [laws_szNodeS.l0v_eq, if_pos (by omega), if_pos (by omega), rd_in x0 i hi, ih x0[i] (List.getElem_mem hi) left h3 h4]
    rw [List.drop_eq_getElem_cons hi, List.map_cons, List.sum_cons]
    simp only [Option.bind_some]
    by_cases hb : (bulk x0[i] : Int) ≤ left
    · rw [if_pos hb, if_neg (by omega), wrap_in (by omega) (by omega), show (i : Int) + 1 = ((i + 1 : Nat) : Int) by omega, ihd (i + 1) _ (by omega) (by omega) (by omega) (by omega)]
      by_cases hs : (((x0.drop (i + 1)).map bulk).sum : Int) ≤ left - bulk x0[i]
      · rw [if_pos hs, if_pos (by omega)]; congr 1; omega
      · rw [if_neg hs, if_neg (by omega)]
    · rw [if_neg hb, if_pos (by omega), if_neg (by omega)]

theorem sz_kids (x0 : List S61) (hl : x0.length ≤ 9223372036854775807)
    (ih : ∀ y, y ∈ x0 → ∀ left : Int, 0 ≤ left → left ≤ 1048576 → laws_szNode.fv y.f0 y.f1 y.f2 y.f3 left = some (if (bulk y : Int) ≤ left then left - bulk y else -1)) (left : Int) (h0 : 0 ≤ left) (h1 : left ≤ 1048576) :
    laws_szNodeS.fv x0 left = some (if ((x0.length + (x0.map bulk).sum : Nat) : Int) ≤ left then left - (x0.length + (x0.map bulk).sum : Nat) else -1) := by
  rw [laws_szNodeS.fv_eq, wrap_in (by omega) (by omega)]
  by_cases h : left - (x0.length : Int) < 0
  · rw [if_pos h, if_neg (by omega)]
  · rw [if_neg h]
    have := sz_loop x0 hl ih x0.length 0 (left - x0.length) (by omega) (by omega) (by omega) (by omega)
    rw [show (0 : Int) = ((0 : Nat) : Int) from rfl, this, List.drop_zero]
    by_cases hs : (((x0.map bulk).sum : Nat) : Int) ≤ left - x0.length
    · rw [if_pos hs, if_pos (by omega)]; congr 1; omega
    · rw [if_neg hs, if_neg (by omega)]

theorem sz_node (x : S61) (hx : Wf61 x) : ∀ left : Int, 0 ≤ left → left ≤ 1048576 → laws_szNode.fv x.f0 x.f1 x.f2 x.f3 left = some (if (bulk x : Int) ≤ left then left - bulk x else -1) := by
  induction hx with
  | mk x h0 h1 h2 h3 g3 ih =>
    intro left hl0 hl1
    have h2' := len_le h2
    rw [laws_szNode.fv_eq, wrap_in (by omega) (by omega), bulk_eq]
    by_cases h : left - (x.f2.size : Int) < 0
    · rw [if_pos h, if_neg (by omega)]
    · rw [if_neg h, sz_kids x.f3 (len_le h3) ih _ (by omega) (by omega)]
      simp only [Option.bind_some]
      by_cases hs : ((x.f3.length + (x.f3.map bulk).sum : Nat) : Int) ≤ left - x.f2.size
      · rw [if_pos hs, if_neg (by omega), if_pos (by omega)]; congr 1; omega
      · rw [if_neg hs, if_pos (by omega), if_neg (by omega)]

theorem le_sum {l : List Nat} {n : Nat} (h : n ∈ l) : n ≤ l.sum := by
  induction l with
  | nil => simp at h
  | cons a l ih =>
    rw [List.sum_cons]
    rcases List.mem_cons.1 h with rfl | h
    · omega
    · have := ih h; omega

theorem bulk_kid {x y : S61} (h : y ∈ x.f3) : bulk y + x.f3.length + x.f2.size ≤ bulk x := by
  rw [bulk_eq x]
  have := le_sum (List.mem_map_of_mem (f := bulk) h)
  omega

theorem to_loop (x0 : List S61) (hl : x0.length ≤ 1048576) (ih : ∀ y, y ∈ x0 → laws_toNode.fv y.f0 y.f1 y.f2 y.f3 = some ((conv y).f0, (conv y).f1, (conv y).f2, (conv y).f3)) (d : Nat) :
    ∀ (i : Nat) (rest : List S66), x0.length - i = d → i ≤ x0.length → rest.length = x0.length - i → laws_toNodeS.l0v x0 ((x0.take i).map conv ++ rest) (i : Int) = some (x0.map conv) := by
  induction d with
  | zero =>
    intro i rest h1 h2 h3
    have : rest = [] := List.eq_nil_of_length_eq_zero (by omega)
    subst this
    rw [laws_toNodeS.l0v_eq, if_neg (by omega), List.take_of_length_le (by omega), List.append_nil]
  | succ d ihd =>
    intro i rest h1 h2 h3
    have hi : i < x0.length := by omega
    obtain ⟨r, rest, rfl⟩ : ∃ r rs, rest = r :: rs := by cases rest with
      | nil => simp at h3; omega
      | cons r rs => exact ⟨r, rs, rfl⟩
    rw [laws_toNodeS.l0v_eq, if_pos (by omega), if_pos (by omega), rd_in x0 i hi, ih x0[i] (List.getElem_mem hi)]
    simp only [Option.bind_some]
    have hlen : ((x0.take i).map conv).length = i := by simp; omega
    rw [if_pos (by simp; omega), wrap_in (by omega) (by omega), show (i : Int) + 1 = ((i + 1 : Nat) : Int) by omega, Int.toNat_natCast]
    have e : ((x0.take i).map conv ++ r :: rest).set i ⟨(conv x0[i]).f0, (conv x0[i]).f1, (conv x0[i]).f2, (conv x0[i]).f3⟩ = (x0.take (i + 1)).map conv ++ rest := by
      rw [List.set_append_right _ _ (by omega), hlen, Nat.sub_self, List.set_cons_zero, List.take_succ_eq_append_getElem hi, List.map_append, List.append_assoc, eta2]
      simp
    rw [e]
    exact ihd (i + 1) rest (by omega) (by omega) (by simp at h3; omega)

theorem to_kids (x0 : List S61) (hl : x0.length ≤ 1048576) (ih : ∀ y, y ∈ x0 → laws_toNode.fv y.f0 y.f1 y.f2 y.f3 = some ((conv y).f0, (conv y).f1, (conv y).f2, (conv y).f3)) :
    laws_toNodeS.fv x0 = some (x0.map conv) := by
  rw [laws_toNodeS.fv_eq, if_pos (by omega), if_pos (by omega)]
  have := to_loop x0 hl ih x0.length 0 (List.replicate x0.length z66) (by omega) (by omega) (by simp)
  simpa using this

theorem to_node (x : S61) (hx : Wf61 x) (hb : bulk x ≤ 1048576) : laws_toNode.fv x.f0 x.f1 x.f2 x.f3 = some ((conv x).f0, (conv x).f1, (conv x).f2, (conv x).f3) := by
  induction hx with
  | mk x h0 h1 h2 h3 g3 ih =>
    have hk := bulk_eq x
    rw [laws_toNode.fv_eq, to_kids x.f3 (by omega) (fun y hy => ih y hy (by have := bulk_kid hy; omega)), conv_eq]
    rfl

theorem eq_loop (l : List S66) (hl : l.length ≤ 1048576) (ih : ∀ y, y ∈ l → laws_eqNode.fv y.f0 y.f1 y.f2 y.f3 y.f0 y.f1 y.f2 y.f3 = some true) (d : Nat) :
    ∀ i : Nat, l.length - i = d → i ≤ l.length → laws_eqNodeS.l0v l l (i : Int) = some true := by
  induction d with
  | zero =>
    intro i h1 h2
    rw [laws_eqNodeS.l0v_eq, if_neg (by omega)]
  | succ d ihd =>
    intro i h1 h2
    have hi : i < l.length := by omega
    rw [laws_eqNodeS.l0v_eq, if_pos (by omega), if_pos (by omega), if_pos (by omega), rd_in2 l i hi, ih l[i] (List.getElem_mem hi)]
    simp only [Option.bind_some, if_true]
    rw [wrap_in (by omega) (by omega), show (i : Int) + 1 = ((i + 1 : Nat) : Int) by omega]
    exact ihd (i + 1) (by omega) (by omega)

theorem eq_kids (l : List S66) (hl : l.length ≤ 1048576) (ih : ∀ y, y ∈ l → laws_eqNode.fv y.f0 y.f1 y.f2 y.f3 y.f0 y.f1 y.f2 y.f3 = some true) : laws_eqNodeS.fv l l = some true := by
  rw [laws_eqNodeS.fv_eq, if_pos rfl]
  exact eq_loop l hl ih l.length 0 (by omega) (by omega)

theorem eq_node (x : S61) (hx : Wf61 x) (hb : bulk x ≤ 1048576) : laws_eqNode.fv (conv x).f0 (conv x).f1 (conv x).f2 (conv x).f3 (conv x).f0 (conv x).f1 (conv x).f2 (conv x).f3 = some true := by
  induction hx with
  | mk x h0 h1 h2 h3 g3 ih =>
    have hk := bulk_eq x
    rw [laws_eqNode.fv_eq, if_pos rfl, if_pos rfl, if_pos rfl, conv_eq]
    simp only []
    rw [eq_kids (x.f3.map conv) (by simp; omega) (fun y hy => by
      obtain ⟨z, hz, rfl⟩ := List.mem_map.1 hy
      exact ih z hz (by have := bulk_kid hz; omega))]
    rfl

theorem max_some (a b : Int) : spec_l1Max.f a b = some (mx a b) := by
  unfold spec_l1Max.f mx
  by_cases h : a > b
  · rw [if_pos h, if_neg (by omega)]
  · rw [if_neg h]
    by_cases e : a < b
    · rw [if_pos e]
    · rw [if_neg e]; congr 1; omega
theorem mx_bounds {a b c : Int} (ha : 0 ≤ a) (hb : b ≤ c) (ha' : a ≤ c) : 0 ≤ mx a b ∧ mx a b ≤ c := by unfold mx; split <;> omega

theorem deep_loop (l : List S66) (hl : l.length ≤ 1048576) (b : Int) (hb : 0 ≤ b ∧ b ≤ 1048576) (p q : Int) (s : ByteArray)
    (ih : ∀ y, y ∈ l → ∃ t, 0 ≤ t ∧ t ≤ b ∧ spec_Deep.fv y.f0 y.f1 y.f2 y.f3 = some t ∧ impl_Deep.fv y.f0 y.f1 y.f2 y.f3 = some t) (d : Nat) :
    ∀ (i : Nat) (m : Int), l.length - i = d → i ≤ l.length → 0 ≤ m → m ≤ b → ∃ t, 0 ≤ t ∧ t ≤ b + 1 ∧ spec_Deep.l0v m (i : Int) p q s l = some t ∧ impl_Deep.l0v m l (l.length : Int) (i : Int) = some t := by
  induction d with
  | zero =>
    intro i m h1 h2 h3 h4
    refine ⟨m + 1, by omega, by omega, ?_, ?_⟩
    · rw [spec_Deep.l0v_eq, if_neg (by omega), wrap_in (by omega) (by omega)]
    · rw [impl_Deep.l0v_eq, if_neg (by omega), wrap_in (by omega) (by omega)]
  | succ d ihd =>
    intro i m h1 h2 h3 h4
    have hi : i < l.length := by omega
    obtain ⟨t, ht0, htb, hs, hp⟩ := ih l[i] (List.getElem_mem hi)
    obtain ⟨hm0, hm1⟩ := mx_bounds h3 htb h4
    obtain ⟨u, hu0, hu1, hu2, hu3⟩ := ihd (i + 1) (mx m t) (by omega) (by omega) hm0 hm1
    refine ⟨u, hu0, hu1, ?_, ?_⟩
    · rw [spec_Deep.l0v_eq, if_pos (by omega), if_pos (by omega), rd_in2 l i hi, hs]
      simp only [Option.bind_some, max_some]
      rw [wrap_in (by omega) (by omega), show (i : Int) + 1 = ((i + 1 : Nat) : Int) by omega]
      exact hu2
    · rw [impl_Deep.l0v_eq, if_pos (by omega), if_pos (by omega), if_pos (by omega), rd_in2 l i hi, hp]
      simp only [Option.bind_some]
      rw [wrap_in (by omega) (by omega), show (i : Int) + 1 = ((i + 1 : Nat) : Int) by omega]
      exact hu3

theorem deep_node (x : S61) (hx : Wf61 x) (hb : bulk x ≤ 1048576) : ∃ t : Int, 0 ≤ t ∧ t ≤ bulk x + 1 ∧ spec_Deep.fv (conv x).f0 (conv x).f1 (conv x).f2 (conv x).f3 = some t ∧ impl_Deep.fv (conv x).f0 (conv x).f1 (conv x).f2 (conv x).f3 = some t := by
  induction hx with
  | mk x h0 h1 h2 h3 g3 ih =>
    have hk := bulk_eq x
    obtain ⟨t, h4, h5, h6, h7⟩ := deep_loop (x.f3.map conv) (by simp; omega) (bulk x : Int) (by omega) x.f0 x.f1 x.f2 (fun y hy => by
      obtain ⟨z, hz, rfl⟩ := List.mem_map.1 hy
      have hbz := bulk_kid hz
      have hpos : 0 < x.f3.length := List.length_pos_of_mem hz
      obtain ⟨t, h4, h5, h6, h7⟩ := ih z hz (by omega)
      exact ⟨t, h4, by omega, h6, h7⟩) (x.f3.map conv).length 0 0 (by omega) (by omega) (by omega) (by omega)
    refine ⟨t, h4, h5, ?_, ?_⟩
    · rw [conv_eq, spec_Deep.fv_eq]; exact h6
    · rw [conv_eq, impl_Deep.fv_eq]; exact h7

/-! ### rules that came in -/
theorem rdrule (xs : List S63) (i : Nat) (h : i < xs.length) : rd_T63 xs (i : Int) = xs[i] := by
  unfold rd_T63
  simp [List.getD_eq_getElem?_getD, h]
theorem rdrule2 (xs : List S68) (i : Nat) (h : i < xs.length) : rd_T68 xs (i : Int) = xs[i] := by
  unfold rd_T68
  simp [List.getD_eq_getElem?_getD, h]
def bl_Rule (x : S63) : Nat := bulk x.f1 + (bulk x.f2 + 0)
theorem sz_Rule (x : S63) (hx : Wf63 x) (left : Int) (h0 : 0 ≤ left) (h1 : left ≤ 1048576) :
    laws_szRule.fv x.f0 x.f1.f0 x.f1.f1 x.f1.f2 x.f1.f3 x.f2.f0 x.f2.f1 x.f2.f2 x.f2.f3 left = some (dn (bl_Rule x) left) := by
  rw [laws_szRule.fv_eq]
  show _ = some (dn (bulk x.f1 + (bulk x.f2 + 0)) left)
  refine dn_bind h0 h1 (sz_node x.f1 hx.2.1 _ h0 h1) fun t h0 h1 => ?_
  refine dn_bind h0 h1 (sz_node x.f2 hx.2.2 _ h0 h1) fun t h0 h1 => ?_
  exact dn_end _ h0
def bls_Rule (l : List S63) : Nat := l.length + (l.map bl_Rule).sum
theorem sz_RuleS (l : List S63) (hx : l.length ≤ maxLen ∧ ∀ x_ ∈ l, Wf63 x_) (left : Int) (h0 : 0 ≤ left) (h1 : left ≤ 1048576) : laws_szRuleS.fv l left = some (dn (bls_Rule l) left) := by
  rw [laws_szRuleS.fv_eq]
  have hl := len_le hx.1
  refine dn_cut h0 h1 hl fun t ht h0 h1 => ?_
  rw [ht]
  exact sz_all laws_szRuleS.l0v (fun x0 x1 x5 => (laws_szRule.fv ((rd_T63 x0 x5).f0) ((rd_T63 x0 x5).f1.f0) ((rd_T63 x0 x5).f1.f1) ((rd_T63 x0 x5).f1.f2) ((rd_T63 x0 x5).f1.f3) ((rd_T63 x0 x5).f2.f0) ((rd_T63 x0 x5).f2.f1) ((rd_T63 x0 x5).f2.f2) ((rd_T63 x0 x5).f2.f3) x1)) bl_Rule (by intro x l i; exact laws_szRuleS.l0v_eq x l i) l hl (fun i h left h0 h1 => by simp only [rdrule l i h]; exact sz_Rule l[i] (hx.2 _ (List.getElem_mem h)) left h0 h1) t h0 h1
def cv_Rule (x : S63) : S68 := ⟨x.f0, conv x.f1, conv x.f2⟩
theorem to_Rule (x : S63) (hx : Wf63 x) (hb : bl_Rule x ≤ 1048576) :
    laws_toRule.fv x.f0 x.f1.f0 x.f1.f1 x.f1.f2 x.f1.f3 x.f2.f0 x.f2.f1 x.f2.f2 x.f2.f3 = some (x.f0, (conv x.f1).f0, (conv x.f1).f1, (conv x.f1).f2, (conv x.f1).f3, (conv x.f2).f0, (conv x.f2).f1, (conv x.f2).f2, (conv x.f2).f3) := by
  unfold bl_Rule at hb
  rw [laws_toRule.fv_eq, to_node x.f1 hx.2.1 (by omega), Option.bind_some, to_node x.f2 hx.2.2 (by omega), Option.bind_some]
theorem to_RuleS (l : List S63) (hx : ∀ x_ ∈ l, Wf63 x_) (hb : bls_Rule l ≤ 1048576) : laws_toRuleS.fv l = some (l.map cv_Rule) := by
  have hb' := hb
  unfold bls_Rule at hb'
  rw [laws_toRuleS.fv_eq, if_pos (by omega), if_pos (by omega)]
  have := to_all laws_toRuleS.l0v (fun x0 x4 => (laws_toRule.fv ((rd_T63 x0 x4).f0) ((rd_T63 x0 x4).f1.f0) ((rd_T63 x0 x4).f1.f1) ((rd_T63 x0 x4).f1.f2) ((rd_T63 x0 x4).f1.f3) ((rd_T63 x0 x4).f2.f0) ((rd_T63 x0 x4).f2.f1) ((rd_T63 x0 x4).f2.f2) ((rd_T63 x0 x4).f2.f3))) (fun bt215 => (⟨bt215.1, (⟨bt215.2.1, bt215.2.2.1, bt215.2.2.2.1, bt215.2.2.2.2.1⟩ : S66), (⟨bt215.2.2.2.2.2.1, bt215.2.2.2.2.2.2.1, bt215.2.2.2.2.2.2.2.1, bt215.2.2.2.2.2.2.2.2⟩ : S66)⟩ : S68)) cv_Rule (by intro x acc i; exact laws_toRuleS.l0v_eq x acc i) l (by omega) (fun i h => by
    have hm := Go.Proofs.YthigelphmjepaaaW.Bulk.le_sum (List.mem_map_of_mem (f := bl_Rule) (List.getElem_mem h))
    simp only [rdrule l i h]; exact ⟨_, to_Rule l[i] (hx _ (List.getElem_mem h)) (by omega), by simp only [eta2]; rfl⟩) z68
  simpa using this
theorem eq_RuleS (l : List S63) (hx : ∀ x_ ∈ l, Wf63 x_) (hb : bls_Rule l ≤ 1048576) : laws_eqRuleS.fv (l.map cv_Rule) (l.map cv_Rule) = some true := by
  have hb' := hb
  unfold bls_Rule at hb'
  rw [laws_eqRuleS.fv_eq, if_pos rfl]
  exact eq_all laws_eqRuleS.l0v (fun x0 x1 x5 => (laws_eqRule.fv ((rd_T68 x0 x5).f0) ((rd_T68 x0 x5).f1.f0) ((rd_T68 x0 x5).f1.f1) ((rd_T68 x0 x5).f1.f2) ((rd_T68 x0 x5).f1.f3) ((rd_T68 x0 x5).f2.f0) ((rd_T68 x0 x5).f2.f1) ((rd_T68 x0 x5).f2.f2) ((rd_T68 x0 x5).f2.f3) ((rd_T68 x1 x5).f0) ((rd_T68 x1 x5).f1.f0) ((rd_T68 x1 x5).f1.f1) ((rd_T68 x1 x5).f1.f2) ((rd_T68 x1 x5).f1.f3) ((rd_T68 x1 x5).f2.f0) ((rd_T68 x1 x5).f2.f1) ((rd_T68 x1 x5).f2.f2) ((rd_T68 x1 x5).f2.f3))) (by intro x y i; exact laws_eqRuleS.l0v_eq x y i) (l.map cv_Rule) (by simp; omega) (fun i hi => by
    have hi' : i < l.length := by simpa using hi
    have hm := Go.Proofs.YthigelphmjepaaaW.Bulk.le_sum (List.mem_map_of_mem (f := bl_Rule) (List.getElem_mem hi'))
    have hq : bl_Rule l[i] = bulk l[i].f1 + (bulk l[i].f2 + 0) := rfl
    have hw := hx _ (List.getElem_mem hi')
    simp only [rdrule2 _ i hi, List.getElem_map]
    show laws_eqRule.fv l[i].f0 (conv l[i].f1).f0 (conv l[i].f1).f1 (conv l[i].f1).f2 (conv l[i].f1).f3 (conv l[i].f2).f0 (conv l[i].f2).f1 (conv l[i].f2).f2 (conv l[i].f2).f3 l[i].f0 (conv l[i].f1).f0 (conv l[i].f1).f1 (conv l[i].f1).f2 (conv l[i].f1).f3 (conv l[i].f2).f0 (conv l[i].f2).f1 (conv l[i].f2).f2 (conv l[i].f2).f3 = some true
    rw [laws_eqRule.fv_eq, if_pos rfl, eq_node _ hw.2.1 (by omega), Option.bind_some, if_pos rfl, eq_node _ hw.2.2 (by omega), Option.bind_some, if_pos rfl])

theorem within_loop (l : List ByteArray) (s : ByteArray) (hl : l.length ≤ 1000000) (d : Nat) : ∀ i : Nat, l.length - i = d → i ≤ l.length →
    spec_l7Within.l0v l s (i : Int) = some (decide (s.toList ∈ (l.drop i).map ByteArray.toList)) := by
  induction d with
  | zero =>
    intro i h1 h2
    rw [spec_l7Within.l0v_eq, if_neg (by omega), List.drop_of_length_le (by omega)]
    simp
  | succ d ih =>
    intro i h1 h2
    have hi : i < l.length := by omega
    rw [spec_l7Within.l0v_eq, if_pos (by omega), if_pos (by omega), rdOf_nat _ l i hi, wrap_in (by omega) (by omega), show (i : Int) + 1 = ((i + 1 : Nat) : Int) by omega, ih (i + 1) (by omega) (by omega)]
    rw [List.drop_eq_getElem_cons hi, List.map_cons]
    by_cases h : l[i].toList = s.toList
    · rw [if_pos h, h]; congr 1; exact (decide_eq_true List.mem_cons_self).symm
    · rw [if_neg h]; congr 1; rw [decide_eq_decide, List.mem_cons]; exact ⟨Or.inr, fun e => e.resolve_left (fun e => h e.symm)⟩
theorem within (l : List ByteArray) (s : ByteArray) (hl : l.length ≤ 1000000) : spec_l7Within.fv l s = some (decide (s.toList ∈ l.map ByteArray.toList)) := by
  rw [spec_l7Within.fv_eq]
  exact within_loop l s hl l.length 0 (by omega) (by omega)
theorem index_loop (l : List ByteArray) (s : ByteArray) (hl : l.length ≤ 1000000) (d : Nat) : ∀ i : Nat, l.length - i = d → i ≤ l.length →
    ∃ r : Int, slices_Index_string_string.l0v l s (l.length : Int) (i : Int) = some r ∧ (r ≥ 0 ↔ s.toList ∈ (l.drop i).map ByteArray.toList) := by
  induction d with
  | zero =>
    intro i h1 h2
    exact ⟨-1, by rw [slices_Index_string_string.l0v_eq, if_neg (by omega)], by rw [List.drop_of_length_le (by omega)]; simp⟩
  | succ d ih =>
    intro i h1 h2
    have hi : i < l.length := by omega
    obtain ⟨r, hr, he⟩ := ih (i + 1) (by omega) (by omega)
    rw [slices_Index_string_string.l0v_eq, if_pos (by omega), if_pos (by omega), if_pos (by omega), rdOf_nat _ l i hi, wrap_in (by omega) (by omega), show (i : Int) + 1 = ((i + 1 : Nat) : Int) by omega]
    rw [List.drop_eq_getElem_cons hi, List.map_cons]
    by_cases h : s.toList = l[i].toList
    · exact ⟨i, by rw [if_pos h], ⟨fun _ => by rw [h]; exact List.mem_cons_self, fun _ => by omega⟩⟩
    · exact ⟨r, by rw [if_neg h]; exact hr, by rw [he, List.mem_cons]; exact ⟨Or.inr, fun e => e.resolve_left h⟩⟩
theorem contains (l : List ByteArray) (s : ByteArray) (hl : l.length ≤ 1000000) : slices_Contains_string_string.fv l s = some (decide (s.toList ∈ l.map ByteArray.toList)) := by
  rw [slices_Contains_string_string.fv_eq, slices_Index_string_string.fv_eq]
  obtain ⟨r, hr, he⟩ := index_loop l s hl l.length 0 (by omega) (by omega)
  have hr' : slices_Index_string_string.l0v l s (l.length : Int) 0 = some r := hr
  rw [hr']
  simp only [Option.bind_some]
  congr 1
  rw [decide_eq_decide]
  exact he
theorem jl {k l : List UInt8} {X C : Option Bool} : (if k = l then (if (k == l) = true then some true else C) else X) = if k = l then some true else X := by
  by_cases h : k = l
  · subst h; simp
  · rw [if_neg h, if_neg h]
theorem jz {k l : List UInt8} {C : Option Bool} : (if (k == l) = true then some true else C) = if k = l then some true else C := by
  by_cases h : k = l
  · subst h; simp
  · rw [if_neg h, if_neg (by simpa using h)]
theorem or_ite {p q : Prop} [Decidable p] [Decidable q] {a X : Option Bool} : (if p then a else if q then a else X) = if p ∨ q then a else X := by
  by_cases h : p <;> by_cases h2 : q <;> simp [h, h2]
theorem bind_ite {p : Prop} [Decidable p] {X : Option Bool} : ((some (decide p)).bind fun t => if t = true then some true else X) = if p then some true else X := by
  by_cases h : p <;> simp [h]
def words : List (List UInt8) := [[66, 69, 71, 73, 78], [112, 114, 105, 110, 116], [105, 102], [101, 108, 115, 101], [119, 104, 105, 108, 101], [110, 101, 120, 116], [100, 101, 108, 101, 116, 101], [78, 82], [78, 70]]
def callws : List (List UInt8) := [[108, 101, 110, 103, 116, 104], [115, 117, 98, 115, 116, 114], [105, 110, 100, 101, 120], [105, 110, 116], [117, 112, 112, 101, 114], [108, 111, 119, 101, 114]]
/-- Is a text one of the words that are no names? -/
def isKey (k : List UInt8) : Bool := decide (k ∈ words ∨ k ∈ callws)
theorem spec_key (s : ByteArray) : spec_Keyword.fv s = some (isKey s.toList) := by
  rw [spec_Keyword.fv_eq]
  simp only [spec_l7Calls.f, Option.bind_some]
  rw [within _ _ (by simp), within _ _ (by simp)]
  simp only [List.map_cons, List.map_nil, Go.ByteArray.toList_mk]
  rw [bind_ite]
  simp only [Option.bind_some]
  show (if s.toList ∈ words then some true else some (decide (s.toList ∈ callws))) = _
  unfold isKey
  by_cases h : s.toList ∈ words
  · rw [if_pos h]; simp [h]
  · rw [if_neg h]; simp [h]
theorem impl_key (s : ByteArray) : impl_Keyword.fv s = some (isKey s.toList) := by
  rw [impl_Keyword.fv_eq]
  simp only [impl_Keyword.j0v_eq, impl_calls.f, Option.bind_some]
  rw [contains _ _ (by simp)]
  simp only [List.map_cons, List.map_nil, Go.ByteArray.toList_mk]
  simp only [jl, jz]
  simp only [Option.bind_some]
  unfold isKey
  have e : (s.toList ∈ words) ↔ (s.toList = [66, 69, 71, 73, 78] ∨ s.toList = [112, 114, 105, 110, 116] ∨ s.toList = [105, 102] ∨ s.toList = [101, 108, 115, 101] ∨ s.toList = [119, 104, 105, 108, 101] ∨ s.toList = [110, 101, 120, 116] ∨ s.toList = [100, 101, 108, 101, 116, 101] ∨ s.toList = [78, 82] ∨ s.toList = [78, 70]) := by
    simp only [words, List.mem_cons, List.not_mem_nil, or_false]
  by_cases h : s.toList ∈ words
  · rcases e.1 h with g | g | g | g | g | g | g | g | g <;> (rw [g]; rfl)
  · have h2 := h
    rw [e] at h2
    simp only [not_or] at h2
    obtain ⟨h1, h2, h3, h4, h5, h6, h7, h8, h9⟩ := h2
    rw [if_neg h1, if_neg h2, if_neg h3, if_neg h4, if_neg h5, if_neg h6, if_neg h7, if_neg h8, if_neg h9]
    show some (decide (s.toList ∈ callws)) = _
    simp [h]

theorem idx_ge (l : List UInt8) (c : UInt8) : -1 ≤ Lib.indexByte l c := Lib.indexByte_ge l c
theorem idx_mem (l : List UInt8) (c : UInt8) : 0 ≤ Lib.indexByte l c ↔ c ∈ l := by
  induction l with
  | nil => simp [Lib.indexByte]
  | cons b l ih =>
    unfold Lib.indexByte
    by_cases h : b = c
    · subst h; simp
    · rw [if_neg (by simpa using h)]
      have hg := idx_ge l c
      by_cases h2 : Lib.indexByte l c = -1
      · rw [if_pos (by simpa using h2)]
        have : c ∉ l := fun e => by have := ih.2 e; omega
        simp [this, Ne.symm h]
      · rw [if_neg (by simpa using h2)]
        have : c ∈ l := ih.1 (by omega)
        simp [this]; omega
theorem bt_nat (s : ByteArray) (i : Nat) (h : i < s.data.toList.length) : bt s (i : Int) = (s.data.toList[i].toNat : Int) := by
  have h' : (i : Int).toNat < s.size := by rw [Int.toNat_natCast, Lib.size_eq]; exact h
  rw [← bt_at s i h']
  rfl
theorem byte_eq (b : UInt8) (n : Nat) (hn : n < 256) : ((b.toNat : Int) = (n : Int)) ↔ b = n.toUInt8 := by
  constructor
  · intro h
    apply UInt8.toNat_inj.1
    rw [Nat.toUInt8_eq, UInt8.toNat_ofNat_of_lt' (by simpa using hn)]
    omega
  · intro h
    rw [h, Nat.toUInt8_eq, UInt8.toNat_ofNat_of_lt' (by simpa using hn)]

theorem line_loop (a : ByteArray) (hl : a.size ≤ 9223372036854775806) (d : Nat) : ∀ i : Nat, a.size - i = d → i ≤ a.size → spec_l9Line.l0v a (i : Int) = some (decide ((10 : UInt8) ∉ a.data.toList.drop i)) := by
  have hs := Lib.size_eq a
  induction d with
  | zero =>
    intro i h1 h2
    rw [spec_l9Line.l0v_eq, if_neg (by omega), List.drop_of_length_le (by omega)]
    simp
  | succ d ih =>
    intro i h1 h2
    have hi : i < a.data.toList.length := by omega
    rw [spec_l9Line.l0v_eq, if_pos (by omega), if_pos (by omega), bt_nat a i hi, wrap_in (by omega) (by omega), show (i : Int) + 1 = ((i + 1 : Nat) : Int) by omega, ih (i + 1) (by omega) (by omega), List.drop_eq_getElem_cons hi]
    have hb : ((a.data.toList[i].toNat : Int) = 10) ↔ a.data.toList[i] = (10 : UInt8) := byte_eq a.data.toList[i] 10 (by omega)
    by_cases h : a.data.toList[i] = (10 : UInt8)
    · rw [if_pos (hb.2 h), h]; simp
    · rw [if_neg (fun e => h (hb.1 e))]
      have h' : ¬ (10 : UInt8) = a.data.toList[i] := fun e => h e.symm
      simp only [List.mem_cons, h', false_or]
theorem line (a : ByteArray) (hl : a.size ≤ 9223372036854775806) : spec_l9Line.fv a = some (decide ((10 : UInt8) ∉ a.data.toList)) := by
  rw [spec_l9Line.fv_eq]
  exact line_loop a hl a.size 0 (by omega) (by omega)
theorem cont (a : ByteArray) : strings_Contains.f a (⟨#[10]⟩ : ByteArray) = some (decide ((10 : UInt8) ∈ a.data.toList)) := by
  show some (decide (0 ≤ Lib.indexByte a.data.toList 10)) = _
  congr 1
  rw [decide_eq_decide]
  exact idx_mem _ _

/-! ### texts: lines, patterns, names -/
theorem in_s (a lo hi : Int) : spec_l1In.f a lo hi = some (decide (lo ≤ a ∧ a ≤ hi)) := by
  unfold spec_l1In.f
  by_cases h : lo ≤ a
  · rw [if_pos h]; simp [h]
  · rw [if_neg h]; simp [h]
theorem in_i (a lo hi : Int) : impl_in.f a lo hi = some (decide (lo ≤ a ∧ a ≤ hi)) := by
  unfold impl_in.f
  by_cases h : lo ≤ a
  · rw [if_pos h]; simp [h]
  · rw [if_neg h]; simp [h]
def ln (c : ByteArray) : Bool := decide ((10 : UInt8) ∉ c.data.toList)
theorem tokenText (c : ByteArray) : impl_tokenText.f c = some (ln c) := by
  unfold impl_tokenText.f ln
  rw [cont, Option.bind_some, decide_not]
theorem rex_run (c : ByteArray) (hl : c.size ≤ 1048576) (d : Nat) : ∀ i : Nat, c.size - i ≤ d → i ≤ c.size → ∃ b, spec_l9Rex.l0v c (i : Int) = some b ∧ impl_tokenRex.l0v c (i : Int) = some b := by
  induction d with
  | zero =>
    intro i h1 h2
    refine ⟨ln c, ?_, ?_⟩
    · rw [spec_l9Rex.l0v_eq, if_neg (by omega), line c (by omega)]; rfl
    · rw [impl_tokenRex.l0v_eq, if_neg (by omega), tokenText]; rfl
  | succ d ih =>
    intro i h1 h2
    by_cases hi : i < c.size
    · have w1 : wrap64 ((i : Int) + 1) = ((i + 1 : Nat) : Int) := by rw [wrap_in (by omega) (by omega)]; omega
      have w2 : wrap64 (((i + 1 : Nat) : Int) + 1) = ((i + 2 : Nat) : Int) := by rw [wrap_in (by omega) (by omega)]; omega
      have c1 : (i : Int) < (c.size : Int) := by omega
      have c2 : 0 ≤ (i : Int) := by omega
      rw [spec_l9Rex.l0v_eq, impl_tokenRex.l0v_eq]
      simp only [c1, c2, w1, w2, if_true]
      by_cases h : bt c (i : Int) = 92
      · simp only [h, if_true]
        by_cases e : ((i + 1 : Nat) : Int) = (c.size : Int)
        · simp only [e, if_true]; exact ⟨_, rfl, rfl⟩
        · have c3 : ((i + 1 : Nat) : Int) < (c.size : Int) := by omega
          have c4 : 0 ≤ ((i + 1 : Nat) : Int) := by omega
          simp only [e, c3, c4, if_true, if_false]
          by_cases g : bt c ((i + 1 : Nat) : Int) = 47
          · simp only [g, if_true]; exact ⟨_, rfl, rfl⟩
          · simp only [g, if_false]; exact ih (i + 2) (by omega) (by omega)
      · simp only [h, if_false]; exact ih (i + 1) (by omega) (by omega)
    · refine ⟨ln c, ?_, ?_⟩
      · rw [spec_l9Rex.l0v_eq, if_neg (by omega), line c (by omega)]; rfl
      · rw [impl_tokenRex.l0v_eq, if_neg (by omega), tokenText]; rfl
theorem rex_both (c : ByteArray) (hl : c.size ≤ 1048576) : ∃ b, spec_l9Rex.fv c = some b ∧ impl_tokenRex.fv c = some b := by
  rw [spec_l9Rex.fv_eq, impl_tokenRex.fv_eq]
  exact rex_run c hl c.size 0 (by omega) (by omega)
theorem letter_same (n : Int) : spec_l7Letter.f n = impl_isLetter.f n ∧ ∃ b, impl_isLetter.f n = some b := by
  refine ⟨rfl, ?_⟩
  unfold impl_isLetter.f
  (repeat' split) <;> exact ⟨_, rfl⟩
def nmEnd (c : ByteArray) : Bool := decide (1 ≤ (c.size : Int) ∧ (c.size : Int) ≤ 8) && !isKey c.toList
theorem name_run (c : ByteArray) (hl : c.size ≤ 1048576) (d : Nat) : ∀ i : Nat, c.size - i = d → i ≤ c.size → ∃ (b : Bool) (t : Int), spec_l9Name.l0v c (i : Int) = some (b && nmEnd c) ∧ impl_lettersAt.l0v c 0 (i : Int) = some t ∧ (b = true ↔ t = (c.size : Int)) := by
  induction d with
  | zero =>
    intro i h1 h2
    have e : i = c.size := by omega
    refine ⟨true, i, ?_, ?_, by simp [e]⟩
    · rw [spec_l9Name.l0v_eq, if_neg (by omega), in_s, Option.bind_some, spec_key]
      unfold nmEnd
      by_cases h : 1 ≤ (c.size : Int) ∧ (c.size : Int) ≤ 8
      · rw [decide_eq_true h]; rfl
      · rw [decide_eq_false h]; rfl
    · rw [impl_lettersAt.l0v_eq, Int.zero_add, wrap_in (by omega) (by omega), if_neg (by omega)]
  | succ d ih =>
    intro i h1 h2
    have w1 : wrap64 ((i : Int) + 1) = ((i + 1 : Nat) : Int) := by rw [wrap_in (by omega) (by omega)]; omega
    obtain ⟨b, t, e1, e2, e3⟩ := ih (i + 1) (by omega) (by omega)
    obtain ⟨q1, p, q2⟩ := letter_same (bt c (i : Int))
    rw [spec_l9Name.l0v_eq, impl_lettersAt.l0v_eq, Int.zero_add, wrap_in (n := (i : Int)) (by omega) (by omega), if_pos (by omega), if_pos (by omega), if_pos (by omega), if_pos (by omega), q1, q2, w1]
    simp only [Option.bind_some]
    cases p
    · rw [if_neg (by simp), if_neg (by simp)]
      exact ⟨false, i, rfl, rfl, by simp; omega⟩
    · rw [if_pos rfl, if_pos rfl]
      exact ⟨b, t, e1, e2, e3⟩
theorem name_both (c : ByteArray) (hl : c.size ≤ 1048576) : ∃ b, spec_l9Name.fv c = some b ∧ impl_isName.fv c = some b := by
  rw [spec_l9Name.fv_eq, impl_isName.fv_eq, in_i, impl_lettersAt.fv_eq]
  obtain ⟨b, t, e1, e2, e3⟩ := name_run c hl c.size 0 (by omega) (by omega)
  refine ⟨_, e1, ?_⟩
  have e2' : impl_lettersAt.l0v c 0 0 = some t := e2
  rw [Option.bind_some, e2', Option.bind_some, impl_key, Option.bind_some]
  unfold nmEnd
  by_cases h : 1 ≤ (c.size : Int) ∧ (c.size : Int) ≤ 8
  · rw [decide_eq_true h, if_pos rfl]
    by_cases g : t = (c.size : Int)
    · rw [if_pos g, e3.2 g]; rfl
    · rw [if_neg g]
      have : b = false := by cases b with
        | false => rfl
        | true => exact absurd (e3.1 rfl) g
      rw [this]; rfl
  · rw [decide_eq_false h, if_neg (by simp)]; cases b <;> rfl

/-! ### nodes -/
noncomputable def nb (y : S66) : Bool := (spec_l9Node.fv y.f0 y.f1 y.f2 y.f3).getD false
def eop (y : S66) : Bool := decide (1 ≤ y.f0 ∧ y.f0 ≤ 28)
def sop (y : S66) : Bool := decide (29 ≤ y.f0 ∧ y.f0 ≤ 35)
def bop (y : S66) : Bool := decide (y.f0 = 29)
/-- The program's three readings of a node, by the reference's one. -/
structure Good (y : S66) : Prop where
  sp : spec_l9Node.fv y.f0 y.f1 y.f2 y.f3 = some (nb y)
  e : impl_isE.fv y.f0 y.f1 y.f2 y.f3 = some (nb y && eop y)
  s : impl_isStatement.fv y.f0 y.f1 y.f2 y.f3 = some (nb y && sop y)
  b : impl_isBlock.fv y.f0 y.f1 y.f2 y.f3 = some (nb y && bop y)
theorem good_of (y : S66) (X : Bool) (h1 : spec_l9Node.fv y.f0 y.f1 y.f2 y.f3 = some X) (h2 : impl_isE.fv y.f0 y.f1 y.f2 y.f3 = some (X && eop y))
    (h3 : impl_isStatement.fv y.f0 y.f1 y.f2 y.f3 = some (X && sop y)) (h4 : impl_isBlock.fv y.f0 y.f1 y.f2 y.f3 = some (X && bop y)) : Good y := by
  have e : nb y = X := by unfold nb; rw [h1]; rfl
  exact ⟨by rw [h1, e], by rw [h2, e], by rw [h3, e], by rw [h4, e]⟩
noncomputable def allE (l : List S66) : Bool := l.all fun k => nb k && eop k
noncomputable def allS (l : List S66) : Bool := l.all fun k => nb k && sop k
noncomputable def allB (l : List S66) : Bool := l.all fun k => nb k && bop k
theorem allE_cons (k : S66) (l : List S66) : allE (k :: l) = (nb k && eop k && allE l) := rfl
theorem allS_cons (k : S66) (l : List S66) : allS (k :: l) = (nb k && sop k && allS l) := rfl
theorem allB_cons (k : S66) (l : List S66) : allB (k :: l) = (nb k && bop k && allB l) := rfl
theorem isE_op (n : Int) : spec_l9IsE.f n = some (decide (1 ≤ n ∧ n ≤ 28)) := by
  unfold spec_l9IsE.f
  rw [in_s]; rfl
section
theorem es_run (l : List S66) (hl : l.length ≤ 1048576) (ih : ∀ k, k ∈ l → Good k) (p q : Int) (s : ByteArray) (t : Nat) (ht : t ≤ l.length) (d : Nat) : ∀ i : Nat, t - i = d → i ≤ t → spec_l9Es.l0v (t : Int) (i : Int) p q s l = some (allE ((l.take t).drop i)) := by
  induction d with
  | zero =>
    intro i h1 h2
    rw [spec_l9Es.l0v_eq, if_neg (by omega), List.drop_of_length_le (by simp; omega)]
    rfl
  | succ d ihd =>
    intro i h1 h2
    have hi : i < l.length := by omega
    have hg := ih l[i] (List.getElem_mem hi)
    have hc : (l.take t).drop i = l[i] :: (l.take t).drop (i + 1) := by
      rw [List.drop_eq_getElem_cons (by simp; omega)]; simp
    rw [spec_l9Es.l0v_eq, if_pos (by omega), if_pos (by omega), if_pos (by omega), rd_in2 l i hi, isE_op, hc, allE_cons, wrap_in (by omega) (by omega), show (i : Int) + 1 = ((i + 1 : Nat) : Int) by omega, ihd (i + 1) (by omega) (by omega), hg.sp]
    simp only [Option.bind_some]
    have hq : decide (1 ≤ l[i].f0 ∧ l[i].f0 ≤ 28) = eop l[i] := rfl
    rw [hq]
    cases eop l[i] <;> cases nb l[i] <;> rfl
theorem es_all (l : List S66) (hl : l.length ≤ 1048576) (ih : ∀ k, k ∈ l → Good k) (a b : Int) (c : ByteArray) (t : Nat) (ht : (l.length : Int) = (t : Int)) : spec_l9Es.fv a b c l 0 (t : Int) = some (allE l) := by
  rw [spec_l9Es.fv_eq]
  have := es_run l hl ih a b c t (by omega) t 0 (by omega) (by omega)
  rw [List.drop_zero, List.take_of_length_le (by omega)] at this
  exact this
theorem es_one (l : List S66) (hl : l.length ≤ 1048576) (ih : ∀ k, k ∈ l → Good k) (a b : Int) (c : ByteArray) (ht : 1 ≤ l.length) : spec_l9Es.fv a b c l 0 1 = some (allE (l.take 1)) := by
  rw [spec_l9Es.fv_eq]
  have := es_run l hl ih a b c 1 ht 1 0 (by omega) (by omega)
  rw [List.drop_zero] at this
  exact this
theorem bs_run (l : List S66) (hl : l.length ≤ 1048576) (ih : ∀ k, k ∈ l → Good k) (p q : Int) (s : ByteArray) (d : Nat) : ∀ i : Nat, l.length - i = d → i ≤ l.length → spec_l9Blocks.l0v (i : Int) p q s l = some (allB (l.drop i)) := by
  induction d with
  | zero =>
    intro i h1 h2
    rw [spec_l9Blocks.l0v_eq, if_neg (by omega), List.drop_of_length_le (by omega)]
    rfl
  | succ d ihd =>
    intro i h1 h2
    have hi : i < l.length := by omega
    have hg := ih l[i] (List.getElem_mem hi)
    rw [spec_l9Blocks.l0v_eq, if_pos (by omega), if_pos (by omega), rd_in2 l i hi, List.drop_eq_getElem_cons hi, allB_cons, wrap_in (by omega) (by omega), show (i : Int) + 1 = ((i + 1 : Nat) : Int) by omega, ihd (i + 1) (by omega) (by omega), hg.sp]
    simp only [Option.bind_some]
    have hq : bop l[i] = decide (l[i].f0 = 29) := rfl
    rw [hq]
    by_cases h : l[i].f0 = 29
    · rw [if_pos h, decide_eq_true h]; cases nb l[i] <;> rfl
    · rw [if_neg h, decide_eq_false h]; cases nb l[i] <;> rfl
theorem ss_run (l : List S66) (hl : l.length ≤ 1048576) (ih : ∀ k, k ∈ l → Good k) (p q : Int) (s : ByteArray) (d : Nat) : ∀ i : Nat, l.length - i = d → i ≤ l.length → spec_l9Kids.l0v (l.length : Int) (i : Int) p q s l = some (allS (l.drop i)) := by
  induction d with
  | zero =>
    intro i h1 h2
    rw [spec_l9Kids.l0v_eq, if_neg (by omega), List.drop_of_length_le (by omega)]
    rfl
  | succ d ihd =>
    intro i h1 h2
    have hi : i < l.length := by omega
    have hg := ih l[i] (List.getElem_mem hi)
    rw [spec_l9Kids.l0v_eq, if_pos (by omega), if_pos (by omega), if_pos (by omega), rd_in2 l i hi, in_s, List.drop_eq_getElem_cons hi, allS_cons, wrap_in (by omega) (by omega), show (i : Int) + 1 = ((i + 1 : Nat) : Int) by omega, ihd (i + 1) (by omega) (by omega), hg.sp]
    simp only [Option.bind_some]
    have hq : decide (29 ≤ l[i].f0 ∧ l[i].f0 ≤ 35) = sop l[i] := rfl
    rw [hq]
    cases sop l[i] <;> cases nb l[i] <;> rfl
theorem ie_run (l : List S66) (hl : l.length ≤ 1048576) (ih : ∀ k, k ∈ l → Good k) (d : Nat) : ∀ i : Nat, l.length - i = d → i ≤ l.length → ∃ t, impl_Node_117_190.l0v l (l.length : Int) (i : Int) = some t ∧ decide (t ≥ 0) = !(allE (l.drop i)) := by
  induction d with
  | zero =>
    intro i h1 h2
    rw [impl_Node_117_190.l0v_eq, if_neg (by omega), List.drop_of_length_le (by omega)]
    exact ⟨-1, rfl, rfl⟩
  | succ d ihd =>
    intro i h1 h2
    have hi : i < l.length := by omega
    have hg := ih l[i] (List.getElem_mem hi)
    obtain ⟨t, e1, e2⟩ := ihd (i + 1) (by omega) (by omega)
    rw [impl_Node_117_190.l0v_eq, if_pos (by omega), if_pos (by omega), if_pos (by omega), rd_in2 l i hi, impl_allEs_1.fv_eq, hg.e, List.drop_eq_getElem_cons hi, allE_cons, wrap_in (by omega) (by omega), show (i : Int) + 1 = ((i + 1 : Nat) : Int) by omega, e1]
    simp only [Option.bind_some]
    cases hq : (nb l[i] && eop l[i])
    · exact ⟨i, rfl, by simp⟩
    · exact ⟨t, rfl, by rw [e2]; rfl⟩
theorem ie_all (l : List S66) (hl : l.length ≤ 1048576) (ih : ∀ k, k ∈ l → Good k) : impl_allEs.fv l = some (allE l) := by
  rw [impl_allEs.fv_eq, impl_Node_117_189.fv_eq, impl_Node_117_190.fv_eq]
  obtain ⟨t, e1, e2⟩ := ie_run l hl ih l.length 0 (by omega) (by omega)
  have e1' : impl_Node_117_190.l0v l (l.length : Int) 0 = some t := e1
  rw [List.drop_zero] at e2
  rw [e1', Option.bind_some, Option.bind_some, e2, Bool.not_not]
theorem is_run (l : List S66) (hl : l.length ≤ 1048576) (ih : ∀ k, k ∈ l → Good k) (d : Nat) : ∀ i : Nat, l.length - i = d → i ≤ l.length → ∃ t, impl_Node_83_188.l0v l (l.length : Int) (i : Int) = some t ∧ decide (t ≥ 0) = !(allS (l.drop i)) := by
  induction d with
  | zero =>
    intro i h1 h2
    rw [impl_Node_83_188.l0v_eq, if_neg (by omega), List.drop_of_length_le (by omega)]
    exact ⟨-1, rfl, rfl⟩
  | succ d ihd =>
    intro i h1 h2
    have hi : i < l.length := by omega
    have hg := ih l[i] (List.getElem_mem hi)
    obtain ⟨t, e1, e2⟩ := ihd (i + 1) (by omega) (by omega)
    rw [impl_Node_83_188.l0v_eq, if_pos (by omega), if_pos (by omega), if_pos (by omega), rd_in2 l i hi, impl_isBlock_1.fv_eq, hg.s, List.drop_eq_getElem_cons hi, allS_cons, wrap_in (by omega) (by omega), show (i : Int) + 1 = ((i + 1 : Nat) : Int) by omega, e1]
    simp only [Option.bind_some]
    cases hq : (nb l[i] && sop l[i])
    · exact ⟨i, rfl, by simp⟩
    · exact ⟨t, rfl, by rw [e2]; rfl⟩
theorem is_all (l : List S66) (hl : l.length ≤ 1048576) (ih : ∀ k, k ∈ l → Good k) : impl_Node_83_187.fv l = some (!(allS l)) := by
  rw [impl_Node_83_187.fv_eq, impl_Node_83_188.fv_eq]
  obtain ⟨t, e1, e2⟩ := is_run l hl ih l.length 0 (by omega) (by omega)
  have e1' : impl_Node_83_188.l0v l (l.length : Int) 0 = some t := e1
  rw [List.drop_zero] at e2
  rw [e1', Option.bind_some, e2]
end

theorem plain_i (a b : Int) (c : ByteArray) (l : List S66) : impl_plainNode.f a b c l = some (decide (b = 0) && decide (c.toList = [])) := by
  unfold impl_plainNode.f
  by_cases h : b = 0
  · rw [if_pos h, decide_eq_true h]
    by_cases g : c.toList = []
    · rw [g]; rfl
    · rw [decide_eq_false g]
      have : (c.toList == ([] : List UInt8)) = false := by simpa using g
      rw [this]; rfl
  · rw [if_neg h, decide_eq_false h]; rfl
theorem calls_s (c : ByteArray) : ((spec_l7Calls.f).bind fun t => ((spec_l7Within.fv t c).bind fun u => (some u))) = some (decide (c.toList ∈ callws)) := by
  simp only [spec_l7Calls.f, Option.bind_some]
  rw [within _ _ (by simp)]
  simp only [List.map_cons, List.map_nil, Go.ByteArray.toList_mk, Option.bind_some]
  rfl
theorem calls_i (c : ByteArray) (K : Bool → Option Bool) : ((impl_calls.f).bind fun t => ((slices_Contains_string_string.fv t c).bind fun u => K u)) = K (decide (c.toList ∈ callws)) := by
  simp only [impl_calls.f, Option.bind_some]
  rw [contains _ _ (by simp)]
  simp only [List.map_cons, List.map_nil, Go.ByteArray.toList_mk, Option.bind_some]
  rfl
theorem len0 (l : List S66) : ((l.length : Int) == 0) = decide (l = []) := by
  cases l with
  | nil => rfl
  | cons k l =>
    rw [decide_eq_false (by simp)]
    simp only [beq_eq_false_iff_ne, List.length_cons]
    omega
theorem all_nil {l : List S66} (h : (l.length : Int) = 0) : allE l = true := by
  have : l = [] := List.eq_nil_of_length_eq_zero (by omega)
  subst this
  rfl
section
/-- A node whose text must be none, by its kids. -/
theorem node_plain (a : Int) (b : Int) (c : ByteArray) (l : List S66) (K : Bool) (hK : spec_l9Kids.fv a b c l = some K) (h0 : 1 ≤ a) (h1 : a ≤ 35) (n1 : a ≠ 1) (n2 : a ≠ 2) (n3 : a ≠ 3) (n4 : a ≠ 4) (n5 : a ≠ 5) (n6 : a ≠ 34) (n7 : a ≠ 28) :
    spec_l9Node.fv a b c l = some (decide (b = 0) && decide (c.toList = []) && K) := by
  rw [spec_l9Node.fv_eq, hK]
  cases K <;> by_cases hb : b = 0 <;> by_cases hg : c.toList = [] <;> simp [spec_l9Node.j0v_eq, spec_l9Node.j1v_eq, in_s, h0, h1, n1, n2, n3, n4, n5, n6, n7, hb, hg]
/-- Nodes with one kid and nothing else. -/
theorem one_kid (a : Int) (b : Int) (c : ByteArray) (l : List S66) (hl : l.length ≤ 1048576) (ih : ∀ k, k ∈ l → Good k) (ha : a = 6 ∨ a = 22 ∨ a = 23) : Good ⟨a, b, c, l⟩ := by
  have h2 := ie_all l hl ih
  have hK : spec_l9Kids.fv a b c l = some (decide ((l.length : Int) = 1) && allE l) := by
    rw [spec_l9Kids.fv_eq]
    by_cases hk : (l.length : Int) = 1
    · have hs := es_all l hl ih a b c 1 hk
      rcases ha with rfl | rfl | rfl <;> simp [spec_l9Kids.j0v_eq, hk] <;> exact hs
    · rcases ha with rfl | rfl | rfl <;> simp [spec_l9Kids.j0v_eq, hk]
  refine good_of _ _ (node_plain a b c l _ hK (by omega) (by omega) (by omega) (by omega) (by omega) (by omega) (by omega) (by omega) (by omega)) ?_ ?_ ?_
  · show impl_isE.fv a b c l = _
    rw [impl_isE.fv_eq]
    by_cases hk : (l.length : Int) = 1 <;> by_cases hb : b = 0 <;> by_cases hg : c.toList = [] <;> rcases ha with rfl | rfl | rfl <;> simp [impl_isE.j0v_eq, impl_isE.j1v_eq, plain_i, h2, hk, hb, hg, eop]
  · show impl_isStatement.fv a b c l = _
    rw [impl_isStatement.fv_eq]
    rcases ha with rfl | rfl | rfl <;> simp [sop]
  · show impl_isBlock.fv a b c l = _
    rw [impl_isBlock.fv_eq]
    rcases ha with rfl | rfl | rfl <;> simp [bop]
end

section
theorem two_kid (a : Int) (b : Int) (c : ByteArray) (l : List S66) (hl : l.length ≤ 1048576) (ih : ∀ k, k ∈ l → Good k) (ha : a = 9 ∨ a = 10 ∨ a = 11 ∨ a = 12 ∨ a = 13 ∨ a = 14 ∨ a = 15 ∨ a = 16 ∨ a = 17 ∨ a = 18 ∨ a = 19 ∨ a = 20 ∨ a = 21 ∨ a = 24 ∨ a = 25) : Good ⟨a, b, c, l⟩ := by
  have h2 := ie_all l hl ih
  have hK : spec_l9Kids.fv a b c l = some (decide ((l.length : Int) = 2) && allE l) := by
    rw [spec_l9Kids.fv_eq]
    by_cases hk : (l.length : Int) = 2
    · have hs := es_all l hl ih a b c 2 hk
      rcases ha with rfl | rfl | rfl | rfl | rfl | rfl | rfl | rfl | rfl | rfl | rfl | rfl | rfl | rfl | rfl <;> simp [spec_l9Kids.j0v_eq, spec_l9Kids.j1v_eq, hk] <;> exact hs
    · rcases ha with rfl | rfl | rfl | rfl | rfl | rfl | rfl | rfl | rfl | rfl | rfl | rfl | rfl | rfl | rfl <;> simp [spec_l9Kids.j0v_eq, spec_l9Kids.j1v_eq, hk]
  refine good_of _ _ (node_plain a b c l _ hK (by omega) (by omega) (by omega) (by omega) (by omega) (by omega) (by omega) (by omega) (by omega)) ?_ ?_ ?_
  · show impl_isE.fv a b c l = _
    rw [impl_isE.fv_eq]
    by_cases hk : (l.length : Int) = 2 <;> by_cases hb : b = 0 <;> by_cases hg : c.toList = [] <;> rcases ha with rfl | rfl | rfl | rfl | rfl | rfl | rfl | rfl | rfl | rfl | rfl | rfl | rfl | rfl | rfl <;> simp [impl_isE.j0v_eq, impl_isE.j1v_eq, impl_isE.j2v_eq, in_i, plain_i, h2, hk, hb, hg, eop]
  · show impl_isStatement.fv a b c l = _
    rw [impl_isStatement.fv_eq]
    rcases ha with rfl | rfl | rfl | rfl | rfl | rfl | rfl | rfl | rfl | rfl | rfl | rfl | rfl | rfl | rfl <;> simp [sop]
  · show impl_isBlock.fv a b c l = _
    rw [impl_isBlock.fv_eq]
    rcases ha with rfl | rfl | rfl | rfl | rfl | rfl | rfl | rfl | rfl | rfl | rfl | rfl | rfl | rfl | rfl <;> simp [bop]
theorem no_kid (a : Int) (b : Int) (c : ByteArray) (l : List S66) (hl : l.length ≤ 1048576) (ih : ∀ k, k ∈ l → Good k) (ha : a = 7 ∨ a = 8) : Good ⟨a, b, c, l⟩ := by
  have h2 := ie_all l hl ih
  have h3 : (l.length : Int) = 0 → allE l = true := all_nil
  have hK : spec_l9Kids.fv a b c l = some (decide ((l.length : Int) = 0)) := by
    rw [spec_l9Kids.fv_eq]
    rcases ha with rfl | rfl <;> simp [spec_l9Kids.j0v_eq, spec_l9Kids.j1v_eq, spec_l9Kids.j2v_eq, spec_l9Kids.j3v_eq, len0]
  refine good_of _ _ (node_plain a b c l _ hK (by omega) (by omega) (by omega) (by omega) (by omega) (by omega) (by omega) (by omega) (by omega)) ?_ ?_ ?_
  · show impl_isE.fv a b c l = _
    rw [impl_isE.fv_eq, ]
    by_cases hk : (l.length : Int) = 0
    · have h4 := h3 hk
      by_cases hb : b = 0 <;> by_cases hg : c.toList = [] <;> rcases ha with rfl | rfl <;> simp [impl_isE.j0v_eq, plain_i, h2, h4, hk, hb, hg, eop]
    · have hk' : l ≠ [] := fun h => hk (by rw [h]; rfl)
      by_cases hb : b = 0 <;> by_cases hg : c.toList = [] <;> rcases ha with rfl | rfl <;> simp [impl_isE.j0v_eq, plain_i, h2, hk', hb, hg, eop]
  · show impl_isStatement.fv a b c l = _
    rw [impl_isStatement.fv_eq]
    rcases ha with rfl | rfl <;> simp [sop]
  · show impl_isBlock.fv a b c l = _
    rw [impl_isBlock.fv_eq]
    rcases ha with rfl | rfl <;> simp [bop]
theorem set_kid (a : Int) (b : Int) (c : ByteArray) (l : List S66) (hl : l.length ≤ 1048576) (ih : ∀ k, k ∈ l → Good k) (ha : a = 26 ∨ a = 27) : Good ⟨a, b, c, l⟩ := by
  have h2 := ie_all l hl ih
  have hK : spec_l9Kids.fv a b c l = some (decide ((l.length : Int) = 2) && (decide ((rd_T66 l 0).f0 = 4 ∨ (rd_T66 l 0).f0 = 5) && allE l)) := by
    rw [spec_l9Kids.fv_eq]
    by_cases hk : (l.length : Int) = 2
    · have hs := es_all l hl ih a b c 2 hk
      have hp : 0 < (l.length : Int) := by omega
      have hs' : spec_l9Es.fv a b c l 0 2 = some (allE l) := hs
      by_cases h4 : (rd_T66 l 0).f0 = 4
      · rcases ha with rfl | rfl <;> simp [spec_l9Kids.j0v_eq, spec_l9Kids.j1v_eq, spec_l9Kids.j2v_eq, hk, h4, hs']
      · by_cases h5 : (rd_T66 l 0).f0 = 5
        · rcases ha with rfl | rfl <;> simp [spec_l9Kids.j0v_eq, spec_l9Kids.j1v_eq, spec_l9Kids.j2v_eq, hk, h5, hs']
        · rcases ha with rfl | rfl <;> simp [spec_l9Kids.j0v_eq, spec_l9Kids.j1v_eq, spec_l9Kids.j2v_eq, hk, h4, h5]
    · rcases ha with rfl | rfl <;> simp [spec_l9Kids.j0v_eq, spec_l9Kids.j1v_eq, spec_l9Kids.j2v_eq, hk]
  refine good_of _ _ (node_plain a b c l _ hK (by omega) (by omega) (by omega) (by omega) (by omega) (by omega) (by omega) (by omega) (by omega)) ?_ ?_ ?_
  · show impl_isE.fv a b c l = _
    rw [impl_isE.fv_eq]
    by_cases hk : (l.length : Int) = 2
    · have hp : 0 < (l.length : Int) := by omega
      by_cases h4 : (rd_T66 l 0).f0 = 4
      · by_cases hb : b = 0 <;> by_cases hg : c.toList = [] <;> rcases ha with rfl | rfl <;> simp [impl_isE.j0v_eq, impl_isE.j1v_eq, impl_isE.j2v_eq, plain_i, h2, hk, hb, hg, h4, eop]
      · by_cases h5 : (rd_T66 l 0).f0 = 5
        · by_cases hb : b = 0 <;> by_cases hg : c.toList = [] <;> rcases ha with rfl | rfl <;> simp [impl_isE.j0v_eq, impl_isE.j1v_eq, impl_isE.j2v_eq, plain_i, h2, hk, hb, hg, h5, eop]
        · by_cases hb : b = 0 <;> by_cases hg : c.toList = [] <;> rcases ha with rfl | rfl <;> simp [impl_isE.j0v_eq, impl_isE.j1v_eq, impl_isE.j2v_eq, plain_i, h2, hk, hb, hg, h4, h5, eop]
    · by_cases hb : b = 0 <;> by_cases hg : c.toList = [] <;> rcases ha with rfl | rfl <;> simp [impl_isE.j0v_eq, impl_isE.j1v_eq, impl_isE.j2v_eq, plain_i, h2, hk, hb, hg, eop]
  · show impl_isStatement.fv a b c l = _
    rw [impl_isStatement.fv_eq]
    rcases ha with rfl | rfl <;> simp [sop]
  · show impl_isBlock.fv a b c l = _
    rw [impl_isBlock.fv_eq]
    rcases ha with rfl | rfl <;> simp [bop]
theorem call_kid (b : Int) (c : ByteArray) (l : List S66) (hl : l.length ≤ 1048576) (ih : ∀ k, k ∈ l → Good k) : Good ⟨28, b, c, l⟩ := by
  have h2 := ie_all l hl ih
  have hs := es_all l hl ih 28 b c l.length rfl
  have hK : spec_l9Kids.fv 28 b c l = some (allE l) := by
    rw [spec_l9Kids.fv_eq]
    simp [spec_l9Kids.j0v_eq, spec_l9Kids.j1v_eq, spec_l9Kids.j2v_eq, spec_l9Kids.j3v_eq, hs]
  refine good_of _ (decide (b = 0) && decide (c.toList ∈ callws) && allE l) ?_ ?_ ?_ ?_
  · show spec_l9Node.fv 28 b c l = _
    rw [spec_l9Node.fv_eq, hK]
    have hcs := calls_s c
    cases hE : allE l <;> by_cases hb : b = 0 <;> simp [spec_l9Node.j0v_eq, spec_l9Node.j1v_eq, in_s, hb] <;> simpa using hcs
  · show impl_isE.fv 28 b c l = _
    rw [impl_isE.fv_eq]
    simp only [impl_isE.j0v_eq, impl_isE.j1v_eq, impl_isE.j2v_eq, calls_i, h2]
    by_cases hb : b = 0 <;> by_cases hg : c.toList ∈ callws <;> simp [hb, hg, eop]
  · show impl_isStatement.fv 28 b c l = _
    rw [impl_isStatement.fv_eq]
    simp [sop]
  · show impl_isBlock.fv 28 b c l = _
    rw [impl_isBlock.fv_eq]
    simp [bop]
theorem print_kid (b : Int) (c : ByteArray) (l : List S66) (hl : l.length ≤ 1048576) (ih : ∀ k, k ∈ l → Good k) : Good ⟨30, b, c, l⟩ := by
  have h2 := ie_all l hl ih
  have hs := es_all l hl ih 30 b c l.length rfl
  have hK : spec_l9Kids.fv 30 b c l = some (allE l) := by
    rw [spec_l9Kids.fv_eq]
    simp [spec_l9Kids.j0v_eq, spec_l9Kids.j1v_eq, spec_l9Kids.j2v_eq, spec_l9Kids.j3v_eq, hs]
  refine good_of _ _ (node_plain 30 b c l _ hK (by omega) (by omega) (by omega) (by omega) (by omega) (by omega) (by omega) (by omega) (by omega)) ?_ ?_ ?_
  · show impl_isE.fv 30 b c l = _
    rw [impl_isE.fv_eq]
    simp [impl_isE.j0v_eq, impl_isE.j1v_eq, impl_isE.j2v_eq, in_i, eop]
  · show impl_isStatement.fv 30 b c l = _
    rw [impl_isStatement.fv_eq]
    by_cases hb : b = 0 <;> by_cases hg : c.toList = [] <;> simp [plain_i, h2, hb, hg, sop]
  · show impl_isBlock.fv 30 b c l = _
    rw [impl_isBlock.fv_eq]
    simp [bop]
theorem block_kid (b : Int) (c : ByteArray) (l : List S66) (hl : l.length ≤ 1048576) (ih : ∀ k, k ∈ l → Good k) : Good ⟨29, b, c, l⟩ := by
  have h2 := is_all l hl ih
  have hs : spec_l9Kids.l0v (l.length : Int) 0 29 b c l = some (allS l) := by
    have := ss_run l hl ih 29 b c l.length 0 (by omega) (by omega)
    rwa [List.drop_zero] at this
  have hK : spec_l9Kids.fv 29 b c l = some (allS l) := by
    rw [spec_l9Kids.fv_eq]
    simp [spec_l9Kids.j0v_eq, spec_l9Kids.j1v_eq, spec_l9Kids.j2v_eq, spec_l9Kids.j3v_eq, hs]
  have hB : impl_isBlock.fv 29 b c l = some (decide (b = 0) && decide (c.toList = []) && allS l) := by
    rw [impl_isBlock.fv_eq]
    by_cases hb : b = 0 <;> by_cases hg : c.toList = [] <;> simp [plain_i, h2, hb, hg]
  refine good_of _ _ (node_plain 29 b c l _ hK (by omega) (by omega) (by omega) (by omega) (by omega) (by omega) (by omega) (by omega) (by omega)) ?_ ?_ ?_
  · show impl_isE.fv 29 b c l = _
    rw [impl_isE.fv_eq]
    simp [impl_isE.j0v_eq, impl_isE.j1v_eq, impl_isE.j2v_eq, in_i, eop]
  · show impl_isStatement.fv 29 b c l = _
    rw [impl_isStatement.fv_eq, hB]
    simp [sop]
  · show impl_isBlock.fv 29 b c l = _
    rw [hB]
    simp [bop]
theorem next_kid (b : Int) (c : ByteArray) (l : List S66) (hl : l.length ≤ 1048576) (ih : ∀ k, k ∈ l → Good k) : Good ⟨33, b, c, l⟩ := by
  have _ := hl
  have _ := ih
  have hK : spec_l9Kids.fv 33 b c l = some (decide ((l.length : Int) = 0)) := by
    rw [spec_l9Kids.fv_eq]
    simp [spec_l9Kids.j0v_eq, spec_l9Kids.j1v_eq, spec_l9Kids.j2v_eq, spec_l9Kids.j3v_eq, len0]
  refine good_of _ _ (node_plain 33 b c l _ hK (by omega) (by omega) (by omega) (by omega) (by omega) (by omega) (by omega) (by omega) (by omega)) ?_ ?_ ?_
  · show impl_isE.fv 33 b c l = _
    rw [impl_isE.fv_eq]
    simp [impl_isE.j0v_eq, impl_isE.j1v_eq, impl_isE.j2v_eq, in_i, eop]
  · show impl_isStatement.fv 33 b c l = _
    rw [impl_isStatement.fv_eq]
    by_cases hb : b = 0 <;> by_cases hg : c.toList = [] <;> simp [plain_i, len0, hb, hg, sop]
  · show impl_isBlock.fv 33 b c l = _
    rw [impl_isBlock.fv_eq]
    simp [bop]
end

section
theorem do_kid (b : Int) (c : ByteArray) (l : List S66) (hl : l.length ≤ 1048576) (ih : ∀ k, k ∈ l → Good k) : Good ⟨35, b, c, l⟩ := by
  have hK : spec_l9Kids.fv 35 b c l = some (decide ((l.length : Int) = 1) && allE l) := by
    rw [spec_l9Kids.fv_eq]
    by_cases hk : (l.length : Int) = 1
    · have hs := es_all l hl ih 35 b c 1 hk
      simp [spec_l9Kids.j0v_eq, hk]; exact hs
    · simp [spec_l9Kids.j0v_eq, hk]
  refine good_of _ _ (node_plain 35 b c l _ hK (by omega) (by omega) (by omega) (by omega) (by omega) (by omega) (by omega) (by omega) (by omega)) ?_ ?_ ?_
  · show impl_isE.fv 35 b c l = _
    rw [impl_isE.fv_eq]
    simp [impl_isE.j0v_eq, impl_isE.j1v_eq, impl_isE.j2v_eq, in_i, eop]
  · show impl_isStatement.fv 35 b c l = _
    rw [impl_isStatement.fv_eq]
    by_cases hk : (l.length : Int) = 1
    · have hp : 0 < l.length := by omega
      have hg0 := (ih l[0] (List.getElem_mem hp)).e
      have hr := rd_in2 l 0 hp
      have hr' : rd_T66 l 0 = l[0] := hr
      have hE : allE l = (nb l[0] && eop l[0]) := by
        obtain ⟨k, hk2⟩ := List.length_eq_one_iff.1 (by omega : l.length = 1)
        subst hk2
        rw [allE_cons]
        simp [allE]
      by_cases hb : b = 0 <;> by_cases hg : c.toList = [] <;> simp [plain_i, hk, hb, hg, sop, hr', hg0, hE]
    · by_cases hb : b = 0 <;> by_cases hg : c.toList = [] <;> simp [plain_i, hk, hb, hg, sop]
  · show impl_isBlock.fv 35 b c l = _
    rw [impl_isBlock.fv_eq]
    simp [bop]
theorem num_kid (b : Int) (c : ByteArray) (l : List S66) (hc : c.size ≤ 1048576) (hl : l.length ≤ 1048576) (ih : ∀ k, k ∈ l → Good k) : Good ⟨1, b, c, l⟩ := by
  have _ := hl
  have _ := ih
  have h2 := ie_all l hl ih
  refine good_of _ (decide (0 ≤ b ∧ b ≤ 9000000000000) && decide (c.toList = []) && decide (l = [])) ?_ ?_ ?_ ?_
  · show spec_l9Node.fv 1 b c l = _
    rw [spec_l9Node.fv_eq, spec_l9Kids.fv_eq]
    by_cases hk : l = [] <;> by_cases hb : b = 0 <;> by_cases hg : c.toList = [] <;> by_cases hr : 0 ≤ b ∧ b ≤ 9000000000000 <;> simp [spec_l9Kids.j0v_eq, spec_l9Kids.j1v_eq, spec_l9Kids.j2v_eq, spec_l9Kids.j3v_eq, spec_l9Node.j0v_eq, in_s, len0, hk, hb, hg, hr]
  · show impl_isE.fv 1 b c l = _
    rw [impl_isE.fv_eq]
    by_cases hk : l = []
    · have h4 : allE l = true := by rw [hk]; rfl
      by_cases hg : c.toList = [] <;> by_cases hr : 0 ≤ b ∧ b ≤ 9000000000000 <;> simp [in_i, h2, h4, hk, hg, hr, eop]
      all_goals simp_all
    · by_cases hg : c.toList = [] <;> by_cases hr : 0 ≤ b ∧ b ≤ 9000000000000 <;> simp [in_i, h2, hk, hg, hr, eop]
  · show impl_isStatement.fv 1 b c l = _
    rw [impl_isStatement.fv_eq]
    simp [sop]
  · show impl_isBlock.fv 1 b c l = _
    rw [impl_isBlock.fv_eq]
    simp [bop]
theorem text_kid (b : Int) (c : ByteArray) (l : List S66) (hc : c.size ≤ 1048576) (hl : l.length ≤ 1048576) (ih : ∀ k, k ∈ l → Good k) : Good ⟨2, b, c, l⟩ := by
  have h2 := ie_all l hl ih
  have ht := tokenText c
  have hs : spec_l9Line.fv c = some (ln c) := line c (by omega)
  refine good_of _ (decide (b = 0) && ln c && decide (l = [])) ?_ ?_ ?_ ?_
  · show spec_l9Node.fv 2 b c l = _
    rw [spec_l9Node.fv_eq, spec_l9Kids.fv_eq]
    by_cases hk : l = [] <;> by_cases hb : b = 0 <;> cases hg : ln c <;> simp [spec_l9Kids.j0v_eq, spec_l9Kids.j1v_eq, spec_l9Kids.j2v_eq, spec_l9Kids.j3v_eq, spec_l9Node.j0v_eq, in_s, len0, hk, hb, hg, hs]
  · show impl_isE.fv 2 b c l = _
    rw [impl_isE.fv_eq]
    by_cases hk : l = []
    · have h4 : impl_allEs.fv ([] : List S66) = some true := by rw [hk] at h2; exact h2
      by_cases hb : b = 0 <;> cases hg : ln c <;> simp [ht, h4, hk, hb, hg, eop]
    · by_cases hb : b = 0 <;> cases hg : ln c <;> simp [ht, hk, hb, hg, eop]
  · show impl_isStatement.fv 2 b c l = _
    rw [impl_isStatement.fv_eq]
    simp [sop]
  · show impl_isBlock.fv 2 b c l = _
    rw [impl_isBlock.fv_eq]
    simp [bop]
theorem rex_kid (b : Int) (c : ByteArray) (l : List S66) (hc : c.size ≤ 1048576) (hl : l.length ≤ 1048576) (ih : ∀ k, k ∈ l → Good k) : Good ⟨3, b, c, l⟩ := by
  have h2 := ie_all l hl ih
  obtain ⟨x, hs, ht⟩ := rex_both c hc
  refine good_of _ (decide (b = 0) && x && decide (l = [])) ?_ ?_ ?_ ?_
  · show spec_l9Node.fv 3 b c l = _
    rw [spec_l9Node.fv_eq, spec_l9Kids.fv_eq]
    by_cases hk : l = [] <;> by_cases hb : b = 0 <;> cases x <;> simp [spec_l9Kids.j0v_eq, spec_l9Kids.j1v_eq, spec_l9Kids.j2v_eq, spec_l9Kids.j3v_eq, spec_l9Node.j0v_eq, in_s, len0, hk, hb, hs]
  · show impl_isE.fv 3 b c l = _
    rw [impl_isE.fv_eq]
    by_cases hk : l = []
    · have h4 : impl_allEs.fv ([] : List S66) = some true := by rw [hk] at h2; exact h2
      by_cases hb : b = 0 <;> cases x <;> simp [ht, h4, hk, hb, eop]
    · by_cases hb : b = 0 <;> cases x <;> simp [ht, hk, hb, eop]
  · show impl_isStatement.fv 3 b c l = _
    rw [impl_isStatement.fv_eq]
    simp [sop]
  · show impl_isBlock.fv 3 b c l = _
    rw [impl_isBlock.fv_eq]
    simp [bop]
theorem var_kid (b : Int) (c : ByteArray) (l : List S66) (hc : c.size ≤ 1048576) (hl : l.length ≤ 1048576) (ih : ∀ k, k ∈ l → Good k) : Good ⟨4, b, c, l⟩ := by
  have h2 := ie_all l hl ih
  obtain ⟨x, hs, ht⟩ := name_both c hc
  refine good_of _ (decide (b = 0) && x && decide (l = [])) ?_ ?_ ?_ ?_
  · show spec_l9Node.fv 4 b c l = _
    rw [spec_l9Node.fv_eq, spec_l9Kids.fv_eq]
    by_cases hk : l = [] <;> by_cases hb : b = 0 <;> cases x <;> simp [spec_l9Kids.j0v_eq, spec_l9Kids.j1v_eq, spec_l9Kids.j2v_eq, spec_l9Kids.j3v_eq, spec_l9Node.j0v_eq, spec_l9Node.j1v_eq, in_s, len0, hk, hb, hs]
  · show impl_isE.fv 4 b c l = _
    rw [impl_isE.fv_eq]
    by_cases hk : l = []
    · have h4 : impl_allEs.fv ([] : List S66) = some true := by rw [hk] at h2; exact h2
      by_cases hb : b = 0 <;> cases x <;> simp [ht, h4, hk, hb, eop]
    · by_cases hb : b = 0 <;> cases x <;> simp [ht, hk, hb, eop]
  · show impl_isStatement.fv 4 b c l = _
    rw [impl_isStatement.fv_eq]
    simp [sop]
  · show impl_isBlock.fv 4 b c l = _
    rw [impl_isBlock.fv_eq]
    simp [bop]
theorem cell_kid (b : Int) (c : ByteArray) (l : List S66) (hc : c.size ≤ 1048576) (hl : l.length ≤ 1048576) (ih : ∀ k, k ∈ l → Good k) : Good ⟨5, b, c, l⟩ := by
  have h2 := ie_all l hl ih
  obtain ⟨x, hs, ht⟩ := name_both c hc
  have hK : spec_l9Kids.fv 5 b c l = some (decide ((l.length : Int) = 1) && allE l) := by
    rw [spec_l9Kids.fv_eq]
    by_cases hk : (l.length : Int) = 1
    · have hs := es_all l hl ih 5 b c 1 hk
      simp [spec_l9Kids.j0v_eq, hk]; exact hs
    · simp [spec_l9Kids.j0v_eq, hk]
  refine good_of _ (decide (b = 0) && x && (decide ((l.length : Int) = 1) && allE l)) ?_ ?_ ?_ ?_
  · show spec_l9Node.fv 5 b c l = _
    rw [spec_l9Node.fv_eq, hK]
    cases hq : (decide ((l.length : Int) = 1) && allE l) <;> by_cases hb : b = 0 <;> cases x <;> simp [spec_l9Node.j0v_eq, spec_l9Node.j1v_eq, in_s, hb, hs]
  · show impl_isE.fv 5 b c l = _
    rw [impl_isE.fv_eq]
    by_cases hk : (l.length : Int) = 1 <;> by_cases hb : b = 0 <;> cases x <;> simp [ht, h2, hk, hb, eop]
  · show impl_isStatement.fv 5 b c l = _
    rw [impl_isStatement.fv_eq]
    simp [sop]
  · show impl_isBlock.fv 5 b c l = _
    rw [impl_isBlock.fv_eq]
    simp [bop]
theorem drop_kid (b : Int) (c : ByteArray) (l : List S66) (hc : c.size ≤ 1048576) (hl : l.length ≤ 1048576) (ih : ∀ k, k ∈ l → Good k) : Good ⟨34, b, c, l⟩ := by
  obtain ⟨x, hs, ht⟩ := name_both c hc
  have hK : spec_l9Kids.fv 34 b c l = some (decide ((l.length : Int) = 1) && allE l) := by
    rw [spec_l9Kids.fv_eq]
    by_cases hk : (l.length : Int) = 1
    · have hs := es_all l hl ih 34 b c 1 hk
      simp [spec_l9Kids.j0v_eq, hk]; exact hs
    · simp [spec_l9Kids.j0v_eq, hk]
  refine good_of _ (decide (b = 0) && x && (decide ((l.length : Int) = 1) && allE l)) ?_ ?_ ?_ ?_
  · show spec_l9Node.fv 34 b c l = _
    rw [spec_l9Node.fv_eq, hK]
    cases hq : (decide ((l.length : Int) = 1) && allE l) <;> by_cases hb : b = 0 <;> cases x <;> simp [spec_l9Node.j0v_eq, spec_l9Node.j1v_eq, in_s, hb, hs]
  · show impl_isE.fv 34 b c l = _
    rw [impl_isE.fv_eq]
    simp [impl_isE.j0v_eq, impl_isE.j1v_eq, impl_isE.j2v_eq, in_i, eop]
  · show impl_isStatement.fv 34 b c l = _
    rw [impl_isStatement.fv_eq]
    by_cases hk : (l.length : Int) = 1
    · have hp : 0 < l.length := by omega
      have hg0 := (ih l[0] (List.getElem_mem hp)).e
      have hr' : rd_T66 l 0 = l[0] := rd_in2 l 0 hp
      have hE : allE l = (nb l[0] && eop l[0]) := by
        obtain ⟨k, hk2⟩ := List.length_eq_one_iff.1 (by omega : l.length = 1)
        subst hk2
        rw [allE_cons]
        simp [allE]
      by_cases hb : b = 0 <;> cases x <;> simp [hk, hb, ht, sop, hr', hg0, hE]
    · by_cases hb : b = 0 <;> cases x <;> simp [hk, hb, ht, sop]
  · show impl_isBlock.fv 34 b c l = _
    rw [impl_isBlock.fv_eq]
    simp [bop]
end

theorem len_two {α : Type} {l : List α} (h : l.length = 2) : ∃ p q, l = [p, q] := by
  match l, h with
  | [p, q], _ => exact ⟨p, q, rfl⟩
theorem len_three {α : Type} {l : List α} (h : l.length = 3) : ∃ p q r, l = [p, q, r] := by
  match l, h with
  | [p, q, r], _ => exact ⟨p, q, r, rfl⟩
section
theorem rd0 (k : S66) (m : List S66) : rd_T66 (k :: m) 0 = k := rfl
theorem rd1 (k k2 : S66) (m : List S66) : rd_T66 (k :: k2 :: m) 1 = k2 := rfl
theorem rd2 (k k2 k3 : S66) (m : List S66) : rd_T66 (k :: k2 :: k3 :: m) 2 = k3 := rfl
theorem while_kid (b : Int) (c : ByteArray) (l : List S66) (hl : l.length ≤ 1048576) (ih : ∀ k, k ∈ l → Good k) : Good ⟨32, b, c, l⟩ := by
  have hK : spec_l9Kids.fv 32 b c l = some (decide ((l.length : Int) = 2) && (allE (l.take 1) && allB (l.drop 1))) := by
    rw [spec_l9Kids.fv_eq]
    by_cases hk : (l.length : Int) = 2
    · have hs := es_one l hl ih 32 b c (by omega)
      have hb1 : spec_l9Blocks.fv 32 b c l 1 = some (allB (l.drop 1)) := by
        rw [spec_l9Blocks.fv_eq]; exact bs_run l hl ih 32 b c (l.length - 1) 1 rfl (by omega)
      cases h1 : allE (l.take 1) <;> simp [spec_l9Kids.j0v_eq, spec_l9Kids.j1v_eq, spec_l9Kids.j2v_eq, spec_l9Kids.j3v_eq, hk, hs, h1, hb1]
    · simp [spec_l9Kids.j0v_eq, spec_l9Kids.j1v_eq, spec_l9Kids.j2v_eq, spec_l9Kids.j3v_eq, hk]
  refine good_of _ _ (node_plain 32 b c l _ hK (by omega) (by omega) (by omega) (by omega) (by omega) (by omega) (by omega) (by omega) (by omega)) ?_ ?_ ?_
  · show impl_isE.fv 32 b c l = _
    rw [impl_isE.fv_eq]
    simp [impl_isE.j0v_eq, impl_isE.j1v_eq, impl_isE.j2v_eq, in_i, eop]
  · show impl_isStatement.fv 32 b c l = _
    rw [impl_isStatement.fv_eq]
    by_cases hk : (l.length : Int) = 2
    · obtain ⟨k1, k2, hk2⟩ := len_two (by omega : l.length = 2)
      subst hk2
      have g1 := (ih k1 (by simp)).e
      have g2 := (ih k2 (by simp)).b
      have e1 : allE (List.take 1 [k1, k2]) = (nb k1 && eop k1) := by show allE [k1] = _; rw [allE_cons]; simp [allE]
      have e2 : allB (List.drop 1 [k1, k2]) = (nb k2 && bop k2) := by show allB [k2] = _; rw [allB_cons]; simp [allB]
      rw [e1, e2]
      cases h1 : (nb k1 && eop k1) <;> by_cases hb : b = 0 <;> by_cases hg : c.toList = [] <;> simp [plain_i, hb, hg, sop, rd0, rd1, g1, g2, h1]
    · by_cases hb : b = 0 <;> by_cases hg : c.toList = [] <;> simp [plain_i, hk, hb, hg, sop]
  · show impl_isBlock.fv 32 b c l = _
    rw [impl_isBlock.fv_eq]
    simp [bop]
theorem if_kid (b : Int) (c : ByteArray) (l : List S66) (hl : l.length ≤ 1048576) (ih : ∀ k, k ∈ l → Good k) : Good ⟨31, b, c, l⟩ := by
  have hK : spec_l9Kids.fv 31 b c l = some (decide (2 ≤ (l.length : Int) ∧ (l.length : Int) ≤ 3) && (allE (l.take 1) && allB (l.drop 1))) := by
    rw [spec_l9Kids.fv_eq]
    by_cases hk : 2 ≤ (l.length : Int) ∧ (l.length : Int) ≤ 3
    · have hs := es_one l hl ih 31 b c (by omega)
      have hb1 : spec_l9Blocks.fv 31 b c l 1 = some (allB (l.drop 1)) := by
        rw [spec_l9Blocks.fv_eq]; exact bs_run l hl ih 31 b c (l.length - 1) 1 rfl (by omega)
      simp only [spec_l9Kids.j0v_eq, spec_l9Kids.j1v_eq, spec_l9Kids.j2v_eq, spec_l9Kids.j3v_eq, in_s, decide_eq_true hk]
      cases h1 : allE (l.take 1) <;> simp [hs, h1, hb1]
    · simp only [spec_l9Kids.j0v_eq, spec_l9Kids.j1v_eq, spec_l9Kids.j2v_eq, spec_l9Kids.j3v_eq, in_s, decide_eq_false hk]
      simp
  refine good_of _ _ (node_plain 31 b c l _ hK (by omega) (by omega) (by omega) (by omega) (by omega) (by omega) (by omega) (by omega) (by omega)) ?_ ?_ ?_
  · show impl_isE.fv 31 b c l = _
    rw [impl_isE.fv_eq]
    simp [impl_isE.j0v_eq, impl_isE.j1v_eq, impl_isE.j2v_eq, in_i, eop]
  · show impl_isStatement.fv 31 b c l = _
    rw [impl_isStatement.fv_eq]
    by_cases hk : 2 ≤ (l.length : Int) ∧ (l.length : Int) ≤ 3
    · rcases (by omega : l.length = 2 ∨ l.length = 3) with h2 | h3
      · obtain ⟨k1, k2, hk2⟩ := len_two h2
        subst hk2
        have g1 := (ih k1 (by simp)).e
        have g2 := (ih k2 (by simp)).b
        have e1 : allE (List.take 1 [k1, k2]) = (nb k1 && eop k1) := by show allE [k1] = _; rw [allE_cons]; simp [allE]
        have e2 : allB (List.drop 1 [k1, k2]) = (nb k2 && bop k2) := by show allB [k2] = _; rw [allB_cons]; simp [allB]
        have w : wrap64 ((([k1, k2] : List S66).length : Int) - 1) = 1 := by rw [wrap_in (by simp) (by simp)]; rfl
        rw [e1, e2, w]
        cases h1 : (nb k1 && eop k1) <;> cases h4 : (nb k2 && bop k2) <;> by_cases hb : b = 0 <;> by_cases hg : c.toList = [] <;> simp [plain_i, in_i, hb, hg, sop, rd0, rd1, g1, g2, h1, h4]
      · obtain ⟨k1, k2, k3, hk3⟩ := len_three h3
        subst hk3
        have g1 := (ih k1 (by simp)).e
        have g2 := (ih k2 (by simp)).b
        have g3 := (ih k3 (by simp)).b
        have e1 : allE (List.take 1 [k1, k2, k3]) = (nb k1 && eop k1) := by show allE [k1] = _; rw [allE_cons]; simp [allE]
        have e2 : allB (List.drop 1 [k1, k2, k3]) = ((nb k2 && bop k2) && (nb k3 && bop k3)) := by show allB [k2, k3] = _; rw [allB_cons, allB_cons]; simp [allB]
        have w : wrap64 ((([k1, k2, k3] : List S66).length : Int) - 1) = 2 := by rw [wrap_in (by simp) (by simp)]; rfl
        rw [e1, e2, w]
        cases h1 : (nb k1 && eop k1) <;> cases h4 : (nb k2 && bop k2) <;> by_cases hb : b = 0 <;> by_cases hg : c.toList = [] <;> simp [plain_i, in_i, hb, hg, sop, rd0, rd1, rd2, g1, g2, g3, h1, h4]
    · simp only [in_i, decide_eq_false hk]
      by_cases hb : b = 0 <;> by_cases hg : c.toList = [] <;> simp [plain_i, hb, hg, sop]
  · show impl_isBlock.fv 31 b c l = _
    rw [impl_isBlock.fv_eq]
    simp [bop]
theorem other_kid (a : Int) (b : Int) (c : ByteArray) (l : List S66) (hl : l.length ≤ 1048576) (ih : ∀ k, k ∈ l → Good k) (ha : a < 1 ∨ 35 < a) : Good ⟨a, b, c, l⟩ := by
  have _ := hl
  have _ := ih
  have n : ∀ k : Int, 1 ≤ k → k ≤ 35 → a ≠ k := fun k h h' => by omega
  have hK : spec_l9Kids.fv a b c l = some (decide (l = [])) := by
    rw [spec_l9Kids.fv_eq]
    simp [spec_l9Kids.j0v_eq, spec_l9Kids.j1v_eq, spec_l9Kids.j2v_eq, spec_l9Kids.j3v_eq, len0, n]
  refine good_of _ false ?_ ?_ ?_ ?_
  · show spec_l9Node.fv a b c l = _
    have hd : ¬ (1 ≤ a ∧ a ≤ 35) := by omega
    rw [spec_l9Node.fv_eq, hK]
    cases hq : decide (l = []) <;> simp [spec_l9Node.j0v_eq, in_s, hd]
    all_goals omega
  · show impl_isE.fv a b c l = _
    have hd : ¬ (9 ≤ a ∧ a ≤ 21) := by omega
    rw [impl_isE.fv_eq]
    simp [impl_isE.j0v_eq, impl_isE.j1v_eq, impl_isE.j2v_eq, in_i, n]
    all_goals omega
  · show impl_isStatement.fv a b c l = _
    rw [impl_isStatement.fv_eq]
    simp [n]
  · show impl_isBlock.fv a b c l = _
    rw [impl_isBlock.fv_eq]
    simp [n]
end
theorem step (y : S66) (hc : y.f2.size ≤ 1048576) (hl : y.f3.length ≤ 1048576) (ih : ∀ k, k ∈ y.f3 → Good k) : Good y := by
  obtain ⟨a, b, c, l⟩ := y
  by_cases h0 : a < 1 ∨ 35 < a
  · exact other_kid a b c l hl ih h0
  · rcases (by omega : a = 1 ∨ a = 2 ∨ a = 3 ∨ a = 4 ∨ a = 5 ∨ (a = 6 ∨ a = 22 ∨ a = 23) ∨ (a = 7 ∨ a = 8) ∨ (a = 9 ∨ a = 10 ∨ a = 11 ∨ a = 12 ∨ a = 13 ∨ a = 14 ∨ a = 15 ∨ a = 16 ∨ a = 17 ∨ a = 18 ∨ a = 19 ∨ a = 20 ∨ a = 21 ∨ a = 24 ∨ a = 25) ∨ (a = 26 ∨ a = 27) ∨ a = 28 ∨ a = 29 ∨ a = 30 ∨ a = 31 ∨ a = 32 ∨ a = 33 ∨ a = 34 ∨ a = 35) with rfl | rfl | rfl | rfl | rfl | h | h | h | h | rfl | rfl | rfl | rfl | rfl | rfl | rfl | rfl
    · exact num_kid b c l hc hl ih
    · exact text_kid b c l hc hl ih
    · exact rex_kid b c l hc hl ih
    · exact var_kid b c l hc hl ih
    · exact cell_kid b c l hc hl ih
    · exact one_kid a b c l hl ih h
    · exact no_kid a b c l hl ih h
    · exact two_kid a b c l hl ih h
    · exact set_kid a b c l hl ih h
    · exact call_kid b c l hl ih
    · exact block_kid b c l hl ih
    · exact print_kid b c l hl ih
    · exact if_kid b c l hl ih
    · exact while_kid b c l hl ih
    · exact next_kid b c l hl ih
    · exact drop_kid b c l hc hl ih
    · exact do_kid b c l hl ih
theorem good (x : S61) (hx : Wf61 x) (hb : bulk x ≤ 1048576) : Good (conv x) := by
  induction hx with
  | mk x h0 h1 h2 h3 g3 ih =>
    have hk := bulk_eq x
    rw [conv_eq]
    refine step _ (by show x.f2.size ≤ 1048576; omega) (by simp; omega) (fun y hy => ?_)
    obtain ⟨z, hz, rfl⟩ := List.mem_map.1 hy
    exact ih z hz (by have := bulk_kid hz; omega)

/-! ### rules -/
theorem rule_both (x : S63) (hx : Wf63 x) (hb : bl_Rule x ≤ 1048576) : ∃ b : Bool,
    impl_Tidy_1.fv (cv_Rule x).f0 (cv_Rule x).f1.f0 (cv_Rule x).f1.f1 (cv_Rule x).f1.f2 (cv_Rule x).f1.f3 (cv_Rule x).f2.f0 (cv_Rule x).f2.f1 (cv_Rule x).f2.f2 (cv_Rule x).f2.f3 = some (!b) ∧
    ∀ (l : List S68) (i : Nat) (K : Bool), i < l.length → l.length ≤ 1048576 → l[i]? = some (cv_Rule x) → spec_Tidy.l0v l ((i + 1 : Nat) : Int) = some K → spec_Tidy.l0v l (i : Int) = some (b && K) := by
  unfold bl_Rule at hb
  have g1 := good x.f1 hx.2.1 (by omega)
  have g2 := good x.f2 hx.2.2 (by omega)
  obtain ⟨t1, a1, a2, a3, a4⟩ := deep_node x.f1 hx.2.1 (by omega)
  obtain ⟨t2, b1, b2, b3, b4⟩ := deep_node x.f2 hx.2.2 (by omega)
  show ∃ b : Bool, impl_Tidy_1.fv x.f0 (conv x.f1).f0 (conv x.f1).f1 (conv x.f1).f2 (conv x.f1).f3 (conv x.f2).f0 (conv x.f2).f1 (conv x.f2).f2 (conv x.f2).f3 = some (!b) ∧ _
  generalize hp : conv x.f1 = p at *
  generalize hq : conv x.f2 = q at *
  have hcv : cv_Rule x = ⟨x.f0, p, q⟩ := by rw [← hp, ← hq]; rfl
  have hnone : impl_noNode.f p.f0 p.f1 p.f2 p.f3 = some (decide (p.f0 = 0) && decide (p.f1 = 0) && decide (p.f2.toList = []) && decide (p.f3 = [])) := by
    unfold impl_noNode.f
    rw [plain_i, len0]
    by_cases h0 : p.f0 = 0 <;> by_cases h1 : p.f1 = 0 <;> by_cases h2 : p.f2.toList = [] <;> simp [h0, h1, h2]
  obtain ⟨none, hnn⟩ : ∃ none : Bool, none = (decide (p.f0 = 0) && decide (p.f1 = 0) && decide (p.f2.toList = []) && decide (p.f3 = [])) := ⟨_, rfl⟩
  rw [← hnn] at hnone
  refine ⟨(decide (x.f0 = 1 ∨ x.f0 = 2) && none && decide (t1 ≤ 16) || decide (x.f0 = 3) && (nb p && eop p) && decide (t1 ≤ 16)) && (nb q && bop q) && decide (t2 ≤ 16), ?_, ?_⟩
  · rw [impl_Tidy_1.fv_eq, a4, Option.bind_some, b4, g2.b]
    simp only [Option.bind_some, impl_Tidy_1.j0v_eq, impl_Tidy_1.j1v_eq, hnone, g1.e]
    by_cases c1 : t1 > 16
    · have c1' : ¬ t1 ≤ 16 := by omega
      simp [c1, c1']
    · have c1' : t1 ≤ 16 := by omega
      by_cases c2 : t2 > 16
      · have c2' : ¬ t2 ≤ 16 := by omega
        simp [c1, c2, c2']
      · have c2' : t2 ≤ 16 := by omega
        cases h3 : (nb q && bop q)
        · simp [c1, c2]
        · by_cases k1 : x.f0 = 1
          · simp [c1, c2, c1', c2', k1]
          · by_cases k2 : x.f0 = 2
            · simp [c1, c2, c1', c2', k2]
            · by_cases k3 : x.f0 = 3
              · simp [c1, c2, c1', c2', k3]
              · simp [c1, c2, c1', c2', k1, k2, k3]
  · intro l i K hi hl hx2 hK
    have hr : rd_T68 l (i : Int) = ⟨x.f0, p, q⟩ := by
      rw [rdrule2 l i hi, ← hcv]
      rw [List.getElem?_eq_getElem hi] at hx2
      exact Option.some.inj hx2
    have hw : wrap64 ((i : Int) + 1) = ((i + 1 : Nat) : Int) := by rw [wrap_in (by omega) (by omega)]; omega
    have hd0 : none = true → t1 ≤ 16 := by
      intro hn
      rw [hnn] at hn
      simp only [Bool.and_eq_true, decide_eq_true_eq] at hn
      rw [hn.2, spec_Deep.fv_eq, spec_Deep.l0v_eq, if_neg (by simp), wrap_in (by omega) (by omega)] at a3
      have := Option.some.inj a3
      omega
    have J2 : ∀ v : Bool, spec_Tidy.j2v l (i : Int) v x.f0 p.f0 p.f1 p.f2 p.f3 q.f0 q.f1 q.f2 q.f3 = some (v && ((nb q && bop q) && (decide (t2 ≤ 16) && K))) := by
      intro v
      rw [spec_Tidy.j2v_eq, b3, g2.sp, hw, hK]
      unfold bop
      cases v
      · rfl
      · rw [if_pos rfl]
        by_cases h29 : q.f0 = 29
        · rw [if_pos h29, Option.bind_some, Option.bind_some, decide_eq_true h29]
          by_cases c2 : t2 > 16
          · rw [if_pos c2, decide_eq_false (by omega)]; cases nb q <;> rfl
          · rw [if_neg c2, decide_eq_true (by omega)]; cases nb q <;> rfl
        · rw [if_neg h29, decide_eq_false h29]; cases nb q <;> rfl
    have J1 : spec_Tidy.j1v l (i : Int) none x.f0 p.f0 p.f1 p.f2 p.f3 q.f0 q.f1 q.f2 q.f3 = some (((decide (x.f0 = 1 ∨ x.f0 = 2) && none && decide (t1 ≤ 16) || decide (x.f0 = 3) && (nb p && eop p) && decide (t1 ≤ 16)) && (nb q && bop q) && decide (t2 ≤ 16)) && K) := by
      rw [spec_Tidy.j1v_eq]
      simp only [J2, in_s, isE_op, g1.sp, a3, Option.bind_some]
      have hq2 : decide (1 ≤ p.f0 ∧ p.f0 ≤ 28) = eop p := rfl
      rw [hq2]
      by_cases k12 : 1 ≤ x.f0 ∧ x.f0 ≤ 2
      · have k12' : x.f0 = 1 ∨ x.f0 = 2 := by omega
        have k3 : ¬ x.f0 = 3 := by omega
        rw [decide_eq_true k12, if_pos rfl, decide_eq_true k12', decide_eq_false k3, if_neg k3]
        cases hnn2 : none
        · rw [if_neg (by simp)]; simp
        · rw [if_pos rfl, decide_eq_true (hd0 hnn2)]; simp [Bool.and_assoc]
      · have k12' : ¬ (x.f0 = 1 ∨ x.f0 = 2) := by omega
        rw [decide_eq_false k12, if_neg (by simp), decide_eq_false k12']
        by_cases k3 : x.f0 = 3
        · rw [if_pos k3, decide_eq_true k3]
          cases eop p <;> cases nb p <;> simp [Bool.and_assoc]
        · rw [if_neg k3, decide_eq_false k3]; simp
    rw [spec_Tidy.l0v_eq, if_pos (by omega), if_pos (by omega), hr]
    simp only []
    rw [← J1]
    have hz : none = (decide (p.f0 = 0) && decide (p.f1 = 0) && decide (p.f2.toList = []) && ((p.f3.length : Int) == 0)) := by rw [len0]; exact hnn
    rw [hz]
    by_cases z0 : p.f0 = 0
    · rw [if_pos z0, decide_eq_true z0]
      by_cases z1 : p.f1 = 0
      · rw [if_pos z1, decide_eq_true z1]
        by_cases z2 : p.f2.toList = []
        · rw [if_pos z2, decide_eq_true z2]; rfl
        · rw [if_neg z2, decide_eq_false z2]; rfl
      · rw [if_neg z1, decide_eq_false z1]; rfl
    · rw [if_neg z0, decide_eq_false z0]; rfl
theorem tidy_loop (x : List S63) (hx : ∀ x_ ∈ x, Wf63 x_) (hb : bls_Rule x ≤ 1048576) (d : Nat) : ∀ i : Nat, x.length - i = d → i ≤ x.length →
    ∃ (b : Bool) (t : Int), spec_Tidy.l0v (x.map cv_Rule) (i : Int) = some b ∧ impl_Rule_39_186.l0v (x.map cv_Rule) ((x.map cv_Rule).length : Int) (i : Int) = some t ∧ decide (t ≥ 0) = !b := by
  have hb' := hb
  unfold bls_Rule at hb'
  have hlen : (x.map cv_Rule).length = x.length := List.length_map _
  induction d with
  | zero =>
    intro i h1 h2
    refine ⟨true, -1, ?_, ?_, rfl⟩
    · rw [spec_Tidy.l0v_eq, if_neg (by omega)]
    · rw [impl_Rule_39_186.l0v_eq, if_neg (by omega)]
  | succ d ih =>
    intro i h1 h2
    have hi : i < x.length := by omega
    have hm := Go.Proofs.YthigelphmjepaaaW.Bulk.le_sum (List.mem_map_of_mem (f := bl_Rule) (List.getElem_mem hi))
    obtain ⟨b, e1, e2⟩ := rule_both x[i] (hx _ (List.getElem_mem hi)) (by omega)
    obtain ⟨c, t, f1, f2, f3⟩ := ih (i + 1) (by omega) (by omega)
    have hs := e2 (x.map cv_Rule) i c (by omega) (by omega) (by simp [hi]) f1
    refine ⟨b && c, (if b = true then t else i), hs, ?_, ?_⟩
    · rw [impl_Rule_39_186.l0v_eq, if_pos (by omega), if_pos (by omega), if_pos (by omega), rdrule2 _ i (by omega), List.getElem_map, e1, wrap_in (by omega) (by omega), show (i : Int) + 1 = ((i + 1 : Nat) : Int) by omega, f2]
      cases b <;> simp
    · cases b
      · simp
      · simpa using f3
theorem tidy_both (x : List S63) (hx : ∀ x_ ∈ x, Wf63 x_) (hb : bls_Rule x ≤ 1048576) : ∃ b : Bool, spec_Tidy.fv (x.map cv_Rule) = some b ∧ impl_Tidy.fv (x.map cv_Rule) = some b := by
  obtain ⟨b, t, e1, e2, e3⟩ := tidy_loop x hx hb x.length 0 (by omega) (by omega)
  refine ⟨b, ?_, ?_⟩
  · rw [spec_Tidy.fv_eq]; exact e1
  · have e2' : impl_Rule_39_186.l0v (x.map cv_Rule) ((x.map cv_Rule).length : Int) 0 = some t := e2
    rw [impl_Tidy.fv_eq, impl_Rule_39_185.fv_eq, impl_Rule_39_186.fv_eq, e2', Option.bind_some, Option.bind_some, e3, Bool.not_not]
end FnExactTidyAid
open FnExactTidyAid

theorem FnExactTidy : laws_FnExactTidy.Pure := by
  intro x hx
  refine (laws_FnExactTidy.f_lim _).get ?_
  rw [laws_FnExactTidy.fv_eq, sz_RuleS x hx 1048576 (by omega) (by omega), Option.bind_some]
  by_cases h : dn (bls_Rule x) 1048576 < 0
  · rw [if_pos h]
  · have hn := dn_pos h (by omega)
    have hb1 : bls_Rule x ≤ 1048576 := by omega
    obtain ⟨b, e1, e2⟩ := tidy_both x hx.2 hb1
    rw [if_neg h, to_RuleS x hx.2 hb1]
    simp only [Option.bind_some, e1, e2]
    rw [if_neg (by simp), eq_RuleS x hx.2 hb1, Option.bind_some, if_pos rfl]

end Go.Proofs.Ythigelphmjepaaa.Pure
