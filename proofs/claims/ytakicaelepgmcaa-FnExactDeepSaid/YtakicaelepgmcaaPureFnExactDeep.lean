/- The program's Deep returns what the reference's returns, for every tree. -/
import Derived.Test.YtakicaelepgmcaaQFnExactDeepx2
import Derived.Test.YtakicaelepgmcaaLim
namespace Go.Proofs.Ytakicaelepgmcaa.Pure
open Go.RowKit Go.Proofs.Ytakicaelepgmcaa.QFnExactDeep Go.Proofs.YtakicaelepgmcaaW.PrintWords Go.Proofs.YtakicaelepgmcaaW.PrintLast Go.Proofs.YtakicaelepgmcaaW.PrintMore Go.Proofs.YtakicaelepgmcaaW.Lims
namespace FnExactDeepAid

/-! ### trees that came in: how much they hold; their copy; each is like itself -/
theorem rd_in (xs : List S47) (i : Nat) (h : i < xs.length) : rd_T47 xs (i : Int) = xs[i] := by
  unfold rd_T47
  simp [List.getD_eq_getElem?_getD, h]
theorem rd_in2 (xs : List S52) (i : Nat) (h : i < xs.length) : rd_T52 xs (i : Int) = xs[i] := by
  unfold rd_T52
  simp [List.getD_eq_getElem?_getD, h]

theorem eta2 (y : S52) : (⟨y.f0, y.f1, y.f2, y.f3⟩ : S52) = y := by cases y; rfl

def bulk (x : S47) : Nat := x.f2.size + x.f3.length + (x.f3.attach.map (fun k => bulk k.1)).sum
termination_by SizeOf.sizeOf x
decreasing_by
  have h := k.2
  cases x with
  | mk a b c l =>
    have h2 : SizeOf.sizeOf k.1 < SizeOf.sizeOf l := List.sizeOf_lt_of_mem h
    simp only [S47.mk.sizeOf_spec]
    omega
theorem bulk_eq (x : S47) : bulk x = x.f2.size + x.f3.length + (x.f3.map bulk).sum := by
  rw [bulk, List.attach_map_val (f := bulk)]
def conv (x : S47) : S52 := ⟨x.f0, x.f1, x.f2, x.f3.attach.map (fun k => conv k.1)⟩
termination_by SizeOf.sizeOf x
decreasing_by
  have h := k.2
  cases x with
  | mk a b c l =>
    have h2 : SizeOf.sizeOf k.1 < SizeOf.sizeOf l := List.sizeOf_lt_of_mem h
    simp only [S47.mk.sizeOf_spec]
    omega
theorem conv_eq (x : S47) : conv x = ⟨x.f0, x.f1, x.f2, x.f3.map conv⟩ := by
  rw [conv, List.attach_map_val (f := conv)]

theorem sz_loop (x0 : List S47) (hl : x0.length ≤ 9223372036854775807)
    (ih : ∀ y, y ∈ x0 → ∀ left : Int, 0 ≤ left → left ≤ 1048576 → laws_szNode.fv y.f0 y.f1 y.f2 y.f3 left = some (if (bulk y : Int) ≤ left then left - bulk y else -1)) (d : Nat) :
    ∀ (i : Nat) (left : Int), x0.length - i = d → i ≤ x0.length → 0 ≤ left → left ≤ 1048576 →
      laws_szNodeS.l0v x0 left (i : Int) = some (if ((((x0.drop i).map bulk).sum : Nat) : Int) ≤ left then left - (((x0.drop i).map bulk).sum : Nat) else -1) := by
  induction d with
  | zero =>
    intro i left h1 h2 h3 h4
    rw [laws_szNodeS.l0v_eq, if_neg (by omega), List.drop_of_length_le (by omega)]
    simp [h3]
  | succ d ihd =>
    intro i left h1 h2 h3 h4
    have hi : i < x0.length := by omega
    rw [laws_szNodeS.l0v_eq, if_pos (by omega), if_pos (by omega), rd_in x0 i hi, ih x0[i] (List.getElem_mem hi) left h3 h4]
    rw [List.drop_eq_getElem_cons hi, List.map_cons, List.sum_cons]
    simp only [Option.bind_some]
    by_cases hb : (bulk x0[i] : Int) ≤ left
    · rw [if_pos hb, if_neg (by omega), wrap_in (by omega) (by omega), show (i : Int) + 1 = ((i + 1 : Nat) : Int) by omega, ihd (i + 1) _ (by omega) (by omega) (by omega) (by omega)]
      by_cases hs : (((x0.drop (i + 1)).map bulk).sum : Int) ≤ left - bulk x0[i]
      · rw [if_pos hs, if_pos (by omega)]; congr 1; omega
      · rw [if_neg hs, if_neg (by omega)]
    · rw [if_neg hb, if_pos (by omega), if_neg (by omega)]

theorem sz_kids (x0 : List S47) (hl : x0.length ≤ 9223372036854775807)
    (ih : ∀ y, y ∈ x0 → ∀ left : Int, 0 ≤ left → left ≤ 1048576 → laws_szNode.fv y.f0 y.f1 y.f2 y.f3 left = some (if (bulk y : Int) ≤ left then left - bulk y else -1)) (left : Int) (h0 : 0 ≤ left) (h1 : left ≤ 1048576) :
    laws_szNodeS.fv x0 left = some (if ((x0.length + (x0.map bulk).sum : Nat) : Int) ≤ left then left - (x0.length + (x0.map bulk).sum : Nat) else -1) := by
  rw [laws_szNodeS.fv_eq, wrap_in (by omega) (by omega)]
  by_cases h : left - (x0.length : Int) < 0
  · rw [if_pos h, if_neg (by omega)]
  · rw [if_neg h]
    have := sz_loop x0 hl ih x0.length 0 (left - x0.length) (by omega) (by omega) (by omega) (by omega)
    rw [show (0 : Int) = ((0 : Nat) : Int) from rfl, this, List.drop_zero]
    by_cases hs : (((x0.map bulk).sum : Nat) : Int) ≤ left - x0.length
    · rw [if_pos hs, if_pos (by omega)]; congr 1; omega
    · rw [if_neg hs, if_neg (by omega)]

theorem sz_node (x : S47) (hx : Wf47 x) : ∀ left : Int, 0 ≤ left → left ≤ 1048576 → laws_szNode.fv x.f0 x.f1 x.f2 x.f3 left = some (if (bulk x : Int) ≤ left then left - bulk x else -1) := by
  induction hx with
  | mk x h0 h1 h2 h3 g3 ih =>
    intro left hl0 hl1
    have h2' := len_le h2
    rw [laws_szNode.fv_eq, wrap_in (by omega) (by omega), bulk_eq]
    by_cases h : left - (x.f2.size : Int) < 0
    · rw [if_pos h, if_neg (by omega)]
    · rw [if_neg h, sz_kids x.f3 (len_le h3) ih _ (by omega) (by omega)]
      simp only [Option.bind_some]
      by_cases hs : ((x.f3.length + (x.f3.map bulk).sum : Nat) : Int) ≤ left - x.f2.size
      · rw [if_pos hs, if_neg (by omega), if_pos (by omega)]; congr 1; omega
      · rw [if_neg hs, if_pos (by omega), if_neg (by omega)]

theorem le_sum {l : List Nat} {n : Nat} (h : n ∈ l) : n ≤ l.sum := by
  induction l with
  | nil => simp at h
  | cons a l ih =>
    rw [List.sum_cons]
    rcases List.mem_cons.1 h with rfl | h
    · omega
    · have := ih h; omega

theorem bulk_kid {x y : S47} (h : y ∈ x.f3) : bulk y + x.f3.length + x.f2.size ≤ bulk x := by
  rw [bulk_eq x]
  have := le_sum (List.mem_map_of_mem (f := bulk) h)
  omega

theorem to_loop (x0 : List S47) (hl : x0.length ≤ 1048576) (ih : ∀ y, y ∈ x0 → laws_toNode.fv y.f0 y.f1 y.f2 y.f3 = some ((conv y).f0, (conv y).f1, (conv y).f2, (conv y).f3)) (d : Nat) :
    ∀ (i : Nat) (rest : List S52), x0.length - i = d → i ≤ x0.length → rest.length = x0.length - i → laws_toNodeS.l0v x0 ((x0.take i).map conv ++ rest) (i : Int) = some (x0.map conv) := by
  induction d with
  | zero =>
    intro i rest h1 h2 h3
    have : rest = [] := List.eq_nil_of_length_eq_zero (by omega)
    subst this
    rw [laws_toNodeS.l0v_eq, if_neg (by omega), List.take_of_length_le (by omega), List.append_nil]
  | succ d ihd =>
    intro i rest h1 h2 h3
    have hi : i < x0.length := by omega
    obtain ⟨r, rest, rfl⟩ : ∃ r rs, rest = r :: rs := by cases rest with
      | nil => simp at h3; omega
      | cons r rs => exact ⟨r, rs, rfl⟩
    rw [laws_toNodeS.l0v_eq, if_pos (by omega), if_pos (by omega), rd_in x0 i hi, ih x0[i] (List.getElem_mem hi)]
    simp only [Option.bind_some]
    have hlen : ((x0.take i).map conv).length = i := by simp; omega
    rw [if_pos (by simp; omega), wrap_in (by omega) (by omega), show (i : Int) + 1 = ((i + 1 : Nat) : Int) by omega, Int.toNat_natCast]
    have e : ((x0.take i).map conv ++ r :: rest).set i ⟨(conv x0[i]).f0, (conv x0[i]).f1, (conv x0[i]).f2, (conv x0[i]).f3⟩ = (x0.take (i + 1)).map conv ++ rest := by
      rw [List.set_append_right _ _ (by omega), hlen, Nat.sub_self, List.set_cons_zero, List.take_succ_eq_append_getElem hi, List.map_append, List.append_assoc, eta2]
      simp
    rw [e]
    exact ihd (i + 1) rest (by omega) (by omega) (by simp at h3; omega)

theorem to_kids (x0 : List S47) (hl : x0.length ≤ 1048576) (ih : ∀ y, y ∈ x0 → laws_toNode.fv y.f0 y.f1 y.f2 y.f3 = some ((conv y).f0, (conv y).f1, (conv y).f2, (conv y).f3)) :
    laws_toNodeS.fv x0 = some (x0.map conv) := by
  rw [laws_toNodeS.fv_eq, if_pos (by omega), if_pos (by omega)]
  have := to_loop x0 hl ih x0.length 0 (List.replicate x0.length z52) (by omega) (by omega) (by simp)
  simpa using this

theorem to_node (x : S47) (hx : Wf47 x) (hb : bulk x ≤ 1048576) : laws_toNode.fv x.f0 x.f1 x.f2 x.f3 = some ((conv x).f0, (conv x).f1, (conv x).f2, (conv x).f3) := by
  induction hx with
  | mk x h0 h1 h2 h3 g3 ih =>
    have hk := bulk_eq x
    rw [laws_toNode.fv_eq, to_kids x.f3 (by omega) (fun y hy => ih y hy (by have := bulk_kid hy; omega)), conv_eq]
    rfl

theorem eq_loop (l : List S52) (hl : l.length ≤ 1048576) (ih : ∀ y, y ∈ l → laws_eqNode.fv y.f0 y.f1 y.f2 y.f3 y.f0 y.f1 y.f2 y.f3 = some true) (d : Nat) :
    ∀ i : Nat, l.length - i = d → i ≤ l.length → laws_eqNodeS.l0v l l (i : Int) = some true := by
  induction d with
  | zero =>
    intro i h1 h2
    rw [laws_eqNodeS.l0v_eq, if_neg (by omega)]
  | succ d ihd =>
    intro i h1 h2
    have hi : i < l.length := by omega
    rw [laws_eqNodeS.l0v_eq, if_pos (by omega), if_pos (by omega), if_pos (by omega), rd_in2 l i hi, ih l[i] (List.getElem_mem hi)]
    simp only [Option.bind_some, if_true]
    rw [wrap_in (by omega) (by omega), show (i : Int) + 1 = ((i + 1 : Nat) : Int) by omega]
    exact ihd (i + 1) (by omega) (by omega)

theorem eq_kids (l : List S52) (hl : l.length ≤ 1048576) (ih : ∀ y, y ∈ l → laws_eqNode.fv y.f0 y.f1 y.f2 y.f3 y.f0 y.f1 y.f2 y.f3 = some true) : laws_eqNodeS.fv l l = some true := by
  rw [laws_eqNodeS.fv_eq, if_pos rfl]
  exact eq_loop l hl ih l.length 0 (by omega) (by omega)

theorem eq_node (x : S47) (hx : Wf47 x) (hb : bulk x ≤ 1048576) : laws_eqNode.fv (conv x).f0 (conv x).f1 (conv x).f2 (conv x).f3 (conv x).f0 (conv x).f1 (conv x).f2 (conv x).f3 = some true := by
  induction hx with
  | mk x h0 h1 h2 h3 g3 ih =>
    have hk := bulk_eq x
    rw [laws_eqNode.fv_eq, if_pos rfl, if_pos rfl, if_pos rfl, conv_eq]
    simp only []
    rw [eq_kids (x.f3.map conv) (by simp; omega) (fun y hy => by
      obtain ⟨z, hz, rfl⟩ := List.mem_map.1 hy
      exact ih z hz (by have := bulk_kid hz; omega))]
    rfl

theorem max_some (a b : Int) : spec_l1Max.f a b = some (mx a b) := by
  unfold spec_l1Max.f mx
  by_cases h : a > b
  · rw [if_pos h, if_neg (by omega)]
  · rw [if_neg h]
    by_cases e : a < b
    · rw [if_pos e]
    · rw [if_neg e]; congr 1; omega
theorem mx_bounds {a b c : Int} (ha : 0 ≤ a) (hb : b ≤ c) (ha' : a ≤ c) : 0 ≤ mx a b ∧ mx a b ≤ c := by unfold mx; split <;> omega

theorem deep_loop (l : List S52) (hl : l.length ≤ 1048576) (b : Int) (hb : 0 ≤ b ∧ b ≤ 1048576) (p q : Int) (s : ByteArray)
    (ih : ∀ y, y ∈ l → ∃ t, 0 ≤ t ∧ t ≤ b ∧ spec_Deep.fv y.f0 y.f1 y.f2 y.f3 = some t ∧ impl_Deep.fv y.f0 y.f1 y.f2 y.f3 = some t) (d : Nat) :
    ∀ (i : Nat) (m : Int), l.length - i = d → i ≤ l.length → 0 ≤ m → m ≤ b → ∃ t, 0 ≤ t ∧ t ≤ b + 1 ∧ spec_Deep.l0v m (i : Int) p q s l = some t ∧ impl_Deep.l0v m l (l.length : Int) (i : Int) = some t := by
  induction d with
  | zero =>
    intro i m h1 h2 h3 h4
    refine ⟨m + 1, by omega, by omega, ?_, ?_⟩
    · rw [spec_Deep.l0v_eq, if_neg (by omega), wrap_in (by omega) (by omega)]
    · rw [impl_Deep.l0v_eq, if_neg (by omega), wrap_in (by omega) (by omega)]
  | succ d ihd =>
    intro i m h1 h2 h3 h4
    have hi : i < l.length := by omega
    obtain ⟨t, ht0, htb, hs, hp⟩ := ih l[i] (List.getElem_mem hi)
    obtain ⟨hm0, hm1⟩ := mx_bounds h3 htb h4
    obtain ⟨u, hu0, hu1, hu2, hu3⟩ := ihd (i + 1) (mx m t) (by omega) (by omega) hm0 hm1
    refine ⟨u, hu0, hu1, ?_, ?_⟩
    · rw [spec_Deep.l0v_eq, if_pos (by omega), if_pos (by omega), rd_in2 l i hi, hs]
      simp only [Option.bind_some, max_some]
      rw [wrap_in (by omega) (by omega), show (i : Int) + 1 = ((i + 1 : Nat) : Int) by omega]
      exact hu2
    · rw [impl_Deep.l0v_eq, if_pos (by omega), if_pos (by omega), if_pos (by omega), rd_in2 l i hi, hp]
      simp only [Option.bind_some]
      rw [wrap_in (by omega) (by omega), show (i : Int) + 1 = ((i + 1 : Nat) : Int) by omega]
      exact hu3

theorem deep_node (x : S47) (hx : Wf47 x) (hb : bulk x ≤ 1048576) : ∃ t : Int, 0 ≤ t ∧ t ≤ bulk x + 1 ∧ spec_Deep.fv (conv x).f0 (conv x).f1 (conv x).f2 (conv x).f3 = some t ∧ impl_Deep.fv (conv x).f0 (conv x).f1 (conv x).f2 (conv x).f3 = some t := by
  induction hx with
  | mk x h0 h1 h2 h3 g3 ih =>
    have hk := bulk_eq x
    obtain ⟨t, h4, h5, h6, h7⟩ := deep_loop (x.f3.map conv) (by simp; omega) (bulk x : Int) (by omega) x.f0 x.f1 x.f2 (fun y hy => by
      obtain ⟨z, hz, rfl⟩ := List.mem_map.1 hy
      have hbz := bulk_kid hz
      have hpos : 0 < x.f3.length := List.length_pos_of_mem hz
      obtain ⟨t, h4, h5, h6, h7⟩ := ih z hz (by omega)
      exact ⟨t, h4, by omega, h6, h7⟩) (x.f3.map conv).length 0 0 (by omega) (by omega) (by omega) (by omega)
    refine ⟨t, h4, h5, ?_, ?_⟩
    · rw [conv_eq, spec_Deep.fv_eq]; exact h6
    · rw [conv_eq, impl_Deep.fv_eq]; exact h7
end FnExactDeepAid
open FnExactDeepAid

theorem FnExactDeep : laws_FnExactDeep.Pure := by
  intro x hx
  refine (laws_FnExactDeep.f_lim _ _ _ _).get ?_
  rw [laws_FnExactDeep.fv_eq, sz_node x hx 1048576 (by omega) (by omega)]
  simp only [Option.bind_some]
  by_cases hb : (bulk x : Int) ≤ 1048576
  · obtain ⟨t, h0, h1, h2, h3⟩ := deep_node x hx (by omega)
    rw [if_pos hb, if_neg (by omega)]
    simp only [to_node x hx (by omega), Option.bind_some, h2, h3, if_true, eq_node x hx (by omega)]
  · rw [if_neg hb, if_pos (by omega)]

end Go.Proofs.Ytakicaelepgmcaa.Pure
