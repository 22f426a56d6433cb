/- The pure statement of FnExactCellGet holds: the cell that the program finds is the first one of its kind and name. -/
import Derived.Test.YtgdhiccjllpogaaQFnExactCellGetx2
import Derived.Test.YtgdhiccjllpogaaBulk
namespace Go.Proofs.Ytgdhiccjllpogaa.Pure
open Go.RowKit Go.Proofs.Ytgdhiccjllpogaa.QFnExactCellGet Go.Proofs.YtgdhiccjllpogaaW.PrintWords Go.Proofs.YtgdhiccjllpogaaW.PrintLast Go.Proofs.YtgdhiccjllpogaaW.PrintMore Go.Proofs.YtgdhiccjllpogaaW.Lims
open Go.Proofs.YtgdhiccjllpogaaW.Bulk
namespace FnExactCellGetAid

theorem rdin50 (xs : List S50) (i : Nat) (h : i < xs.length) : rd_T50 xs (i : Int) = xs[i] := by
  unfold rd_T50
  simp [List.getD_eq_getElem?_getD, h]

theorem rdin53 (xs : List S53) (i : Nat) (h : i < xs.length) : rd_T53 xs (i : Int) = xs[i] := by
  unfold rd_T53
  simp [List.getD_eq_getElem?_getD, h]

theorem rdin73 (xs : List S73) (i : Nat) (h : i < xs.length) : rd_T73 xs (i : Int) = xs[i] := by
  unfold rd_T73
  simp [List.getD_eq_getElem?_getD, h]

theorem rdin110 (xs : List S110) (i : Nat) (h : i < xs.length) : rd_T110 xs (i : Int) = xs[i] := by
  unfold rd_T110
  simp [List.getD_eq_getElem?_getD, h]

theorem rdin152 (xs : List S152) (i : Nat) (h : i < xs.length) : rd_T152 xs (i : Int) = xs[i] := by
  unfold rd_T152
  simp [List.getD_eq_getElem?_getD, h]

theorem eq_Val (y : S53) : laws_eqVal.f (y.f0) (y.f1) (y.f2) (y.f0) (y.f1) (y.f2) = some true := by
  unfold laws_eqVal.f
  simp

theorem eq_ValS (l : List S53) (h : l.length ≤ 9223372036854775807) : laws_eqValS.fv l l = some true := by
  rw [laws_eqValS.fv_eq, if_pos rfl]
  exact eq_all laws_eqValS.l0v (fun x0 x1 x5 => (laws_eqVal.f ((rd_T53 x0 x5).f0) ((rd_T53 x0 x5).f1) ((rd_T53 x0 x5).f2) ((rd_T53 x1 x5).f0) ((rd_T53 x1 x5).f1) ((rd_T53 x1 x5).f2))) (by intro x y i; exact laws_eqValS.l0v_eq x y i) l h (fun i hi => by simp only [rdin53 l i hi]; exact eq_Val l[i])

theorem eq_Cell (y : S110) : laws_eqCell.f (y.f0) (y.f1) (y.f2.f0) (y.f2.f1) (y.f2.f2) (y.f0) (y.f1) (y.f2.f0) (y.f2.f1) (y.f2.f2) = some true := by
  unfold laws_eqCell.f
  simp [eq_Val y.f2 ]

theorem eq_CellS (l : List S110) (h : l.length ≤ 9223372036854775807) : laws_eqCellS.fv l l = some true := by
  rw [laws_eqCellS.fv_eq, if_pos rfl]
  exact eq_all laws_eqCellS.l0v (fun x0 x1 x5 => (laws_eqCell.f ((rd_T110 x0 x5).f0) ((rd_T110 x0 x5).f1) ((rd_T110 x0 x5).f2.f0) ((rd_T110 x0 x5).f2.f1) ((rd_T110 x0 x5).f2.f2) ((rd_T110 x1 x5).f0) ((rd_T110 x1 x5).f1) ((rd_T110 x1 x5).f2.f0) ((rd_T110 x1 x5).f2.f1) ((rd_T110 x1 x5).f2.f2))) (by intro x y i; exact laws_eqCellS.l0v_eq x y i) l h (fun i hi => by simp only [rdin110 l i hi]; exact eq_Cell l[i])

theorem eq_State (l0_0 : List S53) (l0_1 : List S110) (a0_2 : Int) (a0_3 : Int) (hl0_0 : l0_0.length ≤ 9223372036854775807) (hl0_1 : l0_1.length ≤ 9223372036854775807) : laws_eqState.fv l0_0 l0_1 a0_2 a0_3 l0_0 l0_1 a0_2 a0_3 = some true := by
  rw [laws_eqState.fv_eq]
  simp [eq_ValS l0_0 hl0_0, eq_CellS l0_1 hl0_1]

def bl_Val (x : S73) : Nat := (x.f2.size + 0)
theorem sz_Val (x : S73) (hx : Wf73 x) (left : Int) (h0 : 0 ≤ left) (h1 : left ≤ 1048576) : laws_szVal.f (x.f0) (x.f1) (x.f2) left = some (dn (bl_Val x) left) := by
  unfold laws_szVal.f
  show _ = some (dn (x.f2.size + 0) left)
  refine dn_cut h0 h1 (len_le hx.2.2) fun t ht h0 h1 => ?_
  rw [ht]
  exact dn_end _ h0

def bls_Val (l : List S73) : Nat := l.length + (l.map bl_Val).sum
theorem sz_ValS (l : List S73) (hx : l.length ≤ maxLen ∧ ∀ x_ ∈ l, Wf73 x_) (left : Int) (h0 : 0 ≤ left) (h1 : left ≤ 1048576) : laws_szValS.fv l left = some (dn (bls_Val l) left) := by
  rw [laws_szValS.fv_eq]
  have hl := len_le hx.1
  refine dn_cut h0 h1 hl fun t ht h0 h1 => ?_
  rw [ht]
  exact sz_all laws_szValS.l0v (fun x0 x1 x5 => (laws_szVal.f ((rd_T73 x0 x5).f0) ((rd_T73 x0 x5).f1) ((rd_T73 x0 x5).f2) x1)) bl_Val (by intro x l i; exact laws_szValS.l0v_eq x l i) l hl (fun i h left h0 h1 => by simp only [rdin73 l i h]; exact sz_Val l[i] (hx.2 _ (List.getElem_mem h)) left h0 h1) t h0 h1

def bl_Cell (x : S152) : Nat := (x.f1.size + (bl_Val x.f2 + 0))
theorem sz_Cell (x : S152) (hx : Wf152 x) (left : Int) (h0 : 0 ≤ left) (h1 : left ≤ 1048576) : laws_szCell.f (x.f0) (x.f1) (x.f2.f0) (x.f2.f1) (x.f2.f2) left = some (dn (bl_Cell x) left) := by
  unfold laws_szCell.f
  show _ = some (dn (x.f1.size + (bl_Val x.f2 + 0)) left)
  refine dn_cut h0 h1 (len_le hx.2.1) fun t ht h0 h1 => ?_
  rw [ht]
  refine dn_bind h0 h1 (sz_Val x.f2 hx.2.2 _ h0 h1) fun t h0 h1 => ?_
  exact dn_end _ h0

def bls_Cell (l : List S152) : Nat := l.length + (l.map bl_Cell).sum
theorem sz_CellS (l : List S152) (hx : l.length ≤ maxLen ∧ ∀ x_ ∈ l, Wf152 x_) (left : Int) (h0 : 0 ≤ left) (h1 : left ≤ 1048576) : laws_szCellS.fv l left = some (dn (bls_Cell l) left) := by
  rw [laws_szCellS.fv_eq]
  have hl := len_le hx.1
  refine dn_cut h0 h1 hl fun t ht h0 h1 => ?_
  rw [ht]
  exact sz_all laws_szCellS.l0v (fun x0 x1 x5 => (laws_szCell.f ((rd_T152 x0 x5).f0) ((rd_T152 x0 x5).f1) ((rd_T152 x0 x5).f2.f0) ((rd_T152 x0 x5).f2.f1) ((rd_T152 x0 x5).f2.f2) x1)) bl_Cell (by intro x l i; exact laws_szCellS.l0v_eq x l i) l hl (fun i h left h0 h1 => by simp only [rdin152 l i h]; exact sz_Cell l[i] (hx.2 _ (List.getElem_mem h)) left h0 h1) t h0 h1

def bl_State (x : S50) : Nat := (bls_Val x.f0 + (bls_Cell x.f1 + 0))
theorem sz_State (x : S50) (hx : Wf50 x) (left : Int) (h0 : 0 ≤ left) (h1 : left ≤ 1048576) : laws_szState.fv (x.f0) (x.f1) (x.f2) (x.f3) left = some (dn (bl_State x) left) := by
  rw [laws_szState.fv_eq]
  show _ = some (dn (bls_Val x.f0 + (bls_Cell x.f1 + 0)) left)
  refine dn_bind h0 h1 (sz_ValS x.f0 hx.1 _ h0 h1) fun t h0 h1 => ?_
  refine dn_bind h0 h1 (sz_CellS x.f1 hx.2.1 _ h0 h1) fun t h0 h1 => ?_
  exact dn_end _ h0

def cv_Val (x : S73) : S53 := ⟨x.f0, x.f1, x.f2⟩
theorem to_Val (x : S73) (hb : bl_Val x ≤ 1048576) : laws_toVal.f (x.f0) (x.f1) (x.f2) = some ((cv_Val x).f0, (cv_Val x).f1, (cv_Val x).f2) := by
  unfold bl_Val at hb
  unfold laws_toVal.f
  all_goals rfl

theorem to_ValS (l : List S73) (hb : bls_Val l ≤ 1048576) : laws_toValS.fv l = some (l.map cv_Val) := by
  have hb' := hb
  unfold bls_Val at hb'
  rw [laws_toValS.fv_eq, if_pos (by omega), if_pos (by omega)]
  have := to_all laws_toValS.l0v (fun x0 x4 => (laws_toVal.f ((rd_T73 x0 x4).f0) ((rd_T73 x0 x4).f1) ((rd_T73 x0 x4).f2))) (fun bt140 => (⟨bt140.1, bt140.2.1, bt140.2.2⟩ : S53)) cv_Val (by intro x acc i; exact laws_toValS.l0v_eq x acc i) l (by omega) (fun i h => by
    have hm := le_sum (List.mem_map_of_mem (f := bl_Val) (List.getElem_mem h))
    simp only [rdin73 l i h]; exact ⟨_, to_Val l[i] (by omega), rfl⟩) z53
  simpa using this

def cv_Cell (x : S152) : S110 := ⟨x.f0, x.f1, cv_Val x.f2⟩
theorem to_Cell (x : S152) (hb : bl_Cell x ≤ 1048576) : laws_toCell.f (x.f0) (x.f1) (x.f2.f0) (x.f2.f1) (x.f2.f2) = some ((cv_Cell x).f0, (cv_Cell x).f1, (cv_Cell x).f2.f0, (cv_Cell x).f2.f1, (cv_Cell x).f2.f2) := by
  unfold bl_Cell at hb
  unfold laws_toCell.f
  rw [to_Val x.f2 (by omega), Option.bind_some]
  all_goals rfl

theorem to_CellS (l : List S152) (hb : bls_Cell l ≤ 1048576) : laws_toCellS.fv l = some (l.map cv_Cell) := by
  have hb' := hb
  unfold bls_Cell at hb'
  rw [laws_toCellS.fv_eq, if_pos (by omega), if_pos (by omega)]
  have := to_all laws_toCellS.l0v (fun x0 x4 => (laws_toCell.f ((rd_T152 x0 x4).f0) ((rd_T152 x0 x4).f1) ((rd_T152 x0 x4).f2.f0) ((rd_T152 x0 x4).f2.f1) ((rd_T152 x0 x4).f2.f2))) (fun bt154 => (⟨bt154.1, bt154.2.1, (⟨bt154.2.2.1, bt154.2.2.2.1, bt154.2.2.2.2⟩ : S53)⟩ : S110)) cv_Cell (by intro x acc i; exact laws_toCellS.l0v_eq x acc i) l (by omega) (fun i h => by
    have hm := le_sum (List.mem_map_of_mem (f := bl_Cell) (List.getElem_mem h))
    simp only [rdin152 l i h]; exact ⟨_, to_Cell l[i] (by omega), rfl⟩) z110
  simpa using this

theorem to_State (x : S50) (hb : bl_State x ≤ 1048576) : laws_toState.fv (x.f0) (x.f1) (x.f2) (x.f3) = some (x.f0.map cv_Val, x.f1.map cv_Cell, x.f2, x.f3) := by
  unfold bl_State at hb
  rw [laws_toState.fv_eq]
  rw [to_ValS x.f0 (by omega), Option.bind_some]
  rw [to_CellS x.f1 (by omega), Option.bind_some]
  all_goals rfl


theorem at_both (regs : List S53) (x : List S110) (p q a : Int) (b : ByteArray) (hl : x.length ≤ 1048576) (d : Nat) : ∀ i : Nat, x.length - i = d → i ≤ x.length →
    ∃ t : Int, spec_l11At.l0v a b i regs x p q = some t ∧ impl_Cell_126.l0v x x.length i a b = some t ∧ t < x.length := by
  induction d with
  | zero =>
    intro i h1 h2
    refine ⟨-1, ?_, ?_, by omega⟩
    · rw [spec_l11At.l0v_eq, if_neg (by omega)]
    · rw [impl_Cell_126.l0v_eq, if_neg (by omega)]
  | succ d ih =>
    intro i h1 h2
    have hi : i < x.length := by omega
    obtain ⟨t, e1, e2, e3⟩ := ih (i + 1) (by omega) (by omega)
    have hw : wrap64 ((i : Int) + 1) = ((i + 1 : Nat) : Int) := by rw [wrap_in (by omega) (by omega)]; omega
    by_cases ha : (x[i]).f0 = a
    · by_cases hb : (x[i]).f1.toList = b.toList
      · refine ⟨i, ?_, ?_, by omega⟩
        · rw [spec_l11At.l0v_eq, if_pos (by omega), if_pos (by omega), rdin110 x i hi, if_pos ha, if_pos hb]
        · rw [impl_Cell_126.l0v_eq, if_pos (by omega), if_pos (by omega), if_pos (by omega), rdin110 x i hi]
          simp [impl_cellAt_1.f, ha, hb]
      · refine ⟨t, ?_, ?_, e3⟩
        · rw [spec_l11At.l0v_eq, if_pos (by omega), if_pos (by omega), rdin110 x i hi, if_pos ha, if_neg hb, hw, e1]
        · rw [impl_Cell_126.l0v_eq, if_pos (by omega), if_pos (by omega), if_pos (by omega), rdin110 x i hi, hw, e2]
          simp [impl_cellAt_1.f, ha, hb]
    · refine ⟨t, ?_, ?_, e3⟩
      · rw [spec_l11At.l0v_eq, if_pos (by omega), if_pos (by omega), rdin110 x i hi, if_neg ha, hw, e1]
      · rw [impl_Cell_126.l0v_eq, if_pos (by omega), if_pos (by omega), if_pos (by omega), rdin110 x i hi, hw, e2]
        simp [impl_cellAt_1.f, ha]
end FnExactCellGetAid
open FnExactCellGetAid

theorem FnExactCellGet : laws_FnExactCellGet.Pure := by
  intro x a b hx ha hb
  refine (laws_FnExactCellGet.f_lim _ _ _ _ _ _).get ?_
  rw [laws_FnExactCellGet.fv_eq]
  by_cases hs : (b.size : Int) > 1048576
  · rw [if_pos hs]
  · rw [if_neg hs, sz_State x hx 1048576 (by omega) (by omega), Option.bind_some]
    by_cases h : dn (bl_State x) 1048576 < 0
    · rw [if_pos h]
    · have hn := dn_pos h (by omega)
      have hb1 : bl_State x ≤ 1048576 := by omega
      have hb2 := hb1
      unfold bl_State bls_Val bls_Cell at hb2
      rw [if_neg h, to_State x hb1]
      simp only [Option.bind_some]
      obtain ⟨t, e1, e2, e3⟩ := at_both (x.f0.map cv_Val) (x.f1.map cv_Cell) x.f2 x.f3 a b (by simp; omega) _ 0 rfl (by omega)
      have hsp : spec_CellGet.fv (x.f0.map cv_Val) (x.f1.map cv_Cell) x.f2 x.f3 a b = impl_CellGet.fv (x.f0.map cv_Val) (x.f1.map cv_Cell) x.f2 x.f3 a b := by
        rw [spec_CellGet.fv_eq, impl_CellGet.fv_eq, spec_l11At.fv_eq, impl_cellAt.fv_eq, impl_Cell_126.fv_eq, show (0 : Int) = ((0 : Nat) : Int) from rfl, e1, e2]
        rfl
      obtain ⟨r, hr⟩ : ∃ r, spec_CellGet.fv (x.f0.map cv_Val) (x.f1.map cv_Cell) x.f2 x.f3 a b = some r := by
        rw [spec_CellGet.fv_eq, spec_l11At.fv_eq]
        simp only [show (0 : Int) = ((0 : Nat) : Int) from rfl]
        rw [e1, Option.bind_some]
        by_cases ht : t < ((0 : Nat) : Int)
        · rw [if_pos ht]; exact ⟨_, rfl⟩
        · rw [if_neg ht, if_pos (by omega), if_pos e3]; exact ⟨_, rfl⟩
      rw [← hsp, hr]
      simp only [Option.bind_some]
      rw [eq_Val ⟨r.1, r.2.1, r.2.2⟩, Option.bind_some, if_pos rfl, eq_State _ _ _ _ (by simp; omega) (by simp; omega)]
      rfl

end Go.Proofs.Ytgdhiccjllpogaa.Pure
