/- The program's CellPut returns what the reference's returns, for every state, name, key and value. -/
import Derived.Test.YtehefologhfdhaaQFnExactCellPutx4
import Derived.Test.YtehefologhfdhaaWFnExactCellPut
namespace Go.Proofs.Ytehefologhfdhaa.Pure
open Go.RowKit Go.Proofs.Ytehefologhfdhaa.QFnExactCellPut Go.Proofs.YtehefologhfdhaaW.PrintWords Go.Proofs.YtehefologhfdhaaW.PrintLast Go.Proofs.YtehefologhfdhaaW.PrintMore Go.Proofs.YtehefologhfdhaaW.Lims
open Go.Proofs.YtehefologhfdhaaW.Bulk
namespace FnExactCellPutAid

theorem rdin30 (xs : List S30) (i : Nat) (h : i < xs.length) : rd_T30 xs (i : Int) = xs[i] := by
  unfold rd_T30
  simp [List.getD_eq_getElem?_getD, h]

theorem rdin42 (xs : List S42) (i : Nat) (h : i < xs.length) : rd_T42 xs (i : Int) = xs[i] := by
  unfold rd_T42
  simp [List.getD_eq_getElem?_getD, h]

theorem rdin46 (xs : List S46) (i : Nat) (h : i < xs.length) : rd_T46 xs (i : Int) = xs[i] := by
  unfold rd_T46
  simp [List.getD_eq_getElem?_getD, h]

theorem rdin58 (xs : List S58) (i : Nat) (h : i < xs.length) : rd_T58 xs (i : Int) = xs[i] := by
  unfold rd_T58
  simp [List.getD_eq_getElem?_getD, h]

theorem rdin72 (xs : List S72) (i : Nat) (h : i < xs.length) : rd_T72 xs (i : Int) = xs[i] := by
  unfold rd_T72
  simp [List.getD_eq_getElem?_getD, h]

def bl_Val (x : S42) : Nat := (x.f2.size + 0)
theorem sz_Val (x : S42) (hx : Wf42 x) (left : Int) (h0 : 0 ≤ left) (h1 : left ≤ 1048576) : laws_szVal.f (x.f0) (x.f1) (x.f2) left = some (dn (bl_Val x) left) := by
  unfold laws_szVal.f
  show _ = some (dn (x.f2.size + 0) left)
  refine dn_cut h0 h1 (len_le hx.2.2) fun t ht h0 h1 => ?_
  rw [ht]
  exact dn_end _ h0

def bls_Val (l : List S42) : Nat := l.length + (l.map bl_Val).sum
theorem sz_ValS (l : List S42) (hx : l.length ≤ maxLen ∧ ∀ x_ ∈ l, Wf42 x_) (left : Int) (h0 : 0 ≤ left) (h1 : left ≤ 1048576) : laws_szValS.fv l left = some (dn (bls_Val l) left) := by
  rw [laws_szValS.fv_eq]
  have hl := len_le hx.1
  refine dn_cut h0 h1 hl fun t ht h0 h1 => ?_
  rw [ht]
  exact sz_all laws_szValS.l0v (fun x0 x1 x5 => (laws_szVal.f ((rd_T42 x0 x5).f0) ((rd_T42 x0 x5).f1) ((rd_T42 x0 x5).f2) x1)) bl_Val (by intro x l i; exact laws_szValS.l0v_eq x l i) l hl (fun i h left h0 h1 => by simp only [rdin42 l i h]; exact sz_Val l[i] (hx.2 _ (List.getElem_mem h)) left h0 h1) t h0 h1

def bl_Cell (x : S72) : Nat := (x.f1.size + (bl_Val x.f2 + 0))
theorem sz_Cell (x : S72) (hx : Wf72 x) (left : Int) (h0 : 0 ≤ left) (h1 : left ≤ 1048576) : laws_szCell.f (x.f0) (x.f1) (x.f2.f0) (x.f2.f1) (x.f2.f2) left = some (dn (bl_Cell x) left) := by
  unfold laws_szCell.f
  show _ = some (dn (x.f1.size + (bl_Val x.f2 + 0)) left)
  refine dn_cut h0 h1 (len_le hx.2.1) fun t ht h0 h1 => ?_
  rw [ht]
  refine dn_bind h0 h1 (sz_Val x.f2 hx.2.2 _ h0 h1) fun t h0 h1 => ?_
  exact dn_end _ h0

def bls_Cell (l : List S72) : Nat := l.length + (l.map bl_Cell).sum
theorem sz_CellS (l : List S72) (hx : l.length ≤ maxLen ∧ ∀ x_ ∈ l, Wf72 x_) (left : Int) (h0 : 0 ≤ left) (h1 : left ≤ 1048576) : laws_szCellS.fv l left = some (dn (bls_Cell l) left) := by
  rw [laws_szCellS.fv_eq]
  have hl := len_le hx.1
  refine dn_cut h0 h1 hl fun t ht h0 h1 => ?_
  rw [ht]
  exact sz_all laws_szCellS.l0v (fun x0 x1 x5 => (laws_szCell.f ((rd_T72 x0 x5).f0) ((rd_T72 x0 x5).f1) ((rd_T72 x0 x5).f2.f0) ((rd_T72 x0 x5).f2.f1) ((rd_T72 x0 x5).f2.f2) x1)) bl_Cell (by intro x l i; exact laws_szCellS.l0v_eq x l i) l hl (fun i h left h0 h1 => by simp only [rdin72 l i h]; exact sz_Cell l[i] (hx.2 _ (List.getElem_mem h)) left h0 h1) t h0 h1

def bl_State (x : S30) : Nat := (bls_Val x.f0 + (bls_Cell x.f1 + 0))
theorem sz_State (x : S30) (hx : Wf30 x) (left : Int) (h0 : 0 ≤ left) (h1 : left ≤ 1048576) : laws_szState.fv (x.f0) (x.f1) (x.f2) (x.f3) left = some (dn (bl_State x) left) := by
  rw [laws_szState.fv_eq]
  show _ = some (dn (bls_Val x.f0 + (bls_Cell x.f1 + 0)) left)
  refine dn_bind h0 h1 (sz_ValS x.f0 hx.1 _ h0 h1) fun t h0 h1 => ?_
  refine dn_bind h0 h1 (sz_CellS x.f1 hx.2.1 _ h0 h1) fun t h0 h1 => ?_
  exact dn_end _ h0

def cv_Val (x : S42) : S46 := ⟨x.f0, x.f1, x.f2⟩
theorem to_Val (x : S42) (hb : bl_Val x ≤ 1048576) : laws_toVal.f (x.f0) (x.f1) (x.f2) = some ((cv_Val x).f0, (cv_Val x).f1, (cv_Val x).f2) := by
  unfold bl_Val at hb
  unfold laws_toVal.f
  all_goals rfl

theorem to_ValS (l : List S42) (hb : bls_Val l ≤ 1048576) : laws_toValS.fv l = some (l.map cv_Val) := by
  have hb' := hb
  unfold bls_Val at hb'
  rw [laws_toValS.fv_eq, if_pos (by omega), if_pos (by omega)]
  have := to_all laws_toValS.l0v (fun x0 x4 => (laws_toVal.f ((rd_T42 x0 x4).f0) ((rd_T42 x0 x4).f1) ((rd_T42 x0 x4).f2))) (fun bt118 => (⟨bt118.1, bt118.2.1, bt118.2.2⟩ : S46)) cv_Val (by intro x acc i; exact laws_toValS.l0v_eq x acc i) l (by omega) (fun i h => by
    have hm := le_sum (List.mem_map_of_mem (f := bl_Val) (List.getElem_mem h))
    simp only [rdin42 l i h]; exact ⟨_, to_Val l[i] (by omega), rfl⟩) z46
  simpa using this

def cv_Cell (x : S72) : S58 := ⟨x.f0, x.f1, cv_Val x.f2⟩
theorem to_Cell (x : S72) (hb : bl_Cell x ≤ 1048576) : laws_toCell.f (x.f0) (x.f1) (x.f2.f0) (x.f2.f1) (x.f2.f2) = some ((cv_Cell x).f0, (cv_Cell x).f1, (cv_Cell x).f2.f0, (cv_Cell x).f2.f1, (cv_Cell x).f2.f2) := by
  unfold bl_Cell at hb
  unfold laws_toCell.f
  rw [to_Val x.f2 (by omega), Option.bind_some]
  all_goals rfl

theorem to_CellS (l : List S72) (hb : bls_Cell l ≤ 1048576) : laws_toCellS.fv l = some (l.map cv_Cell) := by
  have hb' := hb
  unfold bls_Cell at hb'
  rw [laws_toCellS.fv_eq, if_pos (by omega), if_pos (by omega)]
  have := to_all laws_toCellS.l0v (fun x0 x4 => (laws_toCell.f ((rd_T72 x0 x4).f0) ((rd_T72 x0 x4).f1) ((rd_T72 x0 x4).f2.f0) ((rd_T72 x0 x4).f2.f1) ((rd_T72 x0 x4).f2.f2))) (fun bt132 => (⟨bt132.1, bt132.2.1, (⟨bt132.2.2.1, bt132.2.2.2.1, bt132.2.2.2.2⟩ : S46)⟩ : S58)) cv_Cell (by intro x acc i; exact laws_toCellS.l0v_eq x acc i) l (by omega) (fun i h => by
    have hm := le_sum (List.mem_map_of_mem (f := bl_Cell) (List.getElem_mem h))
    simp only [rdin72 l i h]; exact ⟨_, to_Cell l[i] (by omega), rfl⟩) z58
  simpa using this

theorem to_State (x : S30) (hb : bl_State x ≤ 1048576) : laws_toState.fv (x.f0) (x.f1) (x.f2) (x.f3) = some (x.f0.map cv_Val, x.f1.map cv_Cell, x.f2, x.f3) := by
  unfold bl_State at hb
  rw [laws_toState.fv_eq]
  rw [to_ValS x.f0 (by omega), Option.bind_some]
  rw [to_CellS x.f1 (by omega), Option.bind_some]
  all_goals rfl

theorem eq_Val (y : S46) : laws_eqVal.f (y.f0) (y.f1) (y.f2) (y.f0) (y.f1) (y.f2) = some true := by
  unfold laws_eqVal.f
  simp

theorem eq_ValS (l : List S46) (h : l.length ≤ 9223372036854775807) : laws_eqValS.fv l l = some true := by
  rw [laws_eqValS.fv_eq, if_pos rfl]
  exact eq_all laws_eqValS.l0v (fun x0 x1 x5 => (laws_eqVal.f ((rd_T46 x0 x5).f0) ((rd_T46 x0 x5).f1) ((rd_T46 x0 x5).f2) ((rd_T46 x1 x5).f0) ((rd_T46 x1 x5).f1) ((rd_T46 x1 x5).f2))) (by intro x y i; exact laws_eqValS.l0v_eq x y i) l h (fun i hi => by simp only [rdin46 l i hi]; exact eq_Val l[i])

theorem eq_Cell (y : S58) : laws_eqCell.f (y.f0) (y.f1) (y.f2.f0) (y.f2.f1) (y.f2.f2) (y.f0) (y.f1) (y.f2.f0) (y.f2.f1) (y.f2.f2) = some true := by
  unfold laws_eqCell.f
  simp [eq_Val y.f2 ]

theorem eq_CellS (l : List S58) (h : l.length ≤ 9223372036854775807) : laws_eqCellS.fv l l = some true := by
  rw [laws_eqCellS.fv_eq, if_pos rfl]
  exact eq_all laws_eqCellS.l0v (fun x0 x1 x5 => (laws_eqCell.f ((rd_T58 x0 x5).f0) ((rd_T58 x0 x5).f1) ((rd_T58 x0 x5).f2.f0) ((rd_T58 x0 x5).f2.f1) ((rd_T58 x0 x5).f2.f2) ((rd_T58 x1 x5).f0) ((rd_T58 x1 x5).f1) ((rd_T58 x1 x5).f2.f0) ((rd_T58 x1 x5).f2.f1) ((rd_T58 x1 x5).f2.f2))) (by intro x y i; exact laws_eqCellS.l0v_eq x y i) l h (fun i hi => by simp only [rdin58 l i hi]; exact eq_Cell l[i])

theorem eq_State (l0_0 : List S46) (l0_1 : List S58) (a0_2 : Int) (a0_3 : Int) (hl0_0 : l0_0.length ≤ 9223372036854775807) (hl0_1 : l0_1.length ≤ 9223372036854775807) : laws_eqState.fv l0_0 l0_1 a0_2 a0_3 l0_0 l0_1 a0_2 a0_3 = some true := by
  rw [laws_eqState.fv_eq]
  simp [eq_ValS l0_0 hl0_0, eq_CellS l0_1 hl0_1]

theorem wrap_small (t : Int) (h : 0 ≤ t) (h' : t ≤ 2000000000) : wrap64 t = t := wrap_in (by omega) (by omega)
/-! marks: texts by number -/
theorem mt_run (d : Nat) : ∀ (n : Int) (s : ByteArray), 0 ≤ n → n ≤ 2000000000 → n < 10 ^ d → s.size + d ≤ 1000000 → ∃ t, laws_markText.l0v n s = some t := by
  induction d with
  | zero =>
    intro n s h0 hm h1 h2
    have : n = 0 := by simp at h1; omega
    subst this
    rw [laws_markText.l0v_eq, if_neg (by omega), if_pos (by omega)]
    exact ⟨_, rfl⟩
  | succ d ih =>
    intro n s h0 hm h1 h2
    rw [laws_markText.l0v_eq]
    by_cases h : n > 0
    · have hsz : (strOfNums ([(wrap64 (48 + (Int.tmod n 10))) % 256] : List Int)).size = 1 := by rw [strOfNums_size]; rfl
      have hd : Int.tdiv n 10 = n / 10 := Int.tdiv_eq_ediv_of_nonneg h0
      have hn : n / 10 < 10 ^ d := by
        have : (10 : Int) ^ (d + 1) = 10 ^ d * 10 := Int.pow_succ 10 d
        omega
      have hp : (10 : Int) ^ d ≤ 10 ^ d := Int.le_refl _
      rw [if_pos h, Option.bind_some, if_pos (by omega), hd]
      rw [wrap_in (by omega) (by omega)]
      exact ih _ _ (by omega) (by omega) hn (by rw [ByteArray.size_append, hsz]; omega)
    · rw [if_neg h, if_pos (by omega)]
      exact ⟨_, rfl⟩
noncomputable def mt (n : Int) : ByteArray := (laws_markText.fv n).getD ⟨#[]⟩
theorem mt_eq (n : Int) (h : 0 < n) (h' : n ≤ 2000000000) : laws_markText.fv n = some (mt n) := by
  obtain ⟨t, ht⟩ : ∃ t, laws_markText.fv n = some t := by
    rw [laws_markText.fv_eq, if_neg (by omega)]
    exact mt_run 12 n _ (by omega) h' (by omega) (by decide)
  rw [mt, ht]
  rfl
theorem rdset46 (x : List S46) (i : Nat) (v : S46) (h : i < x.length) : rd_T46 (x.set i v) (i : Int) = v := by
  unfold rd_T46
  simp [List.getD_eq_getElem?_getD, h]
theorem rdget46 (x : List S46) (i : Nat) (v : S46) (h : x[i]? = some v) : rd_T46 x (i : Int) = v := by
  unfold rd_T46
  simp [List.getD_eq_getElem?_getD, h]
noncomputable def val_Val (n : Int) : S46 := ⟨n, n + 1, mt (n + 1 + 1)⟩
theorem mark_ValS (x : List S46) (n : Int) (h3 : x.length ≤ 2000000) (h4 : 0 < n) (h5 : n + (3 : Nat) * x.length ≤ 1000000000) :
    ∃ m, laws_markValS.fv x n = some (n + (3 : Nat) * x.length, m) ∧ laws_heldValS.fv m n = some (n + (3 : Nat) * x.length) ∧ m.length = x.length := by
  rw [laws_markValS.fv_eq]
  simp only [laws_heldValS.fv_eq]
  refine mark_held laws_markValS.l0v laws_heldValS.l0v 3 val_Val 1000000000 ?_ ?_ ?_ ?_ x n h3 h4 h5
  · intro x n i hi hl h0 h1
    rw [laws_markValS.l0v_eq, if_pos (by omega), if_pos (by omega)]
    simp (disch := omega) only [Int.toNat_natCast, Option.bind_some, rdset46, List.length_set, List.set_set, wrap_small, mt_eq]
    rw [show n + 1 + 1 + 1 = n + ((3 : Nat) : Int) by omega]
    rfl
  · intro x n i hi
    rw [laws_markValS.l0v_eq, if_neg (by omega)]
  · intro x n i hi hl hx h0 h1
    rw [laws_heldValS.l0v_eq, if_pos (by omega), if_pos (by omega), rdget46 x i _ hx]
    simp (disch := omega) only [val_Val, Option.bind_some, wrap_small, mt_eq, if_true]
    rw [show n + 1 + 1 + 1 = n + ((3 : Nat) : Int) by omega]
    rfl
  · intro x n i hi
    rw [laws_heldValS.l0v_eq, if_neg (by omega)]

theorem rdset58 (x : List S58) (i : Nat) (v : S58) (h : i < x.length) : rd_T58 (x.set i v) (i : Int) = v := by
  unfold rd_T58
  simp [List.getD_eq_getElem?_getD, h]
theorem rdget58 (x : List S58) (i : Nat) (v : S58) (h : x[i]? = some v) : rd_T58 x (i : Int) = v := by
  unfold rd_T58
  simp [List.getD_eq_getElem?_getD, h]
noncomputable def val_Cell (n : Int) : S58 := ⟨n, mt (n + 1), ⟨n + 1 + 1, n + 1 + 1 + 1, mt (n + 1 + 1 + 1 + 1)⟩⟩
theorem mark_CellS (x : List S58) (n : Int) (h3 : x.length ≤ 2000000) (h4 : 0 < n) (h5 : n + (5 : Nat) * x.length ≤ 1000000000) :
    ∃ m, laws_markCellS.fv x n = some (n + (5 : Nat) * x.length, m) ∧ laws_heldCellS.fv m n = some (n + (5 : Nat) * x.length) ∧ m.length = x.length := by
  rw [laws_markCellS.fv_eq]
  simp only [laws_heldCellS.fv_eq]
  refine mark_held laws_markCellS.l0v laws_heldCellS.l0v 5 val_Cell 1000000000 ?_ ?_ ?_ ?_ x n h3 h4 h5
  · intro x n i hi hl h0 h1
    rw [laws_markCellS.l0v_eq, if_pos (by omega), if_pos (by omega)]
    simp (disch := omega) only [Int.toNat_natCast, Option.bind_some, rdset58, List.length_set, List.set_set, wrap_small, mt_eq]
    rw [show n + 1 + 1 + 1 + 1 + 1 = n + ((5 : Nat) : Int) by omega]
    rfl
  · intro x n i hi
    rw [laws_markCellS.l0v_eq, if_neg (by omega)]
  · intro x n i hi hl hx h0 h1
    rw [laws_heldCellS.l0v_eq, if_pos (by omega), if_pos (by omega), rdget58 x i _ hx]
    simp (disch := omega) only [val_Cell, Option.bind_some, wrap_small, mt_eq, if_true]
    rw [show n + 1 + 1 + 1 + 1 + 1 = n + ((5 : Nat) : Int) by omega]
    rfl
  · intro x n i hi
    rw [laws_heldCellS.l0v_eq, if_neg (by omega)]


/-! ### which of two texts comes first -/
theorem less_cons (a b : UInt8) (x y : List UInt8) : Op.bytesLess (a :: x) (b :: y) = (decide (a < b) || (a == b && Op.bytesLess x y)) := rfl
theorem cmp_bytes : ∀ x y : List UInt8, Lib.compareBytes x y = if Op.bytesLess x y = true then -1 else if Op.bytesLess y x = true then 1 else 0
  | [], [] => rfl
  | [], _ :: _ => rfl
  | _ :: _, [] => rfl
  | a :: x, b :: y => by
    rw [Lib.compareBytes, less_cons, less_cons, cmp_bytes x y]
    by_cases h1 : a < b
    · rw [if_pos h1]; simp [h1]
    · by_cases h2 : b < a
      · rw [if_neg h1, if_pos h2]
        have hne : ¬ a = b := by intro e; subst e; exact h1 h2
        simp [h1, h2, hne]
      · have e : a = b := by
          rw [← UInt8.toNat_inj]
          have := _root_.mt UInt8.lt_iff_toNat_lt.2 h1
          have := _root_.mt UInt8.lt_iff_toNat_lt.2 h2
          omega
        subst e
        rw [if_neg h1, if_neg h1]
        simp [h1]
theorem less_more (x y : List UInt8) : (!(Op.bytesLess x y) && !(x == y)) = Op.bytesLess y x := by
  induction x generalizing y with
  | nil => cases y <;> rfl
  | cons a x ih =>
    cases y with
    | nil => rfl
    | cons b y =>
      rw [less_cons, less_cons, ← ih y]
      by_cases h1 : a < b
      · have h2 : ¬ b < a := fun h => by rw [UInt8.lt_iff_toNat_lt] at h h1; omega
        have hne : ¬ b = a := by intro e; subst e; exact h2 h1
        simp [h1, h2, hne]
      · by_cases h2 : b < a
        · have hne : ¬ a = b := by intro e; subst e; exact h1 h2
          have hne2 : ¬ b = a := fun e => hne e.symm
          simp [h1, h2, hne, hne2]
        · have e : a = b := by
            rw [← UInt8.toNat_inj]
            have := _root_.mt UInt8.lt_iff_toNat_lt.2 h1
            have := _root_.mt UInt8.lt_iff_toNat_lt.2 h2
            omega
          subst e
          simp [h1]

theorem at_both (regs : List S46) (x : List S58) (p q a : Int) (b : ByteArray) (hl : x.length ≤ 1048576) (d : Nat) : ∀ i : Nat, x.length - i = d → i ≤ x.length →
    ∃ t : Int, spec_l11At.l0v a b i regs x p q = some t ∧ impl_Cell_50.l0v x x.length i a b = some t ∧ t < x.length := by
  induction d with
  | zero =>
    intro i h1 h2
    refine ⟨-1, ?_, ?_, by omega⟩
    · rw [spec_l11At.l0v_eq, if_neg (by omega)]
    · rw [impl_Cell_50.l0v_eq, if_neg (by omega)]
  | succ d ih =>
    intro i h1 h2
    have hi : i < x.length := by omega
    obtain ⟨t, e1, e2, e3⟩ := ih (i + 1) (by omega) (by omega)
    have hw : wrap64 ((i : Int) + 1) = ((i + 1 : Nat) : Int) := by rw [wrap_in (by omega) (by omega)]; omega
    by_cases ha : (x[i]).f0 = a
    · by_cases hb : (x[i]).f1.toList = b.toList
      · refine ⟨i, ?_, ?_, by omega⟩
        · rw [spec_l11At.l0v_eq, if_pos (by omega), if_pos (by omega), rdin58 x i hi, if_pos ha, if_pos hb]
        · rw [impl_Cell_50.l0v_eq, if_pos (by omega), if_pos (by omega), if_pos (by omega), rdin58 x i hi]
          simp [impl_cellAt_1.f, ha, hb]
      · refine ⟨t, ?_, ?_, e3⟩
        · rw [spec_l11At.l0v_eq, if_pos (by omega), if_pos (by omega), rdin58 x i hi, if_pos ha, if_neg hb, hw, e1]
        · rw [impl_Cell_50.l0v_eq, if_pos (by omega), if_pos (by omega), if_pos (by omega), rdin58 x i hi, hw, e2]
          simp [impl_cellAt_1.f, ha, hb]
    · refine ⟨t, ?_, ?_, e3⟩
      · rw [spec_l11At.l0v_eq, if_pos (by omega), if_pos (by omega), rdin58 x i hi, if_neg ha, hw, e1]
      · rw [impl_Cell_50.l0v_eq, if_pos (by omega), if_pos (by omega), if_pos (by omega), rdin58 x i hi, hw, e2]
        simp [impl_cellAt_1.f, ha]

theorem state_marks (u : List S46) (v : List S58) (p q : Int) (hu : u.length ≤ 1100000) (hv : v.length ≤ 1100000) : ∃ T m1 m2, laws_markState.fv u v p q 1 = some (T, m1, m2) ∧ laws_heldState.fv m1 m2 p q 1 = some T ∧ 0 < T := by
  obtain ⟨m1, f1, f2, _⟩ := mark_ValS u 1 (by omega) (by omega) (by omega)
  obtain ⟨T, hT⟩ : ∃ T : Int, T = 1 + ((3 : Nat) : Int) * (u.length : Int) := ⟨_, rfl⟩
  rw [← hT] at f1 f2
  obtain ⟨m2, g1, g2, _⟩ := mark_CellS v T (by omega) (by omega) (by omega)
  obtain ⟨R, hR⟩ : ∃ R : Int, R = T + ((5 : Nat) : Int) * (v.length : Int) := ⟨_, rfl⟩
  rw [← hR] at g1 g2
  refine ⟨R, m1, m2, ?_, ?_, by omega⟩
  · rw [laws_markState.fv_eq, f1, Option.bind_some]
    simp only []
    rw [g1]
    rfl
  · rw [laws_heldState.fv_eq, f2, Option.bind_some, if_neg (by omega), g2, Option.bind_some, if_neg (by omega)]
theorem copy_spec (u : List S46) (v : List S58) (p q : Int) (hu : u.length ≤ 1048576) (hv : v.length ≤ 1048576) : spec_l11Copy.f u v p q = some (u, v, p, q) := by
  unfold spec_l11Copy.f
  rw [Option.bind_some, if_pos (by simp; omega), Option.bind_some, if_pos (by simp; omega)]
  rfl
theorem copy_impl (u : List S46) (v : List S58) (p q : Int) (hu : u.length ≤ 1048576) (hv : v.length ≤ 1048576) : impl_cloneState.f u v p q = some (u, v, p, q) := by
  unfold impl_cloneState.f impl_Val.f impl_Cell_49.f
  rw [if_pos (by omega), Option.bind_some, if_pos (by omega), Option.bind_some]

/-! ### where a cell is put in -/
def lessC (c : S58) (a : Int) (b : ByteArray) : Bool := if c.f0 < a then true else if c.f0 = a then Op.bytesLess c.f1.toList b.toList else false
theorem less_spec (c : S58) (a : Int) (b : ByteArray) : spec_l11Less.f c.f0 c.f1 c.f2.f0 c.f2.f1 c.f2.f2 a b = some (lessC c a b) := by
  unfold spec_l11Less.f lessC
  split
  · rfl
  · split <;> rfl
theorem more_impl (c : S58) (a : Int) (b : ByteArray) (x y : Int) (s : ByteArray) (hne : ¬ (c.f0 = a ∧ c.f1.toList = b.toList)) :
    impl_CellPut_1.f c.f0 c.f1 c.f2.f0 c.f2.f1 c.f2.f2 a b x y s = some (!(lessC c a b)) := by
  unfold impl_CellPut_1.f impl_cellBefore.f lessC
  by_cases h : c.f0 < a
  · rw [if_pos h, if_pos h, Option.bind_some]; rfl
  · rw [if_neg h, if_neg h]
    by_cases h2 : c.f0 > a
    · rw [if_pos h2, if_neg (by omega), Option.bind_some]; rfl
    · rw [if_neg h2, if_pos (by omega)]
      unfold strings_Compare.f
      rw [Option.bind_some, Option.bind_some, ← Lib.toList_data, ← Lib.toList_data, cmp_bytes]
      have h3 : ¬ c.f1.toList = b.toList := fun e => hne ⟨by omega, e⟩
      have h5 : (c.f1.toList == b.toList) = false := by simpa using h3
      cases h6 : Op.bytesLess c.f1.toList b.toList
      · have h4 : Op.bytesLess b.toList c.f1.toList = true := by
          have := less_more c.f1.toList b.toList
          rw [h5, h6] at this
          exact this.symm
        rw [if_neg (by simp), if_pos h4]
        rfl
      · rw [if_pos rfl]
        rfl
theorem at_none (regs : List S46) (x : List S58) (p q a : Int) (b : ByteArray) (hl : x.length ≤ 1048576) (d : Nat) : ∀ (i : Nat) (t : Int), x.length - i = d → i ≤ x.length → spec_l11At.l0v a b i regs x p q = some t → t < 0 →
    ∀ (j : Nat) (hj : j < x.length), i ≤ j → ¬ (x[j].f0 = a ∧ x[j].f1.toList = b.toList) := by
  induction d with
  | zero => intro i t h1 h2 _ _ j hj hij; omega
  | succ d ih =>
    intro i t h1 h2 h3 h4 j hj hij
    have hi : i < x.length := by omega
    have hw : wrap64 ((i : Int) + 1) = ((i + 1 : Nat) : Int) := by rw [wrap_in (by omega) (by omega)]; omega
    rw [spec_l11At.l0v_eq, if_pos (by omega), if_pos (by omega), rdin58 x i hi, hw] at h3
    by_cases ha : (x[i]).f0 = a
    · rw [if_pos ha] at h3
      by_cases hb : (x[i]).f1.toList = b.toList
      · rw [if_pos hb] at h3
        have := Option.some.inj h3
        omega
      · rw [if_neg hb] at h3
        by_cases e : j = i
        · subst e; exact fun z => hb z.2
        · exact ih (i + 1) t (by omega) (by omega) h3 h4 j hj (by omega)
    · rw [if_neg ha] at h3
      by_cases e : j = i
      · subst e; exact fun z => ha z.1
      · exact ih (i + 1) t (by omega) (by omega) h3 h4 j hj (by omega)
/-- Both find the same place, and put the cell in there. -/
theorem place_both (u w : List S46) (v : List S58) (p q p2 q2 a : Int) (b : ByteArray) (x y : Int) (s : ByteArray) (hv : v.length ≤ 1048576) (hne : ∀ (j : Nat) (hj : j < v.length), ¬ (v[j].f0 = a ∧ v[j].f1.toList = b.toList)) (d : Nat) :
    ∀ i : Nat, v.length - i = d → i ≤ v.length → ∃ k : Nat, k ≤ v.length ∧ spec_CellPut.l0v a b i u v p q x y s w v p2 q2 = some (w, (v.take k ++ [(⟨a, b, ⟨x, y, s⟩⟩ : S58)]) ++ v.drop k, p2, q2, true) ∧
      (impl_Cell_41.l0v v v.length i a b x y s = some (k : Int) ∨ (k = v.length ∧ impl_Cell_41.l0v v v.length i a b x y s = some (-1))) := by
  induction d with
  | zero =>
    intro i h1 h2
    obtain rfl : i = v.length := by omega
    refine ⟨v.length, Nat.le_refl _, ?_, .inr ⟨rfl, ?_⟩⟩
    · rw [spec_CellPut.l0v_eq, if_neg (by omega), Option.bind_some, if_pos (by omega), if_pos (by omega), Option.bind_some, Int.toNat_natCast, if_pos (by rw [List.length_nil, List.length_take]; omega), Option.bind_some, List.nil_append,
        if_pos (by rw [List.length_take]; omega), Option.bind_some, Option.bind_some, if_pos (by rw [List.length_append, List.length_take, List.length_drop, List.length_singleton]; omega)]
    · rw [impl_Cell_41.l0v_eq, if_neg (by omega)]
  | succ d ih =>
    intro i h1 h2
    have hi : i < v.length := by omega
    have hw : wrap64 ((i : Int) + 1) = ((i + 1 : Nat) : Int) := by rw [wrap_in (by omega) (by omega)]; omega
    obtain ⟨k, k1, k2, k3⟩ := ih (i + 1) (by omega) (by omega)
    rw [spec_CellPut.l0v_eq, impl_Cell_41.l0v_eq, if_pos (by omega), if_pos (by omega), if_pos (by omega), if_pos (by omega), if_pos (by omega), rdin58 v i hi, less_spec, more_impl v[i] a b x y s (hne i hi), Option.bind_some, Option.bind_some, hw]
    cases hc : lessC v[i] a b
    · refine ⟨i, by omega, ?_, .inl ?_⟩
      · rw [if_neg (by simp), Option.bind_some, if_pos (by omega), Option.bind_some, Int.toNat_natCast, if_pos (by rw [List.length_nil, List.length_take]; omega), Option.bind_some, List.nil_append,
          if_pos (by rw [List.length_take]; omega), Option.bind_some, if_pos (by rw [List.length_append, List.length_take, List.length_drop, List.length_singleton]; omega)]
      · rfl
    · refine ⟨k, k1, ?_, ?_⟩
      · rw [if_pos rfl, k2]
      · simpa using k3
theorem put_both (u : List S46) (v : List S58) (p q a : Int) (b : ByteArray) (x y : Int) (s : ByteArray) (hu : u.length ≤ 1048576) (hv : v.length ≤ 1048576) :
    ∃ r ok, spec_CellPut.fv u v p q a b x y s = some (u, r, p, q, ok) ∧ impl_CellPut.fv u v p q a b x y s = some (u, r, p, q, ok) ∧ r.length ≤ v.length + 1 := by
  obtain ⟨t, e1, e2, e3⟩ := at_both u v p q a b hv _ 0 rfl (by omega)
  have hno := at_none u v p q a b hv _ 0 t rfl (by omega) e1
  rw [show ((0 : Nat) : Int) = 0 from rfl] at e1 e2
  have c1 : spec_l11At.fv u v p q a b = some t := by rw [spec_l11At.fv_eq, e1]
  have c2 : impl_cellAt.fv u v p q a b = some t := by rw [impl_cellAt.fv_eq, impl_Cell_50.fv_eq, e2, Option.bind_some]
  rw [spec_CellPut.fv_eq, impl_CellPut.fv_eq, copy_spec u v p q hu hv, copy_impl u v p q hu hv]
  simp only [Option.bind_some, c1, c2]
  by_cases ht : t ≥ 0
  · refine ⟨_, true, by rw [if_pos ht, if_pos ht, if_pos e3], by rw [if_pos ht, if_pos ht, if_pos e3], by rw [List.length_set]; omega⟩
  · rw [if_neg ht, if_neg ht]
    by_cases h40 : (v.length : Int) ≥ 40
    · exact ⟨v, false, by rw [if_pos h40], by rw [if_pos h40], by omega⟩
    · rw [if_neg h40, if_neg h40]
      obtain ⟨k, k1, k2, k3⟩ := place_both u u v p q p q a b x y s hv (fun j hj => hno (by omega) j hj (by omega)) v.length 0 (by omega) (by omega)
      rw [show ((0 : Nat) : Int) = 0 from rfl] at k2 k3
      refine ⟨(v.take k ++ [(⟨a, b, ⟨x, y, s⟩⟩ : S58)]) ++ v.drop k, true, k2, ?_, by rw [List.length_append, List.length_append, List.length_take, List.length_drop, List.length_singleton]; omega⟩
      rw [impl_Cell_41.fv_eq]
      rcases k3 with k3 | ⟨k4, k3⟩
      · rw [k3, Option.bind_some, if_neg (by omega)]
        unfold impl_Cell_43.f
        rw [if_pos ⟨by omega, by omega, rfl, by omega⟩, Option.bind_some, Int.toNat_natCast]
      · rw [k3, Option.bind_some, if_pos (by omega)]
        unfold impl_Cell_43.f
        rw [if_pos ⟨by omega, by omega, rfl, by omega⟩, Option.bind_some, Int.toNat_natCast, k4]
end FnExactCellPutAid
open FnExactCellPutAid

theorem FnExactCellPut : laws_FnExactCellPut.Pure := by
  intro x a b y hx ha hb hy
  refine (laws_FnExactCellPut.f_lim _ _ _ _ _ _ _ _ _).get ?_
  rw [laws_FnExactCellPut.fv_eq]
  by_cases hs : (b.size : Int) > 1048576
  · rw [if_pos hs]
  · rw [if_neg hs, sz_State x hx 1048576 (by omega) (by omega), Option.bind_some]
    by_cases h : dn (bl_State x) 1048576 < 0
    · rw [if_pos h]
    · have hn := dn_pos h (by omega)
      have hb1 : bl_State x ≤ 1048576 := by omega
      have hd : dn (bl_State x) 1048576 = 1048576 - bl_State x := by unfold dn; rw [if_pos (by omega)]
      have hb2 := hb1
      unfold bl_State bls_Val bls_Cell at hb2
      rw [if_neg h, hd, sz_Val y hy _ (by omega) (by omega), Option.bind_some]
      by_cases h3 : dn (bl_Val y) (1048576 - bl_State x) < 0
      · rw [if_pos h3]
      · have hn3 := dn_pos h3 (by omega)
        rw [if_neg h3]
        have hts := to_State x hb1
        have htv := to_Val y (by omega)
        have hu : (x.f0.map cv_Val).length ≤ 1048576 := by rw [List.length_map]; omega
        have hv : (x.f1.map cv_Cell).length ≤ 1048576 := by rw [List.length_map]; omega
        generalize x.f0.map cv_Val = u at hts hu
        generalize x.f1.map cv_Cell = v at hts hv
        generalize cv_Val y = c at htv
        obtain ⟨r, ok, e1, e2, e3⟩ := put_both u v x.f2 x.f3 a b c.f0 c.f1 c.f2 hu hv
        have q1 := eq_State u r x.f2 x.f3 (by omega) (by omega)
        have q2 := eq_State u v x.f2 x.f3 (by omega) (by omega)
        obtain ⟨T1, m1, m2, k1, k2, k3⟩ := state_marks u v x.f2 x.f3 (by omega) (by omega)
        obtain ⟨T2, m3, m4, l1, l2, l3⟩ := state_marks u r x.f2 x.f3 (by omega) (by omega)
        simp only [hts, htv, Option.bind_some, e1, e2, q1, if_true]
        rw [laws_FnExactCellPut.j0v_eq, if_neg (by cases ok <;> decide)]
        simp only [hts, Option.bind_some, q1, q2, k1, if_true]
        rw [if_neg (by omega), laws_FnExactCellPut.j1v_eq, if_neg (by cases ok <;> decide)]
        simp only [hts, htv, Option.bind_some, e2, q1, l1, l2, if_true]
        rw [if_neg (by omega), laws_FnExactCellPut.j2v_eq, if_neg (by cases ok <;> decide), l2, Option.bind_some, if_neg (by omega), if_pos rfl]

end Go.Proofs.Ytehefologhfdhaa.Pure
