/- The pure statement of FnExactStateNew holds: both make the same new state, and it is the caller's own. -/
import Derived.Test.YtgdhiccjllpogaaQFnExactStateNewx2
import Derived.Test.YtgdhiccjllpogaaBulk
namespace Go.Proofs.Ytgdhiccjllpogaa.Pure
open Go.RowKit Go.Proofs.Ytgdhiccjllpogaa.QFnExactStateNew Go.Proofs.YtgdhiccjllpogaaW.PrintWords Go.Proofs.YtgdhiccjllpogaaW.PrintLast Go.Proofs.YtgdhiccjllpogaaW.PrintMore Go.Proofs.YtgdhiccjllpogaaW.Lims
open Go.Proofs.YtgdhiccjllpogaaW.Bulk
namespace FnExactStateNewAid

theorem rdin53 (xs : List S53) (i : Nat) (h : i < xs.length) : rd_T53 xs (i : Int) = xs[i] := by
  unfold rd_T53
  simp [List.getD_eq_getElem?_getD, h]

theorem rdin110 (xs : List S110) (i : Nat) (h : i < xs.length) : rd_T110 xs (i : Int) = xs[i] := by
  unfold rd_T110
  simp [List.getD_eq_getElem?_getD, h]

theorem eq_Val (y : S53) : laws_eqVal.f (y.f0) (y.f1) (y.f2) (y.f0) (y.f1) (y.f2) = some true := by
  unfold laws_eqVal.f
  simp

theorem eq_ValS (l : List S53) (h : l.length ≤ 9223372036854775807) : laws_eqValS.fv l l = some true := by
  rw [laws_eqValS.fv_eq, if_pos rfl]
  exact eq_all laws_eqValS.l0v (fun x0 x1 x5 => (laws_eqVal.f ((rd_T53 x0 x5).f0) ((rd_T53 x0 x5).f1) ((rd_T53 x0 x5).f2) ((rd_T53 x1 x5).f0) ((rd_T53 x1 x5).f1) ((rd_T53 x1 x5).f2))) (by intro x y i; exact laws_eqValS.l0v_eq x y i) l h (fun i hi => by simp only [rdin53 l i hi]; exact eq_Val l[i])

theorem eq_Cell (y : S110) : laws_eqCell.f (y.f0) (y.f1) (y.f2.f0) (y.f2.f1) (y.f2.f2) (y.f0) (y.f1) (y.f2.f0) (y.f2.f1) (y.f2.f2) = some true := by
  unfold laws_eqCell.f
  simp [eq_Val y.f2 ]

theorem eq_CellS (l : List S110) (h : l.length ≤ 9223372036854775807) : laws_eqCellS.fv l l = some true := by
  rw [laws_eqCellS.fv_eq, if_pos rfl]
  exact eq_all laws_eqCellS.l0v (fun x0 x1 x5 => (laws_eqCell.f ((rd_T110 x0 x5).f0) ((rd_T110 x0 x5).f1) ((rd_T110 x0 x5).f2.f0) ((rd_T110 x0 x5).f2.f1) ((rd_T110 x0 x5).f2.f2) ((rd_T110 x1 x5).f0) ((rd_T110 x1 x5).f1) ((rd_T110 x1 x5).f2.f0) ((rd_T110 x1 x5).f2.f1) ((rd_T110 x1 x5).f2.f2))) (by intro x y i; exact laws_eqCellS.l0v_eq x y i) l h (fun i hi => by simp only [rdin110 l i hi]; exact eq_Cell l[i])

theorem eq_State (l0_0 : List S53) (l0_1 : List S110) (a0_2 : Int) (a0_3 : Int) (hl0_0 : l0_0.length ≤ 9223372036854775807) (hl0_1 : l0_1.length ≤ 9223372036854775807) : laws_eqState.fv l0_0 l0_1 a0_2 a0_3 l0_0 l0_1 a0_2 a0_3 = some true := by
  rw [laws_eqState.fv_eq]
  simp [eq_ValS l0_0 hl0_0, eq_CellS l0_1 hl0_1]

theorem wrap_small (t : Int) (h : 0 ≤ t) (h' : t ≤ 2000000000) : wrap64 t = t := wrap_in (by omega) (by omega)
/-! marks: texts by number -/
theorem mt_run (d : Nat) : ∀ (n : Int) (s : ByteArray), 0 ≤ n → n ≤ 2000000000 → n < 10 ^ d → s.size + d ≤ 1000000 → ∃ t, laws_markText.l0v n s = some t := by
  induction d with
  | zero =>
    intro n s h0 hm h1 h2
    have : n = 0 := by simp at h1; omega
    subst this
    rw [laws_markText.l0v_eq, if_neg (by omega), if_pos (by omega)]
    exact ⟨_, rfl⟩
  | succ d ih =>
    intro n s h0 hm h1 h2
    rw [laws_markText.l0v_eq]
    by_cases h : n > 0
    · have hsz : (strOfNums ([(wrap64 (48 + (Int.tmod n 10))) % 256] : List Int)).size = 1 := by rw [strOfNums_size]; rfl
      have hd : Int.tdiv n 10 = n / 10 := Int.tdiv_eq_ediv_of_nonneg h0
      have hn : n / 10 < 10 ^ d := by
        have : (10 : Int) ^ (d + 1) = 10 ^ d * 10 := Int.pow_succ 10 d
        omega
      have hp : (10 : Int) ^ d ≤ 10 ^ d := Int.le_refl _
      rw [if_pos h, Option.bind_some, if_pos (by omega), hd]
      rw [wrap_in (by omega) (by omega)]
      exact ih _ _ (by omega) (by omega) hn (by rw [ByteArray.size_append, hsz]; omega)
    · rw [if_neg h, if_pos (by omega)]
      exact ⟨_, rfl⟩
noncomputable def mt (n : Int) : ByteArray := (laws_markText.fv n).getD ⟨#[]⟩
theorem mt_eq (n : Int) (h : 0 < n) (h' : n ≤ 2000000000) : laws_markText.fv n = some (mt n) := by
  obtain ⟨t, ht⟩ : ∃ t, laws_markText.fv n = some t := by
    rw [laws_markText.fv_eq, if_neg (by omega)]
    exact mt_run 12 n _ (by omega) h' (by omega) (by decide)
  rw [mt, ht]
  rfl
theorem rdset53 (x : List S53) (i : Nat) (v : S53) (h : i < x.length) : rd_T53 (x.set i v) (i : Int) = v := by
  unfold rd_T53
  simp [List.getD_eq_getElem?_getD, h]
theorem rdget53 (x : List S53) (i : Nat) (v : S53) (h : x[i]? = some v) : rd_T53 x (i : Int) = v := by
  unfold rd_T53
  simp [List.getD_eq_getElem?_getD, h]
noncomputable def val_Val (n : Int) : S53 := ⟨n, n + 1, mt (n + 1 + 1)⟩
theorem mark_ValS (x : List S53) (n : Int) (h3 : x.length ≤ 2000000) (h4 : 0 < n) (h5 : n + (3 : Nat) * x.length ≤ 1000000000) :
    ∃ m, laws_markValS.fv x n = some (n + (3 : Nat) * x.length, m) ∧ laws_heldValS.fv m n = some (n + (3 : Nat) * x.length) ∧ m.length = x.length := by
  rw [laws_markValS.fv_eq]
  simp only [laws_heldValS.fv_eq]
  refine mark_held laws_markValS.l0v laws_heldValS.l0v 3 val_Val 1000000000 ?_ ?_ ?_ ?_ x n h3 h4 h5
  · intro x n i hi hl h0 h1
    rw [laws_markValS.l0v_eq, if_pos (by omega), if_pos (by omega)]
    simp (disch := omega) only [Int.toNat_natCast, Option.bind_some, rdset53, List.length_set, List.set_set, wrap_small, mt_eq]
    rw [show n + 1 + 1 + 1 = n + ((3 : Nat) : Int) by omega]
    rfl
  · intro x n i hi
    rw [laws_markValS.l0v_eq, if_neg (by omega)]
  · intro x n i hi hl hx h0 h1
    rw [laws_heldValS.l0v_eq, if_pos (by omega), if_pos (by omega), rdget53 x i _ hx]
    simp (disch := omega) only [val_Val, Option.bind_some, wrap_small, mt_eq, if_true]
    rw [show n + 1 + 1 + 1 = n + ((3 : Nat) : Int) by omega]
    rfl
  · intro x n i hi
    rw [laws_heldValS.l0v_eq, if_neg (by omega)]

theorem rdset110 (x : List S110) (i : Nat) (v : S110) (h : i < x.length) : rd_T110 (x.set i v) (i : Int) = v := by
  unfold rd_T110
  simp [List.getD_eq_getElem?_getD, h]
theorem rdget110 (x : List S110) (i : Nat) (v : S110) (h : x[i]? = some v) : rd_T110 x (i : Int) = v := by
  unfold rd_T110
  simp [List.getD_eq_getElem?_getD, h]
noncomputable def val_Cell (n : Int) : S110 := ⟨n, mt (n + 1), ⟨n + 1 + 1, n + 1 + 1 + 1, mt (n + 1 + 1 + 1 + 1)⟩⟩
theorem mark_CellS (x : List S110) (n : Int) (h3 : x.length ≤ 2000000) (h4 : 0 < n) (h5 : n + (5 : Nat) * x.length ≤ 1000000000) :
    ∃ m, laws_markCellS.fv x n = some (n + (5 : Nat) * x.length, m) ∧ laws_heldCellS.fv m n = some (n + (5 : Nat) * x.length) ∧ m.length = x.length := by
  rw [laws_markCellS.fv_eq]
  simp only [laws_heldCellS.fv_eq]
  refine mark_held laws_markCellS.l0v laws_heldCellS.l0v 5 val_Cell 1000000000 ?_ ?_ ?_ ?_ x n h3 h4 h5
  · intro x n i hi hl h0 h1
    rw [laws_markCellS.l0v_eq, if_pos (by omega), if_pos (by omega)]
    simp (disch := omega) only [Int.toNat_natCast, Option.bind_some, rdset110, List.length_set, List.set_set, wrap_small, mt_eq]
    rw [show n + 1 + 1 + 1 + 1 + 1 = n + ((5 : Nat) : Int) by omega]
    rfl
  · intro x n i hi
    rw [laws_markCellS.l0v_eq, if_neg (by omega)]
  · intro x n i hi hl hx h0 h1
    rw [laws_heldCellS.l0v_eq, if_pos (by omega), if_pos (by omega), rdget110 x i _ hx]
    simp (disch := omega) only [val_Cell, Option.bind_some, wrap_small, mt_eq, if_true]
    rw [show n + 1 + 1 + 1 + 1 + 1 = n + ((5 : Nat) : Int) by omega]
    rfl
  · intro x n i hi
    rw [laws_heldCellS.l0v_eq, if_neg (by omega)]


end FnExactStateNewAid
open FnExactStateNewAid

theorem FnExactStateNew : laws_FnExactStateNew.Pure := by
  intro a ha
  refine (laws_FnExactStateNew.f_lim _).get ?_
  rw [laws_FnExactStateNew.fv_eq]
  obtain ⟨m, hm, e1, e2⟩ : ∃ m : Nat, m ≤ 8 ∧ spec_StateNew.f a = some (List.replicate m z53, ([] : List S110), 0, 0) ∧ impl_StateNew.f a = some (List.replicate m z53, ([] : List S110), 0, 0) := by
    refine ⟨(mx 0 (mn a 8)).toNat, ?_, ?_, ?_⟩
    · unfold mx mn; omega
    · have h1 : spec_l1Min.f a 8 = some (mn a 8) := by
        unfold spec_l1Min.f mn
        by_cases h : a < 8
        · rw [if_pos h, if_neg (by omega)]
        · rw [if_neg h]; by_cases h' : 8 < a
          · rw [if_pos h']
          · rw [if_neg h']; congr 1; omega
      have h2 : ∀ t, spec_l1Max.f 0 t = some (mx 0 t) := by
        intro t
        unfold spec_l1Max.f mx
        by_cases h : 0 < t
        · rw [if_neg (by omega), if_pos h]
        · rw [if_neg h]; by_cases h' : 0 > t
          · rw [if_pos h']
          · rw [if_neg h']; congr 1; omega
      unfold spec_StateNew.f
      rw [h1, Option.bind_some, h2, Option.bind_some, if_pos (by unfold mx mn; omega), if_pos (by unfold mx mn; omega)]
    · unfold impl_StateNew.f
      rw [if_pos (by unfold mx mn; omega), if_pos (by unfold mx mn; omega)]
  obtain ⟨l, f1, f2, f3⟩ := mark_ValS (List.replicate m z53) 1 (by simp; omega) (by omega) (by simp; omega)
  obtain ⟨T, hT⟩ : ∃ T : Int, T = 1 + ((3 : Nat) : Int) * ((List.replicate m z53).length : Int) := ⟨_, rfl⟩
  rw [← hT] at f1 f2
  have g1 : laws_markCellS.fv ([] : List S110) T = some (T, []) := by
    rw [laws_markCellS.fv_eq, laws_markCellS.l0v_eq, if_neg (by simp)]
  have g2 : laws_heldCellS.fv ([] : List S110) T = some T := by
    rw [laws_heldCellS.fv_eq, laws_heldCellS.l0v_eq, if_neg (by simp)]
  have hq : laws_eqState.fv (List.replicate m z53) ([] : List S110) 0 0 (List.replicate m z53) ([] : List S110) 0 0 = some true := eq_State _ _ _ _ (by simp; omega) (by simp)
  have hm1 : laws_markState.fv (List.replicate m z53) ([] : List S110) 0 0 1 = some (T, l, []) := by
    rw [laws_markState.fv_eq, f1]
    simp only [Option.bind_some]
    rw [g1]
    rfl
  have hh1 : laws_heldState.fv l ([] : List S110) 0 0 1 = some T := by
    rw [laws_heldState.fv_eq, f2, Option.bind_some, if_neg (by omega), g2, Option.bind_some, if_neg (by omega)]
  rw [e1, e2]
  simp only [Option.bind_some, hq, hm1, hh1, if_true]
  rw [if_neg (by omega), if_neg (by omega)]

end Go.Proofs.Ytgdhiccjllpogaa.Pure
