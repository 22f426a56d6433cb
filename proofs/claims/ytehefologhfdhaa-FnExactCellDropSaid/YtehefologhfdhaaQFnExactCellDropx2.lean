/- Written by wip/pr2, a program of this session. -/
import Derived.Test.YtehefologhfdhaaQFnExactCellDropx0
import Derived.Test.YtehefologhfdhaaQFnExactCellDropx1
import Derived.Test.YtehefologhfdhaaWFnExactCellDrop
namespace Go.Proofs.Ytehefologhfdhaa.QFnExactCellDrop
open Go.RowKit Go.Proofs.YtehefologhfdhaaW.PrintWords Go.Proofs.YtehefologhfdhaaW.PrintLast Go.Proofs.YtehefologhfdhaaW.PrintMore
attribute [local go_sem] max2_int min2_int max_two min_two max_three min_three max_four min_four   -- for this text's walks alone
set_option linter.unusedVariables false
set_option linter.unusedSimpArgs false
set_option maxHeartbeats 8000000

open Go.Proofs.YtehefologhfdhaaW.Lims
/-! ### laws_markValS -/
def laws_markValS.l0 : Nat → List (S46) → Int → Int → Option (Int × (List (S46)))
  | 0, _, _, _ => none
  | k + 1, x0, x1, x5 => if x5 < (x0.length : Int) then (if 0 ≤ x5 then ((some (x0.set (x5 : Int).toNat (⟨x1, (rd_T46 x0 x5).f1, (rd_T46 x0 x5).f2⟩ : S46) : List (S46))).bind fun y245 => ((some (y245.set (x5 : Int).toNat (⟨(rd_T46 y245 x5).f0, wrap64 (x1 + 1), (rd_T46 y245 x5).f2⟩ : S46) : List (S46))).bind fun y246 => ((laws_markText.f k (wrap64 ((wrap64 (x1 + 1)) + 1))).bind fun t247 => (laws_markValS.l0 k (y246.set (x5 : Int).toNat (⟨(rd_T46 y246 x5).f0, (rd_T46 y246 x5).f1, t247⟩ : S46)) (wrap64 ((wrap64 ((wrap64 (x1 + 1)) + 1)) + 1)) (wrap64 (x5 + 1)))))) else (none)) else (some (x1, x0))
def laws_markValS.f (k : Nat) (l0 : List (S46)) (a1 : Int) : Option (Int × (List (S46))) := laws_markValS.l0 k l0 a1 0
theorem laws_markValS.mono_l : ∀ k, (∀ y0 y1 y2, LeO (laws_markValS.l0 k y0 y1 y2) (laws_markValS.l0 (k + 1) y0 y1 y2))
  | 0 => fun _ _ _ r h => by simp [laws_markValS.l0] at h
  | k + 1 => by
    have ih0 := laws_markValS.mono_l k
    · intro y0 y1 y2
      unfold laws_markValS.l0
      repeat' first
      | (with_reducible exact ih0 _ _ _)
      | (with_reducible exact laws_markText.mono _ _)
      | (with_reducible exact LeO.refl _)
      | (with_reducible exact LeO.none _)
      | (with_reducible refine LeO.ite ?_ ?_)
      | (with_reducible refine LeO.bind ?_ (fun _ => ?_))
      | exact ih0 _ _ _
      | exact laws_markText.mono _ _
      | exact LeO.none _
      | refine LeO.ite ?_ ?_
      | refine LeO.bind ?_ (fun _ => ?_)
theorem laws_markValS.mono : ∀ a0 a1 k, LeO (laws_markValS.f k a0 a1) (laws_markValS.f (k + 1) a0 a1) := by
  intro a0 a1 k
  have ih0 := laws_markValS.mono_l k
  unfold laws_markValS.f
  repeat' first
      | (with_reducible exact ih0 _ _ _)
      | (with_reducible exact laws_markText.mono _ _)
      | (with_reducible exact LeO.refl _)
      | (with_reducible exact LeO.none _)
      | (with_reducible refine LeO.ite ?_ ?_)
      | (with_reducible refine LeO.bind ?_ (fun _ => ?_))
      | exact ih0 _ _ _
      | exact laws_markText.mono _ _
      | exact LeO.none _
      | refine LeO.ite ?_ ?_
      | refine LeO.bind ?_ (fun _ => ?_)
noncomputable def laws_markValS.l0v (x0 : List (S46)) (x1 : Int) (x5 : Int) : Option (Int × (List (S46))) := limOf (fun k => laws_markValS.l0 k x0 x1 x5)
theorem laws_markValS.l0_lim (x0 : List (S46)) (x1 : Int) (x5 : Int) : Lim (fun k => laws_markValS.l0 k x0 x1 x5) (laws_markValS.l0v x0 x1 x5) := Lim.of (fun k => laws_markValS.mono_l k x0 x1 x5)
noncomputable def laws_markValS.fv (l0 : List (S46)) (a1 : Int) : Option (Int × (List (S46))) := limOf (fun k => laws_markValS.f k l0 a1)
theorem laws_markValS.f_lim (l0 : List (S46)) (a1 : Int) : Lim (fun k => laws_markValS.f k l0 a1) (laws_markValS.fv l0 a1) := Lim.of (fun k => laws_markValS.mono l0 a1 k)
set_option maxHeartbeats 4000000 in
theorem laws_markValS.l0v_eq (x0 : List (S46)) (x1 : Int) (x5 : Int) : laws_markValS.l0v x0 x1 x5 = (if x5 < (x0.length : Int) then (if 0 ≤ x5 then ((some (x0.set (x5 : Int).toNat (⟨x1, (rd_T46 x0 x5).f1, (rd_T46 x0 x5).f2⟩ : S46) : List (S46))).bind fun y245 => ((some (y245.set (x5 : Int).toNat (⟨(rd_T46 y245 x5).f0, wrap64 (x1 + 1), (rd_T46 y245 x5).f2⟩ : S46) : List (S46))).bind fun y246 => ((laws_markText.fv (wrap64 ((wrap64 (x1 + 1)) + 1))).bind fun t247 => (laws_markValS.l0v (y246.set (x5 : Int).toNat (⟨(rd_T46 y246 x5).f0, (rd_T46 y246 x5).f1, t247⟩ : S46)) (wrap64 ((wrap64 ((wrap64 (x1 + 1)) + 1)) + 1)) (wrap64 (x5 + 1)))))) else (none)) else (some (x1, x0))) := by
  refine Lim.succ (laws_markValS.l0_lim x0 x1 x5) ?_
  simp only [laws_markValS.l0]
  repeat' first
    | (with_reducible apply laws_markText.f_lim)
    | (with_reducible apply laws_markValS.l0_lim)
    | (with_reducible exact Lim.const _)
    | (with_reducible refine Lim.ite ?_ ?_)
    | (with_reducible refine Lim.bind ?_ (fun _ => ?_))
    | apply laws_markText.f_lim
    | apply laws_markValS.l0_lim
    | exact Lim.const _
    | refine Lim.ite ?_ ?_
    | refine Lim.bind ?_ (fun _ => ?_)
set_option maxHeartbeats 4000000 in
theorem laws_markValS.fv_eq (l0 : List (S46)) (a1 : Int) : laws_markValS.fv l0 a1 = (laws_markValS.l0v l0 a1 0) := by
  refine Lim.eq (laws_markValS.f_lim l0 a1) ?_
  simp only [laws_markValS.f]
  repeat' first
    | (with_reducible apply laws_markValS.l0_lim)
    | (with_reducible exact Lim.const _)
    | (with_reducible refine Lim.ite ?_ ?_)
    | (with_reducible refine Lim.bind ?_ (fun _ => ?_))
    | apply laws_markValS.l0_lim
    | exact Lim.const _
    | refine Lim.ite ?_ ?_
    | refine Lim.bind ?_ (fun _ => ?_)

/-! ### laws_markCellS -/
def laws_markCellS.l0 : Nat → List (S58) → Int → Int → Option (Int × (List (S58)))
  | 0, _, _, _ => none
  | k + 1, x0, x1, x5 => if x5 < (x0.length : Int) then (if 0 ≤ x5 then ((some (x0.set (x5 : Int).toNat (⟨x1, (rd_T58 x0 x5).f1, (⟨(rd_T58 x0 x5).f2.f0, (rd_T58 x0 x5).f2.f1, (rd_T58 x0 x5).f2.f2⟩ : S46)⟩ : S58) : List (S58))).bind fun y249 => ((laws_markText.f k (wrap64 (x1 + 1))).bind fun t250 => ((some (y249.set (x5 : Int).toNat (⟨(rd_T58 y249 x5).f0, t250, (⟨(rd_T58 y249 x5).f2.f0, (rd_T58 y249 x5).f2.f1, (rd_T58 y249 x5).f2.f2⟩ : S46)⟩ : S58) : List (S58))).bind fun y251 => ((some (y251.set (x5 : Int).toNat (⟨(rd_T58 y251 x5).f0, (rd_T58 y251 x5).f1, (⟨wrap64 ((wrap64 (x1 + 1)) + 1), (rd_T58 y251 x5).f2.f1, (rd_T58 y251 x5).f2.f2⟩ : S46)⟩ : S58) : List (S58))).bind fun y252 => ((some (y252.set (x5 : Int).toNat (⟨(rd_T58 y252 x5).f0, (rd_T58 y252 x5).f1, (⟨(rd_T58 y252 x5).f2.f0, wrap64 ((wrap64 ((wrap64 (x1 + 1)) + 1)) + 1), (rd_T58 y252 x5).f2.f2⟩ : S46)⟩ : S58) : List (S58))).bind fun y253 => ((laws_markText.f k (wrap64 ((wrap64 ((wrap64 ((wrap64 (x1 + 1)) + 1)) + 1)) + 1))).bind fun t254 => (laws_markCellS.l0 k (y253.set (x5 : Int).toNat (⟨(rd_T58 y253 x5).f0, (rd_T58 y253 x5).f1, (⟨(rd_T58 y253 x5).f2.f0, (rd_T58 y253 x5).f2.f1, t254⟩ : S46)⟩ : S58)) (wrap64 ((wrap64 ((wrap64 ((wrap64 ((wrap64 (x1 + 1)) + 1)) + 1)) + 1)) + 1)) (wrap64 (x5 + 1))))))))) else (none)) else (some (x1, x0))
def laws_markCellS.f (k : Nat) (l0 : List (S58)) (a1 : Int) : Option (Int × (List (S58))) := laws_markCellS.l0 k l0 a1 0
theorem laws_markCellS.mono_l : ∀ k, (∀ y0 y1 y2, LeO (laws_markCellS.l0 k y0 y1 y2) (laws_markCellS.l0 (k + 1) y0 y1 y2))
  | 0 => fun _ _ _ r h => by simp [laws_markCellS.l0] at h
  | k + 1 => by
    have ih0 := laws_markCellS.mono_l k
    · intro y0 y1 y2
      unfold laws_markCellS.l0
      repeat' first
      | (with_reducible exact ih0 _ _ _)
      | (with_reducible exact laws_markText.mono _ _)
      | (with_reducible exact LeO.refl _)
      | (with_reducible exact LeO.none _)
      | (with_reducible refine LeO.ite ?_ ?_)
      | (with_reducible refine LeO.bind ?_ (fun _ => ?_))
      | exact ih0 _ _ _
      | exact laws_markText.mono _ _
      | exact LeO.none _
      | refine LeO.ite ?_ ?_
      | refine LeO.bind ?_ (fun _ => ?_)
theorem laws_markCellS.mono : ∀ a0 a1 k, LeO (laws_markCellS.f k a0 a1) (laws_markCellS.f (k + 1) a0 a1) := by
  intro a0 a1 k
  have ih0 := laws_markCellS.mono_l k
  unfold laws_markCellS.f
  repeat' first
      | (with_reducible exact ih0 _ _ _)
      | (with_reducible exact laws_markText.mono _ _)
      | (with_reducible exact LeO.refl _)
      | (with_reducible exact LeO.none _)
      | (with_reducible refine LeO.ite ?_ ?_)
      | (with_reducible refine LeO.bind ?_ (fun _ => ?_))
      | exact ih0 _ _ _
      | exact laws_markText.mono _ _
      | exact LeO.none _
      | refine LeO.ite ?_ ?_
      | refine LeO.bind ?_ (fun _ => ?_)
noncomputable def laws_markCellS.l0v (x0 : List (S58)) (x1 : Int) (x5 : Int) : Option (Int × (List (S58))) := limOf (fun k => laws_markCellS.l0 k x0 x1 x5)
theorem laws_markCellS.l0_lim (x0 : List (S58)) (x1 : Int) (x5 : Int) : Lim (fun k => laws_markCellS.l0 k x0 x1 x5) (laws_markCellS.l0v x0 x1 x5) := Lim.of (fun k => laws_markCellS.mono_l k x0 x1 x5)
noncomputable def laws_markCellS.fv (l0 : List (S58)) (a1 : Int) : Option (Int × (List (S58))) := limOf (fun k => laws_markCellS.f k l0 a1)
theorem laws_markCellS.f_lim (l0 : List (S58)) (a1 : Int) : Lim (fun k => laws_markCellS.f k l0 a1) (laws_markCellS.fv l0 a1) := Lim.of (fun k => laws_markCellS.mono l0 a1 k)
set_option maxHeartbeats 4000000 in
theorem laws_markCellS.l0v_eq (x0 : List (S58)) (x1 : Int) (x5 : Int) : laws_markCellS.l0v x0 x1 x5 = (if x5 < (x0.length : Int) then (if 0 ≤ x5 then ((some (x0.set (x5 : Int).toNat (⟨x1, (rd_T58 x0 x5).f1, (⟨(rd_T58 x0 x5).f2.f0, (rd_T58 x0 x5).f2.f1, (rd_T58 x0 x5).f2.f2⟩ : S46)⟩ : S58) : List (S58))).bind fun y249 => ((laws_markText.fv (wrap64 (x1 + 1))).bind fun t250 => ((some (y249.set (x5 : Int).toNat (⟨(rd_T58 y249 x5).f0, t250, (⟨(rd_T58 y249 x5).f2.f0, (rd_T58 y249 x5).f2.f1, (rd_T58 y249 x5).f2.f2⟩ : S46)⟩ : S58) : List (S58))).bind fun y251 => ((some (y251.set (x5 : Int).toNat (⟨(rd_T58 y251 x5).f0, (rd_T58 y251 x5).f1, (⟨wrap64 ((wrap64 (x1 + 1)) + 1), (rd_T58 y251 x5).f2.f1, (rd_T58 y251 x5).f2.f2⟩ : S46)⟩ : S58) : List (S58))).bind fun y252 => ((some (y252.set (x5 : Int).toNat (⟨(rd_T58 y252 x5).f0, (rd_T58 y252 x5).f1, (⟨(rd_T58 y252 x5).f2.f0, wrap64 ((wrap64 ((wrap64 (x1 + 1)) + 1)) + 1), (rd_T58 y252 x5).f2.f2⟩ : S46)⟩ : S58) : List (S58))).bind fun y253 => ((laws_markText.fv (wrap64 ((wrap64 ((wrap64 ((wrap64 (x1 + 1)) + 1)) + 1)) + 1))).bind fun t254 => (laws_markCellS.l0v (y253.set (x5 : Int).toNat (⟨(rd_T58 y253 x5).f0, (rd_T58 y253 x5).f1, (⟨(rd_T58 y253 x5).f2.f0, (rd_T58 y253 x5).f2.f1, t254⟩ : S46)⟩ : S58)) (wrap64 ((wrap64 ((wrap64 ((wrap64 ((wrap64 (x1 + 1)) + 1)) + 1)) + 1)) + 1)) (wrap64 (x5 + 1))))))))) else (none)) else (some (x1, x0))) := by
  refine Lim.succ (laws_markCellS.l0_lim x0 x1 x5) ?_
  simp only [laws_markCellS.l0]
  repeat' first
    | (with_reducible apply laws_markCellS.l0_lim)
    | (with_reducible apply laws_markText.f_lim)
    | (with_reducible exact Lim.const _)
    | (with_reducible refine Lim.ite ?_ ?_)
    | (with_reducible refine Lim.bind ?_ (fun _ => ?_))
    | apply laws_markCellS.l0_lim
    | apply laws_markText.f_lim
    | exact Lim.const _
    | refine Lim.ite ?_ ?_
    | refine Lim.bind ?_ (fun _ => ?_)
set_option maxHeartbeats 4000000 in
theorem laws_markCellS.fv_eq (l0 : List (S58)) (a1 : Int) : laws_markCellS.fv l0 a1 = (laws_markCellS.l0v l0 a1 0) := by
  refine Lim.eq (laws_markCellS.f_lim l0 a1) ?_
  simp only [laws_markCellS.f]
  repeat' first
    | (with_reducible apply laws_markCellS.l0_lim)
    | (with_reducible exact Lim.const _)
    | (with_reducible refine Lim.ite ?_ ?_)
    | (with_reducible refine Lim.bind ?_ (fun _ => ?_))
    | apply laws_markCellS.l0_lim
    | exact Lim.const _
    | refine Lim.ite ?_ ?_
    | refine Lim.bind ?_ (fun _ => ?_)

/-! ### laws_markState -/
def laws_markState.f (k : Nat) (l0_0 : List (S46)) (l0_1 : List (S58)) (a0_2 : Int) (a0_3 : Int) (a1 : Int) : Option (Int × (List (S46)) × (List (S58))) := (laws_markValS.f k l0_0 a1).bind fun bt257 => ((laws_markCellS.f k l0_1 bt257.1).bind fun bt259 => (some (bt259.1, bt257.2, bt259.2)))
theorem laws_markState.mono : ∀ a0 a1 a2 a3 a4 k, LeO (laws_markState.f k a0 a1 a2 a3 a4) (laws_markState.f (k + 1) a0 a1 a2 a3 a4) := by
  intro a0 a1 a2 a3 a4 k
  unfold laws_markState.f
  repeat' first
      | (with_reducible exact laws_markCellS.mono _ _ _)
      | (with_reducible exact laws_markValS.mono _ _ _)
      | (with_reducible exact LeO.refl _)
      | (with_reducible exact LeO.none _)
      | (with_reducible refine LeO.ite ?_ ?_)
      | (with_reducible refine LeO.bind ?_ (fun _ => ?_))
      | exact laws_markCellS.mono _ _ _
      | exact laws_markValS.mono _ _ _
      | exact LeO.none _
      | refine LeO.ite ?_ ?_
      | refine LeO.bind ?_ (fun _ => ?_)
noncomputable def laws_markState.fv (l0_0 : List (S46)) (l0_1 : List (S58)) (a0_2 : Int) (a0_3 : Int) (a1 : Int) : Option (Int × (List (S46)) × (List (S58))) := limOf (fun k => laws_markState.f k l0_0 l0_1 a0_2 a0_3 a1)
theorem laws_markState.f_lim (l0_0 : List (S46)) (l0_1 : List (S58)) (a0_2 : Int) (a0_3 : Int) (a1 : Int) : Lim (fun k => laws_markState.f k l0_0 l0_1 a0_2 a0_3 a1) (laws_markState.fv l0_0 l0_1 a0_2 a0_3 a1) := Lim.of (fun k => laws_markState.mono l0_0 l0_1 a0_2 a0_3 a1 k)
set_option maxHeartbeats 4000000 in
theorem laws_markState.fv_eq (l0_0 : List (S46)) (l0_1 : List (S58)) (a0_2 : Int) (a0_3 : Int) (a1 : Int) : laws_markState.fv l0_0 l0_1 a0_2 a0_3 a1 = ((laws_markValS.fv l0_0 a1).bind fun bt257 => ((laws_markCellS.fv l0_1 bt257.1).bind fun bt259 => (some (bt259.1, bt257.2, bt259.2)))) := by
  refine Lim.eq (laws_markState.f_lim l0_0 l0_1 a0_2 a0_3 a1) ?_
  simp only [laws_markState.f]
  repeat' first
    | (with_reducible apply laws_markCellS.f_lim)
    | (with_reducible apply laws_markValS.f_lim)
    | (with_reducible exact Lim.const _)
    | (with_reducible refine Lim.ite ?_ ?_)
    | (with_reducible refine Lim.bind ?_ (fun _ => ?_))
    | apply laws_markCellS.f_lim
    | apply laws_markValS.f_lim
    | exact Lim.const _
    | refine Lim.ite ?_ ?_
    | refine Lim.bind ?_ (fun _ => ?_)

/-! ### laws_heldValS -/
def laws_heldValS.l0 : Nat → List (S46) → Int → Int → Option (Int)
  | 0, _, _, _ => none
  | k + 1, x0, x1, x5 => if x5 < (x0.length : Int) then (if 0 ≤ x5 then (if ((rd_T46 x0 x5).f0) = x1 then (if ((rd_T46 x0 x5).f1) = (wrap64 (x1 + 1)) then ((laws_markText.f k (wrap64 ((wrap64 (x1 + 1)) + 1))).bind fun t264 => (if ((rd_T46 x0 x5).f2).toList = t264.toList then (laws_heldValS.l0 k x0 (wrap64 ((wrap64 ((wrap64 (x1 + 1)) + 1)) + 1)) (wrap64 (x5 + 1))) else (some (-1)))) else (some (-1))) else (some (-1))) else (none)) else (some x1)
def laws_heldValS.f (k : Nat) (l0 : List (S46)) (a1 : Int) : Option (Int) := laws_heldValS.l0 k l0 a1 0
theorem laws_heldValS.mono_l : ∀ k, (∀ y0 y1 y2, LeO (laws_heldValS.l0 k y0 y1 y2) (laws_heldValS.l0 (k + 1) y0 y1 y2))
  | 0 => fun _ _ _ r h => by simp [laws_heldValS.l0] at h
  | k + 1 => by
    have ih0 := laws_heldValS.mono_l k
    · intro y0 y1 y2
      unfold laws_heldValS.l0
      repeat' first
      | (with_reducible exact ih0 _ _ _)
      | (with_reducible exact laws_markText.mono _ _)
      | (with_reducible exact LeO.refl _)
      | (with_reducible exact LeO.none _)
      | (with_reducible refine LeO.ite ?_ ?_)
      | (with_reducible refine LeO.bind ?_ (fun _ => ?_))
      | exact ih0 _ _ _
      | exact laws_markText.mono _ _
      | exact LeO.none _
      | refine LeO.ite ?_ ?_
      | refine LeO.bind ?_ (fun _ => ?_)
theorem laws_heldValS.mono : ∀ a0 a1 k, LeO (laws_heldValS.f k a0 a1) (laws_heldValS.f (k + 1) a0 a1) := by
  intro a0 a1 k
  have ih0 := laws_heldValS.mono_l k
  unfold laws_heldValS.f
  repeat' first
      | (with_reducible exact ih0 _ _ _)
      | (with_reducible exact laws_markText.mono _ _)
      | (with_reducible exact LeO.refl _)
      | (with_reducible exact LeO.none _)
      | (with_reducible refine LeO.ite ?_ ?_)
      | (with_reducible refine LeO.bind ?_ (fun _ => ?_))
      | exact ih0 _ _ _
      | exact laws_markText.mono _ _
      | exact LeO.none _
      | refine LeO.ite ?_ ?_
      | refine LeO.bind ?_ (fun _ => ?_)
noncomputable def laws_heldValS.l0v (x0 : List (S46)) (x1 : Int) (x5 : Int) : Option (Int) := limOf (fun k => laws_heldValS.l0 k x0 x1 x5)
theorem laws_heldValS.l0_lim (x0 : List (S46)) (x1 : Int) (x5 : Int) : Lim (fun k => laws_heldValS.l0 k x0 x1 x5) (laws_heldValS.l0v x0 x1 x5) := Lim.of (fun k => laws_heldValS.mono_l k x0 x1 x5)
noncomputable def laws_heldValS.fv (l0 : List (S46)) (a1 : Int) : Option (Int) := limOf (fun k => laws_heldValS.f k l0 a1)
theorem laws_heldValS.f_lim (l0 : List (S46)) (a1 : Int) : Lim (fun k => laws_heldValS.f k l0 a1) (laws_heldValS.fv l0 a1) := Lim.of (fun k => laws_heldValS.mono l0 a1 k)
set_option maxHeartbeats 4000000 in
theorem laws_heldValS.l0v_eq (x0 : List (S46)) (x1 : Int) (x5 : Int) : laws_heldValS.l0v x0 x1 x5 = (if x5 < (x0.length : Int) then (if 0 ≤ x5 then (if ((rd_T46 x0 x5).f0) = x1 then (if ((rd_T46 x0 x5).f1) = (wrap64 (x1 + 1)) then ((laws_markText.fv (wrap64 ((wrap64 (x1 + 1)) + 1))).bind fun t264 => (if ((rd_T46 x0 x5).f2).toList = t264.toList then (laws_heldValS.l0v x0 (wrap64 ((wrap64 ((wrap64 (x1 + 1)) + 1)) + 1)) (wrap64 (x5 + 1))) else (some (-1)))) else (some (-1))) else (some (-1))) else (none)) else (some x1)) := by
  refine Lim.succ (laws_heldValS.l0_lim x0 x1 x5) ?_
  simp only [laws_heldValS.l0]
  repeat' first
    | (with_reducible apply laws_heldValS.l0_lim)
    | (with_reducible apply laws_markText.f_lim)
    | (with_reducible exact Lim.const _)
    | (with_reducible refine Lim.ite ?_ ?_)
    | (with_reducible refine Lim.bind ?_ (fun _ => ?_))
    | apply laws_heldValS.l0_lim
    | apply laws_markText.f_lim
    | exact Lim.const _
    | refine Lim.ite ?_ ?_
    | refine Lim.bind ?_ (fun _ => ?_)
set_option maxHeartbeats 4000000 in
theorem laws_heldValS.fv_eq (l0 : List (S46)) (a1 : Int) : laws_heldValS.fv l0 a1 = (laws_heldValS.l0v l0 a1 0) := by
  refine Lim.eq (laws_heldValS.f_lim l0 a1) ?_
  simp only [laws_heldValS.f]
  repeat' first
    | (with_reducible apply laws_heldValS.l0_lim)
    | (with_reducible exact Lim.const _)
    | (with_reducible refine Lim.ite ?_ ?_)
    | (with_reducible refine Lim.bind ?_ (fun _ => ?_))
    | apply laws_heldValS.l0_lim
    | exact Lim.const _
    | refine Lim.ite ?_ ?_
    | refine Lim.bind ?_ (fun _ => ?_)

/-! ### laws_heldCellS -/
def laws_heldCellS.l0 : Nat → List (S58) → Int → Int → Option (Int)
  | 0, _, _, _ => none
  | k + 1, x0, x1, x5 => if x5 < (x0.length : Int) then (if 0 ≤ x5 then (if ((rd_T58 x0 x5).f0) = x1 then ((laws_markText.f k (wrap64 (x1 + 1))).bind fun t267 => (if ((rd_T58 x0 x5).f1).toList = t267.toList then (if ((rd_T58 x0 x5).f2.f0) = (wrap64 ((wrap64 (x1 + 1)) + 1)) then (if ((rd_T58 x0 x5).f2.f1) = (wrap64 ((wrap64 ((wrap64 (x1 + 1)) + 1)) + 1)) then ((laws_markText.f k (wrap64 ((wrap64 ((wrap64 ((wrap64 (x1 + 1)) + 1)) + 1)) + 1))).bind fun t271 => (if ((rd_T58 x0 x5).f2.f2).toList = t271.toList then (laws_heldCellS.l0 k x0 (wrap64 ((wrap64 ((wrap64 ((wrap64 ((wrap64 (x1 + 1)) + 1)) + 1)) + 1)) + 1)) (wrap64 (x5 + 1))) else (some (-1)))) else (some (-1))) else (some (-1))) else (some (-1)))) else (some (-1))) else (none)) else (some x1)
def laws_heldCellS.f (k : Nat) (l0 : List (S58)) (a1 : Int) : Option (Int) := laws_heldCellS.l0 k l0 a1 0
theorem laws_heldCellS.mono_l : ∀ k, (∀ y0 y1 y2, LeO (laws_heldCellS.l0 k y0 y1 y2) (laws_heldCellS.l0 (k + 1) y0 y1 y2))
  | 0 => fun _ _ _ r h => by simp [laws_heldCellS.l0] at h
  | k + 1 => by
    have ih0 := laws_heldCellS.mono_l k
    · intro y0 y1 y2
      unfold laws_heldCellS.l0
      repeat' first
      | (with_reducible exact ih0 _ _ _)
      | (with_reducible exact laws_markText.mono _ _)
      | (with_reducible exact LeO.refl _)
      | (with_reducible exact LeO.none _)
      | (with_reducible refine LeO.ite ?_ ?_)
      | (with_reducible refine LeO.bind ?_ (fun _ => ?_))
      | exact ih0 _ _ _
      | exact laws_markText.mono _ _
      | exact LeO.none _
      | refine LeO.ite ?_ ?_
      | refine LeO.bind ?_ (fun _ => ?_)
theorem laws_heldCellS.mono : ∀ a0 a1 k, LeO (laws_heldCellS.f k a0 a1) (laws_heldCellS.f (k + 1) a0 a1) := by
  intro a0 a1 k
  have ih0 := laws_heldCellS.mono_l k
  unfold laws_heldCellS.f
  repeat' first
      | (with_reducible exact ih0 _ _ _)
      | (with_reducible exact laws_markText.mono _ _)
      | (with_reducible exact LeO.refl _)
      | (with_reducible exact LeO.none _)
      | (with_reducible refine LeO.ite ?_ ?_)
      | (with_reducible refine LeO.bind ?_ (fun _ => ?_))
      | exact ih0 _ _ _
      | exact laws_markText.mono _ _
      | exact LeO.none _
      | refine LeO.ite ?_ ?_
      | refine LeO.bind ?_ (fun _ => ?_)
noncomputable def laws_heldCellS.l0v (x0 : List (S58)) (x1 : Int) (x5 : Int) : Option (Int) := limOf (fun k => laws_heldCellS.l0 k x0 x1 x5)
theorem laws_heldCellS.l0_lim (x0 : List (S58)) (x1 : Int) (x5 : Int) : Lim (fun k => laws_heldCellS.l0 k x0 x1 x5) (laws_heldCellS.l0v x0 x1 x5) := Lim.of (fun k => laws_heldCellS.mono_l k x0 x1 x5)
noncomputable def laws_heldCellS.fv (l0 : List (S58)) (a1 : Int) : Option (Int) := limOf (fun k => laws_heldCellS.f k l0 a1)
theorem laws_heldCellS.f_lim (l0 : List (S58)) (a1 : Int) : Lim (fun k => laws_heldCellS.f k l0 a1) (laws_heldCellS.fv l0 a1) := Lim.of (fun k => laws_heldCellS.mono l0 a1 k)
set_option maxHeartbeats 4000000 in
theorem laws_heldCellS.l0v_eq (x0 : List (S58)) (x1 : Int) (x5 : Int) : laws_heldCellS.l0v x0 x1 x5 = (if x5 < (x0.length : Int) then (if 0 ≤ x5 then (if ((rd_T58 x0 x5).f0) = x1 then ((laws_markText.fv (wrap64 (x1 + 1))).bind fun t267 => (if ((rd_T58 x0 x5).f1).toList = t267.toList then (if ((rd_T58 x0 x5).f2.f0) = (wrap64 ((wrap64 (x1 + 1)) + 1)) then (if ((rd_T58 x0 x5).f2.f1) = (wrap64 ((wrap64 ((wrap64 (x1 + 1)) + 1)) + 1)) then ((laws_markText.fv (wrap64 ((wrap64 ((wrap64 ((wrap64 (x1 + 1)) + 1)) + 1)) + 1))).bind fun t271 => (if ((rd_T58 x0 x5).f2.f2).toList = t271.toList then (laws_heldCellS.l0v x0 (wrap64 ((wrap64 ((wrap64 ((wrap64 ((wrap64 (x1 + 1)) + 1)) + 1)) + 1)) + 1)) (wrap64 (x5 + 1))) else (some (-1)))) else (some (-1))) else (some (-1))) else (some (-1)))) else (some (-1))) else (none)) else (some x1)) := by
  refine Lim.succ (laws_heldCellS.l0_lim x0 x1 x5) ?_
  simp only [laws_heldCellS.l0]
  repeat' first
    | (with_reducible apply laws_heldCellS.l0_lim)
    | (with_reducible apply laws_markText.f_lim)
    | (with_reducible exact Lim.const _)
    | (with_reducible refine Lim.ite ?_ ?_)
    | (with_reducible refine Lim.bind ?_ (fun _ => ?_))
    | apply laws_heldCellS.l0_lim
    | apply laws_markText.f_lim
    | exact Lim.const _
    | refine Lim.ite ?_ ?_
    | refine Lim.bind ?_ (fun _ => ?_)
set_option maxHeartbeats 4000000 in
theorem laws_heldCellS.fv_eq (l0 : List (S58)) (a1 : Int) : laws_heldCellS.fv l0 a1 = (laws_heldCellS.l0v l0 a1 0) := by
  refine Lim.eq (laws_heldCellS.f_lim l0 a1) ?_
  simp only [laws_heldCellS.f]
  repeat' first
    | (with_reducible apply laws_heldCellS.l0_lim)
    | (with_reducible exact Lim.const _)
    | (with_reducible refine Lim.ite ?_ ?_)
    | (with_reducible refine Lim.bind ?_ (fun _ => ?_))
    | apply laws_heldCellS.l0_lim
    | exact Lim.const _
    | refine Lim.ite ?_ ?_
    | refine Lim.bind ?_ (fun _ => ?_)

/-! ### laws_heldState -/
def laws_heldState.f (k : Nat) (l0_0 : List (S46)) (l0_1 : List (S58)) (a0_2 : Int) (a0_3 : Int) (a1 : Int) : Option (Int) := (laws_heldValS.f k l0_0 a1).bind fun t273 => (if t273 < 0 then (some (-1)) else ((laws_heldCellS.f k l0_1 t273).bind fun t274 => (if t274 < 0 then (some (-1)) else (some t274))))
theorem laws_heldState.mono : ∀ a0 a1 a2 a3 a4 k, LeO (laws_heldState.f k a0 a1 a2 a3 a4) (laws_heldState.f (k + 1) a0 a1 a2 a3 a4) := by
  intro a0 a1 a2 a3 a4 k
  unfold laws_heldState.f
  repeat' first
      | (with_reducible exact laws_heldCellS.mono _ _ _)
      | (with_reducible exact laws_heldValS.mono _ _ _)
      | (with_reducible exact LeO.refl _)
      | (with_reducible exact LeO.none _)
      | (with_reducible refine LeO.ite ?_ ?_)
      | (with_reducible refine LeO.bind ?_ (fun _ => ?_))
      | exact laws_heldCellS.mono _ _ _
      | exact laws_heldValS.mono _ _ _
      | exact LeO.none _
      | refine LeO.ite ?_ ?_
      | refine LeO.bind ?_ (fun _ => ?_)
noncomputable def laws_heldState.fv (l0_0 : List (S46)) (l0_1 : List (S58)) (a0_2 : Int) (a0_3 : Int) (a1 : Int) : Option (Int) := limOf (fun k => laws_heldState.f k l0_0 l0_1 a0_2 a0_3 a1)
theorem laws_heldState.f_lim (l0_0 : List (S46)) (l0_1 : List (S58)) (a0_2 : Int) (a0_3 : Int) (a1 : Int) : Lim (fun k => laws_heldState.f k l0_0 l0_1 a0_2 a0_3 a1) (laws_heldState.fv l0_0 l0_1 a0_2 a0_3 a1) := Lim.of (fun k => laws_heldState.mono l0_0 l0_1 a0_2 a0_3 a1 k)
set_option maxHeartbeats 4000000 in
theorem laws_heldState.fv_eq (l0_0 : List (S46)) (l0_1 : List (S58)) (a0_2 : Int) (a0_3 : Int) (a1 : Int) : laws_heldState.fv l0_0 l0_1 a0_2 a0_3 a1 = ((laws_heldValS.fv l0_0 a1).bind fun t273 => (if t273 < 0 then (some (-1)) else ((laws_heldCellS.fv l0_1 t273).bind fun t274 => (if t274 < 0 then (some (-1)) else (some t274))))) := by
  refine Lim.eq (laws_heldState.f_lim l0_0 l0_1 a0_2 a0_3 a1) ?_
  simp only [laws_heldState.f]
  repeat' first
    | (with_reducible apply laws_heldCellS.f_lim)
    | (with_reducible apply laws_heldValS.f_lim)
    | (with_reducible exact Lim.const _)
    | (with_reducible refine Lim.ite ?_ ?_)
    | (with_reducible refine Lim.bind ?_ (fun _ => ?_))
    | apply laws_heldCellS.f_lim
    | apply laws_heldValS.f_lim
    | exact Lim.const _
    | refine Lim.ite ?_ ?_
    | refine Lim.bind ?_ (fun _ => ?_)

/-! ### laws_FnExactCellDrop -/
def laws_FnExactCellDrop.j0 : Nat → Int → ByteArray → Bool → List (S42) → List (S72) → Int → Int → List (S46) → List (S58) → Int → Int → List (S46) → List (S58) → Int → Int → Option (Bool)
  | 0, _, _, _, _, _, _, _, _, _, _, _, _, _, _, _ => none
  | k + 1, x1, x2, x53, x276000, x276001, x276002, x276003, x294000, x294001, x294002, x294003, x312000, x312001, x312002, x312003 => if x53 = true then (some false) else ((laws_markState.f k x312000 x312001 x312002 x312003 1).bind fun bt326 => ((laws_heldState.f k bt326.2.1 bt326.2.2 x312002 x312003 1).bind fun t329 => (if t329 < 0 then (some false) else (if t329 = bt326.1 then ((laws_toState.f k x276000 x276001 x276002 x276003).bind fun bt330 => ((impl_CellDrop.f k bt330.1 bt330.2.1 bt330.2.2.1 bt330.2.2.2 x1 x2).bind fun bt338 => ((laws_eqState.f k bt338.1 bt338.2.1 bt338.2.2.1 bt338.2.2.2 x294000 x294001 x294002 x294003).bind fun t347 => (if t347 = true then ((laws_heldState.f k bt326.2.1 bt326.2.2 x312002 x312003 1).bind fun t348 => (if t348 < 0 then (some false) else (if t348 = bt326.1 then (some true) else (some false)))) else (some false))))) else (some false)))))
def laws_FnExactCellDrop.f (k : Nat) (l0_0 : List (S42)) (l0_1 : List (S72)) (a0_2 : Int) (a0_3 : Int) (a1 : Int) (a2 : ByteArray) : Option (Bool) := if (a2.size : Int) > 1048576 then (some true) else ((laws_szState.f k l0_0 l0_1 a0_2 a0_3 1048576).bind fun t276 => (if t276 < 0 then (some true) else ((laws_toState.f k l0_0 l0_1 a0_2 a0_3).bind fun bt277 => ((spec_CellDrop.f k bt277.1 bt277.2.1 bt277.2.2.1 bt277.2.2.2 a1 a2).bind fun bt285 => ((laws_toState.f k l0_0 l0_1 a0_2 a0_3).bind fun bt294 => ((impl_CellDrop.f k bt294.1 bt294.2.1 bt294.2.2.1 bt294.2.2.2 a1 a2).bind fun bt303 => ((laws_eqState.f k bt303.1 bt303.2.1 bt303.2.2.1 bt303.2.2.2 bt285.1 bt285.2.1 bt285.2.2.1 bt285.2.2.2).bind fun t312 => (if t312 = true then ((laws_toState.f k l0_0 l0_1 a0_2 a0_3).bind fun bt313 => ((laws_eqState.f k bt294.1 bt294.2.1 bt294.2.2.1 bt294.2.2.2 bt313.1 bt313.2.1 bt313.2.2.1 bt313.2.2.2).bind fun t321 => (if t321 = true then ((laws_markState.f k bt294.1 bt294.2.1 bt294.2.2.1 bt294.2.2.2 1).bind fun bt322 => (if bt322.1 < 0 then (laws_FnExactCellDrop.j0 k a1 a2 true l0_0 l0_1 a0_2 a0_3 bt285.1 bt285.2.1 bt285.2.2.1 bt285.2.2.2 bt303.1 bt303.2.1 bt303.2.2.1 bt303.2.2.2) else ((laws_eqState.f k bt303.1 bt303.2.1 bt303.2.2.1 bt303.2.2.2 bt285.1 bt285.2.1 bt285.2.2.1 bt285.2.2.2).bind fun t325 => (laws_FnExactCellDrop.j0 k a1 a2 (!t325) l0_0 l0_1 a0_2 a0_3 bt285.1 bt285.2.1 bt285.2.2.1 bt285.2.2.2 bt303.1 bt303.2.1 bt303.2.2.1 bt303.2.2.2)))) else (some false)))) else (some false)))))))))
theorem laws_FnExactCellDrop.mono_l : ∀ k, (∀ y0 y1 y2 y3 y4 y5 y6 y7 y8 y9 y10 y11 y12 y13 y14, LeO (laws_FnExactCellDrop.j0 k y0 y1 y2 y3 y4 y5 y6 y7 y8 y9 y10 y11 y12 y13 y14) (laws_FnExactCellDrop.j0 (k + 1) y0 y1 y2 y3 y4 y5 y6 y7 y8 y9 y10 y11 y12 y13 y14))
  | 0 => fun _ _ _ _ _ _ _ _ _ _ _ _ _ _ _ r h => by simp [laws_FnExactCellDrop.j0] at h
  | k + 1 => by
    have ih0 := laws_FnExactCellDrop.mono_l k
    · intro y0 y1 y2 y3 y4 y5 y6 y7 y8 y9 y10 y11 y12 y13 y14
      unfold laws_FnExactCellDrop.j0
      repeat' first
      | (with_reducible exact ih0 _ _ _ _ _ _ _ _ _ _ _ _ _ _ _)
      | (with_reducible exact impl_CellDrop.mono _ _ _ _ _ _ _)
      | (with_reducible exact laws_eqState.mono _ _ _ _ _ _ _ _ _)
      | (with_reducible exact laws_heldState.mono _ _ _ _ _ _)
      | (with_reducible exact laws_markState.mono _ _ _ _ _ _)
      | (with_reducible exact laws_szState.mono _ _ _ _ _ _)
      | (with_reducible exact laws_toState.mono _ _ _ _ _)
      | (with_reducible exact spec_CellDrop.mono _ _ _ _ _ _ _)
      | (with_reducible exact LeO.refl _)
      | (with_reducible exact LeO.none _)
      | (with_reducible refine LeO.ite ?_ ?_)
      | (with_reducible refine LeO.bind ?_ (fun _ => ?_))
      | exact ih0 _ _ _ _ _ _ _ _ _ _ _ _ _ _ _
      | exact impl_CellDrop.mono _ _ _ _ _ _ _
      | exact laws_eqState.mono _ _ _ _ _ _ _ _ _
      | exact laws_heldState.mono _ _ _ _ _ _
      | exact laws_markState.mono _ _ _ _ _ _
      | exact laws_szState.mono _ _ _ _ _ _
      | exact laws_toState.mono _ _ _ _ _
      | exact spec_CellDrop.mono _ _ _ _ _ _ _
      | exact LeO.none _
      | refine LeO.ite ?_ ?_
      | refine LeO.bind ?_ (fun _ => ?_)
theorem laws_FnExactCellDrop.mono : ∀ a0 a1 a2 a3 a4 a5 k, LeO (laws_FnExactCellDrop.f k a0 a1 a2 a3 a4 a5) (laws_FnExactCellDrop.f (k + 1) a0 a1 a2 a3 a4 a5) := by
  intro a0 a1 a2 a3 a4 a5 k
  have ih0 := laws_FnExactCellDrop.mono_l k
  unfold laws_FnExactCellDrop.f
  repeat' first
      | (with_reducible exact ih0 _ _ _ _ _ _ _ _ _ _ _ _ _ _ _)
      | (with_reducible exact impl_CellDrop.mono _ _ _ _ _ _ _)
      | (with_reducible exact laws_eqState.mono _ _ _ _ _ _ _ _ _)
      | (with_reducible exact laws_heldState.mono _ _ _ _ _ _)
      | (with_reducible exact laws_markState.mono _ _ _ _ _ _)
      | (with_reducible exact laws_szState.mono _ _ _ _ _ _)
      | (with_reducible exact laws_toState.mono _ _ _ _ _)
      | (with_reducible exact spec_CellDrop.mono _ _ _ _ _ _ _)
      | (with_reducible exact LeO.refl _)
      | (with_reducible exact LeO.none _)
      | (with_reducible refine LeO.ite ?_ ?_)
      | (with_reducible refine LeO.bind ?_ (fun _ => ?_))
      | exact ih0 _ _ _ _ _ _ _ _ _ _ _ _ _ _ _
      | exact impl_CellDrop.mono _ _ _ _ _ _ _
      | exact laws_eqState.mono _ _ _ _ _ _ _ _ _
      | exact laws_heldState.mono _ _ _ _ _ _
      | exact laws_markState.mono _ _ _ _ _ _
      | exact laws_szState.mono _ _ _ _ _ _
      | exact laws_toState.mono _ _ _ _ _
      | exact spec_CellDrop.mono _ _ _ _ _ _ _
      | exact LeO.none _
      | refine LeO.ite ?_ ?_
      | refine LeO.bind ?_ (fun _ => ?_)
noncomputable def laws_FnExactCellDrop.j0v (x1 : Int) (x2 : ByteArray) (x53 : Bool) (x276000 : List (S42)) (x276001 : List (S72)) (x276002 : Int) (x276003 : Int) (x294000 : List (S46)) (x294001 : List (S58)) (x294002 : Int) (x294003 : Int) (x312000 : List (S46)) (x312001 : List (S58)) (x312002 : Int) (x312003 : Int) : Option (Bool) := limOf (fun k => laws_FnExactCellDrop.j0 k x1 x2 x53 x276000 x276001 x276002 x276003 x294000 x294001 x294002 x294003 x312000 x312001 x312002 x312003)
theorem laws_FnExactCellDrop.j0_lim (x1 : Int) (x2 : ByteArray) (x53 : Bool) (x276000 : List (S42)) (x276001 : List (S72)) (x276002 : Int) (x276003 : Int) (x294000 : List (S46)) (x294001 : List (S58)) (x294002 : Int) (x294003 : Int) (x312000 : List (S46)) (x312001 : List (S58)) (x312002 : Int) (x312003 : Int) : Lim (fun k => laws_FnExactCellDrop.j0 k x1 x2 x53 x276000 x276001 x276002 x276003 x294000 x294001 x294002 x294003 x312000 x312001 x312002 x312003) (laws_FnExactCellDrop.j0v x1 x2 x53 x276000 x276001 x276002 x276003 x294000 x294001 x294002 x294003 x312000 x312001 x312002 x312003) := Lim.of (fun k => laws_FnExactCellDrop.mono_l k x1 x2 x53 x276000 x276001 x276002 x276003 x294000 x294001 x294002 x294003 x312000 x312001 x312002 x312003)
noncomputable def laws_FnExactCellDrop.fv (l0_0 : List (S42)) (l0_1 : List (S72)) (a0_2 : Int) (a0_3 : Int) (a1 : Int) (a2 : ByteArray) : Option (Bool) := limOf (fun k => laws_FnExactCellDrop.f k l0_0 l0_1 a0_2 a0_3 a1 a2)
theorem laws_FnExactCellDrop.f_lim (l0_0 : List (S42)) (l0_1 : List (S72)) (a0_2 : Int) (a0_3 : Int) (a1 : Int) (a2 : ByteArray) : Lim (fun k => laws_FnExactCellDrop.f k l0_0 l0_1 a0_2 a0_3 a1 a2) (laws_FnExactCellDrop.fv l0_0 l0_1 a0_2 a0_3 a1 a2) := Lim.of (fun k => laws_FnExactCellDrop.mono l0_0 l0_1 a0_2 a0_3 a1 a2 k)
set_option maxHeartbeats 4000000 in
theorem laws_FnExactCellDrop.j0v_eq (x1 : Int) (x2 : ByteArray) (x53 : Bool) (x276000 : List (S42)) (x276001 : List (S72)) (x276002 : Int) (x276003 : Int) (x294000 : List (S46)) (x294001 : List (S58)) (x294002 : Int) (x294003 : Int) (x312000 : List (S46)) (x312001 : List (S58)) (x312002 : Int) (x312003 : Int) : laws_FnExactCellDrop.j0v x1 x2 x53 x276000 x276001 x276002 x276003 x294000 x294001 x294002 x294003 x312000 x312001 x312002 x312003 = (if x53 = true then (some false) else ((laws_markState.fv x312000 x312001 x312002 x312003 1).bind fun bt326 => ((laws_heldState.fv bt326.2.1 bt326.2.2 x312002 x312003 1).bind fun t329 => (if t329 < 0 then (some false) else (if t329 = bt326.1 then ((laws_toState.fv x276000 x276001 x276002 x276003).bind fun bt330 => ((impl_CellDrop.fv bt330.1 bt330.2.1 bt330.2.2.1 bt330.2.2.2 x1 x2).bind fun bt338 => ((laws_eqState.fv bt338.1 bt338.2.1 bt338.2.2.1 bt338.2.2.2 x294000 x294001 x294002 x294003).bind fun t347 => (if t347 = true then ((laws_heldState.fv bt326.2.1 bt326.2.2 x312002 x312003 1).bind fun t348 => (if t348 < 0 then (some false) else (if t348 = bt326.1 then (some true) else (some false)))) else (some false))))) else (some false)))))) := by
  refine Lim.succ (laws_FnExactCellDrop.j0_lim x1 x2 x53 x276000 x276001 x276002 x276003 x294000 x294001 x294002 x294003 x312000 x312001 x312002 x312003) ?_
  simp only [laws_FnExactCellDrop.j0]
  repeat' first
    | (with_reducible apply impl_CellDrop.f_lim)
    | (with_reducible apply laws_eqState.f_lim)
    | (with_reducible apply laws_heldState.f_lim)
    | (with_reducible apply laws_markState.f_lim)
    | (with_reducible apply laws_toState.f_lim)
    | (with_reducible exact Lim.const _)
    | (with_reducible refine Lim.ite ?_ ?_)
    | (with_reducible refine Lim.bind ?_ (fun _ => ?_))
    | apply impl_CellDrop.f_lim
    | apply laws_eqState.f_lim
    | apply laws_heldState.f_lim
    | apply laws_markState.f_lim
    | apply laws_toState.f_lim
    | exact Lim.const _
    | refine Lim.ite ?_ ?_
    | refine Lim.bind ?_ (fun _ => ?_)
set_option maxHeartbeats 4000000 in
theorem laws_FnExactCellDrop.fv_eq (l0_0 : List (S42)) (l0_1 : List (S72)) (a0_2 : Int) (a0_3 : Int) (a1 : Int) (a2 : ByteArray) : laws_FnExactCellDrop.fv l0_0 l0_1 a0_2 a0_3 a1 a2 = (if (a2.size : Int) > 1048576 then (some true) else ((laws_szState.fv l0_0 l0_1 a0_2 a0_3 1048576).bind fun t276 => (if t276 < 0 then (some true) else ((laws_toState.fv l0_0 l0_1 a0_2 a0_3).bind fun bt277 => ((spec_CellDrop.fv bt277.1 bt277.2.1 bt277.2.2.1 bt277.2.2.2 a1 a2).bind fun bt285 => ((laws_toState.fv l0_0 l0_1 a0_2 a0_3).bind fun bt294 => ((impl_CellDrop.fv bt294.1 bt294.2.1 bt294.2.2.1 bt294.2.2.2 a1 a2).bind fun bt303 => ((laws_eqState.fv bt303.1 bt303.2.1 bt303.2.2.1 bt303.2.2.2 bt285.1 bt285.2.1 bt285.2.2.1 bt285.2.2.2).bind fun t312 => (if t312 = true then ((laws_toState.fv l0_0 l0_1 a0_2 a0_3).bind fun bt313 => ((laws_eqState.fv bt294.1 bt294.2.1 bt294.2.2.1 bt294.2.2.2 bt313.1 bt313.2.1 bt313.2.2.1 bt313.2.2.2).bind fun t321 => (if t321 = true then ((laws_markState.fv bt294.1 bt294.2.1 bt294.2.2.1 bt294.2.2.2 1).bind fun bt322 => (if bt322.1 < 0 then (laws_FnExactCellDrop.j0v a1 a2 true l0_0 l0_1 a0_2 a0_3 bt285.1 bt285.2.1 bt285.2.2.1 bt285.2.2.2 bt303.1 bt303.2.1 bt303.2.2.1 bt303.2.2.2) else ((laws_eqState.fv bt303.1 bt303.2.1 bt303.2.2.1 bt303.2.2.2 bt285.1 bt285.2.1 bt285.2.2.1 bt285.2.2.2).bind fun t325 => (laws_FnExactCellDrop.j0v a1 a2 (!t325) l0_0 l0_1 a0_2 a0_3 bt285.1 bt285.2.1 bt285.2.2.1 bt285.2.2.2 bt303.1 bt303.2.1 bt303.2.2.1 bt303.2.2.2)))) else (some false)))) else (some false)))))))))) := by
  refine Lim.eq (laws_FnExactCellDrop.f_lim l0_0 l0_1 a0_2 a0_3 a1 a2) ?_
  simp only [laws_FnExactCellDrop.f]
  repeat' first
    | (with_reducible apply impl_CellDrop.f_lim)
    | (with_reducible apply laws_FnExactCellDrop.j0_lim)
    | (with_reducible apply laws_eqState.f_lim)
    | (with_reducible apply laws_markState.f_lim)
    | (with_reducible apply laws_szState.f_lim)
    | (with_reducible apply laws_toState.f_lim)
    | (with_reducible apply spec_CellDrop.f_lim)
    | (with_reducible exact Lim.const _)
    | (with_reducible refine Lim.ite ?_ ?_)
    | (with_reducible refine Lim.bind ?_ (fun _ => ?_))
    | apply impl_CellDrop.f_lim
    | apply laws_FnExactCellDrop.j0_lim
    | apply laws_eqState.f_lim
    | apply laws_markState.f_lim
    | apply laws_szState.f_lim
    | apply laws_toState.f_lim
    | apply spec_CellDrop.f_lim
    | exact Lim.const _
    | refine Lim.ite ?_ ?_
    | refine Lim.bind ?_ (fun _ => ?_)

end Go.Proofs.Ytehefologhfdhaa.QFnExactCellDrop
