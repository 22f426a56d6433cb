/- Written by wip/pr2, a program of this session. -/
import Derived.Test.YtehefologhfdhaaQFnExactCellPutx0
import Derived.Test.YtehefologhfdhaaQFnExactCellPutx1
import Derived.Test.YtehefologhfdhaaQFnExactCellPutx2
import Derived.Test.YtehefologhfdhaaWFnExactCellPut
namespace Go.Proofs.Ytehefologhfdhaa.QFnExactCellPut
open Go.RowKit Go.Proofs.YtehefologhfdhaaW.PrintWords Go.Proofs.YtehefologhfdhaaW.PrintLast Go.Proofs.YtehefologhfdhaaW.PrintMore
attribute [local go_sem] max2_int min2_int max_two min_two max_three min_three max_four min_four   -- for this text's walks alone
set_option linter.unusedVariables false
set_option linter.unusedSimpArgs false
set_option maxHeartbeats 8000000

open Go.Proofs.YtehefologhfdhaaW.Lims
/-! ### laws_FnExactCellPut -/
mutual
def laws_FnExactCellPut.j0 : Nat → Int → ByteArray → Bool → Bool → Bool → List (S42) → List (S72) → Int → Int → Int → Int → ByteArray → List (S46) → List (S58) → Int → Int → List (S46) → List (S58) → Int → Int → List (S46) → List (S58) → Int → Int → Option (Bool)
  | 0, _, _, _, _, _, _, _, _, _, _, _, _, _, _, _, _, _, _, _, _, _, _, _, _ => none
  | k + 1, x1, x2, x11, x14, x62, x326000, x326001, x326002, x326003, x327000, x327001, x327002, x350000, x350001, x350002, x350003, x359000, x359001, x359002, x359003, x372000, x372001, x372002, x372003 => if x62 = true then (some false) else ((laws_toState.f k x326000 x326001 x326002 x326003).bind fun bt373 => ((laws_eqState.f k x359000 x359001 x359002 x359003 bt373.1 bt373.2.1 bt373.2.2.1 bt373.2.2.2).bind fun t381 => (if t381 = true then ((laws_markState.f k x359000 x359001 x359002 x359003 1).bind fun bt382 => (if bt382.1 < 0 then (laws_FnExactCellPut.j1 k x1 x2 x11 true x326000 x326001 x326002 x326003 x327000 x327001 x327002 x350000 x350001 x350002 x350003 x372000 x372001 x372002 x372003) else ((laws_eqState.f k x372000 x372001 x372002 x372003 x350000 x350001 x350002 x350003).bind fun t385 => (if t385 = true then (laws_FnExactCellPut.j1 k x1 x2 x11 (x14 != x11) x326000 x326001 x326002 x326003 x327000 x327001 x327002 x350000 x350001 x350002 x350003 x372000 x372001 x372002 x372003) else (laws_FnExactCellPut.j1 k x1 x2 x11 true x326000 x326001 x326002 x326003 x327000 x327001 x327002 x350000 x350001 x350002 x350003 x372000 x372001 x372002 x372003))))) else (some false))))
def laws_FnExactCellPut.j1 : Nat → Int → ByteArray → Bool → Bool → List (S42) → List (S72) → Int → Int → Int → Int → ByteArray → List (S46) → List (S58) → Int → Int → List (S46) → List (S58) → Int → Int → Option (Bool)
  | 0, _, _, _, _, _, _, _, _, _, _, _, _, _, _, _, _, _, _, _ => none
  | k + 1, x1, x2, x11, x83, x326000, x326001, x326002, x326003, x327000, x327001, x327002, x350000, x350001, x350002, x350003, x372000, x372001, x372002, x372003 => if x83 = true then (some false) else ((laws_markState.f k x372000 x372001 x372002 x372003 1).bind fun bt386 => ((laws_heldState.f k bt386.2.1 bt386.2.2 x372002 x372003 1).bind fun t389 => (if t389 < 0 then (some false) else (if t389 = bt386.1 then ((laws_toState.f k x326000 x326001 x326002 x326003).bind fun bt390 => ((laws_toVal.f x327000 x327001 x327002).bind fun bt398 => ((impl_CellPut.f k bt390.1 bt390.2.1 bt390.2.2.1 bt390.2.2.2 x1 x2 bt398.1 bt398.2.1 bt398.2.2).bind fun bt401 => ((laws_eqState.f k bt401.1 bt401.2.1 bt401.2.2.1 bt401.2.2.2.1 x350000 x350001 x350002 x350003).bind fun t411 => (if t411 = true then (laws_FnExactCellPut.j2 k bt386.1 (bt401.2.2.2.2 != x11) bt386.2.1 bt386.2.2 x372002 x372003) else (laws_FnExactCellPut.j2 k bt386.1 true bt386.2.1 bt386.2.2 x372002 x372003)))))) else (some false)))))
def laws_FnExactCellPut.j2 : Nat → Int → Bool → List (S46) → List (S58) → Int → Int → Option (Bool)
  | 0, _, _, _, _, _, _ => none
  | k + 1, x16, x113, x372000, x372001, x372002, x372003 => if x113 = true then (some false) else ((laws_heldState.f k x372000 x372001 x372002 x372003 1).bind fun t412 => (if t412 < 0 then (some false) else (if t412 = x16 then (some true) else (some false))))
end
def laws_FnExactCellPut.f (k : Nat) (l0_0 : List (S42)) (l0_1 : List (S72)) (a0_2 : Int) (a0_3 : Int) (a1 : Int) (a2 : ByteArray) (a3_0 : Int) (a3_1 : Int) (a3_2 : ByteArray) : Option (Bool) := if (a2.size : Int) > 1048576 then (some true) else ((laws_szState.f k l0_0 l0_1 a0_2 a0_3 1048576).bind fun t327 => (if t327 < 0 then (some true) else ((laws_szVal.f a3_0 a3_1 a3_2 t327).bind fun t328 => (if t328 < 0 then (some true) else ((laws_toState.f k l0_0 l0_1 a0_2 a0_3).bind fun bt329 => ((laws_toVal.f a3_0 a3_1 a3_2).bind fun bt337 => ((spec_CellPut.f k bt329.1 bt329.2.1 bt329.2.2.1 bt329.2.2.2 a1 a2 bt337.1 bt337.2.1 bt337.2.2).bind fun bt340 => ((laws_toState.f k l0_0 l0_1 a0_2 a0_3).bind fun bt350 => ((laws_toVal.f a3_0 a3_1 a3_2).bind fun bt359 => ((impl_CellPut.f k bt350.1 bt350.2.1 bt350.2.2.1 bt350.2.2.2 a1 a2 bt359.1 bt359.2.1 bt359.2.2).bind fun bt362 => ((laws_eqState.f k bt362.1 bt362.2.1 bt362.2.2.1 bt362.2.2.2.1 bt340.1 bt340.2.1 bt340.2.2.1 bt340.2.2.2.1).bind fun t372 => (if t372 = true then (laws_FnExactCellPut.j0 k a1 a2 bt340.2.2.2.2 bt362.2.2.2.2 (bt362.2.2.2.2 != bt340.2.2.2.2) l0_0 l0_1 a0_2 a0_3 a3_0 a3_1 a3_2 bt340.1 bt340.2.1 bt340.2.2.1 bt340.2.2.2.1 bt350.1 bt350.2.1 bt350.2.2.1 bt350.2.2.2 bt362.1 bt362.2.1 bt362.2.2.1 bt362.2.2.2.1) else (laws_FnExactCellPut.j0 k a1 a2 bt340.2.2.2.2 bt362.2.2.2.2 true l0_0 l0_1 a0_2 a0_3 a3_0 a3_1 a3_2 bt340.1 bt340.2.1 bt340.2.2.1 bt340.2.2.2.1 bt350.1 bt350.2.1 bt350.2.2.1 bt350.2.2.2 bt362.1 bt362.2.1 bt362.2.2.1 bt362.2.2.2.1)))))))))))))
theorem laws_FnExactCellPut.mono_l : ∀ k, (∀ y0 y1 y2 y3 y4 y5 y6 y7 y8 y9 y10 y11 y12 y13 y14 y15 y16 y17 y18 y19 y20 y21 y22 y23, LeO (laws_FnExactCellPut.j0 k y0 y1 y2 y3 y4 y5 y6 y7 y8 y9 y10 y11 y12 y13 y14 y15 y16 y17 y18 y19 y20 y21 y22 y23) (laws_FnExactCellPut.j0 (k + 1) y0 y1 y2 y3 y4 y5 y6 y7 y8 y9 y10 y11 y12 y13 y14 y15 y16 y17 y18 y19 y20 y21 y22 y23)) ∧ (∀ y0 y1 y2 y3 y4 y5 y6 y7 y8 y9 y10 y11 y12 y13 y14 y15 y16 y17 y18, LeO (laws_FnExactCellPut.j1 k y0 y1 y2 y3 y4 y5 y6 y7 y8 y9 y10 y11 y12 y13 y14 y15 y16 y17 y18) (laws_FnExactCellPut.j1 (k + 1) y0 y1 y2 y3 y4 y5 y6 y7 y8 y9 y10 y11 y12 y13 y14 y15 y16 y17 y18)) ∧ (∀ y0 y1 y2 y3 y4 y5, LeO (laws_FnExactCellPut.j2 k y0 y1 y2 y3 y4 y5) (laws_FnExactCellPut.j2 (k + 1) y0 y1 y2 y3 y4 y5))
  | 0 => ⟨fun _ _ _ _ _ _ _ _ _ _ _ _ _ _ _ _ _ _ _ _ _ _ _ _ r h => by simp [laws_FnExactCellPut.j0] at h, fun _ _ _ _ _ _ _ _ _ _ _ _ _ _ _ _ _ _ _ r h => by simp [laws_FnExactCellPut.j1] at h, fun _ _ _ _ _ _ r h => by simp [laws_FnExactCellPut.j2] at h⟩
  | k + 1 => by
    obtain ⟨ih0, ih1, ih2⟩ := laws_FnExactCellPut.mono_l k
    refine ⟨?_, ?_, ?_⟩
    · intro y0 y1 y2 y3 y4 y5 y6 y7 y8 y9 y10 y11 y12 y13 y14 y15 y16 y17 y18 y19 y20 y21 y22 y23
      unfold laws_FnExactCellPut.j0
      repeat' first
      | (with_reducible exact ih0 _ _ _ _ _ _ _ _ _ _ _ _ _ _ _ _ _ _ _ _ _ _ _ _)
      | (with_reducible exact ih1 _ _ _ _ _ _ _ _ _ _ _ _ _ _ _ _ _ _ _)
      | (with_reducible exact ih2 _ _ _ _ _ _)
      | (with_reducible exact impl_CellPut.mono _ _ _ _ _ _ _ _ _ _)
      | (with_reducible exact laws_eqState.mono _ _ _ _ _ _ _ _ _)
      | (with_reducible exact laws_heldState.mono _ _ _ _ _ _)
      | (with_reducible exact laws_markState.mono _ _ _ _ _ _)
      | (with_reducible exact laws_szState.mono _ _ _ _ _ _)
      | (with_reducible exact laws_toState.mono _ _ _ _ _)
      | (with_reducible exact spec_CellPut.mono _ _ _ _ _ _ _ _ _ _)
      | (with_reducible exact LeO.refl _)
      | (with_reducible exact LeO.none _)
      | (with_reducible refine LeO.ite ?_ ?_)
      | (with_reducible refine LeO.bind ?_ (fun _ => ?_))
      | exact ih0 _ _ _ _ _ _ _ _ _ _ _ _ _ _ _ _ _ _ _ _ _ _ _ _
      | exact ih1 _ _ _ _ _ _ _ _ _ _ _ _ _ _ _ _ _ _ _
      | exact ih2 _ _ _ _ _ _
      | exact impl_CellPut.mono _ _ _ _ _ _ _ _ _ _
      | exact laws_eqState.mono _ _ _ _ _ _ _ _ _
      | exact laws_heldState.mono _ _ _ _ _ _
      | exact laws_markState.mono _ _ _ _ _ _
      | exact laws_szState.mono _ _ _ _ _ _
      | exact laws_toState.mono _ _ _ _ _
      | exact spec_CellPut.mono _ _ _ _ _ _ _ _ _ _
      | exact LeO.none _
      | refine LeO.ite ?_ ?_
      | refine LeO.bind ?_ (fun _ => ?_)
    · intro y0 y1 y2 y3 y4 y5 y6 y7 y8 y9 y10 y11 y12 y13 y14 y15 y16 y17 y18
      unfold laws_FnExactCellPut.j1
      repeat' first
      | (with_reducible exact ih0 _ _ _ _ _ _ _ _ _ _ _ _ _ _ _ _ _ _ _ _ _ _ _ _)
      | (with_reducible exact ih1 _ _ _ _ _ _ _ _ _ _ _ _ _ _ _ _ _ _ _)
      | (with_reducible exact ih2 _ _ _ _ _ _)
      | (with_reducible exact impl_CellPut.mono _ _ _ _ _ _ _ _ _ _)
      | (with_reducible exact laws_eqState.mono _ _ _ _ _ _ _ _ _)
      | (with_reducible exact laws_heldState.mono _ _ _ _ _ _)
      | (with_reducible exact laws_markState.mono _ _ _ _ _ _)
      | (with_reducible exact laws_szState.mono _ _ _ _ _ _)
      | (with_reducible exact laws_toState.mono _ _ _ _ _)
      | (with_reducible exact spec_CellPut.mono _ _ _ _ _ _ _ _ _ _)
      | (with_reducible exact LeO.refl _)
      | (with_reducible exact LeO.none _)
      | (with_reducible refine LeO.ite ?_ ?_)
      | (with_reducible refine LeO.bind ?_ (fun _ => ?_))
      | exact ih0 _ _ _ _ _ _ _ _ _ _ _ _ _ _ _ _ _ _ _ _ _ _ _ _
      | exact ih1 _ _ _ _ _ _ _ _ _ _ _ _ _ _ _ _ _ _ _
      | exact ih2 _ _ _ _ _ _
      | exact impl_CellPut.mono _ _ _ _ _ _ _ _ _ _
      | exact laws_eqState.mono _ _ _ _ _ _ _ _ _
      | exact laws_heldState.mono _ _ _ _ _ _
      | exact laws_markState.mono _ _ _ _ _ _
      | exact laws_szState.mono _ _ _ _ _ _
      | exact laws_toState.mono _ _ _ _ _
      | exact spec_CellPut.mono _ _ _ _ _ _ _ _ _ _
      | exact LeO.none _
      | refine LeO.ite ?_ ?_
      | refine LeO.bind ?_ (fun _ => ?_)
    · intro y0 y1 y2 y3 y4 y5
      unfold laws_FnExactCellPut.j2
      repeat' first
      | (with_reducible exact ih0 _ _ _ _ _ _ _ _ _ _ _ _ _ _ _ _ _ _ _ _ _ _ _ _)
      | (with_reducible exact ih1 _ _ _ _ _ _ _ _ _ _ _ _ _ _ _ _ _ _ _)
      | (with_reducible exact ih2 _ _ _ _ _ _)
      | (with_reducible exact impl_CellPut.mono _ _ _ _ _ _ _ _ _ _)
      | (with_reducible exact laws_eqState.mono _ _ _ _ _ _ _ _ _)
      | (with_reducible exact laws_heldState.mono _ _ _ _ _ _)
      | (with_reducible exact laws_markState.mono _ _ _ _ _ _)
      | (with_reducible exact laws_szState.mono _ _ _ _ _ _)
      | (with_reducible exact laws_toState.mono _ _ _ _ _)
      | (with_reducible exact spec_CellPut.mono _ _ _ _ _ _ _ _ _ _)
      | (with_reducible exact LeO.refl _)
      | (with_reducible exact LeO.none _)
      | (with_reducible refine LeO.ite ?_ ?_)
      | (with_reducible refine LeO.bind ?_ (fun _ => ?_))
      | exact ih0 _ _ _ _ _ _ _ _ _ _ _ _ _ _ _ _ _ _ _ _ _ _ _ _
      | exact ih1 _ _ _ _ _ _ _ _ _ _ _ _ _ _ _ _ _ _ _
      | exact ih2 _ _ _ _ _ _
      | exact impl_CellPut.mono _ _ _ _ _ _ _ _ _ _
      | exact laws_eqState.mono _ _ _ _ _ _ _ _ _
      | exact laws_heldState.mono _ _ _ _ _ _
      | exact laws_markState.mono _ _ _ _ _ _
      | exact laws_szState.mono _ _ _ _ _ _
      | exact laws_toState.mono _ _ _ _ _
      | exact spec_CellPut.mono _ _ _ _ _ _ _ _ _ _
      | exact LeO.none _
      | refine LeO.ite ?_ ?_
      | refine LeO.bind ?_ (fun _ => ?_)
theorem laws_FnExactCellPut.mono : ∀ a0 a1 a2 a3 a4 a5 a6 a7 a8 k, LeO (laws_FnExactCellPut.f k a0 a1 a2 a3 a4 a5 a6 a7 a8) (laws_FnExactCellPut.f (k + 1) a0 a1 a2 a3 a4 a5 a6 a7 a8) := by
  intro a0 a1 a2 a3 a4 a5 a6 a7 a8 k
  obtain ⟨ih0, ih1, ih2⟩ := laws_FnExactCellPut.mono_l k
  unfold laws_FnExactCellPut.f
  repeat' first
      | (with_reducible exact ih0 _ _ _ _ _ _ _ _ _ _ _ _ _ _ _ _ _ _ _ _ _ _ _ _)
      | (with_reducible exact ih1 _ _ _ _ _ _ _ _ _ _ _ _ _ _ _ _ _ _ _)
      | (with_reducible exact ih2 _ _ _ _ _ _)
      | (with_reducible exact impl_CellPut.mono _ _ _ _ _ _ _ _ _ _)
      | (with_reducible exact laws_eqState.mono _ _ _ _ _ _ _ _ _)
      | (with_reducible exact laws_heldState.mono _ _ _ _ _ _)
      | (with_reducible exact laws_markState.mono _ _ _ _ _ _)
      | (with_reducible exact laws_szState.mono _ _ _ _ _ _)
      | (with_reducible exact laws_toState.mono _ _ _ _ _)
      | (with_reducible exact spec_CellPut.mono _ _ _ _ _ _ _ _ _ _)
      | (with_reducible exact LeO.refl _)
      | (with_reducible exact LeO.none _)
      | (with_reducible refine LeO.ite ?_ ?_)
      | (with_reducible refine LeO.bind ?_ (fun _ => ?_))
      | exact ih0 _ _ _ _ _ _ _ _ _ _ _ _ _ _ _ _ _ _ _ _ _ _ _ _
      | exact ih1 _ _ _ _ _ _ _ _ _ _ _ _ _ _ _ _ _ _ _
      | exact ih2 _ _ _ _ _ _
      | exact impl_CellPut.mono _ _ _ _ _ _ _ _ _ _
      | exact laws_eqState.mono _ _ _ _ _ _ _ _ _
      | exact laws_heldState.mono _ _ _ _ _ _
      | exact laws_markState.mono _ _ _ _ _ _
      | exact laws_szState.mono _ _ _ _ _ _
      | exact laws_toState.mono _ _ _ _ _
      | exact spec_CellPut.mono _ _ _ _ _ _ _ _ _ _
      | exact LeO.none _
      | refine LeO.ite ?_ ?_
      | refine LeO.bind ?_ (fun _ => ?_)
noncomputable def laws_FnExactCellPut.j0v (x1 : Int) (x2 : ByteArray) (x11 : Bool) (x14 : Bool) (x62 : Bool) (x326000 : List (S42)) (x326001 : List (S72)) (x326002 : Int) (x326003 : Int) (x327000 : Int) (x327001 : Int) (x327002 : ByteArray) (x350000 : List (S46)) (x350001 : List (S58)) (x350002 : Int) (x350003 : Int) (x359000 : List (S46)) (x359001 : List (S58)) (x359002 : Int) (x359003 : Int) (x372000 : List (S46)) (x372001 : List (S58)) (x372002 : Int) (x372003 : Int) : Option (Bool) := limOf (fun k => laws_FnExactCellPut.j0 k x1 x2 x11 x14 x62 x326000 x326001 x326002 x326003 x327000 x327001 x327002 x350000 x350001 x350002 x350003 x359000 x359001 x359002 x359003 x372000 x372001 x372002 x372003)
theorem laws_FnExactCellPut.j0_lim (x1 : Int) (x2 : ByteArray) (x11 : Bool) (x14 : Bool) (x62 : Bool) (x326000 : List (S42)) (x326001 : List (S72)) (x326002 : Int) (x326003 : Int) (x327000 : Int) (x327001 : Int) (x327002 : ByteArray) (x350000 : List (S46)) (x350001 : List (S58)) (x350002 : Int) (x350003 : Int) (x359000 : List (S46)) (x359001 : List (S58)) (x359002 : Int) (x359003 : Int) (x372000 : List (S46)) (x372001 : List (S58)) (x372002 : Int) (x372003 : Int) : Lim (fun k => laws_FnExactCellPut.j0 k x1 x2 x11 x14 x62 x326000 x326001 x326002 x326003 x327000 x327001 x327002 x350000 x350001 x350002 x350003 x359000 x359001 x359002 x359003 x372000 x372001 x372002 x372003) (laws_FnExactCellPut.j0v x1 x2 x11 x14 x62 x326000 x326001 x326002 x326003 x327000 x327001 x327002 x350000 x350001 x350002 x350003 x359000 x359001 x359002 x359003 x372000 x372001 x372002 x372003) := Lim.of (fun k => (laws_FnExactCellPut.mono_l k).1 x1 x2 x11 x14 x62 x326000 x326001 x326002 x326003 x327000 x327001 x327002 x350000 x350001 x350002 x350003 x359000 x359001 x359002 x359003 x372000 x372001 x372002 x372003)
noncomputable def laws_FnExactCellPut.j1v (x1 : Int) (x2 : ByteArray) (x11 : Bool) (x83 : Bool) (x326000 : List (S42)) (x326001 : List (S72)) (x326002 : Int) (x326003 : Int) (x327000 : Int) (x327001 : Int) (x327002 : ByteArray) (x350000 : List (S46)) (x350001 : List (S58)) (x350002 : Int) (x350003 : Int) (x372000 : List (S46)) (x372001 : List (S58)) (x372002 : Int) (x372003 : Int) : Option (Bool) := limOf (fun k => laws_FnExactCellPut.j1 k x1 x2 x11 x83 x326000 x326001 x326002 x326003 x327000 x327001 x327002 x350000 x350001 x350002 x350003 x372000 x372001 x372002 x372003)
theorem laws_FnExactCellPut.j1_lim (x1 : Int) (x2 : ByteArray) (x11 : Bool) (x83 : Bool) (x326000 : List (S42)) (x326001 : List (S72)) (x326002 : Int) (x326003 : Int) (x327000 : Int) (x327001 : Int) (x327002 : ByteArray) (x350000 : List (S46)) (x350001 : List (S58)) (x350002 : Int) (x350003 : Int) (x372000 : List (S46)) (x372001 : List (S58)) (x372002 : Int) (x372003 : Int) : Lim (fun k => laws_FnExactCellPut.j1 k x1 x2 x11 x83 x326000 x326001 x326002 x326003 x327000 x327001 x327002 x350000 x350001 x350002 x350003 x372000 x372001 x372002 x372003) (laws_FnExactCellPut.j1v x1 x2 x11 x83 x326000 x326001 x326002 x326003 x327000 x327001 x327002 x350000 x350001 x350002 x350003 x372000 x372001 x372002 x372003) := Lim.of (fun k => (laws_FnExactCellPut.mono_l k).2.1 x1 x2 x11 x83 x326000 x326001 x326002 x326003 x327000 x327001 x327002 x350000 x350001 x350002 x350003 x372000 x372001 x372002 x372003)
noncomputable def laws_FnExactCellPut.j2v (x16 : Int) (x113 : Bool) (x372000 : List (S46)) (x372001 : List (S58)) (x372002 : Int) (x372003 : Int) : Option (Bool) := limOf (fun k => laws_FnExactCellPut.j2 k x16 x113 x372000 x372001 x372002 x372003)
theorem laws_FnExactCellPut.j2_lim (x16 : Int) (x113 : Bool) (x372000 : List (S46)) (x372001 : List (S58)) (x372002 : Int) (x372003 : Int) : Lim (fun k => laws_FnExactCellPut.j2 k x16 x113 x372000 x372001 x372002 x372003) (laws_FnExactCellPut.j2v x16 x113 x372000 x372001 x372002 x372003) := Lim.of (fun k => (laws_FnExactCellPut.mono_l k).2.2 x16 x113 x372000 x372001 x372002 x372003)
noncomputable def laws_FnExactCellPut.fv (l0_0 : List (S42)) (l0_1 : List (S72)) (a0_2 : Int) (a0_3 : Int) (a1 : Int) (a2 : ByteArray) (a3_0 : Int) (a3_1 : Int) (a3_2 : ByteArray) : Option (Bool) := limOf (fun k => laws_FnExactCellPut.f k l0_0 l0_1 a0_2 a0_3 a1 a2 a3_0 a3_1 a3_2)
theorem laws_FnExactCellPut.f_lim (l0_0 : List (S42)) (l0_1 : List (S72)) (a0_2 : Int) (a0_3 : Int) (a1 : Int) (a2 : ByteArray) (a3_0 : Int) (a3_1 : Int) (a3_2 : ByteArray) : Lim (fun k => laws_FnExactCellPut.f k l0_0 l0_1 a0_2 a0_3 a1 a2 a3_0 a3_1 a3_2) (laws_FnExactCellPut.fv l0_0 l0_1 a0_2 a0_3 a1 a2 a3_0 a3_1 a3_2) := Lim.of (fun k => laws_FnExactCellPut.mono l0_0 l0_1 a0_2 a0_3 a1 a2 a3_0 a3_1 a3_2 k)
set_option maxHeartbeats 4000000 in
theorem laws_FnExactCellPut.j0v_eq (x1 : Int) (x2 : ByteArray) (x11 : Bool) (x14 : Bool) (x62 : Bool) (x326000 : List (S42)) (x326001 : List (S72)) (x326002 : Int) (x326003 : Int) (x327000 : Int) (x327001 : Int) (x327002 : ByteArray) (x350000 : List (S46)) (x350001 : List (S58)) (x350002 : Int) (x350003 : Int) (x359000 : List (S46)) (x359001 : List (S58)) (x359002 : Int) (x359003 : Int) (x372000 : List (S46)) (x372001 : List (S58)) (x372002 : Int) (x372003 : Int) : laws_FnExactCellPut.j0v x1 x2 x11 x14 x62 x326000 x326001 x326002 x326003 x327000 x327001 x327002 x350000 x350001 x350002 x350003 x359000 x359001 x359002 x359003 x372000 x372001 x372002 x372003 = (if x62 = true then (some false) else ((laws_toState.fv x326000 x326001 x326002 x326003).bind fun bt373 => ((laws_eqState.fv x359000 x359001 x359002 x359003 bt373.1 bt373.2.1 bt373.2.2.1 bt373.2.2.2).bind fun t381 => (if t381 = true then ((laws_markState.fv x359000 x359001 x359002 x359003 1).bind fun bt382 => (if bt382.1 < 0 then (laws_FnExactCellPut.j1v x1 x2 x11 true x326000 x326001 x326002 x326003 x327000 x327001 x327002 x350000 x350001 x350002 x350003 x372000 x372001 x372002 x372003) else ((laws_eqState.fv x372000 x372001 x372002 x372003 x350000 x350001 x350002 x350003).bind fun t385 => (if t385 = true then (laws_FnExactCellPut.j1v x1 x2 x11 (x14 != x11) x326000 x326001 x326002 x326003 x327000 x327001 x327002 x350000 x350001 x350002 x350003 x372000 x372001 x372002 x372003) else (laws_FnExactCellPut.j1v x1 x2 x11 true x326000 x326001 x326002 x326003 x327000 x327001 x327002 x350000 x350001 x350002 x350003 x372000 x372001 x372002 x372003))))) else (some false))))) := by
  refine Lim.succ (laws_FnExactCellPut.j0_lim x1 x2 x11 x14 x62 x326000 x326001 x326002 x326003 x327000 x327001 x327002 x350000 x350001 x350002 x350003 x359000 x359001 x359002 x359003 x372000 x372001 x372002 x372003) ?_
  simp only [laws_FnExactCellPut.j0]
  repeat' first
    | (with_reducible apply laws_FnExactCellPut.j1_lim)
    | (with_reducible apply laws_eqState.f_lim)
    | (with_reducible apply laws_markState.f_lim)
    | (with_reducible apply laws_toState.f_lim)
    | (with_reducible exact Lim.const _)
    | (with_reducible refine Lim.ite ?_ ?_)
    | (with_reducible refine Lim.bind ?_ (fun _ => ?_))
    | apply laws_FnExactCellPut.j1_lim
    | apply laws_eqState.f_lim
    | apply laws_markState.f_lim
    | apply laws_toState.f_lim
    | exact Lim.const _
    | refine Lim.ite ?_ ?_
    | refine Lim.bind ?_ (fun _ => ?_)
set_option maxHeartbeats 4000000 in
theorem laws_FnExactCellPut.j1v_eq (x1 : Int) (x2 : ByteArray) (x11 : Bool) (x83 : Bool) (x326000 : List (S42)) (x326001 : List (S72)) (x326002 : Int) (x326003 : Int) (x327000 : Int) (x327001 : Int) (x327002 : ByteArray) (x350000 : List (S46)) (x350001 : List (S58)) (x350002 : Int) (x350003 : Int) (x372000 : List (S46)) (x372001 : List (S58)) (x372002 : Int) (x372003 : Int) : laws_FnExactCellPut.j1v x1 x2 x11 x83 x326000 x326001 x326002 x326003 x327000 x327001 x327002 x350000 x350001 x350002 x350003 x372000 x372001 x372002 x372003 = (if x83 = true then (some false) else ((laws_markState.fv x372000 x372001 x372002 x372003 1).bind fun bt386 => ((laws_heldState.fv bt386.2.1 bt386.2.2 x372002 x372003 1).bind fun t389 => (if t389 < 0 then (some false) else (if t389 = bt386.1 then ((laws_toState.fv x326000 x326001 x326002 x326003).bind fun bt390 => ((laws_toVal.f x327000 x327001 x327002).bind fun bt398 => ((impl_CellPut.fv bt390.1 bt390.2.1 bt390.2.2.1 bt390.2.2.2 x1 x2 bt398.1 bt398.2.1 bt398.2.2).bind fun bt401 => ((laws_eqState.fv bt401.1 bt401.2.1 bt401.2.2.1 bt401.2.2.2.1 x350000 x350001 x350002 x350003).bind fun t411 => (if t411 = true then (laws_FnExactCellPut.j2v bt386.1 (bt401.2.2.2.2 != x11) bt386.2.1 bt386.2.2 x372002 x372003) else (laws_FnExactCellPut.j2v bt386.1 true bt386.2.1 bt386.2.2 x372002 x372003)))))) else (some false)))))) := by
  refine Lim.succ (laws_FnExactCellPut.j1_lim x1 x2 x11 x83 x326000 x326001 x326002 x326003 x327000 x327001 x327002 x350000 x350001 x350002 x350003 x372000 x372001 x372002 x372003) ?_
  simp only [laws_FnExactCellPut.j1]
  repeat' first
    | (with_reducible apply impl_CellPut.f_lim)
    | (with_reducible apply laws_FnExactCellPut.j2_lim)
    | (with_reducible apply laws_eqState.f_lim)
    | (with_reducible apply laws_heldState.f_lim)
    | (with_reducible apply laws_markState.f_lim)
    | (with_reducible apply laws_toState.f_lim)
    | (with_reducible exact Lim.const _)
    | (with_reducible refine Lim.ite ?_ ?_)
    | (with_reducible refine Lim.bind ?_ (fun _ => ?_))
    | apply impl_CellPut.f_lim
    | apply laws_FnExactCellPut.j2_lim
    | apply laws_eqState.f_lim
    | apply laws_heldState.f_lim
    | apply laws_markState.f_lim
    | apply laws_toState.f_lim
    | exact Lim.const _
    | refine Lim.ite ?_ ?_
    | refine Lim.bind ?_ (fun _ => ?_)
set_option maxHeartbeats 4000000 in
theorem laws_FnExactCellPut.j2v_eq (x16 : Int) (x113 : Bool) (x372000 : List (S46)) (x372001 : List (S58)) (x372002 : Int) (x372003 : Int) : laws_FnExactCellPut.j2v x16 x113 x372000 x372001 x372002 x372003 = (if x113 = true then (some false) else ((laws_heldState.fv x372000 x372001 x372002 x372003 1).bind fun t412 => (if t412 < 0 then (some false) else (if t412 = x16 then (some true) else (some false))))) := by
  refine Lim.succ (laws_FnExactCellPut.j2_lim x16 x113 x372000 x372001 x372002 x372003) ?_
  simp only [laws_FnExactCellPut.j2]
  repeat' first
    | (with_reducible apply laws_heldState.f_lim)
    | (with_reducible exact Lim.const _)
    | (with_reducible refine Lim.ite ?_ ?_)
    | (with_reducible refine Lim.bind ?_ (fun _ => ?_))
    | apply laws_heldState.f_lim
    | exact Lim.const _
    | refine Lim.ite ?_ ?_
    | refine Lim.bind ?_ (fun _ => ?_)
set_option maxHeartbeats 4000000 in
theorem laws_FnExactCellPut.fv_eq (l0_0 : List (S42)) (l0_1 : List (S72)) (a0_2 : Int) (a0_3 : Int) (a1 : Int) (a2 : ByteArray) (a3_0 : Int) (a3_1 : Int) (a3_2 : ByteArray) : laws_FnExactCellPut.fv l0_0 l0_1 a0_2 a0_3 a1 a2 a3_0 a3_1 a3_2 = (if (a2.size : Int) > 1048576 then (some true) else ((laws_szState.fv l0_0 l0_1 a0_2 a0_3 1048576).bind fun t327 => (if t327 < 0 then (some true) else ((laws_szVal.f a3_0 a3_1 a3_2 t327).bind fun t328 => (if t328 < 0 then (some true) else ((laws_toState.fv l0_0 l0_1 a0_2 a0_3).bind fun bt329 => ((laws_toVal.f a3_0 a3_1 a3_2).bind fun bt337 => ((spec_CellPut.fv bt329.1 bt329.2.1 bt329.2.2.1 bt329.2.2.2 a1 a2 bt337.1 bt337.2.1 bt337.2.2).bind fun bt340 => ((laws_toState.fv l0_0 l0_1 a0_2 a0_3).bind fun bt350 => ((laws_toVal.f a3_0 a3_1 a3_2).bind fun bt359 => ((impl_CellPut.fv bt350.1 bt350.2.1 bt350.2.2.1 bt350.2.2.2 a1 a2 bt359.1 bt359.2.1 bt359.2.2).bind fun bt362 => ((laws_eqState.fv bt362.1 bt362.2.1 bt362.2.2.1 bt362.2.2.2.1 bt340.1 bt340.2.1 bt340.2.2.1 bt340.2.2.2.1).bind fun t372 => (if t372 = true then (laws_FnExactCellPut.j0v a1 a2 bt340.2.2.2.2 bt362.2.2.2.2 (bt362.2.2.2.2 != bt340.2.2.2.2) l0_0 l0_1 a0_2 a0_3 a3_0 a3_1 a3_2 bt340.1 bt340.2.1 bt340.2.2.1 bt340.2.2.2.1 bt350.1 bt350.2.1 bt350.2.2.1 bt350.2.2.2 bt362.1 bt362.2.1 bt362.2.2.1 bt362.2.2.2.1) else (laws_FnExactCellPut.j0v a1 a2 bt340.2.2.2.2 bt362.2.2.2.2 true l0_0 l0_1 a0_2 a0_3 a3_0 a3_1 a3_2 bt340.1 bt340.2.1 bt340.2.2.1 bt340.2.2.2.1 bt350.1 bt350.2.1 bt350.2.2.1 bt350.2.2.2 bt362.1 bt362.2.1 bt362.2.2.1 bt362.2.2.2.1)))))))))))))) := by
  refine Lim.eq (laws_FnExactCellPut.f_lim l0_0 l0_1 a0_2 a0_3 a1 a2 a3_0 a3_1 a3_2) ?_
  simp only [laws_FnExactCellPut.f]
  repeat' first
    | (with_reducible apply impl_CellPut.f_lim)
    | (with_reducible apply laws_FnExactCellPut.j0_lim)
    | (with_reducible apply laws_eqState.f_lim)
    | (with_reducible apply laws_szState.f_lim)
    | (with_reducible apply laws_toState.f_lim)
    | (with_reducible apply spec_CellPut.f_lim)
    | (with_reducible exact Lim.const _)
    | (with_reducible refine Lim.ite ?_ ?_)
    | (with_reducible refine Lim.bind ?_ (fun _ => ?_))
    | apply impl_CellPut.f_lim
    | apply laws_FnExactCellPut.j0_lim
    | apply laws_eqState.f_lim
    | apply laws_szState.f_lim
    | apply laws_toState.f_lim
    | apply spec_CellPut.f_lim
    | exact Lim.const _
    | refine Lim.ite ?_ ?_
    | refine Lim.bind ?_ (fun _ => ?_)

end Go.Proofs.Ytehefologhfdhaa.QFnExactCellPut
