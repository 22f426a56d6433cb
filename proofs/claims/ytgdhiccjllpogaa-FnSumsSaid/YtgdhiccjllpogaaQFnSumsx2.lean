/- Written by wip/pr2, a program of this session. -/
import Derived.Test.YtgdhiccjllpogaaQFnSumsx0
import Derived.Test.YtgdhiccjllpogaaQFnSumsx1
import Derived.Test.YtgdhiccjllpogaaLim
namespace Go.Proofs.Ytgdhiccjllpogaa.QFnSums
open Go.RowKit Go.Proofs.YtgdhiccjllpogaaW.PrintWords Go.Proofs.YtgdhiccjllpogaaW.PrintLast Go.Proofs.YtgdhiccjllpogaaW.PrintMore
attribute [local go_sem] max2_int min2_int max_two min_two max_three min_three max_four min_four   -- for this text's walks alone
set_option linter.unusedVariables false
set_option linter.unusedSimpArgs false
set_option maxHeartbeats 8000000

open Go.Proofs.YtgdhiccjllpogaaW.Lims
/-! ### laws_FnSums -/
mutual
def laws_FnSums.j0 : Nat → List Int → Int → Int → Int → Bool → Bool → Option (Bool)
  | 0, _, _, _, _, _, _ => none
  | k + 1, x0, x3, x4, x5, x6, x61 => if x61 = true then (some false) else (if x6 = true then ((impl_DecSub.f x5 x4).bind fun bt252 => (if bt252.2 = true then (if bt252.1 = x3 then (laws_FnSums.j1 k x0 x3) else (some false)) else (some false))) else (laws_FnSums.j1 k x0 x3))
def laws_FnSums.j1 : Nat → List Int → Int → Option (Bool)
  | 0, _, _ => none
  | k + 1, x0, x3 => (spec_DrawDecMul.f k x0).bind fun bt254 => ((impl_DecMul.f k bt254.1 bt254.2).bind fun bt256 => ((impl_DecMul.f k bt254.2 bt254.1).bind fun bt258 => ((spec_DecMul.f k bt254.1 bt254.2).bind fun bt260 => (if (bt256.2 != bt258.2) = true then (laws_FnSums.j2 k x0 x3 true) else (if (bt256.2 != bt260.2) = true then (laws_FnSums.j2 k x0 x3 true) else (if bt256.1 = bt258.1 then (laws_FnSums.j2 k x0 x3 (bt256.1 != bt260.1)) else (laws_FnSums.j2 k x0 x3 true)))))))
def laws_FnSums.j2 : Nat → List Int → Int → Bool → Option (Bool)
  | 0, _, _, _ => none
  | k + 1, x0, x3, x116 => if x116 = true then (some false) else ((spec_DrawDecDiv.f k x0).bind fun bt262 => ((impl_DecDiv.f bt262.1 bt262.2).bind fun bt264 => ((spec_DecDiv.f bt262.1 bt262.2).bind fun bt266 => ((spec_DrawDecSub.f k x0).bind fun bt268 => ((impl_DecSub.f bt268.1 bt268.2).bind fun bt270 => ((spec_DecSub.f bt268.1 bt268.2).bind fun bt272 => ((spec_DrawDecInt.f k x0).bind fun t274 => ((spec_DrawDecOk.f k x0).bind fun t275 => (if (bt264.2 != bt266.2) = true then (laws_FnSums.j3 k x3 t274 true) else (if bt264.1 = bt266.1 then (if (bt270.2 != bt272.2) = true then (laws_FnSums.j3 k x3 t274 true) else (if bt270.1 = bt272.1 then ((impl_DecInt.f t274).bind fun t276 => ((spec_DecInt.f t274).bind fun t277 => (if t276 = t277 then ((impl_DecOk.f t275).bind fun t278 => ((spec_DecOk.f t275).bind fun t279 => (laws_FnSums.j3 k x3 t274 (t278 != t279)))) else (laws_FnSums.j3 k x3 t274 true)))) else (laws_FnSums.j3 k x3 t274 true))) else (laws_FnSums.j3 k x3 t274 true)))))))))))
def laws_FnSums.j3 : Nat → Int → Int → Bool → Option (Bool)
  | 0, _, _, _ => none
  | k + 1, x3, x31, x186 => if x186 = true then (some false) else ((impl_DecDiv.f x3 1000000).bind fun bt280 => ((impl_DecOk.f x3).bind fun t282 => (if (bt280.2 == t282) = true then (if bt280.2 = true then (if bt280.1 = x3 then ((impl_DecInt.f x31).bind fun t283 => ((impl_DecInt.f t283).bind fun t284 => ((impl_DecInt.f x31).bind fun t285 => (some (t284 == t285))))) else (some false)) else ((impl_DecInt.f x31).bind fun t286 => ((impl_DecInt.f t286).bind fun t287 => ((impl_DecInt.f x31).bind fun t288 => (some (t287 == t288)))))) else (some false))))
end
def laws_FnSums.f (k : Nat) (l0 : List Int) : Option (Bool) := (laws_big.f l0).bind fun t245 => (if t245 = true then (some true) else ((spec_DrawDecAdd.f k l0).bind fun bt246 => ((impl_DecAdd.f bt246.1 bt246.2).bind fun bt248 => ((spec_DecAdd.f bt246.1 bt246.2).bind fun bt250 => (if (bt248.2 != bt250.2) = true then (laws_FnSums.j0 k l0 bt246.1 bt246.2 bt248.1 bt248.2 true) else (laws_FnSums.j0 k l0 bt246.1 bt246.2 bt248.1 bt248.2 (bt248.1 != bt250.1)))))))
theorem laws_FnSums.mono_l : ∀ k, (∀ y0 y1 y2 y3 y4 y5, LeO (laws_FnSums.j0 k y0 y1 y2 y3 y4 y5) (laws_FnSums.j0 (k + 1) y0 y1 y2 y3 y4 y5)) ∧ (∀ y0 y1, LeO (laws_FnSums.j1 k y0 y1) (laws_FnSums.j1 (k + 1) y0 y1)) ∧ (∀ y0 y1 y2, LeO (laws_FnSums.j2 k y0 y1 y2) (laws_FnSums.j2 (k + 1) y0 y1 y2)) ∧ (∀ y0 y1 y2, LeO (laws_FnSums.j3 k y0 y1 y2) (laws_FnSums.j3 (k + 1) y0 y1 y2))
  | 0 => ⟨fun _ _ _ _ _ _ r h => by simp [laws_FnSums.j0] at h, fun _ _ r h => by simp [laws_FnSums.j1] at h, fun _ _ _ r h => by simp [laws_FnSums.j2] at h, fun _ _ _ r h => by simp [laws_FnSums.j3] at h⟩
  | k + 1 => by
    obtain ⟨ih0, ih1, ih2, ih3⟩ := laws_FnSums.mono_l k
    refine ⟨?_, ?_, ?_, ?_⟩
    · intro y0 y1 y2 y3 y4 y5
      unfold laws_FnSums.j0
      repeat' first
      | (with_reducible exact ih0 _ _ _ _ _ _)
      | (with_reducible exact ih1 _ _)
      | (with_reducible exact ih2 _ _ _)
      | (with_reducible exact ih3 _ _ _)
      | (with_reducible exact impl_DecMul.mono _ _ _)
      | (with_reducible exact spec_DecMul.mono _ _ _)
      | (with_reducible exact spec_DrawDecAdd.mono _ _)
      | (with_reducible exact spec_DrawDecDiv.mono _ _)
      | (with_reducible exact spec_DrawDecInt.mono _ _)
      | (with_reducible exact spec_DrawDecMul.mono _ _)
      | (with_reducible exact spec_DrawDecOk.mono _ _)
      | (with_reducible exact spec_DrawDecSub.mono _ _)
      | (with_reducible exact LeO.refl _)
      | (with_reducible exact LeO.none _)
      | (with_reducible refine LeO.ite ?_ ?_)
      | (with_reducible refine LeO.bind ?_ (fun _ => ?_))
      | exact ih0 _ _ _ _ _ _
      | exact ih1 _ _
      | exact ih2 _ _ _
      | exact ih3 _ _ _
      | exact impl_DecMul.mono _ _ _
      | exact spec_DecMul.mono _ _ _
      | exact spec_DrawDecAdd.mono _ _
      | exact spec_DrawDecDiv.mono _ _
      | exact spec_DrawDecInt.mono _ _
      | exact spec_DrawDecMul.mono _ _
      | exact spec_DrawDecOk.mono _ _
      | exact spec_DrawDecSub.mono _ _
      | exact LeO.none _
      | refine LeO.ite ?_ ?_
      | refine LeO.bind ?_ (fun _ => ?_)
    · intro y0 y1
      unfold laws_FnSums.j1
      repeat' first
      | (with_reducible exact ih0 _ _ _ _ _ _)
      | (with_reducible exact ih1 _ _)
      | (with_reducible exact ih2 _ _ _)
      | (with_reducible exact ih3 _ _ _)
      | (with_reducible exact impl_DecMul.mono _ _ _)
      | (with_reducible exact spec_DecMul.mono _ _ _)
      | (with_reducible exact spec_DrawDecAdd.mono _ _)
      | (with_reducible exact spec_DrawDecDiv.mono _ _)
      | (with_reducible exact spec_DrawDecInt.mono _ _)
      | (with_reducible exact spec_DrawDecMul.mono _ _)
      | (with_reducible exact spec_DrawDecOk.mono _ _)
      | (with_reducible exact spec_DrawDecSub.mono _ _)
      | (with_reducible exact LeO.refl _)
      | (with_reducible exact LeO.none _)
      | (with_reducible refine LeO.ite ?_ ?_)
      | (with_reducible refine LeO.bind ?_ (fun _ => ?_))
      | exact ih0 _ _ _ _ _ _
      | exact ih1 _ _
      | exact ih2 _ _ _
      | exact ih3 _ _ _
      | exact impl_DecMul.mono _ _ _
      | exact spec_DecMul.mono _ _ _
      | exact spec_DrawDecAdd.mono _ _
      | exact spec_DrawDecDiv.mono _ _
      | exact spec_DrawDecInt.mono _ _
      | exact spec_DrawDecMul.mono _ _
      | exact spec_DrawDecOk.mono _ _
      | exact spec_DrawDecSub.mono _ _
      | exact LeO.none _
      | refine LeO.ite ?_ ?_
      | refine LeO.bind ?_ (fun _ => ?_)
    · intro y0 y1 y2
      unfold laws_FnSums.j2
      repeat' first
      | (with_reducible exact ih0 _ _ _ _ _ _)
      | (with_reducible exact ih1 _ _)
      | (with_reducible exact ih2 _ _ _)
      | (with_reducible exact ih3 _ _ _)
      | (with_reducible exact impl_DecMul.mono _ _ _)
      | (with_reducible exact spec_DecMul.mono _ _ _)
      | (with_reducible exact spec_DrawDecAdd.mono _ _)
      | (with_reducible exact spec_DrawDecDiv.mono _ _)
      | (with_reducible exact spec_DrawDecInt.mono _ _)
      | (with_reducible exact spec_DrawDecMul.mono _ _)
      | (with_reducible exact spec_DrawDecOk.mono _ _)
      | (with_reducible exact spec_DrawDecSub.mono _ _)
      | (with_reducible exact LeO.refl _)
      | (with_reducible exact LeO.none _)
      | (with_reducible refine LeO.ite ?_ ?_)
      | (with_reducible refine LeO.bind ?_ (fun _ => ?_))
      | exact ih0 _ _ _ _ _ _
      | exact ih1 _ _
      | exact ih2 _ _ _
      | exact ih3 _ _ _
      | exact impl_DecMul.mono _ _ _
      | exact spec_DecMul.mono _ _ _
      | exact spec_DrawDecAdd.mono _ _
      | exact spec_DrawDecDiv.mono _ _
      | exact spec_DrawDecInt.mono _ _
      | exact spec_DrawDecMul.mono _ _
      | exact spec_DrawDecOk.mono _ _
      | exact spec_DrawDecSub.mono _ _
      | exact LeO.none _
      | refine LeO.ite ?_ ?_
      | refine LeO.bind ?_ (fun _ => ?_)
    · intro y0 y1 y2
      unfold laws_FnSums.j3
      repeat' first
      | (with_reducible exact ih0 _ _ _ _ _ _)
      | (with_reducible exact ih1 _ _)
      | (with_reducible exact ih2 _ _ _)
      | (with_reducible exact ih3 _ _ _)
      | (with_reducible exact impl_DecMul.mono _ _ _)
      | (with_reducible exact spec_DecMul.mono _ _ _)
      | (with_reducible exact spec_DrawDecAdd.mono _ _)
      | (with_reducible exact spec_DrawDecDiv.mono _ _)
      | (with_reducible exact spec_DrawDecInt.mono _ _)
      | (with_reducible exact spec_DrawDecMul.mono _ _)
      | (with_reducible exact spec_DrawDecOk.mono _ _)
      | (with_reducible exact spec_DrawDecSub.mono _ _)
      | (with_reducible exact LeO.refl _)
      | (with_reducible exact LeO.none _)
      | (with_reducible refine LeO.ite ?_ ?_)
      | (with_reducible refine LeO.bind ?_ (fun _ => ?_))
      | exact ih0 _ _ _ _ _ _
      | exact ih1 _ _
      | exact ih2 _ _ _
      | exact ih3 _ _ _
      | exact impl_DecMul.mono _ _ _
      | exact spec_DecMul.mono _ _ _
      | exact spec_DrawDecAdd.mono _ _
      | exact spec_DrawDecDiv.mono _ _
      | exact spec_DrawDecInt.mono _ _
      | exact spec_DrawDecMul.mono _ _
      | exact spec_DrawDecOk.mono _ _
      | exact spec_DrawDecSub.mono _ _
      | exact LeO.none _
      | refine LeO.ite ?_ ?_
      | refine LeO.bind ?_ (fun _ => ?_)
theorem laws_FnSums.mono : ∀ a0 k, LeO (laws_FnSums.f k a0) (laws_FnSums.f (k + 1) a0) := by
  intro a0 k
  obtain ⟨ih0, ih1, ih2, ih3⟩ := laws_FnSums.mono_l k
  unfold laws_FnSums.f
  repeat' first
      | (with_reducible exact ih0 _ _ _ _ _ _)
      | (with_reducible exact ih1 _ _)
      | (with_reducible exact ih2 _ _ _)
      | (with_reducible exact ih3 _ _ _)
      | (with_reducible exact impl_DecMul.mono _ _ _)
      | (with_reducible exact spec_DecMul.mono _ _ _)
      | (with_reducible exact spec_DrawDecAdd.mono _ _)
      | (with_reducible exact spec_DrawDecDiv.mono _ _)
      | (with_reducible exact spec_DrawDecInt.mono _ _)
      | (with_reducible exact spec_DrawDecMul.mono _ _)
      | (with_reducible exact spec_DrawDecOk.mono _ _)
      | (with_reducible exact spec_DrawDecSub.mono _ _)
      | (with_reducible exact LeO.refl _)
      | (with_reducible exact LeO.none _)
      | (with_reducible refine LeO.ite ?_ ?_)
      | (with_reducible refine LeO.bind ?_ (fun _ => ?_))
      | exact ih0 _ _ _ _ _ _
      | exact ih1 _ _
      | exact ih2 _ _ _
      | exact ih3 _ _ _
      | exact impl_DecMul.mono _ _ _
      | exact spec_DecMul.mono _ _ _
      | exact spec_DrawDecAdd.mono _ _
      | exact spec_DrawDecDiv.mono _ _
      | exact spec_DrawDecInt.mono _ _
      | exact spec_DrawDecMul.mono _ _
      | exact spec_DrawDecOk.mono _ _
      | exact spec_DrawDecSub.mono _ _
      | exact LeO.none _
      | refine LeO.ite ?_ ?_
      | refine LeO.bind ?_ (fun _ => ?_)
noncomputable def laws_FnSums.j0v (x0 : List Int) (x3 : Int) (x4 : Int) (x5 : Int) (x6 : Bool) (x61 : Bool) : Option (Bool) := limOf (fun k => laws_FnSums.j0 k x0 x3 x4 x5 x6 x61)
theorem laws_FnSums.j0_lim (x0 : List Int) (x3 : Int) (x4 : Int) (x5 : Int) (x6 : Bool) (x61 : Bool) : Lim (fun k => laws_FnSums.j0 k x0 x3 x4 x5 x6 x61) (laws_FnSums.j0v x0 x3 x4 x5 x6 x61) := Lim.of (fun k => (laws_FnSums.mono_l k).1 x0 x3 x4 x5 x6 x61)
noncomputable def laws_FnSums.j1v (x0 : List Int) (x3 : Int) : Option (Bool) := limOf (fun k => laws_FnSums.j1 k x0 x3)
theorem laws_FnSums.j1_lim (x0 : List Int) (x3 : Int) : Lim (fun k => laws_FnSums.j1 k x0 x3) (laws_FnSums.j1v x0 x3) := Lim.of (fun k => (laws_FnSums.mono_l k).2.1 x0 x3)
noncomputable def laws_FnSums.j2v (x0 : List Int) (x3 : Int) (x116 : Bool) : Option (Bool) := limOf (fun k => laws_FnSums.j2 k x0 x3 x116)
theorem laws_FnSums.j2_lim (x0 : List Int) (x3 : Int) (x116 : Bool) : Lim (fun k => laws_FnSums.j2 k x0 x3 x116) (laws_FnSums.j2v x0 x3 x116) := Lim.of (fun k => (laws_FnSums.mono_l k).2.2.1 x0 x3 x116)
noncomputable def laws_FnSums.j3v (x3 : Int) (x31 : Int) (x186 : Bool) : Option (Bool) := limOf (fun k => laws_FnSums.j3 k x3 x31 x186)
theorem laws_FnSums.j3_lim (x3 : Int) (x31 : Int) (x186 : Bool) : Lim (fun k => laws_FnSums.j3 k x3 x31 x186) (laws_FnSums.j3v x3 x31 x186) := Lim.of (fun k => (laws_FnSums.mono_l k).2.2.2 x3 x31 x186)
noncomputable def laws_FnSums.fv (l0 : List Int) : Option (Bool) := limOf (fun k => laws_FnSums.f k l0)
theorem laws_FnSums.f_lim (l0 : List Int) : Lim (fun k => laws_FnSums.f k l0) (laws_FnSums.fv l0) := Lim.of (fun k => laws_FnSums.mono l0 k)
set_option maxHeartbeats 4000000 in
theorem laws_FnSums.j0v_eq (x0 : List Int) (x3 : Int) (x4 : Int) (x5 : Int) (x6 : Bool) (x61 : Bool) : laws_FnSums.j0v x0 x3 x4 x5 x6 x61 = (if x61 = true then (some false) else (if x6 = true then ((impl_DecSub.f x5 x4).bind fun bt252 => (if bt252.2 = true then (if bt252.1 = x3 then (laws_FnSums.j1v x0 x3) else (some false)) else (some false))) else (laws_FnSums.j1v x0 x3))) := by
  refine Lim.succ (laws_FnSums.j0_lim x0 x3 x4 x5 x6 x61) ?_
  simp only [laws_FnSums.j0]
  repeat' first
    | (with_reducible apply laws_FnSums.j1_lim)
    | (with_reducible exact Lim.const _)
    | (with_reducible refine Lim.ite ?_ ?_)
    | (with_reducible refine Lim.bind ?_ (fun _ => ?_))
    | apply laws_FnSums.j1_lim
    | exact Lim.const _
    | refine Lim.ite ?_ ?_
    | refine Lim.bind ?_ (fun _ => ?_)
set_option maxHeartbeats 4000000 in
theorem laws_FnSums.j1v_eq (x0 : List Int) (x3 : Int) : laws_FnSums.j1v x0 x3 = ((spec_DrawDecMul.fv x0).bind fun bt254 => ((impl_DecMul.fv bt254.1 bt254.2).bind fun bt256 => ((impl_DecMul.fv bt254.2 bt254.1).bind fun bt258 => ((spec_DecMul.fv bt254.1 bt254.2).bind fun bt260 => (if (bt256.2 != bt258.2) = true then (laws_FnSums.j2v x0 x3 true) else (if (bt256.2 != bt260.2) = true then (laws_FnSums.j2v x0 x3 true) else (if bt256.1 = bt258.1 then (laws_FnSums.j2v x0 x3 (bt256.1 != bt260.1)) else (laws_FnSums.j2v x0 x3 true)))))))) := by
  refine Lim.succ (laws_FnSums.j1_lim x0 x3) ?_
  simp only [laws_FnSums.j1]
  repeat' first
    | (with_reducible apply impl_DecMul.f_lim)
    | (with_reducible apply laws_FnSums.j2_lim)
    | (with_reducible apply spec_DecMul.f_lim)
    | (with_reducible apply spec_DrawDecMul.f_lim)
    | (with_reducible exact Lim.const _)
    | (with_reducible refine Lim.ite ?_ ?_)
    | (with_reducible refine Lim.bind ?_ (fun _ => ?_))
    | apply impl_DecMul.f_lim
    | apply laws_FnSums.j2_lim
    | apply spec_DecMul.f_lim
    | apply spec_DrawDecMul.f_lim
    | exact Lim.const _
    | refine Lim.ite ?_ ?_
    | refine Lim.bind ?_ (fun _ => ?_)
set_option maxHeartbeats 4000000 in
theorem laws_FnSums.j2v_eq (x0 : List Int) (x3 : Int) (x116 : Bool) : laws_FnSums.j2v x0 x3 x116 = (if x116 = true then (some false) else ((spec_DrawDecDiv.fv x0).bind fun bt262 => ((impl_DecDiv.f bt262.1 bt262.2).bind fun bt264 => ((spec_DecDiv.f bt262.1 bt262.2).bind fun bt266 => ((spec_DrawDecSub.fv x0).bind fun bt268 => ((impl_DecSub.f bt268.1 bt268.2).bind fun bt270 => ((spec_DecSub.f bt268.1 bt268.2).bind fun bt272 => ((spec_DrawDecInt.fv x0).bind fun t274 => ((spec_DrawDecOk.fv x0).bind fun t275 => (if (bt264.2 != bt266.2) = true then (laws_FnSums.j3v x3 t274 true) else (if bt264.1 = bt266.1 then (if (bt270.2 != bt272.2) = true then (laws_FnSums.j3v x3 t274 true) else (if bt270.1 = bt272.1 then ((impl_DecInt.f t274).bind fun t276 => ((spec_DecInt.f t274).bind fun t277 => (if t276 = t277 then ((impl_DecOk.f t275).bind fun t278 => ((spec_DecOk.f t275).bind fun t279 => (laws_FnSums.j3v x3 t274 (t278 != t279)))) else (laws_FnSums.j3v x3 t274 true)))) else (laws_FnSums.j3v x3 t274 true))) else (laws_FnSums.j3v x3 t274 true)))))))))))) := by
  refine Lim.succ (laws_FnSums.j2_lim x0 x3 x116) ?_
  simp only [laws_FnSums.j2]
  repeat' first
    | (with_reducible apply laws_FnSums.j3_lim)
    | (with_reducible apply spec_DrawDecDiv.f_lim)
    | (with_reducible apply spec_DrawDecInt.f_lim)
    | (with_reducible apply spec_DrawDecOk.f_lim)
    | (with_reducible apply spec_DrawDecSub.f_lim)
    | (with_reducible exact Lim.const _)
    | (with_reducible refine Lim.ite ?_ ?_)
    | (with_reducible refine Lim.bind ?_ (fun _ => ?_))
    | apply laws_FnSums.j3_lim
    | apply spec_DrawDecDiv.f_lim
    | apply spec_DrawDecInt.f_lim
    | apply spec_DrawDecOk.f_lim
    | apply spec_DrawDecSub.f_lim
    | exact Lim.const _
    | refine Lim.ite ?_ ?_
    | refine Lim.bind ?_ (fun _ => ?_)
set_option maxHeartbeats 4000000 in
theorem laws_FnSums.j3v_eq (x3 : Int) (x31 : Int) (x186 : Bool) : laws_FnSums.j3v x3 x31 x186 = (if x186 = true then (some false) else ((impl_DecDiv.f x3 1000000).bind fun bt280 => ((impl_DecOk.f x3).bind fun t282 => (if (bt280.2 == t282) = true then (if bt280.2 = true then (if bt280.1 = x3 then ((impl_DecInt.f x31).bind fun t283 => ((impl_DecInt.f t283).bind fun t284 => ((impl_DecInt.f x31).bind fun t285 => (some (t284 == t285))))) else (some false)) else ((impl_DecInt.f x31).bind fun t286 => ((impl_DecInt.f t286).bind fun t287 => ((impl_DecInt.f x31).bind fun t288 => (some (t287 == t288)))))) else (some false))))) := by
  refine Lim.succ (laws_FnSums.j3_lim x3 x31 x186) ?_
  simp only [laws_FnSums.j3]
  repeat' first
    | (with_reducible exact Lim.const _)
    | (with_reducible refine Lim.ite ?_ ?_)
    | (with_reducible refine Lim.bind ?_ (fun _ => ?_))
    | exact Lim.const _
    | refine Lim.ite ?_ ?_
    | refine Lim.bind ?_ (fun _ => ?_)
set_option maxHeartbeats 4000000 in
theorem laws_FnSums.fv_eq (l0 : List Int) : laws_FnSums.fv l0 = ((laws_big.f l0).bind fun t245 => (if t245 = true then (some true) else ((spec_DrawDecAdd.fv l0).bind fun bt246 => ((impl_DecAdd.f bt246.1 bt246.2).bind fun bt248 => ((spec_DecAdd.f bt246.1 bt246.2).bind fun bt250 => (if (bt248.2 != bt250.2) = true then (laws_FnSums.j0v l0 bt246.1 bt246.2 bt248.1 bt248.2 true) else (laws_FnSums.j0v l0 bt246.1 bt246.2 bt248.1 bt248.2 (bt248.1 != bt250.1)))))))) := by
  refine Lim.eq (laws_FnSums.f_lim l0) ?_
  simp only [laws_FnSums.f]
  repeat' first
    | (with_reducible apply laws_FnSums.j0_lim)
    | (with_reducible apply spec_DrawDecAdd.f_lim)
    | (with_reducible exact Lim.const _)
    | (with_reducible refine Lim.ite ?_ ?_)
    | (with_reducible refine Lim.bind ?_ (fun _ => ?_))
    | apply laws_FnSums.j0_lim
    | apply spec_DrawDecAdd.f_lim
    | exact Lim.const _
    | refine Lim.ite ?_ ?_
    | refine Lim.bind ?_ (fun _ => ?_)

end Go.Proofs.Ytgdhiccjllpogaa.QFnSums
