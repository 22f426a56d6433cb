/- Written by wip/pr2, a program of this session. -/
import Derived.Test.YtgdhiccjllpogaaQFnExactNfaOkx0
import Derived.Test.YtgdhiccjllpogaaLim
namespace Go.Proofs.Ytgdhiccjllpogaa.QFnExactNfaOk
open Go.RowKit Go.Proofs.YtgdhiccjllpogaaW.PrintWords Go.Proofs.YtgdhiccjllpogaaW.PrintLast Go.Proofs.YtgdhiccjllpogaaW.PrintMore
attribute [local go_sem] max2_int min2_int max_two min_two max_three min_three max_four min_four   -- for this text's walks alone
set_option linter.unusedVariables false
set_option linter.unusedSimpArgs false

open Go.Proofs.YtgdhiccjllpogaaW.Lims
/-! ### laws_szPlace -/
def laws_szPlace.f (a0_0 : Int) (a0_1 : Int) (a0_2 : ByteArray) (a0_3 : Bool) (a0_4 : Int) (a0_5 : Int) (a1 : Int) : Option (Int) := if (wrap64 (a1 - (a0_2.size : Int))) < 0 then (some (-1)) else (some (wrap64 (a1 - (a0_2.size : Int))))

/-! ### laws_szPlaceS -/
def laws_szPlaceS.l0 : Nat → List (S88) → Int → Int → Option (Int)
  | 0, _, _, _ => none
  | k + 1, x0, x1, x5 => if x5 < (x0.length : Int) then (if 0 ≤ x5 then ((laws_szPlace.f ((rd_T88 x0 x5).f0) ((rd_T88 x0 x5).f1) ((rd_T88 x0 x5).f2) ((rd_T88 x0 x5).f3) ((rd_T88 x0 x5).f4) ((rd_T88 x0 x5).f5) x1).bind fun t103 => (if t103 < 0 then (some (-1)) else (laws_szPlaceS.l0 k x0 t103 (wrap64 (x5 + 1))))) else (none)) else (some x1)
def laws_szPlaceS.f (k : Nat) (l0 : List (S88)) (a1 : Int) : Option (Int) := if (wrap64 (a1 - (l0.length : Int))) < 0 then (some (-1)) else (laws_szPlaceS.l0 k l0 (wrap64 (a1 - (l0.length : Int))) 0)
theorem laws_szPlaceS.mono_l : ∀ k, (∀ y0 y1 y2, LeO (laws_szPlaceS.l0 k y0 y1 y2) (laws_szPlaceS.l0 (k + 1) y0 y1 y2))
  | 0 => fun _ _ _ r h => by simp [laws_szPlaceS.l0] at h
  | k + 1 => by
    have ih0 := laws_szPlaceS.mono_l k
    · intro y0 y1 y2
      unfold laws_szPlaceS.l0
      repeat' first
      | (with_reducible exact ih0 _ _ _)
      | (with_reducible exact LeO.refl _)
      | (with_reducible exact LeO.none _)
      | (with_reducible refine LeO.ite ?_ ?_)
      | (with_reducible refine LeO.bind ?_ (fun _ => ?_))
      | exact ih0 _ _ _
      | exact LeO.none _
      | refine LeO.ite ?_ ?_
      | refine LeO.bind ?_ (fun _ => ?_)
theorem laws_szPlaceS.mono : ∀ a0 a1 k, LeO (laws_szPlaceS.f k a0 a1) (laws_szPlaceS.f (k + 1) a0 a1) := by
  intro a0 a1 k
  have ih0 := laws_szPlaceS.mono_l k
  unfold laws_szPlaceS.f
  repeat' first
      | (with_reducible exact ih0 _ _ _)
      | (with_reducible exact LeO.refl _)
      | (with_reducible exact LeO.none _)
      | (with_reducible refine LeO.ite ?_ ?_)
      | (with_reducible refine LeO.bind ?_ (fun _ => ?_))
      | exact ih0 _ _ _
      | exact LeO.none _
      | refine LeO.ite ?_ ?_
      | refine LeO.bind ?_ (fun _ => ?_)
noncomputable def laws_szPlaceS.l0v (x0 : List (S88)) (x1 : Int) (x5 : Int) : Option (Int) := limOf (fun k => laws_szPlaceS.l0 k x0 x1 x5)
theorem laws_szPlaceS.l0_lim (x0 : List (S88)) (x1 : Int) (x5 : Int) : Lim (fun k => laws_szPlaceS.l0 k x0 x1 x5) (laws_szPlaceS.l0v x0 x1 x5) := Lim.of (fun k => laws_szPlaceS.mono_l k x0 x1 x5)
noncomputable def laws_szPlaceS.fv (l0 : List (S88)) (a1 : Int) : Option (Int) := limOf (fun k => laws_szPlaceS.f k l0 a1)
theorem laws_szPlaceS.f_lim (l0 : List (S88)) (a1 : Int) : Lim (fun k => laws_szPlaceS.f k l0 a1) (laws_szPlaceS.fv l0 a1) := Lim.of (fun k => laws_szPlaceS.mono l0 a1 k)
set_option maxHeartbeats 4000000 in
theorem laws_szPlaceS.l0v_eq (x0 : List (S88)) (x1 : Int) (x5 : Int) : laws_szPlaceS.l0v x0 x1 x5 = (if x5 < (x0.length : Int) then (if 0 ≤ x5 then ((laws_szPlace.f ((rd_T88 x0 x5).f0) ((rd_T88 x0 x5).f1) ((rd_T88 x0 x5).f2) ((rd_T88 x0 x5).f3) ((rd_T88 x0 x5).f4) ((rd_T88 x0 x5).f5) x1).bind fun t103 => (if t103 < 0 then (some (-1)) else (laws_szPlaceS.l0v x0 t103 (wrap64 (x5 + 1))))) else (none)) else (some x1)) := by
  refine Lim.succ (laws_szPlaceS.l0_lim x0 x1 x5) ?_
  simp only [laws_szPlaceS.l0]
  repeat' first
    | (with_reducible apply laws_szPlaceS.l0_lim)
    | (with_reducible exact Lim.const _)
    | (with_reducible refine Lim.ite ?_ ?_)
    | (with_reducible refine Lim.bind ?_ (fun _ => ?_))
    | apply laws_szPlaceS.l0_lim
    | exact Lim.const _
    | refine Lim.ite ?_ ?_
    | refine Lim.bind ?_ (fun _ => ?_)
set_option maxHeartbeats 4000000 in
theorem laws_szPlaceS.fv_eq (l0 : List (S88)) (a1 : Int) : laws_szPlaceS.fv l0 a1 = (if (wrap64 (a1 - (l0.length : Int))) < 0 then (some (-1)) else (laws_szPlaceS.l0v l0 (wrap64 (a1 - (l0.length : Int))) 0)) := by
  refine Lim.eq (laws_szPlaceS.f_lim l0 a1) ?_
  simp only [laws_szPlaceS.f]
  repeat' first
    | (with_reducible apply laws_szPlaceS.l0_lim)
    | (with_reducible exact Lim.const _)
    | (with_reducible refine Lim.ite ?_ ?_)
    | (with_reducible refine Lim.bind ?_ (fun _ => ?_))
    | apply laws_szPlaceS.l0_lim
    | exact Lim.const _
    | refine Lim.ite ?_ ?_
    | refine Lim.bind ?_ (fun _ => ?_)

/-! ### spec_l1In -/
def spec_l1In.f (a0 : Int) (a1 : Int) (a2 : Int) : Option (Bool) := if a0 ≥ a1 then (some (decide (a0 ≤ a2))) else (some false)

/-! ### spec_l4Place -/
mutual
def spec_l4Place.j0 : Nat → Int → Bool → Int → Int → ByteArray → Bool → Int → Int → Option (Bool)
  | 0, _, _, _, _, _, _, _, _ => none
  | k + 1, x1, x5, x105000, x105001, x105002, x105003, x105004, x105005 => if x105000 = 3 then (spec_l4Place.j1 k x1 x5 true x105000 x105001 x105002 x105003 x105004 x105005) else (if x105002.toList = ([] : List UInt8) then (spec_l4Place.j1 k x1 x5 (!x105003) x105000 x105001 x105002 x105003 x105004 x105005) else (spec_l4Place.j1 k x1 x5 false x105000 x105001 x105002 x105003 x105004 x105005))
def spec_l4Place.j1 : Nat → Int → Bool → Bool → Int → Int → ByteArray → Bool → Int → Int → Option (Bool)
  | 0, _, _, _, _, _, _, _, _, _ => none
  | k + 1, x1, x5, x6, x105000, x105001, x105002, x105003, x105004, x105005 => if x105000 = 6 then ((spec_l1In.f x105004 0 (wrap64 (x1 - 1))).bind fun t106 => (if t106 = true then (spec_l4Place.j2 k x1 x5 x6 true x105000 x105001 x105002 x105003 x105004 x105005) else (if x105004 = 0 then (spec_l4Place.j2 k x1 x5 x6 false x105000 x105001 x105002 x105003 x105004 x105005) else (spec_l4Place.j2 k x1 x5 x6 false x105000 x105001 x105002 x105003 x105004 x105005)))) else (if x105000 = 7 then ((spec_l1In.f x105004 0 (wrap64 (x1 - 1))).bind fun t107 => (if t107 = true then (spec_l4Place.j2 k x1 x5 x6 true x105000 x105001 x105002 x105003 x105004 x105005) else (if x105004 = 0 then (spec_l4Place.j2 k x1 x5 x6 (x105000 != 7) x105000 x105001 x105002 x105003 x105004 x105005) else (spec_l4Place.j2 k x1 x5 x6 false x105000 x105001 x105002 x105003 x105004 x105005)))) else (if x105004 = 0 then (spec_l4Place.j2 k x1 x5 x6 (x105000 != 7) x105000 x105001 x105002 x105003 x105004 x105005) else (spec_l4Place.j2 k x1 x5 x6 false x105000 x105001 x105002 x105003 x105004 x105005)))
def spec_l4Place.j2 : Nat → Int → Bool → Bool → Bool → Int → Int → ByteArray → Bool → Int → Int → Option (Bool)
  | 0, _, _, _, _, _, _, _, _, _, _ => none
  | k + 1, x1, x5, x6, x7, x105000, x105001, x105002, x105003, x105004, x105005 => if x105000 = 7 then ((spec_l1In.f x105005 0 (wrap64 (x1 - 1))).bind fun t108 => (if t108 = true then ((spec_l1In.f x105000 1 8).bind fun t109 => (if t109 = true then (if x5 = true then (if x6 = true then (if x7 = true then (some true) else (some false)) else (some false)) else (some false)) else (some false))) else (if x105005 = 0 then ((spec_l1In.f x105000 1 8).bind fun t110 => (if t110 = true then (if x5 = true then (if x6 = true then (if x7 = true then (some (x105000 != 7)) else (some false)) else (some false)) else (some false)) else (some false))) else ((spec_l1In.f x105000 1 8).bind fun t111 => (if t111 = true then (if x5 = true then (if x6 = true then (if x7 = true then (some false) else (some false)) else (some false)) else (some false)) else (some false)))))) else (if x105005 = 0 then ((spec_l1In.f x105000 1 8).bind fun t112 => (if t112 = true then (if x5 = true then (if x6 = true then (if x7 = true then (some (x105000 != 7)) else (some false)) else (some false)) else (some false)) else (some false))) else ((spec_l1In.f x105000 1 8).bind fun t113 => (if t113 = true then (if x5 = true then (if x6 = true then (if x7 = true then (some false) else (some false)) else (some false)) else (some false)) else (some false))))
end
def spec_l4Place.f (k : Nat) (a0_0 : Int) (a0_1 : Int) (a0_2 : ByteArray) (a0_3 : Bool) (a0_4 : Int) (a0_5 : Int) (a1 : Int) : Option (Bool) := (spec_l1In.f a0_1 0 255).bind fun t105 => (if t105 = true then (if a0_0 = 1 then (spec_l4Place.j0 k a1 true a0_0 a0_1 a0_2 a0_3 a0_4 a0_5) else (spec_l4Place.j0 k a1 (a0_1 == 0) a0_0 a0_1 a0_2 a0_3 a0_4 a0_5)) else (spec_l4Place.j0 k a1 (a0_1 == 0) a0_0 a0_1 a0_2 a0_3 a0_4 a0_5))
theorem spec_l4Place.mono_l : ∀ k, (∀ y0 y1 y2 y3 y4 y5 y6 y7, LeO (spec_l4Place.j0 k y0 y1 y2 y3 y4 y5 y6 y7) (spec_l4Place.j0 (k + 1) y0 y1 y2 y3 y4 y5 y6 y7)) ∧ (∀ y0 y1 y2 y3 y4 y5 y6 y7 y8, LeO (spec_l4Place.j1 k y0 y1 y2 y3 y4 y5 y6 y7 y8) (spec_l4Place.j1 (k + 1) y0 y1 y2 y3 y4 y5 y6 y7 y8)) ∧ (∀ y0 y1 y2 y3 y4 y5 y6 y7 y8 y9, LeO (spec_l4Place.j2 k y0 y1 y2 y3 y4 y5 y6 y7 y8 y9) (spec_l4Place.j2 (k + 1) y0 y1 y2 y3 y4 y5 y6 y7 y8 y9))
  | 0 => ⟨fun _ _ _ _ _ _ _ _ r h => by simp [spec_l4Place.j0] at h, fun _ _ _ _ _ _ _ _ _ r h => by simp [spec_l4Place.j1] at h, fun _ _ _ _ _ _ _ _ _ _ r h => by simp [spec_l4Place.j2] at h⟩
  | k + 1 => by
    obtain ⟨ih0, ih1, ih2⟩ := spec_l4Place.mono_l k
    refine ⟨?_, ?_, ?_⟩
    · intro y0 y1 y2 y3 y4 y5 y6 y7
      unfold spec_l4Place.j0
      repeat' first
      | (with_reducible exact ih0 _ _ _ _ _ _ _ _)
      | (with_reducible exact ih1 _ _ _ _ _ _ _ _ _)
      | (with_reducible exact ih2 _ _ _ _ _ _ _ _ _ _)
      | (with_reducible exact LeO.refl _)
      | (with_reducible exact LeO.none _)
      | (with_reducible refine LeO.ite ?_ ?_)
      | (with_reducible refine LeO.bind ?_ (fun _ => ?_))
      | exact ih0 _ _ _ _ _ _ _ _
      | exact ih1 _ _ _ _ _ _ _ _ _
      | exact ih2 _ _ _ _ _ _ _ _ _ _
      | exact LeO.none _
      | refine LeO.ite ?_ ?_
      | refine LeO.bind ?_ (fun _ => ?_)
    · intro y0 y1 y2 y3 y4 y5 y6 y7 y8
      unfold spec_l4Place.j1
      repeat' first
      | (with_reducible exact ih0 _ _ _ _ _ _ _ _)
      | (with_reducible exact ih1 _ _ _ _ _ _ _ _ _)
      | (with_reducible exact ih2 _ _ _ _ _ _ _ _ _ _)
      | (with_reducible exact LeO.refl _)
      | (with_reducible exact LeO.none _)
      | (with_reducible refine LeO.ite ?_ ?_)
      | (with_reducible refine LeO.bind ?_ (fun _ => ?_))
      | exact ih0 _ _ _ _ _ _ _ _
      | exact ih1 _ _ _ _ _ _ _ _ _
      | exact ih2 _ _ _ _ _ _ _ _ _ _
      | exact LeO.none _
      | refine LeO.ite ?_ ?_
      | refine LeO.bind ?_ (fun _ => ?_)
    · intro y0 y1 y2 y3 y4 y5 y6 y7 y8 y9
      unfold spec_l4Place.j2
      repeat' first
      | (with_reducible exact ih0 _ _ _ _ _ _ _ _)
      | (with_reducible exact ih1 _ _ _ _ _ _ _ _ _)
      | (with_reducible exact ih2 _ _ _ _ _ _ _ _ _ _)
      | (with_reducible exact LeO.refl _)
      | (with_reducible exact LeO.none _)
      | (with_reducible refine LeO.ite ?_ ?_)
      | (with_reducible refine LeO.bind ?_ (fun _ => ?_))
      | exact ih0 _ _ _ _ _ _ _ _
      | exact ih1 _ _ _ _ _ _ _ _ _
      | exact ih2 _ _ _ _ _ _ _ _ _ _
      | exact LeO.none _
      | refine LeO.ite ?_ ?_
      | refine LeO.bind ?_ (fun _ => ?_)
theorem spec_l4Place.mono : ∀ a0 a1 a2 a3 a4 a5 a6 k, LeO (spec_l4Place.f k a0 a1 a2 a3 a4 a5 a6) (spec_l4Place.f (k + 1) a0 a1 a2 a3 a4 a5 a6) := by
  intro a0 a1 a2 a3 a4 a5 a6 k
  obtain ⟨ih0, ih1, ih2⟩ := spec_l4Place.mono_l k
  unfold spec_l4Place.f
  repeat' first
      | (with_reducible exact ih0 _ _ _ _ _ _ _ _)
      | (with_reducible exact ih1 _ _ _ _ _ _ _ _ _)
      | (with_reducible exact ih2 _ _ _ _ _ _ _ _ _ _)
      | (with_reducible exact LeO.refl _)
      | (with_reducible exact LeO.none _)
      | (with_reducible refine LeO.ite ?_ ?_)
      | (with_reducible refine LeO.bind ?_ (fun _ => ?_))
      | exact ih0 _ _ _ _ _ _ _ _
      | exact ih1 _ _ _ _ _ _ _ _ _
      | exact ih2 _ _ _ _ _ _ _ _ _ _
      | exact LeO.none _
      | refine LeO.ite ?_ ?_
      | refine LeO.bind ?_ (fun _ => ?_)
noncomputable def spec_l4Place.j0v (x1 : Int) (x5 : Bool) (x105000 : Int) (x105001 : Int) (x105002 : ByteArray) (x105003 : Bool) (x105004 : Int) (x105005 : Int) : Option (Bool) := limOf (fun k => spec_l4Place.j0 k x1 x5 x105000 x105001 x105002 x105003 x105004 x105005)
theorem spec_l4Place.j0_lim (x1 : Int) (x5 : Bool) (x105000 : Int) (x105001 : Int) (x105002 : ByteArray) (x105003 : Bool) (x105004 : Int) (x105005 : Int) : Lim (fun k => spec_l4Place.j0 k x1 x5 x105000 x105001 x105002 x105003 x105004 x105005) (spec_l4Place.j0v x1 x5 x105000 x105001 x105002 x105003 x105004 x105005) := Lim.of (fun k => (spec_l4Place.mono_l k).1 x1 x5 x105000 x105001 x105002 x105003 x105004 x105005)
noncomputable def spec_l4Place.j1v (x1 : Int) (x5 : Bool) (x6 : Bool) (x105000 : Int) (x105001 : Int) (x105002 : ByteArray) (x105003 : Bool) (x105004 : Int) (x105005 : Int) : Option (Bool) := limOf (fun k => spec_l4Place.j1 k x1 x5 x6 x105000 x105001 x105002 x105003 x105004 x105005)
theorem spec_l4Place.j1_lim (x1 : Int) (x5 : Bool) (x6 : Bool) (x105000 : Int) (x105001 : Int) (x105002 : ByteArray) (x105003 : Bool) (x105004 : Int) (x105005 : Int) : Lim (fun k => spec_l4Place.j1 k x1 x5 x6 x105000 x105001 x105002 x105003 x105004 x105005) (spec_l4Place.j1v x1 x5 x6 x105000 x105001 x105002 x105003 x105004 x105005) := Lim.of (fun k => (spec_l4Place.mono_l k).2.1 x1 x5 x6 x105000 x105001 x105002 x105003 x105004 x105005)
noncomputable def spec_l4Place.j2v (x1 : Int) (x5 : Bool) (x6 : Bool) (x7 : Bool) (x105000 : Int) (x105001 : Int) (x105002 : ByteArray) (x105003 : Bool) (x105004 : Int) (x105005 : Int) : Option (Bool) := limOf (fun k => spec_l4Place.j2 k x1 x5 x6 x7 x105000 x105001 x105002 x105003 x105004 x105005)
theorem spec_l4Place.j2_lim (x1 : Int) (x5 : Bool) (x6 : Bool) (x7 : Bool) (x105000 : Int) (x105001 : Int) (x105002 : ByteArray) (x105003 : Bool) (x105004 : Int) (x105005 : Int) : Lim (fun k => spec_l4Place.j2 k x1 x5 x6 x7 x105000 x105001 x105002 x105003 x105004 x105005) (spec_l4Place.j2v x1 x5 x6 x7 x105000 x105001 x105002 x105003 x105004 x105005) := Lim.of (fun k => (spec_l4Place.mono_l k).2.2 x1 x5 x6 x7 x105000 x105001 x105002 x105003 x105004 x105005)
noncomputable def spec_l4Place.fv (a0_0 : Int) (a0_1 : Int) (a0_2 : ByteArray) (a0_3 : Bool) (a0_4 : Int) (a0_5 : Int) (a1 : Int) : Option (Bool) := limOf (fun k => spec_l4Place.f k a0_0 a0_1 a0_2 a0_3 a0_4 a0_5 a1)
theorem spec_l4Place.f_lim (a0_0 : Int) (a0_1 : Int) (a0_2 : ByteArray) (a0_3 : Bool) (a0_4 : Int) (a0_5 : Int) (a1 : Int) : Lim (fun k => spec_l4Place.f k a0_0 a0_1 a0_2 a0_3 a0_4 a0_5 a1) (spec_l4Place.fv a0_0 a0_1 a0_2 a0_3 a0_4 a0_5 a1) := Lim.of (fun k => spec_l4Place.mono a0_0 a0_1 a0_2 a0_3 a0_4 a0_5 a1 k)
set_option maxHeartbeats 4000000 in
theorem spec_l4Place.j0v_eq (x1 : Int) (x5 : Bool) (x105000 : Int) (x105001 : Int) (x105002 : ByteArray) (x105003 : Bool) (x105004 : Int) (x105005 : Int) : spec_l4Place.j0v x1 x5 x105000 x105001 x105002 x105003 x105004 x105005 = (if x105000 = 3 then (spec_l4Place.j1v x1 x5 true x105000 x105001 x105002 x105003 x105004 x105005) else (if x105002.toList = ([] : List UInt8) then (spec_l4Place.j1v x1 x5 (!x105003) x105000 x105001 x105002 x105003 x105004 x105005) else (spec_l4Place.j1v x1 x5 false x105000 x105001 x105002 x105003 x105004 x105005))) := by
  refine Lim.succ (spec_l4Place.j0_lim x1 x5 x105000 x105001 x105002 x105003 x105004 x105005) ?_
  simp only [spec_l4Place.j0]
  repeat' first
    | (with_reducible apply spec_l4Place.j1_lim)
    | (with_reducible exact Lim.const _)
    | (with_reducible refine Lim.ite ?_ ?_)
    | (with_reducible refine Lim.bind ?_ (fun _ => ?_))
    | apply spec_l4Place.j1_lim
    | exact Lim.const _
    | refine Lim.ite ?_ ?_
    | refine Lim.bind ?_ (fun _ => ?_)
set_option maxHeartbeats 4000000 in
theorem spec_l4Place.j1v_eq (x1 : Int) (x5 : Bool) (x6 : Bool) (x105000 : Int) (x105001 : Int) (x105002 : ByteArray) (x105003 : Bool) (x105004 : Int) (x105005 : Int) : spec_l4Place.j1v x1 x5 x6 x105000 x105001 x105002 x105003 x105004 x105005 = (if x105000 = 6 then ((spec_l1In.f x105004 0 (wrap64 (x1 - 1))).bind fun t106 => (if t106 = true then (spec_l4Place.j2v x1 x5 x6 true x105000 x105001 x105002 x105003 x105004 x105005) else (if x105004 = 0 then (spec_l4Place.j2v x1 x5 x6 false x105000 x105001 x105002 x105003 x105004 x105005) else (spec_l4Place.j2v x1 x5 x6 false x105000 x105001 x105002 x105003 x105004 x105005)))) else (if x105000 = 7 then ((spec_l1In.f x105004 0 (wrap64 (x1 - 1))).bind fun t107 => (if t107 = true then (spec_l4Place.j2v x1 x5 x6 true x105000 x105001 x105002 x105003 x105004 x105005) else (if x105004 = 0 then (spec_l4Place.j2v x1 x5 x6 (x105000 != 7) x105000 x105001 x105002 x105003 x105004 x105005) else (spec_l4Place.j2v x1 x5 x6 false x105000 x105001 x105002 x105003 x105004 x105005)))) else (if x105004 = 0 then (spec_l4Place.j2v x1 x5 x6 (x105000 != 7) x105000 x105001 x105002 x105003 x105004 x105005) else (spec_l4Place.j2v x1 x5 x6 false x105000 x105001 x105002 x105003 x105004 x105005)))) := by
  refine Lim.succ (spec_l4Place.j1_lim x1 x5 x6 x105000 x105001 x105002 x105003 x105004 x105005) ?_
  simp only [spec_l4Place.j1]
  repeat' first
    | (with_reducible apply spec_l4Place.j2_lim)
    | (with_reducible exact Lim.const _)
    | (with_reducible refine Lim.ite ?_ ?_)
    | (with_reducible refine Lim.bind ?_ (fun _ => ?_))
    | apply spec_l4Place.j2_lim
    | exact Lim.const _
    | refine Lim.ite ?_ ?_
    | refine Lim.bind ?_ (fun _ => ?_)
set_option maxHeartbeats 4000000 in
theorem spec_l4Place.j2v_eq (x1 : Int) (x5 : Bool) (x6 : Bool) (x7 : Bool) (x105000 : Int) (x105001 : Int) (x105002 : ByteArray) (x105003 : Bool) (x105004 : Int) (x105005 : Int) : spec_l4Place.j2v x1 x5 x6 x7 x105000 x105001 x105002 x105003 x105004 x105005 = (if x105000 = 7 then ((spec_l1In.f x105005 0 (wrap64 (x1 - 1))).bind fun t108 => (if t108 = true then ((spec_l1In.f x105000 1 8).bind fun t109 => (if t109 = true then (if x5 = true then (if x6 = true then (if x7 = true then (some true) else (some false)) else (some false)) else (some false)) else (some false))) else (if x105005 = 0 then ((spec_l1In.f x105000 1 8).bind fun t110 => (if t110 = true then (if x5 = true then (if x6 = true then (if x7 = true then (some (x105000 != 7)) else (some false)) else (some false)) else (some false)) else (some false))) else ((spec_l1In.f x105000 1 8).bind fun t111 => (if t111 = true then (if x5 = true then (if x6 = true then (if x7 = true then (some false) else (some false)) else (some false)) else (some false)) else (some false)))))) else (if x105005 = 0 then ((spec_l1In.f x105000 1 8).bind fun t112 => (if t112 = true then (if x5 = true then (if x6 = true then (if x7 = true then (some (x105000 != 7)) else (some false)) else (some false)) else (some false)) else (some false))) else ((spec_l1In.f x105000 1 8).bind fun t113 => (if t113 = true then (if x5 = true then (if x6 = true then (if x7 = true then (some false) else (some false)) else (some false)) else (some false)) else (some false))))) := by
  refine Lim.succ (spec_l4Place.j2_lim x1 x5 x6 x7 x105000 x105001 x105002 x105003 x105004 x105005) ?_
  simp only [spec_l4Place.j2]
  repeat' first
    | (with_reducible exact Lim.const _)
    | (with_reducible refine Lim.ite ?_ ?_)
    | (with_reducible refine Lim.bind ?_ (fun _ => ?_))
    | exact Lim.const _
    | refine Lim.ite ?_ ?_
    | refine Lim.bind ?_ (fun _ => ?_)
set_option maxHeartbeats 4000000 in
theorem spec_l4Place.fv_eq (a0_0 : Int) (a0_1 : Int) (a0_2 : ByteArray) (a0_3 : Bool) (a0_4 : Int) (a0_5 : Int) (a1 : Int) : spec_l4Place.fv a0_0 a0_1 a0_2 a0_3 a0_4 a0_5 a1 = ((spec_l1In.f a0_1 0 255).bind fun t105 => (if t105 = true then (if a0_0 = 1 then (spec_l4Place.j0v a1 true a0_0 a0_1 a0_2 a0_3 a0_4 a0_5) else (spec_l4Place.j0v a1 (a0_1 == 0) a0_0 a0_1 a0_2 a0_3 a0_4 a0_5)) else (spec_l4Place.j0v a1 (a0_1 == 0) a0_0 a0_1 a0_2 a0_3 a0_4 a0_5))) := by
  refine Lim.eq (spec_l4Place.f_lim a0_0 a0_1 a0_2 a0_3 a0_4 a0_5 a1) ?_
  simp only [spec_l4Place.f]
  repeat' first
    | (with_reducible apply spec_l4Place.j0_lim)
    | (with_reducible exact Lim.const _)
    | (with_reducible refine Lim.ite ?_ ?_)
    | (with_reducible refine Lim.bind ?_ (fun _ => ?_))
    | apply spec_l4Place.j0_lim
    | exact Lim.const _
    | refine Lim.ite ?_ ?_
    | refine Lim.bind ?_ (fun _ => ?_)

/-! ### spec_NfaOk -/
mutual
def spec_NfaOk.l0 : Nat → List (S90) → Int → Int → Option (Bool)
  | 0, _, _, _ => none
  | k + 1, x0, x3, x4 => if x4 < x3 then (if 0 ≤ x4 then (if x4 < (x0.length : Int) then ((spec_l4Place.f k ((rd_T90 x0 x4).f0) ((rd_T90 x0 x4).f1) ((rd_T90 x0 x4).f2) ((rd_T90 x0 x4).f3) ((rd_T90 x0 x4).f4) ((rd_T90 x0 x4).f5) x3).bind fun t116 => (if t116 = true then (spec_NfaOk.j1 k x0 x3 x4 ((((rd_T90 x0 x4).f0) == 8) != (x4 == (wrap64 (x3 - 1))))) else (spec_NfaOk.j1 k x0 x3 x4 true))) else (none)) else (none)) else ((spec_l1In.f x3 1 400).bind fun t114 => (some t114))
def spec_NfaOk.j1 : Nat → List (S90) → Int → Int → Bool → Option (Bool)
  | 0, _, _, _, _ => none
  | k + 1, x0, x3, x4, x31 => if x31 = true then (some false) else (spec_NfaOk.l0 k x0 x3 (wrap64 (x4 + 1)))
end
def spec_NfaOk.f (k : Nat) (l0 : List (S90)) : Option (Bool) := spec_NfaOk.l0 k l0 (l0.length : Int) 0
theorem spec_NfaOk.mono_l : ∀ k, (∀ y0 y1 y2, LeO (spec_NfaOk.l0 k y0 y1 y2) (spec_NfaOk.l0 (k + 1) y0 y1 y2)) ∧ (∀ y0 y1 y2 y3, LeO (spec_NfaOk.j1 k y0 y1 y2 y3) (spec_NfaOk.j1 (k + 1) y0 y1 y2 y3))
  | 0 => ⟨fun _ _ _ r h => by simp [spec_NfaOk.l0] at h, fun _ _ _ _ r h => by simp [spec_NfaOk.j1] at h⟩
  | k + 1 => by
    obtain ⟨ih0, ih1⟩ := spec_NfaOk.mono_l k
    refine ⟨?_, ?_⟩
    · intro y0 y1 y2
      unfold spec_NfaOk.l0
      repeat' first
      | (with_reducible exact ih0 _ _ _)
      | (with_reducible exact ih1 _ _ _ _)
      | (with_reducible exact spec_l4Place.mono _ _ _ _ _ _ _ _)
      | (with_reducible exact LeO.refl _)
      | (with_reducible exact LeO.none _)
      | (with_reducible refine LeO.ite ?_ ?_)
      | (with_reducible refine LeO.bind ?_ (fun _ => ?_))
      | exact ih0 _ _ _
      | exact ih1 _ _ _ _
      | exact spec_l4Place.mono _ _ _ _ _ _ _ _
      | exact LeO.none _
      | refine LeO.ite ?_ ?_
      | refine LeO.bind ?_ (fun _ => ?_)
    · intro y0 y1 y2 y3
      unfold spec_NfaOk.j1
      repeat' first
      | (with_reducible exact ih0 _ _ _)
      | (with_reducible exact ih1 _ _ _ _)
      | (with_reducible exact spec_l4Place.mono _ _ _ _ _ _ _ _)
      | (with_reducible exact LeO.refl _)
      | (with_reducible exact LeO.none _)
      | (with_reducible refine LeO.ite ?_ ?_)
      | (with_reducible refine LeO.bind ?_ (fun _ => ?_))
      | exact ih0 _ _ _
      | exact ih1 _ _ _ _
      | exact spec_l4Place.mono _ _ _ _ _ _ _ _
      | exact LeO.none _
      | refine LeO.ite ?_ ?_
      | refine LeO.bind ?_ (fun _ => ?_)
theorem spec_NfaOk.mono : ∀ a0 k, LeO (spec_NfaOk.f k a0) (spec_NfaOk.f (k + 1) a0) := by
  intro a0 k
  obtain ⟨ih0, ih1⟩ := spec_NfaOk.mono_l k
  unfold spec_NfaOk.f
  repeat' first
      | (with_reducible exact ih0 _ _ _)
      | (with_reducible exact ih1 _ _ _ _)
      | (with_reducible exact spec_l4Place.mono _ _ _ _ _ _ _ _)
      | (with_reducible exact LeO.refl _)
      | (with_reducible exact LeO.none _)
      | (with_reducible refine LeO.ite ?_ ?_)
      | (with_reducible refine LeO.bind ?_ (fun _ => ?_))
      | exact ih0 _ _ _
      | exact ih1 _ _ _ _
      | exact spec_l4Place.mono _ _ _ _ _ _ _ _
      | exact LeO.none _
      | refine LeO.ite ?_ ?_
      | refine LeO.bind ?_ (fun _ => ?_)
noncomputable def spec_NfaOk.l0v (x0 : List (S90)) (x3 : Int) (x4 : Int) : Option (Bool) := limOf (fun k => spec_NfaOk.l0 k x0 x3 x4)
theorem spec_NfaOk.l0_lim (x0 : List (S90)) (x3 : Int) (x4 : Int) : Lim (fun k => spec_NfaOk.l0 k x0 x3 x4) (spec_NfaOk.l0v x0 x3 x4) := Lim.of (fun k => (spec_NfaOk.mono_l k).1 x0 x3 x4)
noncomputable def spec_NfaOk.j1v (x0 : List (S90)) (x3 : Int) (x4 : Int) (x31 : Bool) : Option (Bool) := limOf (fun k => spec_NfaOk.j1 k x0 x3 x4 x31)
theorem spec_NfaOk.j1_lim (x0 : List (S90)) (x3 : Int) (x4 : Int) (x31 : Bool) : Lim (fun k => spec_NfaOk.j1 k x0 x3 x4 x31) (spec_NfaOk.j1v x0 x3 x4 x31) := Lim.of (fun k => (spec_NfaOk.mono_l k).2 x0 x3 x4 x31)
noncomputable def spec_NfaOk.fv (l0 : List (S90)) : Option (Bool) := limOf (fun k => spec_NfaOk.f k l0)
theorem spec_NfaOk.f_lim (l0 : List (S90)) : Lim (fun k => spec_NfaOk.f k l0) (spec_NfaOk.fv l0) := Lim.of (fun k => spec_NfaOk.mono l0 k)
set_option maxHeartbeats 4000000 in
theorem spec_NfaOk.l0v_eq (x0 : List (S90)) (x3 : Int) (x4 : Int) : spec_NfaOk.l0v x0 x3 x4 = (if x4 < x3 then (if 0 ≤ x4 then (if x4 < (x0.length : Int) then ((spec_l4Place.fv ((rd_T90 x0 x4).f0) ((rd_T90 x0 x4).f1) ((rd_T90 x0 x4).f2) ((rd_T90 x0 x4).f3) ((rd_T90 x0 x4).f4) ((rd_T90 x0 x4).f5) x3).bind fun t116 => (if t116 = true then (spec_NfaOk.j1v x0 x3 x4 ((((rd_T90 x0 x4).f0) == 8) != (x4 == (wrap64 (x3 - 1))))) else (spec_NfaOk.j1v x0 x3 x4 true))) else (none)) else (none)) else ((spec_l1In.f x3 1 400).bind fun t114 => (some t114))) := by
  refine Lim.succ (spec_NfaOk.l0_lim x0 x3 x4) ?_
  simp only [spec_NfaOk.l0]
  repeat' first
    | (with_reducible apply spec_NfaOk.j1_lim)
    | (with_reducible apply spec_l4Place.f_lim)
    | (with_reducible exact Lim.const _)
    | (with_reducible refine Lim.ite ?_ ?_)
    | (with_reducible refine Lim.bind ?_ (fun _ => ?_))
    | apply spec_NfaOk.j1_lim
    | apply spec_l4Place.f_lim
    | exact Lim.const _
    | refine Lim.ite ?_ ?_
    | refine Lim.bind ?_ (fun _ => ?_)
set_option maxHeartbeats 4000000 in
theorem spec_NfaOk.j1v_eq (x0 : List (S90)) (x3 : Int) (x4 : Int) (x31 : Bool) : spec_NfaOk.j1v x0 x3 x4 x31 = (if x31 = true then (some false) else (spec_NfaOk.l0v x0 x3 (wrap64 (x4 + 1)))) := by
  refine Lim.succ (spec_NfaOk.j1_lim x0 x3 x4 x31) ?_
  simp only [spec_NfaOk.j1]
  repeat' first
    | (with_reducible apply spec_NfaOk.l0_lim)
    | (with_reducible exact Lim.const _)
    | (with_reducible refine Lim.ite ?_ ?_)
    | (with_reducible refine Lim.bind ?_ (fun _ => ?_))
    | apply spec_NfaOk.l0_lim
    | exact Lim.const _
    | refine Lim.ite ?_ ?_
    | refine Lim.bind ?_ (fun _ => ?_)
set_option maxHeartbeats 4000000 in
theorem spec_NfaOk.fv_eq (l0 : List (S90)) : spec_NfaOk.fv l0 = (spec_NfaOk.l0v l0 (l0.length : Int) 0) := by
  refine Lim.eq (spec_NfaOk.f_lim l0) ?_
  simp only [spec_NfaOk.f]
  repeat' first
    | (with_reducible apply spec_NfaOk.l0_lim)
    | (with_reducible exact Lim.const _)
    | (with_reducible refine Lim.ite ?_ ?_)
    | (with_reducible refine Lim.bind ?_ (fun _ => ?_))
    | apply spec_NfaOk.l0_lim
    | exact Lim.const _
    | refine Lim.ite ?_ ?_
    | refine Lim.bind ?_ (fun _ => ?_)

/-! ### laws_toPlace -/
def laws_toPlace.f (a0_0 : Int) (a0_1 : Int) (a0_2 : ByteArray) (a0_3 : Bool) (a0_4 : Int) (a0_5 : Int) : Option (Int × Int × ByteArray × Bool × Int × Int) := some (a0_0, a0_1, a0_2, a0_3, a0_4, a0_5)

/-! ### laws_toPlaceS -/
def laws_toPlaceS.l0 : Nat → List (S88) → List (S90) → Int → Option ((List (S90)))
  | 0, _, _, _ => none
  | k + 1, x0, x3, x4 => if x4 < (x0.length : Int) then (if 0 ≤ x4 then ((laws_toPlace.f ((rd_T88 x0 x4).f0) ((rd_T88 x0 x4).f1) ((rd_T88 x0 x4).f2) ((rd_T88 x0 x4).f3) ((rd_T88 x0 x4).f4) ((rd_T88 x0 x4).f5)).bind fun bt125 => (if x4 < (x3.length : Int) then (laws_toPlaceS.l0 k x0 (x3.set (x4 : Int).toNat (⟨bt125.1, bt125.2.1, bt125.2.2.1, bt125.2.2.2.1, bt125.2.2.2.2.1, bt125.2.2.2.2.2⟩ : S90)) (wrap64 (x4 + 1))) else (none))) else (none)) else (some x3)
def laws_toPlaceS.f (k : Nat) (l0 : List (S88)) : Option ((List (S90))) := if 0 ≤ (l0.length : Int) then (if ((l0.length : Int) : Int).toNat ≤ 5026338869833 then (laws_toPlaceS.l0 k l0 (List.replicate ((l0.length : Int) : Int).toNat z90) 0) else (none)) else (none)
theorem laws_toPlaceS.mono_l : ∀ k, (∀ y0 y1 y2, LeO (laws_toPlaceS.l0 k y0 y1 y2) (laws_toPlaceS.l0 (k + 1) y0 y1 y2))
  | 0 => fun _ _ _ r h => by simp [laws_toPlaceS.l0] at h
  | k + 1 => by
    have ih0 := laws_toPlaceS.mono_l k
    · intro y0 y1 y2
      unfold laws_toPlaceS.l0
      repeat' first
      | (with_reducible exact ih0 _ _ _)
      | (with_reducible exact LeO.refl _)
      | (with_reducible exact LeO.none _)
      | (with_reducible refine LeO.ite ?_ ?_)
      | (with_reducible refine LeO.bind ?_ (fun _ => ?_))
      | exact ih0 _ _ _
      | exact LeO.none _
      | refine LeO.ite ?_ ?_
      | refine LeO.bind ?_ (fun _ => ?_)
theorem laws_toPlaceS.mono : ∀ a0 k, LeO (laws_toPlaceS.f k a0) (laws_toPlaceS.f (k + 1) a0) := by
  intro a0 k
  have ih0 := laws_toPlaceS.mono_l k
  unfold laws_toPlaceS.f
  repeat' first
      | (with_reducible exact ih0 _ _ _)
      | (with_reducible exact LeO.refl _)
      | (with_reducible exact LeO.none _)
      | (with_reducible refine LeO.ite ?_ ?_)
      | (with_reducible refine LeO.bind ?_ (fun _ => ?_))
      | exact ih0 _ _ _
      | exact LeO.none _
      | refine LeO.ite ?_ ?_
      | refine LeO.bind ?_ (fun _ => ?_)
noncomputable def laws_toPlaceS.l0v (x0 : List (S88)) (x3 : List (S90)) (x4 : Int) : Option ((List (S90))) := limOf (fun k => laws_toPlaceS.l0 k x0 x3 x4)
theorem laws_toPlaceS.l0_lim (x0 : List (S88)) (x3 : List (S90)) (x4 : Int) : Lim (fun k => laws_toPlaceS.l0 k x0 x3 x4) (laws_toPlaceS.l0v x0 x3 x4) := Lim.of (fun k => laws_toPlaceS.mono_l k x0 x3 x4)
noncomputable def laws_toPlaceS.fv (l0 : List (S88)) : Option ((List (S90))) := limOf (fun k => laws_toPlaceS.f k l0)
theorem laws_toPlaceS.f_lim (l0 : List (S88)) : Lim (fun k => laws_toPlaceS.f k l0) (laws_toPlaceS.fv l0) := Lim.of (fun k => laws_toPlaceS.mono l0 k)
set_option maxHeartbeats 4000000 in
theorem laws_toPlaceS.l0v_eq (x0 : List (S88)) (x3 : List (S90)) (x4 : Int) : laws_toPlaceS.l0v x0 x3 x4 = (if x4 < (x0.length : Int) then (if 0 ≤ x4 then ((laws_toPlace.f ((rd_T88 x0 x4).f0) ((rd_T88 x0 x4).f1) ((rd_T88 x0 x4).f2) ((rd_T88 x0 x4).f3) ((rd_T88 x0 x4).f4) ((rd_T88 x0 x4).f5)).bind fun bt125 => (if x4 < (x3.length : Int) then (laws_toPlaceS.l0v x0 (x3.set (x4 : Int).toNat (⟨bt125.1, bt125.2.1, bt125.2.2.1, bt125.2.2.2.1, bt125.2.2.2.2.1, bt125.2.2.2.2.2⟩ : S90)) (wrap64 (x4 + 1))) else (none))) else (none)) else (some x3)) := by
  refine Lim.succ (laws_toPlaceS.l0_lim x0 x3 x4) ?_
  simp only [laws_toPlaceS.l0]
  repeat' first
    | (with_reducible apply laws_toPlaceS.l0_lim)
    | (with_reducible exact Lim.const _)
    | (with_reducible refine Lim.ite ?_ ?_)
    | (with_reducible refine Lim.bind ?_ (fun _ => ?_))
    | apply laws_toPlaceS.l0_lim
    | exact Lim.const _
    | refine Lim.ite ?_ ?_
    | refine Lim.bind ?_ (fun _ => ?_)
set_option maxHeartbeats 4000000 in
theorem laws_toPlaceS.fv_eq (l0 : List (S88)) : laws_toPlaceS.fv l0 = (if 0 ≤ (l0.length : Int) then (if ((l0.length : Int) : Int).toNat ≤ 5026338869833 then (laws_toPlaceS.l0v l0 (List.replicate ((l0.length : Int) : Int).toNat z90) 0) else (none)) else (none)) := by
  refine Lim.eq (laws_toPlaceS.f_lim l0) ?_
  simp only [laws_toPlaceS.f]
  repeat' first
    | (with_reducible apply laws_toPlaceS.l0_lim)
    | (with_reducible exact Lim.const _)
    | (with_reducible refine Lim.ite ?_ ?_)
    | (with_reducible refine Lim.bind ?_ (fun _ => ?_))
    | apply laws_toPlaceS.l0_lim
    | exact Lim.const _
    | refine Lim.ite ?_ ?_
    | refine Lim.bind ?_ (fun _ => ?_)

/-! ### impl_in -/
def impl_in.f (a0 : Int) (a1 : Int) (a2 : Int) : Option (Bool) := if a0 ≥ a1 then (some (decide (a0 ≤ a2))) else (some false)

/-! ### impl_placeOk -/
mutual
def impl_placeOk.j0 : Nat → Int → Bool → Int → Int → ByteArray → Bool → Int → Int → Option (Bool)
  | 0, _, _, _, _, _, _, _, _ => none
  | k + 1, x1, x35, x133000, x133001, x133002, x133003, x133004, x133005 => if x35 = true then (some false) else (if x133000 = 6 then ((impl_in.f x133004 0 (wrap64 (x1 - 1))).bind fun t133 => (if t133 = true then (some (x133005 == 0)) else (some false))) else (if x133000 = 7 then ((impl_in.f x133004 0 (wrap64 (x1 - 1))).bind fun t134 => (if t134 = true then ((impl_in.f x133005 0 (wrap64 (x1 - 1))).bind fun t135 => (some t135)) else (some false))) else (if x133000 = 1 then ((impl_in.f x133001 0 255).bind fun t136 => (if t136 = true then (if x133004 = 0 then (some (x133005 == 0)) else (some false)) else (some false))) else (if x133000 = 2 then (impl_placeOk.j1 k (x133000 == 2) x133000 x133001 x133002 x133003 x133004 x133005) else (if x133000 = 3 then (impl_placeOk.j1 k (x133000 == 3) x133000 x133001 x133002 x133003 x133004 x133005) else (if x133000 = 4 then (impl_placeOk.j1 k (x133000 == 4) x133000 x133001 x133002 x133003 x133004 x133005) else (if x133000 = 5 then (impl_placeOk.j1 k (x133000 == 5) x133000 x133001 x133002 x133003 x133004 x133005) else (impl_placeOk.j1 k (x133000 == 8) x133000 x133001 x133002 x133003 x133004 x133005))))))))
def impl_placeOk.j1 : Nat → Bool → Int → Int → ByteArray → Bool → Int → Int → Option (Bool)
  | 0, _, _, _, _, _, _, _ => none
  | k + 1, x79, x133000, x133001, x133002, x133003, x133004, x133005 => if x79 = true then (if x133004 = 0 then (some (x133005 == 0)) else (some false)) else (some false)
end
def impl_placeOk.f (k : Nat) (a0_0 : Int) (a0_1 : Int) (a0_2 : ByteArray) (a0_3 : Bool) (a0_4 : Int) (a0_5 : Int) (a1 : Int) (a2 : Bool) : Option (Bool) := if (a2 != (a0_0 == 8)) = true then (impl_placeOk.j0 k a1 true a0_0 a0_1 a0_2 a0_3 a0_4 a0_5) else (if a0_0 = 1 then (if a0_0 = 3 then (impl_placeOk.j0 k a1 false a0_0 a0_1 a0_2 a0_3 a0_4 a0_5) else (if a0_2.toList = ([] : List UInt8) then (impl_placeOk.j0 k a1 a0_3 a0_0 a0_1 a0_2 a0_3 a0_4 a0_5) else (impl_placeOk.j0 k a1 true a0_0 a0_1 a0_2 a0_3 a0_4 a0_5))) else (if a0_1 = 0 then (if a0_0 = 3 then (impl_placeOk.j0 k a1 false a0_0 a0_1 a0_2 a0_3 a0_4 a0_5) else (if a0_2.toList = ([] : List UInt8) then (impl_placeOk.j0 k a1 a0_3 a0_0 a0_1 a0_2 a0_3 a0_4 a0_5) else (impl_placeOk.j0 k a1 true a0_0 a0_1 a0_2 a0_3 a0_4 a0_5))) else (impl_placeOk.j0 k a1 true a0_0 a0_1 a0_2 a0_3 a0_4 a0_5)))
theorem impl_placeOk.mono_l : ∀ k, (∀ y0 y1 y2 y3 y4 y5 y6 y7, LeO (impl_placeOk.j0 k y0 y1 y2 y3 y4 y5 y6 y7) (impl_placeOk.j0 (k + 1) y0 y1 y2 y3 y4 y5 y6 y7)) ∧ (∀ y0 y1 y2 y3 y4 y5 y6, LeO (impl_placeOk.j1 k y0 y1 y2 y3 y4 y5 y6) (impl_placeOk.j1 (k + 1) y0 y1 y2 y3 y4 y5 y6))
  | 0 => ⟨fun _ _ _ _ _ _ _ _ r h => by simp [impl_placeOk.j0] at h, fun _ _ _ _ _ _ _ r h => by simp [impl_placeOk.j1] at h⟩
  | k + 1 => by
    obtain ⟨ih0, ih1⟩ := impl_placeOk.mono_l k
    refine ⟨?_, ?_⟩
    · intro y0 y1 y2 y3 y4 y5 y6 y7
      unfold impl_placeOk.j0
      repeat' first
      | (with_reducible exact ih0 _ _ _ _ _ _ _ _)
      | (with_reducible exact ih1 _ _ _ _ _ _ _)
      | (with_reducible exact LeO.refl _)
      | (with_reducible exact LeO.none _)
      | (with_reducible refine LeO.ite ?_ ?_)
      | (with_reducible refine LeO.bind ?_ (fun _ => ?_))
      | exact ih0 _ _ _ _ _ _ _ _
      | exact ih1 _ _ _ _ _ _ _
      | exact LeO.none _
      | refine LeO.ite ?_ ?_
      | refine LeO.bind ?_ (fun _ => ?_)
    · intro y0 y1 y2 y3 y4 y5 y6
      unfold impl_placeOk.j1
      repeat' first
      | (with_reducible exact ih0 _ _ _ _ _ _ _ _)
      | (with_reducible exact ih1 _ _ _ _ _ _ _)
      | (with_reducible exact LeO.refl _)
      | (with_reducible exact LeO.none _)
      | (with_reducible refine LeO.ite ?_ ?_)
      | (with_reducible refine LeO.bind ?_ (fun _ => ?_))
      | exact ih0 _ _ _ _ _ _ _ _
      | exact ih1 _ _ _ _ _ _ _
      | exact LeO.none _
      | refine LeO.ite ?_ ?_
      | refine LeO.bind ?_ (fun _ => ?_)
theorem impl_placeOk.mono : ∀ a0 a1 a2 a3 a4 a5 a6 a7 k, LeO (impl_placeOk.f k a0 a1 a2 a3 a4 a5 a6 a7) (impl_placeOk.f (k + 1) a0 a1 a2 a3 a4 a5 a6 a7) := by
  intro a0 a1 a2 a3 a4 a5 a6 a7 k
  obtain ⟨ih0, ih1⟩ := impl_placeOk.mono_l k
  unfold impl_placeOk.f
  repeat' first
      | (with_reducible exact ih0 _ _ _ _ _ _ _ _)
      | (with_reducible exact ih1 _ _ _ _ _ _ _)
      | (with_reducible exact LeO.refl _)
      | (with_reducible exact LeO.none _)
      | (with_reducible refine LeO.ite ?_ ?_)
      | (with_reducible refine LeO.bind ?_ (fun _ => ?_))
      | exact ih0 _ _ _ _ _ _ _ _
      | exact ih1 _ _ _ _ _ _ _
      | exact LeO.none _
      | refine LeO.ite ?_ ?_
      | refine LeO.bind ?_ (fun _ => ?_)
noncomputable def impl_placeOk.j0v (x1 : Int) (x35 : Bool) (x133000 : Int) (x133001 : Int) (x133002 : ByteArray) (x133003 : Bool) (x133004 : Int) (x133005 : Int) : Option (Bool) := limOf (fun k => impl_placeOk.j0 k x1 x35 x133000 x133001 x133002 x133003 x133004 x133005)
theorem impl_placeOk.j0_lim (x1 : Int) (x35 : Bool) (x133000 : Int) (x133001 : Int) (x133002 : ByteArray) (x133003 : Bool) (x133004 : Int) (x133005 : Int) : Lim (fun k => impl_placeOk.j0 k x1 x35 x133000 x133001 x133002 x133003 x133004 x133005) (impl_placeOk.j0v x1 x35 x133000 x133001 x133002 x133003 x133004 x133005) := Lim.of (fun k => (impl_placeOk.mono_l k).1 x1 x35 x133000 x133001 x133002 x133003 x133004 x133005)
noncomputable def impl_placeOk.j1v (x79 : Bool) (x133000 : Int) (x133001 : Int) (x133002 : ByteArray) (x133003 : Bool) (x133004 : Int) (x133005 : Int) : Option (Bool) := limOf (fun k => impl_placeOk.j1 k x79 x133000 x133001 x133002 x133003 x133004 x133005)
theorem impl_placeOk.j1_lim (x79 : Bool) (x133000 : Int) (x133001 : Int) (x133002 : ByteArray) (x133003 : Bool) (x133004 : Int) (x133005 : Int) : Lim (fun k => impl_placeOk.j1 k x79 x133000 x133001 x133002 x133003 x133004 x133005) (impl_placeOk.j1v x79 x133000 x133001 x133002 x133003 x133004 x133005) := Lim.of (fun k => (impl_placeOk.mono_l k).2 x79 x133000 x133001 x133002 x133003 x133004 x133005)
noncomputable def impl_placeOk.fv (a0_0 : Int) (a0_1 : Int) (a0_2 : ByteArray) (a0_3 : Bool) (a0_4 : Int) (a0_5 : Int) (a1 : Int) (a2 : Bool) : Option (Bool) := limOf (fun k => impl_placeOk.f k a0_0 a0_1 a0_2 a0_3 a0_4 a0_5 a1 a2)
theorem impl_placeOk.f_lim (a0_0 : Int) (a0_1 : Int) (a0_2 : ByteArray) (a0_3 : Bool) (a0_4 : Int) (a0_5 : Int) (a1 : Int) (a2 : Bool) : Lim (fun k => impl_placeOk.f k a0_0 a0_1 a0_2 a0_3 a0_4 a0_5 a1 a2) (impl_placeOk.fv a0_0 a0_1 a0_2 a0_3 a0_4 a0_5 a1 a2) := Lim.of (fun k => impl_placeOk.mono a0_0 a0_1 a0_2 a0_3 a0_4 a0_5 a1 a2 k)
set_option maxHeartbeats 4000000 in
theorem impl_placeOk.j0v_eq (x1 : Int) (x35 : Bool) (x133000 : Int) (x133001 : Int) (x133002 : ByteArray) (x133003 : Bool) (x133004 : Int) (x133005 : Int) : impl_placeOk.j0v x1 x35 x133000 x133001 x133002 x133003 x133004 x133005 = (if x35 = true then (some false) else (if x133000 = 6 then ((impl_in.f x133004 0 (wrap64 (x1 - 1))).bind fun t133 => (if t133 = true then (some (x133005 == 0)) else (some false))) else (if x133000 = 7 then ((impl_in.f x133004 0 (wrap64 (x1 - 1))).bind fun t134 => (if t134 = true then ((impl_in.f x133005 0 (wrap64 (x1 - 1))).bind fun t135 => (some t135)) else (some false))) else (if x133000 = 1 then ((impl_in.f x133001 0 255).bind fun t136 => (if t136 = true then (if x133004 = 0 then (some (x133005 == 0)) else (some false)) else (some false))) else (if x133000 = 2 then (impl_placeOk.j1v (x133000 == 2) x133000 x133001 x133002 x133003 x133004 x133005) else (if x133000 = 3 then (impl_placeOk.j1v (x133000 == 3) x133000 x133001 x133002 x133003 x133004 x133005) else (if x133000 = 4 then (impl_placeOk.j1v (x133000 == 4) x133000 x133001 x133002 x133003 x133004 x133005) else (if x133000 = 5 then (impl_placeOk.j1v (x133000 == 5) x133000 x133001 x133002 x133003 x133004 x133005) else (impl_placeOk.j1v (x133000 == 8) x133000 x133001 x133002 x133003 x133004 x133005))))))))) := by
  refine Lim.succ (impl_placeOk.j0_lim x1 x35 x133000 x133001 x133002 x133003 x133004 x133005) ?_
  simp only [impl_placeOk.j0]
  repeat' first
    | (with_reducible apply impl_placeOk.j1_lim)
    | (with_reducible exact Lim.const _)
    | (with_reducible refine Lim.ite ?_ ?_)
    | (with_reducible refine Lim.bind ?_ (fun _ => ?_))
    | apply impl_placeOk.j1_lim
    | exact Lim.const _
    | refine Lim.ite ?_ ?_
    | refine Lim.bind ?_ (fun _ => ?_)
set_option maxHeartbeats 4000000 in
theorem impl_placeOk.j1v_eq (x79 : Bool) (x133000 : Int) (x133001 : Int) (x133002 : ByteArray) (x133003 : Bool) (x133004 : Int) (x133005 : Int) : impl_placeOk.j1v x79 x133000 x133001 x133002 x133003 x133004 x133005 = (if x79 = true then (if x133004 = 0 then (some (x133005 == 0)) else (some false)) else (some false)) := by
  refine Lim.succ (impl_placeOk.j1_lim x79 x133000 x133001 x133002 x133003 x133004 x133005) ?_
  simp only [impl_placeOk.j1]
  repeat' first
    | (with_reducible exact Lim.const _)
    | (with_reducible refine Lim.ite ?_ ?_)
    | (with_reducible refine Lim.bind ?_ (fun _ => ?_))
    | exact Lim.const _
    | refine Lim.ite ?_ ?_
    | refine Lim.bind ?_ (fun _ => ?_)
set_option maxHeartbeats 4000000 in
theorem impl_placeOk.fv_eq (a0_0 : Int) (a0_1 : Int) (a0_2 : ByteArray) (a0_3 : Bool) (a0_4 : Int) (a0_5 : Int) (a1 : Int) (a2 : Bool) : impl_placeOk.fv a0_0 a0_1 a0_2 a0_3 a0_4 a0_5 a1 a2 = (if (a2 != (a0_0 == 8)) = true then (impl_placeOk.j0v a1 true a0_0 a0_1 a0_2 a0_3 a0_4 a0_5) else (if a0_0 = 1 then (if a0_0 = 3 then (impl_placeOk.j0v a1 false a0_0 a0_1 a0_2 a0_3 a0_4 a0_5) else (if a0_2.toList = ([] : List UInt8) then (impl_placeOk.j0v a1 a0_3 a0_0 a0_1 a0_2 a0_3 a0_4 a0_5) else (impl_placeOk.j0v a1 true a0_0 a0_1 a0_2 a0_3 a0_4 a0_5))) else (if a0_1 = 0 then (if a0_0 = 3 then (impl_placeOk.j0v a1 false a0_0 a0_1 a0_2 a0_3 a0_4 a0_5) else (if a0_2.toList = ([] : List UInt8) then (impl_placeOk.j0v a1 a0_3 a0_0 a0_1 a0_2 a0_3 a0_4 a0_5) else (impl_placeOk.j0v a1 true a0_0 a0_1 a0_2 a0_3 a0_4 a0_5))) else (impl_placeOk.j0v a1 true a0_0 a0_1 a0_2 a0_3 a0_4 a0_5)))) := by
  refine Lim.eq (impl_placeOk.f_lim a0_0 a0_1 a0_2 a0_3 a0_4 a0_5 a1 a2) ?_
  simp only [impl_placeOk.f]
  repeat' first
    | (with_reducible apply impl_placeOk.j0_lim)
    | (with_reducible exact Lim.const _)
    | (with_reducible refine Lim.ite ?_ ?_)
    | (with_reducible refine Lim.bind ?_ (fun _ => ?_))
    | apply impl_placeOk.j0_lim
    | exact Lim.const _
    | refine Lim.ite ?_ ?_
    | refine Lim.bind ?_ (fun _ => ?_)

/-! ### impl_NfaOk -/
def impl_NfaOk.l0 : Nat → List (S90) → List (S90) → Int → Int → Option (Bool)
  | 0, _, _, _, _ => none
  | k + 1, x0, x9, x10, x11 => if x11 < x10 then (if 0 ≤ x11 then (if x11 < (x9.length : Int) then ((impl_placeOk.f k ((rd_T90 x9 x11).f0) ((rd_T90 x9 x11).f1) ((rd_T90 x9 x11).f2) ((rd_T90 x9 x11).f3) ((rd_T90 x9 x11).f4) ((rd_T90 x9 x11).f5) (x0.length : Int) (x11 == (wrap64 ((x0.length : Int) - 1)))).bind fun t140 => (if t140 = true then (impl_NfaOk.l0 k x0 x9 x10 (wrap64 (x11 + 1))) else (some false))) else (none)) else (none)) else (some true)
def impl_NfaOk.f (k : Nat) (l0 : List (S90)) : Option (Bool) := (impl_in.f (l0.length : Int) 1 400).bind fun t137 => (if t137 = true then (impl_NfaOk.l0 k l0 l0 (l0.length : Int) 0) else (some false))
theorem impl_NfaOk.mono_l : ∀ k, (∀ y0 y1 y2 y3, LeO (impl_NfaOk.l0 k y0 y1 y2 y3) (impl_NfaOk.l0 (k + 1) y0 y1 y2 y3))
  | 0 => fun _ _ _ _ r h => by simp [impl_NfaOk.l0] at h
  | k + 1 => by
    have ih0 := impl_NfaOk.mono_l k
    · intro y0 y1 y2 y3
      unfold impl_NfaOk.l0
      repeat' first
      | (with_reducible exact ih0 _ _ _ _)
      | (with_reducible exact impl_placeOk.mono _ _ _ _ _ _ _ _ _)
      | (with_reducible exact LeO.refl _)
      | (with_reducible exact LeO.none _)
      | (with_reducible refine LeO.ite ?_ ?_)
      | (with_reducible refine LeO.bind ?_ (fun _ => ?_))
      | exact ih0 _ _ _ _
      | exact impl_placeOk.mono _ _ _ _ _ _ _ _ _
      | exact LeO.none _
      | refine LeO.ite ?_ ?_
      | refine LeO.bind ?_ (fun _ => ?_)
theorem impl_NfaOk.mono : ∀ a0 k, LeO (impl_NfaOk.f k a0) (impl_NfaOk.f (k + 1) a0) := by
  intro a0 k
  have ih0 := impl_NfaOk.mono_l k
  unfold impl_NfaOk.f
  repeat' first
      | (with_reducible exact ih0 _ _ _ _)
      | (with_reducible exact impl_placeOk.mono _ _ _ _ _ _ _ _ _)
      | (with_reducible exact LeO.refl _)
      | (with_reducible exact LeO.none _)
      | (with_reducible refine LeO.ite ?_ ?_)
      | (with_reducible refine LeO.bind ?_ (fun _ => ?_))
      | exact ih0 _ _ _ _
      | exact impl_placeOk.mono _ _ _ _ _ _ _ _ _
      | exact LeO.none _
      | refine LeO.ite ?_ ?_
      | refine LeO.bind ?_ (fun _ => ?_)
noncomputable def impl_NfaOk.l0v (x0 : List (S90)) (x9 : List (S90)) (x10 : Int) (x11 : Int) : Option (Bool) := limOf (fun k => impl_NfaOk.l0 k x0 x9 x10 x11)
theorem impl_NfaOk.l0_lim (x0 : List (S90)) (x9 : List (S90)) (x10 : Int) (x11 : Int) : Lim (fun k => impl_NfaOk.l0 k x0 x9 x10 x11) (impl_NfaOk.l0v x0 x9 x10 x11) := Lim.of (fun k => impl_NfaOk.mono_l k x0 x9 x10 x11)
noncomputable def impl_NfaOk.fv (l0 : List (S90)) : Option (Bool) := limOf (fun k => impl_NfaOk.f k l0)
theorem impl_NfaOk.f_lim (l0 : List (S90)) : Lim (fun k => impl_NfaOk.f k l0) (impl_NfaOk.fv l0) := Lim.of (fun k => impl_NfaOk.mono l0 k)
set_option maxHeartbeats 4000000 in
theorem impl_NfaOk.l0v_eq (x0 : List (S90)) (x9 : List (S90)) (x10 : Int) (x11 : Int) : impl_NfaOk.l0v x0 x9 x10 x11 = (if x11 < x10 then (if 0 ≤ x11 then (if x11 < (x9.length : Int) then ((impl_placeOk.fv ((rd_T90 x9 x11).f0) ((rd_T90 x9 x11).f1) ((rd_T90 x9 x11).f2) ((rd_T90 x9 x11).f3) ((rd_T90 x9 x11).f4) ((rd_T90 x9 x11).f5) (x0.length : Int) (x11 == (wrap64 ((x0.length : Int) - 1)))).bind fun t140 => (if t140 = true then (impl_NfaOk.l0v x0 x9 x10 (wrap64 (x11 + 1))) else (some false))) else (none)) else (none)) else (some true)) := by
  refine Lim.succ (impl_NfaOk.l0_lim x0 x9 x10 x11) ?_
  simp only [impl_NfaOk.l0]
  repeat' first
    | (with_reducible apply impl_NfaOk.l0_lim)
    | (with_reducible apply impl_placeOk.f_lim)
    | (with_reducible exact Lim.const _)
    | (with_reducible refine Lim.ite ?_ ?_)
    | (with_reducible refine Lim.bind ?_ (fun _ => ?_))
    | apply impl_NfaOk.l0_lim
    | apply impl_placeOk.f_lim
    | exact Lim.const _
    | refine Lim.ite ?_ ?_
    | refine Lim.bind ?_ (fun _ => ?_)
set_option maxHeartbeats 4000000 in
theorem impl_NfaOk.fv_eq (l0 : List (S90)) : impl_NfaOk.fv l0 = ((impl_in.f (l0.length : Int) 1 400).bind fun t137 => (if t137 = true then (impl_NfaOk.l0v l0 l0 (l0.length : Int) 0) else (some false))) := by
  refine Lim.eq (impl_NfaOk.f_lim l0) ?_
  simp only [impl_NfaOk.f]
  repeat' first
    | (with_reducible apply impl_NfaOk.l0_lim)
    | (with_reducible exact Lim.const _)
    | (with_reducible refine Lim.ite ?_ ?_)
    | (with_reducible refine Lim.bind ?_ (fun _ => ?_))
    | apply impl_NfaOk.l0_lim
    | exact Lim.const _
    | refine Lim.ite ?_ ?_
    | refine Lim.bind ?_ (fun _ => ?_)

/-! ### laws_eqPlace -/
def laws_eqPlace.f (a0_0 : Int) (a0_1 : Int) (a0_2 : ByteArray) (a0_3 : Bool) (a0_4 : Int) (a0_5 : Int) (a1_0 : Int) (a1_1 : Int) (a1_2 : ByteArray) (a1_3 : Bool) (a1_4 : Int) (a1_5 : Int) : Option (Bool) := if a0_0 = a1_0 then (if a0_1 = a1_1 then (if a0_2.toList = a1_2.toList then (if (a0_3 != a1_3) = true then (some false) else (if a0_4 = a1_4 then (if a0_5 = a1_5 then (some true) else (some false)) else (some false))) else (some false)) else (some false)) else (some false)

/-! ### laws_eqPlaceS -/
def laws_eqPlaceS.l0 : Nat → List (S90) → List (S90) → Int → Option (Bool)
  | 0, _, _, _ => none
  | k + 1, x0, x1, x5 => if x5 < (x0.length : Int) then (if 0 ≤ x5 then (if x5 < (x1.length : Int) then ((laws_eqPlace.f ((rd_T90 x0 x5).f0) ((rd_T90 x0 x5).f1) ((rd_T90 x0 x5).f2) ((rd_T90 x0 x5).f3) ((rd_T90 x0 x5).f4) ((rd_T90 x0 x5).f5) ((rd_T90 x1 x5).f0) ((rd_T90 x1 x5).f1) ((rd_T90 x1 x5).f2) ((rd_T90 x1 x5).f3) ((rd_T90 x1 x5).f4) ((rd_T90 x1 x5).f5)).bind fun t145 => (if t145 = true then (laws_eqPlaceS.l0 k x0 x1 (wrap64 (x5 + 1))) else (some false))) else (none)) else (none)) else (some true)
def laws_eqPlaceS.f (k : Nat) (l0 : List (S90)) (l1 : List (S90)) : Option (Bool) := if (l0.length : Int) = (l1.length : Int) then (laws_eqPlaceS.l0 k l0 l1 0) else (some false)
theorem laws_eqPlaceS.mono_l : ∀ k, (∀ y0 y1 y2, LeO (laws_eqPlaceS.l0 k y0 y1 y2) (laws_eqPlaceS.l0 (k + 1) y0 y1 y2))
  | 0 => fun _ _ _ r h => by simp [laws_eqPlaceS.l0] at h
  | k + 1 => by
    have ih0 := laws_eqPlaceS.mono_l k
    · intro y0 y1 y2
      unfold laws_eqPlaceS.l0
      repeat' first
      | (with_reducible exact ih0 _ _ _)
      | (with_reducible exact LeO.refl _)
      | (with_reducible exact LeO.none _)
      | (with_reducible refine LeO.ite ?_ ?_)
      | (with_reducible refine LeO.bind ?_ (fun _ => ?_))
      | exact ih0 _ _ _
      | exact LeO.none _
      | refine LeO.ite ?_ ?_
      | refine LeO.bind ?_ (fun _ => ?_)
theorem laws_eqPlaceS.mono : ∀ a0 a1 k, LeO (laws_eqPlaceS.f k a0 a1) (laws_eqPlaceS.f (k + 1) a0 a1) := by
  intro a0 a1 k
  have ih0 := laws_eqPlaceS.mono_l k
  unfold laws_eqPlaceS.f
  repeat' first
      | (with_reducible exact ih0 _ _ _)
      | (with_reducible exact LeO.refl _)
      | (with_reducible exact LeO.none _)
      | (with_reducible refine LeO.ite ?_ ?_)
      | (with_reducible refine LeO.bind ?_ (fun _ => ?_))
      | exact ih0 _ _ _
      | exact LeO.none _
      | refine LeO.ite ?_ ?_
      | refine LeO.bind ?_ (fun _ => ?_)
noncomputable def laws_eqPlaceS.l0v (x0 : List (S90)) (x1 : List (S90)) (x5 : Int) : Option (Bool) := limOf (fun k => laws_eqPlaceS.l0 k x0 x1 x5)
theorem laws_eqPlaceS.l0_lim (x0 : List (S90)) (x1 : List (S90)) (x5 : Int) : Lim (fun k => laws_eqPlaceS.l0 k x0 x1 x5) (laws_eqPlaceS.l0v x0 x1 x5) := Lim.of (fun k => laws_eqPlaceS.mono_l k x0 x1 x5)
noncomputable def laws_eqPlaceS.fv (l0 : List (S90)) (l1 : List (S90)) : Option (Bool) := limOf (fun k => laws_eqPlaceS.f k l0 l1)
theorem laws_eqPlaceS.f_lim (l0 : List (S90)) (l1 : List (S90)) : Lim (fun k => laws_eqPlaceS.f k l0 l1) (laws_eqPlaceS.fv l0 l1) := Lim.of (fun k => laws_eqPlaceS.mono l0 l1 k)
set_option maxHeartbeats 4000000 in
theorem laws_eqPlaceS.l0v_eq (x0 : List (S90)) (x1 : List (S90)) (x5 : Int) : laws_eqPlaceS.l0v x0 x1 x5 = (if x5 < (x0.length : Int) then (if 0 ≤ x5 then (if x5 < (x1.length : Int) then ((laws_eqPlace.f ((rd_T90 x0 x5).f0) ((rd_T90 x0 x5).f1) ((rd_T90 x0 x5).f2) ((rd_T90 x0 x5).f3) ((rd_T90 x0 x5).f4) ((rd_T90 x0 x5).f5) ((rd_T90 x1 x5).f0) ((rd_T90 x1 x5).f1) ((rd_T90 x1 x5).f2) ((rd_T90 x1 x5).f3) ((rd_T90 x1 x5).f4) ((rd_T90 x1 x5).f5)).bind fun t145 => (if t145 = true then (laws_eqPlaceS.l0v x0 x1 (wrap64 (x5 + 1))) else (some false))) else (none)) else (none)) else (some true)) := by
  refine Lim.succ (laws_eqPlaceS.l0_lim x0 x1 x5) ?_
  simp only [laws_eqPlaceS.l0]
  repeat' first
    | (with_reducible apply laws_eqPlaceS.l0_lim)
    | (with_reducible exact Lim.const _)
    | (with_reducible refine Lim.ite ?_ ?_)
    | (with_reducible refine Lim.bind ?_ (fun _ => ?_))
    | apply laws_eqPlaceS.l0_lim
    | exact Lim.const _
    | refine Lim.ite ?_ ?_
    | refine Lim.bind ?_ (fun _ => ?_)
set_option maxHeartbeats 4000000 in
theorem laws_eqPlaceS.fv_eq (l0 : List (S90)) (l1 : List (S90)) : laws_eqPlaceS.fv l0 l1 = (if (l0.length : Int) = (l1.length : Int) then (laws_eqPlaceS.l0v l0 l1 0) else (some false)) := by
  refine Lim.eq (laws_eqPlaceS.f_lim l0 l1) ?_
  simp only [laws_eqPlaceS.f]
  repeat' first
    | (with_reducible apply laws_eqPlaceS.l0_lim)
    | (with_reducible exact Lim.const _)
    | (with_reducible refine Lim.ite ?_ ?_)
    | (with_reducible refine Lim.bind ?_ (fun _ => ?_))
    | apply laws_eqPlaceS.l0_lim
    | exact Lim.const _
    | refine Lim.ite ?_ ?_
    | refine Lim.bind ?_ (fun _ => ?_)

/-! ### laws_FnExactNfaOk -/
def laws_FnExactNfaOk.f (k : Nat) (l0 : List (S88)) : Option (Bool) := (laws_szPlaceS.f k l0 1048576).bind fun t146 => (if t146 < 0 then (some true) else ((laws_toPlaceS.f k l0).bind fun t147 => ((spec_NfaOk.f k t147).bind fun t150 => ((laws_toPlaceS.f k l0).bind fun t151 => ((impl_NfaOk.f k t151).bind fun t154 => (if (t154 != t150) = true then (some false) else ((laws_toPlaceS.f k l0).bind fun t155 => ((laws_eqPlaceS.f k t151 t155).bind fun t158 => (if t158 = true then (some true) else (some false))))))))))
theorem laws_FnExactNfaOk.mono : ∀ a0 k, LeO (laws_FnExactNfaOk.f k a0) (laws_FnExactNfaOk.f (k + 1) a0) := by
  intro a0 k
  unfold laws_FnExactNfaOk.f
  repeat' first
      | (with_reducible exact impl_NfaOk.mono _ _)
      | (with_reducible exact laws_eqPlaceS.mono _ _ _)
      | (with_reducible exact laws_szPlaceS.mono _ _ _)
      | (with_reducible exact laws_toPlaceS.mono _ _)
      | (with_reducible exact spec_NfaOk.mono _ _)
      | (with_reducible exact LeO.refl _)
      | (with_reducible exact LeO.none _)
      | (with_reducible refine LeO.ite ?_ ?_)
      | (with_reducible refine LeO.bind ?_ (fun _ => ?_))
      | exact impl_NfaOk.mono _ _
      | exact laws_eqPlaceS.mono _ _ _
      | exact laws_szPlaceS.mono _ _ _
      | exact laws_toPlaceS.mono _ _
      | exact spec_NfaOk.mono _ _
      | exact LeO.none _
      | refine LeO.ite ?_ ?_
      | refine LeO.bind ?_ (fun _ => ?_)
noncomputable def laws_FnExactNfaOk.fv (l0 : List (S88)) : Option (Bool) := limOf (fun k => laws_FnExactNfaOk.f k l0)
theorem laws_FnExactNfaOk.f_lim (l0 : List (S88)) : Lim (fun k => laws_FnExactNfaOk.f k l0) (laws_FnExactNfaOk.fv l0) := Lim.of (fun k => laws_FnExactNfaOk.mono l0 k)
set_option maxHeartbeats 4000000 in
theorem laws_FnExactNfaOk.fv_eq (l0 : List (S88)) : laws_FnExactNfaOk.fv l0 = ((laws_szPlaceS.fv l0 1048576).bind fun t146 => (if t146 < 0 then (some true) else ((laws_toPlaceS.fv l0).bind fun t147 => ((spec_NfaOk.fv t147).bind fun t150 => ((laws_toPlaceS.fv l0).bind fun t151 => ((impl_NfaOk.fv t151).bind fun t154 => (if (t154 != t150) = true then (some false) else ((laws_toPlaceS.fv l0).bind fun t155 => ((laws_eqPlaceS.fv t151 t155).bind fun t158 => (if t158 = true then (some true) else (some false))))))))))) := by
  refine Lim.eq (laws_FnExactNfaOk.f_lim l0) ?_
  simp only [laws_FnExactNfaOk.f]
  repeat' first
    | (with_reducible apply impl_NfaOk.f_lim)
    | (with_reducible apply laws_eqPlaceS.f_lim)
    | (with_reducible apply laws_szPlaceS.f_lim)
    | (with_reducible apply laws_toPlaceS.f_lim)
    | (with_reducible apply spec_NfaOk.f_lim)
    | (with_reducible exact Lim.const _)
    | (with_reducible refine Lim.ite ?_ ?_)
    | (with_reducible refine Lim.bind ?_ (fun _ => ?_))
    | apply impl_NfaOk.f_lim
    | apply laws_eqPlaceS.f_lim
    | apply laws_szPlaceS.f_lim
    | apply laws_toPlaceS.f_lim
    | apply spec_NfaOk.f_lim
    | exact Lim.const _
    | refine Lim.ite ?_ ?_
    | refine Lim.bind ?_ (fun _ => ?_)

end Go.Proofs.Ytgdhiccjllpogaa.QFnExactNfaOk
