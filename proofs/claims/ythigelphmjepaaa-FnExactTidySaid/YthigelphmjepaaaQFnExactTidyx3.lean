/- Written by wip/pr2, a program of this session. -/
import Derived.Test.YthigelphmjepaaaQFnExactTidyx0
import Derived.Test.YthigelphmjepaaaQFnExactTidyx1
import Derived.Test.YthigelphmjepaaaQFnExactTidyx2
import Derived.Test.YthigelphmjepaaaWFnExactTidy
namespace Go.Proofs.Ythigelphmjepaaa.QFnExactTidy
open Go.RowKit Go.Proofs.YthigelphmjepaaaW.PrintWords Go.Proofs.YthigelphmjepaaaW.PrintLast Go.Proofs.YthigelphmjepaaaW.PrintMore
attribute [local go_sem] max2_int min2_int max_two min_two max_three min_three max_four min_four   -- for this text's walks alone
set_option linter.unusedVariables false
set_option linter.unusedSimpArgs false
set_option maxHeartbeats 8000000

open Go.Proofs.YthigelphmjepaaaW.Lims
/-! ### spec_Deep -/
mutual
def spec_Deep.l0 : Nat → Int → Int → Int → Int → ByteArray → List (S66) → Option (Int)
  | 0, _, _, _, _, _, _ => none
  | k + 1, x3, x4, x165000, x165001, x165002, x165003 => if x4 < (x165003.length : Int) then (if 0 ≤ x4 then ((spec_Deep.f k ((rd_T66 x165003 x4).f0) ((rd_T66 x165003 x4).f1) ((rd_T66 x165003 x4).f2) ((rd_T66 x165003 x4).f3)).bind fun t166 => ((spec_l1Max.f x3 t166).bind fun t167 => (spec_Deep.l0 k t167 (wrap64 (x4 + 1)) x165000 x165001 x165002 x165003))) else (none)) else (some (wrap64 (x3 + 1)))
def spec_Deep.f : Nat → Int → Int → ByteArray → List (S66) → Option (Int)
  | 0, _, _, _, _ => none
  | k + 1, a0_0, a0_1, a0_2, l0_3 => spec_Deep.l0 k 0 0 a0_0 a0_1 a0_2 l0_3
end
theorem spec_Deep.mono_l : ∀ k, (∀ y0 y1 y2 y3, LeO (spec_Deep.f k y0 y1 y2 y3) (spec_Deep.f (k + 1) y0 y1 y2 y3)) ∧ (∀ y0 y1 y2 y3 y4 y5, LeO (spec_Deep.l0 k y0 y1 y2 y3 y4 y5) (spec_Deep.l0 (k + 1) y0 y1 y2 y3 y4 y5))
  | 0 => ⟨fun _ _ _ _ r h => by simp [spec_Deep.f] at h, fun _ _ _ _ _ _ r h => by simp [spec_Deep.l0] at h⟩
  | k + 1 => by
    obtain ⟨ih0, ih1⟩ := spec_Deep.mono_l k
    refine ⟨?_, ?_⟩
    · intro y0 y1 y2 y3
      unfold spec_Deep.f
      repeat' first
      | (with_reducible exact ih0 _ _ _ _)
      | (with_reducible exact ih1 _ _ _ _ _ _)
      | (with_reducible exact LeO.refl _)
      | (with_reducible exact LeO.none _)
      | (with_reducible refine LeO.ite ?_ ?_)
      | (with_reducible refine LeO.bind ?_ (fun _ => ?_))
      | exact ih0 _ _ _ _
      | exact ih1 _ _ _ _ _ _
      | exact LeO.none _
      | refine LeO.ite ?_ ?_
      | refine LeO.bind ?_ (fun _ => ?_)
    · intro y0 y1 y2 y3 y4 y5
      unfold spec_Deep.l0
      repeat' first
      | (with_reducible exact ih0 _ _ _ _)
      | (with_reducible exact ih1 _ _ _ _ _ _)
      | (with_reducible exact LeO.refl _)
      | (with_reducible exact LeO.none _)
      | (with_reducible refine LeO.ite ?_ ?_)
      | (with_reducible refine LeO.bind ?_ (fun _ => ?_))
      | exact ih0 _ _ _ _
      | exact ih1 _ _ _ _ _ _
      | exact LeO.none _
      | refine LeO.ite ?_ ?_
      | refine LeO.bind ?_ (fun _ => ?_)
theorem spec_Deep.mono : ∀ a0 a1 a2 a3 k, LeO (spec_Deep.f k a0 a1 a2 a3) (spec_Deep.f (k + 1) a0 a1 a2 a3) := by
  intro a0 a1 a2 a3 k
  obtain ⟨ih0, ih1⟩ := spec_Deep.mono_l k
  exact ih0 a0 a1 a2 a3
noncomputable def spec_Deep.l0v (x3 : Int) (x4 : Int) (x165000 : Int) (x165001 : Int) (x165002 : ByteArray) (x165003 : List (S66)) : Option (Int) := limOf (fun k => spec_Deep.l0 k x3 x4 x165000 x165001 x165002 x165003)
theorem spec_Deep.l0_lim (x3 : Int) (x4 : Int) (x165000 : Int) (x165001 : Int) (x165002 : ByteArray) (x165003 : List (S66)) : Lim (fun k => spec_Deep.l0 k x3 x4 x165000 x165001 x165002 x165003) (spec_Deep.l0v x3 x4 x165000 x165001 x165002 x165003) := Lim.of (fun k => (spec_Deep.mono_l k).2 x3 x4 x165000 x165001 x165002 x165003)
noncomputable def spec_Deep.fv (a0_0 : Int) (a0_1 : Int) (a0_2 : ByteArray) (l0_3 : List (S66)) : Option (Int) := limOf (fun k => spec_Deep.f k a0_0 a0_1 a0_2 l0_3)
theorem spec_Deep.f_lim (a0_0 : Int) (a0_1 : Int) (a0_2 : ByteArray) (l0_3 : List (S66)) : Lim (fun k => spec_Deep.f k a0_0 a0_1 a0_2 l0_3) (spec_Deep.fv a0_0 a0_1 a0_2 l0_3) := Lim.of (fun k => (spec_Deep.mono_l k).1 a0_0 a0_1 a0_2 l0_3)
set_option maxHeartbeats 4000000 in
theorem spec_Deep.l0v_eq (x3 : Int) (x4 : Int) (x165000 : Int) (x165001 : Int) (x165002 : ByteArray) (x165003 : List (S66)) : spec_Deep.l0v x3 x4 x165000 x165001 x165002 x165003 = (if x4 < (x165003.length : Int) then (if 0 ≤ x4 then ((spec_Deep.fv ((rd_T66 x165003 x4).f0) ((rd_T66 x165003 x4).f1) ((rd_T66 x165003 x4).f2) ((rd_T66 x165003 x4).f3)).bind fun t166 => ((spec_l1Max.f x3 t166).bind fun t167 => (spec_Deep.l0v t167 (wrap64 (x4 + 1)) x165000 x165001 x165002 x165003))) else (none)) else (some (wrap64 (x3 + 1)))) := by
  refine Lim.succ (spec_Deep.l0_lim x3 x4 x165000 x165001 x165002 x165003) ?_
  simp only [spec_Deep.l0]
  repeat' first
    | (with_reducible apply spec_Deep.f_lim)
    | (with_reducible apply spec_Deep.l0_lim)
    | (with_reducible exact Lim.const _)
    | (with_reducible refine Lim.ite ?_ ?_)
    | (with_reducible refine Lim.bind ?_ (fun _ => ?_))
    | apply spec_Deep.f_lim
    | apply spec_Deep.l0_lim
    | exact Lim.const _
    | refine Lim.ite ?_ ?_
    | refine Lim.bind ?_ (fun _ => ?_)
set_option maxHeartbeats 4000000 in
theorem spec_Deep.fv_eq (a0_0 : Int) (a0_1 : Int) (a0_2 : ByteArray) (l0_3 : List (S66)) : spec_Deep.fv a0_0 a0_1 a0_2 l0_3 = (spec_Deep.l0v 0 0 a0_0 a0_1 a0_2 l0_3) := by
  refine Lim.succ (spec_Deep.f_lim a0_0 a0_1 a0_2 l0_3) ?_
  simp only [spec_Deep.f]
  repeat' first
    | (with_reducible apply spec_Deep.l0_lim)
    | (with_reducible exact Lim.const _)
    | (with_reducible refine Lim.ite ?_ ?_)
    | (with_reducible refine Lim.bind ?_ (fun _ => ?_))
    | apply spec_Deep.l0_lim
    | exact Lim.const _
    | refine Lim.ite ?_ ?_
    | refine Lim.bind ?_ (fun _ => ?_)

/-! ### spec_Tidy -/
mutual
def spec_Tidy.l0 : Nat → List (S68) → Int → Option (Bool)
  | 0, _, _ => none
  | k + 1, x0, x3 => if x3 < (x0.length : Int) then (if 0 ≤ x3 then (if ((rd_T68 x0 x3).f1.f0) = 0 then (if ((rd_T68 x0 x3).f1.f1) = 0 then (if ((rd_T68 x0 x3).f1.f2).toList = ([] : List UInt8) then (spec_Tidy.j1 k x0 x3 ((((rd_T68 x0 x3).f1.f3).length : Int) == 0) ((rd_T68 x0 x3).f0) ((rd_T68 x0 x3).f1.f0) ((rd_T68 x0 x3).f1.f1) ((rd_T68 x0 x3).f1.f2) ((rd_T68 x0 x3).f1.f3) ((rd_T68 x0 x3).f2.f0) ((rd_T68 x0 x3).f2.f1) ((rd_T68 x0 x3).f2.f2) ((rd_T68 x0 x3).f2.f3)) else (spec_Tidy.j1 k x0 x3 false ((rd_T68 x0 x3).f0) ((rd_T68 x0 x3).f1.f0) ((rd_T68 x0 x3).f1.f1) ((rd_T68 x0 x3).f1.f2) ((rd_T68 x0 x3).f1.f3) ((rd_T68 x0 x3).f2.f0) ((rd_T68 x0 x3).f2.f1) ((rd_T68 x0 x3).f2.f2) ((rd_T68 x0 x3).f2.f3))) else (spec_Tidy.j1 k x0 x3 false ((rd_T68 x0 x3).f0) ((rd_T68 x0 x3).f1.f0) ((rd_T68 x0 x3).f1.f1) ((rd_T68 x0 x3).f1.f2) ((rd_T68 x0 x3).f1.f3) ((rd_T68 x0 x3).f2.f0) ((rd_T68 x0 x3).f2.f1) ((rd_T68 x0 x3).f2.f2) ((rd_T68 x0 x3).f2.f3))) else (spec_Tidy.j1 k x0 x3 false ((rd_T68 x0 x3).f0) ((rd_T68 x0 x3).f1.f0) ((rd_T68 x0 x3).f1.f1) ((rd_T68 x0 x3).f1.f2) ((rd_T68 x0 x3).f1.f3) ((rd_T68 x0 x3).f2.f0) ((rd_T68 x0 x3).f2.f1) ((rd_T68 x0 x3).f2.f2) ((rd_T68 x0 x3).f2.f3))) else (none)) else (some true)
def spec_Tidy.j1 : Nat → List (S68) → Int → Bool → Int → Int → Int → ByteArray → List (S66) → Int → Int → ByteArray → List (S66) → Option (Bool)
  | 0, _, _, _, _, _, _, _, _, _, _, _, _ => none
  | k + 1, x0, x3, x5, x170000, x170001, x170002, x170003, x170004, x170005, x170006, x170007, x170008 => (spec_l1In.f x170000 1 2).bind fun t170 => (if t170 = true then (if x5 = true then (spec_Tidy.j2 k x0 x3 true x170000 x170001 x170002 x170003 x170004 x170005 x170006 x170007 x170008) else (if x170000 = 3 then ((spec_l9IsE.f x170001).bind fun t171 => (if t171 = true then ((spec_l9Node.f k x170001 x170002 x170003 x170004).bind fun t172 => (if t172 = true then ((spec_Deep.f k x170001 x170002 x170003 x170004).bind fun t173 => (spec_Tidy.j2 k x0 x3 (decide (t173 ≤ 16)) x170000 x170001 x170002 x170003 x170004 x170005 x170006 x170007 x170008)) else (spec_Tidy.j2 k x0 x3 false x170000 x170001 x170002 x170003 x170004 x170005 x170006 x170007 x170008))) else (spec_Tidy.j2 k x0 x3 false x170000 x170001 x170002 x170003 x170004 x170005 x170006 x170007 x170008))) else (spec_Tidy.j2 k x0 x3 false x170000 x170001 x170002 x170003 x170004 x170005 x170006 x170007 x170008))) else (if x170000 = 3 then ((spec_l9IsE.f x170001).bind fun t174 => (if t174 = true then ((spec_l9Node.f k x170001 x170002 x170003 x170004).bind fun t175 => (if t175 = true then ((spec_Deep.f k x170001 x170002 x170003 x170004).bind fun t176 => (spec_Tidy.j2 k x0 x3 (decide (t176 ≤ 16)) x170000 x170001 x170002 x170003 x170004 x170005 x170006 x170007 x170008)) else (spec_Tidy.j2 k x0 x3 false x170000 x170001 x170002 x170003 x170004 x170005 x170006 x170007 x170008))) else (spec_Tidy.j2 k x0 x3 false x170000 x170001 x170002 x170003 x170004 x170005 x170006 x170007 x170008))) else (spec_Tidy.j2 k x0 x3 false x170000 x170001 x170002 x170003 x170004 x170005 x170006 x170007 x170008)))
def spec_Tidy.j2 : Nat → List (S68) → Int → Bool → Int → Int → Int → ByteArray → List (S66) → Int → Int → ByteArray → List (S66) → Option (Bool)
  | 0, _, _, _, _, _, _, _, _, _, _, _, _ => none
  | k + 1, x0, x3, x6, x170000, x170001, x170002, x170003, x170004, x170005, x170006, x170007, x170008 => if x6 = true then (if x170005 = 29 then ((spec_Deep.f k x170005 x170006 x170007 x170008).bind fun t177 => (if t177 > 16 then (some false) else ((spec_l9Node.f k x170005 x170006 x170007 x170008).bind fun t178 => (if t178 = true then (spec_Tidy.l0 k x0 (wrap64 (x3 + 1))) else (some false))))) else (some false)) else (some false)
end
def spec_Tidy.f (k : Nat) (l0 : List (S68)) : Option (Bool) := spec_Tidy.l0 k l0 0
theorem spec_Tidy.mono_l : ∀ k, (∀ y0 y1, LeO (spec_Tidy.l0 k y0 y1) (spec_Tidy.l0 (k + 1) y0 y1)) ∧ (∀ y0 y1 y2 y3 y4 y5 y6 y7 y8 y9 y10 y11, LeO (spec_Tidy.j1 k y0 y1 y2 y3 y4 y5 y6 y7 y8 y9 y10 y11) (spec_Tidy.j1 (k + 1) y0 y1 y2 y3 y4 y5 y6 y7 y8 y9 y10 y11)) ∧ (∀ y0 y1 y2 y3 y4 y5 y6 y7 y8 y9 y10 y11, LeO (spec_Tidy.j2 k y0 y1 y2 y3 y4 y5 y6 y7 y8 y9 y10 y11) (spec_Tidy.j2 (k + 1) y0 y1 y2 y3 y4 y5 y6 y7 y8 y9 y10 y11))
  | 0 => ⟨fun _ _ r h => by simp [spec_Tidy.l0] at h, fun _ _ _ _ _ _ _ _ _ _ _ _ r h => by simp [spec_Tidy.j1] at h, fun _ _ _ _ _ _ _ _ _ _ _ _ r h => by simp [spec_Tidy.j2] at h⟩
  | k + 1 => by
    obtain ⟨ih0, ih1, ih2⟩ := spec_Tidy.mono_l k
    refine ⟨?_, ?_, ?_⟩
    · intro y0 y1
      unfold spec_Tidy.l0
      repeat' first
      | (with_reducible exact ih0 _ _)
      | (with_reducible exact ih1 _ _ _ _ _ _ _ _ _ _ _ _)
      | (with_reducible exact ih2 _ _ _ _ _ _ _ _ _ _ _ _)
      | (with_reducible exact spec_Deep.mono _ _ _ _ _)
      | (with_reducible exact spec_l9Node.mono _ _ _ _ _)
      | (with_reducible exact LeO.refl _)
      | (with_reducible exact LeO.none _)
      | (with_reducible refine LeO.ite ?_ ?_)
      | (with_reducible refine LeO.bind ?_ (fun _ => ?_))
      | exact ih0 _ _
      | exact ih1 _ _ _ _ _ _ _ _ _ _ _ _
      | exact ih2 _ _ _ _ _ _ _ _ _ _ _ _
      | exact spec_Deep.mono _ _ _ _ _
      | exact spec_l9Node.mono _ _ _ _ _
      | exact LeO.none _
      | refine LeO.ite ?_ ?_
      | refine LeO.bind ?_ (fun _ => ?_)
    · intro y0 y1 y2 y3 y4 y5 y6 y7 y8 y9 y10 y11
      unfold spec_Tidy.j1
      repeat' first
      | (with_reducible exact ih0 _ _)
      | (with_reducible exact ih1 _ _ _ _ _ _ _ _ _ _ _ _)
      | (with_reducible exact ih2 _ _ _ _ _ _ _ _ _ _ _ _)
      | (with_reducible exact spec_Deep.mono _ _ _ _ _)
      | (with_reducible exact spec_l9Node.mono _ _ _ _ _)
      | (with_reducible exact LeO.refl _)
      | (with_reducible exact LeO.none _)
      | (with_reducible refine LeO.ite ?_ ?_)
      | (with_reducible refine LeO.bind ?_ (fun _ => ?_))
      | exact ih0 _ _
      | exact ih1 _ _ _ _ _ _ _ _ _ _ _ _
      | exact ih2 _ _ _ _ _ _ _ _ _ _ _ _
      | exact spec_Deep.mono _ _ _ _ _
      | exact spec_l9Node.mono _ _ _ _ _
      | exact LeO.none _
      | refine LeO.ite ?_ ?_
      | refine LeO.bind ?_ (fun _ => ?_)
    · intro y0 y1 y2 y3 y4 y5 y6 y7 y8 y9 y10 y11
      unfold spec_Tidy.j2
      repeat' first
      | (with_reducible exact ih0 _ _)
      | (with_reducible exact ih1 _ _ _ _ _ _ _ _ _ _ _ _)
      | (with_reducible exact ih2 _ _ _ _ _ _ _ _ _ _ _ _)
      | (with_reducible exact spec_Deep.mono _ _ _ _ _)
      | (with_reducible exact spec_l9Node.mono _ _ _ _ _)
      | (with_reducible exact LeO.refl _)
      | (with_reducible exact LeO.none _)
      | (with_reducible refine LeO.ite ?_ ?_)
      | (with_reducible refine LeO.bind ?_ (fun _ => ?_))
      | exact ih0 _ _
      | exact ih1 _ _ _ _ _ _ _ _ _ _ _ _
      | exact ih2 _ _ _ _ _ _ _ _ _ _ _ _
      | exact spec_Deep.mono _ _ _ _ _
      | exact spec_l9Node.mono _ _ _ _ _
      | exact LeO.none _
      | refine LeO.ite ?_ ?_
      | refine LeO.bind ?_ (fun _ => ?_)
theorem spec_Tidy.mono : ∀ a0 k, LeO (spec_Tidy.f k a0) (spec_Tidy.f (k + 1) a0) := by
  intro a0 k
  obtain ⟨ih0, ih1, ih2⟩ := spec_Tidy.mono_l k
  unfold spec_Tidy.f
  repeat' first
      | (with_reducible exact ih0 _ _)
      | (with_reducible exact ih1 _ _ _ _ _ _ _ _ _ _ _ _)
      | (with_reducible exact ih2 _ _ _ _ _ _ _ _ _ _ _ _)
      | (with_reducible exact spec_Deep.mono _ _ _ _ _)
      | (with_reducible exact spec_l9Node.mono _ _ _ _ _)
      | (with_reducible exact LeO.refl _)
      | (with_reducible exact LeO.none _)
      | (with_reducible refine LeO.ite ?_ ?_)
      | (with_reducible refine LeO.bind ?_ (fun _ => ?_))
      | exact ih0 _ _
      | exact ih1 _ _ _ _ _ _ _ _ _ _ _ _
      | exact ih2 _ _ _ _ _ _ _ _ _ _ _ _
      | exact spec_Deep.mono _ _ _ _ _
      | exact spec_l9Node.mono _ _ _ _ _
      | exact LeO.none _
      | refine LeO.ite ?_ ?_
      | refine LeO.bind ?_ (fun _ => ?_)
noncomputable def spec_Tidy.l0v (x0 : List (S68)) (x3 : Int) : Option (Bool) := limOf (fun k => spec_Tidy.l0 k x0 x3)
theorem spec_Tidy.l0_lim (x0 : List (S68)) (x3 : Int) : Lim (fun k => spec_Tidy.l0 k x0 x3) (spec_Tidy.l0v x0 x3) := Lim.of (fun k => (spec_Tidy.mono_l k).1 x0 x3)
noncomputable def spec_Tidy.j1v (x0 : List (S68)) (x3 : Int) (x5 : Bool) (x170000 : Int) (x170001 : Int) (x170002 : Int) (x170003 : ByteArray) (x170004 : List (S66)) (x170005 : Int) (x170006 : Int) (x170007 : ByteArray) (x170008 : List (S66)) : Option (Bool) := limOf (fun k => spec_Tidy.j1 k x0 x3 x5 x170000 x170001 x170002 x170003 x170004 x170005 x170006 x170007 x170008)
theorem spec_Tidy.j1_lim (x0 : List (S68)) (x3 : Int) (x5 : Bool) (x170000 : Int) (x170001 : Int) (x170002 : Int) (x170003 : ByteArray) (x170004 : List (S66)) (x170005 : Int) (x170006 : Int) (x170007 : ByteArray) (x170008 : List (S66)) : Lim (fun k => spec_Tidy.j1 k x0 x3 x5 x170000 x170001 x170002 x170003 x170004 x170005 x170006 x170007 x170008) (spec_Tidy.j1v x0 x3 x5 x170000 x170001 x170002 x170003 x170004 x170005 x170006 x170007 x170008) := Lim.of (fun k => (spec_Tidy.mono_l k).2.1 x0 x3 x5 x170000 x170001 x170002 x170003 x170004 x170005 x170006 x170007 x170008)
noncomputable def spec_Tidy.j2v (x0 : List (S68)) (x3 : Int) (x6 : Bool) (x170000 : Int) (x170001 : Int) (x170002 : Int) (x170003 : ByteArray) (x170004 : List (S66)) (x170005 : Int) (x170006 : Int) (x170007 : ByteArray) (x170008 : List (S66)) : Option (Bool) := limOf (fun k => spec_Tidy.j2 k x0 x3 x6 x170000 x170001 x170002 x170003 x170004 x170005 x170006 x170007 x170008)
theorem spec_Tidy.j2_lim (x0 : List (S68)) (x3 : Int) (x6 : Bool) (x170000 : Int) (x170001 : Int) (x170002 : Int) (x170003 : ByteArray) (x170004 : List (S66)) (x170005 : Int) (x170006 : Int) (x170007 : ByteArray) (x170008 : List (S66)) : Lim (fun k => spec_Tidy.j2 k x0 x3 x6 x170000 x170001 x170002 x170003 x170004 x170005 x170006 x170007 x170008) (spec_Tidy.j2v x0 x3 x6 x170000 x170001 x170002 x170003 x170004 x170005 x170006 x170007 x170008) := Lim.of (fun k => (spec_Tidy.mono_l k).2.2 x0 x3 x6 x170000 x170001 x170002 x170003 x170004 x170005 x170006 x170007 x170008)
noncomputable def spec_Tidy.fv (l0 : List (S68)) : Option (Bool) := limOf (fun k => spec_Tidy.f k l0)
theorem spec_Tidy.f_lim (l0 : List (S68)) : Lim (fun k => spec_Tidy.f k l0) (spec_Tidy.fv l0) := Lim.of (fun k => spec_Tidy.mono l0 k)
set_option maxHeartbeats 4000000 in
theorem spec_Tidy.l0v_eq (x0 : List (S68)) (x3 : Int) : spec_Tidy.l0v x0 x3 = (if x3 < (x0.length : Int) then (if 0 ≤ x3 then (if ((rd_T68 x0 x3).f1.f0) = 0 then (if ((rd_T68 x0 x3).f1.f1) = 0 then (if ((rd_T68 x0 x3).f1.f2).toList = ([] : List UInt8) then (spec_Tidy.j1v x0 x3 ((((rd_T68 x0 x3).f1.f3).length : Int) == 0) ((rd_T68 x0 x3).f0) ((rd_T68 x0 x3).f1.f0) ((rd_T68 x0 x3).f1.f1) ((rd_T68 x0 x3).f1.f2) ((rd_T68 x0 x3).f1.f3) ((rd_T68 x0 x3).f2.f0) ((rd_T68 x0 x3).f2.f1) ((rd_T68 x0 x3).f2.f2) ((rd_T68 x0 x3).f2.f3)) else (spec_Tidy.j1v x0 x3 false ((rd_T68 x0 x3).f0) ((rd_T68 x0 x3).f1.f0) ((rd_T68 x0 x3).f1.f1) ((rd_T68 x0 x3).f1.f2) ((rd_T68 x0 x3).f1.f3) ((rd_T68 x0 x3).f2.f0) ((rd_T68 x0 x3).f2.f1) ((rd_T68 x0 x3).f2.f2) ((rd_T68 x0 x3).f2.f3))) else (spec_Tidy.j1v x0 x3 false ((rd_T68 x0 x3).f0) ((rd_T68 x0 x3).f1.f0) ((rd_T68 x0 x3).f1.f1) ((rd_T68 x0 x3).f1.f2) ((rd_T68 x0 x3).f1.f3) ((rd_T68 x0 x3).f2.f0) ((rd_T68 x0 x3).f2.f1) ((rd_T68 x0 x3).f2.f2) ((rd_T68 x0 x3).f2.f3))) else (spec_Tidy.j1v x0 x3 false ((rd_T68 x0 x3).f0) ((rd_T68 x0 x3).f1.f0) ((rd_T68 x0 x3).f1.f1) ((rd_T68 x0 x3).f1.f2) ((rd_T68 x0 x3).f1.f3) ((rd_T68 x0 x3).f2.f0) ((rd_T68 x0 x3).f2.f1) ((rd_T68 x0 x3).f2.f2) ((rd_T68 x0 x3).f2.f3))) else (none)) else (some true)) := by
  refine Lim.succ (spec_Tidy.l0_lim x0 x3) ?_
  simp only [spec_Tidy.l0]
  repeat' first
    | (with_reducible apply spec_Tidy.j1_lim)
    | (with_reducible exact Lim.const _)
    | (with_reducible refine Lim.ite ?_ ?_)
    | (with_reducible refine Lim.bind ?_ (fun _ => ?_))
    | apply spec_Tidy.j1_lim
    | exact Lim.const _
    | refine Lim.ite ?_ ?_
    | refine Lim.bind ?_ (fun _ => ?_)
set_option maxHeartbeats 4000000 in
theorem spec_Tidy.j1v_eq (x0 : List (S68)) (x3 : Int) (x5 : Bool) (x170000 : Int) (x170001 : Int) (x170002 : Int) (x170003 : ByteArray) (x170004 : List (S66)) (x170005 : Int) (x170006 : Int) (x170007 : ByteArray) (x170008 : List (S66)) : spec_Tidy.j1v x0 x3 x5 x170000 x170001 x170002 x170003 x170004 x170005 x170006 x170007 x170008 = ((spec_l1In.f x170000 1 2).bind fun t170 => (if t170 = true then (if x5 = true then (spec_Tidy.j2v x0 x3 true x170000 x170001 x170002 x170003 x170004 x170005 x170006 x170007 x170008) else (if x170000 = 3 then ((spec_l9IsE.f x170001).bind fun t171 => (if t171 = true then ((spec_l9Node.fv x170001 x170002 x170003 x170004).bind fun t172 => (if t172 = true then ((spec_Deep.fv x170001 x170002 x170003 x170004).bind fun t173 => (spec_Tidy.j2v x0 x3 (decide (t173 ≤ 16)) x170000 x170001 x170002 x170003 x170004 x170005 x170006 x170007 x170008)) else (spec_Tidy.j2v x0 x3 false x170000 x170001 x170002 x170003 x170004 x170005 x170006 x170007 x170008))) else (spec_Tidy.j2v x0 x3 false x170000 x170001 x170002 x170003 x170004 x170005 x170006 x170007 x170008))) else (spec_Tidy.j2v x0 x3 false x170000 x170001 x170002 x170003 x170004 x170005 x170006 x170007 x170008))) else (if x170000 = 3 then ((spec_l9IsE.f x170001).bind fun t174 => (if t174 = true then ((spec_l9Node.fv x170001 x170002 x170003 x170004).bind fun t175 => (if t175 = true then ((spec_Deep.fv x170001 x170002 x170003 x170004).bind fun t176 => (spec_Tidy.j2v x0 x3 (decide (t176 ≤ 16)) x170000 x170001 x170002 x170003 x170004 x170005 x170006 x170007 x170008)) else (spec_Tidy.j2v x0 x3 false x170000 x170001 x170002 x170003 x170004 x170005 x170006 x170007 x170008))) else (spec_Tidy.j2v x0 x3 false x170000 x170001 x170002 x170003 x170004 x170005 x170006 x170007 x170008))) else (spec_Tidy.j2v x0 x3 false x170000 x170001 x170002 x170003 x170004 x170005 x170006 x170007 x170008)))) := by
  refine Lim.succ (spec_Tidy.j1_lim x0 x3 x5 x170000 x170001 x170002 x170003 x170004 x170005 x170006 x170007 x170008) ?_
  simp only [spec_Tidy.j1]
  repeat' first
    | (with_reducible apply spec_Deep.f_lim)
    | (with_reducible apply spec_Tidy.j2_lim)
    | (with_reducible apply spec_l9Node.f_lim)
    | (with_reducible exact Lim.const _)
    | (with_reducible refine Lim.ite ?_ ?_)
    | (with_reducible refine Lim.bind ?_ (fun _ => ?_))
    | apply spec_Deep.f_lim
    | apply spec_Tidy.j2_lim
    | apply spec_l9Node.f_lim
    | exact Lim.const _
    | refine Lim.ite ?_ ?_
    | refine Lim.bind ?_ (fun _ => ?_)
set_option maxHeartbeats 4000000 in
theorem spec_Tidy.j2v_eq (x0 : List (S68)) (x3 : Int) (x6 : Bool) (x170000 : Int) (x170001 : Int) (x170002 : Int) (x170003 : ByteArray) (x170004 : List (S66)) (x170005 : Int) (x170006 : Int) (x170007 : ByteArray) (x170008 : List (S66)) : spec_Tidy.j2v x0 x3 x6 x170000 x170001 x170002 x170003 x170004 x170005 x170006 x170007 x170008 = (if x6 = true then (if x170005 = 29 then ((spec_Deep.fv x170005 x170006 x170007 x170008).bind fun t177 => (if t177 > 16 then (some false) else ((spec_l9Node.fv x170005 x170006 x170007 x170008).bind fun t178 => (if t178 = true then (spec_Tidy.l0v x0 (wrap64 (x3 + 1))) else (some false))))) else (some false)) else (some false)) := by
  refine Lim.succ (spec_Tidy.j2_lim x0 x3 x6 x170000 x170001 x170002 x170003 x170004 x170005 x170006 x170007 x170008) ?_
  simp only [spec_Tidy.j2]
  repeat' first
    | (with_reducible apply spec_Deep.f_lim)
    | (with_reducible apply spec_Tidy.l0_lim)
    | (with_reducible apply spec_l9Node.f_lim)
    | (with_reducible exact Lim.const _)
    | (with_reducible refine Lim.ite ?_ ?_)
    | (with_reducible refine Lim.bind ?_ (fun _ => ?_))
    | apply spec_Deep.f_lim
    | apply spec_Tidy.l0_lim
    | apply spec_l9Node.f_lim
    | exact Lim.const _
    | refine Lim.ite ?_ ?_
    | refine Lim.bind ?_ (fun _ => ?_)
set_option maxHeartbeats 4000000 in
theorem spec_Tidy.fv_eq (l0 : List (S68)) : spec_Tidy.fv l0 = (spec_Tidy.l0v l0 0) := by
  refine Lim.eq (spec_Tidy.f_lim l0) ?_
  simp only [spec_Tidy.f]
  repeat' first
    | (with_reducible apply spec_Tidy.l0_lim)
    | (with_reducible exact Lim.const _)
    | (with_reducible refine Lim.ite ?_ ?_)
    | (with_reducible refine Lim.bind ?_ (fun _ => ?_))
    | apply spec_Tidy.l0_lim
    | exact Lim.const _
    | refine Lim.ite ?_ ?_
    | refine Lim.bind ?_ (fun _ => ?_)

/-! ### laws_toNode -/
mutual
def laws_toNodeS.l0 : Nat → List (S61) → List (S66) → Int → Option ((List (S66)))
  | 0, _, _, _ => none
  | k + 1, x0, x3, x4 => if x4 < (x0.length : Int) then (if 0 ≤ x4 then ((laws_toNode.f k ((rd_T61 x0 x4).f0) ((rd_T61 x0 x4).f1) ((rd_T61 x0 x4).f2) ((rd_T61 x0 x4).f3)).bind fun bt183 => (if x4 < (x3.length : Int) then (laws_toNodeS.l0 k x0 (x3.set (x4 : Int).toNat (⟨bt183.1, bt183.2.1, bt183.2.2.1, bt183.2.2.2⟩ : S66)) (wrap64 (x4 + 1))) else (none))) else (none)) else (some x3)
def laws_toNodeS.f : Nat → List (S61) → Option ((List (S66)))
  | 0, _ => none
  | k + 1, l0 => if 0 ≤ (l0.length : Int) then (if ((l0.length : Int) : Int).toNat ≤ 5026338869833 then (laws_toNodeS.l0 k l0 (List.replicate ((l0.length : Int) : Int).toNat z66) 0) else (none)) else (none)
def laws_toNode.f : Nat → Int → Int → ByteArray → List (S61) → Option (Int × Int × ByteArray × (List (S66)))
  | 0, _, _, _, _ => none
  | k + 1, a0_0, a0_1, a0_2, l0_3 => (laws_toNodeS.f k l0_3).bind fun t193 => (some (a0_0, a0_1, a0_2, t193))
end
set_option maxHeartbeats 8000000 in
theorem laws_toNodeS.mono_g : ∀ k, (∀ y0, LeO (laws_toNodeS.f k y0) (laws_toNodeS.f (k + 1) y0)) ∧ (∀ y0 y1 y2, LeO (laws_toNodeS.l0 k y0 y1 y2) (laws_toNodeS.l0 (k + 1) y0 y1 y2)) ∧ (∀ y0 y1 y2 y3, LeO (laws_toNode.f k y0 y1 y2 y3) (laws_toNode.f (k + 1) y0 y1 y2 y3))
  | 0 => ⟨fun _ r h => by simp [laws_toNodeS.f] at h, fun _ _ _ r h => by simp [laws_toNodeS.l0] at h, fun _ _ _ _ r h => by simp [laws_toNode.f] at h⟩
  | k + 1 => by
    obtain ⟨ih0, ih1, ih2⟩ := laws_toNodeS.mono_g k
    refine ⟨?_, ?_, ?_⟩
    · intro y0
      unfold laws_toNodeS.f
      repeat' first
      | (with_reducible exact ih0 _)
      | (with_reducible exact ih1 _ _ _)
      | (with_reducible exact ih2 _ _ _ _)
      | (with_reducible exact LeO.refl _)
      | (with_reducible exact LeO.none _)
      | (with_reducible refine LeO.ite ?_ ?_)
      | (with_reducible refine LeO.bind ?_ (fun _ => ?_))
      | exact ih0 _
      | exact ih1 _ _ _
      | exact ih2 _ _ _ _
      | exact LeO.none _
      | refine LeO.ite ?_ ?_
      | refine LeO.bind ?_ (fun _ => ?_)
    · intro y0 y1 y2
      unfold laws_toNodeS.l0
      repeat' first
      | (with_reducible exact ih0 _)
      | (with_reducible exact ih1 _ _ _)
      | (with_reducible exact ih2 _ _ _ _)
      | (with_reducible exact LeO.refl _)
      | (with_reducible exact LeO.none _)
      | (with_reducible refine LeO.ite ?_ ?_)
      | (with_reducible refine LeO.bind ?_ (fun _ => ?_))
      | exact ih0 _
      | exact ih1 _ _ _
      | exact ih2 _ _ _ _
      | exact LeO.none _
      | refine LeO.ite ?_ ?_
      | refine LeO.bind ?_ (fun _ => ?_)
    · intro y0 y1 y2 y3
      unfold laws_toNode.f
      repeat' first
      | (with_reducible exact ih0 _)
      | (with_reducible exact ih1 _ _ _)
      | (with_reducible exact ih2 _ _ _ _)
      | (with_reducible exact LeO.refl _)
      | (with_reducible exact LeO.none _)
      | (with_reducible refine LeO.ite ?_ ?_)
      | (with_reducible refine LeO.bind ?_ (fun _ => ?_))
      | exact ih0 _
      | exact ih1 _ _ _
      | exact ih2 _ _ _ _
      | exact LeO.none _
      | refine LeO.ite ?_ ?_
      | refine LeO.bind ?_ (fun _ => ?_)
theorem laws_toNodeS.mono : ∀ a0 k, LeO (laws_toNodeS.f k a0) (laws_toNodeS.f (k + 1) a0) := by
  intro a0 k
  obtain ⟨ih0, ih1, ih2⟩ := laws_toNodeS.mono_g k
  exact ih0 a0
theorem laws_toNode.mono : ∀ a0 a1 a2 a3 k, LeO (laws_toNode.f k a0 a1 a2 a3) (laws_toNode.f (k + 1) a0 a1 a2 a3) := by
  intro a0 a1 a2 a3 k
  obtain ⟨ih0, ih1, ih2⟩ := laws_toNodeS.mono_g k
  exact ih2 a0 a1 a2 a3
noncomputable def laws_toNodeS.l0v (x0 : List (S61)) (x3 : List (S66)) (x4 : Int) : Option ((List (S66))) := limOf (fun k => laws_toNodeS.l0 k x0 x3 x4)
theorem laws_toNodeS.l0_lim (x0 : List (S61)) (x3 : List (S66)) (x4 : Int) : Lim (fun k => laws_toNodeS.l0 k x0 x3 x4) (laws_toNodeS.l0v x0 x3 x4) := Lim.of (fun k => (laws_toNodeS.mono_g k).2.1 x0 x3 x4)
noncomputable def laws_toNodeS.fv (l0 : List (S61)) : Option ((List (S66))) := limOf (fun k => laws_toNodeS.f k l0)
theorem laws_toNodeS.f_lim (l0 : List (S61)) : Lim (fun k => laws_toNodeS.f k l0) (laws_toNodeS.fv l0) := Lim.of (fun k => (laws_toNodeS.mono_g k).1 l0)
noncomputable def laws_toNode.fv (a0_0 : Int) (a0_1 : Int) (a0_2 : ByteArray) (l0_3 : List (S61)) : Option (Int × Int × ByteArray × (List (S66))) := limOf (fun k => laws_toNode.f k a0_0 a0_1 a0_2 l0_3)
theorem laws_toNode.f_lim (a0_0 : Int) (a0_1 : Int) (a0_2 : ByteArray) (l0_3 : List (S61)) : Lim (fun k => laws_toNode.f k a0_0 a0_1 a0_2 l0_3) (laws_toNode.fv a0_0 a0_1 a0_2 l0_3) := Lim.of (fun k => (laws_toNodeS.mono_g k).2.2 a0_0 a0_1 a0_2 l0_3)
set_option maxHeartbeats 4000000 in
theorem laws_toNodeS.l0v_eq (x0 : List (S61)) (x3 : List (S66)) (x4 : Int) : laws_toNodeS.l0v x0 x3 x4 = (if x4 < (x0.length : Int) then (if 0 ≤ x4 then ((laws_toNode.fv ((rd_T61 x0 x4).f0) ((rd_T61 x0 x4).f1) ((rd_T61 x0 x4).f2) ((rd_T61 x0 x4).f3)).bind fun bt183 => (if x4 < (x3.length : Int) then (laws_toNodeS.l0v x0 (x3.set (x4 : Int).toNat (⟨bt183.1, bt183.2.1, bt183.2.2.1, bt183.2.2.2⟩ : S66)) (wrap64 (x4 + 1))) else (none))) else (none)) else (some x3)) := by
  refine Lim.succ (laws_toNodeS.l0_lim x0 x3 x4) ?_
  simp only [laws_toNodeS.l0]
  repeat' first
    | (with_reducible apply laws_toNode.f_lim)
    | (with_reducible apply laws_toNodeS.l0_lim)
    | (with_reducible exact Lim.const _)
    | (with_reducible refine Lim.ite ?_ ?_)
    | (with_reducible refine Lim.bind ?_ (fun _ => ?_))
    | apply laws_toNode.f_lim
    | apply laws_toNodeS.l0_lim
    | exact Lim.const _
    | refine Lim.ite ?_ ?_
    | refine Lim.bind ?_ (fun _ => ?_)
set_option maxHeartbeats 4000000 in
theorem laws_toNodeS.fv_eq (l0 : List (S61)) : laws_toNodeS.fv l0 = (if 0 ≤ (l0.length : Int) then (if ((l0.length : Int) : Int).toNat ≤ 5026338869833 then (laws_toNodeS.l0v l0 (List.replicate ((l0.length : Int) : Int).toNat z66) 0) else (none)) else (none)) := by
  refine Lim.succ (laws_toNodeS.f_lim l0) ?_
  simp only [laws_toNodeS.f]
  repeat' first
    | (with_reducible apply laws_toNodeS.l0_lim)
    | (with_reducible exact Lim.const _)
    | (with_reducible refine Lim.ite ?_ ?_)
    | (with_reducible refine Lim.bind ?_ (fun _ => ?_))
    | apply laws_toNodeS.l0_lim
    | exact Lim.const _
    | refine Lim.ite ?_ ?_
    | refine Lim.bind ?_ (fun _ => ?_)

set_option maxHeartbeats 4000000 in
theorem laws_toNode.fv_eq (a0_0 : Int) (a0_1 : Int) (a0_2 : ByteArray) (l0_3 : List (S61)) : laws_toNode.fv a0_0 a0_1 a0_2 l0_3 = ((laws_toNodeS.fv l0_3).bind fun t193 => (some (a0_0, a0_1, a0_2, t193))) := by
  refine Lim.succ (laws_toNode.f_lim a0_0 a0_1 a0_2 l0_3) ?_
  simp only [laws_toNode.f]
  repeat' first
    | (with_reducible apply laws_toNodeS.f_lim)
    | (with_reducible exact Lim.const _)
    | (with_reducible refine Lim.ite ?_ ?_)
    | (with_reducible refine Lim.bind ?_ (fun _ => ?_))
    | apply laws_toNodeS.f_lim
    | exact Lim.const _
    | refine Lim.ite ?_ ?_
    | refine Lim.bind ?_ (fun _ => ?_)


/-! ### laws_toRule -/
def laws_toRule.f (k : Nat) (a0_0 : Int) (a0_1 : Int) (a0_2 : Int) (a0_3 : ByteArray) (l0_4 : List (S61)) (a0_5 : Int) (a0_6 : Int) (a0_7 : ByteArray) (l0_8 : List (S61)) : Option (Int × Int × Int × ByteArray × (List (S66)) × Int × Int × ByteArray × (List (S66))) := (laws_toNode.f k a0_1 a0_2 a0_3 l0_4).bind fun bt199 => ((laws_toNode.f k a0_5 a0_6 a0_7 l0_8).bind fun bt205 => (some (a0_0, bt199.1, bt199.2.1, bt199.2.2.1, bt199.2.2.2, bt205.1, bt205.2.1, bt205.2.2.1, bt205.2.2.2)))
theorem laws_toRule.mono : ∀ a0 a1 a2 a3 a4 a5 a6 a7 a8 k, LeO (laws_toRule.f k a0 a1 a2 a3 a4 a5 a6 a7 a8) (laws_toRule.f (k + 1) a0 a1 a2 a3 a4 a5 a6 a7 a8) := by
  intro a0 a1 a2 a3 a4 a5 a6 a7 a8 k
  unfold laws_toRule.f
  repeat' first
      | (with_reducible exact laws_toNode.mono _ _ _ _ _)
      | (with_reducible exact LeO.refl _)
      | (with_reducible exact LeO.none _)
      | (with_reducible refine LeO.ite ?_ ?_)
      | (with_reducible refine LeO.bind ?_ (fun _ => ?_))
      | exact laws_toNode.mono _ _ _ _ _
      | exact LeO.none _
      | refine LeO.ite ?_ ?_
      | refine LeO.bind ?_ (fun _ => ?_)
noncomputable def laws_toRule.fv (a0_0 : Int) (a0_1 : Int) (a0_2 : Int) (a0_3 : ByteArray) (l0_4 : List (S61)) (a0_5 : Int) (a0_6 : Int) (a0_7 : ByteArray) (l0_8 : List (S61)) : Option (Int × Int × Int × ByteArray × (List (S66)) × Int × Int × ByteArray × (List (S66))) := limOf (fun k => laws_toRule.f k a0_0 a0_1 a0_2 a0_3 l0_4 a0_5 a0_6 a0_7 l0_8)
theorem laws_toRule.f_lim (a0_0 : Int) (a0_1 : Int) (a0_2 : Int) (a0_3 : ByteArray) (l0_4 : List (S61)) (a0_5 : Int) (a0_6 : Int) (a0_7 : ByteArray) (l0_8 : List (S61)) : Lim (fun k => laws_toRule.f k a0_0 a0_1 a0_2 a0_3 l0_4 a0_5 a0_6 a0_7 l0_8) (laws_toRule.fv a0_0 a0_1 a0_2 a0_3 l0_4 a0_5 a0_6 a0_7 l0_8) := Lim.of (fun k => laws_toRule.mono a0_0 a0_1 a0_2 a0_3 l0_4 a0_5 a0_6 a0_7 l0_8 k)
set_option maxHeartbeats 4000000 in
theorem laws_toRule.fv_eq (a0_0 : Int) (a0_1 : Int) (a0_2 : Int) (a0_3 : ByteArray) (l0_4 : List (S61)) (a0_5 : Int) (a0_6 : Int) (a0_7 : ByteArray) (l0_8 : List (S61)) : laws_toRule.fv a0_0 a0_1 a0_2 a0_3 l0_4 a0_5 a0_6 a0_7 l0_8 = ((laws_toNode.fv a0_1 a0_2 a0_3 l0_4).bind fun bt199 => ((laws_toNode.fv a0_5 a0_6 a0_7 l0_8).bind fun bt205 => (some (a0_0, bt199.1, bt199.2.1, bt199.2.2.1, bt199.2.2.2, bt205.1, bt205.2.1, bt205.2.2.1, bt205.2.2.2)))) := by
  refine Lim.eq (laws_toRule.f_lim a0_0 a0_1 a0_2 a0_3 l0_4 a0_5 a0_6 a0_7 l0_8) ?_
  simp only [laws_toRule.f]
  repeat' first
    | (with_reducible apply laws_toNode.f_lim)
    | (with_reducible exact Lim.const _)
    | (with_reducible refine Lim.ite ?_ ?_)
    | (with_reducible refine Lim.bind ?_ (fun _ => ?_))
    | apply laws_toNode.f_lim
    | exact Lim.const _
    | refine Lim.ite ?_ ?_
    | refine Lim.bind ?_ (fun _ => ?_)

/-! ### laws_toRuleS -/
def laws_toRuleS.l0 : Nat → List (S63) → List (S68) → Int → Option ((List (S68)))
  | 0, _, _, _ => none
  | k + 1, x0, x3, x4 => if x4 < (x0.length : Int) then (if 0 ≤ x4 then ((laws_toRule.f k ((rd_T63 x0 x4).f0) ((rd_T63 x0 x4).f1.f0) ((rd_T63 x0 x4).f1.f1) ((rd_T63 x0 x4).f1.f2) ((rd_T63 x0 x4).f1.f3) ((rd_T63 x0 x4).f2.f0) ((rd_T63 x0 x4).f2.f1) ((rd_T63 x0 x4).f2.f2) ((rd_T63 x0 x4).f2.f3)).bind fun bt215 => (if x4 < (x3.length : Int) then (laws_toRuleS.l0 k x0 (x3.set (x4 : Int).toNat (⟨bt215.1, (⟨bt215.2.1, bt215.2.2.1, bt215.2.2.2.1, bt215.2.2.2.2.1⟩ : S66), (⟨bt215.2.2.2.2.2.1, bt215.2.2.2.2.2.2.1, bt215.2.2.2.2.2.2.2.1, bt215.2.2.2.2.2.2.2.2⟩ : S66)⟩ : S68)) (wrap64 (x4 + 1))) else (none))) else (none)) else (some x3)
def laws_toRuleS.f (k : Nat) (l0 : List (S63)) : Option ((List (S68))) := if 0 ≤ (l0.length : Int) then (if ((l0.length : Int) : Int).toNat ≤ 2345624805922 then (laws_toRuleS.l0 k l0 (List.replicate ((l0.length : Int) : Int).toNat z68) 0) else (none)) else (none)
theorem laws_toRuleS.mono_l : ∀ k, (∀ y0 y1 y2, LeO (laws_toRuleS.l0 k y0 y1 y2) (laws_toRuleS.l0 (k + 1) y0 y1 y2))
  | 0 => fun _ _ _ r h => by simp [laws_toRuleS.l0] at h
  | k + 1 => by
    have ih0 := laws_toRuleS.mono_l k
    · intro y0 y1 y2
      unfold laws_toRuleS.l0
      repeat' first
      | (with_reducible exact ih0 _ _ _)
      | (with_reducible exact laws_toRule.mono _ _ _ _ _ _ _ _ _ _)
      | (with_reducible exact LeO.refl _)
      | (with_reducible exact LeO.none _)
      | (with_reducible refine LeO.ite ?_ ?_)
      | (with_reducible refine LeO.bind ?_ (fun _ => ?_))
      | exact ih0 _ _ _
      | exact laws_toRule.mono _ _ _ _ _ _ _ _ _ _
      | exact LeO.none _
      | refine LeO.ite ?_ ?_
      | refine LeO.bind ?_ (fun _ => ?_)
theorem laws_toRuleS.mono : ∀ a0 k, LeO (laws_toRuleS.f k a0) (laws_toRuleS.f (k + 1) a0) := by
  intro a0 k
  have ih0 := laws_toRuleS.mono_l k
  unfold laws_toRuleS.f
  repeat' first
      | (with_reducible exact ih0 _ _ _)
      | (with_reducible exact laws_toRule.mono _ _ _ _ _ _ _ _ _ _)
      | (with_reducible exact LeO.refl _)
      | (with_reducible exact LeO.none _)
      | (with_reducible refine LeO.ite ?_ ?_)
      | (with_reducible refine LeO.bind ?_ (fun _ => ?_))
      | exact ih0 _ _ _
      | exact laws_toRule.mono _ _ _ _ _ _ _ _ _ _
      | exact LeO.none _
      | refine LeO.ite ?_ ?_
      | refine LeO.bind ?_ (fun _ => ?_)
noncomputable def laws_toRuleS.l0v (x0 : List (S63)) (x3 : List (S68)) (x4 : Int) : Option ((List (S68))) := limOf (fun k => laws_toRuleS.l0 k x0 x3 x4)
theorem laws_toRuleS.l0_lim (x0 : List (S63)) (x3 : List (S68)) (x4 : Int) : Lim (fun k => laws_toRuleS.l0 k x0 x3 x4) (laws_toRuleS.l0v x0 x3 x4) := Lim.of (fun k => laws_toRuleS.mono_l k x0 x3 x4)
noncomputable def laws_toRuleS.fv (l0 : List (S63)) : Option ((List (S68))) := limOf (fun k => laws_toRuleS.f k l0)
theorem laws_toRuleS.f_lim (l0 : List (S63)) : Lim (fun k => laws_toRuleS.f k l0) (laws_toRuleS.fv l0) := Lim.of (fun k => laws_toRuleS.mono l0 k)
set_option maxHeartbeats 4000000 in
theorem laws_toRuleS.l0v_eq (x0 : List (S63)) (x3 : List (S68)) (x4 : Int) : laws_toRuleS.l0v x0 x3 x4 = (if x4 < (x0.length : Int) then (if 0 ≤ x4 then ((laws_toRule.fv ((rd_T63 x0 x4).f0) ((rd_T63 x0 x4).f1.f0) ((rd_T63 x0 x4).f1.f1) ((rd_T63 x0 x4).f1.f2) ((rd_T63 x0 x4).f1.f3) ((rd_T63 x0 x4).f2.f0) ((rd_T63 x0 x4).f2.f1) ((rd_T63 x0 x4).f2.f2) ((rd_T63 x0 x4).f2.f3)).bind fun bt215 => (if x4 < (x3.length : Int) then (laws_toRuleS.l0v x0 (x3.set (x4 : Int).toNat (⟨bt215.1, (⟨bt215.2.1, bt215.2.2.1, bt215.2.2.2.1, bt215.2.2.2.2.1⟩ : S66), (⟨bt215.2.2.2.2.2.1, bt215.2.2.2.2.2.2.1, bt215.2.2.2.2.2.2.2.1, bt215.2.2.2.2.2.2.2.2⟩ : S66)⟩ : S68)) (wrap64 (x4 + 1))) else (none))) else (none)) else (some x3)) := by
  refine Lim.succ (laws_toRuleS.l0_lim x0 x3 x4) ?_
  simp only [laws_toRuleS.l0]
  repeat' first
    | (with_reducible apply laws_toRule.f_lim)
    | (with_reducible apply laws_toRuleS.l0_lim)
    | (with_reducible exact Lim.const _)
    | (with_reducible refine Lim.ite ?_ ?_)
    | (with_reducible refine Lim.bind ?_ (fun _ => ?_))
    | apply laws_toRule.f_lim
    | apply laws_toRuleS.l0_lim
    | exact Lim.const _
    | refine Lim.ite ?_ ?_
    | refine Lim.bind ?_ (fun _ => ?_)
set_option maxHeartbeats 4000000 in
theorem laws_toRuleS.fv_eq (l0 : List (S63)) : laws_toRuleS.fv l0 = (if 0 ≤ (l0.length : Int) then (if ((l0.length : Int) : Int).toNat ≤ 2345624805922 then (laws_toRuleS.l0v l0 (List.replicate ((l0.length : Int) : Int).toNat z68) 0) else (none)) else (none)) := by
  refine Lim.eq (laws_toRuleS.f_lim l0) ?_
  simp only [laws_toRuleS.f]
  repeat' first
    | (with_reducible apply laws_toRuleS.l0_lim)
    | (with_reducible exact Lim.const _)
    | (with_reducible refine Lim.ite ?_ ?_)
    | (with_reducible refine Lim.bind ?_ (fun _ => ?_))
    | apply laws_toRuleS.l0_lim
    | exact Lim.const _
    | refine Lim.ite ?_ ?_
    | refine Lim.bind ?_ (fun _ => ?_)

/-! ### impl_Deep -/
mutual
def impl_Deep.l0 : Nat → Int → List (S66) → Int → Int → Option (Int)
  | 0, _, _, _, _ => none
  | k + 1, x3, x7, x8, x9 => if x9 < x8 then (if 0 ≤ x9 then (if x9 < (x7.length : Int) then ((impl_Deep.f k ((rd_T66 x7 x9).f0) ((rd_T66 x7 x9).f1) ((rd_T66 x7 x9).f2) ((rd_T66 x7 x9).f3)).bind fun t232 => (impl_Deep.l0 k (mx x3 t232) x7 x8 (wrap64 (x9 + 1)))) else (none)) else (none)) else (some (wrap64 (x3 + 1)))
def impl_Deep.f : Nat → Int → Int → ByteArray → List (S66) → Option (Int)
  | 0, _, _, _, _ => none
  | k + 1, a0_0, a0_1, a0_2, l0_3 => impl_Deep.l0 k 0 l0_3 (l0_3.length : Int) 0
end
theorem impl_Deep.mono_l : ∀ k, (∀ y0 y1 y2 y3, LeO (impl_Deep.f k y0 y1 y2 y3) (impl_Deep.f (k + 1) y0 y1 y2 y3)) ∧ (∀ y0 y1 y2 y3, LeO (impl_Deep.l0 k y0 y1 y2 y3) (impl_Deep.l0 (k + 1) y0 y1 y2 y3))
  | 0 => ⟨fun _ _ _ _ r h => by simp [impl_Deep.f] at h, fun _ _ _ _ r h => by simp [impl_Deep.l0] at h⟩
  | k + 1 => by
    obtain ⟨ih0, ih1⟩ := impl_Deep.mono_l k
    refine ⟨?_, ?_⟩
    · intro y0 y1 y2 y3
      unfold impl_Deep.f
      repeat' first
      | (with_reducible exact ih0 _ _ _ _)
      | (with_reducible exact ih1 _ _ _ _)
      | (with_reducible exact LeO.refl _)
      | (with_reducible exact LeO.none _)
      | (with_reducible refine LeO.ite ?_ ?_)
      | (with_reducible refine LeO.bind ?_ (fun _ => ?_))
      | exact ih0 _ _ _ _
      | exact ih1 _ _ _ _
      | exact LeO.none _
      | refine LeO.ite ?_ ?_
      | refine LeO.bind ?_ (fun _ => ?_)
    · intro y0 y1 y2 y3
      unfold impl_Deep.l0
      repeat' first
      | (with_reducible exact ih0 _ _ _ _)
      | (with_reducible exact ih1 _ _ _ _)
      | (with_reducible exact LeO.refl _)
      | (with_reducible exact LeO.none _)
      | (with_reducible refine LeO.ite ?_ ?_)
      | (with_reducible refine LeO.bind ?_ (fun _ => ?_))
      | exact ih0 _ _ _ _
      | exact ih1 _ _ _ _
      | exact LeO.none _
      | refine LeO.ite ?_ ?_
      | refine LeO.bind ?_ (fun _ => ?_)
theorem impl_Deep.mono : ∀ a0 a1 a2 a3 k, LeO (impl_Deep.f k a0 a1 a2 a3) (impl_Deep.f (k + 1) a0 a1 a2 a3) := by
  intro a0 a1 a2 a3 k
  obtain ⟨ih0, ih1⟩ := impl_Deep.mono_l k
  exact ih0 a0 a1 a2 a3
noncomputable def impl_Deep.l0v (x3 : Int) (x7 : List (S66)) (x8 : Int) (x9 : Int) : Option (Int) := limOf (fun k => impl_Deep.l0 k x3 x7 x8 x9)
theorem impl_Deep.l0_lim (x3 : Int) (x7 : List (S66)) (x8 : Int) (x9 : Int) : Lim (fun k => impl_Deep.l0 k x3 x7 x8 x9) (impl_Deep.l0v x3 x7 x8 x9) := Lim.of (fun k => (impl_Deep.mono_l k).2 x3 x7 x8 x9)
noncomputable def impl_Deep.fv (a0_0 : Int) (a0_1 : Int) (a0_2 : ByteArray) (l0_3 : List (S66)) : Option (Int) := limOf (fun k => impl_Deep.f k a0_0 a0_1 a0_2 l0_3)
theorem impl_Deep.f_lim (a0_0 : Int) (a0_1 : Int) (a0_2 : ByteArray) (l0_3 : List (S66)) : Lim (fun k => impl_Deep.f k a0_0 a0_1 a0_2 l0_3) (impl_Deep.fv a0_0 a0_1 a0_2 l0_3) := Lim.of (fun k => (impl_Deep.mono_l k).1 a0_0 a0_1 a0_2 l0_3)
set_option maxHeartbeats 4000000 in
theorem impl_Deep.l0v_eq (x3 : Int) (x7 : List (S66)) (x8 : Int) (x9 : Int) : impl_Deep.l0v x3 x7 x8 x9 = (if x9 < x8 then (if 0 ≤ x9 then (if x9 < (x7.length : Int) then ((impl_Deep.fv ((rd_T66 x7 x9).f0) ((rd_T66 x7 x9).f1) ((rd_T66 x7 x9).f2) ((rd_T66 x7 x9).f3)).bind fun t232 => (impl_Deep.l0v (mx x3 t232) x7 x8 (wrap64 (x9 + 1)))) else (none)) else (none)) else (some (wrap64 (x3 + 1)))) := by
  refine Lim.succ (impl_Deep.l0_lim x3 x7 x8 x9) ?_
  simp only [impl_Deep.l0]
  repeat' first
    | (with_reducible apply impl_Deep.f_lim)
    | (with_reducible apply impl_Deep.l0_lim)
    | (with_reducible exact Lim.const _)
    | (with_reducible refine Lim.ite ?_ ?_)
    | (with_reducible refine Lim.bind ?_ (fun _ => ?_))
    | apply impl_Deep.f_lim
    | apply impl_Deep.l0_lim
    | exact Lim.const _
    | refine Lim.ite ?_ ?_
    | refine Lim.bind ?_ (fun _ => ?_)
set_option maxHeartbeats 4000000 in
theorem impl_Deep.fv_eq (a0_0 : Int) (a0_1 : Int) (a0_2 : ByteArray) (l0_3 : List (S66)) : impl_Deep.fv a0_0 a0_1 a0_2 l0_3 = (impl_Deep.l0v 0 l0_3 (l0_3.length : Int) 0) := by
  refine Lim.succ (impl_Deep.f_lim a0_0 a0_1 a0_2 l0_3) ?_
  simp only [impl_Deep.f]
  repeat' first
    | (with_reducible apply impl_Deep.l0_lim)
    | (with_reducible exact Lim.const _)
    | (with_reducible refine Lim.ite ?_ ?_)
    | (with_reducible refine Lim.bind ?_ (fun _ => ?_))
    | apply impl_Deep.l0_lim
    | exact Lim.const _
    | refine Lim.ite ?_ ?_
    | refine Lim.bind ?_ (fun _ => ?_)

/-! ### impl_plainNode -/
def impl_plainNode.f (a0_0 : Int) (a0_1 : Int) (a0_2 : ByteArray) (l0_3 : List (S66)) : Option (Bool) := if a0_1 = 0 then (some (a0_2.toList == ([] : List UInt8))) else (some false)

/-! ### impl_in -/
def impl_in.f (a0 : Int) (a1 : Int) (a2 : Int) : Option (Bool) := if a0 ≥ a1 then (some (decide (a0 ≤ a2))) else (some false)

/-! ### slices_Index_string_string -/
def slices_Index_string_string.l0 : Nat → List ByteArray → ByteArray → Int → Int → Option (Int)
  | 0, _, _, _, _ => none
  | k + 1, x0, x1, x7, x8 => if x8 < x7 then (if 0 ≤ x8 then (if x8 < (x0.length : Int) then (if x1.toList = (rdOf ByteArray.empty x0 x8).toList then (some x8) else (slices_Index_string_string.l0 k x0 x1 x7 (wrap64 (x8 + 1)))) else (none)) else (none)) else (some (-1))
def slices_Index_string_string.f (k : Nat) (l0 : List ByteArray) (a1 : ByteArray) : Option (Int) := slices_Index_string_string.l0 k l0 a1 (l0.length : Int) 0
theorem slices_Index_string_string.mono_l : ∀ k, (∀ y0 y1 y2 y3, LeO (slices_Index_string_string.l0 k y0 y1 y2 y3) (slices_Index_string_string.l0 (k + 1) y0 y1 y2 y3))
  | 0 => fun _ _ _ _ r h => by simp [slices_Index_string_string.l0] at h
  | k + 1 => by
    have ih0 := slices_Index_string_string.mono_l k
    · intro y0 y1 y2 y3
      unfold slices_Index_string_string.l0
      repeat' first
      | (with_reducible exact ih0 _ _ _ _)
      | (with_reducible exact LeO.refl _)
      | (with_reducible exact LeO.none _)
      | (with_reducible refine LeO.ite ?_ ?_)
      | (with_reducible refine LeO.bind ?_ (fun _ => ?_))
      | exact ih0 _ _ _ _
      | exact LeO.none _
      | refine LeO.ite ?_ ?_
      | refine LeO.bind ?_ (fun _ => ?_)
theorem slices_Index_string_string.mono : ∀ a0 a1 k, LeO (slices_Index_string_string.f k a0 a1) (slices_Index_string_string.f (k + 1) a0 a1) := by
  intro a0 a1 k
  have ih0 := slices_Index_string_string.mono_l k
  unfold slices_Index_string_string.f
  repeat' first
      | (with_reducible exact ih0 _ _ _ _)
      | (with_reducible exact LeO.refl _)
      | (with_reducible exact LeO.none _)
      | (with_reducible refine LeO.ite ?_ ?_)
      | (with_reducible refine LeO.bind ?_ (fun _ => ?_))
      | exact ih0 _ _ _ _
      | exact LeO.none _
      | refine LeO.ite ?_ ?_
      | refine LeO.bind ?_ (fun _ => ?_)
noncomputable def slices_Index_string_string.l0v (x0 : List ByteArray) (x1 : ByteArray) (x7 : Int) (x8 : Int) : Option (Int) := limOf (fun k => slices_Index_string_string.l0 k x0 x1 x7 x8)
theorem slices_Index_string_string.l0_lim (x0 : List ByteArray) (x1 : ByteArray) (x7 : Int) (x8 : Int) : Lim (fun k => slices_Index_string_string.l0 k x0 x1 x7 x8) (slices_Index_string_string.l0v x0 x1 x7 x8) := Lim.of (fun k => slices_Index_string_string.mono_l k x0 x1 x7 x8)
noncomputable def slices_Index_string_string.fv (l0 : List ByteArray) (a1 : ByteArray) : Option (Int) := limOf (fun k => slices_Index_string_string.f k l0 a1)
theorem slices_Index_string_string.f_lim (l0 : List ByteArray) (a1 : ByteArray) : Lim (fun k => slices_Index_string_string.f k l0 a1) (slices_Index_string_string.fv l0 a1) := Lim.of (fun k => slices_Index_string_string.mono l0 a1 k)
set_option maxHeartbeats 4000000 in
theorem slices_Index_string_string.l0v_eq (x0 : List ByteArray) (x1 : ByteArray) (x7 : Int) (x8 : Int) : slices_Index_string_string.l0v x0 x1 x7 x8 = (if x8 < x7 then (if 0 ≤ x8 then (if x8 < (x0.length : Int) then (if x1.toList = (rdOf ByteArray.empty x0 x8).toList then (some x8) else (slices_Index_string_string.l0v x0 x1 x7 (wrap64 (x8 + 1)))) else (none)) else (none)) else (some (-1))) := by
  refine Lim.succ (slices_Index_string_string.l0_lim x0 x1 x7 x8) ?_
  simp only [slices_Index_string_string.l0]
  repeat' first
    | (with_reducible apply slices_Index_string_string.l0_lim)
    | (with_reducible exact Lim.const _)
    | (with_reducible refine Lim.ite ?_ ?_)
    | (with_reducible refine Lim.bind ?_ (fun _ => ?_))
    | apply slices_Index_string_string.l0_lim
    | exact Lim.const _
    | refine Lim.ite ?_ ?_
    | refine Lim.bind ?_ (fun _ => ?_)
set_option maxHeartbeats 4000000 in
theorem slices_Index_string_string.fv_eq (l0 : List ByteArray) (a1 : ByteArray) : slices_Index_string_string.fv l0 a1 = (slices_Index_string_string.l0v l0 a1 (l0.length : Int) 0) := by
  refine Lim.eq (slices_Index_string_string.f_lim l0 a1) ?_
  simp only [slices_Index_string_string.f]
  repeat' first
    | (with_reducible apply slices_Index_string_string.l0_lim)
    | (with_reducible exact Lim.const _)
    | (with_reducible refine Lim.ite ?_ ?_)
    | (with_reducible refine Lim.bind ?_ (fun _ => ?_))
    | apply slices_Index_string_string.l0_lim
    | exact Lim.const _
    | refine Lim.ite ?_ ?_
    | refine Lim.bind ?_ (fun _ => ?_)

/-! ### slices_Contains_string_string -/
def slices_Contains_string_string.f (k : Nat) (l0 : List ByteArray) (a1 : ByteArray) : Option (Bool) := (slices_Index_string_string.f k l0 a1).bind fun t235 => (some (decide (t235 ≥ 0)))
theorem slices_Contains_string_string.mono : ∀ a0 a1 k, LeO (slices_Contains_string_string.f k a0 a1) (slices_Contains_string_string.f (k + 1) a0 a1) := by
  intro a0 a1 k
  unfold slices_Contains_string_string.f
  repeat' first
      | (with_reducible exact slices_Index_string_string.mono _ _ _)
      | (with_reducible exact LeO.refl _)
      | (with_reducible exact LeO.none _)
      | (with_reducible refine LeO.ite ?_ ?_)
      | (with_reducible refine LeO.bind ?_ (fun _ => ?_))
      | exact slices_Index_string_string.mono _ _ _
      | exact LeO.none _
      | refine LeO.ite ?_ ?_
      | refine LeO.bind ?_ (fun _ => ?_)
noncomputable def slices_Contains_string_string.fv (l0 : List ByteArray) (a1 : ByteArray) : Option (Bool) := limOf (fun k => slices_Contains_string_string.f k l0 a1)
theorem slices_Contains_string_string.f_lim (l0 : List ByteArray) (a1 : ByteArray) : Lim (fun k => slices_Contains_string_string.f k l0 a1) (slices_Contains_string_string.fv l0 a1) := Lim.of (fun k => slices_Contains_string_string.mono l0 a1 k)
set_option maxHeartbeats 4000000 in
theorem slices_Contains_string_string.fv_eq (l0 : List ByteArray) (a1 : ByteArray) : slices_Contains_string_string.fv l0 a1 = ((slices_Index_string_string.fv l0 a1).bind fun t235 => (some (decide (t235 ≥ 0)))) := by
  refine Lim.eq (slices_Contains_string_string.f_lim l0 a1) ?_
  simp only [slices_Contains_string_string.f]
  repeat' first
    | (with_reducible apply slices_Index_string_string.f_lim)
    | (with_reducible exact Lim.const _)
    | (with_reducible refine Lim.ite ?_ ?_)
    | (with_reducible refine Lim.bind ?_ (fun _ => ?_))
    | apply slices_Index_string_string.f_lim
    | exact Lim.const _
    | refine Lim.ite ?_ ?_
    | refine Lim.bind ?_ (fun _ => ?_)

/-! ### strings_Index -/
def strings_Index.f (a0 : ByteArray) (a1 : ByteArray) : Option (Int) := match a1.data.toList with | [c_] => some (Lib.indexByte a0.data.toList c_) | _ => none

/-! ### strings_Contains -/
def strings_Contains.f (a0 : ByteArray) (a1 : ByteArray) : Option (Bool) := match a1.data.toList with | [c_] => some (decide (0 ≤ Lib.indexByte a0.data.toList c_)) | _ => none

/-! ### impl_tokenText -/
def impl_tokenText.f (a0 : ByteArray) : Option (Bool) := (strings_Contains.f a0 (⟨#[10]⟩ : ByteArray)).bind fun t236 => (some (!t236))

/-! ### impl_tokenRex -/
def impl_tokenRex.l0 : Nat → ByteArray → Int → Option (Bool)
  | 0, _, _ => none
  | k + 1, x0, x3 => if x3 < (x0.size : Int) then (if 0 ≤ x3 then (if (bt x0 x3) = 92 then (if (wrap64 (x3 + 1)) = (x0.size : Int) then (some false) else (if 0 ≤ (wrap64 (x3 + 1)) then (if (wrap64 (x3 + 1)) < (x0.size : Int) then (if (bt x0 (wrap64 (x3 + 1))) = 47 then (some false) else (impl_tokenRex.l0 k x0 (wrap64 ((wrap64 (x3 + 1)) + 1)))) else (none)) else (none))) else (impl_tokenRex.l0 k x0 (wrap64 (x3 + 1)))) else (none)) else ((impl_tokenText.f x0).bind fun t237 => (some t237))
def impl_tokenRex.f (k : Nat) (a0 : ByteArray) : Option (Bool) := impl_tokenRex.l0 k a0 0
theorem impl_tokenRex.mono_l : ∀ k, (∀ y0 y1, LeO (impl_tokenRex.l0 k y0 y1) (impl_tokenRex.l0 (k + 1) y0 y1))
  | 0 => fun _ _ r h => by simp [impl_tokenRex.l0] at h
  | k + 1 => by
    have ih0 := impl_tokenRex.mono_l k
    · intro y0 y1
      unfold impl_tokenRex.l0
      repeat' first
      | (with_reducible exact ih0 _ _)
      | (with_reducible exact LeO.refl _)
      | (with_reducible exact LeO.none _)
      | (with_reducible refine LeO.ite ?_ ?_)
      | (with_reducible refine LeO.bind ?_ (fun _ => ?_))
      | exact ih0 _ _
      | exact LeO.none _
      | refine LeO.ite ?_ ?_
      | refine LeO.bind ?_ (fun _ => ?_)
theorem impl_tokenRex.mono : ∀ a0 k, LeO (impl_tokenRex.f k a0) (impl_tokenRex.f (k + 1) a0) := by
  intro a0 k
  have ih0 := impl_tokenRex.mono_l k
  unfold impl_tokenRex.f
  repeat' first
      | (with_reducible exact ih0 _ _)
      | (with_reducible exact LeO.refl _)
      | (with_reducible exact LeO.none _)
      | (with_reducible refine LeO.ite ?_ ?_)
      | (with_reducible refine LeO.bind ?_ (fun _ => ?_))
      | exact ih0 _ _
      | exact LeO.none _
      | refine LeO.ite ?_ ?_
      | refine LeO.bind ?_ (fun _ => ?_)
noncomputable def impl_tokenRex.l0v (x0 : ByteArray) (x3 : Int) : Option (Bool) := limOf (fun k => impl_tokenRex.l0 k x0 x3)
theorem impl_tokenRex.l0_lim (x0 : ByteArray) (x3 : Int) : Lim (fun k => impl_tokenRex.l0 k x0 x3) (impl_tokenRex.l0v x0 x3) := Lim.of (fun k => impl_tokenRex.mono_l k x0 x3)
noncomputable def impl_tokenRex.fv (a0 : ByteArray) : Option (Bool) := limOf (fun k => impl_tokenRex.f k a0)
theorem impl_tokenRex.f_lim (a0 : ByteArray) : Lim (fun k => impl_tokenRex.f k a0) (impl_tokenRex.fv a0) := Lim.of (fun k => impl_tokenRex.mono a0 k)
set_option maxHeartbeats 4000000 in
theorem impl_tokenRex.l0v_eq (x0 : ByteArray) (x3 : Int) : impl_tokenRex.l0v x0 x3 = (if x3 < (x0.size : Int) then (if 0 ≤ x3 then (if (bt x0 x3) = 92 then (if (wrap64 (x3 + 1)) = (x0.size : Int) then (some false) else (if 0 ≤ (wrap64 (x3 + 1)) then (if (wrap64 (x3 + 1)) < (x0.size : Int) then (if (bt x0 (wrap64 (x3 + 1))) = 47 then (some false) else (impl_tokenRex.l0v x0 (wrap64 ((wrap64 (x3 + 1)) + 1)))) else (none)) else (none))) else (impl_tokenRex.l0v x0 (wrap64 (x3 + 1)))) else (none)) else ((impl_tokenText.f x0).bind fun t237 => (some t237))) := by
  refine Lim.succ (impl_tokenRex.l0_lim x0 x3) ?_
  simp only [impl_tokenRex.l0]
  repeat' first
    | (with_reducible apply impl_tokenRex.l0_lim)
    | (with_reducible exact Lim.const _)
    | (with_reducible refine Lim.ite ?_ ?_)
    | (with_reducible refine Lim.bind ?_ (fun _ => ?_))
    | apply impl_tokenRex.l0_lim
    | exact Lim.const _
    | refine Lim.ite ?_ ?_
    | refine Lim.bind ?_ (fun _ => ?_)
set_option maxHeartbeats 4000000 in
theorem impl_tokenRex.fv_eq (a0 : ByteArray) : impl_tokenRex.fv a0 = (impl_tokenRex.l0v a0 0) := by
  refine Lim.eq (impl_tokenRex.f_lim a0) ?_
  simp only [impl_tokenRex.f]
  repeat' first
    | (with_reducible apply impl_tokenRex.l0_lim)
    | (with_reducible exact Lim.const _)
    | (with_reducible refine Lim.ite ?_ ?_)
    | (with_reducible refine Lim.bind ?_ (fun _ => ?_))
    | apply impl_tokenRex.l0_lim
    | exact Lim.const _
    | refine Lim.ite ?_ ?_
    | refine Lim.bind ?_ (fun _ => ?_)

/-! ### impl_isLetter -/
def impl_isLetter.f (a0 : Int) : Option (Bool) := if a0 ≥ 97 then (if a0 ≤ 122 then (some true) else (if a0 ≥ 65 then (some (decide (a0 ≤ 90))) else (some false))) else (if a0 ≥ 65 then (some (decide (a0 ≤ 90))) else (some false))

/-! ### impl_lettersAt -/
def impl_lettersAt.l0 : Nat → ByteArray → Int → Int → Option (Int)
  | 0, _, _, _ => none
  | k + 1, x0, x1, x5 => if (wrap64 (x1 + x5)) < (x0.size : Int) then (if 0 ≤ (wrap64 (x1 + x5)) then ((impl_isLetter.f (bt x0 (wrap64 (x1 + x5)))).bind fun t238 => (if t238 = true then (impl_lettersAt.l0 k x0 x1 (wrap64 (x5 + 1))) else (some x5))) else (none)) else (some x5)
def impl_lettersAt.f (k : Nat) (a0 : ByteArray) (a1 : Int) : Option (Int) := impl_lettersAt.l0 k a0 a1 0
theorem impl_lettersAt.mono_l : ∀ k, (∀ y0 y1 y2, LeO (impl_lettersAt.l0 k y0 y1 y2) (impl_lettersAt.l0 (k + 1) y0 y1 y2))
  | 0 => fun _ _ _ r h => by simp [impl_lettersAt.l0] at h
  | k + 1 => by
    have ih0 := impl_lettersAt.mono_l k
    · intro y0 y1 y2
      unfold impl_lettersAt.l0
      repeat' first
      | (with_reducible exact ih0 _ _ _)
      | (with_reducible exact LeO.refl _)
      | (with_reducible exact LeO.none _)
      | (with_reducible refine LeO.ite ?_ ?_)
      | (with_reducible refine LeO.bind ?_ (fun _ => ?_))
      | exact ih0 _ _ _
      | exact LeO.none _
      | refine LeO.ite ?_ ?_
      | refine LeO.bind ?_ (fun _ => ?_)
theorem impl_lettersAt.mono : ∀ a0 a1 k, LeO (impl_lettersAt.f k a0 a1) (impl_lettersAt.f (k + 1) a0 a1) := by
  intro a0 a1 k
  have ih0 := impl_lettersAt.mono_l k
  unfold impl_lettersAt.f
  repeat' first
      | (with_reducible exact ih0 _ _ _)
      | (with_reducible exact LeO.refl _)
      | (with_reducible exact LeO.none _)
      | (with_reducible refine LeO.ite ?_ ?_)
      | (with_reducible refine LeO.bind ?_ (fun _ => ?_))
      | exact ih0 _ _ _
      | exact LeO.none _
      | refine LeO.ite ?_ ?_
      | refine LeO.bind ?_ (fun _ => ?_)
noncomputable def impl_lettersAt.l0v (x0 : ByteArray) (x1 : Int) (x5 : Int) : Option (Int) := limOf (fun k => impl_lettersAt.l0 k x0 x1 x5)
theorem impl_lettersAt.l0_lim (x0 : ByteArray) (x1 : Int) (x5 : Int) : Lim (fun k => impl_lettersAt.l0 k x0 x1 x5) (impl_lettersAt.l0v x0 x1 x5) := Lim.of (fun k => impl_lettersAt.mono_l k x0 x1 x5)
noncomputable def impl_lettersAt.fv (a0 : ByteArray) (a1 : Int) : Option (Int) := limOf (fun k => impl_lettersAt.f k a0 a1)
theorem impl_lettersAt.f_lim (a0 : ByteArray) (a1 : Int) : Lim (fun k => impl_lettersAt.f k a0 a1) (impl_lettersAt.fv a0 a1) := Lim.of (fun k => impl_lettersAt.mono a0 a1 k)
set_option maxHeartbeats 4000000 in
theorem impl_lettersAt.l0v_eq (x0 : ByteArray) (x1 : Int) (x5 : Int) : impl_lettersAt.l0v x0 x1 x5 = (if (wrap64 (x1 + x5)) < (x0.size : Int) then (if 0 ≤ (wrap64 (x1 + x5)) then ((impl_isLetter.f (bt x0 (wrap64 (x1 + x5)))).bind fun t238 => (if t238 = true then (impl_lettersAt.l0v x0 x1 (wrap64 (x5 + 1))) else (some x5))) else (none)) else (some x5)) := by
  refine Lim.succ (impl_lettersAt.l0_lim x0 x1 x5) ?_
  simp only [impl_lettersAt.l0]
  repeat' first
    | (with_reducible apply impl_lettersAt.l0_lim)
    | (with_reducible exact Lim.const _)
    | (with_reducible refine Lim.ite ?_ ?_)
    | (with_reducible refine Lim.bind ?_ (fun _ => ?_))
    | apply impl_lettersAt.l0_lim
    | exact Lim.const _
    | refine Lim.ite ?_ ?_
    | refine Lim.bind ?_ (fun _ => ?_)
set_option maxHeartbeats 4000000 in
theorem impl_lettersAt.fv_eq (a0 : ByteArray) (a1 : Int) : impl_lettersAt.fv a0 a1 = (impl_lettersAt.l0v a0 a1 0) := by
  refine Lim.eq (impl_lettersAt.f_lim a0 a1) ?_
  simp only [impl_lettersAt.f]
  repeat' first
    | (with_reducible apply impl_lettersAt.l0_lim)
    | (with_reducible exact Lim.const _)
    | (with_reducible refine Lim.ite ?_ ?_)
    | (with_reducible refine Lim.bind ?_ (fun _ => ?_))
    | apply impl_lettersAt.l0_lim
    | exact Lim.const _
    | refine Lim.ite ?_ ?_
    | refine Lim.bind ?_ (fun _ => ?_)

/-! ### impl_calls -/
def impl_calls.f  : Option (List ByteArray) := some (([(⟨#[108, 101, 110, 103, 116, 104]⟩ : ByteArray), (⟨#[115, 117, 98, 115, 116, 114]⟩ : ByteArray), (⟨#[105, 110, 100, 101, 120]⟩ : ByteArray), (⟨#[105, 110, 116]⟩ : ByteArray), (⟨#[117, 112, 112, 101, 114]⟩ : ByteArray), (⟨#[108, 111, 119, 101, 114]⟩ : ByteArray)] : List ByteArray))

end Go.Proofs.Ythigelphmjepaaa.QFnExactTidy
