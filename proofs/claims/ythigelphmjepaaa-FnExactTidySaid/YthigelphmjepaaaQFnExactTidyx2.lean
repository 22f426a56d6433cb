/- Written by wip/pr2, a program of this session. -/
import Derived.Test.YthigelphmjepaaaQFnExactTidyx0
import Derived.Test.YthigelphmjepaaaQFnExactTidyx1
import Derived.Test.YthigelphmjepaaaWFnExactTidy
namespace Go.Proofs.Ythigelphmjepaaa.QFnExactTidy
open Go.RowKit Go.Proofs.YthigelphmjepaaaW.PrintWords Go.Proofs.YthigelphmjepaaaW.PrintLast Go.Proofs.YthigelphmjepaaaW.PrintMore
attribute [local go_sem] max2_int min2_int max_two min_two max_three min_three max_four min_four   -- for this text's walks alone
set_option linter.unusedVariables false
set_option linter.unusedSimpArgs false
set_option maxHeartbeats 8000000

open Go.Proofs.YthigelphmjepaaaW.Lims
/-! ### spec_l9Node -/
mutual
def spec_l9Es.l0 : Nat → Int → Int → Int → Int → ByteArray → List (S66) → Option (Bool)
  | 0, _, _, _, _, _, _ => none
  | k + 1, x2, x7, x128000, x128001, x128002, x128003 => if x7 < x2 then (if 0 ≤ x7 then (if x7 < (x128003.length : Int) then ((spec_l9IsE.f ((rd_T66 x128003 x7).f0)).bind fun t129 => (if t129 = true then ((spec_l9Node.f k ((rd_T66 x128003 x7).f0) ((rd_T66 x128003 x7).f1) ((rd_T66 x128003 x7).f2) ((rd_T66 x128003 x7).f3)).bind fun t131 => (if t131 = true then (spec_l9Es.l0 k x2 (wrap64 (x7 + 1)) x128000 x128001 x128002 x128003) else (some false))) else (some false))) else (none)) else (none)) else (some true)
def spec_l9Es.f : Nat → Int → Int → ByteArray → List (S66) → Int → Int → Option (Bool)
  | 0, _, _, _, _, _, _ => none
  | k + 1, a0_0, a0_1, a0_2, l0_3, a1, a2 => spec_l9Es.l0 k a2 a1 a0_0 a0_1 a0_2 l0_3
def spec_l9Blocks.l0 : Nat → Int → Int → Int → ByteArray → List (S66) → Option (Bool)
  | 0, _, _, _, _, _ => none
  | k + 1, x5, x133000, x133001, x133002, x133003 => if x5 < (x133003.length : Int) then (if 0 ≤ x5 then (if ((rd_T66 x133003 x5).f0) = 29 then ((spec_l9Node.f k ((rd_T66 x133003 x5).f0) ((rd_T66 x133003 x5).f1) ((rd_T66 x133003 x5).f2) ((rd_T66 x133003 x5).f3)).bind fun t135 => (if t135 = true then (spec_l9Blocks.l0 k (wrap64 (x5 + 1)) x133000 x133001 x133002 x133003) else (some false))) else (some false)) else (none)) else (some true)
def spec_l9Blocks.f : Nat → Int → Int → ByteArray → List (S66) → Int → Option (Bool)
  | 0, _, _, _, _, _ => none
  | k + 1, a0_0, a0_1, a0_2, l0_3, a1 => spec_l9Blocks.l0 k a1 a0_0 a0_1 a0_2 l0_3
def spec_l9Kids.j0 : Nat → Int → Int → Bool → Int → Int → ByteArray → List (S66) → Option (Bool)
  | 0, _, _, _, _, _, _, _ => none
  | k + 1, x3, x9, x10, x137000, x137001, x137002, x137003 => if x10 = true then (if x3 = 1 then ((spec_l9Es.f k x137000 x137001 x137002 x137003 0 1).bind fun t137 => (some t137)) else (some false)) else (if x9 = 9 then (spec_l9Kids.j1 k x3 x9 (x9 == 9) x137000 x137001 x137002 x137003) else (if x9 = 10 then (spec_l9Kids.j1 k x3 x9 (x9 == 10) x137000 x137001 x137002 x137003) else (if x9 = 11 then (spec_l9Kids.j1 k x3 x9 (x9 == 11) x137000 x137001 x137002 x137003) else (if x9 = 12 then (spec_l9Kids.j1 k x3 x9 (x9 == 12) x137000 x137001 x137002 x137003) else (if x9 = 13 then (spec_l9Kids.j1 k x3 x9 (x9 == 13) x137000 x137001 x137002 x137003) else (if x9 = 14 then (spec_l9Kids.j1 k x3 x9 (x9 == 14) x137000 x137001 x137002 x137003) else (if x9 = 15 then (spec_l9Kids.j1 k x3 x9 (x9 == 15) x137000 x137001 x137002 x137003) else (if x9 = 16 then (spec_l9Kids.j1 k x3 x9 (x9 == 16) x137000 x137001 x137002 x137003) else (if x9 = 17 then (spec_l9Kids.j1 k x3 x9 (x9 == 17) x137000 x137001 x137002 x137003) else (if x9 = 18 then (spec_l9Kids.j1 k x3 x9 (x9 == 18) x137000 x137001 x137002 x137003) else (if x9 = 19 then (spec_l9Kids.j1 k x3 x9 (x9 == 19) x137000 x137001 x137002 x137003) else (if x9 = 20 then (spec_l9Kids.j1 k x3 x9 (x9 == 20) x137000 x137001 x137002 x137003) else (if x9 = 21 then (spec_l9Kids.j1 k x3 x9 (x9 == 21) x137000 x137001 x137002 x137003) else (if x9 = 24 then (spec_l9Kids.j1 k x3 x9 (x9 == 24) x137000 x137001 x137002 x137003) else (spec_l9Kids.j1 k x3 x9 (x9 == 25) x137000 x137001 x137002 x137003)))))))))))))))
def spec_l9Kids.j1 : Nat → Int → Int → Bool → Int → Int → ByteArray → List (S66) → Option (Bool)
  | 0, _, _, _, _, _, _, _ => none
  | k + 1, x3, x9, x23, x137000, x137001, x137002, x137003 => if x23 = true then (if x3 = 2 then ((spec_l9Es.f k x137000 x137001 x137002 x137003 0 2).bind fun t138 => (some t138)) else (some false)) else (if x9 = 26 then (spec_l9Kids.j2 k x3 x9 (x9 == 26) x137000 x137001 x137002 x137003) else (spec_l9Kids.j2 k x3 x9 (x9 == 27) x137000 x137001 x137002 x137003))
def spec_l9Kids.j2 : Nat → Int → Int → Bool → Int → Int → ByteArray → List (S66) → Option (Bool)
  | 0, _, _, _, _, _, _, _ => none
  | k + 1, x3, x9, x45, x137000, x137001, x137002, x137003 => if x45 = true then (if x3 = 2 then (if 0 < (x137003.length : Int) then (if ((rd_T66 x137003 0).f0) = 4 then ((spec_l9Es.f k x137000 x137001 x137002 x137003 0 2).bind fun t140 => (some t140)) else (if ((rd_T66 x137003 0).f0) = 5 then ((spec_l9Es.f k x137000 x137001 x137002 x137003 0 2).bind fun t142 => (some t142)) else (some false))) else (none)) else (some false)) else (if x9 = 28 then (spec_l9Kids.j3 k x3 x9 (x9 == 28) x137000 x137001 x137002 x137003) else (spec_l9Kids.j3 k x3 x9 (x9 == 30) x137000 x137001 x137002 x137003))
def spec_l9Kids.j3 : Nat → Int → Int → Bool → Int → Int → ByteArray → List (S66) → Option (Bool)
  | 0, _, _, _, _, _, _, _ => none
  | k + 1, x3, x9, x70, x137000, x137001, x137002, x137003 => if x70 = true then ((spec_l9Es.f k x137000 x137001 x137002 x137003 0 x3).bind fun t143 => (some t143)) else (if x9 = 31 then ((spec_l1In.f x3 2 3).bind fun t144 => (if t144 = true then ((spec_l9Es.f k x137000 x137001 x137002 x137003 0 1).bind fun t145 => (if t145 = true then ((spec_l9Blocks.f k x137000 x137001 x137002 x137003 1).bind fun t146 => (some t146)) else (some false))) else (some false))) else (if x9 = 32 then (if x3 = 2 then ((spec_l9Es.f k x137000 x137001 x137002 x137003 0 1).bind fun t147 => (if t147 = true then ((spec_l9Blocks.f k x137000 x137001 x137002 x137003 1).bind fun t148 => (some t148)) else (some false))) else (some false)) else (if x9 = 29 then (spec_l9Kids.l0 k x3 0 x137000 x137001 x137002 x137003) else (some (x3 == 0)))))
def spec_l9Kids.l0 : Nat → Int → Int → Int → Int → ByteArray → List (S66) → Option (Bool)
  | 0, _, _, _, _, _, _ => none
  | k + 1, x3, x4, x137000, x137001, x137002, x137003 => if x4 < x3 then (if 0 ≤ x4 then (if x4 < (x137003.length : Int) then ((spec_l1In.f ((rd_T66 x137003 x4).f0) 29 35).bind fun t150 => (if t150 = true then ((spec_l9Node.f k ((rd_T66 x137003 x4).f0) ((rd_T66 x137003 x4).f1) ((rd_T66 x137003 x4).f2) ((rd_T66 x137003 x4).f3)).bind fun t152 => (if t152 = true then (spec_l9Kids.l0 k x3 (wrap64 (x4 + 1)) x137000 x137001 x137002 x137003) else (some false))) else (some false))) else (none)) else (none)) else (some true)
def spec_l9Kids.f : Nat → Int → Int → ByteArray → List (S66) → Option (Bool)
  | 0, _, _, _, _ => none
  | k + 1, a0_0, a0_1, a0_2, l0_3 => if a0_0 = 5 then (spec_l9Kids.j0 k (l0_3.length : Int) a0_0 (a0_0 == 5) a0_0 a0_1 a0_2 l0_3) else (if a0_0 = 6 then (spec_l9Kids.j0 k (l0_3.length : Int) a0_0 (a0_0 == 6) a0_0 a0_1 a0_2 l0_3) else (if a0_0 = 22 then (spec_l9Kids.j0 k (l0_3.length : Int) a0_0 (a0_0 == 22) a0_0 a0_1 a0_2 l0_3) else (if a0_0 = 23 then (spec_l9Kids.j0 k (l0_3.length : Int) a0_0 (a0_0 == 23) a0_0 a0_1 a0_2 l0_3) else (if a0_0 = 34 then (spec_l9Kids.j0 k (l0_3.length : Int) a0_0 (a0_0 == 34) a0_0 a0_1 a0_2 l0_3) else (spec_l9Kids.j0 k (l0_3.length : Int) a0_0 (a0_0 == 35) a0_0 a0_1 a0_2 l0_3)))))
def spec_l9Node.j0 : Nat → Bool → Int → Int → ByteArray → List (S66) → Option (Bool)
  | 0, _, _, _, _, _ => none
  | k + 1, x21, x154000, x154001, x154002, x154003 => if x21 = true then (some false) else (if x154000 = 1 then (if x154002.toList = ([] : List UInt8) then ((spec_l1In.f x154001 0 9000000000000).bind fun t156 => (some t156)) else (some false)) else (if x154000 = 2 then ((spec_l9Line.f k x154002).bind fun t157 => (some t157)) else (if x154000 = 3 then ((spec_l9Rex.f k x154002).bind fun t158 => (some t158)) else (if x154000 = 4 then (spec_l9Node.j1 k x154000 (x154000 == 4) x154000 x154001 x154002 x154003) else (if x154000 = 5 then (spec_l9Node.j1 k x154000 (x154000 == 5) x154000 x154001 x154002 x154003) else (spec_l9Node.j1 k x154000 (x154000 == 34) x154000 x154001 x154002 x154003))))))
def spec_l9Node.j1 : Nat → Int → Bool → Int → Int → ByteArray → List (S66) → Option (Bool)
  | 0, _, _, _, _, _, _ => none
  | k + 1, x23, x44, x154000, x154001, x154002, x154003 => if x44 = true then ((spec_l9Name.f k x154002).bind fun t159 => (some t159)) else (if x23 = 28 then ((spec_l7Calls.f).bind fun t160 => ((spec_l7Within.f k t160 x154002).bind fun t163 => (some t163))) else (some (x154002.toList == ([] : List UInt8))))
def spec_l9Node.f : Nat → Int → Int → ByteArray → List (S66) → Option (Bool)
  | 0, _, _, _, _ => none
  | k + 1, a0_0, a0_1, a0_2, l0_3 => (spec_l9Kids.f k a0_0 a0_1 a0_2 l0_3).bind fun t154 => (if t154 = true then ((spec_l1In.f a0_0 1 35).bind fun t155 => (if t155 = true then (if a0_1 = 0 then (spec_l9Node.j0 k false a0_0 a0_1 a0_2 l0_3) else (spec_l9Node.j0 k (a0_0 != 1) a0_0 a0_1 a0_2 l0_3)) else (spec_l9Node.j0 k true a0_0 a0_1 a0_2 l0_3))) else (spec_l9Node.j0 k true a0_0 a0_1 a0_2 l0_3))
end
set_option maxHeartbeats 8000000 in
theorem spec_l9Es.mono_g : ∀ k, (∀ y0 y1 y2 y3 y4 y5, LeO (spec_l9Es.f k y0 y1 y2 y3 y4 y5) (spec_l9Es.f (k + 1) y0 y1 y2 y3 y4 y5)) ∧ (∀ y0 y1 y2 y3 y4 y5, LeO (spec_l9Es.l0 k y0 y1 y2 y3 y4 y5) (spec_l9Es.l0 (k + 1) y0 y1 y2 y3 y4 y5)) ∧ (∀ y0 y1 y2 y3 y4, LeO (spec_l9Blocks.f k y0 y1 y2 y3 y4) (spec_l9Blocks.f (k + 1) y0 y1 y2 y3 y4)) ∧ (∀ y0 y1 y2 y3 y4, LeO (spec_l9Blocks.l0 k y0 y1 y2 y3 y4) (spec_l9Blocks.l0 (k + 1) y0 y1 y2 y3 y4)) ∧ (∀ y0 y1 y2 y3, LeO (spec_l9Kids.f k y0 y1 y2 y3) (spec_l9Kids.f (k + 1) y0 y1 y2 y3)) ∧ (∀ y0 y1 y2 y3 y4 y5 y6, LeO (spec_l9Kids.j0 k y0 y1 y2 y3 y4 y5 y6) (spec_l9Kids.j0 (k + 1) y0 y1 y2 y3 y4 y5 y6)) ∧ (∀ y0 y1 y2 y3 y4 y5 y6, LeO (spec_l9Kids.j1 k y0 y1 y2 y3 y4 y5 y6) (spec_l9Kids.j1 (k + 1) y0 y1 y2 y3 y4 y5 y6)) ∧ (∀ y0 y1 y2 y3 y4 y5 y6, LeO (spec_l9Kids.j2 k y0 y1 y2 y3 y4 y5 y6) (spec_l9Kids.j2 (k + 1) y0 y1 y2 y3 y4 y5 y6)) ∧ (∀ y0 y1 y2 y3 y4 y5 y6, LeO (spec_l9Kids.j3 k y0 y1 y2 y3 y4 y5 y6) (spec_l9Kids.j3 (k + 1) y0 y1 y2 y3 y4 y5 y6)) ∧ (∀ y0 y1 y2 y3 y4 y5, LeO (spec_l9Kids.l0 k y0 y1 y2 y3 y4 y5) (spec_l9Kids.l0 (k + 1) y0 y1 y2 y3 y4 y5)) ∧ (∀ y0 y1 y2 y3, LeO (spec_l9Node.f k y0 y1 y2 y3) (spec_l9Node.f (k + 1) y0 y1 y2 y3)) ∧ (∀ y0 y1 y2 y3 y4, LeO (spec_l9Node.j0 k y0 y1 y2 y3 y4) (spec_l9Node.j0 (k + 1) y0 y1 y2 y3 y4)) ∧ (∀ y0 y1 y2 y3 y4 y5, LeO (spec_l9Node.j1 k y0 y1 y2 y3 y4 y5) (spec_l9Node.j1 (k + 1) y0 y1 y2 y3 y4 y5))
  | 0 => ⟨fun _ _ _ _ _ _ r h => by simp [spec_l9Es.f] at h, fun _ _ _ _ _ _ r h => by simp [spec_l9Es.l0] at h, fun _ _ _ _ _ r h => by simp [spec_l9Blocks.f] at h, fun _ _ _ _ _ r h => by simp [spec_l9Blocks.l0] at h, fun _ _ _ _ r h => by simp [spec_l9Kids.f] at h, fun _ _ _ _ _ _ _ r h => by simp [spec_l9Kids.j0] at h, fun _ _ _ _ _ _ _ r h => by simp [spec_l9Kids.j1] at h, fun _ _ _ _ _ _ _ r h => by simp [spec_l9Kids.j2] at h, fun _ _ _ _ _ _ _ r h => by simp [spec_l9Kids.j3] at h, fun _ _ _ _ _ _ r h => by simp [spec_l9Kids.l0] at h, fun _ _ _ _ r h => by simp [spec_l9Node.f] at h, fun _ _ _ _ _ r h => by simp [spec_l9Node.j0] at h, fun _ _ _ _ _ _ r h => by simp [spec_l9Node.j1] at h⟩
  | k + 1 => by
    obtain ⟨ih0, ih1, ih2, ih3, ih4, ih5, ih6, ih7, ih8, ih9, ih10, ih11, ih12⟩ := spec_l9Es.mono_g k
    refine ⟨?_, ?_, ?_, ?_, ?_, ?_, ?_, ?_, ?_, ?_, ?_, ?_, ?_⟩
    · intro y0 y1 y2 y3 y4 y5
      unfold spec_l9Es.f
      repeat' first
      | (with_reducible exact ih0 _ _ _ _ _ _)
      | (with_reducible exact ih1 _ _ _ _ _ _)
      | (with_reducible exact ih2 _ _ _ _ _)
      | (with_reducible exact ih3 _ _ _ _ _)
      | (with_reducible exact ih4 _ _ _ _)
      | (with_reducible exact ih5 _ _ _ _ _ _ _)
      | (with_reducible exact ih6 _ _ _ _ _ _ _)
      | (with_reducible exact ih7 _ _ _ _ _ _ _)
      | (with_reducible exact ih8 _ _ _ _ _ _ _)
      | (with_reducible exact ih9 _ _ _ _ _ _)
      | (with_reducible exact ih10 _ _ _ _)
      | (with_reducible exact ih11 _ _ _ _ _)
      | (with_reducible exact ih12 _ _ _ _ _ _)
      | (with_reducible exact spec_l7Within.mono _ _ _)
      | (with_reducible exact spec_l9Line.mono _ _)
      | (with_reducible exact spec_l9Name.mono _ _)
      | (with_reducible exact spec_l9Rex.mono _ _)
      | (with_reducible exact LeO.refl _)
      | (with_reducible exact LeO.none _)
      | (with_reducible refine LeO.ite ?_ ?_)
      | (with_reducible refine LeO.bind ?_ (fun _ => ?_))
      | exact ih0 _ _ _ _ _ _
      | exact ih1 _ _ _ _ _ _
      | exact ih2 _ _ _ _ _
      | exact ih3 _ _ _ _ _
      | exact ih4 _ _ _ _
      | exact ih5 _ _ _ _ _ _ _
      | exact ih6 _ _ _ _ _ _ _
      | exact ih7 _ _ _ _ _ _ _
      | exact ih8 _ _ _ _ _ _ _
      | exact ih9 _ _ _ _ _ _
      | exact ih10 _ _ _ _
      | exact ih11 _ _ _ _ _
      | exact ih12 _ _ _ _ _ _
      | exact spec_l7Within.mono _ _ _
      | exact spec_l9Line.mono _ _
      | exact spec_l9Name.mono _ _
      | exact spec_l9Rex.mono _ _
      | exact LeO.none _
      | refine LeO.ite ?_ ?_
      | refine LeO.bind ?_ (fun _ => ?_)
    · intro y0 y1 y2 y3 y4 y5
      unfold spec_l9Es.l0
      repeat' first
      | (with_reducible exact ih0 _ _ _ _ _ _)
      | (with_reducible exact ih1 _ _ _ _ _ _)
      | (with_reducible exact ih2 _ _ _ _ _)
      | (with_reducible exact ih3 _ _ _ _ _)
      | (with_reducible exact ih4 _ _ _ _)
      | (with_reducible exact ih5 _ _ _ _ _ _ _)
      | (with_reducible exact ih6 _ _ _ _ _ _ _)
      | (with_reducible exact ih7 _ _ _ _ _ _ _)
      | (with_reducible exact ih8 _ _ _ _ _ _ _)
      | (with_reducible exact ih9 _ _ _ _ _ _)
      | (with_reducible exact ih10 _ _ _ _)
      | (with_reducible exact ih11 _ _ _ _ _)
      | (with_reducible exact ih12 _ _ _ _ _ _)
      | (with_reducible exact spec_l7Within.mono _ _ _)
      | (with_reducible exact spec_l9Line.mono _ _)
      | (with_reducible exact spec_l9Name.mono _ _)
      | (with_reducible exact spec_l9Rex.mono _ _)
      | (with_reducible exact LeO.refl _)
      | (with_reducible exact LeO.none _)
      | (with_reducible refine LeO.ite ?_ ?_)
      | (with_reducible refine LeO.bind ?_ (fun _ => ?_))
      | exact ih0 _ _ _ _ _ _
      | exact ih1 _ _ _ _ _ _
      | exact ih2 _ _ _ _ _
      | exact ih3 _ _ _ _ _
      | exact ih4 _ _ _ _
      | exact ih5 _ _ _ _ _ _ _
      | exact ih6 _ _ _ _ _ _ _
      | exact ih7 _ _ _ _ _ _ _
      | exact ih8 _ _ _ _ _ _ _
      | exact ih9 _ _ _ _ _ _
      | exact ih10 _ _ _ _
      | exact ih11 _ _ _ _ _
      | exact ih12 _ _ _ _ _ _
      | exact spec_l7Within.mono _ _ _
      | exact spec_l9Line.mono _ _
      | exact spec_l9Name.mono _ _
      | exact spec_l9Rex.mono _ _
      | exact LeO.none _
      | refine LeO.ite ?_ ?_
      | refine LeO.bind ?_ (fun _ => ?_)
    · intro y0 y1 y2 y3 y4
      unfold spec_l9Blocks.f
      repeat' first
      | (with_reducible exact ih0 _ _ _ _ _ _)
      | (with_reducible exact ih1 _ _ _ _ _ _)
      | (with_reducible exact ih2 _ _ _ _ _)
      | (with_reducible exact ih3 _ _ _ _ _)
      | (with_reducible exact ih4 _ _ _ _)
      | (with_reducible exact ih5 _ _ _ _ _ _ _)
      | (with_reducible exact ih6 _ _ _ _ _ _ _)
      | (with_reducible exact ih7 _ _ _ _ _ _ _)
      | (with_reducible exact ih8 _ _ _ _ _ _ _)
      | (with_reducible exact ih9 _ _ _ _ _ _)
      | (with_reducible exact ih10 _ _ _ _)
      | (with_reducible exact ih11 _ _ _ _ _)
      | (with_reducible exact ih12 _ _ _ _ _ _)
      | (with_reducible exact spec_l7Within.mono _ _ _)
      | (with_reducible exact spec_l9Line.mono _ _)
      | (with_reducible exact spec_l9Name.mono _ _)
      | (with_reducible exact spec_l9Rex.mono _ _)
      | (with_reducible exact LeO.refl _)
      | (with_reducible exact LeO.none _)
      | (with_reducible refine LeO.ite ?_ ?_)
      | (with_reducible refine LeO.bind ?_ (fun _ => ?_))
      | exact ih0 _ _ _ _ _ _
      | exact ih1 _ _ _ _ _ _
      | exact ih2 _ _ _ _ _
      | exact ih3 _ _ _ _ _
      | exact ih4 _ _ _ _
      | exact ih5 _ _ _ _ _ _ _
      | exact ih6 _ _ _ _ _ _ _
      | exact ih7 _ _ _ _ _ _ _
      | exact ih8 _ _ _ _ _ _ _
      | exact ih9 _ _ _ _ _ _
      | exact ih10 _ _ _ _
      | exact ih11 _ _ _ _ _
      | exact ih12 _ _ _ _ _ _
      | exact spec_l7Within.mono _ _ _
      | exact spec_l9Line.mono _ _
      | exact spec_l9Name.mono _ _
      | exact spec_l9Rex.mono _ _
      | exact LeO.none _
      | refine LeO.ite ?_ ?_
      | refine LeO.bind ?_ (fun _ => ?_)
    · intro y0 y1 y2 y3 y4
      unfold spec_l9Blocks.l0
      repeat' first
      | (with_reducible exact ih0 _ _ _ _ _ _)
      | (with_reducible exact ih1 _ _ _ _ _ _)
      | (with_reducible exact ih2 _ _ _ _ _)
      | (with_reducible exact ih3 _ _ _ _ _)
      | (with_reducible exact ih4 _ _ _ _)
      | (with_reducible exact ih5 _ _ _ _ _ _ _)
      | (with_reducible exact ih6 _ _ _ _ _ _ _)
      | (with_reducible exact ih7 _ _ _ _ _ _ _)
      | (with_reducible exact ih8 _ _ _ _ _ _ _)
      | (with_reducible exact ih9 _ _ _ _ _ _)
      | (with_reducible exact ih10 _ _ _ _)
      | (with_reducible exact ih11 _ _ _ _ _)
      | (with_reducible exact ih12 _ _ _ _ _ _)
      | (with_reducible exact spec_l7Within.mono _ _ _)
      | (with_reducible exact spec_l9Line.mono _ _)
      | (with_reducible exact spec_l9Name.mono _ _)
      | (with_reducible exact spec_l9Rex.mono _ _)
      | (with_reducible exact LeO.refl _)
      | (with_reducible exact LeO.none _)
      | (with_reducible refine LeO.ite ?_ ?_)
      | (with_reducible refine LeO.bind ?_ (fun _ => ?_))
      | exact ih0 _ _ _ _ _ _
      | exact ih1 _ _ _ _ _ _
      | exact ih2 _ _ _ _ _
      | exact ih3 _ _ _ _ _
      | exact ih4 _ _ _ _
      | exact ih5 _ _ _ _ _ _ _
      | exact ih6 _ _ _ _ _ _ _
      | exact ih7 _ _ _ _ _ _ _
      | exact ih8 _ _ _ _ _ _ _
      | exact ih9 _ _ _ _ _ _
      | exact ih10 _ _ _ _
      | exact ih11 _ _ _ _ _
      | exact ih12 _ _ _ _ _ _
      | exact spec_l7Within.mono _ _ _
      | exact spec_l9Line.mono _ _
      | exact spec_l9Name.mono _ _
      | exact spec_l9Rex.mono _ _
      | exact LeO.none _
      | refine LeO.ite ?_ ?_
      | refine LeO.bind ?_ (fun _ => ?_)
    · intro y0 y1 y2 y3
      unfold spec_l9Kids.f
      repeat' first
      | (with_reducible exact ih0 _ _ _ _ _ _)
      | (with_reducible exact ih1 _ _ _ _ _ _)
      | (with_reducible exact ih2 _ _ _ _ _)
      | (with_reducible exact ih3 _ _ _ _ _)
      | (with_reducible exact ih4 _ _ _ _)
      | (with_reducible exact ih5 _ _ _ _ _ _ _)
      | (with_reducible exact ih6 _ _ _ _ _ _ _)
      | (with_reducible exact ih7 _ _ _ _ _ _ _)
      | (with_reducible exact ih8 _ _ _ _ _ _ _)
      | (with_reducible exact ih9 _ _ _ _ _ _)
      | (with_reducible exact ih10 _ _ _ _)
      | (with_reducible exact ih11 _ _ _ _ _)
      | (with_reducible exact ih12 _ _ _ _ _ _)
      | (with_reducible exact spec_l7Within.mono _ _ _)
      | (with_reducible exact spec_l9Line.mono _ _)
      | (with_reducible exact spec_l9Name.mono _ _)
      | (with_reducible exact spec_l9Rex.mono _ _)
      | (with_reducible exact LeO.refl _)
      | (with_reducible exact LeO.none _)
      | (with_reducible refine LeO.ite ?_ ?_)
      | (with_reducible refine LeO.bind ?_ (fun _ => ?_))
      | exact ih0 _ _ _ _ _ _
      | exact ih1 _ _ _ _ _ _
      | exact ih2 _ _ _ _ _
      | exact ih3 _ _ _ _ _
      | exact ih4 _ _ _ _
      | exact ih5 _ _ _ _ _ _ _
      | exact ih6 _ _ _ _ _ _ _
      | exact ih7 _ _ _ _ _ _ _
      | exact ih8 _ _ _ _ _ _ _
      | exact ih9 _ _ _ _ _ _
      | exact ih10 _ _ _ _
      | exact ih11 _ _ _ _ _
      | exact ih12 _ _ _ _ _ _
      | exact spec_l7Within.mono _ _ _
      | exact spec_l9Line.mono _ _
      | exact spec_l9Name.mono _ _
      | exact spec_l9Rex.mono _ _
      | exact LeO.none _
      | refine LeO.ite ?_ ?_
      | refine LeO.bind ?_ (fun _ => ?_)
    · intro y0 y1 y2 y3 y4 y5 y6
      unfold spec_l9Kids.j0
      repeat' first
      | (with_reducible exact ih0 _ _ _ _ _ _)
      | (with_reducible exact ih1 _ _ _ _ _ _)
      | (with_reducible exact ih2 _ _ _ _ _)
      | (with_reducible exact ih3 _ _ _ _ _)
      | (with_reducible exact ih4 _ _ _ _)
      | (with_reducible exact ih5 _ _ _ _ _ _ _)
      | (with_reducible exact ih6 _ _ _ _ _ _ _)
      | (with_reducible exact ih7 _ _ _ _ _ _ _)
      | (with_reducible exact ih8 _ _ _ _ _ _ _)
      | (with_reducible exact ih9 _ _ _ _ _ _)
      | (with_reducible exact ih10 _ _ _ _)
      | (with_reducible exact ih11 _ _ _ _ _)
      | (with_reducible exact ih12 _ _ _ _ _ _)
      | (with_reducible exact spec_l7Within.mono _ _ _)
      | (with_reducible exact spec_l9Line.mono _ _)
      | (with_reducible exact spec_l9Name.mono _ _)
      | (with_reducible exact spec_l9Rex.mono _ _)
      | (with_reducible exact LeO.refl _)
      | (with_reducible exact LeO.none _)
      | (with_reducible refine LeO.ite ?_ ?_)
      | (with_reducible refine LeO.bind ?_ (fun _ => ?_))
      | exact ih0 _ _ _ _ _ _
      | exact ih1 _ _ _ _ _ _
      | exact ih2 _ _ _ _ _
      | exact ih3 _ _ _ _ _
      | exact ih4 _ _ _ _
      | exact ih5 _ _ _ _ _ _ _
      | exact ih6 _ _ _ _ _ _ _
      | exact ih7 _ _ _ _ _ _ _
      | exact ih8 _ _ _ _ _ _ _
      | exact ih9 _ _ _ _ _ _
      | exact ih10 _ _ _ _
      | exact ih11 _ _ _ _ _
      | exact ih12 _ _ _ _ _ _
      | exact spec_l7Within.mono _ _ _
      | exact spec_l9Line.mono _ _
      | exact spec_l9Name.mono _ _
      | exact spec_l9Rex.mono _ _
      | exact LeO.none _
      | refine LeO.ite ?_ ?_
      | refine LeO.bind ?_ (fun _ => ?_)
    · intro y0 y1 y2 y3 y4 y5 y6
      unfold spec_l9Kids.j1
      repeat' first
      | (with_reducible exact ih0 _ _ _ _ _ _)
      | (with_reducible exact ih1 _ _ _ _ _ _)
      | (with_reducible exact ih2 _ _ _ _ _)
      | (with_reducible exact ih3 _ _ _ _ _)
      | (with_reducible exact ih4 _ _ _ _)
      | (with_reducible exact ih5 _ _ _ _ _ _ _)
      | (with_reducible exact ih6 _ _ _ _ _ _ _)
      | (with_reducible exact ih7 _ _ _ _ _ _ _)
      | (with_reducible exact ih8 _ _ _ _ _ _ _)
      | (with_reducible exact ih9 _ _ _ _ _ _)
      | (with_reducible exact ih10 _ _ _ _)
      | (with_reducible exact ih11 _ _ _ _ _)
      | (with_reducible exact ih12 _ _ _ _ _ _)
      | (with_reducible exact spec_l7Within.mono _ _ _)
      | (with_reducible exact spec_l9Line.mono _ _)
      | (with_reducible exact spec_l9Name.mono _ _)
      | (with_reducible exact spec_l9Rex.mono _ _)
      | (with_reducible exact LeO.refl _)
      | (with_reducible exact LeO.none _)
      | (with_reducible refine LeO.ite ?_ ?_)
      | (with_reducible refine LeO.bind ?_ (fun _ => ?_))
      | exact ih0 _ _ _ _ _ _
      | exact ih1 _ _ _ _ _ _
      | exact ih2 _ _ _ _ _
      | exact ih3 _ _ _ _ _
      | exact ih4 _ _ _ _
      | exact ih5 _ _ _ _ _ _ _
      | exact ih6 _ _ _ _ _ _ _
      | exact ih7 _ _ _ _ _ _ _
      | exact ih8 _ _ _ _ _ _ _
      | exact ih9 _ _ _ _ _ _
      | exact ih10 _ _ _ _
      | exact ih11 _ _ _ _ _
      | exact ih12 _ _ _ _ _ _
      | exact spec_l7Within.mono _ _ _
      | exact spec_l9Line.mono _ _
      | exact spec_l9Name.mono _ _
      | exact spec_l9Rex.mono _ _
      | exact LeO.none _
      | refine LeO.ite ?_ ?_
      | refine LeO.bind ?_ (fun _ => ?_)
    · intro y0 y1 y2 y3 y4 y5 y6
      unfold spec_l9Kids.j2
      repeat' first
      | (with_reducible exact ih0 _ _ _ _ _ _)
      | (with_reducible exact ih1 _ _ _ _ _ _)
      | (with_reducible exact ih2 _ _ _ _ _)
      | (with_reducible exact ih3 _ _ _ _ _)
      | (with_reducible exact ih4 _ _ _ _)
      | (with_reducible exact ih5 _ _ _ _ _ _ _)
      | (with_reducible exact ih6 _ _ _ _ _ _ _)
      | (with_reducible exact ih7 _ _ _ _ _ _ _)
      | (with_reducible exact ih8 _ _ _ _ _ _ _)
      | (with_reducible exact ih9 _ _ _ _ _ _)
      | (with_reducible exact ih10 _ _ _ _)
      | (with_reducible exact ih11 _ _ _ _ _)
      | (with_reducible exact ih12 _ _ _ _ _ _)
      | (with_reducible exact spec_l7Within.mono _ _ _)
      | (with_reducible exact spec_l9Line.mono _ _)
      | (with_reducible exact spec_l9Name.mono _ _)
      | (with_reducible exact spec_l9Rex.mono _ _)
      | (with_reducible exact LeO.refl _)
      | (with_reducible exact LeO.none _)
      | (with_reducible refine LeO.ite ?_ ?_)
      | (with_reducible refine LeO.bind ?_ (fun _ => ?_))
      | exact ih0 _ _ _ _ _ _
      | exact ih1 _ _ _ _ _ _
      | exact ih2 _ _ _ _ _
      | exact ih3 _ _ _ _ _
      | exact ih4 _ _ _ _
      | exact ih5 _ _ _ _ _ _ _
      | exact ih6 _ _ _ _ _ _ _
      | exact ih7 _ _ _ _ _ _ _
      | exact ih8 _ _ _ _ _ _ _
      | exact ih9 _ _ _ _ _ _
      | exact ih10 _ _ _ _
      | exact ih11 _ _ _ _ _
      | exact ih12 _ _ _ _ _ _
      | exact spec_l7Within.mono _ _ _
      | exact spec_l9Line.mono _ _
      | exact spec_l9Name.mono _ _
      | exact spec_l9Rex.mono _ _
      | exact LeO.none _
      | refine LeO.ite ?_ ?_
      | refine LeO.bind ?_ (fun _ => ?_)
    · intro y0 y1 y2 y3 y4 y5 y6
      unfold spec_l9Kids.j3
      repeat' first
      | (with_reducible exact ih0 _ _ _ _ _ _)
      | (with_reducible exact ih1 _ _ _ _ _ _)
      | (with_reducible exact ih2 _ _ _ _ _)
      | (with_reducible exact ih3 _ _ _ _ _)
      | (with_reducible exact ih4 _ _ _ _)
      | (with_reducible exact ih5 _ _ _ _ _ _ _)
      | (with_reducible exact ih6 _ _ _ _ _ _ _)
      | (with_reducible exact ih7 _ _ _ _ _ _ _)
      | (with_reducible exact ih8 _ _ _ _ _ _ _)
      | (with_reducible exact ih9 _ _ _ _ _ _)
      | (with_reducible exact ih10 _ _ _ _)
      | (with_reducible exact ih11 _ _ _ _ _)
      | (with_reducible exact ih12 _ _ _ _ _ _)
      | (with_reducible exact spec_l7Within.mono _ _ _)
      | (with_reducible exact spec_l9Line.mono _ _)
      | (with_reducible exact spec_l9Name.mono _ _)
      | (with_reducible exact spec_l9Rex.mono _ _)
      | (with_reducible exact LeO.refl _)
      | (with_reducible exact LeO.none _)
      | (with_reducible refine LeO.ite ?_ ?_)
      | (with_reducible refine LeO.bind ?_ (fun _ => ?_))
      | exact ih0 _ _ _ _ _ _
      | exact ih1 _ _ _ _ _ _
      | exact ih2 _ _ _ _ _
      | exact ih3 _ _ _ _ _
      | exact ih4 _ _ _ _
      | exact ih5 _ _ _ _ _ _ _
      | exact ih6 _ _ _ _ _ _ _
      | exact ih7 _ _ _ _ _ _ _
      | exact ih8 _ _ _ _ _ _ _
      | exact ih9 _ _ _ _ _ _
      | exact ih10 _ _ _ _
      | exact ih11 _ _ _ _ _
      | exact ih12 _ _ _ _ _ _
      | exact spec_l7Within.mono _ _ _
      | exact spec_l9Line.mono _ _
      | exact spec_l9Name.mono _ _
      | exact spec_l9Rex.mono _ _
      | exact LeO.none _
      | refine LeO.ite ?_ ?_
      | refine LeO.bind ?_ (fun _ => ?_)
    · intro y0 y1 y2 y3 y4 y5
      unfold spec_l9Kids.l0
      repeat' first
      | (with_reducible exact ih0 _ _ _ _ _ _)
      | (with_reducible exact ih1 _ _ _ _ _ _)
      | (with_reducible exact ih2 _ _ _ _ _)
      | (with_reducible exact ih3 _ _ _ _ _)
      | (with_reducible exact ih4 _ _ _ _)
      | (with_reducible exact ih5 _ _ _ _ _ _ _)
      | (with_reducible exact ih6 _ _ _ _ _ _ _)
      | (with_reducible exact ih7 _ _ _ _ _ _ _)
      | (with_reducible exact ih8 _ _ _ _ _ _ _)
      | (with_reducible exact ih9 _ _ _ _ _ _)
      | (with_reducible exact ih10 _ _ _ _)
      | (with_reducible exact ih11 _ _ _ _ _)
      | (with_reducible exact ih12 _ _ _ _ _ _)
      | (with_reducible exact spec_l7Within.mono _ _ _)
      | (with_reducible exact spec_l9Line.mono _ _)
      | (with_reducible exact spec_l9Name.mono _ _)
      | (with_reducible exact spec_l9Rex.mono _ _)
      | (with_reducible exact LeO.refl _)
      | (with_reducible exact LeO.none _)
      | (with_reducible refine LeO.ite ?_ ?_)
      | (with_reducible refine LeO.bind ?_ (fun _ => ?_))
      | exact ih0 _ _ _ _ _ _
      | exact ih1 _ _ _ _ _ _
      | exact ih2 _ _ _ _ _
      | exact ih3 _ _ _ _ _
      | exact ih4 _ _ _ _
      | exact ih5 _ _ _ _ _ _ _
      | exact ih6 _ _ _ _ _ _ _
      | exact ih7 _ _ _ _ _ _ _
      | exact ih8 _ _ _ _ _ _ _
      | exact ih9 _ _ _ _ _ _
      | exact ih10 _ _ _ _
      | exact ih11 _ _ _ _ _
      | exact ih12 _ _ _ _ _ _
      | exact spec_l7Within.mono _ _ _
      | exact spec_l9Line.mono _ _
      | exact spec_l9Name.mono _ _
      | exact spec_l9Rex.mono _ _
      | exact LeO.none _
      | refine LeO.ite ?_ ?_
      | refine LeO.bind ?_ (fun _ => ?_)
    · intro y0 y1 y2 y3
      unfold spec_l9Node.f
      repeat' first
      | (with_reducible exact ih0 _ _ _ _ _ _)
      | (with_reducible exact ih1 _ _ _ _ _ _)
      | (with_reducible exact ih2 _ _ _ _ _)
      | (with_reducible exact ih3 _ _ _ _ _)
      | (with_reducible exact ih4 _ _ _ _)
      | (with_reducible exact ih5 _ _ _ _ _ _ _)
      | (with_reducible exact ih6 _ _ _ _ _ _ _)
      | (with_reducible exact ih7 _ _ _ _ _ _ _)
      | (with_reducible exact ih8 _ _ _ _ _ _ _)
      | (with_reducible exact ih9 _ _ _ _ _ _)
      | (with_reducible exact ih10 _ _ _ _)
      | (with_reducible exact ih11 _ _ _ _ _)
      | (with_reducible exact ih12 _ _ _ _ _ _)
      | (with_reducible exact spec_l7Within.mono _ _ _)
      | (with_reducible exact spec_l9Line.mono _ _)
      | (with_reducible exact spec_l9Name.mono _ _)
      | (with_reducible exact spec_l9Rex.mono _ _)
      | (with_reducible exact LeO.refl _)
      | (with_reducible exact LeO.none _)
      | (with_reducible refine LeO.ite ?_ ?_)
      | (with_reducible refine LeO.bind ?_ (fun _ => ?_))
      | exact ih0 _ _ _ _ _ _
      | exact ih1 _ _ _ _ _ _
      | exact ih2 _ _ _ _ _
      | exact ih3 _ _ _ _ _
      | exact ih4 _ _ _ _
      | exact ih5 _ _ _ _ _ _ _
      | exact ih6 _ _ _ _ _ _ _
      | exact ih7 _ _ _ _ _ _ _
      | exact ih8 _ _ _ _ _ _ _
      | exact ih9 _ _ _ _ _ _
      | exact ih10 _ _ _ _
      | exact ih11 _ _ _ _ _
      | exact ih12 _ _ _ _ _ _
      | exact spec_l7Within.mono _ _ _
      | exact spec_l9Line.mono _ _
      | exact spec_l9Name.mono _ _
      | exact spec_l9Rex.mono _ _
      | exact LeO.none _
      | refine LeO.ite ?_ ?_
      | refine LeO.bind ?_ (fun _ => ?_)
    · intro y0 y1 y2 y3 y4
      unfold spec_l9Node.j0
      repeat' first
      | (with_reducible exact ih0 _ _ _ _ _ _)
      | (with_reducible exact ih1 _ _ _ _ _ _)
      | (with_reducible exact ih2 _ _ _ _ _)
      | (with_reducible exact ih3 _ _ _ _ _)
      | (with_reducible exact ih4 _ _ _ _)
      | (with_reducible exact ih5 _ _ _ _ _ _ _)
      | (with_reducible exact ih6 _ _ _ _ _ _ _)
      | (with_reducible exact ih7 _ _ _ _ _ _ _)
      | (with_reducible exact ih8 _ _ _ _ _ _ _)
      | (with_reducible exact ih9 _ _ _ _ _ _)
      | (with_reducible exact ih10 _ _ _ _)
      | (with_reducible exact ih11 _ _ _ _ _)
      | (with_reducible exact ih12 _ _ _ _ _ _)
      | (with_reducible exact spec_l7Within.mono _ _ _)
      | (with_reducible exact spec_l9Line.mono _ _)
      | (with_reducible exact spec_l9Name.mono _ _)
      | (with_reducible exact spec_l9Rex.mono _ _)
      | (with_reducible exact LeO.refl _)
      | (with_reducible exact LeO.none _)
      | (with_reducible refine LeO.ite ?_ ?_)
      | (with_reducible refine LeO.bind ?_ (fun _ => ?_))
      | exact ih0 _ _ _ _ _ _
      | exact ih1 _ _ _ _ _ _
      | exact ih2 _ _ _ _ _
      | exact ih3 _ _ _ _ _
      | exact ih4 _ _ _ _
      | exact ih5 _ _ _ _ _ _ _
      | exact ih6 _ _ _ _ _ _ _
      | exact ih7 _ _ _ _ _ _ _
      | exact ih8 _ _ _ _ _ _ _
      | exact ih9 _ _ _ _ _ _
      | exact ih10 _ _ _ _
      | exact ih11 _ _ _ _ _
      | exact ih12 _ _ _ _ _ _
      | exact spec_l7Within.mono _ _ _
      | exact spec_l9Line.mono _ _
      | exact spec_l9Name.mono _ _
      | exact spec_l9Rex.mono _ _
      | exact LeO.none _
      | refine LeO.ite ?_ ?_
      | refine LeO.bind ?_ (fun _ => ?_)
    · intro y0 y1 y2 y3 y4 y5
      unfold spec_l9Node.j1
      repeat' first
      | (with_reducible exact ih0 _ _ _ _ _ _)
      | (with_reducible exact ih1 _ _ _ _ _ _)
      | (with_reducible exact ih2 _ _ _ _ _)
      | (with_reducible exact ih3 _ _ _ _ _)
      | (with_reducible exact ih4 _ _ _ _)
      | (with_reducible exact ih5 _ _ _ _ _ _ _)
      | (with_reducible exact ih6 _ _ _ _ _ _ _)
      | (with_reducible exact ih7 _ _ _ _ _ _ _)
      | (with_reducible exact ih8 _ _ _ _ _ _ _)
      | (with_reducible exact ih9 _ _ _ _ _ _)
      | (with_reducible exact ih10 _ _ _ _)
      | (with_reducible exact ih11 _ _ _ _ _)
      | (with_reducible exact ih12 _ _ _ _ _ _)
      | (with_reducible exact spec_l7Within.mono _ _ _)
      | (with_reducible exact spec_l9Line.mono _ _)
      | (with_reducible exact spec_l9Name.mono _ _)
      | (with_reducible exact spec_l9Rex.mono _ _)
      | (with_reducible exact LeO.refl _)
      | (with_reducible exact LeO.none _)
      | (with_reducible refine LeO.ite ?_ ?_)
      | (with_reducible refine LeO.bind ?_ (fun _ => ?_))
      | exact ih0 _ _ _ _ _ _
      | exact ih1 _ _ _ _ _ _
      | exact ih2 _ _ _ _ _
      | exact ih3 _ _ _ _ _
      | exact ih4 _ _ _ _
      | exact ih5 _ _ _ _ _ _ _
      | exact ih6 _ _ _ _ _ _ _
      | exact ih7 _ _ _ _ _ _ _
      | exact ih8 _ _ _ _ _ _ _
      | exact ih9 _ _ _ _ _ _
      | exact ih10 _ _ _ _
      | exact ih11 _ _ _ _ _
      | exact ih12 _ _ _ _ _ _
      | exact spec_l7Within.mono _ _ _
      | exact spec_l9Line.mono _ _
      | exact spec_l9Name.mono _ _
      | exact spec_l9Rex.mono _ _
      | exact LeO.none _
      | refine LeO.ite ?_ ?_
      | refine LeO.bind ?_ (fun _ => ?_)
theorem spec_l9Es.mono : ∀ a0 a1 a2 a3 a4 a5 k, LeO (spec_l9Es.f k a0 a1 a2 a3 a4 a5) (spec_l9Es.f (k + 1) a0 a1 a2 a3 a4 a5) := by
  intro a0 a1 a2 a3 a4 a5 k
  obtain ⟨ih0, ih1, ih2, ih3, ih4, ih5, ih6, ih7, ih8, ih9, ih10, ih11, ih12⟩ := spec_l9Es.mono_g k
  exact ih0 a0 a1 a2 a3 a4 a5
theorem spec_l9Blocks.mono : ∀ a0 a1 a2 a3 a4 k, LeO (spec_l9Blocks.f k a0 a1 a2 a3 a4) (spec_l9Blocks.f (k + 1) a0 a1 a2 a3 a4) := by
  intro a0 a1 a2 a3 a4 k
  obtain ⟨ih0, ih1, ih2, ih3, ih4, ih5, ih6, ih7, ih8, ih9, ih10, ih11, ih12⟩ := spec_l9Es.mono_g k
  exact ih2 a0 a1 a2 a3 a4
theorem spec_l9Kids.mono : ∀ a0 a1 a2 a3 k, LeO (spec_l9Kids.f k a0 a1 a2 a3) (spec_l9Kids.f (k + 1) a0 a1 a2 a3) := by
  intro a0 a1 a2 a3 k
  obtain ⟨ih0, ih1, ih2, ih3, ih4, ih5, ih6, ih7, ih8, ih9, ih10, ih11, ih12⟩ := spec_l9Es.mono_g k
  exact ih4 a0 a1 a2 a3
theorem spec_l9Node.mono : ∀ a0 a1 a2 a3 k, LeO (spec_l9Node.f k a0 a1 a2 a3) (spec_l9Node.f (k + 1) a0 a1 a2 a3) := by
  intro a0 a1 a2 a3 k
  obtain ⟨ih0, ih1, ih2, ih3, ih4, ih5, ih6, ih7, ih8, ih9, ih10, ih11, ih12⟩ := spec_l9Es.mono_g k
  exact ih10 a0 a1 a2 a3
noncomputable def spec_l9Es.l0v (x2 : Int) (x7 : Int) (x128000 : Int) (x128001 : Int) (x128002 : ByteArray) (x128003 : List (S66)) : Option (Bool) := limOf (fun k => spec_l9Es.l0 k x2 x7 x128000 x128001 x128002 x128003)
theorem spec_l9Es.l0_lim (x2 : Int) (x7 : Int) (x128000 : Int) (x128001 : Int) (x128002 : ByteArray) (x128003 : List (S66)) : Lim (fun k => spec_l9Es.l0 k x2 x7 x128000 x128001 x128002 x128003) (spec_l9Es.l0v x2 x7 x128000 x128001 x128002 x128003) := Lim.of (fun k => (spec_l9Es.mono_g k).2.1 x2 x7 x128000 x128001 x128002 x128003)
noncomputable def spec_l9Es.fv (a0_0 : Int) (a0_1 : Int) (a0_2 : ByteArray) (l0_3 : List (S66)) (a1 : Int) (a2 : Int) : Option (Bool) := limOf (fun k => spec_l9Es.f k a0_0 a0_1 a0_2 l0_3 a1 a2)
theorem spec_l9Es.f_lim (a0_0 : Int) (a0_1 : Int) (a0_2 : ByteArray) (l0_3 : List (S66)) (a1 : Int) (a2 : Int) : Lim (fun k => spec_l9Es.f k a0_0 a0_1 a0_2 l0_3 a1 a2) (spec_l9Es.fv a0_0 a0_1 a0_2 l0_3 a1 a2) := Lim.of (fun k => (spec_l9Es.mono_g k).1 a0_0 a0_1 a0_2 l0_3 a1 a2)
noncomputable def spec_l9Blocks.l0v (x5 : Int) (x133000 : Int) (x133001 : Int) (x133002 : ByteArray) (x133003 : List (S66)) : Option (Bool) := limOf (fun k => spec_l9Blocks.l0 k x5 x133000 x133001 x133002 x133003)
theorem spec_l9Blocks.l0_lim (x5 : Int) (x133000 : Int) (x133001 : Int) (x133002 : ByteArray) (x133003 : List (S66)) : Lim (fun k => spec_l9Blocks.l0 k x5 x133000 x133001 x133002 x133003) (spec_l9Blocks.l0v x5 x133000 x133001 x133002 x133003) := Lim.of (fun k => (spec_l9Es.mono_g k).2.2.2.1 x5 x133000 x133001 x133002 x133003)
noncomputable def spec_l9Blocks.fv (a0_0 : Int) (a0_1 : Int) (a0_2 : ByteArray) (l0_3 : List (S66)) (a1 : Int) : Option (Bool) := limOf (fun k => spec_l9Blocks.f k a0_0 a0_1 a0_2 l0_3 a1)
theorem spec_l9Blocks.f_lim (a0_0 : Int) (a0_1 : Int) (a0_2 : ByteArray) (l0_3 : List (S66)) (a1 : Int) : Lim (fun k => spec_l9Blocks.f k a0_0 a0_1 a0_2 l0_3 a1) (spec_l9Blocks.fv a0_0 a0_1 a0_2 l0_3 a1) := Lim.of (fun k => (spec_l9Es.mono_g k).2.2.1 a0_0 a0_1 a0_2 l0_3 a1)
noncomputable def spec_l9Kids.j0v (x3 : Int) (x9 : Int) (x10 : Bool) (x137000 : Int) (x137001 : Int) (x137002 : ByteArray) (x137003 : List (S66)) : Option (Bool) := limOf (fun k => spec_l9Kids.j0 k x3 x9 x10 x137000 x137001 x137002 x137003)
theorem spec_l9Kids.j0_lim (x3 : Int) (x9 : Int) (x10 : Bool) (x137000 : Int) (x137001 : Int) (x137002 : ByteArray) (x137003 : List (S66)) : Lim (fun k => spec_l9Kids.j0 k x3 x9 x10 x137000 x137001 x137002 x137003) (spec_l9Kids.j0v x3 x9 x10 x137000 x137001 x137002 x137003) := Lim.of (fun k => (spec_l9Es.mono_g k).2.2.2.2.2.1 x3 x9 x10 x137000 x137001 x137002 x137003)
noncomputable def spec_l9Kids.j1v (x3 : Int) (x9 : Int) (x23 : Bool) (x137000 : Int) (x137001 : Int) (x137002 : ByteArray) (x137003 : List (S66)) : Option (Bool) := limOf (fun k => spec_l9Kids.j1 k x3 x9 x23 x137000 x137001 x137002 x137003)
theorem spec_l9Kids.j1_lim (x3 : Int) (x9 : Int) (x23 : Bool) (x137000 : Int) (x137001 : Int) (x137002 : ByteArray) (x137003 : List (S66)) : Lim (fun k => spec_l9Kids.j1 k x3 x9 x23 x137000 x137001 x137002 x137003) (spec_l9Kids.j1v x3 x9 x23 x137000 x137001 x137002 x137003) := Lim.of (fun k => (spec_l9Es.mono_g k).2.2.2.2.2.2.1 x3 x9 x23 x137000 x137001 x137002 x137003)
noncomputable def spec_l9Kids.j2v (x3 : Int) (x9 : Int) (x45 : Bool) (x137000 : Int) (x137001 : Int) (x137002 : ByteArray) (x137003 : List (S66)) : Option (Bool) := limOf (fun k => spec_l9Kids.j2 k x3 x9 x45 x137000 x137001 x137002 x137003)
theorem spec_l9Kids.j2_lim (x3 : Int) (x9 : Int) (x45 : Bool) (x137000 : Int) (x137001 : Int) (x137002 : ByteArray) (x137003 : List (S66)) : Lim (fun k => spec_l9Kids.j2 k x3 x9 x45 x137000 x137001 x137002 x137003) (spec_l9Kids.j2v x3 x9 x45 x137000 x137001 x137002 x137003) := Lim.of (fun k => (spec_l9Es.mono_g k).2.2.2.2.2.2.2.1 x3 x9 x45 x137000 x137001 x137002 x137003)
noncomputable def spec_l9Kids.j3v (x3 : Int) (x9 : Int) (x70 : Bool) (x137000 : Int) (x137001 : Int) (x137002 : ByteArray) (x137003 : List (S66)) : Option (Bool) := limOf (fun k => spec_l9Kids.j3 k x3 x9 x70 x137000 x137001 x137002 x137003)
theorem spec_l9Kids.j3_lim (x3 : Int) (x9 : Int) (x70 : Bool) (x137000 : Int) (x137001 : Int) (x137002 : ByteArray) (x137003 : List (S66)) : Lim (fun k => spec_l9Kids.j3 k x3 x9 x70 x137000 x137001 x137002 x137003) (spec_l9Kids.j3v x3 x9 x70 x137000 x137001 x137002 x137003) := Lim.of (fun k => (spec_l9Es.mono_g k).2.2.2.2.2.2.2.2.1 x3 x9 x70 x137000 x137001 x137002 x137003)
noncomputable def spec_l9Kids.l0v (x3 : Int) (x4 : Int) (x137000 : Int) (x137001 : Int) (x137002 : ByteArray) (x137003 : List (S66)) : Option (Bool) := limOf (fun k => spec_l9Kids.l0 k x3 x4 x137000 x137001 x137002 x137003)
theorem spec_l9Kids.l0_lim (x3 : Int) (x4 : Int) (x137000 : Int) (x137001 : Int) (x137002 : ByteArray) (x137003 : List (S66)) : Lim (fun k => spec_l9Kids.l0 k x3 x4 x137000 x137001 x137002 x137003) (spec_l9Kids.l0v x3 x4 x137000 x137001 x137002 x137003) := Lim.of (fun k => (spec_l9Es.mono_g k).2.2.2.2.2.2.2.2.2.1 x3 x4 x137000 x137001 x137002 x137003)
noncomputable def spec_l9Kids.fv (a0_0 : Int) (a0_1 : Int) (a0_2 : ByteArray) (l0_3 : List (S66)) : Option (Bool) := limOf (fun k => spec_l9Kids.f k a0_0 a0_1 a0_2 l0_3)
theorem spec_l9Kids.f_lim (a0_0 : Int) (a0_1 : Int) (a0_2 : ByteArray) (l0_3 : List (S66)) : Lim (fun k => spec_l9Kids.f k a0_0 a0_1 a0_2 l0_3) (spec_l9Kids.fv a0_0 a0_1 a0_2 l0_3) := Lim.of (fun k => (spec_l9Es.mono_g k).2.2.2.2.1 a0_0 a0_1 a0_2 l0_3)
noncomputable def spec_l9Node.j0v (x21 : Bool) (x154000 : Int) (x154001 : Int) (x154002 : ByteArray) (x154003 : List (S66)) : Option (Bool) := limOf (fun k => spec_l9Node.j0 k x21 x154000 x154001 x154002 x154003)
theorem spec_l9Node.j0_lim (x21 : Bool) (x154000 : Int) (x154001 : Int) (x154002 : ByteArray) (x154003 : List (S66)) : Lim (fun k => spec_l9Node.j0 k x21 x154000 x154001 x154002 x154003) (spec_l9Node.j0v x21 x154000 x154001 x154002 x154003) := Lim.of (fun k => (spec_l9Es.mono_g k).2.2.2.2.2.2.2.2.2.2.2.1 x21 x154000 x154001 x154002 x154003)
noncomputable def spec_l9Node.j1v (x23 : Int) (x44 : Bool) (x154000 : Int) (x154001 : Int) (x154002 : ByteArray) (x154003 : List (S66)) : Option (Bool) := limOf (fun k => spec_l9Node.j1 k x23 x44 x154000 x154001 x154002 x154003)
theorem spec_l9Node.j1_lim (x23 : Int) (x44 : Bool) (x154000 : Int) (x154001 : Int) (x154002 : ByteArray) (x154003 : List (S66)) : Lim (fun k => spec_l9Node.j1 k x23 x44 x154000 x154001 x154002 x154003) (spec_l9Node.j1v x23 x44 x154000 x154001 x154002 x154003) := Lim.of (fun k => (spec_l9Es.mono_g k).2.2.2.2.2.2.2.2.2.2.2.2 x23 x44 x154000 x154001 x154002 x154003)
noncomputable def spec_l9Node.fv (a0_0 : Int) (a0_1 : Int) (a0_2 : ByteArray) (l0_3 : List (S66)) : Option (Bool) := limOf (fun k => spec_l9Node.f k a0_0 a0_1 a0_2 l0_3)
theorem spec_l9Node.f_lim (a0_0 : Int) (a0_1 : Int) (a0_2 : ByteArray) (l0_3 : List (S66)) : Lim (fun k => spec_l9Node.f k a0_0 a0_1 a0_2 l0_3) (spec_l9Node.fv a0_0 a0_1 a0_2 l0_3) := Lim.of (fun k => (spec_l9Es.mono_g k).2.2.2.2.2.2.2.2.2.2.1 a0_0 a0_1 a0_2 l0_3)
set_option maxHeartbeats 4000000 in
theorem spec_l9Es.l0v_eq (x2 : Int) (x7 : Int) (x128000 : Int) (x128001 : Int) (x128002 : ByteArray) (x128003 : List (S66)) : spec_l9Es.l0v x2 x7 x128000 x128001 x128002 x128003 = (if x7 < x2 then (if 0 ≤ x7 then (if x7 < (x128003.length : Int) then ((spec_l9IsE.f ((rd_T66 x128003 x7).f0)).bind fun t129 => (if t129 = true then ((spec_l9Node.fv ((rd_T66 x128003 x7).f0) ((rd_T66 x128003 x7).f1) ((rd_T66 x128003 x7).f2) ((rd_T66 x128003 x7).f3)).bind fun t131 => (if t131 = true then (spec_l9Es.l0v x2 (wrap64 (x7 + 1)) x128000 x128001 x128002 x128003) else (some false))) else (some false))) else (none)) else (none)) else (some true)) := by
  refine Lim.succ (spec_l9Es.l0_lim x2 x7 x128000 x128001 x128002 x128003) ?_
  simp only [spec_l9Es.l0]
  repeat' first
    | (with_reducible apply spec_l9Es.l0_lim)
    | (with_reducible apply spec_l9Node.f_lim)
    | (with_reducible exact Lim.const _)
    | (with_reducible refine Lim.ite ?_ ?_)
    | (with_reducible refine Lim.bind ?_ (fun _ => ?_))
    | apply spec_l9Es.l0_lim
    | apply spec_l9Node.f_lim
    | exact Lim.const _
    | refine Lim.ite ?_ ?_
    | refine Lim.bind ?_ (fun _ => ?_)
set_option maxHeartbeats 4000000 in
theorem spec_l9Es.fv_eq (a0_0 : Int) (a0_1 : Int) (a0_2 : ByteArray) (l0_3 : List (S66)) (a1 : Int) (a2 : Int) : spec_l9Es.fv a0_0 a0_1 a0_2 l0_3 a1 a2 = (spec_l9Es.l0v a2 a1 a0_0 a0_1 a0_2 l0_3) := by
  refine Lim.succ (spec_l9Es.f_lim a0_0 a0_1 a0_2 l0_3 a1 a2) ?_
  simp only [spec_l9Es.f]
  repeat' first
    | (with_reducible apply spec_l9Es.l0_lim)
    | (with_reducible exact Lim.const _)
    | (with_reducible refine Lim.ite ?_ ?_)
    | (with_reducible refine Lim.bind ?_ (fun _ => ?_))
    | apply spec_l9Es.l0_lim
    | exact Lim.const _
    | refine Lim.ite ?_ ?_
    | refine Lim.bind ?_ (fun _ => ?_)

set_option maxHeartbeats 4000000 in
theorem spec_l9Blocks.l0v_eq (x5 : Int) (x133000 : Int) (x133001 : Int) (x133002 : ByteArray) (x133003 : List (S66)) : spec_l9Blocks.l0v x5 x133000 x133001 x133002 x133003 = (if x5 < (x133003.length : Int) then (if 0 ≤ x5 then (if ((rd_T66 x133003 x5).f0) = 29 then ((spec_l9Node.fv ((rd_T66 x133003 x5).f0) ((rd_T66 x133003 x5).f1) ((rd_T66 x133003 x5).f2) ((rd_T66 x133003 x5).f3)).bind fun t135 => (if t135 = true then (spec_l9Blocks.l0v (wrap64 (x5 + 1)) x133000 x133001 x133002 x133003) else (some false))) else (some false)) else (none)) else (some true)) := by
  refine Lim.succ (spec_l9Blocks.l0_lim x5 x133000 x133001 x133002 x133003) ?_
  simp only [spec_l9Blocks.l0]
  repeat' first
    | (with_reducible apply spec_l9Blocks.l0_lim)
    | (with_reducible apply spec_l9Node.f_lim)
    | (with_reducible exact Lim.const _)
    | (with_reducible refine Lim.ite ?_ ?_)
    | (with_reducible refine Lim.bind ?_ (fun _ => ?_))
    | apply spec_l9Blocks.l0_lim
    | apply spec_l9Node.f_lim
    | exact Lim.const _
    | refine Lim.ite ?_ ?_
    | refine Lim.bind ?_ (fun _ => ?_)
set_option maxHeartbeats 4000000 in
theorem spec_l9Blocks.fv_eq (a0_0 : Int) (a0_1 : Int) (a0_2 : ByteArray) (l0_3 : List (S66)) (a1 : Int) : spec_l9Blocks.fv a0_0 a0_1 a0_2 l0_3 a1 = (spec_l9Blocks.l0v a1 a0_0 a0_1 a0_2 l0_3) := by
  refine Lim.succ (spec_l9Blocks.f_lim a0_0 a0_1 a0_2 l0_3 a1) ?_
  simp only [spec_l9Blocks.f]
  repeat' first
    | (with_reducible apply spec_l9Blocks.l0_lim)
    | (with_reducible exact Lim.const _)
    | (with_reducible refine Lim.ite ?_ ?_)
    | (with_reducible refine Lim.bind ?_ (fun _ => ?_))
    | apply spec_l9Blocks.l0_lim
    | exact Lim.const _
    | refine Lim.ite ?_ ?_
    | refine Lim.bind ?_ (fun _ => ?_)

set_option maxHeartbeats 4000000 in
theorem spec_l9Kids.j0v_eq (x3 : Int) (x9 : Int) (x10 : Bool) (x137000 : Int) (x137001 : Int) (x137002 : ByteArray) (x137003 : List (S66)) : spec_l9Kids.j0v x3 x9 x10 x137000 x137001 x137002 x137003 = (if x10 = true then (if x3 = 1 then ((spec_l9Es.fv x137000 x137001 x137002 x137003 0 1).bind fun t137 => (some t137)) else (some false)) else (if x9 = 9 then (spec_l9Kids.j1v x3 x9 (x9 == 9) x137000 x137001 x137002 x137003) else (if x9 = 10 then (spec_l9Kids.j1v x3 x9 (x9 == 10) x137000 x137001 x137002 x137003) else (if x9 = 11 then (spec_l9Kids.j1v x3 x9 (x9 == 11) x137000 x137001 x137002 x137003) else (if x9 = 12 then (spec_l9Kids.j1v x3 x9 (x9 == 12) x137000 x137001 x137002 x137003) else (if x9 = 13 then (spec_l9Kids.j1v x3 x9 (x9 == 13) x137000 x137001 x137002 x137003) else (if x9 = 14 then (spec_l9Kids.j1v x3 x9 (x9 == 14) x137000 x137001 x137002 x137003) else (if x9 = 15 then (spec_l9Kids.j1v x3 x9 (x9 == 15) x137000 x137001 x137002 x137003) else (if x9 = 16 then (spec_l9Kids.j1v x3 x9 (x9 == 16) x137000 x137001 x137002 x137003) else (if x9 = 17 then (spec_l9Kids.j1v x3 x9 (x9 == 17) x137000 x137001 x137002 x137003) else (if x9 = 18 then (spec_l9Kids.j1v x3 x9 (x9 == 18) x137000 x137001 x137002 x137003) else (if x9 = 19 then (spec_l9Kids.j1v x3 x9 (x9 == 19) x137000 x137001 x137002 x137003) else (if x9 = 20 then (spec_l9Kids.j1v x3 x9 (x9 == 20) x137000 x137001 x137002 x137003) else (if x9 = 21 then (spec_l9Kids.j1v x3 x9 (x9 == 21) x137000 x137001 x137002 x137003) else (if x9 = 24 then (spec_l9Kids.j1v x3 x9 (x9 == 24) x137000 x137001 x137002 x137003) else (spec_l9Kids.j1v x3 x9 (x9 == 25) x137000 x137001 x137002 x137003)))))))))))))))) := by
  refine Lim.succ (spec_l9Kids.j0_lim x3 x9 x10 x137000 x137001 x137002 x137003) ?_
  simp only [spec_l9Kids.j0]
  repeat' first
    | (with_reducible apply spec_l9Es.f_lim)
    | (with_reducible apply spec_l9Kids.j1_lim)
    | (with_reducible exact Lim.const _)
    | (with_reducible refine Lim.ite ?_ ?_)
    | (with_reducible refine Lim.bind ?_ (fun _ => ?_))
    | apply spec_l9Es.f_lim
    | apply spec_l9Kids.j1_lim
    | exact Lim.const _
    | refine Lim.ite ?_ ?_
    | refine Lim.bind ?_ (fun _ => ?_)
set_option maxHeartbeats 4000000 in
theorem spec_l9Kids.j1v_eq (x3 : Int) (x9 : Int) (x23 : Bool) (x137000 : Int) (x137001 : Int) (x137002 : ByteArray) (x137003 : List (S66)) : spec_l9Kids.j1v x3 x9 x23 x137000 x137001 x137002 x137003 = (if x23 = true then (if x3 = 2 then ((spec_l9Es.fv x137000 x137001 x137002 x137003 0 2).bind fun t138 => (some t138)) else (some false)) else (if x9 = 26 then (spec_l9Kids.j2v x3 x9 (x9 == 26) x137000 x137001 x137002 x137003) else (spec_l9Kids.j2v x3 x9 (x9 == 27) x137000 x137001 x137002 x137003))) := by
  refine Lim.succ (spec_l9Kids.j1_lim x3 x9 x23 x137000 x137001 x137002 x137003) ?_
  simp only [spec_l9Kids.j1]
  repeat' first
    | (with_reducible apply spec_l9Es.f_lim)
    | (with_reducible apply spec_l9Kids.j2_lim)
    | (with_reducible exact Lim.const _)
    | (with_reducible refine Lim.ite ?_ ?_)
    | (with_reducible refine Lim.bind ?_ (fun _ => ?_))
    | apply spec_l9Es.f_lim
    | apply spec_l9Kids.j2_lim
    | exact Lim.const _
    | refine Lim.ite ?_ ?_
    | refine Lim.bind ?_ (fun _ => ?_)
set_option maxHeartbeats 4000000 in
theorem spec_l9Kids.j2v_eq (x3 : Int) (x9 : Int) (x45 : Bool) (x137000 : Int) (x137001 : Int) (x137002 : ByteArray) (x137003 : List (S66)) : spec_l9Kids.j2v x3 x9 x45 x137000 x137001 x137002 x137003 = (if x45 = true then (if x3 = 2 then (if 0 < (x137003.length : Int) then (if ((rd_T66 x137003 0).f0) = 4 then ((spec_l9Es.fv x137000 x137001 x137002 x137003 0 2).bind fun t140 => (some t140)) else (if ((rd_T66 x137003 0).f0) = 5 then ((spec_l9Es.fv x137000 x137001 x137002 x137003 0 2).bind fun t142 => (some t142)) else (some false))) else (none)) else (some false)) else (if x9 = 28 then (spec_l9Kids.j3v x3 x9 (x9 == 28) x137000 x137001 x137002 x137003) else (spec_l9Kids.j3v x3 x9 (x9 == 30) x137000 x137001 x137002 x137003))) := by
  refine Lim.succ (spec_l9Kids.j2_lim x3 x9 x45 x137000 x137001 x137002 x137003) ?_
  simp only [spec_l9Kids.j2]
  repeat' first
    | (with_reducible apply spec_l9Es.f_lim)
    | (with_reducible apply spec_l9Kids.j3_lim)
    | (with_reducible exact Lim.const _)
    | (with_reducible refine Lim.ite ?_ ?_)
    | (with_reducible refine Lim.bind ?_ (fun _ => ?_))
    | apply spec_l9Es.f_lim
    | apply spec_l9Kids.j3_lim
    | exact Lim.const _
    | refine Lim.ite ?_ ?_
    | refine Lim.bind ?_ (fun _ => ?_)
set_option maxHeartbeats 4000000 in
theorem spec_l9Kids.j3v_eq (x3 : Int) (x9 : Int) (x70 : Bool) (x137000 : Int) (x137001 : Int) (x137002 : ByteArray) (x137003 : List (S66)) : spec_l9Kids.j3v x3 x9 x70 x137000 x137001 x137002 x137003 = (if x70 = true then ((spec_l9Es.fv x137000 x137001 x137002 x137003 0 x3).bind fun t143 => (some t143)) else (if x9 = 31 then ((spec_l1In.f x3 2 3).bind fun t144 => (if t144 = true then ((spec_l9Es.fv x137000 x137001 x137002 x137003 0 1).bind fun t145 => (if t145 = true then ((spec_l9Blocks.fv x137000 x137001 x137002 x137003 1).bind fun t146 => (some t146)) else (some false))) else (some false))) else (if x9 = 32 then (if x3 = 2 then ((spec_l9Es.fv x137000 x137001 x137002 x137003 0 1).bind fun t147 => (if t147 = true then ((spec_l9Blocks.fv x137000 x137001 x137002 x137003 1).bind fun t148 => (some t148)) else (some false))) else (some false)) else (if x9 = 29 then (spec_l9Kids.l0v x3 0 x137000 x137001 x137002 x137003) else (some (x3 == 0)))))) := by
  refine Lim.succ (spec_l9Kids.j3_lim x3 x9 x70 x137000 x137001 x137002 x137003) ?_
  simp only [spec_l9Kids.j3]
  repeat' first
    | (with_reducible apply spec_l9Blocks.f_lim)
    | (with_reducible apply spec_l9Es.f_lim)
    | (with_reducible apply spec_l9Kids.l0_lim)
    | (with_reducible exact Lim.const _)
    | (with_reducible refine Lim.ite ?_ ?_)
    | (with_reducible refine Lim.bind ?_ (fun _ => ?_))
    | apply spec_l9Blocks.f_lim
    | apply spec_l9Es.f_lim
    | apply spec_l9Kids.l0_lim
    | exact Lim.const _
    | refine Lim.ite ?_ ?_
    | refine Lim.bind ?_ (fun _ => ?_)
set_option maxHeartbeats 4000000 in
theorem spec_l9Kids.l0v_eq (x3 : Int) (x4 : Int) (x137000 : Int) (x137001 : Int) (x137002 : ByteArray) (x137003 : List (S66)) : spec_l9Kids.l0v x3 x4 x137000 x137001 x137002 x137003 = (if x4 < x3 then (if 0 ≤ x4 then (if x4 < (x137003.length : Int) then ((spec_l1In.f ((rd_T66 x137003 x4).f0) 29 35).bind fun t150 => (if t150 = true then ((spec_l9Node.fv ((rd_T66 x137003 x4).f0) ((rd_T66 x137003 x4).f1) ((rd_T66 x137003 x4).f2) ((rd_T66 x137003 x4).f3)).bind fun t152 => (if t152 = true then (spec_l9Kids.l0v x3 (wrap64 (x4 + 1)) x137000 x137001 x137002 x137003) else (some false))) else (some false))) else (none)) else (none)) else (some true)) := by
  refine Lim.succ (spec_l9Kids.l0_lim x3 x4 x137000 x137001 x137002 x137003) ?_
  simp only [spec_l9Kids.l0]
  repeat' first
    | (with_reducible apply spec_l9Kids.l0_lim)
    | (with_reducible apply spec_l9Node.f_lim)
    | (with_reducible exact Lim.const _)
    | (with_reducible refine Lim.ite ?_ ?_)
    | (with_reducible refine Lim.bind ?_ (fun _ => ?_))
    | apply spec_l9Kids.l0_lim
    | apply spec_l9Node.f_lim
    | exact Lim.const _
    | refine Lim.ite ?_ ?_
    | refine Lim.bind ?_ (fun _ => ?_)
set_option maxHeartbeats 4000000 in
theorem spec_l9Kids.fv_eq (a0_0 : Int) (a0_1 : Int) (a0_2 : ByteArray) (l0_3 : List (S66)) : spec_l9Kids.fv a0_0 a0_1 a0_2 l0_3 = (if a0_0 = 5 then (spec_l9Kids.j0v (l0_3.length : Int) a0_0 (a0_0 == 5) a0_0 a0_1 a0_2 l0_3) else (if a0_0 = 6 then (spec_l9Kids.j0v (l0_3.length : Int) a0_0 (a0_0 == 6) a0_0 a0_1 a0_2 l0_3) else (if a0_0 = 22 then (spec_l9Kids.j0v (l0_3.length : Int) a0_0 (a0_0 == 22) a0_0 a0_1 a0_2 l0_3) else (if a0_0 = 23 then (spec_l9Kids.j0v (l0_3.length : Int) a0_0 (a0_0 == 23) a0_0 a0_1 a0_2 l0_3) else (if a0_0 = 34 then (spec_l9Kids.j0v (l0_3.length : Int) a0_0 (a0_0 == 34) a0_0 a0_1 a0_2 l0_3) else (spec_l9Kids.j0v (l0_3.length : Int) a0_0 (a0_0 == 35) a0_0 a0_1 a0_2 l0_3)))))) := by
  refine Lim.succ (spec_l9Kids.f_lim a0_0 a0_1 a0_2 l0_3) ?_
  simp only [spec_l9Kids.f]
  repeat' first
    | (with_reducible apply spec_l9Kids.j0_lim)
    | (with_reducible exact Lim.const _)
    | (with_reducible refine Lim.ite ?_ ?_)
    | (with_reducible refine Lim.bind ?_ (fun _ => ?_))
    | apply spec_l9Kids.j0_lim
    | exact Lim.const _
    | refine Lim.ite ?_ ?_
    | refine Lim.bind ?_ (fun _ => ?_)

set_option maxHeartbeats 4000000 in
theorem spec_l9Node.j0v_eq (x21 : Bool) (x154000 : Int) (x154001 : Int) (x154002 : ByteArray) (x154003 : List (S66)) : spec_l9Node.j0v x21 x154000 x154001 x154002 x154003 = (if x21 = true then (some false) else (if x154000 = 1 then (if x154002.toList = ([] : List UInt8) then ((spec_l1In.f x154001 0 9000000000000).bind fun t156 => (some t156)) else (some false)) else (if x154000 = 2 then ((spec_l9Line.fv x154002).bind fun t157 => (some t157)) else (if x154000 = 3 then ((spec_l9Rex.fv x154002).bind fun t158 => (some t158)) else (if x154000 = 4 then (spec_l9Node.j1v x154000 (x154000 == 4) x154000 x154001 x154002 x154003) else (if x154000 = 5 then (spec_l9Node.j1v x154000 (x154000 == 5) x154000 x154001 x154002 x154003) else (spec_l9Node.j1v x154000 (x154000 == 34) x154000 x154001 x154002 x154003))))))) := by
  refine Lim.succ (spec_l9Node.j0_lim x21 x154000 x154001 x154002 x154003) ?_
  simp only [spec_l9Node.j0]
  repeat' first
    | (with_reducible apply spec_l9Line.f_lim)
    | (with_reducible apply spec_l9Node.j1_lim)
    | (with_reducible apply spec_l9Rex.f_lim)
    | (with_reducible exact Lim.const _)
    | (with_reducible refine Lim.ite ?_ ?_)
    | (with_reducible refine Lim.bind ?_ (fun _ => ?_))
    | apply spec_l9Line.f_lim
    | apply spec_l9Node.j1_lim
    | apply spec_l9Rex.f_lim
    | exact Lim.const _
    | refine Lim.ite ?_ ?_
    | refine Lim.bind ?_ (fun _ => ?_)
set_option maxHeartbeats 4000000 in
theorem spec_l9Node.j1v_eq (x23 : Int) (x44 : Bool) (x154000 : Int) (x154001 : Int) (x154002 : ByteArray) (x154003 : List (S66)) : spec_l9Node.j1v x23 x44 x154000 x154001 x154002 x154003 = (if x44 = true then ((spec_l9Name.fv x154002).bind fun t159 => (some t159)) else (if x23 = 28 then ((spec_l7Calls.f).bind fun t160 => ((spec_l7Within.fv t160 x154002).bind fun t163 => (some t163))) else (some (x154002.toList == ([] : List UInt8))))) := by
  refine Lim.succ (spec_l9Node.j1_lim x23 x44 x154000 x154001 x154002 x154003) ?_
  simp only [spec_l9Node.j1]
  repeat' first
    | (with_reducible apply spec_l7Within.f_lim)
    | (with_reducible apply spec_l9Name.f_lim)
    | (with_reducible exact Lim.const _)
    | (with_reducible refine Lim.ite ?_ ?_)
    | (with_reducible refine Lim.bind ?_ (fun _ => ?_))
    | apply spec_l7Within.f_lim
    | apply spec_l9Name.f_lim
    | exact Lim.const _
    | refine Lim.ite ?_ ?_
    | refine Lim.bind ?_ (fun _ => ?_)
set_option maxHeartbeats 4000000 in
theorem spec_l9Node.fv_eq (a0_0 : Int) (a0_1 : Int) (a0_2 : ByteArray) (l0_3 : List (S66)) : spec_l9Node.fv a0_0 a0_1 a0_2 l0_3 = ((spec_l9Kids.fv a0_0 a0_1 a0_2 l0_3).bind fun t154 => (if t154 = true then ((spec_l1In.f a0_0 1 35).bind fun t155 => (if t155 = true then (if a0_1 = 0 then (spec_l9Node.j0v false a0_0 a0_1 a0_2 l0_3) else (spec_l9Node.j0v (a0_0 != 1) a0_0 a0_1 a0_2 l0_3)) else (spec_l9Node.j0v true a0_0 a0_1 a0_2 l0_3))) else (spec_l9Node.j0v true a0_0 a0_1 a0_2 l0_3))) := by
  refine Lim.succ (spec_l9Node.f_lim a0_0 a0_1 a0_2 l0_3) ?_
  simp only [spec_l9Node.f]
  repeat' first
    | (with_reducible apply spec_l9Kids.f_lim)
    | (with_reducible apply spec_l9Node.j0_lim)
    | (with_reducible exact Lim.const _)
    | (with_reducible refine Lim.ite ?_ ?_)
    | (with_reducible refine Lim.bind ?_ (fun _ => ?_))
    | apply spec_l9Kids.f_lim
    | apply spec_l9Node.j0_lim
    | exact Lim.const _
    | refine Lim.ite ?_ ?_
    | refine Lim.bind ?_ (fun _ => ?_)


/-! ### spec_l1Max -/
def spec_l1Max.f (a0 : Int) (a1 : Int) : Option (Int) := if a0 > a1 then (some a0) else (some a1)

end Go.Proofs.Ythigelphmjepaaa.QFnExactTidy
