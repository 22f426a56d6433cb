/- Written by wip/pr2, a program of this session. -/
import Derived.Test.YtgdhiccjllpogaaQFnSumsx0
import Derived.Test.YtgdhiccjllpogaaLim
namespace Go.Proofs.Ytgdhiccjllpogaa.QFnSums
open Go.RowKit Go.Proofs.YtgdhiccjllpogaaW.PrintWords Go.Proofs.YtgdhiccjllpogaaW.PrintLast Go.Proofs.YtgdhiccjllpogaaW.PrintMore
attribute [local go_sem] max2_int min2_int max_two min_two max_three min_three max_four min_four   -- for this text's walks alone
set_option linter.unusedVariables false
set_option linter.unusedSimpArgs false
set_option maxHeartbeats 8000000

open Go.Proofs.YtgdhiccjllpogaaW.Lims
/-! ### spec_l1In -/
def spec_l1In.f (a0 : Int) (a1 : Int) (a2 : Int) : Option (Bool) := if a0 ≥ a1 then (some (decide (a0 ≤ a2))) else (some false)

/-! ### spec_DecOk -/
def spec_DecOk.f (a0 : Int) : Option (Bool) := (spec_l1In.f a0 (-9000000000000) 9000000000000).bind fun t101 => (some t101)

/-! ### spec_l1Abs -/
def spec_l1Abs.f (a0 : Int) : Option (Int) := if a0 < 0 then (some (wrap64 (-a0))) else (some a0)

/-! ### spec_l1Right -/
def spec_l1Right.f (a0 : Int) : Option (Int × Bool) := (spec_DecOk.f a0).bind fun t102 => (if t102 = true then (some (a0, true)) else (some (0, false)))

/-! ### spec_DecMul -/
mutual
def spec_DecMul.j0 : Nat → Int → Int → Bool → Option (Int × Bool)
  | 0, _, _, _ => none
  | k + 1, x0, x1, x18 => if x18 = true then (some (0, false)) else ((spec_l1Abs.f x0).bind fun t105 => ((spec_l1Abs.f x1).bind fun t106 => (if t106 > 0 then (if t106 = 0 then (none) else (spec_DecMul.j1 k x0 x1 t106 (wrap64 (Int.tdiv t105 1000000)) (Int.tmod t105 1000000) (decide ((wrap64 (Int.tdiv t105 1000000)) > (wrap64 ((9000000000000 : Int) / t106)))))) else (spec_DecMul.j1 k x0 x1 t106 (wrap64 (Int.tdiv t105 1000000)) (Int.tmod t105 1000000) false))))
def spec_DecMul.j1 : Nat → Int → Int → Int → Int → Int → Bool → Option (Int × Bool)
  | 0, _, _, _, _, _, _ => none
  | k + 1, x0, x1, x7, x8, x9, x34 => if x34 = true then (some (0, false)) else (if ((decide (x0 < 0)) != (decide (x1 < 0))) = true then ((spec_l1Right.f (wrap64 (-(wrap64 ((wrap64 (x8 * x7)) + (wrap64 (Int.tdiv (wrap64 (x9 * x7)) 1000000))))))).bind fun bt107 => (some (bt107.1, bt107.2))) else ((spec_l1Right.f (wrap64 ((wrap64 (x8 * x7)) + (wrap64 (Int.tdiv (wrap64 (x9 * x7)) 1000000))))).bind fun bt109 => (some (bt109.1, bt109.2))))
end
def spec_DecMul.f (k : Nat) (a0 : Int) (a1 : Int) : Option (Int × Bool) := (spec_DecOk.f a0).bind fun t103 => (if t103 = true then ((spec_DecOk.f a1).bind fun t104 => (spec_DecMul.j0 k a0 a1 (!t104))) else (spec_DecMul.j0 k a0 a1 true))
theorem spec_DecMul.mono_l : ∀ k, (∀ y0 y1 y2, LeO (spec_DecMul.j0 k y0 y1 y2) (spec_DecMul.j0 (k + 1) y0 y1 y2)) ∧ (∀ y0 y1 y2 y3 y4 y5, LeO (spec_DecMul.j1 k y0 y1 y2 y3 y4 y5) (spec_DecMul.j1 (k + 1) y0 y1 y2 y3 y4 y5))
  | 0 => ⟨fun _ _ _ r h => by simp [spec_DecMul.j0] at h, fun _ _ _ _ _ _ r h => by simp [spec_DecMul.j1] at h⟩
  | k + 1 => by
    obtain ⟨ih0, ih1⟩ := spec_DecMul.mono_l k
    refine ⟨?_, ?_⟩
    · intro y0 y1 y2
      unfold spec_DecMul.j0
      repeat' first
      | (with_reducible exact ih0 _ _ _)
      | (with_reducible exact ih1 _ _ _ _ _ _)
      | (with_reducible exact LeO.refl _)
      | (with_reducible exact LeO.none _)
      | (with_reducible refine LeO.ite ?_ ?_)
      | (with_reducible refine LeO.bind ?_ (fun _ => ?_))
      | exact ih0 _ _ _
      | exact ih1 _ _ _ _ _ _
      | exact LeO.none _
      | refine LeO.ite ?_ ?_
      | refine LeO.bind ?_ (fun _ => ?_)
    · intro y0 y1 y2 y3 y4 y5
      unfold spec_DecMul.j1
      repeat' first
      | (with_reducible exact ih0 _ _ _)
      | (with_reducible exact ih1 _ _ _ _ _ _)
      | (with_reducible exact LeO.refl _)
      | (with_reducible exact LeO.none _)
      | (with_reducible refine LeO.ite ?_ ?_)
      | (with_reducible refine LeO.bind ?_ (fun _ => ?_))
      | exact ih0 _ _ _
      | exact ih1 _ _ _ _ _ _
      | exact LeO.none _
      | refine LeO.ite ?_ ?_
      | refine LeO.bind ?_ (fun _ => ?_)
theorem spec_DecMul.mono : ∀ a0 a1 k, LeO (spec_DecMul.f k a0 a1) (spec_DecMul.f (k + 1) a0 a1) := by
  intro a0 a1 k
  obtain ⟨ih0, ih1⟩ := spec_DecMul.mono_l k
  unfold spec_DecMul.f
  repeat' first
      | (with_reducible exact ih0 _ _ _)
      | (with_reducible exact ih1 _ _ _ _ _ _)
      | (with_reducible exact LeO.refl _)
      | (with_reducible exact LeO.none _)
      | (with_reducible refine LeO.ite ?_ ?_)
      | (with_reducible refine LeO.bind ?_ (fun _ => ?_))
      | exact ih0 _ _ _
      | exact ih1 _ _ _ _ _ _
      | exact LeO.none _
      | refine LeO.ite ?_ ?_
      | refine LeO.bind ?_ (fun _ => ?_)
noncomputable def spec_DecMul.j0v (x0 : Int) (x1 : Int) (x18 : Bool) : Option (Int × Bool) := limOf (fun k => spec_DecMul.j0 k x0 x1 x18)
theorem spec_DecMul.j0_lim (x0 : Int) (x1 : Int) (x18 : Bool) : Lim (fun k => spec_DecMul.j0 k x0 x1 x18) (spec_DecMul.j0v x0 x1 x18) := Lim.of (fun k => (spec_DecMul.mono_l k).1 x0 x1 x18)
noncomputable def spec_DecMul.j1v (x0 : Int) (x1 : Int) (x7 : Int) (x8 : Int) (x9 : Int) (x34 : Bool) : Option (Int × Bool) := limOf (fun k => spec_DecMul.j1 k x0 x1 x7 x8 x9 x34)
theorem spec_DecMul.j1_lim (x0 : Int) (x1 : Int) (x7 : Int) (x8 : Int) (x9 : Int) (x34 : Bool) : Lim (fun k => spec_DecMul.j1 k x0 x1 x7 x8 x9 x34) (spec_DecMul.j1v x0 x1 x7 x8 x9 x34) := Lim.of (fun k => (spec_DecMul.mono_l k).2 x0 x1 x7 x8 x9 x34)
noncomputable def spec_DecMul.fv (a0 : Int) (a1 : Int) : Option (Int × Bool) := limOf (fun k => spec_DecMul.f k a0 a1)
theorem spec_DecMul.f_lim (a0 : Int) (a1 : Int) : Lim (fun k => spec_DecMul.f k a0 a1) (spec_DecMul.fv a0 a1) := Lim.of (fun k => spec_DecMul.mono a0 a1 k)
set_option maxHeartbeats 4000000 in
theorem spec_DecMul.j0v_eq (x0 : Int) (x1 : Int) (x18 : Bool) : spec_DecMul.j0v x0 x1 x18 = (if x18 = true then (some (0, false)) else ((spec_l1Abs.f x0).bind fun t105 => ((spec_l1Abs.f x1).bind fun t106 => (if t106 > 0 then (if t106 = 0 then (none) else (spec_DecMul.j1v x0 x1 t106 (wrap64 (Int.tdiv t105 1000000)) (Int.tmod t105 1000000) (decide ((wrap64 (Int.tdiv t105 1000000)) > (wrap64 ((9000000000000 : Int) / t106)))))) else (spec_DecMul.j1v x0 x1 t106 (wrap64 (Int.tdiv t105 1000000)) (Int.tmod t105 1000000) false))))) := by
  refine Lim.succ (spec_DecMul.j0_lim x0 x1 x18) ?_
  simp only [spec_DecMul.j0]
  repeat' first
    | (with_reducible apply spec_DecMul.j1_lim)
    | (with_reducible exact Lim.const _)
    | (with_reducible refine Lim.ite ?_ ?_)
    | (with_reducible refine Lim.bind ?_ (fun _ => ?_))
    | apply spec_DecMul.j1_lim
    | exact Lim.const _
    | refine Lim.ite ?_ ?_
    | refine Lim.bind ?_ (fun _ => ?_)
set_option maxHeartbeats 4000000 in
theorem spec_DecMul.j1v_eq (x0 : Int) (x1 : Int) (x7 : Int) (x8 : Int) (x9 : Int) (x34 : Bool) : spec_DecMul.j1v x0 x1 x7 x8 x9 x34 = (if x34 = true then (some (0, false)) else (if ((decide (x0 < 0)) != (decide (x1 < 0))) = true then ((spec_l1Right.f (wrap64 (-(wrap64 ((wrap64 (x8 * x7)) + (wrap64 (Int.tdiv (wrap64 (x9 * x7)) 1000000))))))).bind fun bt107 => (some (bt107.1, bt107.2))) else ((spec_l1Right.f (wrap64 ((wrap64 (x8 * x7)) + (wrap64 (Int.tdiv (wrap64 (x9 * x7)) 1000000))))).bind fun bt109 => (some (bt109.1, bt109.2))))) := by
  refine Lim.succ (spec_DecMul.j1_lim x0 x1 x7 x8 x9 x34) ?_
  simp only [spec_DecMul.j1]
  repeat' first
    | (with_reducible exact Lim.const _)
    | (with_reducible refine Lim.ite ?_ ?_)
    | (with_reducible refine Lim.bind ?_ (fun _ => ?_))
    | exact Lim.const _
    | refine Lim.ite ?_ ?_
    | refine Lim.bind ?_ (fun _ => ?_)
set_option maxHeartbeats 4000000 in
theorem spec_DecMul.fv_eq (a0 : Int) (a1 : Int) : spec_DecMul.fv a0 a1 = ((spec_DecOk.f a0).bind fun t103 => (if t103 = true then ((spec_DecOk.f a1).bind fun t104 => (spec_DecMul.j0v a0 a1 (!t104))) else (spec_DecMul.j0v a0 a1 true))) := by
  refine Lim.eq (spec_DecMul.f_lim a0 a1) ?_
  simp only [spec_DecMul.f]
  repeat' first
    | (with_reducible apply spec_DecMul.j0_lim)
    | (with_reducible exact Lim.const _)
    | (with_reducible refine Lim.ite ?_ ?_)
    | (with_reducible refine Lim.bind ?_ (fun _ => ?_))
    | apply spec_DecMul.j0_lim
    | exact Lim.const _
    | refine Lim.ite ?_ ?_
    | refine Lim.bind ?_ (fun _ => ?_)

/-! ### impl_in -/
def impl_in.f (a0 : Int) (a1 : Int) (a2 : Int) : Option (Bool) := if a0 ≥ a1 then (some (decide (a0 ≤ a2))) else (some false)

/-! ### impl_DecOk -/
def impl_DecOk.f (a0 : Int) : Option (Bool) := (impl_in.f a0 (-9000000000000) 9000000000000).bind fun t111 => (some t111)

/-! ### bits_Mul64 -/
def bits_Mul64.f (a0 : Int) (a1 : Int) : Option (Int × Int) := some (IntKind.u64.wrap ((IntKind.u64.wrap ((IntKind.u64.wrap ((a0 / 4294967296) * (a1 / 4294967296))) + ((IntKind.u64.wrap ((IntKind.u64.wrap ((a0 / 4294967296) * (Go.bits .and .u64 a1 4294967295))) + ((IntKind.u64.wrap ((Go.bits .and .u64 a0 4294967295) * (Go.bits .and .u64 a1 4294967295))) / 4294967296))) / 4294967296))) + ((IntKind.u64.wrap ((Go.bits .and .u64 (IntKind.u64.wrap ((IntKind.u64.wrap ((a0 / 4294967296) * (Go.bits .and .u64 a1 4294967295))) + ((IntKind.u64.wrap ((Go.bits .and .u64 a0 4294967295) * (Go.bits .and .u64 a1 4294967295))) / 4294967296))) 4294967295) + (IntKind.u64.wrap ((Go.bits .and .u64 a0 4294967295) * (a1 / 4294967296))))) / 4294967296)), IntKind.u64.wrap (a0 * a1))

/-! ### impl_amount -/
def impl_amount.f (a0 : Int) : Option (Int) := if a0 < 0 then (some (IntKind.u64.wrap (wrap64 (-a0)))) else (some (IntKind.u64.wrap (a0)))

/-! ### bits_Len64 -/
def bits_Len64.f (a0 : Int) : Option (Int) := if 0 ≤ a0 ∧ a0 ≤ 18446744073709551615 then some ((Lib.bitLen a0.toNat : Nat) : Int) else none

/-! ### bits_LeadingZeros64 -/
def bits_LeadingZeros64.f (a0 : Int) : Option (Int) := (bits_Len64.f a0).bind fun t112 => (some (wrap64 (64 - t112)))

/-! ### bits_Div64 -/
mutual
def bits_Div64.j2 : Nat → Int → Int → Int → Int → Int → Int → Int → Int → Option (Int × Int)
  | 0, _, _, _, _, _, _, _, _ => none
  | k + 1, x2, x8, x9, x10, x11, x13, x14, x15 => if x9 = 0 then (none) else (bits_Div64.l1 k x2 x8 x9 x10 x14 x15 (IntKind.u64.wrap ((IntKind.u64.wrap ((IntKind.u64.wrap ((IntKind.u64.wrap (x11 * 4294967296)) + x13)) - (IntKind.u64.wrap (x15 * x2)))) - (IntKind.u64.wrap ((IntKind.u64.wrap (Int.tdiv (IntKind.u64.wrap ((IntKind.u64.wrap ((IntKind.u64.wrap (x11 * 4294967296)) + x13)) - (IntKind.u64.wrap (x15 * x2)))) x9)) * x9)))) (IntKind.u64.wrap ((IntKind.u64.wrap ((IntKind.u64.wrap (x11 * 4294967296)) + x13)) - (IntKind.u64.wrap (x15 * x2)))) (IntKind.u64.wrap (Int.tdiv (IntKind.u64.wrap ((IntKind.u64.wrap ((IntKind.u64.wrap (x11 * 4294967296)) + x13)) - (IntKind.u64.wrap (x15 * x2)))) x9)))
def bits_Div64.l1 : Nat → Int → Int → Int → Int → Int → Int → Int → Int → Int → Option (Int × Int)
  | 0, _, _, _, _, _, _, _, _, _ => none
  | k + 1, x2, x8, x9, x10, x14, x15, x16, x17, x18 => if x18 ≥ 4294967296 then (bits_Div64.j4 k x2 x8 x9 x10 x14 x15 x16 x17 x18 true) else (bits_Div64.j4 k x2 x8 x9 x10 x14 x15 x16 x17 x18 (decide ((IntKind.u64.wrap (x18 * x10)) > (IntKind.u64.wrap ((IntKind.u64.wrap (4294967296 * x16)) + x14)))))
def bits_Div64.j4 : Nat → Int → Int → Int → Int → Int → Int → Int → Int → Int → Bool → Option (Int × Int)
  | 0, _, _, _, _, _, _, _, _, _, _ => none
  | k + 1, x2, x8, x9, x10, x14, x15, x16, x17, x18, x113 => if x113 = true then (if (IntKind.u64.wrap (x16 + x9)) ≥ 4294967296 then (if 0 ≤ x8 then (some (IntKind.u64.wrap ((IntKind.u64.wrap (x15 * 4294967296)) + (IntKind.u64.wrap (x18 - 1))), shr .u64 (IntKind.u64.wrap ((IntKind.u64.wrap ((IntKind.u64.wrap (x17 * 4294967296)) + x14)) - (IntKind.u64.wrap ((IntKind.u64.wrap (x18 - 1)) * x2)))) x8)) else (none)) else (bits_Div64.l1 k x2 x8 x9 x10 x14 x15 (IntKind.u64.wrap (x16 + x9)) x17 (IntKind.u64.wrap (x18 - 1)))) else (if 0 ≤ x8 then (some (IntKind.u64.wrap ((IntKind.u64.wrap (x15 * 4294967296)) + x18), shr .u64 (IntKind.u64.wrap ((IntKind.u64.wrap ((IntKind.u64.wrap (x17 * 4294967296)) + x14)) - (IntKind.u64.wrap (x18 * x2)))) x8)) else (none))
def bits_Div64.l0 : Nat → Int → Int → Int → Int → Int → Int → Int → Int → Int → Option (Int × Int)
  | 0, _, _, _, _, _, _, _, _, _ => none
  | k + 1, x2, x8, x9, x10, x11, x13, x14, x15, x16 => if x15 ≥ 4294967296 then (bits_Div64.j1 k x2 x8 x9 x10 x11 x13 x14 x15 x16 true) else (bits_Div64.j1 k x2 x8 x9 x10 x11 x13 x14 x15 x16 (decide ((IntKind.u64.wrap (x15 * x10)) > (IntKind.u64.wrap ((IntKind.u64.wrap (4294967296 * x16)) + x13)))))
def bits_Div64.j1 : Nat → Int → Int → Int → Int → Int → Int → Int → Int → Int → Bool → Option (Int × Int)
  | 0, _, _, _, _, _, _, _, _, _, _ => none
  | k + 1, x2, x8, x9, x10, x11, x13, x14, x15, x16, x78 => if x78 = true then (if (IntKind.u64.wrap (x16 + x9)) ≥ 4294967296 then (bits_Div64.j2 k x2 x8 x9 x10 x11 x13 x14 (IntKind.u64.wrap (x15 - 1))) else (bits_Div64.l0 k x2 x8 x9 x10 x11 x13 x14 (IntKind.u64.wrap (x15 - 1)) (IntKind.u64.wrap (x16 + x9)))) else (bits_Div64.j2 k x2 x8 x9 x10 x11 x13 x14 x15)
end
def bits_Div64.f (k : Nat) (a0 : Int) (a1 : Int) (a2 : Int) : Option (Int × Int) := if a2 = 0 then (none) else (if a2 ≤ a0 then (none) else (if a0 = 0 then (some (IntKind.u64.wrap (Int.tdiv a1 a2), Int.tmod a1 a2)) else ((bits_LeadingZeros64.f a2).bind fun t113 => (if 0 ≤ (IntKind.u64.wrap (t113)) then (if 0 ≤ (IntKind.u64.wrap (64 - (IntKind.u64.wrap (t113)))) then (if ((shl .u64 a2 (IntKind.u64.wrap (t113))) / 4294967296) = 0 then (none) else (bits_Div64.l0 k (shl .u64 a2 (IntKind.u64.wrap (t113))) (IntKind.u64.wrap (t113)) ((shl .u64 a2 (IntKind.u64.wrap (t113))) / 4294967296) (Go.bits .and .u64 (shl .u64 a2 (IntKind.u64.wrap (t113))) 4294967295) (Go.bits .or .u64 (shl .u64 a0 (IntKind.u64.wrap (t113))) (shr .u64 a1 (IntKind.u64.wrap (64 - (IntKind.u64.wrap (t113)))))) ((shl .u64 a1 (IntKind.u64.wrap (t113))) / 4294967296) (Go.bits .and .u64 (shl .u64 a1 (IntKind.u64.wrap (t113))) 4294967295) (IntKind.u64.wrap (Int.tdiv (Go.bits .or .u64 (shl .u64 a0 (IntKind.u64.wrap (t113))) (shr .u64 a1 (IntKind.u64.wrap (64 - (IntKind.u64.wrap (t113)))))) ((shl .u64 a2 (IntKind.u64.wrap (t113))) / 4294967296))) (IntKind.u64.wrap ((Go.bits .or .u64 (shl .u64 a0 (IntKind.u64.wrap (t113))) (shr .u64 a1 (IntKind.u64.wrap (64 - (IntKind.u64.wrap (t113)))))) - (IntKind.u64.wrap ((IntKind.u64.wrap (Int.tdiv (Go.bits .or .u64 (shl .u64 a0 (IntKind.u64.wrap (t113))) (shr .u64 a1 (IntKind.u64.wrap (64 - (IntKind.u64.wrap (t113)))))) ((shl .u64 a2 (IntKind.u64.wrap (t113))) / 4294967296))) * ((shl .u64 a2 (IntKind.u64.wrap (t113))) / 4294967296))))))) else (none)) else (none)))))
theorem bits_Div64.mono_l : ∀ k, (∀ y0 y1 y2 y3 y4 y5 y6 y7, LeO (bits_Div64.j2 k y0 y1 y2 y3 y4 y5 y6 y7) (bits_Div64.j2 (k + 1) y0 y1 y2 y3 y4 y5 y6 y7)) ∧ (∀ y0 y1 y2 y3 y4 y5 y6 y7 y8, LeO (bits_Div64.l1 k y0 y1 y2 y3 y4 y5 y6 y7 y8) (bits_Div64.l1 (k + 1) y0 y1 y2 y3 y4 y5 y6 y7 y8)) ∧ (∀ y0 y1 y2 y3 y4 y5 y6 y7 y8 y9, LeO (bits_Div64.j4 k y0 y1 y2 y3 y4 y5 y6 y7 y8 y9) (bits_Div64.j4 (k + 1) y0 y1 y2 y3 y4 y5 y6 y7 y8 y9)) ∧ (∀ y0 y1 y2 y3 y4 y5 y6 y7 y8, LeO (bits_Div64.l0 k y0 y1 y2 y3 y4 y5 y6 y7 y8) (bits_Div64.l0 (k + 1) y0 y1 y2 y3 y4 y5 y6 y7 y8)) ∧ (∀ y0 y1 y2 y3 y4 y5 y6 y7 y8 y9, LeO (bits_Div64.j1 k y0 y1 y2 y3 y4 y5 y6 y7 y8 y9) (bits_Div64.j1 (k + 1) y0 y1 y2 y3 y4 y5 y6 y7 y8 y9))
  | 0 => ⟨fun _ _ _ _ _ _ _ _ r h => by simp [bits_Div64.j2] at h, fun _ _ _ _ _ _ _ _ _ r h => by simp [bits_Div64.l1] at h, fun _ _ _ _ _ _ _ _ _ _ r h => by simp [bits_Div64.j4] at h, fun _ _ _ _ _ _ _ _ _ r h => by simp [bits_Div64.l0] at h, fun _ _ _ _ _ _ _ _ _ _ r h => by simp [bits_Div64.j1] at h⟩
  | k + 1 => by
    obtain ⟨ih0, ih1, ih2, ih3, ih4⟩ := bits_Div64.mono_l k
    refine ⟨?_, ?_, ?_, ?_, ?_⟩
    · intro y0 y1 y2 y3 y4 y5 y6 y7
      unfold bits_Div64.j2
      repeat' first
      | (with_reducible exact ih0 _ _ _ _ _ _ _ _)
      | (with_reducible exact ih1 _ _ _ _ _ _ _ _ _)
      | (with_reducible exact ih2 _ _ _ _ _ _ _ _ _ _)
      | (with_reducible exact ih3 _ _ _ _ _ _ _ _ _)
      | (with_reducible exact ih4 _ _ _ _ _ _ _ _ _ _)
      | (with_reducible exact LeO.refl _)
      | (with_reducible exact LeO.none _)
      | (with_reducible refine LeO.ite ?_ ?_)
      | (with_reducible refine LeO.bind ?_ (fun _ => ?_))
      | exact ih0 _ _ _ _ _ _ _ _
      | exact ih1 _ _ _ _ _ _ _ _ _
      | exact ih2 _ _ _ _ _ _ _ _ _ _
      | exact ih3 _ _ _ _ _ _ _ _ _
      | exact ih4 _ _ _ _ _ _ _ _ _ _
      | exact LeO.none _
      | refine LeO.ite ?_ ?_
      | refine LeO.bind ?_ (fun _ => ?_)
    · intro y0 y1 y2 y3 y4 y5 y6 y7 y8
      unfold bits_Div64.l1
      repeat' first
      | (with_reducible exact ih0 _ _ _ _ _ _ _ _)
      | (with_reducible exact ih1 _ _ _ _ _ _ _ _ _)
      | (with_reducible exact ih2 _ _ _ _ _ _ _ _ _ _)
      | (with_reducible exact ih3 _ _ _ _ _ _ _ _ _)
      | (with_reducible exact ih4 _ _ _ _ _ _ _ _ _ _)
      | (with_reducible exact LeO.refl _)
      | (with_reducible exact LeO.none _)
      | (with_reducible refine LeO.ite ?_ ?_)
      | (with_reducible refine LeO.bind ?_ (fun _ => ?_))
      | exact ih0 _ _ _ _ _ _ _ _
      | exact ih1 _ _ _ _ _ _ _ _ _
      | exact ih2 _ _ _ _ _ _ _ _ _ _
      | exact ih3 _ _ _ _ _ _ _ _ _
      | exact ih4 _ _ _ _ _ _ _ _ _ _
      | exact LeO.none _
      | refine LeO.ite ?_ ?_
      | refine LeO.bind ?_ (fun _ => ?_)
    · intro y0 y1 y2 y3 y4 y5 y6 y7 y8 y9
      unfold bits_Div64.j4
      repeat' first
      | (with_reducible exact ih0 _ _ _ _ _ _ _ _)
      | (with_reducible exact ih1 _ _ _ _ _ _ _ _ _)
      | (with_reducible exact ih2 _ _ _ _ _ _ _ _ _ _)
      | (with_reducible exact ih3 _ _ _ _ _ _ _ _ _)
      | (with_reducible exact ih4 _ _ _ _ _ _ _ _ _ _)
      | (with_reducible exact LeO.refl _)
      | (with_reducible exact LeO.none _)
      | (with_reducible refine LeO.ite ?_ ?_)
      | (with_reducible refine LeO.bind ?_ (fun _ => ?_))
      | exact ih0 _ _ _ _ _ _ _ _
      | exact ih1 _ _ _ _ _ _ _ _ _
      | exact ih2 _ _ _ _ _ _ _ _ _ _
      | exact ih3 _ _ _ _ _ _ _ _ _
      | exact ih4 _ _ _ _ _ _ _ _ _ _
      | exact LeO.none _
      | refine LeO.ite ?_ ?_
      | refine LeO.bind ?_ (fun _ => ?_)
    · intro y0 y1 y2 y3 y4 y5 y6 y7 y8
      unfold bits_Div64.l0
      repeat' first
      | (with_reducible exact ih0 _ _ _ _ _ _ _ _)
      | (with_reducible exact ih1 _ _ _ _ _ _ _ _ _)
      | (with_reducible exact ih2 _ _ _ _ _ _ _ _ _ _)
      | (with_reducible exact ih3 _ _ _ _ _ _ _ _ _)
      | (with_reducible exact ih4 _ _ _ _ _ _ _ _ _ _)
      | (with_reducible exact LeO.refl _)
      | (with_reducible exact LeO.none _)
      | (with_reducible refine LeO.ite ?_ ?_)
      | (with_reducible refine LeO.bind ?_ (fun _ => ?_))
      | exact ih0 _ _ _ _ _ _ _ _
      | exact ih1 _ _ _ _ _ _ _ _ _
      | exact ih2 _ _ _ _ _ _ _ _ _ _
      | exact ih3 _ _ _ _ _ _ _ _ _
      | exact ih4 _ _ _ _ _ _ _ _ _ _
      | exact LeO.none _
      | refine LeO.ite ?_ ?_
      | refine LeO.bind ?_ (fun _ => ?_)
    · intro y0 y1 y2 y3 y4 y5 y6 y7 y8 y9
      unfold bits_Div64.j1
      repeat' first
      | (with_reducible exact ih0 _ _ _ _ _ _ _ _)
      | (with_reducible exact ih1 _ _ _ _ _ _ _ _ _)
      | (with_reducible exact ih2 _ _ _ _ _ _ _ _ _ _)
      | (with_reducible exact ih3 _ _ _ _ _ _ _ _ _)
      | (with_reducible exact ih4 _ _ _ _ _ _ _ _ _ _)
      | (with_reducible exact LeO.refl _)
      | (with_reducible exact LeO.none _)
      | (with_reducible refine LeO.ite ?_ ?_)
      | (with_reducible refine LeO.bind ?_ (fun _ => ?_))
      | exact ih0 _ _ _ _ _ _ _ _
      | exact ih1 _ _ _ _ _ _ _ _ _
      | exact ih2 _ _ _ _ _ _ _ _ _ _
      | exact ih3 _ _ _ _ _ _ _ _ _
      | exact ih4 _ _ _ _ _ _ _ _ _ _
      | exact LeO.none _
      | refine LeO.ite ?_ ?_
      | refine LeO.bind ?_ (fun _ => ?_)
theorem bits_Div64.mono : ∀ a0 a1 a2 k, LeO (bits_Div64.f k a0 a1 a2) (bits_Div64.f (k + 1) a0 a1 a2) := by
  intro a0 a1 a2 k
  obtain ⟨ih0, ih1, ih2, ih3, ih4⟩ := bits_Div64.mono_l k
  unfold bits_Div64.f
  repeat' first
      | (with_reducible exact ih0 _ _ _ _ _ _ _ _)
      | (with_reducible exact ih1 _ _ _ _ _ _ _ _ _)
      | (with_reducible exact ih2 _ _ _ _ _ _ _ _ _ _)
      | (with_reducible exact ih3 _ _ _ _ _ _ _ _ _)
      | (with_reducible exact ih4 _ _ _ _ _ _ _ _ _ _)
      | (with_reducible exact LeO.refl _)
      | (with_reducible exact LeO.none _)
      | (with_reducible refine LeO.ite ?_ ?_)
      | (with_reducible refine LeO.bind ?_ (fun _ => ?_))
      | exact ih0 _ _ _ _ _ _ _ _
      | exact ih1 _ _ _ _ _ _ _ _ _
      | exact ih2 _ _ _ _ _ _ _ _ _ _
      | exact ih3 _ _ _ _ _ _ _ _ _
      | exact ih4 _ _ _ _ _ _ _ _ _ _
      | exact LeO.none _
      | refine LeO.ite ?_ ?_
      | refine LeO.bind ?_ (fun _ => ?_)
noncomputable def bits_Div64.j2v (x2 : Int) (x8 : Int) (x9 : Int) (x10 : Int) (x11 : Int) (x13 : Int) (x14 : Int) (x15 : Int) : Option (Int × Int) := limOf (fun k => bits_Div64.j2 k x2 x8 x9 x10 x11 x13 x14 x15)
theorem bits_Div64.j2_lim (x2 : Int) (x8 : Int) (x9 : Int) (x10 : Int) (x11 : Int) (x13 : Int) (x14 : Int) (x15 : Int) : Lim (fun k => bits_Div64.j2 k x2 x8 x9 x10 x11 x13 x14 x15) (bits_Div64.j2v x2 x8 x9 x10 x11 x13 x14 x15) := Lim.of (fun k => (bits_Div64.mono_l k).1 x2 x8 x9 x10 x11 x13 x14 x15)
noncomputable def bits_Div64.l1v (x2 : Int) (x8 : Int) (x9 : Int) (x10 : Int) (x14 : Int) (x15 : Int) (x16 : Int) (x17 : Int) (x18 : Int) : Option (Int × Int) := limOf (fun k => bits_Div64.l1 k x2 x8 x9 x10 x14 x15 x16 x17 x18)
theorem bits_Div64.l1_lim (x2 : Int) (x8 : Int) (x9 : Int) (x10 : Int) (x14 : Int) (x15 : Int) (x16 : Int) (x17 : Int) (x18 : Int) : Lim (fun k => bits_Div64.l1 k x2 x8 x9 x10 x14 x15 x16 x17 x18) (bits_Div64.l1v x2 x8 x9 x10 x14 x15 x16 x17 x18) := Lim.of (fun k => (bits_Div64.mono_l k).2.1 x2 x8 x9 x10 x14 x15 x16 x17 x18)
noncomputable def bits_Div64.j4v (x2 : Int) (x8 : Int) (x9 : Int) (x10 : Int) (x14 : Int) (x15 : Int) (x16 : Int) (x17 : Int) (x18 : Int) (x113 : Bool) : Option (Int × Int) := limOf (fun k => bits_Div64.j4 k x2 x8 x9 x10 x14 x15 x16 x17 x18 x113)
theorem bits_Div64.j4_lim (x2 : Int) (x8 : Int) (x9 : Int) (x10 : Int) (x14 : Int) (x15 : Int) (x16 : Int) (x17 : Int) (x18 : Int) (x113 : Bool) : Lim (fun k => bits_Div64.j4 k x2 x8 x9 x10 x14 x15 x16 x17 x18 x113) (bits_Div64.j4v x2 x8 x9 x10 x14 x15 x16 x17 x18 x113) := Lim.of (fun k => (bits_Div64.mono_l k).2.2.1 x2 x8 x9 x10 x14 x15 x16 x17 x18 x113)
noncomputable def bits_Div64.l0v (x2 : Int) (x8 : Int) (x9 : Int) (x10 : Int) (x11 : Int) (x13 : Int) (x14 : Int) (x15 : Int) (x16 : Int) : Option (Int × Int) := limOf (fun k => bits_Div64.l0 k x2 x8 x9 x10 x11 x13 x14 x15 x16)
theorem bits_Div64.l0_lim (x2 : Int) (x8 : Int) (x9 : Int) (x10 : Int) (x11 : Int) (x13 : Int) (x14 : Int) (x15 : Int) (x16 : Int) : Lim (fun k => bits_Div64.l0 k x2 x8 x9 x10 x11 x13 x14 x15 x16) (bits_Div64.l0v x2 x8 x9 x10 x11 x13 x14 x15 x16) := Lim.of (fun k => (bits_Div64.mono_l k).2.2.2.1 x2 x8 x9 x10 x11 x13 x14 x15 x16)
noncomputable def bits_Div64.j1v (x2 : Int) (x8 : Int) (x9 : Int) (x10 : Int) (x11 : Int) (x13 : Int) (x14 : Int) (x15 : Int) (x16 : Int) (x78 : Bool) : Option (Int × Int) := limOf (fun k => bits_Div64.j1 k x2 x8 x9 x10 x11 x13 x14 x15 x16 x78)
theorem bits_Div64.j1_lim (x2 : Int) (x8 : Int) (x9 : Int) (x10 : Int) (x11 : Int) (x13 : Int) (x14 : Int) (x15 : Int) (x16 : Int) (x78 : Bool) : Lim (fun k => bits_Div64.j1 k x2 x8 x9 x10 x11 x13 x14 x15 x16 x78) (bits_Div64.j1v x2 x8 x9 x10 x11 x13 x14 x15 x16 x78) := Lim.of (fun k => (bits_Div64.mono_l k).2.2.2.2 x2 x8 x9 x10 x11 x13 x14 x15 x16 x78)
noncomputable def bits_Div64.fv (a0 : Int) (a1 : Int) (a2 : Int) : Option (Int × Int) := limOf (fun k => bits_Div64.f k a0 a1 a2)
theorem bits_Div64.f_lim (a0 : Int) (a1 : Int) (a2 : Int) : Lim (fun k => bits_Div64.f k a0 a1 a2) (bits_Div64.fv a0 a1 a2) := Lim.of (fun k => bits_Div64.mono a0 a1 a2 k)
set_option maxHeartbeats 4000000 in
theorem bits_Div64.j2v_eq (x2 : Int) (x8 : Int) (x9 : Int) (x10 : Int) (x11 : Int) (x13 : Int) (x14 : Int) (x15 : Int) : bits_Div64.j2v x2 x8 x9 x10 x11 x13 x14 x15 = (if x9 = 0 then (none) else (bits_Div64.l1v x2 x8 x9 x10 x14 x15 (IntKind.u64.wrap ((IntKind.u64.wrap ((IntKind.u64.wrap ((IntKind.u64.wrap (x11 * 4294967296)) + x13)) - (IntKind.u64.wrap (x15 * x2)))) - (IntKind.u64.wrap ((IntKind.u64.wrap (Int.tdiv (IntKind.u64.wrap ((IntKind.u64.wrap ((IntKind.u64.wrap (x11 * 4294967296)) + x13)) - (IntKind.u64.wrap (x15 * x2)))) x9)) * x9)))) (IntKind.u64.wrap ((IntKind.u64.wrap ((IntKind.u64.wrap (x11 * 4294967296)) + x13)) - (IntKind.u64.wrap (x15 * x2)))) (IntKind.u64.wrap (Int.tdiv (IntKind.u64.wrap ((IntKind.u64.wrap ((IntKind.u64.wrap (x11 * 4294967296)) + x13)) - (IntKind.u64.wrap (x15 * x2)))) x9)))) := by
  refine Lim.succ (bits_Div64.j2_lim x2 x8 x9 x10 x11 x13 x14 x15) ?_
  simp only [bits_Div64.j2]
  repeat' first
    | (with_reducible apply bits_Div64.l1_lim)
    | (with_reducible exact Lim.const _)
    | (with_reducible refine Lim.ite ?_ ?_)
    | (with_reducible refine Lim.bind ?_ (fun _ => ?_))
    | apply bits_Div64.l1_lim
    | exact Lim.const _
    | refine Lim.ite ?_ ?_
    | refine Lim.bind ?_ (fun _ => ?_)
set_option maxHeartbeats 4000000 in
theorem bits_Div64.l1v_eq (x2 : Int) (x8 : Int) (x9 : Int) (x10 : Int) (x14 : Int) (x15 : Int) (x16 : Int) (x17 : Int) (x18 : Int) : bits_Div64.l1v x2 x8 x9 x10 x14 x15 x16 x17 x18 = (if x18 ≥ 4294967296 then (bits_Div64.j4v x2 x8 x9 x10 x14 x15 x16 x17 x18 true) else (bits_Div64.j4v x2 x8 x9 x10 x14 x15 x16 x17 x18 (decide ((IntKind.u64.wrap (x18 * x10)) > (IntKind.u64.wrap ((IntKind.u64.wrap (4294967296 * x16)) + x14)))))) := by
  refine Lim.succ (bits_Div64.l1_lim x2 x8 x9 x10 x14 x15 x16 x17 x18) ?_
  simp only [bits_Div64.l1]
  repeat' first
    | (with_reducible apply bits_Div64.j4_lim)
    | (with_reducible exact Lim.const _)
    | (with_reducible refine Lim.ite ?_ ?_)
    | (with_reducible refine Lim.bind ?_ (fun _ => ?_))
    | apply bits_Div64.j4_lim
    | exact Lim.const _
    | refine Lim.ite ?_ ?_
    | refine Lim.bind ?_ (fun _ => ?_)
set_option maxHeartbeats 4000000 in
theorem bits_Div64.j4v_eq (x2 : Int) (x8 : Int) (x9 : Int) (x10 : Int) (x14 : Int) (x15 : Int) (x16 : Int) (x17 : Int) (x18 : Int) (x113 : Bool) : bits_Div64.j4v x2 x8 x9 x10 x14 x15 x16 x17 x18 x113 = (if x113 = true then (if (IntKind.u64.wrap (x16 + x9)) ≥ 4294967296 then (if 0 ≤ x8 then (some (IntKind.u64.wrap ((IntKind.u64.wrap (x15 * 4294967296)) + (IntKind.u64.wrap (x18 - 1))), shr .u64 (IntKind.u64.wrap ((IntKind.u64.wrap ((IntKind.u64.wrap (x17 * 4294967296)) + x14)) - (IntKind.u64.wrap ((IntKind.u64.wrap (x18 - 1)) * x2)))) x8)) else (none)) else (bits_Div64.l1v x2 x8 x9 x10 x14 x15 (IntKind.u64.wrap (x16 + x9)) x17 (IntKind.u64.wrap (x18 - 1)))) else (if 0 ≤ x8 then (some (IntKind.u64.wrap ((IntKind.u64.wrap (x15 * 4294967296)) + x18), shr .u64 (IntKind.u64.wrap ((IntKind.u64.wrap ((IntKind.u64.wrap (x17 * 4294967296)) + x14)) - (IntKind.u64.wrap (x18 * x2)))) x8)) else (none))) := by
  refine Lim.succ (bits_Div64.j4_lim x2 x8 x9 x10 x14 x15 x16 x17 x18 x113) ?_
  simp only [bits_Div64.j4]
  repeat' first
    | (with_reducible apply bits_Div64.l1_lim)
    | (with_reducible exact Lim.const _)
    | (with_reducible refine Lim.ite ?_ ?_)
    | (with_reducible refine Lim.bind ?_ (fun _ => ?_))
    | apply bits_Div64.l1_lim
    | exact Lim.const _
    | refine Lim.ite ?_ ?_
    | refine Lim.bind ?_ (fun _ => ?_)
set_option maxHeartbeats 4000000 in
theorem bits_Div64.l0v_eq (x2 : Int) (x8 : Int) (x9 : Int) (x10 : Int) (x11 : Int) (x13 : Int) (x14 : Int) (x15 : Int) (x16 : Int) : bits_Div64.l0v x2 x8 x9 x10 x11 x13 x14 x15 x16 = (if x15 ≥ 4294967296 then (bits_Div64.j1v x2 x8 x9 x10 x11 x13 x14 x15 x16 true) else (bits_Div64.j1v x2 x8 x9 x10 x11 x13 x14 x15 x16 (decide ((IntKind.u64.wrap (x15 * x10)) > (IntKind.u64.wrap ((IntKind.u64.wrap (4294967296 * x16)) + x13)))))) := by
  refine Lim.succ (bits_Div64.l0_lim x2 x8 x9 x10 x11 x13 x14 x15 x16) ?_
  simp only [bits_Div64.l0]
  repeat' first
    | (with_reducible apply bits_Div64.j1_lim)
    | (with_reducible exact Lim.const _)
    | (with_reducible refine Lim.ite ?_ ?_)
    | (with_reducible refine Lim.bind ?_ (fun _ => ?_))
    | apply bits_Div64.j1_lim
    | exact Lim.const _
    | refine Lim.ite ?_ ?_
    | refine Lim.bind ?_ (fun _ => ?_)
set_option maxHeartbeats 4000000 in
theorem bits_Div64.j1v_eq (x2 : Int) (x8 : Int) (x9 : Int) (x10 : Int) (x11 : Int) (x13 : Int) (x14 : Int) (x15 : Int) (x16 : Int) (x78 : Bool) : bits_Div64.j1v x2 x8 x9 x10 x11 x13 x14 x15 x16 x78 = (if x78 = true then (if (IntKind.u64.wrap (x16 + x9)) ≥ 4294967296 then (bits_Div64.j2v x2 x8 x9 x10 x11 x13 x14 (IntKind.u64.wrap (x15 - 1))) else (bits_Div64.l0v x2 x8 x9 x10 x11 x13 x14 (IntKind.u64.wrap (x15 - 1)) (IntKind.u64.wrap (x16 + x9)))) else (bits_Div64.j2v x2 x8 x9 x10 x11 x13 x14 x15)) := by
  refine Lim.succ (bits_Div64.j1_lim x2 x8 x9 x10 x11 x13 x14 x15 x16 x78) ?_
  simp only [bits_Div64.j1]
  repeat' first
    | (with_reducible apply bits_Div64.j2_lim)
    | (with_reducible apply bits_Div64.l0_lim)
    | (with_reducible exact Lim.const _)
    | (with_reducible refine Lim.ite ?_ ?_)
    | (with_reducible refine Lim.bind ?_ (fun _ => ?_))
    | apply bits_Div64.j2_lim
    | apply bits_Div64.l0_lim
    | exact Lim.const _
    | refine Lim.ite ?_ ?_
    | refine Lim.bind ?_ (fun _ => ?_)
set_option maxHeartbeats 4000000 in
theorem bits_Div64.fv_eq (a0 : Int) (a1 : Int) (a2 : Int) : bits_Div64.fv a0 a1 a2 = (if a2 = 0 then (none) else (if a2 ≤ a0 then (none) else (if a0 = 0 then (some (IntKind.u64.wrap (Int.tdiv a1 a2), Int.tmod a1 a2)) else ((bits_LeadingZeros64.f a2).bind fun t113 => (if 0 ≤ (IntKind.u64.wrap (t113)) then (if 0 ≤ (IntKind.u64.wrap (64 - (IntKind.u64.wrap (t113)))) then (if ((shl .u64 a2 (IntKind.u64.wrap (t113))) / 4294967296) = 0 then (none) else (bits_Div64.l0v (shl .u64 a2 (IntKind.u64.wrap (t113))) (IntKind.u64.wrap (t113)) ((shl .u64 a2 (IntKind.u64.wrap (t113))) / 4294967296) (Go.bits .and .u64 (shl .u64 a2 (IntKind.u64.wrap (t113))) 4294967295) (Go.bits .or .u64 (shl .u64 a0 (IntKind.u64.wrap (t113))) (shr .u64 a1 (IntKind.u64.wrap (64 - (IntKind.u64.wrap (t113)))))) ((shl .u64 a1 (IntKind.u64.wrap (t113))) / 4294967296) (Go.bits .and .u64 (shl .u64 a1 (IntKind.u64.wrap (t113))) 4294967295) (IntKind.u64.wrap (Int.tdiv (Go.bits .or .u64 (shl .u64 a0 (IntKind.u64.wrap (t113))) (shr .u64 a1 (IntKind.u64.wrap (64 - (IntKind.u64.wrap (t113)))))) ((shl .u64 a2 (IntKind.u64.wrap (t113))) / 4294967296))) (IntKind.u64.wrap ((Go.bits .or .u64 (shl .u64 a0 (IntKind.u64.wrap (t113))) (shr .u64 a1 (IntKind.u64.wrap (64 - (IntKind.u64.wrap (t113)))))) - (IntKind.u64.wrap ((IntKind.u64.wrap (Int.tdiv (Go.bits .or .u64 (shl .u64 a0 (IntKind.u64.wrap (t113))) (shr .u64 a1 (IntKind.u64.wrap (64 - (IntKind.u64.wrap (t113)))))) ((shl .u64 a2 (IntKind.u64.wrap (t113))) / 4294967296))) * ((shl .u64 a2 (IntKind.u64.wrap (t113))) / 4294967296))))))) else (none)) else (none)))))) := by
  refine Lim.eq (bits_Div64.f_lim a0 a1 a2) ?_
  simp only [bits_Div64.f]
  repeat' first
    | (with_reducible apply bits_Div64.l0_lim)
    | (with_reducible exact Lim.const _)
    | (with_reducible refine Lim.ite ?_ ?_)
    | (with_reducible refine Lim.bind ?_ (fun _ => ?_))
    | apply bits_Div64.l0_lim
    | exact Lim.const _
    | refine Lim.ite ?_ ?_
    | refine Lim.bind ?_ (fun _ => ?_)

/-! ### impl_DecMul -/
def impl_DecMul.j0 : Nat → Int → Int → Bool → Option (Int × Bool)
  | 0, _, _, _ => none
  | k + 1, x0, x1, x17 => if x17 = true then (some (0, false)) else ((impl_amount.f x0).bind fun t116 => ((impl_amount.f x1).bind fun t117 => ((bits_Mul64.f t116 t117).bind fun bt118 => (if bt118.1 ≥ 1000000 then (some (0, false)) else ((bits_Div64.f k bt118.1 bt118.2 1000000).bind fun bt120 => (if bt120.1 > 9000000000000 then (some (0, false)) else (if ((decide (x0 < 0)) != (decide (x1 < 0))) = true then (some (wrap64 (-(wrap64 (bt120.1))), true)) else (some (wrap64 (bt120.1), true)))))))))
def impl_DecMul.f (k : Nat) (a0 : Int) (a1 : Int) : Option (Int × Bool) := (impl_DecOk.f a0).bind fun t114 => (if t114 = true then ((impl_DecOk.f a1).bind fun t115 => (impl_DecMul.j0 k a0 a1 (!t115))) else (impl_DecMul.j0 k a0 a1 true))
theorem impl_DecMul.mono_l : ∀ k, (∀ y0 y1 y2, LeO (impl_DecMul.j0 k y0 y1 y2) (impl_DecMul.j0 (k + 1) y0 y1 y2))
  | 0 => fun _ _ _ r h => by simp [impl_DecMul.j0] at h
  | k + 1 => by
    have ih0 := impl_DecMul.mono_l k
    · intro y0 y1 y2
      unfold impl_DecMul.j0
      repeat' first
      | (with_reducible exact ih0 _ _ _)
      | (with_reducible exact bits_Div64.mono _ _ _ _)
      | (with_reducible exact LeO.refl _)
      | (with_reducible exact LeO.none _)
      | (with_reducible refine LeO.ite ?_ ?_)
      | (with_reducible refine LeO.bind ?_ (fun _ => ?_))
      | exact ih0 _ _ _
      | exact bits_Div64.mono _ _ _ _
      | exact LeO.none _
      | refine LeO.ite ?_ ?_
      | refine LeO.bind ?_ (fun _ => ?_)
theorem impl_DecMul.mono : ∀ a0 a1 k, LeO (impl_DecMul.f k a0 a1) (impl_DecMul.f (k + 1) a0 a1) := by
  intro a0 a1 k
  have ih0 := impl_DecMul.mono_l k
  unfold impl_DecMul.f
  repeat' first
      | (with_reducible exact ih0 _ _ _)
      | (with_reducible exact bits_Div64.mono _ _ _ _)
      | (with_reducible exact LeO.refl _)
      | (with_reducible exact LeO.none _)
      | (with_reducible refine LeO.ite ?_ ?_)
      | (with_reducible refine LeO.bind ?_ (fun _ => ?_))
      | exact ih0 _ _ _
      | exact bits_Div64.mono _ _ _ _
      | exact LeO.none _
      | refine LeO.ite ?_ ?_
      | refine LeO.bind ?_ (fun _ => ?_)
noncomputable def impl_DecMul.j0v (x0 : Int) (x1 : Int) (x17 : Bool) : Option (Int × Bool) := limOf (fun k => impl_DecMul.j0 k x0 x1 x17)
theorem impl_DecMul.j0_lim (x0 : Int) (x1 : Int) (x17 : Bool) : Lim (fun k => impl_DecMul.j0 k x0 x1 x17) (impl_DecMul.j0v x0 x1 x17) := Lim.of (fun k => impl_DecMul.mono_l k x0 x1 x17)
noncomputable def impl_DecMul.fv (a0 : Int) (a1 : Int) : Option (Int × Bool) := limOf (fun k => impl_DecMul.f k a0 a1)
theorem impl_DecMul.f_lim (a0 : Int) (a1 : Int) : Lim (fun k => impl_DecMul.f k a0 a1) (impl_DecMul.fv a0 a1) := Lim.of (fun k => impl_DecMul.mono a0 a1 k)
set_option maxHeartbeats 4000000 in
theorem impl_DecMul.j0v_eq (x0 : Int) (x1 : Int) (x17 : Bool) : impl_DecMul.j0v x0 x1 x17 = (if x17 = true then (some (0, false)) else ((impl_amount.f x0).bind fun t116 => ((impl_amount.f x1).bind fun t117 => ((bits_Mul64.f t116 t117).bind fun bt118 => (if bt118.1 ≥ 1000000 then (some (0, false)) else ((bits_Div64.fv bt118.1 bt118.2 1000000).bind fun bt120 => (if bt120.1 > 9000000000000 then (some (0, false)) else (if ((decide (x0 < 0)) != (decide (x1 < 0))) = true then (some (wrap64 (-(wrap64 (bt120.1))), true)) else (some (wrap64 (bt120.1), true)))))))))) := by
  refine Lim.succ (impl_DecMul.j0_lim x0 x1 x17) ?_
  simp only [impl_DecMul.j0]
  repeat' first
    | (with_reducible apply bits_Div64.f_lim)
    | (with_reducible exact Lim.const _)
    | (with_reducible refine Lim.ite ?_ ?_)
    | (with_reducible refine Lim.bind ?_ (fun _ => ?_))
    | apply bits_Div64.f_lim
    | exact Lim.const _
    | refine Lim.ite ?_ ?_
    | refine Lim.bind ?_ (fun _ => ?_)
set_option maxHeartbeats 4000000 in
theorem impl_DecMul.fv_eq (a0 : Int) (a1 : Int) : impl_DecMul.fv a0 a1 = ((impl_DecOk.f a0).bind fun t114 => (if t114 = true then ((impl_DecOk.f a1).bind fun t115 => (impl_DecMul.j0v a0 a1 (!t115))) else (impl_DecMul.j0v a0 a1 true))) := by
  refine Lim.eq (impl_DecMul.f_lim a0 a1) ?_
  simp only [impl_DecMul.f]
  repeat' first
    | (with_reducible apply impl_DecMul.j0_lim)
    | (with_reducible exact Lim.const _)
    | (with_reducible refine Lim.ite ?_ ?_)
    | (with_reducible refine Lim.bind ?_ (fun _ => ?_))
    | apply impl_DecMul.j0_lim
    | exact Lim.const _
    | refine Lim.ite ?_ ?_
    | refine Lim.bind ?_ (fun _ => ?_)

/-! ### laws_big -/
def laws_big.f (l0 : List Int) : Option (Bool) := some (decide ((l0.length : Int) > 1048576))

/-! ### spec_l1New -/
def spec_l1New.l0 : Nat → List Int → Int → Int → Option (List Int × Int × Int)
  | 0, _, _, _ => none
  | k + 1, x0, x3, x4 => if x4 < (x0.length : Int) then (if x4 < 4000 then (if 0 ≤ x4 then (spec_l1New.l0 k x0 (Go.bits .and .i64 (wrap64 ((wrap64 ((wrap64 (x3 * 131)) + (wrap64 (rd x0 x4)))) + 7)) 1073741823) (wrap64 (x4 + 1))) else (none)) else (some (x0, 0, x3))) else (some (x0, 0, x3))
def spec_l1New.f (k : Nat) (l0 : List Int) : Option (List Int × Int × Int) := spec_l1New.l0 k l0 (wrap64 (20700 + (l0.length : Int))) 0
theorem spec_l1New.mono_l : ∀ k, (∀ y0 y1 y2, LeO (spec_l1New.l0 k y0 y1 y2) (spec_l1New.l0 (k + 1) y0 y1 y2))
  | 0 => fun _ _ _ r h => by simp [spec_l1New.l0] at h
  | k + 1 => by
    have ih0 := spec_l1New.mono_l k
    · intro y0 y1 y2
      unfold spec_l1New.l0
      repeat' first
      | (with_reducible exact ih0 _ _ _)
      | (with_reducible exact LeO.refl _)
      | (with_reducible exact LeO.none _)
      | (with_reducible refine LeO.ite ?_ ?_)
      | (with_reducible refine LeO.bind ?_ (fun _ => ?_))
      | exact ih0 _ _ _
      | exact LeO.none _
      | refine LeO.ite ?_ ?_
      | refine LeO.bind ?_ (fun _ => ?_)
theorem spec_l1New.mono : ∀ a0 k, LeO (spec_l1New.f k a0) (spec_l1New.f (k + 1) a0) := by
  intro a0 k
  have ih0 := spec_l1New.mono_l k
  unfold spec_l1New.f
  repeat' first
      | (with_reducible exact ih0 _ _ _)
      | (with_reducible exact LeO.refl _)
      | (with_reducible exact LeO.none _)
      | (with_reducible refine LeO.ite ?_ ?_)
      | (with_reducible refine LeO.bind ?_ (fun _ => ?_))
      | exact ih0 _ _ _
      | exact LeO.none _
      | refine LeO.ite ?_ ?_
      | refine LeO.bind ?_ (fun _ => ?_)
noncomputable def spec_l1New.l0v (x0 : List Int) (x3 : Int) (x4 : Int) : Option (List Int × Int × Int) := limOf (fun k => spec_l1New.l0 k x0 x3 x4)
theorem spec_l1New.l0_lim (x0 : List Int) (x3 : Int) (x4 : Int) : Lim (fun k => spec_l1New.l0 k x0 x3 x4) (spec_l1New.l0v x0 x3 x4) := Lim.of (fun k => spec_l1New.mono_l k x0 x3 x4)
noncomputable def spec_l1New.fv (l0 : List Int) : Option (List Int × Int × Int) := limOf (fun k => spec_l1New.f k l0)
theorem spec_l1New.f_lim (l0 : List Int) : Lim (fun k => spec_l1New.f k l0) (spec_l1New.fv l0) := Lim.of (fun k => spec_l1New.mono l0 k)
set_option maxHeartbeats 4000000 in
theorem spec_l1New.l0v_eq (x0 : List Int) (x3 : Int) (x4 : Int) : spec_l1New.l0v x0 x3 x4 = (if x4 < (x0.length : Int) then (if x4 < 4000 then (if 0 ≤ x4 then (spec_l1New.l0v x0 (Go.bits .and .i64 (wrap64 ((wrap64 ((wrap64 (x3 * 131)) + (wrap64 (rd x0 x4)))) + 7)) 1073741823) (wrap64 (x4 + 1))) else (none)) else (some (x0, 0, x3))) else (some (x0, 0, x3))) := by
  refine Lim.succ (spec_l1New.l0_lim x0 x3 x4) ?_
  simp only [spec_l1New.l0]
  repeat' first
    | (with_reducible apply spec_l1New.l0_lim)
    | (with_reducible exact Lim.const _)
    | (with_reducible refine Lim.ite ?_ ?_)
    | (with_reducible refine Lim.bind ?_ (fun _ => ?_))
    | apply spec_l1New.l0_lim
    | exact Lim.const _
    | refine Lim.ite ?_ ?_
    | refine Lim.bind ?_ (fun _ => ?_)
set_option maxHeartbeats 4000000 in
theorem spec_l1New.fv_eq (l0 : List Int) : spec_l1New.fv l0 = (spec_l1New.l0v l0 (wrap64 (20700 + (l0.length : Int))) 0) := by
  refine Lim.eq (spec_l1New.f_lim l0) ?_
  simp only [spec_l1New.f]
  repeat' first
    | (with_reducible apply spec_l1New.l0_lim)
    | (with_reducible exact Lim.const _)
    | (with_reducible refine Lim.ite ?_ ?_)
    | (with_reducible refine Lim.bind ?_ (fun _ => ?_))
    | apply spec_l1New.l0_lim
    | exact Lim.const _
    | refine Lim.ite ?_ ?_
    | refine Lim.bind ?_ (fun _ => ?_)

/-! ### spec_l1Byte -/
def spec_l1Byte.f (s0_0 : List Int) (s0_1 : Int) (s0_2 : Int) : Option (Int × Int × Int) := if s0_1 < (s0_0.length : Int) then (if 0 ≤ s0_1 then (some (Go.bits .and .i64 (wrap64 ((Go.bits .and .i64 (Go.bits .xor .i64 ((wrap64 ((wrap64 (s0_2 * 6364136223846793005)) + 1442695040888963407)) / 8589934592) ((wrap64 ((wrap64 (s0_2 * 6364136223846793005)) + 1442695040888963407)) / 35184372088832)) 255) + (wrap64 (rd s0_0 s0_1)))) 255, wrap64 (s0_1 + 1), wrap64 ((wrap64 (s0_2 * 6364136223846793005)) + 1442695040888963407))) else (none)) else (some (Go.bits .and .i64 (Go.bits .xor .i64 ((wrap64 ((wrap64 (s0_2 * 6364136223846793005)) + 1442695040888963407)) / 8589934592) ((wrap64 ((wrap64 (s0_2 * 6364136223846793005)) + 1442695040888963407)) / 35184372088832)) 255, s0_1, wrap64 ((wrap64 (s0_2 * 6364136223846793005)) + 1442695040888963407)))

/-! ### spec_l1Below -/
def spec_l1Below.f (s0_0 : List Int) (s0_1 : Int) (s0_2 : Int) (a1 : Int) : Option (Int × Int × Int) := if a1 ≤ 0 then (some (0, s0_1, s0_2)) else (if a1 ≤ 256 then ((spec_l1Byte.f s0_0 s0_1 s0_2).bind fun bt126 => (if a1 = 0 then (none) else (some (Int.tmod bt126.1 a1, bt126.2.1, bt126.2.2)))) else ((spec_l1Byte.f s0_0 s0_1 s0_2).bind fun bt129 => ((spec_l1Byte.f s0_0 bt129.2.1 bt129.2.2).bind fun bt132 => ((spec_l1Byte.f s0_0 bt132.2.1 bt132.2.2).bind fun bt135 => ((spec_l1Byte.f s0_0 bt135.2.1 bt135.2.2).bind fun bt138 => (if a1 = 0 then (none) else (some (Int.tmod (wrap64 ((wrap64 ((wrap64 ((wrap64 (bt129.1 * 16777216)) + (wrap64 (bt132.1 * 65536)))) + (wrap64 (bt135.1 * 256)))) + bt138.1)) a1, bt138.2.1, bt138.2.2))))))))

/-! ### spec_l1Once -/
def spec_l1Once.f (s0_0 : List Int) (s0_1 : Int) (s0_2 : Int) (a1 : Int) : Option (Bool × Int × Int) := (spec_l1Below.f s0_0 s0_1 s0_2 a1).bind fun bt141 => (some ((bt141.1 == 0), bt141.2.1, bt141.2.2))

/-! ### spec_l1PickInt -/
def spec_l1PickInt.f (s0_0 : List Int) (s0_1 : Int) (s0_2 : Int) (l1 : List Int) : Option (Int × Int × Int) := (spec_l1Below.f s0_0 s0_1 s0_2 (l1.length : Int)).bind fun bt144 => (if 0 ≤ bt144.1 then (if bt144.1 < (l1.length : Int) then (some (rd l1 bt144.1, bt144.2.1, bt144.2.2)) else (none)) else (none))

/-! ### spec_l1DrawDec -/
def spec_l1DrawDec.f (s0_0 : List Int) (s0_1 : Int) (s0_2 : Int) : Option (Int × Int × Int) := (spec_l1PickInt.f s0_0 s0_1 s0_2 (([0, 1000000, (-1000000), 1, (-1), 2500000, (-3333333), 7000000, 123456789, 9000000000000, (-9000000000000), 3000000000000, 1500] : List Int))).bind fun bt151 => (some (bt151.1, bt151.2.1, bt151.2.2))

/-! ### spec_l1DrawAny -/
def spec_l1DrawAny.f (s0_0 : List Int) (s0_1 : Int) (s0_2 : Int) : Option (Int × Int × Int) := (spec_l1Once.f s0_0 s0_1 s0_2 6).bind fun bt154 => (if bt154.1 = true then ((spec_l1PickInt.f s0_0 bt154.2.1 bt154.2.2 (([9000000000001, (-9000000000001), 9223372036854775807, (-9223372036854775808)] : List Int))).bind fun bt160 => (some (bt160.1, bt160.2.1, bt160.2.2))) else ((spec_l1DrawDec.f s0_0 bt154.2.1 bt154.2.2).bind fun bt163 => (some (bt163.1, bt163.2.1, bt163.2.2))))

/-! ### spec_DrawDecAdd -/
def spec_DrawDecAdd.f (k : Nat) (l0 : List Int) : Option (Int × Int) := (spec_l1New.f k l0).bind fun bt166 => ((spec_l1DrawAny.f bt166.1 bt166.2.1 bt166.2.2).bind fun bt170 => ((spec_l1DrawAny.f bt166.1 bt170.2.1 bt170.2.2).bind fun bt173 => (some (bt170.1, bt173.1))))
theorem spec_DrawDecAdd.mono : ∀ a0 k, LeO (spec_DrawDecAdd.f k a0) (spec_DrawDecAdd.f (k + 1) a0) := by
  intro a0 k
  unfold spec_DrawDecAdd.f
  repeat' first
      | (with_reducible exact spec_l1New.mono _ _)
      | (with_reducible exact LeO.refl _)
      | (with_reducible exact LeO.none _)
      | (with_reducible refine LeO.ite ?_ ?_)
      | (with_reducible refine LeO.bind ?_ (fun _ => ?_))
      | exact spec_l1New.mono _ _
      | exact LeO.none _
      | refine LeO.ite ?_ ?_
      | refine LeO.bind ?_ (fun _ => ?_)
noncomputable def spec_DrawDecAdd.fv (l0 : List Int) : Option (Int × Int) := limOf (fun k => spec_DrawDecAdd.f k l0)
theorem spec_DrawDecAdd.f_lim (l0 : List Int) : Lim (fun k => spec_DrawDecAdd.f k l0) (spec_DrawDecAdd.fv l0) := Lim.of (fun k => spec_DrawDecAdd.mono l0 k)
set_option maxHeartbeats 4000000 in
theorem spec_DrawDecAdd.fv_eq (l0 : List Int) : spec_DrawDecAdd.fv l0 = ((spec_l1New.fv l0).bind fun bt166 => ((spec_l1DrawAny.f bt166.1 bt166.2.1 bt166.2.2).bind fun bt170 => ((spec_l1DrawAny.f bt166.1 bt170.2.1 bt170.2.2).bind fun bt173 => (some (bt170.1, bt173.1))))) := by
  refine Lim.eq (spec_DrawDecAdd.f_lim l0) ?_
  simp only [spec_DrawDecAdd.f]
  repeat' first
    | (with_reducible apply spec_l1New.f_lim)
    | (with_reducible exact Lim.const _)
    | (with_reducible refine Lim.ite ?_ ?_)
    | (with_reducible refine Lim.bind ?_ (fun _ => ?_))
    | apply spec_l1New.f_lim
    | exact Lim.const _
    | refine Lim.ite ?_ ?_
    | refine Lim.bind ?_ (fun _ => ?_)

/-! ### impl_right -/
def impl_right.f (a0 : Int) : Option (Int × Bool) := (impl_DecOk.f a0).bind fun t176 => (if t176 = true then (some (a0, true)) else (some (0, false)))

/-! ### impl_DecAdd -/
def impl_DecAdd.f (a0 : Int) (a1 : Int) : Option (Int × Bool) := (impl_DecOk.f a0).bind fun t177 => (if t177 = true then ((impl_DecOk.f a1).bind fun t178 => (if t178 = true then ((impl_right.f (wrap64 (a0 + a1))).bind fun bt179 => (some (bt179.1, bt179.2))) else (some (0, false)))) else (some (0, false)))

/-! ### spec_DecAdd -/
def spec_DecAdd.f (a0 : Int) (a1 : Int) : Option (Int × Bool) := (spec_DecOk.f a0).bind fun t181 => (if t181 = true then ((spec_DecOk.f a1).bind fun t182 => (if t182 = true then ((spec_l1Right.f (wrap64 (a0 + a1))).bind fun bt183 => (some (bt183.1, bt183.2))) else (some (0, false)))) else (some (0, false)))

/-! ### impl_DecSub -/
def impl_DecSub.f (a0 : Int) (a1 : Int) : Option (Int × Bool) := (impl_DecOk.f a0).bind fun t185 => (if t185 = true then ((impl_DecOk.f a1).bind fun t186 => (if t186 = true then ((impl_right.f (wrap64 (a0 - a1))).bind fun bt187 => (some (bt187.1, bt187.2))) else (some (0, false)))) else (some (0, false)))

/-! ### spec_DrawDecMul -/
def spec_DrawDecMul.f (k : Nat) (l0 : List Int) : Option (Int × Int) := (spec_l1New.f k l0).bind fun bt189 => ((spec_l1DrawAny.f bt189.1 bt189.2.1 bt189.2.2).bind fun bt193 => ((spec_l1DrawAny.f bt189.1 bt193.2.1 bt193.2.2).bind fun bt196 => (some (bt193.1, bt196.1))))
theorem spec_DrawDecMul.mono : ∀ a0 k, LeO (spec_DrawDecMul.f k a0) (spec_DrawDecMul.f (k + 1) a0) := by
  intro a0 k
  unfold spec_DrawDecMul.f
  repeat' first
      | (with_reducible exact spec_l1New.mono _ _)
      | (with_reducible exact LeO.refl _)
      | (with_reducible exact LeO.none _)
      | (with_reducible refine LeO.ite ?_ ?_)
      | (with_reducible refine LeO.bind ?_ (fun _ => ?_))
      | exact spec_l1New.mono _ _
      | exact LeO.none _
      | refine LeO.ite ?_ ?_
      | refine LeO.bind ?_ (fun _ => ?_)
noncomputable def spec_DrawDecMul.fv (l0 : List Int) : Option (Int × Int) := limOf (fun k => spec_DrawDecMul.f k l0)
theorem spec_DrawDecMul.f_lim (l0 : List Int) : Lim (fun k => spec_DrawDecMul.f k l0) (spec_DrawDecMul.fv l0) := Lim.of (fun k => spec_DrawDecMul.mono l0 k)
set_option maxHeartbeats 4000000 in
theorem spec_DrawDecMul.fv_eq (l0 : List Int) : spec_DrawDecMul.fv l0 = ((spec_l1New.fv l0).bind fun bt189 => ((spec_l1DrawAny.f bt189.1 bt189.2.1 bt189.2.2).bind fun bt193 => ((spec_l1DrawAny.f bt189.1 bt193.2.1 bt193.2.2).bind fun bt196 => (some (bt193.1, bt196.1))))) := by
  refine Lim.eq (spec_DrawDecMul.f_lim l0) ?_
  simp only [spec_DrawDecMul.f]
  repeat' first
    | (with_reducible apply spec_l1New.f_lim)
    | (with_reducible exact Lim.const _)
    | (with_reducible refine Lim.ite ?_ ?_)
    | (with_reducible refine Lim.bind ?_ (fun _ => ?_))
    | apply spec_l1New.f_lim
    | exact Lim.const _
    | refine Lim.ite ?_ ?_
    | refine Lim.bind ?_ (fun _ => ?_)

/-! ### spec_DrawDecDiv -/
def spec_DrawDecDiv.f (k : Nat) (l0 : List Int) : Option (Int × Int) := (spec_l1New.f k l0).bind fun bt199 => ((spec_l1DrawAny.f bt199.1 bt199.2.1 bt199.2.2).bind fun bt203 => ((spec_l1DrawAny.f bt199.1 bt203.2.1 bt203.2.2).bind fun bt206 => (some (bt203.1, bt206.1))))
theorem spec_DrawDecDiv.mono : ∀ a0 k, LeO (spec_DrawDecDiv.f k a0) (spec_DrawDecDiv.f (k + 1) a0) := by
  intro a0 k
  unfold spec_DrawDecDiv.f
  repeat' first
      | (with_reducible exact spec_l1New.mono _ _)
      | (with_reducible exact LeO.refl _)
      | (with_reducible exact LeO.none _)
      | (with_reducible refine LeO.ite ?_ ?_)
      | (with_reducible refine LeO.bind ?_ (fun _ => ?_))
      | exact spec_l1New.mono _ _
      | exact LeO.none _
      | refine LeO.ite ?_ ?_
      | refine LeO.bind ?_ (fun _ => ?_)
noncomputable def spec_DrawDecDiv.fv (l0 : List Int) : Option (Int × Int) := limOf (fun k => spec_DrawDecDiv.f k l0)
theorem spec_DrawDecDiv.f_lim (l0 : List Int) : Lim (fun k => spec_DrawDecDiv.f k l0) (spec_DrawDecDiv.fv l0) := Lim.of (fun k => spec_DrawDecDiv.mono l0 k)
set_option maxHeartbeats 4000000 in
theorem spec_DrawDecDiv.fv_eq (l0 : List Int) : spec_DrawDecDiv.fv l0 = ((spec_l1New.fv l0).bind fun bt199 => ((spec_l1DrawAny.f bt199.1 bt199.2.1 bt199.2.2).bind fun bt203 => ((spec_l1DrawAny.f bt199.1 bt203.2.1 bt203.2.2).bind fun bt206 => (some (bt203.1, bt206.1))))) := by
  refine Lim.eq (spec_DrawDecDiv.f_lim l0) ?_
  simp only [spec_DrawDecDiv.f]
  repeat' first
    | (with_reducible apply spec_l1New.f_lim)
    | (with_reducible exact Lim.const _)
    | (with_reducible refine Lim.ite ?_ ?_)
    | (with_reducible refine Lim.bind ?_ (fun _ => ?_))
    | apply spec_l1New.f_lim
    | exact Lim.const _
    | refine Lim.ite ?_ ?_
    | refine Lim.bind ?_ (fun _ => ?_)

/-! ### impl_DecDiv -/
def impl_DecDiv.f (a0 : Int) (a1 : Int) : Option (Int × Bool) := (impl_DecOk.f a0).bind fun t209 => (if t209 = true then ((impl_DecOk.f a1).bind fun t210 => (if t210 = true then (if a1 = 0 then (some (0, false)) else ((impl_right.f (wrap64 (Int.tdiv (wrap64 (a0 * 1000000)) a1))).bind fun bt211 => (some (bt211.1, bt211.2)))) else (some (0, false)))) else (some (0, false)))

/-! ### spec_DecDiv -/
def spec_DecDiv.f (a0 : Int) (a1 : Int) : Option (Int × Bool) := (spec_DecOk.f a0).bind fun t213 => (if t213 = true then ((spec_DecOk.f a1).bind fun t214 => (if t214 = true then (if a1 = 0 then (some (0, false)) else ((spec_l1Right.f (wrap64 (Int.tdiv (wrap64 (a0 * 1000000)) a1))).bind fun bt215 => (some (bt215.1, bt215.2)))) else (some (0, false)))) else (some (0, false)))

/-! ### spec_DrawDecSub -/
def spec_DrawDecSub.f (k : Nat) (l0 : List Int) : Option (Int × Int) := (spec_l1New.f k l0).bind fun bt217 => ((spec_l1DrawAny.f bt217.1 bt217.2.1 bt217.2.2).bind fun bt221 => ((spec_l1DrawAny.f bt217.1 bt221.2.1 bt221.2.2).bind fun bt224 => (some (bt221.1, bt224.1))))
theorem spec_DrawDecSub.mono : ∀ a0 k, LeO (spec_DrawDecSub.f k a0) (spec_DrawDecSub.f (k + 1) a0) := by
  intro a0 k
  unfold spec_DrawDecSub.f
  repeat' first
      | (with_reducible exact spec_l1New.mono _ _)
      | (with_reducible exact LeO.refl _)
      | (with_reducible exact LeO.none _)
      | (with_reducible refine LeO.ite ?_ ?_)
      | (with_reducible refine LeO.bind ?_ (fun _ => ?_))
      | exact spec_l1New.mono _ _
      | exact LeO.none _
      | refine LeO.ite ?_ ?_
      | refine LeO.bind ?_ (fun _ => ?_)
noncomputable def spec_DrawDecSub.fv (l0 : List Int) : Option (Int × Int) := limOf (fun k => spec_DrawDecSub.f k l0)
theorem spec_DrawDecSub.f_lim (l0 : List Int) : Lim (fun k => spec_DrawDecSub.f k l0) (spec_DrawDecSub.fv l0) := Lim.of (fun k => spec_DrawDecSub.mono l0 k)
set_option maxHeartbeats 4000000 in
theorem spec_DrawDecSub.fv_eq (l0 : List Int) : spec_DrawDecSub.fv l0 = ((spec_l1New.fv l0).bind fun bt217 => ((spec_l1DrawAny.f bt217.1 bt217.2.1 bt217.2.2).bind fun bt221 => ((spec_l1DrawAny.f bt217.1 bt221.2.1 bt221.2.2).bind fun bt224 => (some (bt221.1, bt224.1))))) := by
  refine Lim.eq (spec_DrawDecSub.f_lim l0) ?_
  simp only [spec_DrawDecSub.f]
  repeat' first
    | (with_reducible apply spec_l1New.f_lim)
    | (with_reducible exact Lim.const _)
    | (with_reducible refine Lim.ite ?_ ?_)
    | (with_reducible refine Lim.bind ?_ (fun _ => ?_))
    | apply spec_l1New.f_lim
    | exact Lim.const _
    | refine Lim.ite ?_ ?_
    | refine Lim.bind ?_ (fun _ => ?_)

/-! ### spec_DecSub -/
def spec_DecSub.f (a0 : Int) (a1 : Int) : Option (Int × Bool) := (spec_DecOk.f a0).bind fun t227 => (if t227 = true then ((spec_DecOk.f a1).bind fun t228 => (if t228 = true then ((spec_l1Right.f (wrap64 (a0 - a1))).bind fun bt229 => (some (bt229.1, bt229.2))) else (some (0, false)))) else (some (0, false)))

/-! ### spec_DrawDecInt -/
def spec_DrawDecInt.f (k : Nat) (l0 : List Int) : Option (Int) := (spec_l1New.f k l0).bind fun bt231 => ((spec_l1DrawAny.f bt231.1 bt231.2.1 bt231.2.2).bind fun bt235 => (some bt235.1))
theorem spec_DrawDecInt.mono : ∀ a0 k, LeO (spec_DrawDecInt.f k a0) (spec_DrawDecInt.f (k + 1) a0) := by
  intro a0 k
  unfold spec_DrawDecInt.f
  repeat' first
      | (with_reducible exact spec_l1New.mono _ _)
      | (with_reducible exact LeO.refl _)
      | (with_reducible exact LeO.none _)
      | (with_reducible refine LeO.ite ?_ ?_)
      | (with_reducible refine LeO.bind ?_ (fun _ => ?_))
      | exact spec_l1New.mono _ _
      | exact LeO.none _
      | refine LeO.ite ?_ ?_
      | refine LeO.bind ?_ (fun _ => ?_)
noncomputable def spec_DrawDecInt.fv (l0 : List Int) : Option (Int) := limOf (fun k => spec_DrawDecInt.f k l0)
theorem spec_DrawDecInt.f_lim (l0 : List Int) : Lim (fun k => spec_DrawDecInt.f k l0) (spec_DrawDecInt.fv l0) := Lim.of (fun k => spec_DrawDecInt.mono l0 k)
set_option maxHeartbeats 4000000 in
theorem spec_DrawDecInt.fv_eq (l0 : List Int) : spec_DrawDecInt.fv l0 = ((spec_l1New.fv l0).bind fun bt231 => ((spec_l1DrawAny.f bt231.1 bt231.2.1 bt231.2.2).bind fun bt235 => (some bt235.1))) := by
  refine Lim.eq (spec_DrawDecInt.f_lim l0) ?_
  simp only [spec_DrawDecInt.f]
  repeat' first
    | (with_reducible apply spec_l1New.f_lim)
    | (with_reducible exact Lim.const _)
    | (with_reducible refine Lim.ite ?_ ?_)
    | (with_reducible refine Lim.bind ?_ (fun _ => ?_))
    | apply spec_l1New.f_lim
    | exact Lim.const _
    | refine Lim.ite ?_ ?_
    | refine Lim.bind ?_ (fun _ => ?_)

/-! ### spec_DrawDecOk -/
def spec_DrawDecOk.f (k : Nat) (l0 : List Int) : Option (Int) := (spec_l1New.f k l0).bind fun bt238 => ((spec_l1DrawAny.f bt238.1 bt238.2.1 bt238.2.2).bind fun bt242 => (some bt242.1))
theorem spec_DrawDecOk.mono : ∀ a0 k, LeO (spec_DrawDecOk.f k a0) (spec_DrawDecOk.f (k + 1) a0) := by
  intro a0 k
  unfold spec_DrawDecOk.f
  repeat' first
      | (with_reducible exact spec_l1New.mono _ _)
      | (with_reducible exact LeO.refl _)
      | (with_reducible exact LeO.none _)
      | (with_reducible refine LeO.ite ?_ ?_)
      | (with_reducible refine LeO.bind ?_ (fun _ => ?_))
      | exact spec_l1New.mono _ _
      | exact LeO.none _
      | refine LeO.ite ?_ ?_
      | refine LeO.bind ?_ (fun _ => ?_)
noncomputable def spec_DrawDecOk.fv (l0 : List Int) : Option (Int) := limOf (fun k => spec_DrawDecOk.f k l0)
theorem spec_DrawDecOk.f_lim (l0 : List Int) : Lim (fun k => spec_DrawDecOk.f k l0) (spec_DrawDecOk.fv l0) := Lim.of (fun k => spec_DrawDecOk.mono l0 k)
set_option maxHeartbeats 4000000 in
theorem spec_DrawDecOk.fv_eq (l0 : List Int) : spec_DrawDecOk.fv l0 = ((spec_l1New.fv l0).bind fun bt238 => ((spec_l1DrawAny.f bt238.1 bt238.2.1 bt238.2.2).bind fun bt242 => (some bt242.1))) := by
  refine Lim.eq (spec_DrawDecOk.f_lim l0) ?_
  simp only [spec_DrawDecOk.f]
  repeat' first
    | (with_reducible apply spec_l1New.f_lim)
    | (with_reducible exact Lim.const _)
    | (with_reducible refine Lim.ite ?_ ?_)
    | (with_reducible refine Lim.bind ?_ (fun _ => ?_))
    | apply spec_l1New.f_lim
    | exact Lim.const _
    | refine Lim.ite ?_ ?_
    | refine Lim.bind ?_ (fun _ => ?_)

/-! ### impl_DecInt -/
def impl_DecInt.f (a0 : Int) : Option (Int) := some (wrap64 (a0 - (Int.tmod a0 1000000)))

/-! ### spec_DecInt -/
def spec_DecInt.f (a0 : Int) : Option (Int) := some (wrap64 ((wrap64 (Int.tdiv a0 1000000)) * 1000000))

end Go.Proofs.Ytgdhiccjllpogaa.QFnSums
