/- Written by wip/pr2, a program of this session. -/
import Derived.Test.YtejndaljfbclnaaDoorQFnNumbersx0
import Derived.Test.YtejndaljfbclnaaDoorLim
namespace Go.Proofs.YtejndaljfbclnaaDoor.QFnNumbers
open Go.RowKit Go.Proofs.YtejndaljfbclnaaDoorW.PrintWords Go.Proofs.YtejndaljfbclnaaDoorW.PrintLast Go.Proofs.YtejndaljfbclnaaDoorW.PrintMore
attribute [local go_sem] max2_int min2_int max_two min_two max_three min_three max_four min_four   -- for this text's walks alone
set_option linter.unusedVariables false
set_option linter.unusedSimpArgs false
set_option maxHeartbeats 8000000

open Go.Proofs.YtejndaljfbclnaaDoorW.Lims
/-! ### laws_big -/
def laws_big.f (l0 : List Int) : Option (Bool) := some (decide ((l0.length : Int) > 1048576))

/-! ### spec_l1Byte -/
def spec_l1Byte.f (s0_0 : List Int) (s0_1 : Int) (s0_2 : Int) : Option (Int × Int × Int) := if s0_1 < (s0_0.length : Int) then (if 0 ≤ s0_1 then (some (Go.bits .and .i64 (wrap64 ((Go.bits .and .i64 (Go.bits .xor .i64 ((wrap64 ((wrap64 (s0_2 * 6364136223846793005)) + 1442695040888963407)) / 8589934592) ((wrap64 ((wrap64 (s0_2 * 6364136223846793005)) + 1442695040888963407)) / 35184372088832)) 255) + (wrap64 (rd s0_0 s0_1)))) 255, wrap64 (s0_1 + 1), wrap64 ((wrap64 (s0_2 * 6364136223846793005)) + 1442695040888963407))) else (none)) else (some (Go.bits .and .i64 (Go.bits .xor .i64 ((wrap64 ((wrap64 (s0_2 * 6364136223846793005)) + 1442695040888963407)) / 8589934592) ((wrap64 ((wrap64 (s0_2 * 6364136223846793005)) + 1442695040888963407)) / 35184372088832)) 255, s0_1, wrap64 ((wrap64 (s0_2 * 6364136223846793005)) + 1442695040888963407)))

/-! ### spec_l1Below -/
def spec_l1Below.f (s0_0 : List Int) (s0_1 : Int) (s0_2 : Int) (a1 : Int) : Option (Int × Int × Int) := if a1 ≤ 0 then (some (0, s0_1, s0_2)) else (if a1 ≤ 256 then ((spec_l1Byte.f s0_0 s0_1 s0_2).bind fun bt102 => (if a1 = 0 then (none) else (some (Int.tmod bt102.1 a1, bt102.2.1, bt102.2.2)))) else ((spec_l1Byte.f s0_0 s0_1 s0_2).bind fun bt105 => ((spec_l1Byte.f s0_0 bt105.2.1 bt105.2.2).bind fun bt108 => ((spec_l1Byte.f s0_0 bt108.2.1 bt108.2.2).bind fun bt111 => ((spec_l1Byte.f s0_0 bt111.2.1 bt111.2.2).bind fun bt114 => (if a1 = 0 then (none) else (some (Int.tmod (wrap64 ((wrap64 ((wrap64 ((wrap64 (bt105.1 * 16777216)) + (wrap64 (bt108.1 * 65536)))) + (wrap64 (bt111.1 * 256)))) + bt114.1)) a1, bt114.2.1, bt114.2.2))))))))

/-! ### spec_l1Once -/
def spec_l1Once.f (s0_0 : List Int) (s0_1 : Int) (s0_2 : Int) (a1 : Int) : Option (Bool × Int × Int) := (spec_l1Below.f s0_0 s0_1 s0_2 a1).bind fun bt117 => (some ((bt117.1 == 0), bt117.2.1, bt117.2.2))

/-! ### spec_l1PickInt -/
def spec_l1PickInt.f (s0_0 : List Int) (s0_1 : Int) (s0_2 : Int) (l1 : List Int) : Option (Int × Int × Int) := (spec_l1Below.f s0_0 s0_1 s0_2 (l1.length : Int)).bind fun bt120 => (if 0 ≤ bt120.1 then (if bt120.1 < (l1.length : Int) then (some (rd l1 bt120.1, bt120.2.1, bt120.2.2)) else (none)) else (none))

/-! ### spec_l1DrawDec -/
def spec_l1DrawDec.f (s0_0 : List Int) (s0_1 : Int) (s0_2 : Int) : Option (Int × Int × Int) := (spec_l1PickInt.f s0_0 s0_1 s0_2 (([0, 1000000, (-1000000), 1, (-1), 2500000, (-3333333), 7000000, 123456789, 9000000000000, (-9000000000000), 3000000000000, 1500] : List Int))).bind fun bt127 => (some (bt127.1, bt127.2.1, bt127.2.2))

/-! ### spec_l1DrawAny -/
def spec_l1DrawAny.f (s0_0 : List Int) (s0_1 : Int) (s0_2 : Int) : Option (Int × Int × Int) := (spec_l1Once.f s0_0 s0_1 s0_2 6).bind fun bt130 => (if bt130.1 = true then ((spec_l1PickInt.f s0_0 bt130.2.1 bt130.2.2 (([9000000000001, (-9000000000001), 9223372036854775807, (-9223372036854775808)] : List Int))).bind fun bt136 => (some (bt136.1, bt136.2.1, bt136.2.2))) else ((spec_l1DrawDec.f s0_0 bt130.2.1 bt130.2.2).bind fun bt139 => (some (bt139.1, bt139.2.1, bt139.2.2))))

/-! ### spec_l1New -/
def spec_l1New.l0 : Nat → List Int → Int → Int → Option (List Int × Int × Int)
  | 0, _, _, _ => none
  | k + 1, x0, x3, x4 => if x4 < (x0.length : Int) then (if x4 < 4000 then (if 0 ≤ x4 then (spec_l1New.l0 k x0 (Go.bits .and .i64 (wrap64 ((wrap64 ((wrap64 (x3 * 131)) + (wrap64 (rd x0 x4)))) + 7)) 1073741823) (wrap64 (x4 + 1))) else (none)) else (some (x0, 0, x3))) else (some (x0, 0, x3))
def spec_l1New.f (k : Nat) (l0 : List Int) : Option (List Int × Int × Int) := spec_l1New.l0 k l0 (wrap64 (20700 + (l0.length : Int))) 0
theorem spec_l1New.mono_l : ∀ k, (∀ y0 y1 y2, LeO (spec_l1New.l0 k y0 y1 y2) (spec_l1New.l0 (k + 1) y0 y1 y2))
  | 0 => fun _ _ _ r h => by simp [spec_l1New.l0] at h
  | k + 1 => by
    have ih0 := spec_l1New.mono_l k
    · intro y0 y1 y2
      unfold spec_l1New.l0
      repeat' first
      | (with_reducible exact ih0 _ _ _)
      | (with_reducible exact LeO.refl _)
      | (with_reducible exact LeO.none _)
      | (with_reducible refine LeO.ite ?_ ?_)
      | (with_reducible refine LeO.bind ?_ (fun _ => ?_))
      | exact ih0 _ _ _
      | exact LeO.none _
      | refine LeO.ite ?_ ?_
      | refine LeO.bind ?_ (fun _ => ?_)
theorem spec_l1New.mono : ∀ a0 k, LeO (spec_l1New.f k a0) (spec_l1New.f (k + 1) a0) := by
  intro a0 k
  have ih0 := spec_l1New.mono_l k
  unfold spec_l1New.f
  repeat' first
      | (with_reducible exact ih0 _ _ _)
      | (with_reducible exact LeO.refl _)
      | (with_reducible exact LeO.none _)
      | (with_reducible refine LeO.ite ?_ ?_)
      | (with_reducible refine LeO.bind ?_ (fun _ => ?_))
      | exact ih0 _ _ _
      | exact LeO.none _
      | refine LeO.ite ?_ ?_
      | refine LeO.bind ?_ (fun _ => ?_)
noncomputable def spec_l1New.l0v (x0 : List Int) (x3 : Int) (x4 : Int) : Option (List Int × Int × Int) := limOf (fun k => spec_l1New.l0 k x0 x3 x4)
theorem spec_l1New.l0_lim (x0 : List Int) (x3 : Int) (x4 : Int) : Lim (fun k => spec_l1New.l0 k x0 x3 x4) (spec_l1New.l0v x0 x3 x4) := Lim.of (fun k => spec_l1New.mono_l k x0 x3 x4)
noncomputable def spec_l1New.fv (l0 : List Int) : Option (List Int × Int × Int) := limOf (fun k => spec_l1New.f k l0)
theorem spec_l1New.f_lim (l0 : List Int) : Lim (fun k => spec_l1New.f k l0) (spec_l1New.fv l0) := Lim.of (fun k => spec_l1New.mono l0 k)
set_option maxHeartbeats 4000000 in
theorem spec_l1New.l0v_eq (x0 : List Int) (x3 : Int) (x4 : Int) : spec_l1New.l0v x0 x3 x4 = (if x4 < (x0.length : Int) then (if x4 < 4000 then (if 0 ≤ x4 then (spec_l1New.l0v x0 (Go.bits .and .i64 (wrap64 ((wrap64 ((wrap64 (x3 * 131)) + (wrap64 (rd x0 x4)))) + 7)) 1073741823) (wrap64 (x4 + 1))) else (none)) else (some (x0, 0, x3))) else (some (x0, 0, x3))) := by
  refine Lim.succ (spec_l1New.l0_lim x0 x3 x4) ?_
  simp only [spec_l1New.l0]
  repeat' first
    | (with_reducible apply spec_l1New.l0_lim)
    | (with_reducible exact Lim.const _)
    | (with_reducible refine Lim.ite ?_ ?_)
    | (with_reducible refine Lim.bind ?_ (fun _ => ?_))
    | apply spec_l1New.l0_lim
    | exact Lim.const _
    | refine Lim.ite ?_ ?_
    | refine Lim.bind ?_ (fun _ => ?_)
set_option maxHeartbeats 4000000 in
theorem spec_l1New.fv_eq (l0 : List Int) : spec_l1New.fv l0 = (spec_l1New.l0v l0 (wrap64 (20700 + (l0.length : Int))) 0) := by
  refine Lim.eq (spec_l1New.f_lim l0) ?_
  simp only [spec_l1New.f]
  repeat' first
    | (with_reducible apply spec_l1New.l0_lim)
    | (with_reducible exact Lim.const _)
    | (with_reducible refine Lim.ite ?_ ?_)
    | (with_reducible refine Lim.bind ?_ (fun _ => ?_))
    | apply spec_l1New.l0_lim
    | exact Lim.const _
    | refine Lim.ite ?_ ?_
    | refine Lim.bind ?_ (fun _ => ?_)

/-! ### spec_DrawDecText -/
def spec_DrawDecText.f (k : Nat) (l0 : List Int) : Option (Int) := (spec_l1New.f k l0).bind fun bt145 => ((spec_l1DrawAny.f bt145.1 bt145.2.1 bt145.2.2).bind fun bt149 => (some bt149.1))
theorem spec_DrawDecText.mono : ∀ a0 k, LeO (spec_DrawDecText.f k a0) (spec_DrawDecText.f (k + 1) a0) := by
  intro a0 k
  unfold spec_DrawDecText.f
  repeat' first
      | (with_reducible exact spec_l1New.mono _ _)
      | (with_reducible exact LeO.refl _)
      | (with_reducible exact LeO.none _)
      | (with_reducible refine LeO.ite ?_ ?_)
      | (with_reducible refine LeO.bind ?_ (fun _ => ?_))
      | exact spec_l1New.mono _ _
      | exact LeO.none _
      | refine LeO.ite ?_ ?_
      | refine LeO.bind ?_ (fun _ => ?_)
noncomputable def spec_DrawDecText.fv (l0 : List Int) : Option (Int) := limOf (fun k => spec_DrawDecText.f k l0)
theorem spec_DrawDecText.f_lim (l0 : List Int) : Lim (fun k => spec_DrawDecText.f k l0) (spec_DrawDecText.fv l0) := Lim.of (fun k => spec_DrawDecText.mono l0 k)
set_option maxHeartbeats 4000000 in
theorem spec_DrawDecText.fv_eq (l0 : List Int) : spec_DrawDecText.fv l0 = ((spec_l1New.fv l0).bind fun bt145 => ((spec_l1DrawAny.f bt145.1 bt145.2.1 bt145.2.2).bind fun bt149 => (some bt149.1))) := by
  refine Lim.eq (spec_DrawDecText.f_lim l0) ?_
  simp only [spec_DrawDecText.f]
  repeat' first
    | (with_reducible apply spec_l1New.f_lim)
    | (with_reducible exact Lim.const _)
    | (with_reducible refine Lim.ite ?_ ?_)
    | (with_reducible refine Lim.bind ?_ (fun _ => ?_))
    | apply spec_l1New.f_lim
    | exact Lim.const _
    | refine Lim.ite ?_ ?_
    | refine Lim.bind ?_ (fun _ => ?_)

/-! ### impl_in -/
def impl_in.f (a0 : Int) (a1 : Int) (a2 : Int) : Option (Bool) := if a0 ≥ a1 then (some (decide (a0 ≤ a2))) else (some false)

/-! ### impl_DecOk -/
def impl_DecOk.f (a0 : Int) : Option (Bool) := (impl_in.f a0 (-9000000000000) 9000000000000).bind fun t152 => (some t152)

/-! ### strconv_Itoa -/
def strconv_Itoa.f (a0 : Int) : Option (ByteArray) := if -9223372036854775808 ≤ a0 ∧ a0 ≤ 9223372036854775807 then some ⟨(Lib.itoa a0).toArray⟩ else none

/-! ### strings_TrimRight -/
def strings_TrimRight.f (a0 : ByteArray) (a1 : ByteArray) : Option (ByteArray) := match a1.data.toList with | [c_] => if c_.toNat < 128 ∧ a0.size ≤ 9223372036854775807 then some ⟨(Lib.trimRightB a0.data.toList c_).toArray⟩ else none | _ => none

/-! ### impl_DecText -/
def impl_DecText.j0 : Nat → Int → ByteArray → Option (ByteArray)
  | 0, _, _ => none
  | k + 1, x0, x3 => (strconv_Itoa.f (wrap64 (Int.tdiv x0 1000000))).bind fun t154 => (if x3.size + t154.size ≤ 9223372036854775807 then (if (Int.tmod x0 1000000) > 0 then ((strconv_Itoa.f (wrap64 (1000000 + (Int.tmod x0 1000000)))).bind fun t155 => (if 1 ≤ (t155.size : Int) then ((strings_TrimRight.f (t155.extract 1 t155.size) (⟨#[48]⟩ : ByteArray)).bind fun t156 => (if 1 + t156.size ≤ 9223372036854775807 then (if (x3 ++ t154).size + ((⟨#[46]⟩ : ByteArray) ++ t156).size ≤ 9223372036854775807 then (some ((x3 ++ t154) ++ ((⟨#[46]⟩ : ByteArray) ++ t156))) else (none)) else (none))) else (none))) else (some (x3 ++ t154))) else (none))
def impl_DecText.f (k : Nat) (a0 : Int) : Option (ByteArray) := (impl_DecOk.f a0).bind fun t153 => (if t153 = true then (if a0 < 0 then (impl_DecText.j0 k (wrap64 (-a0)) (⟨#[45]⟩ : ByteArray)) else (impl_DecText.j0 k a0 (⟨#[]⟩ : ByteArray))) else (some (⟨#[]⟩ : ByteArray)))
theorem impl_DecText.mono_l : ∀ k, (∀ y0 y1, LeO (impl_DecText.j0 k y0 y1) (impl_DecText.j0 (k + 1) y0 y1))
  | 0 => fun _ _ r h => by simp [impl_DecText.j0] at h
  | k + 1 => by
    have ih0 := impl_DecText.mono_l k
    · intro y0 y1
      unfold impl_DecText.j0
      repeat' first
      | (with_reducible exact ih0 _ _)
      | (with_reducible exact LeO.refl _)
      | (with_reducible exact LeO.none _)
      | (with_reducible refine LeO.ite ?_ ?_)
      | (with_reducible refine LeO.bind ?_ (fun _ => ?_))
      | exact ih0 _ _
      | exact LeO.none _
      | refine LeO.ite ?_ ?_
      | refine LeO.bind ?_ (fun _ => ?_)
theorem impl_DecText.mono : ∀ a0 k, LeO (impl_DecText.f k a0) (impl_DecText.f (k + 1) a0) := by
  intro a0 k
  have ih0 := impl_DecText.mono_l k
  unfold impl_DecText.f
  repeat' first
      | (with_reducible exact ih0 _ _)
      | (with_reducible exact LeO.refl _)
      | (with_reducible exact LeO.none _)
      | (with_reducible refine LeO.ite ?_ ?_)
      | (with_reducible refine LeO.bind ?_ (fun _ => ?_))
      | exact ih0 _ _
      | exact LeO.none _
      | refine LeO.ite ?_ ?_
      | refine LeO.bind ?_ (fun _ => ?_)
noncomputable def impl_DecText.j0v (x0 : Int) (x3 : ByteArray) : Option (ByteArray) := limOf (fun k => impl_DecText.j0 k x0 x3)
theorem impl_DecText.j0_lim (x0 : Int) (x3 : ByteArray) : Lim (fun k => impl_DecText.j0 k x0 x3) (impl_DecText.j0v x0 x3) := Lim.of (fun k => impl_DecText.mono_l k x0 x3)
noncomputable def impl_DecText.fv (a0 : Int) : Option (ByteArray) := limOf (fun k => impl_DecText.f k a0)
theorem impl_DecText.f_lim (a0 : Int) : Lim (fun k => impl_DecText.f k a0) (impl_DecText.fv a0) := Lim.of (fun k => impl_DecText.mono a0 k)
set_option maxHeartbeats 4000000 in
theorem impl_DecText.j0v_eq (x0 : Int) (x3 : ByteArray) : impl_DecText.j0v x0 x3 = ((strconv_Itoa.f (wrap64 (Int.tdiv x0 1000000))).bind fun t154 => (if x3.size + t154.size ≤ 9223372036854775807 then (if (Int.tmod x0 1000000) > 0 then ((strconv_Itoa.f (wrap64 (1000000 + (Int.tmod x0 1000000)))).bind fun t155 => (if 1 ≤ (t155.size : Int) then ((strings_TrimRight.f (t155.extract 1 t155.size) (⟨#[48]⟩ : ByteArray)).bind fun t156 => (if 1 + t156.size ≤ 9223372036854775807 then (if (x3 ++ t154).size + ((⟨#[46]⟩ : ByteArray) ++ t156).size ≤ 9223372036854775807 then (some ((x3 ++ t154) ++ ((⟨#[46]⟩ : ByteArray) ++ t156))) else (none)) else (none))) else (none))) else (some (x3 ++ t154))) else (none))) := by
  refine Lim.succ (impl_DecText.j0_lim x0 x3) ?_
  simp only [impl_DecText.j0]
  repeat' first
    | (with_reducible exact Lim.const _)
    | (with_reducible refine Lim.ite ?_ ?_)
    | (with_reducible refine Lim.bind ?_ (fun _ => ?_))
    | exact Lim.const _
    | refine Lim.ite ?_ ?_
    | refine Lim.bind ?_ (fun _ => ?_)
set_option maxHeartbeats 4000000 in
theorem impl_DecText.fv_eq (a0 : Int) : impl_DecText.fv a0 = ((impl_DecOk.f a0).bind fun t153 => (if t153 = true then (if a0 < 0 then (impl_DecText.j0v (wrap64 (-a0)) (⟨#[45]⟩ : ByteArray)) else (impl_DecText.j0v a0 (⟨#[]⟩ : ByteArray))) else (some (⟨#[]⟩ : ByteArray)))) := by
  refine Lim.eq (impl_DecText.f_lim a0) ?_
  simp only [impl_DecText.f]
  repeat' first
    | (with_reducible apply impl_DecText.j0_lim)
    | (with_reducible exact Lim.const _)
    | (with_reducible refine Lim.ite ?_ ?_)
    | (with_reducible refine Lim.bind ?_ (fun _ => ?_))
    | apply impl_DecText.j0_lim
    | exact Lim.const _
    | refine Lim.ite ?_ ?_
    | refine Lim.bind ?_ (fun _ => ?_)

/-! ### strings_TrimLeft -/
def strings_TrimLeft.f (a0 : ByteArray) (a1 : ByteArray) : Option (ByteArray) := match a1.data.toList with | [c_] => if c_.toNat < 128 ∧ a0.size ≤ 9223372036854775807 then some ⟨(Lib.trimLeftB a0.data.toList c_).toArray⟩ else none | _ => none

/-! ### impl_digitsAt -/
def impl_digitsAt.l0 : Nat → ByteArray → Int → Int → Option (Int)
  | 0, _, _, _ => none
  | k + 1, x0, x1, x5 => if (wrap64 (x1 + x5)) < (x0.size : Int) then (if 0 ≤ (wrap64 (x1 + x5)) then (if (bt x0 (wrap64 (x1 + x5))) ≥ 48 then (if (bt x0 (wrap64 (x1 + x5))) ≤ 57 then (impl_digitsAt.l0 k x0 x1 (wrap64 (x5 + 1))) else (some x5)) else (some x5)) else (none)) else (some x5)
def impl_digitsAt.f (k : Nat) (a0 : ByteArray) (a1 : Int) : Option (Int) := impl_digitsAt.l0 k a0 a1 0
theorem impl_digitsAt.mono_l : ∀ k, (∀ y0 y1 y2, LeO (impl_digitsAt.l0 k y0 y1 y2) (impl_digitsAt.l0 (k + 1) y0 y1 y2))
  | 0 => fun _ _ _ r h => by simp [impl_digitsAt.l0] at h
  | k + 1 => by
    have ih0 := impl_digitsAt.mono_l k
    · intro y0 y1 y2
      unfold impl_digitsAt.l0
      repeat' first
      | (with_reducible exact ih0 _ _ _)
      | (with_reducible exact LeO.refl _)
      | (with_reducible exact LeO.none _)
      | (with_reducible refine LeO.ite ?_ ?_)
      | (with_reducible refine LeO.bind ?_ (fun _ => ?_))
      | exact ih0 _ _ _
      | exact LeO.none _
      | refine LeO.ite ?_ ?_
      | refine LeO.bind ?_ (fun _ => ?_)
theorem impl_digitsAt.mono : ∀ a0 a1 k, LeO (impl_digitsAt.f k a0 a1) (impl_digitsAt.f (k + 1) a0 a1) := by
  intro a0 a1 k
  have ih0 := impl_digitsAt.mono_l k
  unfold impl_digitsAt.f
  repeat' first
      | (with_reducible exact ih0 _ _ _)
      | (with_reducible exact LeO.refl _)
      | (with_reducible exact LeO.none _)
      | (with_reducible refine LeO.ite ?_ ?_)
      | (with_reducible refine LeO.bind ?_ (fun _ => ?_))
      | exact ih0 _ _ _
      | exact LeO.none _
      | refine LeO.ite ?_ ?_
      | refine LeO.bind ?_ (fun _ => ?_)
noncomputable def impl_digitsAt.l0v (x0 : ByteArray) (x1 : Int) (x5 : Int) : Option (Int) := limOf (fun k => impl_digitsAt.l0 k x0 x1 x5)
theorem impl_digitsAt.l0_lim (x0 : ByteArray) (x1 : Int) (x5 : Int) : Lim (fun k => impl_digitsAt.l0 k x0 x1 x5) (impl_digitsAt.l0v x0 x1 x5) := Lim.of (fun k => impl_digitsAt.mono_l k x0 x1 x5)
noncomputable def impl_digitsAt.fv (a0 : ByteArray) (a1 : Int) : Option (Int) := limOf (fun k => impl_digitsAt.f k a0 a1)
theorem impl_digitsAt.f_lim (a0 : ByteArray) (a1 : Int) : Lim (fun k => impl_digitsAt.f k a0 a1) (impl_digitsAt.fv a0 a1) := Lim.of (fun k => impl_digitsAt.mono a0 a1 k)
set_option maxHeartbeats 4000000 in
theorem impl_digitsAt.l0v_eq (x0 : ByteArray) (x1 : Int) (x5 : Int) : impl_digitsAt.l0v x0 x1 x5 = (if (wrap64 (x1 + x5)) < (x0.size : Int) then (if 0 ≤ (wrap64 (x1 + x5)) then (if (bt x0 (wrap64 (x1 + x5))) ≥ 48 then (if (bt x0 (wrap64 (x1 + x5))) ≤ 57 then (impl_digitsAt.l0v x0 x1 (wrap64 (x5 + 1))) else (some x5)) else (some x5)) else (none)) else (some x5)) := by
  refine Lim.succ (impl_digitsAt.l0_lim x0 x1 x5) ?_
  simp only [impl_digitsAt.l0]
  repeat' first
    | (with_reducible apply impl_digitsAt.l0_lim)
    | (with_reducible exact Lim.const _)
    | (with_reducible refine Lim.ite ?_ ?_)
    | (with_reducible refine Lim.bind ?_ (fun _ => ?_))
    | apply impl_digitsAt.l0_lim
    | exact Lim.const _
    | refine Lim.ite ?_ ?_
    | refine Lim.bind ?_ (fun _ => ?_)
set_option maxHeartbeats 4000000 in
theorem impl_digitsAt.fv_eq (a0 : ByteArray) (a1 : Int) : impl_digitsAt.fv a0 a1 = (impl_digitsAt.l0v a0 a1 0) := by
  refine Lim.eq (impl_digitsAt.f_lim a0 a1) ?_
  simp only [impl_digitsAt.f]
  repeat' first
    | (with_reducible apply impl_digitsAt.l0_lim)
    | (with_reducible exact Lim.const _)
    | (with_reducible refine Lim.ite ?_ ?_)
    | (with_reducible refine Lim.bind ?_ (fun _ => ?_))
    | apply impl_digitsAt.l0_lim
    | exact Lim.const _
    | refine Lim.ite ?_ ?_
    | refine Lim.bind ?_ (fun _ => ?_)

/-! ### strconv_Atoi -/
def strconv_Atoi.f (a0 : ByteArray) : Option (Int × Option Int) := if a0.size ≤ 18 then (match Lib.atoi a0.data.toList with | some n_ => some (n_, none) | none => none) else none

/-! ### impl_right -/
def impl_right.f (a0 : Int) : Option (Int × Bool) := (impl_DecOk.f a0).bind fun t157 => (if t157 = true then (some (a0, true)) else (some (0, false)))

/-! ### impl_millionths -/
def impl_millionths.f (a0 : ByteArray) (a1 : ByteArray) : Option (Int × Bool) := (strings_TrimLeft.f a0 (⟨#[48]⟩ : ByteArray)).bind fun t158 => (if a1.size + 6 ≤ 9223372036854775807 then (if 0 ≤ 6 then (if 6 ≤ ((a1.size : Int) + 6) then (if (t158.size : Int) > 7 then (some (0, false)) else (if 1 + t158.size ≤ 9223372036854775807 then (if ((⟨#[48]⟩ : ByteArray) ++ t158).size + ((a1 ++ (⟨#[48, 48, 48, 48, 48, 48]⟩ : ByteArray)).extract 0 6).size ≤ 9223372036854775807 then ((strconv_Atoi.f (((⟨#[48]⟩ : ByteArray) ++ t158) ++ ((a1 ++ (⟨#[48, 48, 48, 48, 48, 48]⟩ : ByteArray)).extract 0 6))).bind fun bt159 => ((impl_right.f bt159.1).bind fun bt161 => (some (bt161.1, bt161.2)))) else (none)) else (none))) else (none)) else (none)) else (none))

/-! ### impl_DecFront -/
mutual
def impl_DecFront.j0 : Nat → ByteArray → Int → Bool → Bool → Option (Int × Int)
  | 0, _, _, _, _ => none
  | k + 1, x0, x4, x5, x33 => if x33 = true then (if 0 ≤ x4 then (if x4 < (x0.size : Int) then (impl_DecFront.j1 k x0 (wrap64 (x4 + 1)) ((bt x0 x4) == 45)) else (none)) else (none)) else (impl_DecFront.j1 k x0 x4 x5)
def impl_DecFront.j1 : Nat → ByteArray → Int → Bool → Option (Int × Int)
  | 0, _, _, _ => none
  | k + 1, x0, x4, x5 => (impl_digitsAt.f k x0 x4).bind fun t164 => (if 0 ≤ x4 then (if x4 ≤ (wrap64 (x4 + t164)) then (if (wrap64 (x4 + t164)) ≤ (x0.size : Int) then (if (wrap64 (x4 + t164)) < (x0.size : Int) then (if 0 ≤ (wrap64 (x4 + t164)) then (impl_DecFront.j2 k x0 (wrap64 (x4 + t164)) x5 (x0.extract (x4 : Int).toNat ((wrap64 (x4 + t164)) : Int).toNat) (⟨#[]⟩ : ByteArray) ((bt x0 (wrap64 (x4 + t164))) == 46)) else (none)) else (impl_DecFront.j2 k x0 (wrap64 (x4 + t164)) x5 (x0.extract (x4 : Int).toNat ((wrap64 (x4 + t164)) : Int).toNat) (⟨#[]⟩ : ByteArray) false)) else (none)) else (none)) else (none))
def impl_DecFront.j2 : Nat → ByteArray → Int → Bool → ByteArray → ByteArray → Bool → Option (Int × Int)
  | 0, _, _, _, _, _, _ => none
  | k + 1, x0, x4, x5, x7, x8, x61 => if x61 = true then ((impl_digitsAt.f k x0 (wrap64 (x4 + 1))).bind fun t165 => (if t165 > 0 then (if 0 ≤ (wrap64 (x4 + 1)) then (if (wrap64 (x4 + 1)) ≤ (wrap64 ((wrap64 (x4 + 1)) + t165)) then (if (wrap64 ((wrap64 (x4 + 1)) + t165)) ≤ (x0.size : Int) then (impl_DecFront.j3 k (wrap64 (x4 + (wrap64 (1 + t165)))) x5 x7 (x0.extract ((wrap64 (x4 + 1)) : Int).toNat ((wrap64 ((wrap64 (x4 + 1)) + t165)) : Int).toNat)) else (none)) else (none)) else (none)) else (impl_DecFront.j3 k x4 x5 x7 x8))) else (impl_DecFront.j3 k x4 x5 x7 x8)
def impl_DecFront.j3 : Nat → Int → Bool → ByteArray → ByteArray → Option (Int × Int)
  | 0, _, _, _, _ => none
  | k + 1, x4, x5, x7, x8 => if x7.toList = ([] : List UInt8) then (impl_DecFront.j4 k x4 x5 x7 x8 (x8.toList == ([] : List UInt8))) else (impl_DecFront.j4 k x4 x5 x7 x8 false)
def impl_DecFront.j4 : Nat → Int → Bool → ByteArray → ByteArray → Bool → Option (Int × Int)
  | 0, _, _, _, _, _ => none
  | k + 1, x4, x5, x7, x8, x85 => if x85 = true then (some (0, 0)) else ((impl_millionths.f x7 x8).bind fun bt166 => (if bt166.2 = true then (if x5 = true then (some (wrap64 (-bt166.1), x4)) else (some (bt166.1, x4))) else (some (0, 0))))
end
def impl_DecFront.f (k : Nat) (a0 : ByteArray) : Option (Int × Int) := (strings_TrimLeft.f a0 (⟨#[32]⟩ : ByteArray)).bind fun t163 => (if (wrap64 ((a0.size : Int) - (t163.size : Int))) < (a0.size : Int) then (if 0 ≤ (wrap64 ((a0.size : Int) - (t163.size : Int))) then (if (bt a0 (wrap64 ((a0.size : Int) - (t163.size : Int)))) = 43 then (impl_DecFront.j0 k a0 (wrap64 ((a0.size : Int) - (t163.size : Int))) false true) else (impl_DecFront.j0 k a0 (wrap64 ((a0.size : Int) - (t163.size : Int))) false ((bt a0 (wrap64 ((a0.size : Int) - (t163.size : Int)))) == 45))) else (none)) else (impl_DecFront.j0 k a0 (wrap64 ((a0.size : Int) - (t163.size : Int))) false false))
theorem impl_DecFront.mono_l : ∀ k, (∀ y0 y1 y2 y3, LeO (impl_DecFront.j0 k y0 y1 y2 y3) (impl_DecFront.j0 (k + 1) y0 y1 y2 y3)) ∧ (∀ y0 y1 y2, LeO (impl_DecFront.j1 k y0 y1 y2) (impl_DecFront.j1 (k + 1) y0 y1 y2)) ∧ (∀ y0 y1 y2 y3 y4 y5, LeO (impl_DecFront.j2 k y0 y1 y2 y3 y4 y5) (impl_DecFront.j2 (k + 1) y0 y1 y2 y3 y4 y5)) ∧ (∀ y0 y1 y2 y3, LeO (impl_DecFront.j3 k y0 y1 y2 y3) (impl_DecFront.j3 (k + 1) y0 y1 y2 y3)) ∧ (∀ y0 y1 y2 y3 y4, LeO (impl_DecFront.j4 k y0 y1 y2 y3 y4) (impl_DecFront.j4 (k + 1) y0 y1 y2 y3 y4))
  | 0 => ⟨fun _ _ _ _ r h => by simp [impl_DecFront.j0] at h, fun _ _ _ r h => by simp [impl_DecFront.j1] at h, fun _ _ _ _ _ _ r h => by simp [impl_DecFront.j2] at h, fun _ _ _ _ r h => by simp [impl_DecFront.j3] at h, fun _ _ _ _ _ r h => by simp [impl_DecFront.j4] at h⟩
  | k + 1 => by
    obtain ⟨ih0, ih1, ih2, ih3, ih4⟩ := impl_DecFront.mono_l k
    refine ⟨?_, ?_, ?_, ?_, ?_⟩
    · intro y0 y1 y2 y3
      unfold impl_DecFront.j0
      repeat' first
      | (with_reducible exact ih0 _ _ _ _)
      | (with_reducible exact ih1 _ _ _)
      | (with_reducible exact ih2 _ _ _ _ _ _)
      | (with_reducible exact ih3 _ _ _ _)
      | (with_reducible exact ih4 _ _ _ _ _)
      | (with_reducible exact impl_digitsAt.mono _ _ _)
      | (with_reducible exact LeO.refl _)
      | (with_reducible exact LeO.none _)
      | (with_reducible refine LeO.ite ?_ ?_)
      | (with_reducible refine LeO.bind ?_ (fun _ => ?_))
      | exact ih0 _ _ _ _
      | exact ih1 _ _ _
      | exact ih2 _ _ _ _ _ _
      | exact ih3 _ _ _ _
      | exact ih4 _ _ _ _ _
      | exact impl_digitsAt.mono _ _ _
      | exact LeO.none _
      | refine LeO.ite ?_ ?_
      | refine LeO.bind ?_ (fun _ => ?_)
    · intro y0 y1 y2
      unfold impl_DecFront.j1
      repeat' first
      | (with_reducible exact ih0 _ _ _ _)
      | (with_reducible exact ih1 _ _ _)
      | (with_reducible exact ih2 _ _ _ _ _ _)
      | (with_reducible exact ih3 _ _ _ _)
      | (with_reducible exact ih4 _ _ _ _ _)
      | (with_reducible exact impl_digitsAt.mono _ _ _)
      | (with_reducible exact LeO.refl _)
      | (with_reducible exact LeO.none _)
      | (with_reducible refine LeO.ite ?_ ?_)
      | (with_reducible refine LeO.bind ?_ (fun _ => ?_))
      | exact ih0 _ _ _ _
      | exact ih1 _ _ _
      | exact ih2 _ _ _ _ _ _
      | exact ih3 _ _ _ _
      | exact ih4 _ _ _ _ _
      | exact impl_digitsAt.mono _ _ _
      | exact LeO.none _
      | refine LeO.ite ?_ ?_
      | refine LeO.bind ?_ (fun _ => ?_)
    · intro y0 y1 y2 y3 y4 y5
      unfold impl_DecFront.j2
      repeat' first
      | (with_reducible exact ih0 _ _ _ _)
      | (with_reducible exact ih1 _ _ _)
      | (with_reducible exact ih2 _ _ _ _ _ _)
      | (with_reducible exact ih3 _ _ _ _)
      | (with_reducible exact ih4 _ _ _ _ _)
      | (with_reducible exact impl_digitsAt.mono _ _ _)
      | (with_reducible exact LeO.refl _)
      | (with_reducible exact LeO.none _)
      | (with_reducible refine LeO.ite ?_ ?_)
      | (with_reducible refine LeO.bind ?_ (fun _ => ?_))
      | exact ih0 _ _ _ _
      | exact ih1 _ _ _
      | exact ih2 _ _ _ _ _ _
      | exact ih3 _ _ _ _
      | exact ih4 _ _ _ _ _
      | exact impl_digitsAt.mono _ _ _
      | exact LeO.none _
      | refine LeO.ite ?_ ?_
      | refine LeO.bind ?_ (fun _ => ?_)
    · intro y0 y1 y2 y3
      unfold impl_DecFront.j3
      repeat' first
      | (with_reducible exact ih0 _ _ _ _)
      | (with_reducible exact ih1 _ _ _)
      | (with_reducible exact ih2 _ _ _ _ _ _)
      | (with_reducible exact ih3 _ _ _ _)
      | (with_reducible exact ih4 _ _ _ _ _)
      | (with_reducible exact impl_digitsAt.mono _ _ _)
      | (with_reducible exact LeO.refl _)
      | (with_reducible exact LeO.none _)
      | (with_reducible refine LeO.ite ?_ ?_)
      | (with_reducible refine LeO.bind ?_ (fun _ => ?_))
      | exact ih0 _ _ _ _
      | exact ih1 _ _ _
      | exact ih2 _ _ _ _ _ _
      | exact ih3 _ _ _ _
      | exact ih4 _ _ _ _ _
      | exact impl_digitsAt.mono _ _ _
      | exact LeO.none _
      | refine LeO.ite ?_ ?_
      | refine LeO.bind ?_ (fun _ => ?_)
    · intro y0 y1 y2 y3 y4
      unfold impl_DecFront.j4
      repeat' first
      | (with_reducible exact ih0 _ _ _ _)
      | (with_reducible exact ih1 _ _ _)
      | (with_reducible exact ih2 _ _ _ _ _ _)
      | (with_reducible exact ih3 _ _ _ _)
      | (with_reducible exact ih4 _ _ _ _ _)
      | (with_reducible exact impl_digitsAt.mono _ _ _)
      | (with_reducible exact LeO.refl _)
      | (with_reducible exact LeO.none _)
      | (with_reducible refine LeO.ite ?_ ?_)
      | (with_reducible refine LeO.bind ?_ (fun _ => ?_))
      | exact ih0 _ _ _ _
      | exact ih1 _ _ _
      | exact ih2 _ _ _ _ _ _
      | exact ih3 _ _ _ _
      | exact ih4 _ _ _ _ _
      | exact impl_digitsAt.mono _ _ _
      | exact LeO.none _
      | refine LeO.ite ?_ ?_
      | refine LeO.bind ?_ (fun _ => ?_)
theorem impl_DecFront.mono : ∀ a0 k, LeO (impl_DecFront.f k a0) (impl_DecFront.f (k + 1) a0) := by
  intro a0 k
  obtain ⟨ih0, ih1, ih2, ih3, ih4⟩ := impl_DecFront.mono_l k
  unfold impl_DecFront.f
  repeat' first
      | (with_reducible exact ih0 _ _ _ _)
      | (with_reducible exact ih1 _ _ _)
      | (with_reducible exact ih2 _ _ _ _ _ _)
      | (with_reducible exact ih3 _ _ _ _)
      | (with_reducible exact ih4 _ _ _ _ _)
      | (with_reducible exact impl_digitsAt.mono _ _ _)
      | (with_reducible exact LeO.refl _)
      | (with_reducible exact LeO.none _)
      | (with_reducible refine LeO.ite ?_ ?_)
      | (with_reducible refine LeO.bind ?_ (fun _ => ?_))
      | exact ih0 _ _ _ _
      | exact ih1 _ _ _
      | exact ih2 _ _ _ _ _ _
      | exact ih3 _ _ _ _
      | exact ih4 _ _ _ _ _
      | exact impl_digitsAt.mono _ _ _
      | exact LeO.none _
      | refine LeO.ite ?_ ?_
      | refine LeO.bind ?_ (fun _ => ?_)
noncomputable def impl_DecFront.j0v (x0 : ByteArray) (x4 : Int) (x5 : Bool) (x33 : Bool) : Option (Int × Int) := limOf (fun k => impl_DecFront.j0 k x0 x4 x5 x33)
theorem impl_DecFront.j0_lim (x0 : ByteArray) (x4 : Int) (x5 : Bool) (x33 : Bool) : Lim (fun k => impl_DecFront.j0 k x0 x4 x5 x33) (impl_DecFront.j0v x0 x4 x5 x33) := Lim.of (fun k => (impl_DecFront.mono_l k).1 x0 x4 x5 x33)
noncomputable def impl_DecFront.j1v (x0 : ByteArray) (x4 : Int) (x5 : Bool) : Option (Int × Int) := limOf (fun k => impl_DecFront.j1 k x0 x4 x5)
theorem impl_DecFront.j1_lim (x0 : ByteArray) (x4 : Int) (x5 : Bool) : Lim (fun k => impl_DecFront.j1 k x0 x4 x5) (impl_DecFront.j1v x0 x4 x5) := Lim.of (fun k => (impl_DecFront.mono_l k).2.1 x0 x4 x5)
noncomputable def impl_DecFront.j2v (x0 : ByteArray) (x4 : Int) (x5 : Bool) (x7 : ByteArray) (x8 : ByteArray) (x61 : Bool) : Option (Int × Int) := limOf (fun k => impl_DecFront.j2 k x0 x4 x5 x7 x8 x61)
theorem impl_DecFront.j2_lim (x0 : ByteArray) (x4 : Int) (x5 : Bool) (x7 : ByteArray) (x8 : ByteArray) (x61 : Bool) : Lim (fun k => impl_DecFront.j2 k x0 x4 x5 x7 x8 x61) (impl_DecFront.j2v x0 x4 x5 x7 x8 x61) := Lim.of (fun k => (impl_DecFront.mono_l k).2.2.1 x0 x4 x5 x7 x8 x61)
noncomputable def impl_DecFront.j3v (x4 : Int) (x5 : Bool) (x7 : ByteArray) (x8 : ByteArray) : Option (Int × Int) := limOf (fun k => impl_DecFront.j3 k x4 x5 x7 x8)
theorem impl_DecFront.j3_lim (x4 : Int) (x5 : Bool) (x7 : ByteArray) (x8 : ByteArray) : Lim (fun k => impl_DecFront.j3 k x4 x5 x7 x8) (impl_DecFront.j3v x4 x5 x7 x8) := Lim.of (fun k => (impl_DecFront.mono_l k).2.2.2.1 x4 x5 x7 x8)
noncomputable def impl_DecFront.j4v (x4 : Int) (x5 : Bool) (x7 : ByteArray) (x8 : ByteArray) (x85 : Bool) : Option (Int × Int) := limOf (fun k => impl_DecFront.j4 k x4 x5 x7 x8 x85)
theorem impl_DecFront.j4_lim (x4 : Int) (x5 : Bool) (x7 : ByteArray) (x8 : ByteArray) (x85 : Bool) : Lim (fun k => impl_DecFront.j4 k x4 x5 x7 x8 x85) (impl_DecFront.j4v x4 x5 x7 x8 x85) := Lim.of (fun k => (impl_DecFront.mono_l k).2.2.2.2 x4 x5 x7 x8 x85)
noncomputable def impl_DecFront.fv (a0 : ByteArray) : Option (Int × Int) := limOf (fun k => impl_DecFront.f k a0)
theorem impl_DecFront.f_lim (a0 : ByteArray) : Lim (fun k => impl_DecFront.f k a0) (impl_DecFront.fv a0) := Lim.of (fun k => impl_DecFront.mono a0 k)
set_option maxHeartbeats 4000000 in
theorem impl_DecFront.j0v_eq (x0 : ByteArray) (x4 : Int) (x5 : Bool) (x33 : Bool) : impl_DecFront.j0v x0 x4 x5 x33 = (if x33 = true then (if 0 ≤ x4 then (if x4 < (x0.size : Int) then (impl_DecFront.j1v x0 (wrap64 (x4 + 1)) ((bt x0 x4) == 45)) else (none)) else (none)) else (impl_DecFront.j1v x0 x4 x5)) := by
  refine Lim.succ (impl_DecFront.j0_lim x0 x4 x5 x33) ?_
  simp only [impl_DecFront.j0]
  repeat' first
    | (with_reducible apply impl_DecFront.j1_lim)
    | (with_reducible exact Lim.const _)
    | (with_reducible refine Lim.ite ?_ ?_)
    | (with_reducible refine Lim.bind ?_ (fun _ => ?_))
    | apply impl_DecFront.j1_lim
    | exact Lim.const _
    | refine Lim.ite ?_ ?_
    | refine Lim.bind ?_ (fun _ => ?_)
set_option maxHeartbeats 4000000 in
theorem impl_DecFront.j1v_eq (x0 : ByteArray) (x4 : Int) (x5 : Bool) : impl_DecFront.j1v x0 x4 x5 = ((impl_digitsAt.fv x0 x4).bind fun t164 => (if 0 ≤ x4 then (if x4 ≤ (wrap64 (x4 + t164)) then (if (wrap64 (x4 + t164)) ≤ (x0.size : Int) then (if (wrap64 (x4 + t164)) < (x0.size : Int) then (if 0 ≤ (wrap64 (x4 + t164)) then (impl_DecFront.j2v x0 (wrap64 (x4 + t164)) x5 (x0.extract (x4 : Int).toNat ((wrap64 (x4 + t164)) : Int).toNat) (⟨#[]⟩ : ByteArray) ((bt x0 (wrap64 (x4 + t164))) == 46)) else (none)) else (impl_DecFront.j2v x0 (wrap64 (x4 + t164)) x5 (x0.extract (x4 : Int).toNat ((wrap64 (x4 + t164)) : Int).toNat) (⟨#[]⟩ : ByteArray) false)) else (none)) else (none)) else (none))) := by
  refine Lim.succ (impl_DecFront.j1_lim x0 x4 x5) ?_
  simp only [impl_DecFront.j1]
  repeat' first
    | (with_reducible apply impl_DecFront.j2_lim)
    | (with_reducible apply impl_digitsAt.f_lim)
    | (with_reducible exact Lim.const _)
    | (with_reducible refine Lim.ite ?_ ?_)
    | (with_reducible refine Lim.bind ?_ (fun _ => ?_))
    | apply impl_DecFront.j2_lim
    | apply impl_digitsAt.f_lim
    | exact Lim.const _
    | refine Lim.ite ?_ ?_
    | refine Lim.bind ?_ (fun _ => ?_)
set_option maxHeartbeats 4000000 in
theorem impl_DecFront.j2v_eq (x0 : ByteArray) (x4 : Int) (x5 : Bool) (x7 : ByteArray) (x8 : ByteArray) (x61 : Bool) : impl_DecFront.j2v x0 x4 x5 x7 x8 x61 = (if x61 = true then ((impl_digitsAt.fv x0 (wrap64 (x4 + 1))).bind fun t165 => (if t165 > 0 then (if 0 ≤ (wrap64 (x4 + 1)) then (if (wrap64 (x4 + 1)) ≤ (wrap64 ((wrap64 (x4 + 1)) + t165)) then (if (wrap64 ((wrap64 (x4 + 1)) + t165)) ≤ (x0.size : Int) then (impl_DecFront.j3v (wrap64 (x4 + (wrap64 (1 + t165)))) x5 x7 (x0.extract ((wrap64 (x4 + 1)) : Int).toNat ((wrap64 ((wrap64 (x4 + 1)) + t165)) : Int).toNat)) else (none)) else (none)) else (none)) else (impl_DecFront.j3v x4 x5 x7 x8))) else (impl_DecFront.j3v x4 x5 x7 x8)) := by
  refine Lim.succ (impl_DecFront.j2_lim x0 x4 x5 x7 x8 x61) ?_
  simp only [impl_DecFront.j2]
  repeat' first
    | (with_reducible apply impl_DecFront.j3_lim)
    | (with_reducible apply impl_digitsAt.f_lim)
    | (with_reducible exact Lim.const _)
    | (with_reducible refine Lim.ite ?_ ?_)
    | (with_reducible refine Lim.bind ?_ (fun _ => ?_))
    | apply impl_DecFront.j3_lim
    | apply impl_digitsAt.f_lim
    | exact Lim.const _
    | refine Lim.ite ?_ ?_
    | refine Lim.bind ?_ (fun _ => ?_)
set_option maxHeartbeats 4000000 in
theorem impl_DecFront.j3v_eq (x4 : Int) (x5 : Bool) (x7 : ByteArray) (x8 : ByteArray) : impl_DecFront.j3v x4 x5 x7 x8 = (if x7.toList = ([] : List UInt8) then (impl_DecFront.j4v x4 x5 x7 x8 (x8.toList == ([] : List UInt8))) else (impl_DecFront.j4v x4 x5 x7 x8 false)) := by
  refine Lim.succ (impl_DecFront.j3_lim x4 x5 x7 x8) ?_
  simp only [impl_DecFront.j3]
  repeat' first
    | (with_reducible apply impl_DecFront.j4_lim)
    | (with_reducible exact Lim.const _)
    | (with_reducible refine Lim.ite ?_ ?_)
    | (with_reducible refine Lim.bind ?_ (fun _ => ?_))
    | apply impl_DecFront.j4_lim
    | exact Lim.const _
    | refine Lim.ite ?_ ?_
    | refine Lim.bind ?_ (fun _ => ?_)
set_option maxHeartbeats 4000000 in
theorem impl_DecFront.j4v_eq (x4 : Int) (x5 : Bool) (x7 : ByteArray) (x8 : ByteArray) (x85 : Bool) : impl_DecFront.j4v x4 x5 x7 x8 x85 = (if x85 = true then (some (0, 0)) else ((impl_millionths.f x7 x8).bind fun bt166 => (if bt166.2 = true then (if x5 = true then (some (wrap64 (-bt166.1), x4)) else (some (bt166.1, x4))) else (some (0, 0))))) := by
  refine Lim.succ (impl_DecFront.j4_lim x4 x5 x7 x8 x85) ?_
  simp only [impl_DecFront.j4]
  repeat' first
    | (with_reducible exact Lim.const _)
    | (with_reducible refine Lim.ite ?_ ?_)
    | (with_reducible refine Lim.bind ?_ (fun _ => ?_))
    | exact Lim.const _
    | refine Lim.ite ?_ ?_
    | refine Lim.bind ?_ (fun _ => ?_)
set_option maxHeartbeats 4000000 in
theorem impl_DecFront.fv_eq (a0 : ByteArray) : impl_DecFront.fv a0 = ((strings_TrimLeft.f a0 (⟨#[32]⟩ : ByteArray)).bind fun t163 => (if (wrap64 ((a0.size : Int) - (t163.size : Int))) < (a0.size : Int) then (if 0 ≤ (wrap64 ((a0.size : Int) - (t163.size : Int))) then (if (bt a0 (wrap64 ((a0.size : Int) - (t163.size : Int)))) = 43 then (impl_DecFront.j0v a0 (wrap64 ((a0.size : Int) - (t163.size : Int))) false true) else (impl_DecFront.j0v a0 (wrap64 ((a0.size : Int) - (t163.size : Int))) false ((bt a0 (wrap64 ((a0.size : Int) - (t163.size : Int)))) == 45))) else (none)) else (impl_DecFront.j0v a0 (wrap64 ((a0.size : Int) - (t163.size : Int))) false false))) := by
  refine Lim.eq (impl_DecFront.f_lim a0) ?_
  simp only [impl_DecFront.f]
  repeat' first
    | (with_reducible apply impl_DecFront.j0_lim)
    | (with_reducible exact Lim.const _)
    | (with_reducible refine Lim.ite ?_ ?_)
    | (with_reducible refine Lim.bind ?_ (fun _ => ?_))
    | apply impl_DecFront.j0_lim
    | exact Lim.const _
    | refine Lim.ite ?_ ?_
    | refine Lim.bind ?_ (fun _ => ?_)

/-! ### strings_Trim -/
def strings_Trim.f (a0 : ByteArray) (a1 : ByteArray) : Option (ByteArray) := match a1.data.toList with | [c_] => if c_.toNat < 128 ∧ a0.size ≤ 9223372036854775807 then some ⟨(Lib.trimB a0.data.toList c_).toArray⟩ else none | _ => none

/-! ### impl_DecLooks -/
def impl_DecLooks.f (k : Nat) (a0 : ByteArray) : Option (Int × Bool) := (impl_DecFront.f k a0).bind fun bt168 => (if bt168.2 = 0 then (some (0, false)) else (if 0 ≤ bt168.2 then (if bt168.2 ≤ (a0.size : Int) then ((strings_Trim.f (a0.extract (bt168.2 : Int).toNat a0.size) (⟨#[32]⟩ : ByteArray)).bind fun t170 => (if t170.toList = ([] : List UInt8) then (some (bt168.1, true)) else (some (0, false)))) else (none)) else (none)))
theorem impl_DecLooks.mono : ∀ a0 k, LeO (impl_DecLooks.f k a0) (impl_DecLooks.f (k + 1) a0) := by
  intro a0 k
  unfold impl_DecLooks.f
  repeat' first
      | (with_reducible exact impl_DecFront.mono _ _)
      | (with_reducible exact LeO.refl _)
      | (with_reducible exact LeO.none _)
      | (with_reducible refine LeO.ite ?_ ?_)
      | (with_reducible refine LeO.bind ?_ (fun _ => ?_))
      | exact impl_DecFront.mono _ _
      | exact LeO.none _
      | refine LeO.ite ?_ ?_
      | refine LeO.bind ?_ (fun _ => ?_)
noncomputable def impl_DecLooks.fv (a0 : ByteArray) : Option (Int × Bool) := limOf (fun k => impl_DecLooks.f k a0)
theorem impl_DecLooks.f_lim (a0 : ByteArray) : Lim (fun k => impl_DecLooks.f k a0) (impl_DecLooks.fv a0) := Lim.of (fun k => impl_DecLooks.mono a0 k)
set_option maxHeartbeats 4000000 in
theorem impl_DecLooks.fv_eq (a0 : ByteArray) : impl_DecLooks.fv a0 = ((impl_DecFront.fv a0).bind fun bt168 => (if bt168.2 = 0 then (some (0, false)) else (if 0 ≤ bt168.2 then (if bt168.2 ≤ (a0.size : Int) then ((strings_Trim.f (a0.extract (bt168.2 : Int).toNat a0.size) (⟨#[32]⟩ : ByteArray)).bind fun t170 => (if t170.toList = ([] : List UInt8) then (some (bt168.1, true)) else (some (0, false)))) else (none)) else (none)))) := by
  refine Lim.eq (impl_DecLooks.f_lim a0) ?_
  simp only [impl_DecLooks.f]
  repeat' first
    | (with_reducible apply impl_DecFront.f_lim)
    | (with_reducible exact Lim.const _)
    | (with_reducible refine Lim.ite ?_ ?_)
    | (with_reducible refine Lim.bind ?_ (fun _ => ?_))
    | apply impl_DecFront.f_lim
    | exact Lim.const _
    | refine Lim.ite ?_ ?_
    | refine Lim.bind ?_ (fun _ => ?_)

/-! ### spec_l1In -/
def spec_l1In.f (a0 : Int) (a1 : Int) (a2 : Int) : Option (Bool) := if a0 ≥ a1 then (some (decide (a0 ≤ a2))) else (some false)

/-! ### spec_DecOk -/
def spec_DecOk.f (a0 : Int) : Option (Bool) := (spec_l1In.f a0 (-9000000000000) 9000000000000).bind fun t171 => (some t171)

/-! ### spec_l1Abs -/
def spec_l1Abs.f (a0 : Int) : Option (Int) := if a0 < 0 then (some (wrap64 (-a0))) else (some a0)

/-! ### spec_l2Digits -/
def spec_l2Digits.l0 : Nat → Int → ByteArray → Option (ByteArray)
  | 0, _, _ => none
  | k + 1, x0, x3 => if x0 > 0 then ((some (([(wrap64 (48 + (Int.tmod x0 10))) % 256] : List Int) : List Int)).bind fun y172 => (if (strOfNums y172).size + x3.size ≤ 9223372036854775807 then (spec_l2Digits.l0 k (wrap64 (Int.tdiv x0 10)) ((strOfNums y172) ++ x3)) else (none))) else (some x3)
def spec_l2Digits.f (k : Nat) (a0 : Int) : Option (ByteArray) := if a0 ≤ 0 then (some (⟨#[48]⟩ : ByteArray)) else (spec_l2Digits.l0 k a0 (⟨#[]⟩ : ByteArray))
theorem spec_l2Digits.mono_l : ∀ k, (∀ y0 y1, LeO (spec_l2Digits.l0 k y0 y1) (spec_l2Digits.l0 (k + 1) y0 y1))
  | 0 => fun _ _ r h => by simp [spec_l2Digits.l0] at h
  | k + 1 => by
    have ih0 := spec_l2Digits.mono_l k
    · intro y0 y1
      unfold spec_l2Digits.l0
      repeat' first
      | (with_reducible exact ih0 _ _)
      | (with_reducible exact LeO.refl _)
      | (with_reducible exact LeO.none _)
      | (with_reducible refine LeO.ite ?_ ?_)
      | (with_reducible refine LeO.bind ?_ (fun _ => ?_))
      | exact ih0 _ _
      | exact LeO.none _
      | refine LeO.ite ?_ ?_
      | refine LeO.bind ?_ (fun _ => ?_)
theorem spec_l2Digits.mono : ∀ a0 k, LeO (spec_l2Digits.f k a0) (spec_l2Digits.f (k + 1) a0) := by
  intro a0 k
  have ih0 := spec_l2Digits.mono_l k
  unfold spec_l2Digits.f
  repeat' first
      | (with_reducible exact ih0 _ _)
      | (with_reducible exact LeO.refl _)
      | (with_reducible exact LeO.none _)
      | (with_reducible refine LeO.ite ?_ ?_)
      | (with_reducible refine LeO.bind ?_ (fun _ => ?_))
      | exact ih0 _ _
      | exact LeO.none _
      | refine LeO.ite ?_ ?_
      | refine LeO.bind ?_ (fun _ => ?_)
noncomputable def spec_l2Digits.l0v (x0 : Int) (x3 : ByteArray) : Option (ByteArray) := limOf (fun k => spec_l2Digits.l0 k x0 x3)
theorem spec_l2Digits.l0_lim (x0 : Int) (x3 : ByteArray) : Lim (fun k => spec_l2Digits.l0 k x0 x3) (spec_l2Digits.l0v x0 x3) := Lim.of (fun k => spec_l2Digits.mono_l k x0 x3)
noncomputable def spec_l2Digits.fv (a0 : Int) : Option (ByteArray) := limOf (fun k => spec_l2Digits.f k a0)
theorem spec_l2Digits.f_lim (a0 : Int) : Lim (fun k => spec_l2Digits.f k a0) (spec_l2Digits.fv a0) := Lim.of (fun k => spec_l2Digits.mono a0 k)
set_option maxHeartbeats 4000000 in
theorem spec_l2Digits.l0v_eq (x0 : Int) (x3 : ByteArray) : spec_l2Digits.l0v x0 x3 = (if x0 > 0 then ((some (([(wrap64 (48 + (Int.tmod x0 10))) % 256] : List Int) : List Int)).bind fun y172 => (if (strOfNums y172).size + x3.size ≤ 9223372036854775807 then (spec_l2Digits.l0v (wrap64 (Int.tdiv x0 10)) ((strOfNums y172) ++ x3)) else (none))) else (some x3)) := by
  refine Lim.succ (spec_l2Digits.l0_lim x0 x3) ?_
  simp only [spec_l2Digits.l0]
  repeat' first
    | (with_reducible apply spec_l2Digits.l0_lim)
    | (with_reducible exact Lim.const _)
    | (with_reducible refine Lim.ite ?_ ?_)
    | (with_reducible refine Lim.bind ?_ (fun _ => ?_))
    | apply spec_l2Digits.l0_lim
    | exact Lim.const _
    | refine Lim.ite ?_ ?_
    | refine Lim.bind ?_ (fun _ => ?_)
set_option maxHeartbeats 4000000 in
theorem spec_l2Digits.fv_eq (a0 : Int) : spec_l2Digits.fv a0 = (if a0 ≤ 0 then (some (⟨#[48]⟩ : ByteArray)) else (spec_l2Digits.l0v a0 (⟨#[]⟩ : ByteArray))) := by
  refine Lim.eq (spec_l2Digits.f_lim a0) ?_
  simp only [spec_l2Digits.f]
  repeat' first
    | (with_reducible apply spec_l2Digits.l0_lim)
    | (with_reducible exact Lim.const _)
    | (with_reducible refine Lim.ite ?_ ?_)
    | (with_reducible refine Lim.bind ?_ (fun _ => ?_))
    | apply spec_l2Digits.l0_lim
    | exact Lim.const _
    | refine Lim.ite ?_ ?_
    | refine Lim.bind ?_ (fun _ => ?_)

/-! ### spec_DecText -/
def spec_DecText.l0 : Nat → Int → ByteArray → ByteArray → Option (ByteArray)
  | 0, _, _, _ => none
  | k + 1, x0, x4, x6 => if 0 ≤ (wrap64 ((x6.size : Int) - 1)) then (if (wrap64 ((x6.size : Int) - 1)) < (x6.size : Int) then (if (bt x6 (wrap64 ((x6.size : Int) - 1))) = 48 then (if (wrap64 ((x6.size : Int) - 1)) ≤ (x6.size : Int) then (spec_DecText.l0 k x0 x4 (x6.extract 0 ((wrap64 ((x6.size : Int) - 1)) : Int).toNat)) else (none)) else (if x4.size + 1 ≤ 9223372036854775807 then (if (x4 ++ (⟨#[46]⟩ : ByteArray)).size + x6.size ≤ 9223372036854775807 then (if x0 < 0 then (if 1 + ((x4 ++ (⟨#[46]⟩ : ByteArray)) ++ x6).size ≤ 9223372036854775807 then (some ((⟨#[45]⟩ : ByteArray) ++ ((x4 ++ (⟨#[46]⟩ : ByteArray)) ++ x6))) else (none)) else (some ((x4 ++ (⟨#[46]⟩ : ByteArray)) ++ x6))) else (none)) else (none))) else (none)) else (none)
def spec_DecText.f (k : Nat) (a0 : Int) : Option (ByteArray) := (spec_DecOk.f a0).bind fun t175 => (if t175 = true then ((spec_l1Abs.f a0).bind fun t176 => ((spec_l2Digits.f k (wrap64 (Int.tdiv t176 1000000))).bind fun t177 => (if (Int.tmod t176 1000000) > 0 then ((spec_l2Digits.f k (wrap64 (1000000 + (Int.tmod t176 1000000)))).bind fun t178 => (if 1 ≤ (t178.size : Int) then (spec_DecText.l0 k a0 t177 (t178.extract 1 t178.size)) else (none))) else (if a0 < 0 then (if 1 + t177.size ≤ 9223372036854775807 then (some ((⟨#[45]⟩ : ByteArray) ++ t177)) else (none)) else (some t177))))) else (some (⟨#[]⟩ : ByteArray)))
theorem spec_DecText.mono_l : ∀ k, (∀ y0 y1 y2, LeO (spec_DecText.l0 k y0 y1 y2) (spec_DecText.l0 (k + 1) y0 y1 y2))
  | 0 => fun _ _ _ r h => by simp [spec_DecText.l0] at h
  | k + 1 => by
    have ih0 := spec_DecText.mono_l k
    · intro y0 y1 y2
      unfold spec_DecText.l0
      repeat' first
      | (with_reducible exact ih0 _ _ _)
      | (with_reducible exact spec_l2Digits.mono _ _)
      | (with_reducible exact LeO.refl _)
      | (with_reducible exact LeO.none _)
      | (with_reducible refine LeO.ite ?_ ?_)
      | (with_reducible refine LeO.bind ?_ (fun _ => ?_))
      | exact ih0 _ _ _
      | exact spec_l2Digits.mono _ _
      | exact LeO.none _
      | refine LeO.ite ?_ ?_
      | refine LeO.bind ?_ (fun _ => ?_)
theorem spec_DecText.mono : ∀ a0 k, LeO (spec_DecText.f k a0) (spec_DecText.f (k + 1) a0) := by
  intro a0 k
  have ih0 := spec_DecText.mono_l k
  unfold spec_DecText.f
  repeat' first
      | (with_reducible exact ih0 _ _ _)
      | (with_reducible exact spec_l2Digits.mono _ _)
      | (with_reducible exact LeO.refl _)
      | (with_reducible exact LeO.none _)
      | (with_reducible refine LeO.ite ?_ ?_)
      | (with_reducible refine LeO.bind ?_ (fun _ => ?_))
      | exact ih0 _ _ _
      | exact spec_l2Digits.mono _ _
      | exact LeO.none _
      | refine LeO.ite ?_ ?_
      | refine LeO.bind ?_ (fun _ => ?_)
noncomputable def spec_DecText.l0v (x0 : Int) (x4 : ByteArray) (x6 : ByteArray) : Option (ByteArray) := limOf (fun k => spec_DecText.l0 k x0 x4 x6)
theorem spec_DecText.l0_lim (x0 : Int) (x4 : ByteArray) (x6 : ByteArray) : Lim (fun k => spec_DecText.l0 k x0 x4 x6) (spec_DecText.l0v x0 x4 x6) := Lim.of (fun k => spec_DecText.mono_l k x0 x4 x6)
noncomputable def spec_DecText.fv (a0 : Int) : Option (ByteArray) := limOf (fun k => spec_DecText.f k a0)
theorem spec_DecText.f_lim (a0 : Int) : Lim (fun k => spec_DecText.f k a0) (spec_DecText.fv a0) := Lim.of (fun k => spec_DecText.mono a0 k)
set_option maxHeartbeats 4000000 in
theorem spec_DecText.l0v_eq (x0 : Int) (x4 : ByteArray) (x6 : ByteArray) : spec_DecText.l0v x0 x4 x6 = (if 0 ≤ (wrap64 ((x6.size : Int) - 1)) then (if (wrap64 ((x6.size : Int) - 1)) < (x6.size : Int) then (if (bt x6 (wrap64 ((x6.size : Int) - 1))) = 48 then (if (wrap64 ((x6.size : Int) - 1)) ≤ (x6.size : Int) then (spec_DecText.l0v x0 x4 (x6.extract 0 ((wrap64 ((x6.size : Int) - 1)) : Int).toNat)) else (none)) else (if x4.size + 1 ≤ 9223372036854775807 then (if (x4 ++ (⟨#[46]⟩ : ByteArray)).size + x6.size ≤ 9223372036854775807 then (if x0 < 0 then (if 1 + ((x4 ++ (⟨#[46]⟩ : ByteArray)) ++ x6).size ≤ 9223372036854775807 then (some ((⟨#[45]⟩ : ByteArray) ++ ((x4 ++ (⟨#[46]⟩ : ByteArray)) ++ x6))) else (none)) else (some ((x4 ++ (⟨#[46]⟩ : ByteArray)) ++ x6))) else (none)) else (none))) else (none)) else (none)) := by
  refine Lim.succ (spec_DecText.l0_lim x0 x4 x6) ?_
  simp only [spec_DecText.l0]
  repeat' first
    | (with_reducible apply spec_DecText.l0_lim)
    | (with_reducible exact Lim.const _)
    | (with_reducible refine Lim.ite ?_ ?_)
    | (with_reducible refine Lim.bind ?_ (fun _ => ?_))
    | apply spec_DecText.l0_lim
    | exact Lim.const _
    | refine Lim.ite ?_ ?_
    | refine Lim.bind ?_ (fun _ => ?_)
set_option maxHeartbeats 4000000 in
theorem spec_DecText.fv_eq (a0 : Int) : spec_DecText.fv a0 = ((spec_DecOk.f a0).bind fun t175 => (if t175 = true then ((spec_l1Abs.f a0).bind fun t176 => ((spec_l2Digits.fv (wrap64 (Int.tdiv t176 1000000))).bind fun t177 => (if (Int.tmod t176 1000000) > 0 then ((spec_l2Digits.fv (wrap64 (1000000 + (Int.tmod t176 1000000)))).bind fun t178 => (if 1 ≤ (t178.size : Int) then (spec_DecText.l0v a0 t177 (t178.extract 1 t178.size)) else (none))) else (if a0 < 0 then (if 1 + t177.size ≤ 9223372036854775807 then (some ((⟨#[45]⟩ : ByteArray) ++ t177)) else (none)) else (some t177))))) else (some (⟨#[]⟩ : ByteArray)))) := by
  refine Lim.eq (spec_DecText.f_lim a0) ?_
  simp only [spec_DecText.f]
  repeat' first
    | (with_reducible apply spec_DecText.l0_lim)
    | (with_reducible apply spec_l2Digits.f_lim)
    | (with_reducible exact Lim.const _)
    | (with_reducible refine Lim.ite ?_ ?_)
    | (with_reducible refine Lim.bind ?_ (fun _ => ?_))
    | apply spec_DecText.l0_lim
    | apply spec_l2Digits.f_lim
    | exact Lim.const _
    | refine Lim.ite ?_ ?_
    | refine Lim.bind ?_ (fun _ => ?_)

/-! ### spec_l1Pick -/
def spec_l1Pick.f (s0_0 : List Int) (s0_1 : Int) (s0_2 : Int) (l1 : List ByteArray) : Option (ByteArray × Int × Int) := (spec_l1Below.f s0_0 s0_1 s0_2 (l1.length : Int)).bind fun bt179 => (if 0 ≤ bt179.1 then (if bt179.1 < (l1.length : Int) then (some (rdOf ByteArray.empty l1 bt179.1, bt179.2.1, bt179.2.2)) else (none)) else (none))

/-! ### spec_l2DrawText -/
def spec_l2DrawText.f (k : Nat) (s0_0 : List Int) (s0_1 : Int) (s0_2 : Int) : Option (ByteArray × Int × Int) := (spec_l1Pick.f s0_0 s0_1 s0_2 (([(⟨#[]⟩ : ByteArray), (⟨#[32, 32]⟩ : ByteArray), (⟨#[45]⟩ : ByteArray), (⟨#[43]⟩ : ByteArray)] : List ByteArray))).bind fun bt186 => ((spec_l1DrawDec.f s0_0 bt186.2.1 bt186.2.2).bind fun bt189 => ((spec_DecText.f k bt189.1).bind fun t192 => (if bt186.1.size + t192.size ≤ 9223372036854775807 then ((spec_l1Pick.f s0_0 bt189.2.1 bt189.2.2 (([(⟨#[]⟩ : ByteArray), (⟨#[32]⟩ : ByteArray), (⟨#[120]⟩ : ByteArray), (⟨#[46]⟩ : ByteArray), (⟨#[48]⟩ : ByteArray), (⟨#[46, 53]⟩ : ByteArray)] : List ByteArray))).bind fun bt196 => (if (bt186.1 ++ t192).size + bt196.1.size ≤ 9223372036854775807 then ((spec_l1Below.f s0_0 bt196.2.1 bt196.2.2 (wrap64 ((((bt186.1.size : Int) + (t192.size : Int)) + (bt196.1.size : Int)) + 1))).bind fun bt199 => ((spec_l1Below.f s0_0 bt199.2.1 bt199.2.2 7).bind fun bt202 => (if bt202.1 = 0 then (if 0 ≤ bt199.1 then (if bt199.1 ≤ (((bt186.1.size : Int) + (t192.size : Int)) + (bt196.1.size : Int)) then ((spec_l1Pick.f s0_0 bt202.2.1 bt202.2.2 (([(⟨#[48]⟩ : ByteArray), (⟨#[45]⟩ : ByteArray), (⟨#[32]⟩ : ByteArray), (⟨#[46]⟩ : ByteArray), (⟨#[57]⟩ : ByteArray), (⟨#[48, 48]⟩ : ByteArray)] : List ByteArray))).bind fun bt208 => (if (((bt186.1 ++ t192) ++ bt196.1).extract 0 (bt199.1 : Int).toNat).size + bt208.1.size ≤ 9223372036854775807 then (if ((((bt186.1 ++ t192) ++ bt196.1).extract 0 (bt199.1 : Int).toNat) ++ bt208.1).size + (((bt186.1 ++ t192) ++ bt196.1).extract (bt199.1 : Int).toNat ((bt186.1 ++ t192) ++ bt196.1).size).size ≤ 9223372036854775807 then (some (((((bt186.1 ++ t192) ++ bt196.1).extract 0 (bt199.1 : Int).toNat) ++ bt208.1) ++ (((bt186.1 ++ t192) ++ bt196.1).extract (bt199.1 : Int).toNat ((bt186.1 ++ t192) ++ bt196.1).size), bt208.2.1, bt208.2.2)) else (none)) else (none))) else (none)) else (none)) else (if bt202.1 = 1 then (if 0 ≤ bt199.1 then (if bt199.1 ≤ (((bt186.1.size : Int) + (t192.size : Int)) + (bt196.1.size : Int)) then (some (((bt186.1 ++ t192) ++ bt196.1).extract 0 (bt199.1 : Int).toNat, bt202.2.1, bt202.2.2)) else (none)) else (none)) else (if bt202.1 = 2 then ((spec_l1Pick.f s0_0 bt202.2.1 bt202.2.2 (([(⟨#[]⟩ : ByteArray), (⟨#[97, 98, 99]⟩ : ByteArray), (⟨#[57, 48, 48, 48, 48, 48, 48]⟩ : ByteArray), (⟨#[57, 48, 48, 48, 48, 48, 48, 46, 48, 48, 48, 48, 48, 49]⟩ : ByteArray), (⟨#[57, 57, 57, 57, 57, 57, 57, 57, 57, 57, 57, 57, 57, 57, 57, 57, 57, 57, 57, 57, 57, 57, 57]⟩ : ByteArray), (⟨#[48, 46, 48, 48, 48, 48, 48, 48, 49]⟩ : ByteArray), (⟨#[46, 53]⟩ : ByteArray), (⟨#[49, 46]⟩ : ByteArray), (⟨#[45, 32, 49]⟩ : ByteArray)] : List ByteArray))).bind fun bt214 => (some (bt214.1, bt214.2.1, bt214.2.2))) else (some ((bt186.1 ++ t192) ++ bt196.1, bt202.2.1, bt202.2.2))))))) else (none))) else (none))))
theorem spec_l2DrawText.mono : ∀ a0 a1 a2 k, LeO (spec_l2DrawText.f k a0 a1 a2) (spec_l2DrawText.f (k + 1) a0 a1 a2) := by
  intro a0 a1 a2 k
  unfold spec_l2DrawText.f
  repeat' first
      | (with_reducible exact spec_DecText.mono _ _)
      | (with_reducible exact LeO.refl _)
      | (with_reducible exact LeO.none _)
      | (with_reducible refine LeO.ite ?_ ?_)
      | (with_reducible refine LeO.bind ?_ (fun _ => ?_))
      | exact spec_DecText.mono _ _
      | exact LeO.none _
      | refine LeO.ite ?_ ?_
      | refine LeO.bind ?_ (fun _ => ?_)
noncomputable def spec_l2DrawText.fv (s0_0 : List Int) (s0_1 : Int) (s0_2 : Int) : Option (ByteArray × Int × Int) := limOf (fun k => spec_l2DrawText.f k s0_0 s0_1 s0_2)
theorem spec_l2DrawText.f_lim (s0_0 : List Int) (s0_1 : Int) (s0_2 : Int) : Lim (fun k => spec_l2DrawText.f k s0_0 s0_1 s0_2) (spec_l2DrawText.fv s0_0 s0_1 s0_2) := Lim.of (fun k => spec_l2DrawText.mono s0_0 s0_1 s0_2 k)
set_option maxHeartbeats 4000000 in
theorem spec_l2DrawText.fv_eq (s0_0 : List Int) (s0_1 : Int) (s0_2 : Int) : spec_l2DrawText.fv s0_0 s0_1 s0_2 = ((spec_l1Pick.f s0_0 s0_1 s0_2 (([(⟨#[]⟩ : ByteArray), (⟨#[32, 32]⟩ : ByteArray), (⟨#[45]⟩ : ByteArray), (⟨#[43]⟩ : ByteArray)] : List ByteArray))).bind fun bt186 => ((spec_l1DrawDec.f s0_0 bt186.2.1 bt186.2.2).bind fun bt189 => ((spec_DecText.fv bt189.1).bind fun t192 => (if bt186.1.size + t192.size ≤ 9223372036854775807 then ((spec_l1Pick.f s0_0 bt189.2.1 bt189.2.2 (([(⟨#[]⟩ : ByteArray), (⟨#[32]⟩ : ByteArray), (⟨#[120]⟩ : ByteArray), (⟨#[46]⟩ : ByteArray), (⟨#[48]⟩ : ByteArray), (⟨#[46, 53]⟩ : ByteArray)] : List ByteArray))).bind fun bt196 => (if (bt186.1 ++ t192).size + bt196.1.size ≤ 9223372036854775807 then ((spec_l1Below.f s0_0 bt196.2.1 bt196.2.2 (wrap64 ((((bt186.1.size : Int) + (t192.size : Int)) + (bt196.1.size : Int)) + 1))).bind fun bt199 => ((spec_l1Below.f s0_0 bt199.2.1 bt199.2.2 7).bind fun bt202 => (if bt202.1 = 0 then (if 0 ≤ bt199.1 then (if bt199.1 ≤ (((bt186.1.size : Int) + (t192.size : Int)) + (bt196.1.size : Int)) then ((spec_l1Pick.f s0_0 bt202.2.1 bt202.2.2 (([(⟨#[48]⟩ : ByteArray), (⟨#[45]⟩ : ByteArray), (⟨#[32]⟩ : ByteArray), (⟨#[46]⟩ : ByteArray), (⟨#[57]⟩ : ByteArray), (⟨#[48, 48]⟩ : ByteArray)] : List ByteArray))).bind fun bt208 => (if (((bt186.1 ++ t192) ++ bt196.1).extract 0 (bt199.1 : Int).toNat).size + bt208.1.size ≤ 9223372036854775807 then (if ((((bt186.1 ++ t192) ++ bt196.1).extract 0 (bt199.1 : Int).toNat) ++ bt208.1).size + (((bt186.1 ++ t192) ++ bt196.1).extract (bt199.1 : Int).toNat ((bt186.1 ++ t192) ++ bt196.1).size).size ≤ 9223372036854775807 then (some (((((bt186.1 ++ t192) ++ bt196.1).extract 0 (bt199.1 : Int).toNat) ++ bt208.1) ++ (((bt186.1 ++ t192) ++ bt196.1).extract (bt199.1 : Int).toNat ((bt186.1 ++ t192) ++ bt196.1).size), bt208.2.1, bt208.2.2)) else (none)) else (none))) else (none)) else (none)) else (if bt202.1 = 1 then (if 0 ≤ bt199.1 then (if bt199.1 ≤ (((bt186.1.size : Int) + (t192.size : Int)) + (bt196.1.size : Int)) then (some (((bt186.1 ++ t192) ++ bt196.1).extract 0 (bt199.1 : Int).toNat, bt202.2.1, bt202.2.2)) else (none)) else (none)) else (if bt202.1 = 2 then ((spec_l1Pick.f s0_0 bt202.2.1 bt202.2.2 (([(⟨#[]⟩ : ByteArray), (⟨#[97, 98, 99]⟩ : ByteArray), (⟨#[57, 48, 48, 48, 48, 48, 48]⟩ : ByteArray), (⟨#[57, 48, 48, 48, 48, 48, 48, 46, 48, 48, 48, 48, 48, 49]⟩ : ByteArray), (⟨#[57, 57, 57, 57, 57, 57, 57, 57, 57, 57, 57, 57, 57, 57, 57, 57, 57, 57, 57, 57, 57, 57, 57]⟩ : ByteArray), (⟨#[48, 46, 48, 48, 48, 48, 48, 48, 49]⟩ : ByteArray), (⟨#[46, 53]⟩ : ByteArray), (⟨#[49, 46]⟩ : ByteArray), (⟨#[45, 32, 49]⟩ : ByteArray)] : List ByteArray))).bind fun bt214 => (some (bt214.1, bt214.2.1, bt214.2.2))) else (some ((bt186.1 ++ t192) ++ bt196.1, bt202.2.1, bt202.2.2))))))) else (none))) else (none))))) := by
  refine Lim.eq (spec_l2DrawText.f_lim s0_0 s0_1 s0_2) ?_
  simp only [spec_l2DrawText.f]
  repeat' first
    | (with_reducible apply spec_DecText.f_lim)
    | (with_reducible exact Lim.const _)
    | (with_reducible refine Lim.ite ?_ ?_)
    | (with_reducible refine Lim.bind ?_ (fun _ => ?_))
    | apply spec_DecText.f_lim
    | exact Lim.const _
    | refine Lim.ite ?_ ?_
    | refine Lim.bind ?_ (fun _ => ?_)

/-! ### spec_DrawDecLooks -/
def spec_DrawDecLooks.f (k : Nat) (l0 : List Int) : Option (ByteArray) := (spec_l1New.f k l0).bind fun bt217 => ((spec_l2DrawText.f k bt217.1 bt217.2.1 bt217.2.2).bind fun bt221 => (some bt221.1))
theorem spec_DrawDecLooks.mono : ∀ a0 k, LeO (spec_DrawDecLooks.f k a0) (spec_DrawDecLooks.f (k + 1) a0) := by
  intro a0 k
  unfold spec_DrawDecLooks.f
  repeat' first
      | (with_reducible exact spec_l1New.mono _ _)
      | (with_reducible exact spec_l2DrawText.mono _ _ _ _)
      | (with_reducible exact LeO.refl _)
      | (with_reducible exact LeO.none _)
      | (with_reducible refine LeO.ite ?_ ?_)
      | (with_reducible refine LeO.bind ?_ (fun _ => ?_))
      | exact spec_l1New.mono _ _
      | exact spec_l2DrawText.mono _ _ _ _
      | exact LeO.none _
      | refine LeO.ite ?_ ?_
      | refine LeO.bind ?_ (fun _ => ?_)
noncomputable def spec_DrawDecLooks.fv (l0 : List Int) : Option (ByteArray) := limOf (fun k => spec_DrawDecLooks.f k l0)
theorem spec_DrawDecLooks.f_lim (l0 : List Int) : Lim (fun k => spec_DrawDecLooks.f k l0) (spec_DrawDecLooks.fv l0) := Lim.of (fun k => spec_DrawDecLooks.mono l0 k)
set_option maxHeartbeats 4000000 in
theorem spec_DrawDecLooks.fv_eq (l0 : List Int) : spec_DrawDecLooks.fv l0 = ((spec_l1New.fv l0).bind fun bt217 => ((spec_l2DrawText.fv bt217.1 bt217.2.1 bt217.2.2).bind fun bt221 => (some bt221.1))) := by
  refine Lim.eq (spec_DrawDecLooks.f_lim l0) ?_
  simp only [spec_DrawDecLooks.f]
  repeat' first
    | (with_reducible apply spec_l1New.f_lim)
    | (with_reducible apply spec_l2DrawText.f_lim)
    | (with_reducible exact Lim.const _)
    | (with_reducible refine Lim.ite ?_ ?_)
    | (with_reducible refine Lim.bind ?_ (fun _ => ?_))
    | apply spec_l1New.f_lim
    | apply spec_l2DrawText.f_lim
    | exact Lim.const _
    | refine Lim.ite ?_ ?_
    | refine Lim.bind ?_ (fun _ => ?_)

/-! ### spec_l2Digit -/
def spec_l2Digit.f (a0 : Int) : Option (Bool) := if a0 ≥ 48 then (some (decide (a0 ≤ 57))) else (some false)

end Go.Proofs.YtejndaljfbclnaaDoor.QFnNumbers
