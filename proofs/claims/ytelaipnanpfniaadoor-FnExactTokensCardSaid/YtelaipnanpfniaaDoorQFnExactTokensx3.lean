/- Written by wip/pr2, a program of this session. -/
import Derived.Test.YtelaipnanpfniaaDoorQFnExactTokensx0
import Derived.Test.YtelaipnanpfniaaDoorQFnExactTokensx2
import Derived.Test.YtelaipnanpfniaaDoorWFnExactTokens
namespace Go.Proofs.YtelaipnanpfniaaDoor.QFnExactTokens
open Go.RowKit Go.Proofs.YtelaipnanpfniaaDoorW.PrintWords Go.Proofs.YtelaipnanpfniaaDoorW.PrintLast Go.Proofs.YtelaipnanpfniaaDoorW.PrintMore
attribute [local go_sem] max2_int min2_int max_two min_two max_three min_three max_four min_four   -- for this text's walks alone
set_option linter.unusedVariables false
set_option linter.unusedSimpArgs false
set_option maxHeartbeats 8000000

open Go.Proofs.YtelaipnanpfniaaDoorW.Lims
/-! ### impl_textAt -/
def impl_textAt.l0 : Nat → ByteArray → List Int → Int → Option (ByteArray × Int)
  | 0, _, _, _ => none
  | k + 1, x0, x6, x7 => if x7 < (x0.size : Int) then (if 0 ≤ x7 then (if (bt x0 x7) = 34 then (some (strOfNums x6, wrap64 (x7 + 1))) else (if (bt x0 x7) = 10 then (some ((⟨#[]⟩ : ByteArray), (-1))) else (if (bt x0 x7) = 92 then (if (wrap64 (x7 + 1)) = (x0.size : Int) then (some ((⟨#[]⟩ : ByteArray), (-1))) else (if 0 ≤ (wrap64 (x7 + 1)) then (if (wrap64 (x7 + 1)) < (x0.size : Int) then (if (bt x0 (wrap64 (x7 + 1))) = 10 then (some ((⟨#[]⟩ : ByteArray), (-1))) else (if x6.length < 140737488355328 then (impl_textAt.l0 k x0 (x6 ++ [bt x0 (wrap64 (x7 + 1))]) (wrap64 ((wrap64 (x7 + 1)) + 1))) else (none))) else (none)) else (none))) else (if x6.length < 140737488355328 then (impl_textAt.l0 k x0 (x6 ++ [bt x0 x7]) (wrap64 (x7 + 1))) else (none))))) else (none)) else (some ((⟨#[]⟩ : ByteArray), (-1)))
def impl_textAt.f (k : Nat) (a0 : ByteArray) (a1 : Int) : Option (ByteArray × Int) := impl_textAt.l0 k a0 (([] : List Int)) (wrap64 (a1 + 1))
theorem impl_textAt.mono_l : ∀ k, (∀ y0 y1 y2, LeO (impl_textAt.l0 k y0 y1 y2) (impl_textAt.l0 (k + 1) y0 y1 y2))
  | 0 => fun _ _ _ r h => by simp [impl_textAt.l0] at h
  | k + 1 => by
    have ih0 := impl_textAt.mono_l k
    · intro y0 y1 y2
      unfold impl_textAt.l0
      repeat' first
      | (with_reducible exact ih0 _ _ _)
      | (with_reducible exact LeO.refl _)
      | (with_reducible exact LeO.none _)
      | (with_reducible refine LeO.ite ?_ ?_)
      | (with_reducible refine LeO.bind ?_ (fun _ => ?_))
      | exact ih0 _ _ _
      | exact LeO.none _
      | refine LeO.ite ?_ ?_
      | refine LeO.bind ?_ (fun _ => ?_)
theorem impl_textAt.mono : ∀ a0 a1 k, LeO (impl_textAt.f k a0 a1) (impl_textAt.f (k + 1) a0 a1) := by
  intro a0 a1 k
  have ih0 := impl_textAt.mono_l k
  unfold impl_textAt.f
  repeat' first
      | (with_reducible exact ih0 _ _ _)
      | (with_reducible exact LeO.refl _)
      | (with_reducible exact LeO.none _)
      | (with_reducible refine LeO.ite ?_ ?_)
      | (with_reducible refine LeO.bind ?_ (fun _ => ?_))
      | exact ih0 _ _ _
      | exact LeO.none _
      | refine LeO.ite ?_ ?_
      | refine LeO.bind ?_ (fun _ => ?_)
noncomputable def impl_textAt.l0v (x0 : ByteArray) (x6 : List Int) (x7 : Int) : Option (ByteArray × Int) := limOf (fun k => impl_textAt.l0 k x0 x6 x7)
theorem impl_textAt.l0_lim (x0 : ByteArray) (x6 : List Int) (x7 : Int) : Lim (fun k => impl_textAt.l0 k x0 x6 x7) (impl_textAt.l0v x0 x6 x7) := Lim.of (fun k => impl_textAt.mono_l k x0 x6 x7)
noncomputable def impl_textAt.fv (a0 : ByteArray) (a1 : Int) : Option (ByteArray × Int) := limOf (fun k => impl_textAt.f k a0 a1)
theorem impl_textAt.f_lim (a0 : ByteArray) (a1 : Int) : Lim (fun k => impl_textAt.f k a0 a1) (impl_textAt.fv a0 a1) := Lim.of (fun k => impl_textAt.mono a0 a1 k)
set_option maxHeartbeats 4000000 in
theorem impl_textAt.l0v_eq (x0 : ByteArray) (x6 : List Int) (x7 : Int) : impl_textAt.l0v x0 x6 x7 = (if x7 < (x0.size : Int) then (if 0 ≤ x7 then (if (bt x0 x7) = 34 then (some (strOfNums x6, wrap64 (x7 + 1))) else (if (bt x0 x7) = 10 then (some ((⟨#[]⟩ : ByteArray), (-1))) else (if (bt x0 x7) = 92 then (if (wrap64 (x7 + 1)) = (x0.size : Int) then (some ((⟨#[]⟩ : ByteArray), (-1))) else (if 0 ≤ (wrap64 (x7 + 1)) then (if (wrap64 (x7 + 1)) < (x0.size : Int) then (if (bt x0 (wrap64 (x7 + 1))) = 10 then (some ((⟨#[]⟩ : ByteArray), (-1))) else (if x6.length < 140737488355328 then (impl_textAt.l0v x0 (x6 ++ [bt x0 (wrap64 (x7 + 1))]) (wrap64 ((wrap64 (x7 + 1)) + 1))) else (none))) else (none)) else (none))) else (if x6.length < 140737488355328 then (impl_textAt.l0v x0 (x6 ++ [bt x0 x7]) (wrap64 (x7 + 1))) else (none))))) else (none)) else (some ((⟨#[]⟩ : ByteArray), (-1)))) := by
  refine Lim.succ (impl_textAt.l0_lim x0 x6 x7) ?_
  simp only [impl_textAt.l0]
  repeat' first
    | (with_reducible apply impl_textAt.l0_lim)
    | (with_reducible exact Lim.const _)
    | (with_reducible refine Lim.ite ?_ ?_)
    | (with_reducible refine Lim.bind ?_ (fun _ => ?_))
    | apply impl_textAt.l0_lim
    | exact Lim.const _
    | refine Lim.ite ?_ ?_
    | refine Lim.bind ?_ (fun _ => ?_)
set_option maxHeartbeats 4000000 in
theorem impl_textAt.fv_eq (a0 : ByteArray) (a1 : Int) : impl_textAt.fv a0 a1 = (impl_textAt.l0v a0 (([] : List Int)) (wrap64 (a1 + 1))) := by
  refine Lim.eq (impl_textAt.f_lim a0 a1) ?_
  simp only [impl_textAt.f]
  repeat' first
    | (with_reducible apply impl_textAt.l0_lim)
    | (with_reducible exact Lim.const _)
    | (with_reducible refine Lim.ite ?_ ?_)
    | (with_reducible refine Lim.bind ?_ (fun _ => ?_))
    | apply impl_textAt.l0_lim
    | exact Lim.const _
    | refine Lim.ite ?_ ?_
    | refine Lim.bind ?_ (fun _ => ?_)

/-! ### impl_rexAt -/
mutual
def impl_rexAt.l0 : Nat → ByteArray → List Int → Int → Option (ByteArray × Int)
  | 0, _, _, _ => none
  | k + 1, x0, x6, x7 => if x7 < (x0.size : Int) then (if 0 ≤ x7 then (if (bt x0 x7) = 47 then (some (strOfNums x6, wrap64 (x7 + 1))) else (if (bt x0 x7) = 10 then (some ((⟨#[]⟩ : ByteArray), (-1))) else (if (bt x0 x7) = 92 then (if (wrap64 (x7 + 1)) = (x0.size : Int) then (impl_rexAt.j1 k x0 x6 (wrap64 (x7 + 1)) true) else (if 0 ≤ (wrap64 (x7 + 1)) then (if (wrap64 (x7 + 1)) < (x0.size : Int) then (impl_rexAt.j1 k x0 x6 (wrap64 (x7 + 1)) ((bt x0 (wrap64 (x7 + 1))) == 10)) else (none)) else (none))) else (if x6.length < 140737488355328 then (impl_rexAt.l0 k x0 (x6 ++ [bt x0 x7]) (wrap64 (x7 + 1))) else (none))))) else (none)) else (some ((⟨#[]⟩ : ByteArray), (-1)))
def impl_rexAt.j1 : Nat → ByteArray → List Int → Int → Bool → Option (ByteArray × Int)
  | 0, _, _, _, _ => none
  | k + 1, x0, x6, x7, x41 => if x41 = true then (some ((⟨#[]⟩ : ByteArray), (-1))) else (if 0 ≤ x7 then (if x7 < (x0.size : Int) then (if (bt x0 x7) = 47 then (if x6.length < 140737488355328 then (impl_rexAt.l0 k x0 (x6 ++ [bt x0 x7]) (wrap64 (x7 + 1))) else (none)) else (if x6.length < 140737488355328 then ((some (x6 ++ [92] : List Int)).bind fun y213 => (if y213.length < 140737488355328 then (impl_rexAt.l0 k x0 (y213 ++ [bt x0 x7]) (wrap64 (x7 + 1))) else (none))) else (none))) else (none)) else (none))
end
def impl_rexAt.f (k : Nat) (a0 : ByteArray) (a1 : Int) : Option (ByteArray × Int) := impl_rexAt.l0 k a0 (([] : List Int)) (wrap64 (a1 + 1))
theorem impl_rexAt.mono_l : ∀ k, (∀ y0 y1 y2, LeO (impl_rexAt.l0 k y0 y1 y2) (impl_rexAt.l0 (k + 1) y0 y1 y2)) ∧ (∀ y0 y1 y2 y3, LeO (impl_rexAt.j1 k y0 y1 y2 y3) (impl_rexAt.j1 (k + 1) y0 y1 y2 y3))
  | 0 => ⟨fun _ _ _ r h => by simp [impl_rexAt.l0] at h, fun _ _ _ _ r h => by simp [impl_rexAt.j1] at h⟩
  | k + 1 => by
    obtain ⟨ih0, ih1⟩ := impl_rexAt.mono_l k
    refine ⟨?_, ?_⟩
    · intro y0 y1 y2
      unfold impl_rexAt.l0
      repeat' first
      | (with_reducible exact ih0 _ _ _)
      | (with_reducible exact ih1 _ _ _ _)
      | (with_reducible exact LeO.refl _)
      | (with_reducible exact LeO.none _)
      | (with_reducible refine LeO.ite ?_ ?_)
      | (with_reducible refine LeO.bind ?_ (fun _ => ?_))
      | exact ih0 _ _ _
      | exact ih1 _ _ _ _
      | exact LeO.none _
      | refine LeO.ite ?_ ?_
      | refine LeO.bind ?_ (fun _ => ?_)
    · intro y0 y1 y2 y3
      unfold impl_rexAt.j1
      repeat' first
      | (with_reducible exact ih0 _ _ _)
      | (with_reducible exact ih1 _ _ _ _)
      | (with_reducible exact LeO.refl _)
      | (with_reducible exact LeO.none _)
      | (with_reducible refine LeO.ite ?_ ?_)
      | (with_reducible refine LeO.bind ?_ (fun _ => ?_))
      | exact ih0 _ _ _
      | exact ih1 _ _ _ _
      | exact LeO.none _
      | refine LeO.ite ?_ ?_
      | refine LeO.bind ?_ (fun _ => ?_)
theorem impl_rexAt.mono : ∀ a0 a1 k, LeO (impl_rexAt.f k a0 a1) (impl_rexAt.f (k + 1) a0 a1) := by
  intro a0 a1 k
  obtain ⟨ih0, ih1⟩ := impl_rexAt.mono_l k
  unfold impl_rexAt.f
  repeat' first
      | (with_reducible exact ih0 _ _ _)
      | (with_reducible exact ih1 _ _ _ _)
      | (with_reducible exact LeO.refl _)
      | (with_reducible exact LeO.none _)
      | (with_reducible refine LeO.ite ?_ ?_)
      | (with_reducible refine LeO.bind ?_ (fun _ => ?_))
      | exact ih0 _ _ _
      | exact ih1 _ _ _ _
      | exact LeO.none _
      | refine LeO.ite ?_ ?_
      | refine LeO.bind ?_ (fun _ => ?_)
noncomputable def impl_rexAt.l0v (x0 : ByteArray) (x6 : List Int) (x7 : Int) : Option (ByteArray × Int) := limOf (fun k => impl_rexAt.l0 k x0 x6 x7)
theorem impl_rexAt.l0_lim (x0 : ByteArray) (x6 : List Int) (x7 : Int) : Lim (fun k => impl_rexAt.l0 k x0 x6 x7) (impl_rexAt.l0v x0 x6 x7) := Lim.of (fun k => (impl_rexAt.mono_l k).1 x0 x6 x7)
noncomputable def impl_rexAt.j1v (x0 : ByteArray) (x6 : List Int) (x7 : Int) (x41 : Bool) : Option (ByteArray × Int) := limOf (fun k => impl_rexAt.j1 k x0 x6 x7 x41)
theorem impl_rexAt.j1_lim (x0 : ByteArray) (x6 : List Int) (x7 : Int) (x41 : Bool) : Lim (fun k => impl_rexAt.j1 k x0 x6 x7 x41) (impl_rexAt.j1v x0 x6 x7 x41) := Lim.of (fun k => (impl_rexAt.mono_l k).2 x0 x6 x7 x41)
noncomputable def impl_rexAt.fv (a0 : ByteArray) (a1 : Int) : Option (ByteArray × Int) := limOf (fun k => impl_rexAt.f k a0 a1)
theorem impl_rexAt.f_lim (a0 : ByteArray) (a1 : Int) : Lim (fun k => impl_rexAt.f k a0 a1) (impl_rexAt.fv a0 a1) := Lim.of (fun k => impl_rexAt.mono a0 a1 k)
set_option maxHeartbeats 4000000 in
theorem impl_rexAt.l0v_eq (x0 : ByteArray) (x6 : List Int) (x7 : Int) : impl_rexAt.l0v x0 x6 x7 = (if x7 < (x0.size : Int) then (if 0 ≤ x7 then (if (bt x0 x7) = 47 then (some (strOfNums x6, wrap64 (x7 + 1))) else (if (bt x0 x7) = 10 then (some ((⟨#[]⟩ : ByteArray), (-1))) else (if (bt x0 x7) = 92 then (if (wrap64 (x7 + 1)) = (x0.size : Int) then (impl_rexAt.j1v x0 x6 (wrap64 (x7 + 1)) true) else (if 0 ≤ (wrap64 (x7 + 1)) then (if (wrap64 (x7 + 1)) < (x0.size : Int) then (impl_rexAt.j1v x0 x6 (wrap64 (x7 + 1)) ((bt x0 (wrap64 (x7 + 1))) == 10)) else (none)) else (none))) else (if x6.length < 140737488355328 then (impl_rexAt.l0v x0 (x6 ++ [bt x0 x7]) (wrap64 (x7 + 1))) else (none))))) else (none)) else (some ((⟨#[]⟩ : ByteArray), (-1)))) := by
  refine Lim.succ (impl_rexAt.l0_lim x0 x6 x7) ?_
  simp only [impl_rexAt.l0]
  repeat' first
    | (with_reducible apply impl_rexAt.j1_lim)
    | (with_reducible apply impl_rexAt.l0_lim)
    | (with_reducible exact Lim.const _)
    | (with_reducible refine Lim.ite ?_ ?_)
    | (with_reducible refine Lim.bind ?_ (fun _ => ?_))
    | apply impl_rexAt.j1_lim
    | apply impl_rexAt.l0_lim
    | exact Lim.const _
    | refine Lim.ite ?_ ?_
    | refine Lim.bind ?_ (fun _ => ?_)
set_option maxHeartbeats 4000000 in
theorem impl_rexAt.j1v_eq (x0 : ByteArray) (x6 : List Int) (x7 : Int) (x41 : Bool) : impl_rexAt.j1v x0 x6 x7 x41 = (if x41 = true then (some ((⟨#[]⟩ : ByteArray), (-1))) else (if 0 ≤ x7 then (if x7 < (x0.size : Int) then (if (bt x0 x7) = 47 then (if x6.length < 140737488355328 then (impl_rexAt.l0v x0 (x6 ++ [bt x0 x7]) (wrap64 (x7 + 1))) else (none)) else (if x6.length < 140737488355328 then ((some (x6 ++ [92] : List Int)).bind fun y213 => (if y213.length < 140737488355328 then (impl_rexAt.l0v x0 (y213 ++ [bt x0 x7]) (wrap64 (x7 + 1))) else (none))) else (none))) else (none)) else (none))) := by
  refine Lim.succ (impl_rexAt.j1_lim x0 x6 x7 x41) ?_
  simp only [impl_rexAt.j1]
  repeat' first
    | (with_reducible apply impl_rexAt.l0_lim)
    | (with_reducible exact Lim.const _)
    | (with_reducible refine Lim.ite ?_ ?_)
    | (with_reducible refine Lim.bind ?_ (fun _ => ?_))
    | apply impl_rexAt.l0_lim
    | exact Lim.const _
    | refine Lim.ite ?_ ?_
    | refine Lim.bind ?_ (fun _ => ?_)
set_option maxHeartbeats 4000000 in
theorem impl_rexAt.fv_eq (a0 : ByteArray) (a1 : Int) : impl_rexAt.fv a0 a1 = (impl_rexAt.l0v a0 (([] : List Int)) (wrap64 (a1 + 1))) := by
  refine Lim.eq (impl_rexAt.f_lim a0 a1) ?_
  simp only [impl_rexAt.f]
  repeat' first
    | (with_reducible apply impl_rexAt.l0_lim)
    | (with_reducible exact Lim.const _)
    | (with_reducible refine Lim.ite ?_ ?_)
    | (with_reducible refine Lim.bind ?_ (fun _ => ?_))
    | apply impl_rexAt.l0_lim
    | exact Lim.const _
    | refine Lim.ite ?_ ?_
    | refine Lim.bind ?_ (fun _ => ?_)

/-! ### impl_signsOf -/
def impl_signsOf.f  : Option (List ByteArray) := some (([(⟨#[61, 61]⟩ : ByteArray), (⟨#[33, 61]⟩ : ByteArray), (⟨#[60, 61]⟩ : ByteArray), (⟨#[62, 61]⟩ : ByteArray), (⟨#[38, 38]⟩ : ByteArray), (⟨#[124, 124]⟩ : ByteArray), (⟨#[43, 61]⟩ : ByteArray), (⟨#[33, 126]⟩ : ByteArray), (⟨#[40]⟩ : ByteArray), (⟨#[41]⟩ : ByteArray), (⟨#[123]⟩ : ByteArray), (⟨#[125]⟩ : ByteArray), (⟨#[91]⟩ : ByteArray), (⟨#[93]⟩ : ByteArray), (⟨#[44]⟩ : ByteArray), (⟨#[59]⟩ : ByteArray), (⟨#[61]⟩ : ByteArray), (⟨#[60]⟩ : ByteArray), (⟨#[62]⟩ : ByteArray), (⟨#[33]⟩ : ByteArray), (⟨#[126]⟩ : ByteArray), (⟨#[43]⟩ : ByteArray), (⟨#[45]⟩ : ByteArray), (⟨#[42]⟩ : ByteArray), (⟨#[47]⟩ : ByteArray), (⟨#[37]⟩ : ByteArray), (⟨#[36]⟩ : ByteArray)] : List ByteArray))

/-! ### strings_HasPrefix -/
def strings_HasPrefix.f (a0 : ByteArray) (a1 : ByteArray) : Option (Bool) := some (Lib.hasPrefix a0.data.toList a1.data.toList)

/-! ### impl_tokenAt -/
mutual
def impl_tokenAt.j0 : Nat → ByteArray → Int → Bool → Int → Int → Bool → Int → ByteArray → Int → Int → Option (Int × ByteArray × Int × Int × Int)
  | 0, _, _, _, _, _, _, _, _, _, _ => none
  | k + 1, x0, x1, x2, x9, x10, x57, x227000, x227001, x227002, x227003 => if x57 = true then ((impl_numAt.f k x0 x1).bind fun bt229 => (some (2, x227001, bt229.1, x227003, bt229.2))) else (if x10 = 34 then ((impl_textAt.f k x0 x1).bind fun bt231 => (some (3, bt231.1, x227002, x227003, bt231.2))) else (if x10 = 47 then (impl_tokenAt.j1 k x0 x1 x9 (!x2) x227000 x227001 x227002 x227003) else (impl_tokenAt.j1 k x0 x1 x9 false x227000 x227001 x227002 x227003)))
def impl_tokenAt.j1 : Nat → ByteArray → Int → Int → Bool → Int → ByteArray → Int → Int → Option (Int × ByteArray × Int × Int × Int)
  | 0, _, _, _, _, _, _, _, _ => none
  | k + 1, x0, x1, x9, x83, x227000, x227001, x227002, x227003 => if x83 = true then ((impl_rexAt.f k x0 x1).bind fun bt233 => (some (4, bt233.1, x227002, x227003, bt233.2))) else ((impl_signsOf.f).bind fun t235 => (impl_tokenAt.l0 k x0 x1 x9 t235 (t235.length : Int) 0 x227000 x227001 x227002 x227003))
def impl_tokenAt.l0 : Nat → ByteArray → Int → Int → List ByteArray → Int → Int → Int → ByteArray → Int → Int → Option (Int × ByteArray × Int × Int × Int)
  | 0, _, _, _, _, _, _, _, _, _, _ => none
  | k + 1, x0, x1, x9, x19, x20, x21, x227000, x227001, x227002, x227003 => if x21 < x20 then (if 0 ≤ x21 then (if x21 < (x19.length : Int) then (if 0 ≤ x1 then (if x1 ≤ (x0.size : Int) then ((strings_HasPrefix.f (x0.extract (x1 : Int).toNat x0.size) (rdOf ByteArray.empty x19 x21)).bind fun t239 => (if t239 = true then (some (5, rdOf ByteArray.empty x19 x21, 0, x1, wrap64 (x1 + ((rdOf ByteArray.empty x19 x21).size : Int)))) else (impl_tokenAt.l0 k x0 x1 x9 x19 x20 (wrap64 (x21 + 1)) x227000 x227001 x227002 x227003))) else (none)) else (none)) else (none)) else (none)) else (some (x227000, x227001, x227002, x227003, x9))
end
def impl_tokenAt.f (k : Nat) (a0 : ByteArray) (a1 : Int) (a2 : Bool) : Option (Int × ByteArray × Int × Int × Int) := if 0 ≤ a1 then (if a1 < (a0.size : Int) then ((impl_isLetter.f (bt a0 a1)).bind fun t227 => (if t227 = true then ((impl_lettersAt.f k a0 a1).bind fun t228 => (if t228 ≤ 8 then (if a1 ≤ (wrap64 (a1 + t228)) then (if (wrap64 (a1 + t228)) ≤ (a0.size : Int) then (some (1, a0.extract (a1 : Int).toNat ((wrap64 (a1 + t228)) : Int).toNat, 0, a1, wrap64 (a1 + t228))) else (none)) else (none)) else (some (0, (⟨#[]⟩ : ByteArray), 0, a1, (-1))))) else (if (bt a0 a1) ≥ 48 then (impl_tokenAt.j0 k a0 a1 a2 (-1) (bt a0 a1) (decide ((bt a0 a1) ≤ 57)) 0 (⟨#[]⟩ : ByteArray) 0 a1) else (impl_tokenAt.j0 k a0 a1 a2 (-1) (bt a0 a1) false 0 (⟨#[]⟩ : ByteArray) 0 a1)))) else (none)) else (none)
theorem impl_tokenAt.mono_l : ∀ k, (∀ y0 y1 y2 y3 y4 y5 y6 y7 y8 y9, LeO (impl_tokenAt.j0 k y0 y1 y2 y3 y4 y5 y6 y7 y8 y9) (impl_tokenAt.j0 (k + 1) y0 y1 y2 y3 y4 y5 y6 y7 y8 y9)) ∧ (∀ y0 y1 y2 y3 y4 y5 y6 y7, LeO (impl_tokenAt.j1 k y0 y1 y2 y3 y4 y5 y6 y7) (impl_tokenAt.j1 (k + 1) y0 y1 y2 y3 y4 y5 y6 y7)) ∧ (∀ y0 y1 y2 y3 y4 y5 y6 y7 y8 y9, LeO (impl_tokenAt.l0 k y0 y1 y2 y3 y4 y5 y6 y7 y8 y9) (impl_tokenAt.l0 (k + 1) y0 y1 y2 y3 y4 y5 y6 y7 y8 y9))
  | 0 => ⟨fun _ _ _ _ _ _ _ _ _ _ r h => by simp [impl_tokenAt.j0] at h, fun _ _ _ _ _ _ _ _ r h => by simp [impl_tokenAt.j1] at h, fun _ _ _ _ _ _ _ _ _ _ r h => by simp [impl_tokenAt.l0] at h⟩
  | k + 1 => by
    obtain ⟨ih0, ih1, ih2⟩ := impl_tokenAt.mono_l k
    refine ⟨?_, ?_, ?_⟩
    · intro y0 y1 y2 y3 y4 y5 y6 y7 y8 y9
      unfold impl_tokenAt.j0
      repeat' first
      | (with_reducible exact ih0 _ _ _ _ _ _ _ _ _ _)
      | (with_reducible exact ih1 _ _ _ _ _ _ _ _)
      | (with_reducible exact ih2 _ _ _ _ _ _ _ _ _ _)
      | (with_reducible exact impl_lettersAt.mono _ _ _)
      | (with_reducible exact impl_numAt.mono _ _ _)
      | (with_reducible exact impl_rexAt.mono _ _ _)
      | (with_reducible exact impl_textAt.mono _ _ _)
      | (with_reducible exact LeO.refl _)
      | (with_reducible exact LeO.none _)
      | (with_reducible refine LeO.ite ?_ ?_)
      | (with_reducible refine LeO.bind ?_ (fun _ => ?_))
      | exact ih0 _ _ _ _ _ _ _ _ _ _
      | exact ih1 _ _ _ _ _ _ _ _
      | exact ih2 _ _ _ _ _ _ _ _ _ _
      | exact impl_lettersAt.mono _ _ _
      | exact impl_numAt.mono _ _ _
      | exact impl_rexAt.mono _ _ _
      | exact impl_textAt.mono _ _ _
      | exact LeO.none _
      | refine LeO.ite ?_ ?_
      | refine LeO.bind ?_ (fun _ => ?_)
    · intro y0 y1 y2 y3 y4 y5 y6 y7
      unfold impl_tokenAt.j1
      repeat' first
      | (with_reducible exact ih0 _ _ _ _ _ _ _ _ _ _)
      | (with_reducible exact ih1 _ _ _ _ _ _ _ _)
      | (with_reducible exact ih2 _ _ _ _ _ _ _ _ _ _)
      | (with_reducible exact impl_lettersAt.mono _ _ _)
      | (with_reducible exact impl_numAt.mono _ _ _)
      | (with_reducible exact impl_rexAt.mono _ _ _)
      | (with_reducible exact impl_textAt.mono _ _ _)
      | (with_reducible exact LeO.refl _)
      | (with_reducible exact LeO.none _)
      | (with_reducible refine LeO.ite ?_ ?_)
      | (with_reducible refine LeO.bind ?_ (fun _ => ?_))
      | exact ih0 _ _ _ _ _ _ _ _ _ _
      | exact ih1 _ _ _ _ _ _ _ _
      | exact ih2 _ _ _ _ _ _ _ _ _ _
      | exact impl_lettersAt.mono _ _ _
      | exact impl_numAt.mono _ _ _
      | exact impl_rexAt.mono _ _ _
      | exact impl_textAt.mono _ _ _
      | exact LeO.none _
      | refine LeO.ite ?_ ?_
      | refine LeO.bind ?_ (fun _ => ?_)
    · intro y0 y1 y2 y3 y4 y5 y6 y7 y8 y9
      unfold impl_tokenAt.l0
      repeat' first
      | (with_reducible exact ih0 _ _ _ _ _ _ _ _ _ _)
      | (with_reducible exact ih1 _ _ _ _ _ _ _ _)
      | (with_reducible exact ih2 _ _ _ _ _ _ _ _ _ _)
      | (with_reducible exact impl_lettersAt.mono _ _ _)
      | (with_reducible exact impl_numAt.mono _ _ _)
      | (with_reducible exact impl_rexAt.mono _ _ _)
      | (with_reducible exact impl_textAt.mono _ _ _)
      | (with_reducible exact LeO.refl _)
      | (with_reducible exact LeO.none _)
      | (with_reducible refine LeO.ite ?_ ?_)
      | (with_reducible refine LeO.bind ?_ (fun _ => ?_))
      | exact ih0 _ _ _ _ _ _ _ _ _ _
      | exact ih1 _ _ _ _ _ _ _ _
      | exact ih2 _ _ _ _ _ _ _ _ _ _
      | exact impl_lettersAt.mono _ _ _
      | exact impl_numAt.mono _ _ _
      | exact impl_rexAt.mono _ _ _
      | exact impl_textAt.mono _ _ _
      | exact LeO.none _
      | refine LeO.ite ?_ ?_
      | refine LeO.bind ?_ (fun _ => ?_)
theorem impl_tokenAt.mono : ∀ a0 a1 a2 k, LeO (impl_tokenAt.f k a0 a1 a2) (impl_tokenAt.f (k + 1) a0 a1 a2) := by
  intro a0 a1 a2 k
  obtain ⟨ih0, ih1, ih2⟩ := impl_tokenAt.mono_l k
  unfold impl_tokenAt.f
  repeat' first
      | (with_reducible exact ih0 _ _ _ _ _ _ _ _ _ _)
      | (with_reducible exact ih1 _ _ _ _ _ _ _ _)
      | (with_reducible exact ih2 _ _ _ _ _ _ _ _ _ _)
      | (with_reducible exact impl_lettersAt.mono _ _ _)
      | (with_reducible exact impl_numAt.mono _ _ _)
      | (with_reducible exact impl_rexAt.mono _ _ _)
      | (with_reducible exact impl_textAt.mono _ _ _)
      | (with_reducible exact LeO.refl _)
      | (with_reducible exact LeO.none _)
      | (with_reducible refine LeO.ite ?_ ?_)
      | (with_reducible refine LeO.bind ?_ (fun _ => ?_))
      | exact ih0 _ _ _ _ _ _ _ _ _ _
      | exact ih1 _ _ _ _ _ _ _ _
      | exact ih2 _ _ _ _ _ _ _ _ _ _
      | exact impl_lettersAt.mono _ _ _
      | exact impl_numAt.mono _ _ _
      | exact impl_rexAt.mono _ _ _
      | exact impl_textAt.mono _ _ _
      | exact LeO.none _
      | refine LeO.ite ?_ ?_
      | refine LeO.bind ?_ (fun _ => ?_)
noncomputable def impl_tokenAt.j0v (x0 : ByteArray) (x1 : Int) (x2 : Bool) (x9 : Int) (x10 : Int) (x57 : Bool) (x227000 : Int) (x227001 : ByteArray) (x227002 : Int) (x227003 : Int) : Option (Int × ByteArray × Int × Int × Int) := limOf (fun k => impl_tokenAt.j0 k x0 x1 x2 x9 x10 x57 x227000 x227001 x227002 x227003)
theorem impl_tokenAt.j0_lim (x0 : ByteArray) (x1 : Int) (x2 : Bool) (x9 : Int) (x10 : Int) (x57 : Bool) (x227000 : Int) (x227001 : ByteArray) (x227002 : Int) (x227003 : Int) : Lim (fun k => impl_tokenAt.j0 k x0 x1 x2 x9 x10 x57 x227000 x227001 x227002 x227003) (impl_tokenAt.j0v x0 x1 x2 x9 x10 x57 x227000 x227001 x227002 x227003) := Lim.of (fun k => (impl_tokenAt.mono_l k).1 x0 x1 x2 x9 x10 x57 x227000 x227001 x227002 x227003)
noncomputable def impl_tokenAt.j1v (x0 : ByteArray) (x1 : Int) (x9 : Int) (x83 : Bool) (x227000 : Int) (x227001 : ByteArray) (x227002 : Int) (x227003 : Int) : Option (Int × ByteArray × Int × Int × Int) := limOf (fun k => impl_tokenAt.j1 k x0 x1 x9 x83 x227000 x227001 x227002 x227003)
theorem impl_tokenAt.j1_lim (x0 : ByteArray) (x1 : Int) (x9 : Int) (x83 : Bool) (x227000 : Int) (x227001 : ByteArray) (x227002 : Int) (x227003 : Int) : Lim (fun k => impl_tokenAt.j1 k x0 x1 x9 x83 x227000 x227001 x227002 x227003) (impl_tokenAt.j1v x0 x1 x9 x83 x227000 x227001 x227002 x227003) := Lim.of (fun k => (impl_tokenAt.mono_l k).2.1 x0 x1 x9 x83 x227000 x227001 x227002 x227003)
noncomputable def impl_tokenAt.l0v (x0 : ByteArray) (x1 : Int) (x9 : Int) (x19 : List ByteArray) (x20 : Int) (x21 : Int) (x227000 : Int) (x227001 : ByteArray) (x227002 : Int) (x227003 : Int) : Option (Int × ByteArray × Int × Int × Int) := limOf (fun k => impl_tokenAt.l0 k x0 x1 x9 x19 x20 x21 x227000 x227001 x227002 x227003)
theorem impl_tokenAt.l0_lim (x0 : ByteArray) (x1 : Int) (x9 : Int) (x19 : List ByteArray) (x20 : Int) (x21 : Int) (x227000 : Int) (x227001 : ByteArray) (x227002 : Int) (x227003 : Int) : Lim (fun k => impl_tokenAt.l0 k x0 x1 x9 x19 x20 x21 x227000 x227001 x227002 x227003) (impl_tokenAt.l0v x0 x1 x9 x19 x20 x21 x227000 x227001 x227002 x227003) := Lim.of (fun k => (impl_tokenAt.mono_l k).2.2 x0 x1 x9 x19 x20 x21 x227000 x227001 x227002 x227003)
noncomputable def impl_tokenAt.fv (a0 : ByteArray) (a1 : Int) (a2 : Bool) : Option (Int × ByteArray × Int × Int × Int) := limOf (fun k => impl_tokenAt.f k a0 a1 a2)
theorem impl_tokenAt.f_lim (a0 : ByteArray) (a1 : Int) (a2 : Bool) : Lim (fun k => impl_tokenAt.f k a0 a1 a2) (impl_tokenAt.fv a0 a1 a2) := Lim.of (fun k => impl_tokenAt.mono a0 a1 a2 k)
set_option maxHeartbeats 4000000 in
theorem impl_tokenAt.j0v_eq (x0 : ByteArray) (x1 : Int) (x2 : Bool) (x9 : Int) (x10 : Int) (x57 : Bool) (x227000 : Int) (x227001 : ByteArray) (x227002 : Int) (x227003 : Int) : impl_tokenAt.j0v x0 x1 x2 x9 x10 x57 x227000 x227001 x227002 x227003 = (if x57 = true then ((impl_numAt.fv x0 x1).bind fun bt229 => (some (2, x227001, bt229.1, x227003, bt229.2))) else (if x10 = 34 then ((impl_textAt.fv x0 x1).bind fun bt231 => (some (3, bt231.1, x227002, x227003, bt231.2))) else (if x10 = 47 then (impl_tokenAt.j1v x0 x1 x9 (!x2) x227000 x227001 x227002 x227003) else (impl_tokenAt.j1v x0 x1 x9 false x227000 x227001 x227002 x227003)))) := by
  refine Lim.succ (impl_tokenAt.j0_lim x0 x1 x2 x9 x10 x57 x227000 x227001 x227002 x227003) ?_
  simp only [impl_tokenAt.j0]
  repeat' first
    | (with_reducible apply impl_numAt.f_lim)
    | (with_reducible apply impl_textAt.f_lim)
    | (with_reducible apply impl_tokenAt.j1_lim)
    | (with_reducible exact Lim.const _)
    | (with_reducible refine Lim.ite ?_ ?_)
    | (with_reducible refine Lim.bind ?_ (fun _ => ?_))
    | apply impl_numAt.f_lim
    | apply impl_textAt.f_lim
    | apply impl_tokenAt.j1_lim
    | exact Lim.const _
    | refine Lim.ite ?_ ?_
    | refine Lim.bind ?_ (fun _ => ?_)
set_option maxHeartbeats 4000000 in
theorem impl_tokenAt.j1v_eq (x0 : ByteArray) (x1 : Int) (x9 : Int) (x83 : Bool) (x227000 : Int) (x227001 : ByteArray) (x227002 : Int) (x227003 : Int) : impl_tokenAt.j1v x0 x1 x9 x83 x227000 x227001 x227002 x227003 = (if x83 = true then ((impl_rexAt.fv x0 x1).bind fun bt233 => (some (4, bt233.1, x227002, x227003, bt233.2))) else ((impl_signsOf.f).bind fun t235 => (impl_tokenAt.l0v x0 x1 x9 t235 (t235.length : Int) 0 x227000 x227001 x227002 x227003))) := by
  refine Lim.succ (impl_tokenAt.j1_lim x0 x1 x9 x83 x227000 x227001 x227002 x227003) ?_
  simp only [impl_tokenAt.j1]
  repeat' first
    | (with_reducible apply impl_rexAt.f_lim)
    | (with_reducible apply impl_tokenAt.l0_lim)
    | (with_reducible exact Lim.const _)
    | (with_reducible refine Lim.ite ?_ ?_)
    | (with_reducible refine Lim.bind ?_ (fun _ => ?_))
    | apply impl_rexAt.f_lim
    | apply impl_tokenAt.l0_lim
    | exact Lim.const _
    | refine Lim.ite ?_ ?_
    | refine Lim.bind ?_ (fun _ => ?_)
set_option maxHeartbeats 4000000 in
theorem impl_tokenAt.l0v_eq (x0 : ByteArray) (x1 : Int) (x9 : Int) (x19 : List ByteArray) (x20 : Int) (x21 : Int) (x227000 : Int) (x227001 : ByteArray) (x227002 : Int) (x227003 : Int) : impl_tokenAt.l0v x0 x1 x9 x19 x20 x21 x227000 x227001 x227002 x227003 = (if x21 < x20 then (if 0 ≤ x21 then (if x21 < (x19.length : Int) then (if 0 ≤ x1 then (if x1 ≤ (x0.size : Int) then ((strings_HasPrefix.f (x0.extract (x1 : Int).toNat x0.size) (rdOf ByteArray.empty x19 x21)).bind fun t239 => (if t239 = true then (some (5, rdOf ByteArray.empty x19 x21, 0, x1, wrap64 (x1 + ((rdOf ByteArray.empty x19 x21).size : Int)))) else (impl_tokenAt.l0v x0 x1 x9 x19 x20 (wrap64 (x21 + 1)) x227000 x227001 x227002 x227003))) else (none)) else (none)) else (none)) else (none)) else (some (x227000, x227001, x227002, x227003, x9))) := by
  refine Lim.succ (impl_tokenAt.l0_lim x0 x1 x9 x19 x20 x21 x227000 x227001 x227002 x227003) ?_
  simp only [impl_tokenAt.l0]
  repeat' first
    | (with_reducible apply impl_tokenAt.l0_lim)
    | (with_reducible exact Lim.const _)
    | (with_reducible refine Lim.ite ?_ ?_)
    | (with_reducible refine Lim.bind ?_ (fun _ => ?_))
    | apply impl_tokenAt.l0_lim
    | exact Lim.const _
    | refine Lim.ite ?_ ?_
    | refine Lim.bind ?_ (fun _ => ?_)
set_option maxHeartbeats 4000000 in
theorem impl_tokenAt.fv_eq (a0 : ByteArray) (a1 : Int) (a2 : Bool) : impl_tokenAt.fv a0 a1 a2 = (if 0 ≤ a1 then (if a1 < (a0.size : Int) then ((impl_isLetter.f (bt a0 a1)).bind fun t227 => (if t227 = true then ((impl_lettersAt.fv a0 a1).bind fun t228 => (if t228 ≤ 8 then (if a1 ≤ (wrap64 (a1 + t228)) then (if (wrap64 (a1 + t228)) ≤ (a0.size : Int) then (some (1, a0.extract (a1 : Int).toNat ((wrap64 (a1 + t228)) : Int).toNat, 0, a1, wrap64 (a1 + t228))) else (none)) else (none)) else (some (0, (⟨#[]⟩ : ByteArray), 0, a1, (-1))))) else (if (bt a0 a1) ≥ 48 then (impl_tokenAt.j0v a0 a1 a2 (-1) (bt a0 a1) (decide ((bt a0 a1) ≤ 57)) 0 (⟨#[]⟩ : ByteArray) 0 a1) else (impl_tokenAt.j0v a0 a1 a2 (-1) (bt a0 a1) false 0 (⟨#[]⟩ : ByteArray) 0 a1)))) else (none)) else (none)) := by
  refine Lim.eq (impl_tokenAt.f_lim a0 a1 a2) ?_
  simp only [impl_tokenAt.f]
  repeat' first
    | (with_reducible apply impl_lettersAt.f_lim)
    | (with_reducible apply impl_tokenAt.j0_lim)
    | (with_reducible exact Lim.const _)
    | (with_reducible refine Lim.ite ?_ ?_)
    | (with_reducible refine Lim.bind ?_ (fun _ => ?_))
    | apply impl_lettersAt.f_lim
    | apply impl_tokenAt.j0_lim
    | exact Lim.const _
    | refine Lim.ite ?_ ?_
    | refine Lim.bind ?_ (fun _ => ?_)

/-! ### impl_isValue -/
def impl_isValue.f (a0_0 : Int) (a0_1 : ByteArray) (a0_2 : Int) (a0_3 : Int) : Option (Bool) := if a0_0 = 1 then (some true) else (if a0_0 = 2 then (some true) else (if a0_0 = 3 then (some true) else (if a0_0 = 4 then (some true) else (if a0_0 = 5 then (if a0_1.toList = ([41] : List UInt8) then (some true) else (some (a0_1.toList == ([93] : List UInt8)))) else (some false)))))

/-! ### impl_Tokens -/
def impl_Tokens.l0 : Nat → ByteArray → List (S32) → Int → Option ((List (S32)) × Int)
  | 0, _, _, _ => none
  | k + 1, x0, x4, x5 => if x5 < (x0.size : Int) then (if (x4.length : Int) > 0 then (if 0 ≤ (wrap64 ((x4.length : Int) - 1)) then (if (wrap64 ((x4.length : Int) - 1)) < (x4.length : Int) then ((impl_isValue.f ((rd_T32 x4 (wrap64 ((x4.length : Int) - 1))).f0) ((rd_T32 x4 (wrap64 ((x4.length : Int) - 1))).f1) ((rd_T32 x4 (wrap64 ((x4.length : Int) - 1))).f2) ((rd_T32 x4 (wrap64 ((x4.length : Int) - 1))).f3)).bind fun t249 => ((impl_tokenAt.f k x0 x5 t249).bind fun bt250 => (if bt250.2.2.2.2 < 0 then (some (([] : List (S32)), x5)) else (if x4.length < 3518437208883 then ((impl_skip.f k x0 bt250.2.2.2.2).bind fun t259 => (impl_Tokens.l0 k x0 (x4 ++ [(⟨bt250.1, bt250.2.1, bt250.2.2.1, bt250.2.2.2.1⟩ : S32)]) t259)) else (none))))) else (none)) else (none)) else ((impl_tokenAt.f k x0 x5 false).bind fun bt260 => (if bt260.2.2.2.2 < 0 then (some (([] : List (S32)), x5)) else (if x4.length < 3518437208883 then ((impl_skip.f k x0 bt260.2.2.2.2).bind fun t269 => (impl_Tokens.l0 k x0 (x4 ++ [(⟨bt260.1, bt260.2.1, bt260.2.2.1, bt260.2.2.2.1⟩ : S32)]) t269)) else (none))))) else (if x4.length < 3518437208883 then (some ((x4 ++ [(⟨0, (⟨#[]⟩ : ByteArray), 0, (x0.size : Int)⟩ : S32)]), (-1))) else (none))
def impl_Tokens.f (k : Nat) (a0 : ByteArray) : Option ((List (S32)) × Int) := if (a0.size : Int) > 2000 then (some (([] : List (S32)), 0)) else ((impl_skip.f k a0 0).bind fun t244 => (impl_Tokens.l0 k a0 (([] : List (S32))) t244))
theorem impl_Tokens.mono_l : ∀ k, (∀ y0 y1 y2, LeO (impl_Tokens.l0 k y0 y1 y2) (impl_Tokens.l0 (k + 1) y0 y1 y2))
  | 0 => fun _ _ _ r h => by simp [impl_Tokens.l0] at h
  | k + 1 => by
    have ih0 := impl_Tokens.mono_l k
    · intro y0 y1 y2
      unfold impl_Tokens.l0
      repeat' first
      | (with_reducible exact ih0 _ _ _)
      | (with_reducible exact impl_skip.mono _ _ _)
      | (with_reducible exact impl_tokenAt.mono _ _ _ _)
      | (with_reducible exact LeO.refl _)
      | (with_reducible exact LeO.none _)
      | (with_reducible refine LeO.ite ?_ ?_)
      | (with_reducible refine LeO.bind ?_ (fun _ => ?_))
      | exact ih0 _ _ _
      | exact impl_skip.mono _ _ _
      | exact impl_tokenAt.mono _ _ _ _
      | exact LeO.none _
      | refine LeO.ite ?_ ?_
      | refine LeO.bind ?_ (fun _ => ?_)
theorem impl_Tokens.mono : ∀ a0 k, LeO (impl_Tokens.f k a0) (impl_Tokens.f (k + 1) a0) := by
  intro a0 k
  have ih0 := impl_Tokens.mono_l k
  unfold impl_Tokens.f
  repeat' first
      | (with_reducible exact ih0 _ _ _)
      | (with_reducible exact impl_skip.mono _ _ _)
      | (with_reducible exact impl_tokenAt.mono _ _ _ _)
      | (with_reducible exact LeO.refl _)
      | (with_reducible exact LeO.none _)
      | (with_reducible refine LeO.ite ?_ ?_)
      | (with_reducible refine LeO.bind ?_ (fun _ => ?_))
      | exact ih0 _ _ _
      | exact impl_skip.mono _ _ _
      | exact impl_tokenAt.mono _ _ _ _
      | exact LeO.none _
      | refine LeO.ite ?_ ?_
      | refine LeO.bind ?_ (fun _ => ?_)
noncomputable def impl_Tokens.l0v (x0 : ByteArray) (x4 : List (S32)) (x5 : Int) : Option ((List (S32)) × Int) := limOf (fun k => impl_Tokens.l0 k x0 x4 x5)
theorem impl_Tokens.l0_lim (x0 : ByteArray) (x4 : List (S32)) (x5 : Int) : Lim (fun k => impl_Tokens.l0 k x0 x4 x5) (impl_Tokens.l0v x0 x4 x5) := Lim.of (fun k => impl_Tokens.mono_l k x0 x4 x5)
noncomputable def impl_Tokens.fv (a0 : ByteArray) : Option ((List (S32)) × Int) := limOf (fun k => impl_Tokens.f k a0)
theorem impl_Tokens.f_lim (a0 : ByteArray) : Lim (fun k => impl_Tokens.f k a0) (impl_Tokens.fv a0) := Lim.of (fun k => impl_Tokens.mono a0 k)
set_option maxHeartbeats 4000000 in
theorem impl_Tokens.l0v_eq (x0 : ByteArray) (x4 : List (S32)) (x5 : Int) : impl_Tokens.l0v x0 x4 x5 = (if x5 < (x0.size : Int) then (if (x4.length : Int) > 0 then (if 0 ≤ (wrap64 ((x4.length : Int) - 1)) then (if (wrap64 ((x4.length : Int) - 1)) < (x4.length : Int) then ((impl_isValue.f ((rd_T32 x4 (wrap64 ((x4.length : Int) - 1))).f0) ((rd_T32 x4 (wrap64 ((x4.length : Int) - 1))).f1) ((rd_T32 x4 (wrap64 ((x4.length : Int) - 1))).f2) ((rd_T32 x4 (wrap64 ((x4.length : Int) - 1))).f3)).bind fun t249 => ((impl_tokenAt.fv x0 x5 t249).bind fun bt250 => (if bt250.2.2.2.2 < 0 then (some (([] : List (S32)), x5)) else (if x4.length < 3518437208883 then ((impl_skip.fv x0 bt250.2.2.2.2).bind fun t259 => (impl_Tokens.l0v x0 (x4 ++ [(⟨bt250.1, bt250.2.1, bt250.2.2.1, bt250.2.2.2.1⟩ : S32)]) t259)) else (none))))) else (none)) else (none)) else ((impl_tokenAt.fv x0 x5 false).bind fun bt260 => (if bt260.2.2.2.2 < 0 then (some (([] : List (S32)), x5)) else (if x4.length < 3518437208883 then ((impl_skip.fv x0 bt260.2.2.2.2).bind fun t269 => (impl_Tokens.l0v x0 (x4 ++ [(⟨bt260.1, bt260.2.1, bt260.2.2.1, bt260.2.2.2.1⟩ : S32)]) t269)) else (none))))) else (if x4.length < 3518437208883 then (some ((x4 ++ [(⟨0, (⟨#[]⟩ : ByteArray), 0, (x0.size : Int)⟩ : S32)]), (-1))) else (none))) := by
  refine Lim.succ (impl_Tokens.l0_lim x0 x4 x5) ?_
  simp only [impl_Tokens.l0]
  repeat' first
    | (with_reducible apply impl_Tokens.l0_lim)
    | (with_reducible apply impl_skip.f_lim)
    | (with_reducible apply impl_tokenAt.f_lim)
    | (with_reducible exact Lim.const _)
    | (with_reducible refine Lim.ite ?_ ?_)
    | (with_reducible refine Lim.bind ?_ (fun _ => ?_))
    | apply impl_Tokens.l0_lim
    | apply impl_skip.f_lim
    | apply impl_tokenAt.f_lim
    | exact Lim.const _
    | refine Lim.ite ?_ ?_
    | refine Lim.bind ?_ (fun _ => ?_)
set_option maxHeartbeats 4000000 in
theorem impl_Tokens.fv_eq (a0 : ByteArray) : impl_Tokens.fv a0 = (if (a0.size : Int) > 2000 then (some (([] : List (S32)), 0)) else ((impl_skip.fv a0 0).bind fun t244 => (impl_Tokens.l0v a0 (([] : List (S32))) t244))) := by
  refine Lim.eq (impl_Tokens.f_lim a0) ?_
  simp only [impl_Tokens.f]
  repeat' first
    | (with_reducible apply impl_Tokens.l0_lim)
    | (with_reducible apply impl_skip.f_lim)
    | (with_reducible exact Lim.const _)
    | (with_reducible refine Lim.ite ?_ ?_)
    | (with_reducible refine Lim.bind ?_ (fun _ => ?_))
    | apply impl_Tokens.l0_lim
    | apply impl_skip.f_lim
    | exact Lim.const _
    | refine Lim.ite ?_ ?_
    | refine Lim.bind ?_ (fun _ => ?_)

/-! ### laws_eqToken -/
def laws_eqToken.f (a0_0 : Int) (a0_1 : ByteArray) (a0_2 : Int) (a0_3 : Int) (a1_0 : Int) (a1_1 : ByteArray) (a1_2 : Int) (a1_3 : Int) : Option (Bool) := if a0_0 = a1_0 then (if a0_1.toList = a1_1.toList then (if a0_2 = a1_2 then (if a0_3 = a1_3 then (some true) else (some false)) else (some false)) else (some false)) else (some false)

/-! ### laws_eqTokenS -/
def laws_eqTokenS.l0 : Nat → List (S32) → List (S32) → Int → Option (Bool)
  | 0, _, _, _ => none
  | k + 1, x0, x1, x5 => if x5 < (x0.length : Int) then (if 0 ≤ x5 then (if x5 < (x1.length : Int) then ((laws_eqToken.f ((rd_T32 x0 x5).f0) ((rd_T32 x0 x5).f1) ((rd_T32 x0 x5).f2) ((rd_T32 x0 x5).f3) ((rd_T32 x1 x5).f0) ((rd_T32 x1 x5).f1) ((rd_T32 x1 x5).f2) ((rd_T32 x1 x5).f3)).bind fun t274 => (if t274 = true then (laws_eqTokenS.l0 k x0 x1 (wrap64 (x5 + 1))) else (some false))) else (none)) else (none)) else (some true)
def laws_eqTokenS.f (k : Nat) (l0 : List (S32)) (l1 : List (S32)) : Option (Bool) := if (l0.length : Int) = (l1.length : Int) then (laws_eqTokenS.l0 k l0 l1 0) else (some false)
theorem laws_eqTokenS.mono_l : ∀ k, (∀ y0 y1 y2, LeO (laws_eqTokenS.l0 k y0 y1 y2) (laws_eqTokenS.l0 (k + 1) y0 y1 y2))
  | 0 => fun _ _ _ r h => by simp [laws_eqTokenS.l0] at h
  | k + 1 => by
    have ih0 := laws_eqTokenS.mono_l k
    · intro y0 y1 y2
      unfold laws_eqTokenS.l0
      repeat' first
      | (with_reducible exact ih0 _ _ _)
      | (with_reducible exact LeO.refl _)
      | (with_reducible exact LeO.none _)
      | (with_reducible refine LeO.ite ?_ ?_)
      | (with_reducible refine LeO.bind ?_ (fun _ => ?_))
      | exact ih0 _ _ _
      | exact LeO.none _
      | refine LeO.ite ?_ ?_
      | refine LeO.bind ?_ (fun _ => ?_)
theorem laws_eqTokenS.mono : ∀ a0 a1 k, LeO (laws_eqTokenS.f k a0 a1) (laws_eqTokenS.f (k + 1) a0 a1) := by
  intro a0 a1 k
  have ih0 := laws_eqTokenS.mono_l k
  unfold laws_eqTokenS.f
  repeat' first
      | (with_reducible exact ih0 _ _ _)
      | (with_reducible exact LeO.refl _)
      | (with_reducible exact LeO.none _)
      | (with_reducible refine LeO.ite ?_ ?_)
      | (with_reducible refine LeO.bind ?_ (fun _ => ?_))
      | exact ih0 _ _ _
      | exact LeO.none _
      | refine LeO.ite ?_ ?_
      | refine LeO.bind ?_ (fun _ => ?_)
noncomputable def laws_eqTokenS.l0v (x0 : List (S32)) (x1 : List (S32)) (x5 : Int) : Option (Bool) := limOf (fun k => laws_eqTokenS.l0 k x0 x1 x5)
theorem laws_eqTokenS.l0_lim (x0 : List (S32)) (x1 : List (S32)) (x5 : Int) : Lim (fun k => laws_eqTokenS.l0 k x0 x1 x5) (laws_eqTokenS.l0v x0 x1 x5) := Lim.of (fun k => laws_eqTokenS.mono_l k x0 x1 x5)
noncomputable def laws_eqTokenS.fv (l0 : List (S32)) (l1 : List (S32)) : Option (Bool) := limOf (fun k => laws_eqTokenS.f k l0 l1)
theorem laws_eqTokenS.f_lim (l0 : List (S32)) (l1 : List (S32)) : Lim (fun k => laws_eqTokenS.f k l0 l1) (laws_eqTokenS.fv l0 l1) := Lim.of (fun k => laws_eqTokenS.mono l0 l1 k)
set_option maxHeartbeats 4000000 in
theorem laws_eqTokenS.l0v_eq (x0 : List (S32)) (x1 : List (S32)) (x5 : Int) : laws_eqTokenS.l0v x0 x1 x5 = (if x5 < (x0.length : Int) then (if 0 ≤ x5 then (if x5 < (x1.length : Int) then ((laws_eqToken.f ((rd_T32 x0 x5).f0) ((rd_T32 x0 x5).f1) ((rd_T32 x0 x5).f2) ((rd_T32 x0 x5).f3) ((rd_T32 x1 x5).f0) ((rd_T32 x1 x5).f1) ((rd_T32 x1 x5).f2) ((rd_T32 x1 x5).f3)).bind fun t274 => (if t274 = true then (laws_eqTokenS.l0v x0 x1 (wrap64 (x5 + 1))) else (some false))) else (none)) else (none)) else (some true)) := by
  refine Lim.succ (laws_eqTokenS.l0_lim x0 x1 x5) ?_
  simp only [laws_eqTokenS.l0]
  repeat' first
    | (with_reducible apply laws_eqTokenS.l0_lim)
    | (with_reducible exact Lim.const _)
    | (with_reducible refine Lim.ite ?_ ?_)
    | (with_reducible refine Lim.bind ?_ (fun _ => ?_))
    | apply laws_eqTokenS.l0_lim
    | exact Lim.const _
    | refine Lim.ite ?_ ?_
    | refine Lim.bind ?_ (fun _ => ?_)
set_option maxHeartbeats 4000000 in
theorem laws_eqTokenS.fv_eq (l0 : List (S32)) (l1 : List (S32)) : laws_eqTokenS.fv l0 l1 = (if (l0.length : Int) = (l1.length : Int) then (laws_eqTokenS.l0v l0 l1 0) else (some false)) := by
  refine Lim.eq (laws_eqTokenS.f_lim l0 l1) ?_
  simp only [laws_eqTokenS.f]
  repeat' first
    | (with_reducible apply laws_eqTokenS.l0_lim)
    | (with_reducible exact Lim.const _)
    | (with_reducible refine Lim.ite ?_ ?_)
    | (with_reducible refine Lim.bind ?_ (fun _ => ?_))
    | apply laws_eqTokenS.l0_lim
    | exact Lim.const _
    | refine Lim.ite ?_ ?_
    | refine Lim.bind ?_ (fun _ => ?_)

/-! ### laws_markText -/
def laws_markText.l0 : Nat → Int → ByteArray → Option (ByteArray)
  | 0, _, _ => none
  | k + 1, x0, x3 => if x0 > 0 then ((some (([(wrap64 (48 + (Int.tmod x0 10))) % 256] : List Int) : List Int)).bind fun y275 => (if (strOfNums y275).size + x3.size ≤ 9223372036854775807 then (laws_markText.l0 k (wrap64 (Int.tdiv x0 10)) ((strOfNums y275) ++ x3)) else (none))) else (if 1 + x3.size ≤ 9223372036854775807 then (some ((⟨#[109]⟩ : ByteArray) ++ x3)) else (none))
def laws_markText.f (k : Nat) (a0 : Int) : Option (ByteArray) := if a0 ≤ 0 then (some (⟨#[109, 48]⟩ : ByteArray)) else (laws_markText.l0 k a0 (⟨#[]⟩ : ByteArray))
theorem laws_markText.mono_l : ∀ k, (∀ y0 y1, LeO (laws_markText.l0 k y0 y1) (laws_markText.l0 (k + 1) y0 y1))
  | 0 => fun _ _ r h => by simp [laws_markText.l0] at h
  | k + 1 => by
    have ih0 := laws_markText.mono_l k
    · intro y0 y1
      unfold laws_markText.l0
      repeat' first
      | (with_reducible exact ih0 _ _)
      | (with_reducible exact LeO.refl _)
      | (with_reducible exact LeO.none _)
      | (with_reducible refine LeO.ite ?_ ?_)
      | (with_reducible refine LeO.bind ?_ (fun _ => ?_))
      | exact ih0 _ _
      | exact LeO.none _
      | refine LeO.ite ?_ ?_
      | refine LeO.bind ?_ (fun _ => ?_)
theorem laws_markText.mono : ∀ a0 k, LeO (laws_markText.f k a0) (laws_markText.f (k + 1) a0) := by
  intro a0 k
  have ih0 := laws_markText.mono_l k
  unfold laws_markText.f
  repeat' first
      | (with_reducible exact ih0 _ _)
      | (with_reducible exact LeO.refl _)
      | (with_reducible exact LeO.none _)
      | (with_reducible refine LeO.ite ?_ ?_)
      | (with_reducible refine LeO.bind ?_ (fun _ => ?_))
      | exact ih0 _ _
      | exact LeO.none _
      | refine LeO.ite ?_ ?_
      | refine LeO.bind ?_ (fun _ => ?_)
noncomputable def laws_markText.l0v (x0 : Int) (x3 : ByteArray) : Option (ByteArray) := limOf (fun k => laws_markText.l0 k x0 x3)
theorem laws_markText.l0_lim (x0 : Int) (x3 : ByteArray) : Lim (fun k => laws_markText.l0 k x0 x3) (laws_markText.l0v x0 x3) := Lim.of (fun k => laws_markText.mono_l k x0 x3)
noncomputable def laws_markText.fv (a0 : Int) : Option (ByteArray) := limOf (fun k => laws_markText.f k a0)
theorem laws_markText.f_lim (a0 : Int) : Lim (fun k => laws_markText.f k a0) (laws_markText.fv a0) := Lim.of (fun k => laws_markText.mono a0 k)
set_option maxHeartbeats 4000000 in
theorem laws_markText.l0v_eq (x0 : Int) (x3 : ByteArray) : laws_markText.l0v x0 x3 = (if x0 > 0 then ((some (([(wrap64 (48 + (Int.tmod x0 10))) % 256] : List Int) : List Int)).bind fun y275 => (if (strOfNums y275).size + x3.size ≤ 9223372036854775807 then (laws_markText.l0v (wrap64 (Int.tdiv x0 10)) ((strOfNums y275) ++ x3)) else (none))) else (if 1 + x3.size ≤ 9223372036854775807 then (some ((⟨#[109]⟩ : ByteArray) ++ x3)) else (none))) := by
  refine Lim.succ (laws_markText.l0_lim x0 x3) ?_
  simp only [laws_markText.l0]
  repeat' first
    | (with_reducible apply laws_markText.l0_lim)
    | (with_reducible exact Lim.const _)
    | (with_reducible refine Lim.ite ?_ ?_)
    | (with_reducible refine Lim.bind ?_ (fun _ => ?_))
    | apply laws_markText.l0_lim
    | exact Lim.const _
    | refine Lim.ite ?_ ?_
    | refine Lim.bind ?_ (fun _ => ?_)
set_option maxHeartbeats 4000000 in
theorem laws_markText.fv_eq (a0 : Int) : laws_markText.fv a0 = (if a0 ≤ 0 then (some (⟨#[109, 48]⟩ : ByteArray)) else (laws_markText.l0v a0 (⟨#[]⟩ : ByteArray))) := by
  refine Lim.eq (laws_markText.f_lim a0) ?_
  simp only [laws_markText.f]
  repeat' first
    | (with_reducible apply laws_markText.l0_lim)
    | (with_reducible exact Lim.const _)
    | (with_reducible refine Lim.ite ?_ ?_)
    | (with_reducible refine Lim.bind ?_ (fun _ => ?_))
    | apply laws_markText.l0_lim
    | exact Lim.const _
    | refine Lim.ite ?_ ?_
    | refine Lim.bind ?_ (fun _ => ?_)

/-! ### laws_markTokenS -/
def laws_markTokenS.l0 : Nat → List (S32) → Int → Int → Option (Int × (List (S32)))
  | 0, _, _, _ => none
  | k + 1, x0, x1, x5 => if x5 < (x0.length : Int) then (if 0 ≤ x5 then ((some (x0.set (x5 : Int).toNat (⟨x1, (rd_T32 x0 x5).f1, (rd_T32 x0 x5).f2, (rd_T32 x0 x5).f3⟩ : S32) : List (S32))).bind fun y278 => ((laws_markText.f k (wrap64 (x1 + 1))).bind fun t279 => ((some (y278.set (x5 : Int).toNat (⟨(rd_T32 y278 x5).f0, t279, (rd_T32 y278 x5).f2, (rd_T32 y278 x5).f3⟩ : S32) : List (S32))).bind fun y280 => ((some (y280.set (x5 : Int).toNat (⟨(rd_T32 y280 x5).f0, (rd_T32 y280 x5).f1, wrap64 ((wrap64 (x1 + 1)) + 1), (rd_T32 y280 x5).f3⟩ : S32) : List (S32))).bind fun y281 => (laws_markTokenS.l0 k (y281.set (x5 : Int).toNat (⟨(rd_T32 y281 x5).f0, (rd_T32 y281 x5).f1, (rd_T32 y281 x5).f2, wrap64 ((wrap64 ((wrap64 (x1 + 1)) + 1)) + 1)⟩ : S32)) (wrap64 ((wrap64 ((wrap64 ((wrap64 (x1 + 1)) + 1)) + 1)) + 1)) (wrap64 (x5 + 1))))))) else (none)) else (some (x1, x0))
def laws_markTokenS.f (k : Nat) (l0 : List (S32)) (a1 : Int) : Option (Int × (List (S32))) := laws_markTokenS.l0 k l0 a1 0
theorem laws_markTokenS.mono_l : ∀ k, (∀ y0 y1 y2, LeO (laws_markTokenS.l0 k y0 y1 y2) (laws_markTokenS.l0 (k + 1) y0 y1 y2))
  | 0 => fun _ _ _ r h => by simp [laws_markTokenS.l0] at h
  | k + 1 => by
    have ih0 := laws_markTokenS.mono_l k
    · intro y0 y1 y2
      unfold laws_markTokenS.l0
      repeat' first
      | (with_reducible exact ih0 _ _ _)
      | (with_reducible exact laws_markText.mono _ _)
      | (with_reducible exact LeO.refl _)
      | (with_reducible exact LeO.none _)
      | (with_reducible refine LeO.ite ?_ ?_)
      | (with_reducible refine LeO.bind ?_ (fun _ => ?_))
      | exact ih0 _ _ _
      | exact laws_markText.mono _ _
      | exact LeO.none _
      | refine LeO.ite ?_ ?_
      | refine LeO.bind ?_ (fun _ => ?_)
theorem laws_markTokenS.mono : ∀ a0 a1 k, LeO (laws_markTokenS.f k a0 a1) (laws_markTokenS.f (k + 1) a0 a1) := by
  intro a0 a1 k
  have ih0 := laws_markTokenS.mono_l k
  unfold laws_markTokenS.f
  repeat' first
      | (with_reducible exact ih0 _ _ _)
      | (with_reducible exact laws_markText.mono _ _)
      | (with_reducible exact LeO.refl _)
      | (with_reducible exact LeO.none _)
      | (with_reducible refine LeO.ite ?_ ?_)
      | (with_reducible refine LeO.bind ?_ (fun _ => ?_))
      | exact ih0 _ _ _
      | exact laws_markText.mono _ _
      | exact LeO.none _
      | refine LeO.ite ?_ ?_
      | refine LeO.bind ?_ (fun _ => ?_)
noncomputable def laws_markTokenS.l0v (x0 : List (S32)) (x1 : Int) (x5 : Int) : Option (Int × (List (S32))) := limOf (fun k => laws_markTokenS.l0 k x0 x1 x5)
theorem laws_markTokenS.l0_lim (x0 : List (S32)) (x1 : Int) (x5 : Int) : Lim (fun k => laws_markTokenS.l0 k x0 x1 x5) (laws_markTokenS.l0v x0 x1 x5) := Lim.of (fun k => laws_markTokenS.mono_l k x0 x1 x5)
noncomputable def laws_markTokenS.fv (l0 : List (S32)) (a1 : Int) : Option (Int × (List (S32))) := limOf (fun k => laws_markTokenS.f k l0 a1)
theorem laws_markTokenS.f_lim (l0 : List (S32)) (a1 : Int) : Lim (fun k => laws_markTokenS.f k l0 a1) (laws_markTokenS.fv l0 a1) := Lim.of (fun k => laws_markTokenS.mono l0 a1 k)
set_option maxHeartbeats 4000000 in
theorem laws_markTokenS.l0v_eq (x0 : List (S32)) (x1 : Int) (x5 : Int) : laws_markTokenS.l0v x0 x1 x5 = (if x5 < (x0.length : Int) then (if 0 ≤ x5 then ((some (x0.set (x5 : Int).toNat (⟨x1, (rd_T32 x0 x5).f1, (rd_T32 x0 x5).f2, (rd_T32 x0 x5).f3⟩ : S32) : List (S32))).bind fun y278 => ((laws_markText.fv (wrap64 (x1 + 1))).bind fun t279 => ((some (y278.set (x5 : Int).toNat (⟨(rd_T32 y278 x5).f0, t279, (rd_T32 y278 x5).f2, (rd_T32 y278 x5).f3⟩ : S32) : List (S32))).bind fun y280 => ((some (y280.set (x5 : Int).toNat (⟨(rd_T32 y280 x5).f0, (rd_T32 y280 x5).f1, wrap64 ((wrap64 (x1 + 1)) + 1), (rd_T32 y280 x5).f3⟩ : S32) : List (S32))).bind fun y281 => (laws_markTokenS.l0v (y281.set (x5 : Int).toNat (⟨(rd_T32 y281 x5).f0, (rd_T32 y281 x5).f1, (rd_T32 y281 x5).f2, wrap64 ((wrap64 ((wrap64 (x1 + 1)) + 1)) + 1)⟩ : S32)) (wrap64 ((wrap64 ((wrap64 ((wrap64 (x1 + 1)) + 1)) + 1)) + 1)) (wrap64 (x5 + 1))))))) else (none)) else (some (x1, x0))) := by
  refine Lim.succ (laws_markTokenS.l0_lim x0 x1 x5) ?_
  simp only [laws_markTokenS.l0]
  repeat' first
    | (with_reducible apply laws_markText.f_lim)
    | (with_reducible apply laws_markTokenS.l0_lim)
    | (with_reducible exact Lim.const _)
    | (with_reducible refine Lim.ite ?_ ?_)
    | (with_reducible refine Lim.bind ?_ (fun _ => ?_))
    | apply laws_markText.f_lim
    | apply laws_markTokenS.l0_lim
    | exact Lim.const _
    | refine Lim.ite ?_ ?_
    | refine Lim.bind ?_ (fun _ => ?_)
set_option maxHeartbeats 4000000 in
theorem laws_markTokenS.fv_eq (l0 : List (S32)) (a1 : Int) : laws_markTokenS.fv l0 a1 = (laws_markTokenS.l0v l0 a1 0) := by
  refine Lim.eq (laws_markTokenS.f_lim l0 a1) ?_
  simp only [laws_markTokenS.f]
  repeat' first
    | (with_reducible apply laws_markTokenS.l0_lim)
    | (with_reducible exact Lim.const _)
    | (with_reducible refine Lim.ite ?_ ?_)
    | (with_reducible refine Lim.bind ?_ (fun _ => ?_))
    | apply laws_markTokenS.l0_lim
    | exact Lim.const _
    | refine Lim.ite ?_ ?_
    | refine Lim.bind ?_ (fun _ => ?_)

/-! ### laws_heldTokenS -/
def laws_heldTokenS.l0 : Nat → List (S32) → Int → Int → Option (Int)
  | 0, _, _, _ => none
  | k + 1, x0, x1, x5 => if x5 < (x0.length : Int) then (if 0 ≤ x5 then (if ((rd_T32 x0 x5).f0) = x1 then ((laws_markText.f k (wrap64 (x1 + 1))).bind fun t285 => (if ((rd_T32 x0 x5).f1).toList = t285.toList then (if ((rd_T32 x0 x5).f2) = (wrap64 ((wrap64 (x1 + 1)) + 1)) then (if ((rd_T32 x0 x5).f3) = (wrap64 ((wrap64 ((wrap64 (x1 + 1)) + 1)) + 1)) then (laws_heldTokenS.l0 k x0 (wrap64 ((wrap64 ((wrap64 ((wrap64 (x1 + 1)) + 1)) + 1)) + 1)) (wrap64 (x5 + 1))) else (some (-1))) else (some (-1))) else (some (-1)))) else (some (-1))) else (none)) else (some x1)
def laws_heldTokenS.f (k : Nat) (l0 : List (S32)) (a1 : Int) : Option (Int) := laws_heldTokenS.l0 k l0 a1 0
theorem laws_heldTokenS.mono_l : ∀ k, (∀ y0 y1 y2, LeO (laws_heldTokenS.l0 k y0 y1 y2) (laws_heldTokenS.l0 (k + 1) y0 y1 y2))
  | 0 => fun _ _ _ r h => by simp [laws_heldTokenS.l0] at h
  | k + 1 => by
    have ih0 := laws_heldTokenS.mono_l k
    · intro y0 y1 y2
      unfold laws_heldTokenS.l0
      repeat' first
      | (with_reducible exact ih0 _ _ _)
      | (with_reducible exact laws_markText.mono _ _)
      | (with_reducible exact LeO.refl _)
      | (with_reducible exact LeO.none _)
      | (with_reducible refine LeO.ite ?_ ?_)
      | (with_reducible refine LeO.bind ?_ (fun _ => ?_))
      | exact ih0 _ _ _
      | exact laws_markText.mono _ _
      | exact LeO.none _
      | refine LeO.ite ?_ ?_
      | refine LeO.bind ?_ (fun _ => ?_)
theorem laws_heldTokenS.mono : ∀ a0 a1 k, LeO (laws_heldTokenS.f k a0 a1) (laws_heldTokenS.f (k + 1) a0 a1) := by
  intro a0 a1 k
  have ih0 := laws_heldTokenS.mono_l k
  unfold laws_heldTokenS.f
  repeat' first
      | (with_reducible exact ih0 _ _ _)
      | (with_reducible exact laws_markText.mono _ _)
      | (with_reducible exact LeO.refl _)
      | (with_reducible exact LeO.none _)
      | (with_reducible refine LeO.ite ?_ ?_)
      | (with_reducible refine LeO.bind ?_ (fun _ => ?_))
      | exact ih0 _ _ _
      | exact laws_markText.mono _ _
      | exact LeO.none _
      | refine LeO.ite ?_ ?_
      | refine LeO.bind ?_ (fun _ => ?_)
noncomputable def laws_heldTokenS.l0v (x0 : List (S32)) (x1 : Int) (x5 : Int) : Option (Int) := limOf (fun k => laws_heldTokenS.l0 k x0 x1 x5)
theorem laws_heldTokenS.l0_lim (x0 : List (S32)) (x1 : Int) (x5 : Int) : Lim (fun k => laws_heldTokenS.l0 k x0 x1 x5) (laws_heldTokenS.l0v x0 x1 x5) := Lim.of (fun k => laws_heldTokenS.mono_l k x0 x1 x5)
noncomputable def laws_heldTokenS.fv (l0 : List (S32)) (a1 : Int) : Option (Int) := limOf (fun k => laws_heldTokenS.f k l0 a1)
theorem laws_heldTokenS.f_lim (l0 : List (S32)) (a1 : Int) : Lim (fun k => laws_heldTokenS.f k l0 a1) (laws_heldTokenS.fv l0 a1) := Lim.of (fun k => laws_heldTokenS.mono l0 a1 k)
set_option maxHeartbeats 4000000 in
theorem laws_heldTokenS.l0v_eq (x0 : List (S32)) (x1 : Int) (x5 : Int) : laws_heldTokenS.l0v x0 x1 x5 = (if x5 < (x0.length : Int) then (if 0 ≤ x5 then (if ((rd_T32 x0 x5).f0) = x1 then ((laws_markText.fv (wrap64 (x1 + 1))).bind fun t285 => (if ((rd_T32 x0 x5).f1).toList = t285.toList then (if ((rd_T32 x0 x5).f2) = (wrap64 ((wrap64 (x1 + 1)) + 1)) then (if ((rd_T32 x0 x5).f3) = (wrap64 ((wrap64 ((wrap64 (x1 + 1)) + 1)) + 1)) then (laws_heldTokenS.l0v x0 (wrap64 ((wrap64 ((wrap64 ((wrap64 (x1 + 1)) + 1)) + 1)) + 1)) (wrap64 (x5 + 1))) else (some (-1))) else (some (-1))) else (some (-1)))) else (some (-1))) else (none)) else (some x1)) := by
  refine Lim.succ (laws_heldTokenS.l0_lim x0 x1 x5) ?_
  simp only [laws_heldTokenS.l0]
  repeat' first
    | (with_reducible apply laws_heldTokenS.l0_lim)
    | (with_reducible apply laws_markText.f_lim)
    | (with_reducible exact Lim.const _)
    | (with_reducible refine Lim.ite ?_ ?_)
    | (with_reducible refine Lim.bind ?_ (fun _ => ?_))
    | apply laws_heldTokenS.l0_lim
    | apply laws_markText.f_lim
    | exact Lim.const _
    | refine Lim.ite ?_ ?_
    | refine Lim.bind ?_ (fun _ => ?_)
set_option maxHeartbeats 4000000 in
theorem laws_heldTokenS.fv_eq (l0 : List (S32)) (a1 : Int) : laws_heldTokenS.fv l0 a1 = (laws_heldTokenS.l0v l0 a1 0) := by
  refine Lim.eq (laws_heldTokenS.f_lim l0 a1) ?_
  simp only [laws_heldTokenS.f]
  repeat' first
    | (with_reducible apply laws_heldTokenS.l0_lim)
    | (with_reducible exact Lim.const _)
    | (with_reducible refine Lim.ite ?_ ?_)
    | (with_reducible refine Lim.bind ?_ (fun _ => ?_))
    | apply laws_heldTokenS.l0_lim
    | exact Lim.const _
    | refine Lim.ite ?_ ?_
    | refine Lim.bind ?_ (fun _ => ?_)

end Go.Proofs.YtelaipnanpfniaaDoor.QFnExactTokens
