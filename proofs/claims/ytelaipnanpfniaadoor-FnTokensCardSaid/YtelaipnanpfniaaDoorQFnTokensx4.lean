/- Written by wip/pr2, a program of this session. -/
import Derived.Test.YtelaipnanpfniaaDoorQFnTokensx0
import Derived.Test.YtelaipnanpfniaaDoorQFnTokensx3
import Derived.Test.YtelaipnanpfniaaDoorWFnTokens
namespace Go.Proofs.YtelaipnanpfniaaDoor.QFnTokens
open Go.RowKit Go.Proofs.YtelaipnanpfniaaDoorW.PrintWords Go.Proofs.YtelaipnanpfniaaDoorW.PrintLast Go.Proofs.YtelaipnanpfniaaDoorW.PrintMore
attribute [local go_sem] max2_int min2_int max_two min_two max_three min_three max_four min_four   -- for this text's walks alone
set_option linter.unusedVariables false
set_option linter.unusedSimpArgs false
set_option maxHeartbeats 8000000

open Go.Proofs.YtelaipnanpfniaaDoorW.Lims
/-! ### impl_textAt -/
def impl_textAt.l0 : Nat → ByteArray → List Int → Int → Option (ByteArray × Int)
  | 0, _, _, _ => none
  | k + 1, x0, x6, x7 => if x7 < (x0.size : Int) then (if 0 ≤ x7 then (if (bt x0 x7) = 34 then (some (strOfNums x6, wrap64 (x7 + 1))) else (if (bt x0 x7) = 10 then (some ((⟨#[]⟩ : ByteArray), (-1))) else (if (bt x0 x7) = 92 then (if (wrap64 (x7 + 1)) = (x0.size : Int) then (some ((⟨#[]⟩ : ByteArray), (-1))) else (if 0 ≤ (wrap64 (x7 + 1)) then (if (wrap64 (x7 + 1)) < (x0.size : Int) then (if (bt x0 (wrap64 (x7 + 1))) = 10 then (some ((⟨#[]⟩ : ByteArray), (-1))) else (if x6.length < 140737488355328 then (impl_textAt.l0 k x0 (x6 ++ [bt x0 (wrap64 (x7 + 1))]) (wrap64 ((wrap64 (x7 + 1)) + 1))) else (none))) else (none)) else (none))) else (if x6.length < 140737488355328 then (impl_textAt.l0 k x0 (x6 ++ [bt x0 x7]) (wrap64 (x7 + 1))) else (none))))) else (none)) else (some ((⟨#[]⟩ : ByteArray), (-1)))
def impl_textAt.f (k : Nat) (a0 : ByteArray) (a1 : Int) : Option (ByteArray × Int) := impl_textAt.l0 k a0 (([] : List Int)) (wrap64 (a1 + 1))
theorem impl_textAt.mono_l : ∀ k, (∀ y0 y1 y2, LeO (impl_textAt.l0 k y0 y1 y2) (impl_textAt.l0 (k + 1) y0 y1 y2))
  | 0 => fun _ _ _ r h => by simp [impl_textAt.l0] at h
  | k + 1 => by
    have ih0 := impl_textAt.mono_l k
    · intro y0 y1 y2
      unfold impl_textAt.l0
      repeat' first
      | (with_reducible exact ih0 _ _ _)
      | (with_reducible exact LeO.refl _)
      | (with_reducible exact LeO.none _)
      | (with_reducible refine LeO.ite ?_ ?_)
      | (with_reducible refine LeO.bind ?_ (fun _ => ?_))
      | exact ih0 _ _ _
      | exact LeO.none _
      | refine LeO.ite ?_ ?_
      | refine LeO.bind ?_ (fun _ => ?_)
theorem impl_textAt.mono : ∀ a0 a1 k, LeO (impl_textAt.f k a0 a1) (impl_textAt.f (k + 1) a0 a1) := by
  intro a0 a1 k
  have ih0 := impl_textAt.mono_l k
  unfold impl_textAt.f
  repeat' first
      | (with_reducible exact ih0 _ _ _)
      | (with_reducible exact LeO.refl _)
      | (with_reducible exact LeO.none _)
      | (with_reducible refine LeO.ite ?_ ?_)
      | (with_reducible refine LeO.bind ?_ (fun _ => ?_))
      | exact ih0 _ _ _
      | exact LeO.none _
      | refine LeO.ite ?_ ?_
      | refine LeO.bind ?_ (fun _ => ?_)
noncomputable def impl_textAt.l0v (x0 : ByteArray) (x6 : List Int) (x7 : Int) : Option (ByteArray × Int) := limOf (fun k => impl_textAt.l0 k x0 x6 x7)
theorem impl_textAt.l0_lim (x0 : ByteArray) (x6 : List Int) (x7 : Int) : Lim (fun k => impl_textAt.l0 k x0 x6 x7) (impl_textAt.l0v x0 x6 x7) := Lim.of (fun k => impl_textAt.mono_l k x0 x6 x7)
noncomputable def impl_textAt.fv (a0 : ByteArray) (a1 : Int) : Option (ByteArray × Int) := limOf (fun k => impl_textAt.f k a0 a1)
theorem impl_textAt.f_lim (a0 : ByteArray) (a1 : Int) : Lim (fun k => impl_textAt.f k a0 a1) (impl_textAt.fv a0 a1) := Lim.of (fun k => impl_textAt.mono a0 a1 k)
set_option maxHeartbeats 4000000 in
theorem impl_textAt.l0v_eq (x0 : ByteArray) (x6 : List Int) (x7 : Int) : impl_textAt.l0v x0 x6 x7 = (if x7 < (x0.size : Int) then (if 0 ≤ x7 then (if (bt x0 x7) = 34 then (some (strOfNums x6, wrap64 (x7 + 1))) else (if (bt x0 x7) = 10 then (some ((⟨#[]⟩ : ByteArray), (-1))) else (if (bt x0 x7) = 92 then (if (wrap64 (x7 + 1)) = (x0.size : Int) then (some ((⟨#[]⟩ : ByteArray), (-1))) else (if 0 ≤ (wrap64 (x7 + 1)) then (if (wrap64 (x7 + 1)) < (x0.size : Int) then (if (bt x0 (wrap64 (x7 + 1))) = 10 then (some ((⟨#[]⟩ : ByteArray), (-1))) else (if x6.length < 140737488355328 then (impl_textAt.l0v x0 (x6 ++ [bt x0 (wrap64 (x7 + 1))]) (wrap64 ((wrap64 (x7 + 1)) + 1))) else (none))) else (none)) else (none))) else (if x6.length < 140737488355328 then (impl_textAt.l0v x0 (x6 ++ [bt x0 x7]) (wrap64 (x7 + 1))) else (none))))) else (none)) else (some ((⟨#[]⟩ : ByteArray), (-1)))) := by
  refine Lim.succ (impl_textAt.l0_lim x0 x6 x7) ?_
  simp only [impl_textAt.l0]
  repeat' first
    | (with_reducible apply impl_textAt.l0_lim)
    | (with_reducible exact Lim.const _)
    | (with_reducible refine Lim.ite ?_ ?_)
    | (with_reducible refine Lim.bind ?_ (fun _ => ?_))
    | apply impl_textAt.l0_lim
    | exact Lim.const _
    | refine Lim.ite ?_ ?_
    | refine Lim.bind ?_ (fun _ => ?_)
set_option maxHeartbeats 4000000 in
theorem impl_textAt.fv_eq (a0 : ByteArray) (a1 : Int) : impl_textAt.fv a0 a1 = (impl_textAt.l0v a0 (([] : List Int)) (wrap64 (a1 + 1))) := by
  refine Lim.eq (impl_textAt.f_lim a0 a1) ?_
  simp only [impl_textAt.f]
  repeat' first
    | (with_reducible apply impl_textAt.l0_lim)
    | (with_reducible exact Lim.const _)
    | (with_reducible refine Lim.ite ?_ ?_)
    | (with_reducible refine Lim.bind ?_ (fun _ => ?_))
    | apply impl_textAt.l0_lim
    | exact Lim.const _
    | refine Lim.ite ?_ ?_
    | refine Lim.bind ?_ (fun _ => ?_)

/-! ### impl_rexAt -/
mutual
def impl_rexAt.l0 : Nat → ByteArray → List Int → Int → Option (ByteArray × Int)
  | 0, _, _, _ => none
  | k + 1, x0, x6, x7 => if x7 < (x0.size : Int) then (if 0 ≤ x7 then (if (bt x0 x7) = 47 then (some (strOfNums x6, wrap64 (x7 + 1))) else (if (bt x0 x7) = 10 then (some ((⟨#[]⟩ : ByteArray), (-1))) else (if (bt x0 x7) = 92 then (if (wrap64 (x7 + 1)) = (x0.size : Int) then (impl_rexAt.j1 k x0 x6 (wrap64 (x7 + 1)) true) else (if 0 ≤ (wrap64 (x7 + 1)) then (if (wrap64 (x7 + 1)) < (x0.size : Int) then (impl_rexAt.j1 k x0 x6 (wrap64 (x7 + 1)) ((bt x0 (wrap64 (x7 + 1))) == 10)) else (none)) else (none))) else (if x6.length < 140737488355328 then (impl_rexAt.l0 k x0 (x6 ++ [bt x0 x7]) (wrap64 (x7 + 1))) else (none))))) else (none)) else (some ((⟨#[]⟩ : ByteArray), (-1)))
def impl_rexAt.j1 : Nat → ByteArray → List Int → Int → Bool → Option (ByteArray × Int)
  | 0, _, _, _, _ => none
  | k + 1, x0, x6, x7, x41 => if x41 = true then (some ((⟨#[]⟩ : ByteArray), (-1))) else (if 0 ≤ x7 then (if x7 < (x0.size : Int) then (if (bt x0 x7) = 47 then (if x6.length < 140737488355328 then (impl_rexAt.l0 k x0 (x6 ++ [bt x0 x7]) (wrap64 (x7 + 1))) else (none)) else (if x6.length < 140737488355328 then ((some (x6 ++ [92] : List Int)).bind fun y213 => (if y213.length < 140737488355328 then (impl_rexAt.l0 k x0 (y213 ++ [bt x0 x7]) (wrap64 (x7 + 1))) else (none))) else (none))) else (none)) else (none))
end
def impl_rexAt.f (k : Nat) (a0 : ByteArray) (a1 : Int) : Option (ByteArray × Int) := impl_rexAt.l0 k a0 (([] : List Int)) (wrap64 (a1 + 1))
theorem impl_rexAt.mono_l : ∀ k, (∀ y0 y1 y2, LeO (impl_rexAt.l0 k y0 y1 y2) (impl_rexAt.l0 (k + 1) y0 y1 y2)) ∧ (∀ y0 y1 y2 y3, LeO (impl_rexAt.j1 k y0 y1 y2 y3) (impl_rexAt.j1 (k + 1) y0 y1 y2 y3))
  | 0 => ⟨fun _ _ _ r h => by simp [impl_rexAt.l0] at h, fun _ _ _ _ r h => by simp [impl_rexAt.j1] at h⟩
  | k + 1 => by
    obtain ⟨ih0, ih1⟩ := impl_rexAt.mono_l k
    refine ⟨?_, ?_⟩
    · intro y0 y1 y2
      unfold impl_rexAt.l0
      repeat' first
      | (with_reducible exact ih0 _ _ _)
      | (with_reducible exact ih1 _ _ _ _)
      | (with_reducible exact LeO.refl _)
      | (with_reducible exact LeO.none _)
      | (with_reducible refine LeO.ite ?_ ?_)
      | (with_reducible refine LeO.bind ?_ (fun _ => ?_))
      | exact ih0 _ _ _
      | exact ih1 _ _ _ _
      | exact LeO.none _
      | refine LeO.ite ?_ ?_
      | refine LeO.bind ?_ (fun _ => ?_)
    · intro y0 y1 y2 y3
      unfold impl_rexAt.j1
      repeat' first
      | (with_reducible exact ih0 _ _ _)
      | (with_reducible exact ih1 _ _ _ _)
      | (with_reducible exact LeO.refl _)
      | (with_reducible exact LeO.none _)
      | (with_reducible refine LeO.ite ?_ ?_)
      | (with_reducible refine LeO.bind ?_ (fun _ => ?_))
      | exact ih0 _ _ _
      | exact ih1 _ _ _ _
      | exact LeO.none _
      | refine LeO.ite ?_ ?_
      | refine LeO.bind ?_ (fun _ => ?_)
theorem impl_rexAt.mono : ∀ a0 a1 k, LeO (impl_rexAt.f k a0 a1) (impl_rexAt.f (k + 1) a0 a1) := by
  intro a0 a1 k
  obtain ⟨ih0, ih1⟩ := impl_rexAt.mono_l k
  unfold impl_rexAt.f
  repeat' first
      | (with_reducible exact ih0 _ _ _)
      | (with_reducible exact ih1 _ _ _ _)
      | (with_reducible exact LeO.refl _)
      | (with_reducible exact LeO.none _)
      | (with_reducible refine LeO.ite ?_ ?_)
      | (with_reducible refine LeO.bind ?_ (fun _ => ?_))
      | exact ih0 _ _ _
      | exact ih1 _ _ _ _
      | exact LeO.none _
      | refine LeO.ite ?_ ?_
      | refine LeO.bind ?_ (fun _ => ?_)
noncomputable def impl_rexAt.l0v (x0 : ByteArray) (x6 : List Int) (x7 : Int) : Option (ByteArray × Int) := limOf (fun k => impl_rexAt.l0 k x0 x6 x7)
theorem impl_rexAt.l0_lim (x0 : ByteArray) (x6 : List Int) (x7 : Int) : Lim (fun k => impl_rexAt.l0 k x0 x6 x7) (impl_rexAt.l0v x0 x6 x7) := Lim.of (fun k => (impl_rexAt.mono_l k).1 x0 x6 x7)
noncomputable def impl_rexAt.j1v (x0 : ByteArray) (x6 : List Int) (x7 : Int) (x41 : Bool) : Option (ByteArray × Int) := limOf (fun k => impl_rexAt.j1 k x0 x6 x7 x41)
theorem impl_rexAt.j1_lim (x0 : ByteArray) (x6 : List Int) (x7 : Int) (x41 : Bool) : Lim (fun k => impl_rexAt.j1 k x0 x6 x7 x41) (impl_rexAt.j1v x0 x6 x7 x41) := Lim.of (fun k => (impl_rexAt.mono_l k).2 x0 x6 x7 x41)
noncomputable def impl_rexAt.fv (a0 : ByteArray) (a1 : Int) : Option (ByteArray × Int) := limOf (fun k => impl_rexAt.f k a0 a1)
theorem impl_rexAt.f_lim (a0 : ByteArray) (a1 : Int) : Lim (fun k => impl_rexAt.f k a0 a1) (impl_rexAt.fv a0 a1) := Lim.of (fun k => impl_rexAt.mono a0 a1 k)
set_option maxHeartbeats 4000000 in
theorem impl_rexAt.l0v_eq (x0 : ByteArray) (x6 : List Int) (x7 : Int) : impl_rexAt.l0v x0 x6 x7 = (if x7 < (x0.size : Int) then (if 0 ≤ x7 then (if (bt x0 x7) = 47 then (some (strOfNums x6, wrap64 (x7 + 1))) else (if (bt x0 x7) = 10 then (some ((⟨#[]⟩ : ByteArray), (-1))) else (if (bt x0 x7) = 92 then (if (wrap64 (x7 + 1)) = (x0.size : Int) then (impl_rexAt.j1v x0 x6 (wrap64 (x7 + 1)) true) else (if 0 ≤ (wrap64 (x7 + 1)) then (if (wrap64 (x7 + 1)) < (x0.size : Int) then (impl_rexAt.j1v x0 x6 (wrap64 (x7 + 1)) ((bt x0 (wrap64 (x7 + 1))) == 10)) else (none)) else (none))) else (if x6.length < 140737488355328 then (impl_rexAt.l0v x0 (x6 ++ [bt x0 x7]) (wrap64 (x7 + 1))) else (none))))) else (none)) else (some ((⟨#[]⟩ : ByteArray), (-1)))) := by
  refine Lim.succ (impl_rexAt.l0_lim x0 x6 x7) ?_
  simp only [impl_rexAt.l0]
  repeat' first
    | (with_reducible apply impl_rexAt.j1_lim)
    | (with_reducible apply impl_rexAt.l0_lim)
    | (with_reducible exact Lim.const _)
    | (with_reducible refine Lim.ite ?_ ?_)
    | (with_reducible refine Lim.bind ?_ (fun _ => ?_))
    | apply impl_rexAt.j1_lim
    | apply impl_rexAt.l0_lim
    | exact Lim.const _
    | refine Lim.ite ?_ ?_
    | refine Lim.bind ?_ (fun _ => ?_)
set_option maxHeartbeats 4000000 in
theorem impl_rexAt.j1v_eq (x0 : ByteArray) (x6 : List Int) (x7 : Int) (x41 : Bool) : impl_rexAt.j1v x0 x6 x7 x41 = (if x41 = true then (some ((⟨#[]⟩ : ByteArray), (-1))) else (if 0 ≤ x7 then (if x7 < (x0.size : Int) then (if (bt x0 x7) = 47 then (if x6.length < 140737488355328 then (impl_rexAt.l0v x0 (x6 ++ [bt x0 x7]) (wrap64 (x7 + 1))) else (none)) else (if x6.length < 140737488355328 then ((some (x6 ++ [92] : List Int)).bind fun y213 => (if y213.length < 140737488355328 then (impl_rexAt.l0v x0 (y213 ++ [bt x0 x7]) (wrap64 (x7 + 1))) else (none))) else (none))) else (none)) else (none))) := by
  refine Lim.succ (impl_rexAt.j1_lim x0 x6 x7 x41) ?_
  simp only [impl_rexAt.j1]
  repeat' first
    | (with_reducible apply impl_rexAt.l0_lim)
    | (with_reducible exact Lim.const _)
    | (with_reducible refine Lim.ite ?_ ?_)
    | (with_reducible refine Lim.bind ?_ (fun _ => ?_))
    | apply impl_rexAt.l0_lim
    | exact Lim.const _
    | refine Lim.ite ?_ ?_
    | refine Lim.bind ?_ (fun _ => ?_)
set_option maxHeartbeats 4000000 in
theorem impl_rexAt.fv_eq (a0 : ByteArray) (a1 : Int) : impl_rexAt.fv a0 a1 = (impl_rexAt.l0v a0 (([] : List Int)) (wrap64 (a1 + 1))) := by
  refine Lim.eq (impl_rexAt.f_lim a0 a1) ?_
  simp only [impl_rexAt.f]
  repeat' first
    | (with_reducible apply impl_rexAt.l0_lim)
    | (with_reducible exact Lim.const _)
    | (with_reducible refine Lim.ite ?_ ?_)
    | (with_reducible refine Lim.bind ?_ (fun _ => ?_))
    | apply impl_rexAt.l0_lim
    | exact Lim.const _
    | refine Lim.ite ?_ ?_
    | refine Lim.bind ?_ (fun _ => ?_)

/-! ### impl_signsOf -/
def impl_signsOf.f  : Option (List ByteArray) := some (([(⟨#[61, 61]⟩ : ByteArray), (⟨#[33, 61]⟩ : ByteArray), (⟨#[60, 61]⟩ : ByteArray), (⟨#[62, 61]⟩ : ByteArray), (⟨#[38, 38]⟩ : ByteArray), (⟨#[124, 124]⟩ : ByteArray), (⟨#[43, 61]⟩ : ByteArray), (⟨#[33, 126]⟩ : ByteArray), (⟨#[40]⟩ : ByteArray), (⟨#[41]⟩ : ByteArray), (⟨#[123]⟩ : ByteArray), (⟨#[125]⟩ : ByteArray), (⟨#[91]⟩ : ByteArray), (⟨#[93]⟩ : ByteArray), (⟨#[44]⟩ : ByteArray), (⟨#[59]⟩ : ByteArray), (⟨#[61]⟩ : ByteArray), (⟨#[60]⟩ : ByteArray), (⟨#[62]⟩ : ByteArray), (⟨#[33]⟩ : ByteArray), (⟨#[126]⟩ : ByteArray), (⟨#[43]⟩ : ByteArray), (⟨#[45]⟩ : ByteArray), (⟨#[42]⟩ : ByteArray), (⟨#[47]⟩ : ByteArray), (⟨#[37]⟩ : ByteArray), (⟨#[36]⟩ : ByteArray)] : List ByteArray))

/-! ### strings_HasPrefix -/
def strings_HasPrefix.f (a0 : ByteArray) (a1 : ByteArray) : Option (Bool) := some (Lib.hasPrefix a0.data.toList a1.data.toList)

/-! ### impl_tokenAt -/
mutual
def impl_tokenAt.j0 : Nat → ByteArray → Int → Bool → Int → Int → Bool → Int → ByteArray → Int → Int → Option (Int × ByteArray × Int × Int × Int)
  | 0, _, _, _, _, _, _, _, _, _, _ => none
  | k + 1, x0, x1, x2, x9, x10, x57, x227000, x227001, x227002, x227003 => if x57 = true then ((impl_numAt.f k x0 x1).bind fun bt229 => (some (2, x227001, bt229.1, x227003, bt229.2))) else (if x10 = 34 then ((impl_textAt.f k x0 x1).bind fun bt231 => (some (3, bt231.1, x227002, x227003, bt231.2))) else (if x10 = 47 then (impl_tokenAt.j1 k x0 x1 x9 (!x2) x227000 x227001 x227002 x227003) else (impl_tokenAt.j1 k x0 x1 x9 false x227000 x227001 x227002 x227003)))
def impl_tokenAt.j1 : Nat → ByteArray → Int → Int → Bool → Int → ByteArray → Int → Int → Option (Int × ByteArray × Int × Int × Int)
  | 0, _, _, _, _, _, _, _, _ => none
  | k + 1, x0, x1, x9, x83, x227000, x227001, x227002, x227003 => if x83 = true then ((impl_rexAt.f k x0 x1).bind fun bt233 => (some (4, bt233.1, x227002, x227003, bt233.2))) else ((impl_signsOf.f).bind fun t235 => (impl_tokenAt.l0 k x0 x1 x9 t235 (t235.length : Int) 0 x227000 x227001 x227002 x227003))
def impl_tokenAt.l0 : Nat → ByteArray → Int → Int → List ByteArray → Int → Int → Int → ByteArray → Int → Int → Option (Int × ByteArray × Int × Int × Int)
  | 0, _, _, _, _, _, _, _, _, _, _ => none
  | k + 1, x0, x1, x9, x19, x20, x21, x227000, x227001, x227002, x227003 => if x21 < x20 then (if 0 ≤ x21 then (if x21 < (x19.length : Int) then (if 0 ≤ x1 then (if x1 ≤ (x0.size : Int) then ((strings_HasPrefix.f (x0.extract (x1 : Int).toNat x0.size) (rdOf ByteArray.empty x19 x21)).bind fun t239 => (if t239 = true then (some (5, rdOf ByteArray.empty x19 x21, 0, x1, wrap64 (x1 + ((rdOf ByteArray.empty x19 x21).size : Int)))) else (impl_tokenAt.l0 k x0 x1 x9 x19 x20 (wrap64 (x21 + 1)) x227000 x227001 x227002 x227003))) else (none)) else (none)) else (none)) else (none)) else (some (x227000, x227001, x227002, x227003, x9))
end
def impl_tokenAt.f (k : Nat) (a0 : ByteArray) (a1 : Int) (a2 : Bool) : Option (Int × ByteArray × Int × Int × Int) := if 0 ≤ a1 then (if a1 < (a0.size : Int) then ((impl_isLetter.f (bt a0 a1)).bind fun t227 => (if t227 = true then ((impl_lettersAt.f k a0 a1).bind fun t228 => (if t228 ≤ 8 then (if a1 ≤ (wrap64 (a1 + t228)) then (if (wrap64 (a1 + t228)) ≤ (a0.size : Int) then (some (1, a0.extract (a1 : Int).toNat ((wrap64 (a1 + t228)) : Int).toNat, 0, a1, wrap64 (a1 + t228))) else (none)) else (none)) else (some (0, (⟨#[]⟩ : ByteArray), 0, a1, (-1))))) else (if (bt a0 a1) ≥ 48 then (impl_tokenAt.j0 k a0 a1 a2 (-1) (bt a0 a1) (decide ((bt a0 a1) ≤ 57)) 0 (⟨#[]⟩ : ByteArray) 0 a1) else (impl_tokenAt.j0 k a0 a1 a2 (-1) (bt a0 a1) false 0 (⟨#[]⟩ : ByteArray) 0 a1)))) else (none)) else (none)
theorem impl_tokenAt.mono_l : ∀ k, (∀ y0 y1 y2 y3 y4 y5 y6 y7 y8 y9, LeO (impl_tokenAt.j0 k y0 y1 y2 y3 y4 y5 y6 y7 y8 y9) (impl_tokenAt.j0 (k + 1) y0 y1 y2 y3 y4 y5 y6 y7 y8 y9)) ∧ (∀ y0 y1 y2 y3 y4 y5 y6 y7, LeO (impl_tokenAt.j1 k y0 y1 y2 y3 y4 y5 y6 y7) (impl_tokenAt.j1 (k + 1) y0 y1 y2 y3 y4 y5 y6 y7)) ∧ (∀ y0 y1 y2 y3 y4 y5 y6 y7 y8 y9, LeO (impl_tokenAt.l0 k y0 y1 y2 y3 y4 y5 y6 y7 y8 y9) (impl_tokenAt.l0 (k + 1) y0 y1 y2 y3 y4 y5 y6 y7 y8 y9))
  | 0 => ⟨fun _ _ _ _ _ _ _ _ _ _ r h => by simp [impl_tokenAt.j0] at h, fun _ _ _ _ _ _ _ _ r h => by simp [impl_tokenAt.j1] at h, fun _ _ _ _ _ _ _ _ _ _ r h => by simp [impl_tokenAt.l0] at h⟩
  | k + 1 => by
    obtain ⟨ih0, ih1, ih2⟩ := impl_tokenAt.mono_l k
    refine ⟨?_, ?_, ?_⟩
    · intro y0 y1 y2 y3 y4 y5 y6 y7 y8 y9
      unfold impl_tokenAt.j0
      repeat' first
      | (with_reducible exact ih0 _ _ _ _ _ _ _ _ _ _)
      | (with_reducible exact ih1 _ _ _ _ _ _ _ _)
      | (with_reducible exact ih2 _ _ _ _ _ _ _ _ _ _)
      | (with_reducible exact impl_lettersAt.mono _ _ _)
      | (with_reducible exact impl_numAt.mono _ _ _)
      | (with_reducible exact impl_rexAt.mono _ _ _)
      | (with_reducible exact impl_textAt.mono _ _ _)
      | (with_reducible exact LeO.refl _)
      | (with_reducible exact LeO.none _)
      | (with_reducible refine LeO.ite ?_ ?_)
      | (with_reducible refine LeO.bind ?_ (fun _ => ?_))
      | exact ih0 _ _ _ _ _ _ _ _ _ _
      | exact ih1 _ _ _ _ _ _ _ _
      | exact ih2 _ _ _ _ _ _ _ _ _ _
      | exact impl_lettersAt.mono _ _ _
      | exact impl_numAt.mono _ _ _
      | exact impl_rexAt.mono _ _ _
      | exact impl_textAt.mono _ _ _
      | exact LeO.none _
      | refine LeO.ite ?_ ?_
      | refine LeO.bind ?_ (fun _ => ?_)
    · intro y0 y1 y2 y3 y4 y5 y6 y7
      unfold impl_tokenAt.j1
      repeat' first
      | (with_reducible exact ih0 _ _ _ _ _ _ _ _ _ _)
      | (with_reducible exact ih1 _ _ _ _ _ _ _ _)
      | (with_reducible exact ih2 _ _ _ _ _ _ _ _ _ _)
      | (with_reducible exact impl_lettersAt.mono _ _ _)
      | (with_reducible exact impl_numAt.mono _ _ _)
      | (with_reducible exact impl_rexAt.mono _ _ _)
      | (with_reducible exact impl_textAt.mono _ _ _)
      | (with_reducible exact LeO.refl _)
      | (with_reducible exact LeO.none _)
      | (with_reducible refine LeO.ite ?_ ?_)
      | (with_reducible refine LeO.bind ?_ (fun _ => ?_))
      | exact ih0 _ _ _ _ _ _ _ _ _ _
      | exact ih1 _ _ _ _ _ _ _ _
      | exact ih2 _ _ _ _ _ _ _ _ _ _
      | exact impl_lettersAt.mono _ _ _
      | exact impl_numAt.mono _ _ _
      | exact impl_rexAt.mono _ _ _
      | exact impl_textAt.mono _ _ _
      | exact LeO.none _
      | refine LeO.ite ?_ ?_
      | refine LeO.bind ?_ (fun _ => ?_)
    · intro y0 y1 y2 y3 y4 y5 y6 y7 y8 y9
      unfold impl_tokenAt.l0
      repeat' first
      | (with_reducible exact ih0 _ _ _ _ _ _ _ _ _ _)
      | (with_reducible exact ih1 _ _ _ _ _ _ _ _)
      | (with_reducible exact ih2 _ _ _ _ _ _ _ _ _ _)
      | (with_reducible exact impl_lettersAt.mono _ _ _)
      | (with_reducible exact impl_numAt.mono _ _ _)
      | (with_reducible exact impl_rexAt.mono _ _ _)
      | (with_reducible exact impl_textAt.mono _ _ _)
      | (with_reducible exact LeO.refl _)
      | (with_reducible exact LeO.none _)
      | (with_reducible refine LeO.ite ?_ ?_)
      | (with_reducible refine LeO.bind ?_ (fun _ => ?_))
      | exact ih0 _ _ _ _ _ _ _ _ _ _
      | exact ih1 _ _ _ _ _ _ _ _
      | exact ih2 _ _ _ _ _ _ _ _ _ _
      | exact impl_lettersAt.mono _ _ _
      | exact impl_numAt.mono _ _ _
      | exact impl_rexAt.mono _ _ _
      | exact impl_textAt.mono _ _ _
      | exact LeO.none _
      | refine LeO.ite ?_ ?_
      | refine LeO.bind ?_ (fun _ => ?_)
theorem impl_tokenAt.mono : ∀ a0 a1 a2 k, LeO (impl_tokenAt.f k a0 a1 a2) (impl_tokenAt.f (k + 1) a0 a1 a2) := by
  intro a0 a1 a2 k
  obtain ⟨ih0, ih1, ih2⟩ := impl_tokenAt.mono_l k
  unfold impl_tokenAt.f
  repeat' first
      | (with_reducible exact ih0 _ _ _ _ _ _ _ _ _ _)
      | (with_reducible exact ih1 _ _ _ _ _ _ _ _)
      | (with_reducible exact ih2 _ _ _ _ _ _ _ _ _ _)
      | (with_reducible exact impl_lettersAt.mono _ _ _)
      | (with_reducible exact impl_numAt.mono _ _ _)
      | (with_reducible exact impl_rexAt.mono _ _ _)
      | (with_reducible exact impl_textAt.mono _ _ _)
      | (with_reducible exact LeO.refl _)
      | (with_reducible exact LeO.none _)
      | (with_reducible refine LeO.ite ?_ ?_)
      | (with_reducible refine LeO.bind ?_ (fun _ => ?_))
      | exact ih0 _ _ _ _ _ _ _ _ _ _
      | exact ih1 _ _ _ _ _ _ _ _
      | exact ih2 _ _ _ _ _ _ _ _ _ _
      | exact impl_lettersAt.mono _ _ _
      | exact impl_numAt.mono _ _ _
      | exact impl_rexAt.mono _ _ _
      | exact impl_textAt.mono _ _ _
      | exact LeO.none _
      | refine LeO.ite ?_ ?_
      | refine LeO.bind ?_ (fun _ => ?_)
noncomputable def impl_tokenAt.j0v (x0 : ByteArray) (x1 : Int) (x2 : Bool) (x9 : Int) (x10 : Int) (x57 : Bool) (x227000 : Int) (x227001 : ByteArray) (x227002 : Int) (x227003 : Int) : Option (Int × ByteArray × Int × Int × Int) := limOf (fun k => impl_tokenAt.j0 k x0 x1 x2 x9 x10 x57 x227000 x227001 x227002 x227003)
theorem impl_tokenAt.j0_lim (x0 : ByteArray) (x1 : Int) (x2 : Bool) (x9 : Int) (x10 : Int) (x57 : Bool) (x227000 : Int) (x227001 : ByteArray) (x227002 : Int) (x227003 : Int) : Lim (fun k => impl_tokenAt.j0 k x0 x1 x2 x9 x10 x57 x227000 x227001 x227002 x227003) (impl_tokenAt.j0v x0 x1 x2 x9 x10 x57 x227000 x227001 x227002 x227003) := Lim.of (fun k => (impl_tokenAt.mono_l k).1 x0 x1 x2 x9 x10 x57 x227000 x227001 x227002 x227003)
noncomputable def impl_tokenAt.j1v (x0 : ByteArray) (x1 : Int) (x9 : Int) (x83 : Bool) (x227000 : Int) (x227001 : ByteArray) (x227002 : Int) (x227003 : Int) : Option (Int × ByteArray × Int × Int × Int) := limOf (fun k => impl_tokenAt.j1 k x0 x1 x9 x83 x227000 x227001 x227002 x227003)
theorem impl_tokenAt.j1_lim (x0 : ByteArray) (x1 : Int) (x9 : Int) (x83 : Bool) (x227000 : Int) (x227001 : ByteArray) (x227002 : Int) (x227003 : Int) : Lim (fun k => impl_tokenAt.j1 k x0 x1 x9 x83 x227000 x227001 x227002 x227003) (impl_tokenAt.j1v x0 x1 x9 x83 x227000 x227001 x227002 x227003) := Lim.of (fun k => (impl_tokenAt.mono_l k).2.1 x0 x1 x9 x83 x227000 x227001 x227002 x227003)
noncomputable def impl_tokenAt.l0v (x0 : ByteArray) (x1 : Int) (x9 : Int) (x19 : List ByteArray) (x20 : Int) (x21 : Int) (x227000 : Int) (x227001 : ByteArray) (x227002 : Int) (x227003 : Int) : Option (Int × ByteArray × Int × Int × Int) := limOf (fun k => impl_tokenAt.l0 k x0 x1 x9 x19 x20 x21 x227000 x227001 x227002 x227003)
theorem impl_tokenAt.l0_lim (x0 : ByteArray) (x1 : Int) (x9 : Int) (x19 : List ByteArray) (x20 : Int) (x21 : Int) (x227000 : Int) (x227001 : ByteArray) (x227002 : Int) (x227003 : Int) : Lim (fun k => impl_tokenAt.l0 k x0 x1 x9 x19 x20 x21 x227000 x227001 x227002 x227003) (impl_tokenAt.l0v x0 x1 x9 x19 x20 x21 x227000 x227001 x227002 x227003) := Lim.of (fun k => (impl_tokenAt.mono_l k).2.2 x0 x1 x9 x19 x20 x21 x227000 x227001 x227002 x227003)
noncomputable def impl_tokenAt.fv (a0 : ByteArray) (a1 : Int) (a2 : Bool) : Option (Int × ByteArray × Int × Int × Int) := limOf (fun k => impl_tokenAt.f k a0 a1 a2)
theorem impl_tokenAt.f_lim (a0 : ByteArray) (a1 : Int) (a2 : Bool) : Lim (fun k => impl_tokenAt.f k a0 a1 a2) (impl_tokenAt.fv a0 a1 a2) := Lim.of (fun k => impl_tokenAt.mono a0 a1 a2 k)
set_option maxHeartbeats 4000000 in
theorem impl_tokenAt.j0v_eq (x0 : ByteArray) (x1 : Int) (x2 : Bool) (x9 : Int) (x10 : Int) (x57 : Bool) (x227000 : Int) (x227001 : ByteArray) (x227002 : Int) (x227003 : Int) : impl_tokenAt.j0v x0 x1 x2 x9 x10 x57 x227000 x227001 x227002 x227003 = (if x57 = true then ((impl_numAt.fv x0 x1).bind fun bt229 => (some (2, x227001, bt229.1, x227003, bt229.2))) else (if x10 = 34 then ((impl_textAt.fv x0 x1).bind fun bt231 => (some (3, bt231.1, x227002, x227003, bt231.2))) else (if x10 = 47 then (impl_tokenAt.j1v x0 x1 x9 (!x2) x227000 x227001 x227002 x227003) else (impl_tokenAt.j1v x0 x1 x9 false x227000 x227001 x227002 x227003)))) := by
  refine Lim.succ (impl_tokenAt.j0_lim x0 x1 x2 x9 x10 x57 x227000 x227001 x227002 x227003) ?_
  simp only [impl_tokenAt.j0]
  repeat' first
    | (with_reducible apply impl_numAt.f_lim)
    | (with_reducible apply impl_textAt.f_lim)
    | (with_reducible apply impl_tokenAt.j1_lim)
    | (with_reducible exact Lim.const _)
    | (with_reducible refine Lim.ite ?_ ?_)
    | (with_reducible refine Lim.bind ?_ (fun _ => ?_))
    | apply impl_numAt.f_lim
    | apply impl_textAt.f_lim
    | apply impl_tokenAt.j1_lim
    | exact Lim.const _
    | refine Lim.ite ?_ ?_
    | refine Lim.bind ?_ (fun _ => ?_)
set_option maxHeartbeats 4000000 in
theorem impl_tokenAt.j1v_eq (x0 : ByteArray) (x1 : Int) (x9 : Int) (x83 : Bool) (x227000 : Int) (x227001 : ByteArray) (x227002 : Int) (x227003 : Int) : impl_tokenAt.j1v x0 x1 x9 x83 x227000 x227001 x227002 x227003 = (if x83 = true then ((impl_rexAt.fv x0 x1).bind fun bt233 => (some (4, bt233.1, x227002, x227003, bt233.2))) else ((impl_signsOf.f).bind fun t235 => (impl_tokenAt.l0v x0 x1 x9 t235 (t235.length : Int) 0 x227000 x227001 x227002 x227003))) := by
  refine Lim.succ (impl_tokenAt.j1_lim x0 x1 x9 x83 x227000 x227001 x227002 x227003) ?_
  simp only [impl_tokenAt.j1]
  repeat' first
    | (with_reducible apply impl_rexAt.f_lim)
    | (with_reducible apply impl_tokenAt.l0_lim)
    | (with_reducible exact Lim.const _)
    | (with_reducible refine Lim.ite ?_ ?_)
    | (with_reducible refine Lim.bind ?_ (fun _ => ?_))
    | apply impl_rexAt.f_lim
    | apply impl_tokenAt.l0_lim
    | exact Lim.const _
    | refine Lim.ite ?_ ?_
    | refine Lim.bind ?_ (fun _ => ?_)
set_option maxHeartbeats 4000000 in
theorem impl_tokenAt.l0v_eq (x0 : ByteArray) (x1 : Int) (x9 : Int) (x19 : List ByteArray) (x20 : Int) (x21 : Int) (x227000 : Int) (x227001 : ByteArray) (x227002 : Int) (x227003 : Int) : impl_tokenAt.l0v x0 x1 x9 x19 x20 x21 x227000 x227001 x227002 x227003 = (if x21 < x20 then (if 0 ≤ x21 then (if x21 < (x19.length : Int) then (if 0 ≤ x1 then (if x1 ≤ (x0.size : Int) then ((strings_HasPrefix.f (x0.extract (x1 : Int).toNat x0.size) (rdOf ByteArray.empty x19 x21)).bind fun t239 => (if t239 = true then (some (5, rdOf ByteArray.empty x19 x21, 0, x1, wrap64 (x1 + ((rdOf ByteArray.empty x19 x21).size : Int)))) else (impl_tokenAt.l0v x0 x1 x9 x19 x20 (wrap64 (x21 + 1)) x227000 x227001 x227002 x227003))) else (none)) else (none)) else (none)) else (none)) else (some (x227000, x227001, x227002, x227003, x9))) := by
  refine Lim.succ (impl_tokenAt.l0_lim x0 x1 x9 x19 x20 x21 x227000 x227001 x227002 x227003) ?_
  simp only [impl_tokenAt.l0]
  repeat' first
    | (with_reducible apply impl_tokenAt.l0_lim)
    | (with_reducible exact Lim.const _)
    | (with_reducible refine Lim.ite ?_ ?_)
    | (with_reducible refine Lim.bind ?_ (fun _ => ?_))
    | apply impl_tokenAt.l0_lim
    | exact Lim.const _
    | refine Lim.ite ?_ ?_
    | refine Lim.bind ?_ (fun _ => ?_)
set_option maxHeartbeats 4000000 in
theorem impl_tokenAt.fv_eq (a0 : ByteArray) (a1 : Int) (a2 : Bool) : impl_tokenAt.fv a0 a1 a2 = (if 0 ≤ a1 then (if a1 < (a0.size : Int) then ((impl_isLetter.f (bt a0 a1)).bind fun t227 => (if t227 = true then ((impl_lettersAt.fv a0 a1).bind fun t228 => (if t228 ≤ 8 then (if a1 ≤ (wrap64 (a1 + t228)) then (if (wrap64 (a1 + t228)) ≤ (a0.size : Int) then (some (1, a0.extract (a1 : Int).toNat ((wrap64 (a1 + t228)) : Int).toNat, 0, a1, wrap64 (a1 + t228))) else (none)) else (none)) else (some (0, (⟨#[]⟩ : ByteArray), 0, a1, (-1))))) else (if (bt a0 a1) ≥ 48 then (impl_tokenAt.j0v a0 a1 a2 (-1) (bt a0 a1) (decide ((bt a0 a1) ≤ 57)) 0 (⟨#[]⟩ : ByteArray) 0 a1) else (impl_tokenAt.j0v a0 a1 a2 (-1) (bt a0 a1) false 0 (⟨#[]⟩ : ByteArray) 0 a1)))) else (none)) else (none)) := by
  refine Lim.eq (impl_tokenAt.f_lim a0 a1 a2) ?_
  simp only [impl_tokenAt.f]
  repeat' first
    | (with_reducible apply impl_lettersAt.f_lim)
    | (with_reducible apply impl_tokenAt.j0_lim)
    | (with_reducible exact Lim.const _)
    | (with_reducible refine Lim.ite ?_ ?_)
    | (with_reducible refine Lim.bind ?_ (fun _ => ?_))
    | apply impl_lettersAt.f_lim
    | apply impl_tokenAt.j0_lim
    | exact Lim.const _
    | refine Lim.ite ?_ ?_
    | refine Lim.bind ?_ (fun _ => ?_)

/-! ### impl_isValue -/
def impl_isValue.f (a0_0 : Int) (a0_1 : ByteArray) (a0_2 : Int) (a0_3 : Int) : Option (Bool) := if a0_0 = 1 then (some true) else (if a0_0 = 2 then (some true) else (if a0_0 = 3 then (some true) else (if a0_0 = 4 then (some true) else (if a0_0 = 5 then (if a0_1.toList = ([41] : List UInt8) then (some true) else (some (a0_1.toList == ([93] : List UInt8)))) else (some false)))))

/-! ### impl_Tokens -/
def impl_Tokens.l0 : Nat → ByteArray → List (S32) → Int → Option ((List (S32)) × Int)
  | 0, _, _, _ => none
  | k + 1, x0, x4, x5 => if x5 < (x0.size : Int) then (if (x4.length : Int) > 0 then (if 0 ≤ (wrap64 ((x4.length : Int) - 1)) then (if (wrap64 ((x4.length : Int) - 1)) < (x4.length : Int) then ((impl_isValue.f ((rd_T32 x4 (wrap64 ((x4.length : Int) - 1))).f0) ((rd_T32 x4 (wrap64 ((x4.length : Int) - 1))).f1) ((rd_T32 x4 (wrap64 ((x4.length : Int) - 1))).f2) ((rd_T32 x4 (wrap64 ((x4.length : Int) - 1))).f3)).bind fun t249 => ((impl_tokenAt.f k x0 x5 t249).bind fun bt250 => (if bt250.2.2.2.2 < 0 then (some (([] : List (S32)), x5)) else (if x4.length < 3518437208883 then ((impl_skip.f k x0 bt250.2.2.2.2).bind fun t259 => (impl_Tokens.l0 k x0 (x4 ++ [(⟨bt250.1, bt250.2.1, bt250.2.2.1, bt250.2.2.2.1⟩ : S32)]) t259)) else (none))))) else (none)) else (none)) else ((impl_tokenAt.f k x0 x5 false).bind fun bt260 => (if bt260.2.2.2.2 < 0 then (some (([] : List (S32)), x5)) else (if x4.length < 3518437208883 then ((impl_skip.f k x0 bt260.2.2.2.2).bind fun t269 => (impl_Tokens.l0 k x0 (x4 ++ [(⟨bt260.1, bt260.2.1, bt260.2.2.1, bt260.2.2.2.1⟩ : S32)]) t269)) else (none))))) else (if x4.length < 3518437208883 then (some ((x4 ++ [(⟨0, (⟨#[]⟩ : ByteArray), 0, (x0.size : Int)⟩ : S32)]), (-1))) else (none))
def impl_Tokens.f (k : Nat) (a0 : ByteArray) : Option ((List (S32)) × Int) := if (a0.size : Int) > 2000 then (some (([] : List (S32)), 0)) else ((impl_skip.f k a0 0).bind fun t244 => (impl_Tokens.l0 k a0 (([] : List (S32))) t244))
theorem impl_Tokens.mono_l : ∀ k, (∀ y0 y1 y2, LeO (impl_Tokens.l0 k y0 y1 y2) (impl_Tokens.l0 (k + 1) y0 y1 y2))
  | 0 => fun _ _ _ r h => by simp [impl_Tokens.l0] at h
  | k + 1 => by
    have ih0 := impl_Tokens.mono_l k
    · intro y0 y1 y2
      unfold impl_Tokens.l0
      repeat' first
      | (with_reducible exact ih0 _ _ _)
      | (with_reducible exact impl_skip.mono _ _ _)
      | (with_reducible exact impl_tokenAt.mono _ _ _ _)
      | (with_reducible exact LeO.refl _)
      | (with_reducible exact LeO.none _)
      | (with_reducible refine LeO.ite ?_ ?_)
      | (with_reducible refine LeO.bind ?_ (fun _ => ?_))
      | exact ih0 _ _ _
      | exact impl_skip.mono _ _ _
      | exact impl_tokenAt.mono _ _ _ _
      | exact LeO.none _
      | refine LeO.ite ?_ ?_
      | refine LeO.bind ?_ (fun _ => ?_)
theorem impl_Tokens.mono : ∀ a0 k, LeO (impl_Tokens.f k a0) (impl_Tokens.f (k + 1) a0) := by
  intro a0 k
  have ih0 := impl_Tokens.mono_l k
  unfold impl_Tokens.f
  repeat' first
      | (with_reducible exact ih0 _ _ _)
      | (with_reducible exact impl_skip.mono _ _ _)
      | (with_reducible exact impl_tokenAt.mono _ _ _ _)
      | (with_reducible exact LeO.refl _)
      | (with_reducible exact LeO.none _)
      | (with_reducible refine LeO.ite ?_ ?_)
      | (with_reducible refine LeO.bind ?_ (fun _ => ?_))
      | exact ih0 _ _ _
      | exact impl_skip.mono _ _ _
      | exact impl_tokenAt.mono _ _ _ _
      | exact LeO.none _
      | refine LeO.ite ?_ ?_
      | refine LeO.bind ?_ (fun _ => ?_)
noncomputable def impl_Tokens.l0v (x0 : ByteArray) (x4 : List (S32)) (x5 : Int) : Option ((List (S32)) × Int) := limOf (fun k => impl_Tokens.l0 k x0 x4 x5)
theorem impl_Tokens.l0_lim (x0 : ByteArray) (x4 : List (S32)) (x5 : Int) : Lim (fun k => impl_Tokens.l0 k x0 x4 x5) (impl_Tokens.l0v x0 x4 x5) := Lim.of (fun k => impl_Tokens.mono_l k x0 x4 x5)
noncomputable def impl_Tokens.fv (a0 : ByteArray) : Option ((List (S32)) × Int) := limOf (fun k => impl_Tokens.f k a0)
theorem impl_Tokens.f_lim (a0 : ByteArray) : Lim (fun k => impl_Tokens.f k a0) (impl_Tokens.fv a0) := Lim.of (fun k => impl_Tokens.mono a0 k)
set_option maxHeartbeats 4000000 in
theorem impl_Tokens.l0v_eq (x0 : ByteArray) (x4 : List (S32)) (x5 : Int) : impl_Tokens.l0v x0 x4 x5 = (if x5 < (x0.size : Int) then (if (x4.length : Int) > 0 then (if 0 ≤ (wrap64 ((x4.length : Int) - 1)) then (if (wrap64 ((x4.length : Int) - 1)) < (x4.length : Int) then ((impl_isValue.f ((rd_T32 x4 (wrap64 ((x4.length : Int) - 1))).f0) ((rd_T32 x4 (wrap64 ((x4.length : Int) - 1))).f1) ((rd_T32 x4 (wrap64 ((x4.length : Int) - 1))).f2) ((rd_T32 x4 (wrap64 ((x4.length : Int) - 1))).f3)).bind fun t249 => ((impl_tokenAt.fv x0 x5 t249).bind fun bt250 => (if bt250.2.2.2.2 < 0 then (some (([] : List (S32)), x5)) else (if x4.length < 3518437208883 then ((impl_skip.fv x0 bt250.2.2.2.2).bind fun t259 => (impl_Tokens.l0v x0 (x4 ++ [(⟨bt250.1, bt250.2.1, bt250.2.2.1, bt250.2.2.2.1⟩ : S32)]) t259)) else (none))))) else (none)) else (none)) else ((impl_tokenAt.fv x0 x5 false).bind fun bt260 => (if bt260.2.2.2.2 < 0 then (some (([] : List (S32)), x5)) else (if x4.length < 3518437208883 then ((impl_skip.fv x0 bt260.2.2.2.2).bind fun t269 => (impl_Tokens.l0v x0 (x4 ++ [(⟨bt260.1, bt260.2.1, bt260.2.2.1, bt260.2.2.2.1⟩ : S32)]) t269)) else (none))))) else (if x4.length < 3518437208883 then (some ((x4 ++ [(⟨0, (⟨#[]⟩ : ByteArray), 0, (x0.size : Int)⟩ : S32)]), (-1))) else (none))) := by
  refine Lim.succ (impl_Tokens.l0_lim x0 x4 x5) ?_
  simp only [impl_Tokens.l0]
  repeat' first
    | (with_reducible apply impl_Tokens.l0_lim)
    | (with_reducible apply impl_skip.f_lim)
    | (with_reducible apply impl_tokenAt.f_lim)
    | (with_reducible exact Lim.const _)
    | (with_reducible refine Lim.ite ?_ ?_)
    | (with_reducible refine Lim.bind ?_ (fun _ => ?_))
    | apply impl_Tokens.l0_lim
    | apply impl_skip.f_lim
    | apply impl_tokenAt.f_lim
    | exact Lim.const _
    | refine Lim.ite ?_ ?_
    | refine Lim.bind ?_ (fun _ => ?_)
set_option maxHeartbeats 4000000 in
theorem impl_Tokens.fv_eq (a0 : ByteArray) : impl_Tokens.fv a0 = (if (a0.size : Int) > 2000 then (some (([] : List (S32)), 0)) else ((impl_skip.fv a0 0).bind fun t244 => (impl_Tokens.l0v a0 (([] : List (S32))) t244))) := by
  refine Lim.eq (impl_Tokens.f_lim a0) ?_
  simp only [impl_Tokens.f]
  repeat' first
    | (with_reducible apply impl_Tokens.l0_lim)
    | (with_reducible apply impl_skip.f_lim)
    | (with_reducible exact Lim.const _)
    | (with_reducible refine Lim.ite ?_ ?_)
    | (with_reducible refine Lim.bind ?_ (fun _ => ?_))
    | apply impl_Tokens.l0_lim
    | apply impl_skip.f_lim
    | exact Lim.const _
    | refine Lim.ite ?_ ?_
    | refine Lim.bind ?_ (fun _ => ?_)

/-! ### laws_big -/
def laws_big.f (l0 : List Int) : Option (Bool) := some (decide ((l0.length : Int) > 1048576))

/-! ### spec_l1New -/
def spec_l1New.l0 : Nat → List Int → Int → Int → Option (List Int × Int × Int)
  | 0, _, _, _ => none
  | k + 1, x0, x3, x4 => if x4 < (x0.length : Int) then (if x4 < 4000 then (if 0 ≤ x4 then (spec_l1New.l0 k x0 (Go.bits .and .i64 (wrap64 ((wrap64 ((wrap64 (x3 * 131)) + (wrap64 (rd x0 x4)))) + 7)) 1073741823) (wrap64 (x4 + 1))) else (none)) else (some (x0, 0, x3))) else (some (x0, 0, x3))
def spec_l1New.f (k : Nat) (l0 : List Int) : Option (List Int × Int × Int) := spec_l1New.l0 k l0 (wrap64 (20700 + (l0.length : Int))) 0
theorem spec_l1New.mono_l : ∀ k, (∀ y0 y1 y2, LeO (spec_l1New.l0 k y0 y1 y2) (spec_l1New.l0 (k + 1) y0 y1 y2))
  | 0 => fun _ _ _ r h => by simp [spec_l1New.l0] at h
  | k + 1 => by
    have ih0 := spec_l1New.mono_l k
    · intro y0 y1 y2
      unfold spec_l1New.l0
      repeat' first
      | (with_reducible exact ih0 _ _ _)
      | (with_reducible exact LeO.refl _)
      | (with_reducible exact LeO.none _)
      | (with_reducible refine LeO.ite ?_ ?_)
      | (with_reducible refine LeO.bind ?_ (fun _ => ?_))
      | exact ih0 _ _ _
      | exact LeO.none _
      | refine LeO.ite ?_ ?_
      | refine LeO.bind ?_ (fun _ => ?_)
theorem spec_l1New.mono : ∀ a0 k, LeO (spec_l1New.f k a0) (spec_l1New.f (k + 1) a0) := by
  intro a0 k
  have ih0 := spec_l1New.mono_l k
  unfold spec_l1New.f
  repeat' first
      | (with_reducible exact ih0 _ _ _)
      | (with_reducible exact LeO.refl _)
      | (with_reducible exact LeO.none _)
      | (with_reducible refine LeO.ite ?_ ?_)
      | (with_reducible refine LeO.bind ?_ (fun _ => ?_))
      | exact ih0 _ _ _
      | exact LeO.none _
      | refine LeO.ite ?_ ?_
      | refine LeO.bind ?_ (fun _ => ?_)
noncomputable def spec_l1New.l0v (x0 : List Int) (x3 : Int) (x4 : Int) : Option (List Int × Int × Int) := limOf (fun k => spec_l1New.l0 k x0 x3 x4)
theorem spec_l1New.l0_lim (x0 : List Int) (x3 : Int) (x4 : Int) : Lim (fun k => spec_l1New.l0 k x0 x3 x4) (spec_l1New.l0v x0 x3 x4) := Lim.of (fun k => spec_l1New.mono_l k x0 x3 x4)
noncomputable def spec_l1New.fv (l0 : List Int) : Option (List Int × Int × Int) := limOf (fun k => spec_l1New.f k l0)
theorem spec_l1New.f_lim (l0 : List Int) : Lim (fun k => spec_l1New.f k l0) (spec_l1New.fv l0) := Lim.of (fun k => spec_l1New.mono l0 k)
set_option maxHeartbeats 4000000 in
theorem spec_l1New.l0v_eq (x0 : List Int) (x3 : Int) (x4 : Int) : spec_l1New.l0v x0 x3 x4 = (if x4 < (x0.length : Int) then (if x4 < 4000 then (if 0 ≤ x4 then (spec_l1New.l0v x0 (Go.bits .and .i64 (wrap64 ((wrap64 ((wrap64 (x3 * 131)) + (wrap64 (rd x0 x4)))) + 7)) 1073741823) (wrap64 (x4 + 1))) else (none)) else (some (x0, 0, x3))) else (some (x0, 0, x3))) := by
  refine Lim.succ (spec_l1New.l0_lim x0 x3 x4) ?_
  simp only [spec_l1New.l0]
  repeat' first
    | (with_reducible apply spec_l1New.l0_lim)
    | (with_reducible exact Lim.const _)
    | (with_reducible refine Lim.ite ?_ ?_)
    | (with_reducible refine Lim.bind ?_ (fun _ => ?_))
    | apply spec_l1New.l0_lim
    | exact Lim.const _
    | refine Lim.ite ?_ ?_
    | refine Lim.bind ?_ (fun _ => ?_)
set_option maxHeartbeats 4000000 in
theorem spec_l1New.fv_eq (l0 : List Int) : spec_l1New.fv l0 = (spec_l1New.l0v l0 (wrap64 (20700 + (l0.length : Int))) 0) := by
  refine Lim.eq (spec_l1New.f_lim l0) ?_
  simp only [spec_l1New.f]
  repeat' first
    | (with_reducible apply spec_l1New.l0_lim)
    | (with_reducible exact Lim.const _)
    | (with_reducible refine Lim.ite ?_ ?_)
    | (with_reducible refine Lim.bind ?_ (fun _ => ?_))
    | apply spec_l1New.l0_lim
    | exact Lim.const _
    | refine Lim.ite ?_ ?_
    | refine Lim.bind ?_ (fun _ => ?_)

/-! ### spec_l1Byte -/
def spec_l1Byte.f (s0_0 : List Int) (s0_1 : Int) (s0_2 : Int) : Option (Int × Int × Int) := if s0_1 < (s0_0.length : Int) then (if 0 ≤ s0_1 then (some (Go.bits .and .i64 (wrap64 ((Go.bits .and .i64 (Go.bits .xor .i64 ((wrap64 ((wrap64 (s0_2 * 6364136223846793005)) + 1442695040888963407)) / 8589934592) ((wrap64 ((wrap64 (s0_2 * 6364136223846793005)) + 1442695040888963407)) / 35184372088832)) 255) + (wrap64 (rd s0_0 s0_1)))) 255, wrap64 (s0_1 + 1), wrap64 ((wrap64 (s0_2 * 6364136223846793005)) + 1442695040888963407))) else (none)) else (some (Go.bits .and .i64 (Go.bits .xor .i64 ((wrap64 ((wrap64 (s0_2 * 6364136223846793005)) + 1442695040888963407)) / 8589934592) ((wrap64 ((wrap64 (s0_2 * 6364136223846793005)) + 1442695040888963407)) / 35184372088832)) 255, s0_1, wrap64 ((wrap64 (s0_2 * 6364136223846793005)) + 1442695040888963407)))

/-! ### spec_l1Below -/
def spec_l1Below.f (s0_0 : List Int) (s0_1 : Int) (s0_2 : Int) (a1 : Int) : Option (Int × Int × Int) := if a1 ≤ 0 then (some (0, s0_1, s0_2)) else (if a1 ≤ 256 then ((spec_l1Byte.f s0_0 s0_1 s0_2).bind fun bt274 => (if a1 = 0 then (none) else (some (Int.tmod bt274.1 a1, bt274.2.1, bt274.2.2)))) else ((spec_l1Byte.f s0_0 s0_1 s0_2).bind fun bt277 => ((spec_l1Byte.f s0_0 bt277.2.1 bt277.2.2).bind fun bt280 => ((spec_l1Byte.f s0_0 bt280.2.1 bt280.2.2).bind fun bt283 => ((spec_l1Byte.f s0_0 bt283.2.1 bt283.2.2).bind fun bt286 => (if a1 = 0 then (none) else (some (Int.tmod (wrap64 ((wrap64 ((wrap64 ((wrap64 (bt277.1 * 16777216)) + (wrap64 (bt280.1 * 65536)))) + (wrap64 (bt283.1 * 256)))) + bt286.1)) a1, bt286.2.1, bt286.2.2))))))))

/-! ### spec_l1Pick -/
def spec_l1Pick.f (s0_0 : List Int) (s0_1 : Int) (s0_2 : Int) (l1 : List ByteArray) : Option (ByteArray × Int × Int) := (spec_l1Below.f s0_0 s0_1 s0_2 (l1.length : Int)).bind fun bt289 => (if 0 ≤ bt289.1 then (if bt289.1 < (l1.length : Int) then (some (rdOf ByteArray.empty l1 bt289.1, bt289.2.1, bt289.2.2)) else (none)) else (none))

/-! ### spec_l7Dent -/
def spec_l7Dent.f (s0_0 : List Int) (s0_1 : Int) (s0_2 : Int) (a1 : ByteArray) : Option (ByteArray × Int × Int) := (spec_l1Below.f s0_0 s0_1 s0_2 (wrap64 ((a1.size : Int) + 1))).bind fun bt293 => ((spec_l1Below.f s0_0 bt293.2.1 bt293.2.2 6).bind fun bt296 => (if bt296.1 = 0 then (if 0 ≤ bt293.1 then (if bt293.1 ≤ (a1.size : Int) then (some (a1.extract 0 (bt293.1 : Int).toNat, bt296.2.1, bt296.2.2)) else (none)) else (none)) else (if bt296.1 = 1 then (if 0 ≤ bt293.1 then (if bt293.1 ≤ (a1.size : Int) then ((spec_l1Pick.f s0_0 bt296.2.1 bt296.2.2 (([(⟨#[32]⟩ : ByteArray), (⟨#[59]⟩ : ByteArray), (⟨#[40]⟩ : ByteArray), (⟨#[125]⟩ : ByteArray), (⟨#[123]⟩ : ByteArray), (⟨#[48]⟩ : ByteArray), (⟨#[120]⟩ : ByteArray), (⟨#[35]⟩ : ByteArray), (⟨#[61]⟩ : ByteArray), (⟨#[47]⟩ : ByteArray), (⟨#[34]⟩ : ByteArray), (⟨#[45]⟩ : ByteArray), (⟨#[36]⟩ : ByteArray), (⟨#[92]⟩ : ByteArray), (⟨#[33]⟩ : ByteArray), (⟨#[66, 69, 71, 73, 78, 32]⟩ : ByteArray)] : List ByteArray))).bind fun bt302 => (if (a1.extract 0 (bt293.1 : Int).toNat).size + bt302.1.size ≤ 9223372036854775807 then (if ((a1.extract 0 (bt293.1 : Int).toNat) ++ bt302.1).size + (a1.extract (bt293.1 : Int).toNat a1.size).size ≤ 9223372036854775807 then (some (((a1.extract 0 (bt293.1 : Int).toNat) ++ bt302.1) ++ (a1.extract (bt293.1 : Int).toNat a1.size), bt302.2.1, bt302.2.2)) else (none)) else (none))) else (none)) else (none)) else (some (a1, bt296.2.1, bt296.2.2)))))

/-! ### spec_l7Programs -/
def spec_l7Programs.f  : Option (List ByteArray) := some (([(⟨#[123, 32, 110, 32, 43, 61, 32, 49, 59, 32, 115, 91, 36, 49, 93, 32, 43, 61, 32, 36, 50, 59, 32, 112, 114, 105, 110, 116, 32, 110, 44, 32, 36, 49, 44, 32, 115, 91, 36, 49, 93, 59, 32, 125, 10]⟩ : ByteArray), (⟨#[66, 69, 71, 73, 78, 32, 123, 32, 112, 114, 105, 110, 116, 32, 34, 115, 116, 97, 114, 116, 34, 59, 32, 125, 10, 47, 94, 97, 47, 32, 123, 32, 97, 32, 43, 61, 32, 49, 59, 32, 112, 114, 105, 110, 116, 32, 34, 97, 34, 44, 32, 97, 59, 32, 110, 101, 120, 116, 59, 32, 125, 10, 36, 49, 32, 62, 32, 53, 32, 123, 32, 112, 114, 105, 110, 116, 32, 36, 49, 32, 42, 32, 50, 32, 47, 32, 51, 59, 32, 125, 10, 78, 82, 32, 60, 32, 51, 32, 123, 32, 112, 114, 105, 110, 116, 32, 78, 70, 32, 34, 58, 34, 32, 36, 48, 59, 32, 125, 10]⟩ : ByteArray), (⟨#[123, 32, 105, 32, 61, 32, 49, 59, 32, 119, 104, 105, 108, 101, 32, 40, 105, 32, 60, 61, 32, 78, 70, 41, 32, 123, 32, 119, 91, 36, 105, 93, 32, 43, 61, 32, 49, 59, 32, 112, 114, 105, 110, 116, 32, 36, 105, 32, 34, 61, 34, 32, 119, 91, 36, 105, 93, 59, 32, 105, 32, 43, 61, 32, 49, 59, 32, 125, 32, 125, 10]⟩ : ByteArray), (⟨#[108, 101, 110, 103, 116, 104, 40, 36, 48, 41, 32, 62, 32, 51, 32, 38, 38, 32, 33, 40, 36, 49, 32, 126, 32, 47, 98, 43, 99, 47, 41, 32, 123, 32, 112, 114, 105, 110, 116, 32, 115, 117, 98, 115, 116, 114, 40, 36, 48, 44, 32, 50, 44, 32, 51, 41, 44, 32, 117, 112, 112, 101, 114, 40, 36, 49, 41, 44, 32, 105, 110, 100, 101, 120, 40, 36, 48, 44, 32, 34, 97, 34, 41, 59, 32, 125, 10, 123, 32, 105, 102, 32, 40, 36, 49, 32, 61, 61, 32, 34, 120, 34, 41, 32, 123, 32, 100, 101, 108, 101, 116, 101, 32, 107, 91, 36, 50, 93, 59, 32, 125, 32, 101, 108, 115, 101, 32, 123, 32, 107, 91, 36, 50, 93, 32, 61, 32, 107, 91, 36, 50, 93, 32, 43, 32, 49, 59, 32, 125, 32, 112, 114, 105, 110, 116, 32, 107, 91, 36, 50, 93, 32, 43, 32, 48, 59, 32, 125, 10]⟩ : ByteArray), (⟨#[123, 32, 116, 32, 61, 32, 116, 32, 36, 49, 32, 34, 46, 34, 59, 32, 112, 114, 105, 110, 116, 32, 116, 44, 32, 45, 36, 49, 32, 37, 32, 51, 44, 32, 105, 110, 116, 40, 36, 49, 32, 47, 32, 50, 41, 59, 32, 105, 102, 32, 40, 108, 101, 110, 103, 116, 104, 40, 116, 41, 32, 62, 32, 49, 50, 41, 32, 123, 32, 116, 32, 61, 32, 34, 34, 59, 32, 125, 32, 125, 10]⟩ : ByteArray), (⟨#[36, 49, 32, 123, 32, 112, 114, 105, 110, 116, 32, 49, 32, 47, 32, 40, 36, 49, 32, 45, 32, 52, 41, 59, 32, 125, 10, 123, 32, 119, 104, 105, 108, 101, 32, 40, 49, 41, 32, 123, 32, 105, 32, 43, 61, 32, 49, 59, 32, 125, 32, 125, 10]⟩ : ByteArray), (⟨#[78, 82, 32, 61, 61, 32, 49, 123, 32, 112, 114, 105, 110, 116, 32, 34, 102, 105, 114, 115, 116, 34, 59, 32, 125, 10]⟩ : ByteArray)] : List ByteArray))

/-! ### spec_l7DrawSource -/
def spec_l7DrawSource.f (s0_0 : List Int) (s0_1 : Int) (s0_2 : Int) : Option (ByteArray × Int × Int) := (spec_l7Programs.f).bind fun t308 => ((spec_l1Pick.f s0_0 s0_1 s0_2 t308).bind fun bt311 => (some (bt311.1, bt311.2.1, bt311.2.2)))

/-! ### spec_l1Once -/
def spec_l1Once.f (s0_0 : List Int) (s0_1 : Int) (s0_2 : Int) (a1 : Int) : Option (Bool × Int × Int) := (spec_l1Below.f s0_0 s0_1 s0_2 a1).bind fun bt314 => (some ((bt314.1 == 0), bt314.2.1, bt314.2.2))

/-! ### spec_DrawTokens -/
mutual
def spec_DrawTokens.j1 : Nat → ByteArray → List Int → Int → Int → Option (ByteArray)
  | 0, _, _, _, _ => none
  | k + 1, x4, x321000, x321001, x321002 => (spec_l1Once.f x321000 x321001 x321002 12).bind fun bt333 => (if bt333.1 = true then ((spec_l1Pick.f x321000 bt333.2.1 bt333.2.2 (([(⟨#[49, 46, 50, 51, 52, 53, 54, 55, 56]⟩ : ByteArray), (⟨#[49, 46, 50, 51, 52, 53, 54, 55, 32, 50, 46, 53, 46, 49]⟩ : ByteArray), (⟨#[34, 97, 92, 34, 98, 34]⟩ : ByteArray), (⟨#[47, 97, 92, 47, 98, 47]⟩ : ByteArray), (⟨#[97, 32, 47, 32, 98, 32, 47, 32, 99]⟩ : ByteArray), (⟨#[57, 48, 48, 48, 48, 48, 49]⟩ : ByteArray), (⟨#[97, 98, 99, 100, 101, 102, 103, 104, 105]⟩ : ByteArray), (⟨#[34, 120]⟩ : ByteArray)] : List ByteArray))).bind fun bt339 => (some bt339.1)) else (some x4))
def spec_DrawTokens.l0 : Nat → ByteArray → List Int → Int → Int → Option (ByteArray)
  | 0, _, _, _, _ => none
  | k + 1, x4, x321000, x321001, x321002 => (spec_l1Below.f x321000 x321001 x321002 2).bind fun bt330 => (if (x4.size : Int) < (wrap64 (2000 + bt330.1)) then (if x4.size + 1 ≤ 9223372036854775807 then (spec_DrawTokens.l0 k (x4 ++ (⟨#[32]⟩ : ByteArray)) x321000 bt330.2.1 bt330.2.2) else (none)) else (spec_DrawTokens.j1 k x4 x321000 bt330.2.1 bt330.2.2))
end
def spec_DrawTokens.f (k : Nat) (l0 : List Int) : Option (ByteArray) := (spec_l1New.f k l0).bind fun bt317 => ((spec_l7DrawSource.f bt317.1 bt317.2.1 bt317.2.2).bind fun bt321 => ((spec_l7Dent.f bt317.1 bt321.2.1 bt321.2.2 bt321.1).bind fun bt324 => ((spec_l1Once.f bt317.1 bt324.2.1 bt324.2.2 40).bind fun bt327 => (if bt327.1 = true then (spec_DrawTokens.l0 k bt324.1 bt317.1 bt327.2.1 bt327.2.2) else (spec_DrawTokens.j1 k bt324.1 bt317.1 bt327.2.1 bt327.2.2)))))
theorem spec_DrawTokens.mono_l : ∀ k, (∀ y0 y1 y2 y3, LeO (spec_DrawTokens.j1 k y0 y1 y2 y3) (spec_DrawTokens.j1 (k + 1) y0 y1 y2 y3)) ∧ (∀ y0 y1 y2 y3, LeO (spec_DrawTokens.l0 k y0 y1 y2 y3) (spec_DrawTokens.l0 (k + 1) y0 y1 y2 y3))
  | 0 => ⟨fun _ _ _ _ r h => by simp [spec_DrawTokens.j1] at h, fun _ _ _ _ r h => by simp [spec_DrawTokens.l0] at h⟩
  | k + 1 => by
    obtain ⟨ih0, ih1⟩ := spec_DrawTokens.mono_l k
    refine ⟨?_, ?_⟩
    · intro y0 y1 y2 y3
      unfold spec_DrawTokens.j1
      repeat' first
      | (with_reducible exact ih0 _ _ _ _)
      | (with_reducible exact ih1 _ _ _ _)
      | (with_reducible exact spec_l1New.mono _ _)
      | (with_reducible exact LeO.refl _)
      | (with_reducible exact LeO.none _)
      | (with_reducible refine LeO.ite ?_ ?_)
      | (with_reducible refine LeO.bind ?_ (fun _ => ?_))
      | exact ih0 _ _ _ _
      | exact ih1 _ _ _ _
      | exact spec_l1New.mono _ _
      | exact LeO.none _
      | refine LeO.ite ?_ ?_
      | refine LeO.bind ?_ (fun _ => ?_)
    · intro y0 y1 y2 y3
      unfold spec_DrawTokens.l0
      repeat' first
      | (with_reducible exact ih0 _ _ _ _)
      | (with_reducible exact ih1 _ _ _ _)
      | (with_reducible exact spec_l1New.mono _ _)
      | (with_reducible exact LeO.refl _)
      | (with_reducible exact LeO.none _)
      | (with_reducible refine LeO.ite ?_ ?_)
      | (with_reducible refine LeO.bind ?_ (fun _ => ?_))
      | exact ih0 _ _ _ _
      | exact ih1 _ _ _ _
      | exact spec_l1New.mono _ _
      | exact LeO.none _
      | refine LeO.ite ?_ ?_
      | refine LeO.bind ?_ (fun _ => ?_)
theorem spec_DrawTokens.mono : ∀ a0 k, LeO (spec_DrawTokens.f k a0) (spec_DrawTokens.f (k + 1) a0) := by
  intro a0 k
  obtain ⟨ih0, ih1⟩ := spec_DrawTokens.mono_l k
  unfold spec_DrawTokens.f
  repeat' first
      | (with_reducible exact ih0 _ _ _ _)
      | (with_reducible exact ih1 _ _ _ _)
      | (with_reducible exact spec_l1New.mono _ _)
      | (with_reducible exact LeO.refl _)
      | (with_reducible exact LeO.none _)
      | (with_reducible refine LeO.ite ?_ ?_)
      | (with_reducible refine LeO.bind ?_ (fun _ => ?_))
      | exact ih0 _ _ _ _
      | exact ih1 _ _ _ _
      | exact spec_l1New.mono _ _
      | exact LeO.none _
      | refine LeO.ite ?_ ?_
      | refine LeO.bind ?_ (fun _ => ?_)
noncomputable def spec_DrawTokens.j1v (x4 : ByteArray) (x321000 : List Int) (x321001 : Int) (x321002 : Int) : Option (ByteArray) := limOf (fun k => spec_DrawTokens.j1 k x4 x321000 x321001 x321002)
theorem spec_DrawTokens.j1_lim (x4 : ByteArray) (x321000 : List Int) (x321001 : Int) (x321002 : Int) : Lim (fun k => spec_DrawTokens.j1 k x4 x321000 x321001 x321002) (spec_DrawTokens.j1v x4 x321000 x321001 x321002) := Lim.of (fun k => (spec_DrawTokens.mono_l k).1 x4 x321000 x321001 x321002)
noncomputable def spec_DrawTokens.l0v (x4 : ByteArray) (x321000 : List Int) (x321001 : Int) (x321002 : Int) : Option (ByteArray) := limOf (fun k => spec_DrawTokens.l0 k x4 x321000 x321001 x321002)
theorem spec_DrawTokens.l0_lim (x4 : ByteArray) (x321000 : List Int) (x321001 : Int) (x321002 : Int) : Lim (fun k => spec_DrawTokens.l0 k x4 x321000 x321001 x321002) (spec_DrawTokens.l0v x4 x321000 x321001 x321002) := Lim.of (fun k => (spec_DrawTokens.mono_l k).2 x4 x321000 x321001 x321002)
noncomputable def spec_DrawTokens.fv (l0 : List Int) : Option (ByteArray) := limOf (fun k => spec_DrawTokens.f k l0)
theorem spec_DrawTokens.f_lim (l0 : List Int) : Lim (fun k => spec_DrawTokens.f k l0) (spec_DrawTokens.fv l0) := Lim.of (fun k => spec_DrawTokens.mono l0 k)
set_option maxHeartbeats 4000000 in
theorem spec_DrawTokens.j1v_eq (x4 : ByteArray) (x321000 : List Int) (x321001 : Int) (x321002 : Int) : spec_DrawTokens.j1v x4 x321000 x321001 x321002 = ((spec_l1Once.f x321000 x321001 x321002 12).bind fun bt333 => (if bt333.1 = true then ((spec_l1Pick.f x321000 bt333.2.1 bt333.2.2 (([(⟨#[49, 46, 50, 51, 52, 53, 54, 55, 56]⟩ : ByteArray), (⟨#[49, 46, 50, 51, 52, 53, 54, 55, 32, 50, 46, 53, 46, 49]⟩ : ByteArray), (⟨#[34, 97, 92, 34, 98, 34]⟩ : ByteArray), (⟨#[47, 97, 92, 47, 98, 47]⟩ : ByteArray), (⟨#[97, 32, 47, 32, 98, 32, 47, 32, 99]⟩ : ByteArray), (⟨#[57, 48, 48, 48, 48, 48, 49]⟩ : ByteArray), (⟨#[97, 98, 99, 100, 101, 102, 103, 104, 105]⟩ : ByteArray), (⟨#[34, 120]⟩ : ByteArray)] : List ByteArray))).bind fun bt339 => (some bt339.1)) else (some x4))) := by
  refine Lim.succ (spec_DrawTokens.j1_lim x4 x321000 x321001 x321002) ?_
  simp only [spec_DrawTokens.j1]
  repeat' first
    | (with_reducible exact Lim.const _)
    | (with_reducible refine Lim.ite ?_ ?_)
    | (with_reducible refine Lim.bind ?_ (fun _ => ?_))
    | exact Lim.const _
    | refine Lim.ite ?_ ?_
    | refine Lim.bind ?_ (fun _ => ?_)
set_option maxHeartbeats 4000000 in
theorem spec_DrawTokens.l0v_eq (x4 : ByteArray) (x321000 : List Int) (x321001 : Int) (x321002 : Int) : spec_DrawTokens.l0v x4 x321000 x321001 x321002 = ((spec_l1Below.f x321000 x321001 x321002 2).bind fun bt330 => (if (x4.size : Int) < (wrap64 (2000 + bt330.1)) then (if x4.size + 1 ≤ 9223372036854775807 then (spec_DrawTokens.l0v (x4 ++ (⟨#[32]⟩ : ByteArray)) x321000 bt330.2.1 bt330.2.2) else (none)) else (spec_DrawTokens.j1v x4 x321000 bt330.2.1 bt330.2.2))) := by
  refine Lim.succ (spec_DrawTokens.l0_lim x4 x321000 x321001 x321002) ?_
  simp only [spec_DrawTokens.l0]
  repeat' first
    | (with_reducible apply spec_DrawTokens.j1_lim)
    | (with_reducible apply spec_DrawTokens.l0_lim)
    | (with_reducible exact Lim.const _)
    | (with_reducible refine Lim.ite ?_ ?_)
    | (with_reducible refine Lim.bind ?_ (fun _ => ?_))
    | apply spec_DrawTokens.j1_lim
    | apply spec_DrawTokens.l0_lim
    | exact Lim.const _
    | refine Lim.ite ?_ ?_
    | refine Lim.bind ?_ (fun _ => ?_)
set_option maxHeartbeats 4000000 in
theorem spec_DrawTokens.fv_eq (l0 : List Int) : spec_DrawTokens.fv l0 = ((spec_l1New.fv l0).bind fun bt317 => ((spec_l7DrawSource.f bt317.1 bt317.2.1 bt317.2.2).bind fun bt321 => ((spec_l7Dent.f bt317.1 bt321.2.1 bt321.2.2 bt321.1).bind fun bt324 => ((spec_l1Once.f bt317.1 bt324.2.1 bt324.2.2 40).bind fun bt327 => (if bt327.1 = true then (spec_DrawTokens.l0v bt324.1 bt317.1 bt327.2.1 bt327.2.2) else (spec_DrawTokens.j1v bt324.1 bt317.1 bt327.2.1 bt327.2.2)))))) := by
  refine Lim.eq (spec_DrawTokens.f_lim l0) ?_
  simp only [spec_DrawTokens.f]
  repeat' first
    | (with_reducible apply spec_DrawTokens.j1_lim)
    | (with_reducible apply spec_DrawTokens.l0_lim)
    | (with_reducible apply spec_l1New.f_lim)
    | (with_reducible exact Lim.const _)
    | (with_reducible refine Lim.ite ?_ ?_)
    | (with_reducible refine Lim.bind ?_ (fun _ => ?_))
    | apply spec_DrawTokens.j1_lim
    | apply spec_DrawTokens.l0_lim
    | apply spec_l1New.f_lim
    | exact Lim.const _
    | refine Lim.ite ?_ ?_
    | refine Lim.bind ?_ (fun _ => ?_)

/-! ### spec_DrawKeyword -/
def spec_DrawKeyword.f (k : Nat) (l0 : List Int) : Option (ByteArray) := (spec_l1New.f k l0).bind fun bt342 => ((spec_l1Pick.f bt342.1 bt342.2.1 bt342.2.2 (([(⟨#[66, 69, 71, 73, 78]⟩ : ByteArray), (⟨#[78, 82]⟩ : ByteArray), (⟨#[120]⟩ : ByteArray), (⟨#[108, 101, 110, 103, 116, 104]⟩ : ByteArray), (⟨#[80, 114, 105, 110, 116]⟩ : ByteArray), (⟨#[108, 111, 119, 101, 114]⟩ : ByteArray), (⟨#[]⟩ : ByteArray), (⟨#[110, 101, 120, 116]⟩ : ByteArray)] : List ByteArray))).bind fun bt349 => (some bt349.1))
theorem spec_DrawKeyword.mono : ∀ a0 k, LeO (spec_DrawKeyword.f k a0) (spec_DrawKeyword.f (k + 1) a0) := by
  intro a0 k
  unfold spec_DrawKeyword.f
  repeat' first
      | (with_reducible exact spec_l1New.mono _ _)
      | (with_reducible exact LeO.refl _)
      | (with_reducible exact LeO.none _)
      | (with_reducible refine LeO.ite ?_ ?_)
      | (with_reducible refine LeO.bind ?_ (fun _ => ?_))
      | exact spec_l1New.mono _ _
      | exact LeO.none _
      | refine LeO.ite ?_ ?_
      | refine LeO.bind ?_ (fun _ => ?_)
noncomputable def spec_DrawKeyword.fv (l0 : List Int) : Option (ByteArray) := limOf (fun k => spec_DrawKeyword.f k l0)
theorem spec_DrawKeyword.f_lim (l0 : List Int) : Lim (fun k => spec_DrawKeyword.f k l0) (spec_DrawKeyword.fv l0) := Lim.of (fun k => spec_DrawKeyword.mono l0 k)
set_option maxHeartbeats 4000000 in
theorem spec_DrawKeyword.fv_eq (l0 : List Int) : spec_DrawKeyword.fv l0 = ((spec_l1New.fv l0).bind fun bt342 => ((spec_l1Pick.f bt342.1 bt342.2.1 bt342.2.2 (([(⟨#[66, 69, 71, 73, 78]⟩ : ByteArray), (⟨#[78, 82]⟩ : ByteArray), (⟨#[120]⟩ : ByteArray), (⟨#[108, 101, 110, 103, 116, 104]⟩ : ByteArray), (⟨#[80, 114, 105, 110, 116]⟩ : ByteArray), (⟨#[108, 111, 119, 101, 114]⟩ : ByteArray), (⟨#[]⟩ : ByteArray), (⟨#[110, 101, 120, 116]⟩ : ByteArray)] : List ByteArray))).bind fun bt349 => (some bt349.1))) := by
  refine Lim.eq (spec_DrawKeyword.f_lim l0) ?_
  simp only [spec_DrawKeyword.f]
  repeat' first
    | (with_reducible apply spec_l1New.f_lim)
    | (with_reducible exact Lim.const _)
    | (with_reducible refine Lim.ite ?_ ?_)
    | (with_reducible refine Lim.bind ?_ (fun _ => ?_))
    | apply spec_l1New.f_lim
    | exact Lim.const _
    | refine Lim.ite ?_ ?_
    | refine Lim.bind ?_ (fun _ => ?_)

end Go.Proofs.YtelaipnanpfniaaDoor.QFnTokens
