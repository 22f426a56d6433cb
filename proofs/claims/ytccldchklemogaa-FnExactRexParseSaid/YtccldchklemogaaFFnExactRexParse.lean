/- The functions that FnExactRexParse reaches, as they compute. -/
import Derived.Test.YtccldchklemogaaPg
import Derived.Test.YtccldchklemogaaMw
import Derived.Lib.Bytealg
set_option linter.unusedVariables false
set_option linter.unusedSimpArgs false
set_option maxRecDepth 100000
namespace Go.Proofs.Ytccldchklemogaa.QFnExactRexParse
open Go.RowKit Go.Proofs.YtccldchklemogaaW.PrintWords Go.Proofs.YtccldchklemogaaW.Pgs
noncomputable section
structure S24 where
  f0 : Int
  f1 : Int
  f2 : ByteArray
  f3 : Bool
  f4 : (List S24)
def z24 : S24 := ⟨(0 : Int), (0 : Int), (⟨#[]⟩ : ByteArray), false, ([] : List S24)⟩
def rd_T24 (xs : List S24) (i : Int) : S24 := xs.getD i.toNat z24
def strings_IndexByte.f (a0 : ByteArray) (a1 : Int) : Option (Int) := some (Lib.indexByte a0.data.toList a1.toNat.toUInt8)
def spec_l3Now.f (s0_0 : ByteArray) (s0_1 : Int) (s0_2 : Bool) (a1 : Int) : Option (Bool × ByteArray × Int × Bool) := if s0_2 = true then (some (false, s0_0, s0_1, s0_2)) else (if s0_1 < (s0_0.size : Int) then (if 0 ≤ s0_1 then (some (((bt s0_0 s0_1) == a1), s0_0, s0_1, s0_2)) else (none)) else (some (false, s0_0, s0_1, s0_2)))
inductive spec_l3Set.Q where
  | f (s0_0 : ByteArray) (s0_1 : Int) (s0_2 : Bool)
  | j0 (x1000 : ByteArray) (x1001 : Int) (x1002 : Bool) (x529_0 : Int) (x529_1 : Int) (x529_2 : ByteArray) (x529_3 : Bool)
  | l0 (x4 : List Bool) (x5 : Int) (x1000 : ByteArray) (x1001 : Int) (x1002 : Bool) (x529_0 : Int) (x529_1 : Int) (x529_2 : ByteArray) (x529_3 : Bool)
  | j2 (x4 : List Bool) (x5 : Int) (x44 : Bool) (x1000 : ByteArray) (x1001 : Int) (x1002 : Bool) (x529_0 : Int) (x529_1 : Int) (x529_2 : ByteArray) (x529_3 : Bool)
  | j4 (x4 : List Bool) (x5 : Int) (x6 : Int) (x7 : Int) (x1000 : ByteArray) (x1001 : Int) (x1002 : Bool) (x529_0 : Int) (x529_1 : Int) (x529_2 : ByteArray) (x529_3 : Bool)
  | j3 (x4 : List Bool) (x5 : Int) (x6 : Int) (x7 : Int) (x98 : Bool) (x1000 : ByteArray) (x1001 : Int) (x1002 : Bool) (x529_0 : Int) (x529_1 : Int) (x529_2 : ByteArray) (x529_3 : Bool)
  | j5 (x4 : List Bool) (x5 : Int) (x6 : Int) (x7 : Int) (x1000 : ByteArray) (x1001 : Int) (x1002 : Bool) (x529_0 : Int) (x529_1 : Int) (x529_2 : ByteArray) (x529_3 : Bool)
  | l1 (x4 : List Bool) (x5 : Int) (x7 : Int) (x8 : Int) (x1000 : ByteArray) (x1001 : Int) (x1002 : Bool) (x529_0 : Int) (x529_1 : Int) (x529_2 : ByteArray) (x529_3 : Bool)
  | j8 (x4 : List Bool) (x1000 : ByteArray) (x1001 : Int) (x1002 : Bool) (x529_0 : Int) (x529_1 : Int) (x529_2 : ByteArray) (x529_3 : Bool)
  | j7 (x4 : List Bool) (x148 : Bool) (x1000 : ByteArray) (x1001 : Int) (x1002 : Bool) (x529_0 : Int) (x529_1 : Int) (x529_2 : ByteArray) (x529_3 : Bool)
  | l2 (x4 : List Bool) (x9 : List Int) (x10 : Int) (x1000 : ByteArray) (x1001 : Int) (x1002 : Bool) (x529_0 : Int) (x529_1 : Int) (x529_2 : ByteArray) (x529_3 : Bool)
def spec_l3Set.B : spec_l3Set.Q → Pg spec_l3Set.Q (fun _ => Int × Int × ByteArray × Bool × (List S24) × ByteArray × Int × Bool) (Int × Int × ByteArray × Bool × (List S24) × ByteArray × Int × Bool)
  | .f s0_0 s0_1 s0_2 => .opt (spec_l3Now.f s0_0 s0_1 s0_2 94) fun t13 => (if t13.1 = true then (.to (.j0 t13.2.1 (wrap64 (t13.2.2.1 + 1)) t13.2.2.2 3 0 (⟨#[]⟩ : ByteArray) true)) else (.to (.j0 t13.2.1 t13.2.2.1 t13.2.2.2 3 0 (⟨#[]⟩ : ByteArray) false)))
  | .j0 x1000 x1001 x1002 x529_0 x529_1 x529_2 x529_3 => if 256 ≤ 281474976710656 then (.to (.l0 (List.replicate 256 false) 0 x1000 x1001 x1002 x529_0 x529_1 x529_2 x529_3)) else (.bad)
  | .l0 x4 x5 x1000 x1001 x1002 x529_0 x529_1 x529_2 x529_3 => if x1001 < (x1000.size : Int) then (if 0 ≤ x1001 then (.to (.j2 x4 x5 ((bt x1000 x1001) != 93) x1000 x1001 x1002 x529_0 x529_1 x529_2 x529_3)) else (.bad)) else (.to (.j2 x4 x5 false x1000 x1001 x1002 x529_0 x529_1 x529_2 x529_3))
  | .j2 x4 x5 x44 x1000 x1001 x1002 x529_0 x529_1 x529_2 x529_3 => if x44 = true then (if 0 ≤ x1001 then (if x1001 < (x1000.size : Int) then (if (wrap64 ((wrap64 (x1001 + 1)) + 1)) < (x1000.size : Int) then (if 0 ≤ (wrap64 (x1001 + 1)) then (if (wrap64 (x1001 + 1)) < (x1000.size : Int) then (if (bt x1000 (wrap64 (x1001 + 1))) = 45 then (if 0 ≤ (wrap64 ((wrap64 (x1001 + 1)) + 1)) then (.to (.j3 x4 x5 (wrap64 (bt x1000 x1001)) (wrap64 (bt x1000 x1001)) (((bt x1000 (wrap64 ((wrap64 (x1001 + 1)) + 1))) != 93)) x1000 (wrap64 (x1001 + 1)) x1002 x529_0 x529_1 x529_2 x529_3)) else (.bad)) else (.to (.j3 x4 x5 (wrap64 (bt x1000 x1001)) (wrap64 (bt x1000 x1001)) false x1000 (wrap64 (x1001 + 1)) x1002 x529_0 x529_1 x529_2 x529_3))) else (.bad)) else (.bad)) else (.to (.j3 x4 x5 (wrap64 (bt x1000 x1001)) (wrap64 (bt x1000 x1001)) false x1000 (wrap64 (x1001 + 1)) x1002 x529_0 x529_1 x529_2 x529_3))) else (.bad)) else (.bad)) else (if x1001 ≥ (x1000.size : Int) then (.to (.j7 x4 true x1000 x1001 x1002 x529_0 x529_1 x529_2 x529_3)) else (.to (.j7 x4 (x5 == 0) x1000 x1001 x1002 x529_0 x529_1 x529_2 x529_3)))
  | .j4 x4 x5 x6 x7 x1000 x1001 x1002 x529_0 x529_1 x529_2 x529_3 => if x7 < x6 then (.to (.j5 x4 x5 x6 x7 x1000 x1001 true x529_0 x529_1 x529_2 x529_3)) else (.to (.j5 x4 x5 x6 x7 x1000 x1001 x1002 x529_0 x529_1 x529_2 x529_3))
  | .j3 x4 x5 x6 x7 x98 x1000 x1001 x1002 x529_0 x529_1 x529_2 x529_3 => if x98 = true then (if 0 ≤ (wrap64 (x1001 + 1)) then (if (wrap64 (x1001 + 1)) < (x1000.size : Int) then (.to (.j4 x4 x5 x6 ((wrap64 (bt x1000 (wrap64 (x1001 + 1))))) x1000 (wrap64 (x1001 + 2)) x1002 x529_0 x529_1 x529_2 x529_3)) else (.bad)) else (.bad)) else (.to (.j4 x4 x5 x6 x7 x1000 x1001 x1002 x529_0 x529_1 x529_2 x529_3))
  | .j5 x4 x5 x6 x7 x1000 x1001 x1002 x529_0 x529_1 x529_2 x529_3 => .to (.l1 x4 x5 x7 x6 x1000 x1001 x1002 x529_0 x529_1 x529_2 x529_3)
  | .l1 x4 x5 x7 x8 x1000 x1001 x1002 x529_0 x529_1 x529_2 x529_3 => if x8 ≤ x7 then (if 0 ≤ x8 then (if x8 < (x4.length : Int) then (.to (.l1 (x4.set (x8 : Int).toNat true) x5 x7 (wrap64 (x8 + 1)) x1000 x1001 x1002 x529_0 x529_1 x529_2 x529_3)) else (.bad)) else (.bad)) else (.to (.l0 x4 (wrap64 (x5 + 1)) x1000 x1001 x1002 x529_0 x529_1 x529_2 x529_3))
  | .j8 x4 x1000 x1001 x1002 x529_0 x529_1 x529_2 x529_3 => .to (.l2 x4 ([] : List Int) 0 x1000 (wrap64 (x1001 + 1)) x1002 x529_0 x529_1 x529_2 x529_3)
  | .j7 x4 x148 x1000 x1001 x1002 x529_0 x529_1 x529_2 x529_3 => if x148 = true then (.to (.j8 x4 x1000 x1001 true x529_0 x529_1 x529_2 x529_3)) else (.to (.j8 x4 x1000 x1001 x1002 x529_0 x529_1 x529_2 x529_3))
  | .l2 x4 x9 x10 x1000 x1001 x1002 x529_0 x529_1 x529_2 x529_3 => if x10 < 256 then (if 0 ≤ x10 then (if x10 < (x4.length : Int) then (if (rdOf false x4 x10) = true then (if x9.length < 140737488355328 then (.to (.l2 x4 ((x9 ++ [((x10) % 256)])) (wrap64 (x10 + 1)) x1000 x1001 x1002 x529_0 x529_1 x529_2 x529_3)) else (.bad)) else (.to (.l2 x4 x9 (wrap64 (x10 + 1)) x1000 x1001 x1002 x529_0 x529_1 x529_2 x529_3))) else (.bad)) else (.bad)) else (.ret (x529_0, x529_1, (strOfNums x9), x529_3, ([] : List S24), x1000, x1001, x1002))
def spec_l3Set.fv (s0_0 : ByteArray) (s0_1 : Int) (s0_2 : Bool) : Option (Int × Int × ByteArray × Bool × (List S24) × ByteArray × Int × Bool) := lim spec_l3Set.B (.f s0_0 s0_1 s0_2)
def spec_l3Set.j0v (x1000 : ByteArray) (x1001 : Int) (x1002 : Bool) (x529_0 : Int) (x529_1 : Int) (x529_2 : ByteArray) (x529_3 : Bool) : Option (Int × Int × ByteArray × Bool × (List S24) × ByteArray × Int × Bool) := lim spec_l3Set.B (.j0 x1000 x1001 x1002 x529_0 x529_1 x529_2 x529_3)
def spec_l3Set.l0v (x4 : List Bool) (x5 : Int) (x1000 : ByteArray) (x1001 : Int) (x1002 : Bool) (x529_0 : Int) (x529_1 : Int) (x529_2 : ByteArray) (x529_3 : Bool) : Option (Int × Int × ByteArray × Bool × (List S24) × ByteArray × Int × Bool) := lim spec_l3Set.B (.l0 x4 x5 x1000 x1001 x1002 x529_0 x529_1 x529_2 x529_3)
def spec_l3Set.j2v (x4 : List Bool) (x5 : Int) (x44 : Bool) (x1000 : ByteArray) (x1001 : Int) (x1002 : Bool) (x529_0 : Int) (x529_1 : Int) (x529_2 : ByteArray) (x529_3 : Bool) : Option (Int × Int × ByteArray × Bool × (List S24) × ByteArray × Int × Bool) := lim spec_l3Set.B (.j2 x4 x5 x44 x1000 x1001 x1002 x529_0 x529_1 x529_2 x529_3)
def spec_l3Set.j4v (x4 : List Bool) (x5 : Int) (x6 : Int) (x7 : Int) (x1000 : ByteArray) (x1001 : Int) (x1002 : Bool) (x529_0 : Int) (x529_1 : Int) (x529_2 : ByteArray) (x529_3 : Bool) : Option (Int × Int × ByteArray × Bool × (List S24) × ByteArray × Int × Bool) := lim spec_l3Set.B (.j4 x4 x5 x6 x7 x1000 x1001 x1002 x529_0 x529_1 x529_2 x529_3)
def spec_l3Set.j3v (x4 : List Bool) (x5 : Int) (x6 : Int) (x7 : Int) (x98 : Bool) (x1000 : ByteArray) (x1001 : Int) (x1002 : Bool) (x529_0 : Int) (x529_1 : Int) (x529_2 : ByteArray) (x529_3 : Bool) : Option (Int × Int × ByteArray × Bool × (List S24) × ByteArray × Int × Bool) := lim spec_l3Set.B (.j3 x4 x5 x6 x7 x98 x1000 x1001 x1002 x529_0 x529_1 x529_2 x529_3)
def spec_l3Set.j5v (x4 : List Bool) (x5 : Int) (x6 : Int) (x7 : Int) (x1000 : ByteArray) (x1001 : Int) (x1002 : Bool) (x529_0 : Int) (x529_1 : Int) (x529_2 : ByteArray) (x529_3 : Bool) : Option (Int × Int × ByteArray × Bool × (List S24) × ByteArray × Int × Bool) := lim spec_l3Set.B (.j5 x4 x5 x6 x7 x1000 x1001 x1002 x529_0 x529_1 x529_2 x529_3)
def spec_l3Set.l1v (x4 : List Bool) (x5 : Int) (x7 : Int) (x8 : Int) (x1000 : ByteArray) (x1001 : Int) (x1002 : Bool) (x529_0 : Int) (x529_1 : Int) (x529_2 : ByteArray) (x529_3 : Bool) : Option (Int × Int × ByteArray × Bool × (List S24) × ByteArray × Int × Bool) := lim spec_l3Set.B (.l1 x4 x5 x7 x8 x1000 x1001 x1002 x529_0 x529_1 x529_2 x529_3)
def spec_l3Set.j8v (x4 : List Bool) (x1000 : ByteArray) (x1001 : Int) (x1002 : Bool) (x529_0 : Int) (x529_1 : Int) (x529_2 : ByteArray) (x529_3 : Bool) : Option (Int × Int × ByteArray × Bool × (List S24) × ByteArray × Int × Bool) := lim spec_l3Set.B (.j8 x4 x1000 x1001 x1002 x529_0 x529_1 x529_2 x529_3)
def spec_l3Set.j7v (x4 : List Bool) (x148 : Bool) (x1000 : ByteArray) (x1001 : Int) (x1002 : Bool) (x529_0 : Int) (x529_1 : Int) (x529_2 : ByteArray) (x529_3 : Bool) : Option (Int × Int × ByteArray × Bool × (List S24) × ByteArray × Int × Bool) := lim spec_l3Set.B (.j7 x4 x148 x1000 x1001 x1002 x529_0 x529_1 x529_2 x529_3)
def spec_l3Set.l2v (x4 : List Bool) (x9 : List Int) (x10 : Int) (x1000 : ByteArray) (x1001 : Int) (x1002 : Bool) (x529_0 : Int) (x529_1 : Int) (x529_2 : ByteArray) (x529_3 : Bool) : Option (Int × Int × ByteArray × Bool × (List S24) × ByteArray × Int × Bool) := lim spec_l3Set.B (.l2 x4 x9 x10 x1000 x1001 x1002 x529_0 x529_1 x529_2 x529_3)
theorem spec_l3Set.fv_eq (s0_0 : ByteArray) (s0_1 : Int) (s0_2 : Bool) : spec_l3Set.fv s0_0 s0_1 s0_2 = ((spec_l3Now.f s0_0 s0_1 s0_2 94).bind fun t13 => (if t13.1 = true then (spec_l3Set.j0v t13.2.1 (wrap64 (t13.2.2.1 + 1)) t13.2.2.2 3 0 (⟨#[]⟩ : ByteArray) true) else (spec_l3Set.j0v t13.2.1 t13.2.2.1 t13.2.2.2 3 0 (⟨#[]⟩ : ByteArray) false))) := by
  show lim spec_l3Set.B (.f s0_0 s0_1 s0_2) = _
  rw [lim_eq, spec_l3Set.B]
  simp only [ev_ite, ev_opt, ev_ask, ev_to, ev_ret, ev_bad]
  try rfl
theorem spec_l3Set.j0v_eq (x1000 : ByteArray) (x1001 : Int) (x1002 : Bool) (x529_0 : Int) (x529_1 : Int) (x529_2 : ByteArray) (x529_3 : Bool) : spec_l3Set.j0v x1000 x1001 x1002 x529_0 x529_1 x529_2 x529_3 = (if 256 ≤ 281474976710656 then (spec_l3Set.l0v (List.replicate 256 false) 0 x1000 x1001 x1002 x529_0 x529_1 x529_2 x529_3) else (none)) := by
  show lim spec_l3Set.B (.j0 x1000 x1001 x1002 x529_0 x529_1 x529_2 x529_3) = _
  rw [lim_eq, spec_l3Set.B]
  simp only [ev_ite, ev_opt, ev_ask, ev_to, ev_ret, ev_bad]
  try rfl
theorem spec_l3Set.l0v_eq (x4 : List Bool) (x5 : Int) (x1000 : ByteArray) (x1001 : Int) (x1002 : Bool) (x529_0 : Int) (x529_1 : Int) (x529_2 : ByteArray) (x529_3 : Bool) : spec_l3Set.l0v x4 x5 x1000 x1001 x1002 x529_0 x529_1 x529_2 x529_3 = (if x1001 < (x1000.size : Int) then (if 0 ≤ x1001 then (spec_l3Set.j2v x4 x5 ((bt x1000 x1001) != 93) x1000 x1001 x1002 x529_0 x529_1 x529_2 x529_3) else (none)) else (spec_l3Set.j2v x4 x5 false x1000 x1001 x1002 x529_0 x529_1 x529_2 x529_3)) := by
  show lim spec_l3Set.B (.l0 x4 x5 x1000 x1001 x1002 x529_0 x529_1 x529_2 x529_3) = _
  rw [lim_eq, spec_l3Set.B]
  simp only [ev_ite, ev_opt, ev_ask, ev_to, ev_ret, ev_bad]
  try rfl
theorem spec_l3Set.j2v_eq (x4 : List Bool) (x5 : Int) (x44 : Bool) (x1000 : ByteArray) (x1001 : Int) (x1002 : Bool) (x529_0 : Int) (x529_1 : Int) (x529_2 : ByteArray) (x529_3 : Bool) : spec_l3Set.j2v x4 x5 x44 x1000 x1001 x1002 x529_0 x529_1 x529_2 x529_3 = (if x44 = true then (if 0 ≤ x1001 then (if x1001 < (x1000.size : Int) then (if (wrap64 ((wrap64 (x1001 + 1)) + 1)) < (x1000.size : Int) then (if 0 ≤ (wrap64 (x1001 + 1)) then (if (wrap64 (x1001 + 1)) < (x1000.size : Int) then (if (bt x1000 (wrap64 (x1001 + 1))) = 45 then (if 0 ≤ (wrap64 ((wrap64 (x1001 + 1)) + 1)) then (spec_l3Set.j3v x4 x5 (wrap64 (bt x1000 x1001)) (wrap64 (bt x1000 x1001)) (((bt x1000 (wrap64 ((wrap64 (x1001 + 1)) + 1))) != 93)) x1000 (wrap64 (x1001 + 1)) x1002 x529_0 x529_1 x529_2 x529_3) else (none)) else (spec_l3Set.j3v x4 x5 (wrap64 (bt x1000 x1001)) (wrap64 (bt x1000 x1001)) false x1000 (wrap64 (x1001 + 1)) x1002 x529_0 x529_1 x529_2 x529_3)) else (none)) else (none)) else (spec_l3Set.j3v x4 x5 (wrap64 (bt x1000 x1001)) (wrap64 (bt x1000 x1001)) false x1000 (wrap64 (x1001 + 1)) x1002 x529_0 x529_1 x529_2 x529_3)) else (none)) else (none)) else (if x1001 ≥ (x1000.size : Int) then (spec_l3Set.j7v x4 true x1000 x1001 x1002 x529_0 x529_1 x529_2 x529_3) else (spec_l3Set.j7v x4 (x5 == 0) x1000 x1001 x1002 x529_0 x529_1 x529_2 x529_3))) := by
  show lim spec_l3Set.B (.j2 x4 x5 x44 x1000 x1001 x1002 x529_0 x529_1 x529_2 x529_3) = _
  rw [lim_eq, spec_l3Set.B]
  simp only [ev_ite, ev_opt, ev_ask, ev_to, ev_ret, ev_bad]
  try rfl
theorem spec_l3Set.j4v_eq (x4 : List Bool) (x5 : Int) (x6 : Int) (x7 : Int) (x1000 : ByteArray) (x1001 : Int) (x1002 : Bool) (x529_0 : Int) (x529_1 : Int) (x529_2 : ByteArray) (x529_3 : Bool) : spec_l3Set.j4v x4 x5 x6 x7 x1000 x1001 x1002 x529_0 x529_1 x529_2 x529_3 = (if x7 < x6 then (spec_l3Set.j5v x4 x5 x6 x7 x1000 x1001 true x529_0 x529_1 x529_2 x529_3) else (spec_l3Set.j5v x4 x5 x6 x7 x1000 x1001 x1002 x529_0 x529_1 x529_2 x529_3)) := by
  show lim spec_l3Set.B (.j4 x4 x5 x6 x7 x1000 x1001 x1002 x529_0 x529_1 x529_2 x529_3) = _
  rw [lim_eq, spec_l3Set.B]
  simp only [ev_ite, ev_opt, ev_ask, ev_to, ev_ret, ev_bad]
  try rfl
theorem spec_l3Set.j3v_eq (x4 : List Bool) (x5 : Int) (x6 : Int) (x7 : Int) (x98 : Bool) (x1000 : ByteArray) (x1001 : Int) (x1002 : Bool) (x529_0 : Int) (x529_1 : Int) (x529_2 : ByteArray) (x529_3 : Bool) : spec_l3Set.j3v x4 x5 x6 x7 x98 x1000 x1001 x1002 x529_0 x529_1 x529_2 x529_3 = (if x98 = true then (if 0 ≤ (wrap64 (x1001 + 1)) then (if (wrap64 (x1001 + 1)) < (x1000.size : Int) then (spec_l3Set.j4v x4 x5 x6 ((wrap64 (bt x1000 (wrap64 (x1001 + 1))))) x1000 (wrap64 (x1001 + 2)) x1002 x529_0 x529_1 x529_2 x529_3) else (none)) else (none)) else (spec_l3Set.j4v x4 x5 x6 x7 x1000 x1001 x1002 x529_0 x529_1 x529_2 x529_3)) := by
  show lim spec_l3Set.B (.j3 x4 x5 x6 x7 x98 x1000 x1001 x1002 x529_0 x529_1 x529_2 x529_3) = _
  rw [lim_eq, spec_l3Set.B]
  simp only [ev_ite, ev_opt, ev_ask, ev_to, ev_ret, ev_bad]
  try rfl
theorem spec_l3Set.j5v_eq (x4 : List Bool) (x5 : Int) (x6 : Int) (x7 : Int) (x1000 : ByteArray) (x1001 : Int) (x1002 : Bool) (x529_0 : Int) (x529_1 : Int) (x529_2 : ByteArray) (x529_3 : Bool) : spec_l3Set.j5v x4 x5 x6 x7 x1000 x1001 x1002 x529_0 x529_1 x529_2 x529_3 = (spec_l3Set.l1v x4 x5 x7 x6 x1000 x1001 x1002 x529_0 x529_1 x529_2 x529_3) := by
  show lim spec_l3Set.B (.j5 x4 x5 x6 x7 x1000 x1001 x1002 x529_0 x529_1 x529_2 x529_3) = _
  rw [lim_eq, spec_l3Set.B]
  simp only [ev_ite, ev_opt, ev_ask, ev_to, ev_ret, ev_bad]
  try rfl
theorem spec_l3Set.l1v_eq (x4 : List Bool) (x5 : Int) (x7 : Int) (x8 : Int) (x1000 : ByteArray) (x1001 : Int) (x1002 : Bool) (x529_0 : Int) (x529_1 : Int) (x529_2 : ByteArray) (x529_3 : Bool) : spec_l3Set.l1v x4 x5 x7 x8 x1000 x1001 x1002 x529_0 x529_1 x529_2 x529_3 = (if x8 ≤ x7 then (if 0 ≤ x8 then (if x8 < (x4.length : Int) then (spec_l3Set.l1v (x4.set (x8 : Int).toNat true) x5 x7 (wrap64 (x8 + 1)) x1000 x1001 x1002 x529_0 x529_1 x529_2 x529_3) else (none)) else (none)) else (spec_l3Set.l0v x4 (wrap64 (x5 + 1)) x1000 x1001 x1002 x529_0 x529_1 x529_2 x529_3)) := by
  show lim spec_l3Set.B (.l1 x4 x5 x7 x8 x1000 x1001 x1002 x529_0 x529_1 x529_2 x529_3) = _
  rw [lim_eq, spec_l3Set.B]
  simp only [ev_ite, ev_opt, ev_ask, ev_to, ev_ret, ev_bad]
  try rfl
theorem spec_l3Set.j8v_eq (x4 : List Bool) (x1000 : ByteArray) (x1001 : Int) (x1002 : Bool) (x529_0 : Int) (x529_1 : Int) (x529_2 : ByteArray) (x529_3 : Bool) : spec_l3Set.j8v x4 x1000 x1001 x1002 x529_0 x529_1 x529_2 x529_3 = (spec_l3Set.l2v x4 ([] : List Int) 0 x1000 (wrap64 (x1001 + 1)) x1002 x529_0 x529_1 x529_2 x529_3) := by
  show lim spec_l3Set.B (.j8 x4 x1000 x1001 x1002 x529_0 x529_1 x529_2 x529_3) = _
  rw [lim_eq, spec_l3Set.B]
  simp only [ev_ite, ev_opt, ev_ask, ev_to, ev_ret, ev_bad]
  try rfl
theorem spec_l3Set.j7v_eq (x4 : List Bool) (x148 : Bool) (x1000 : ByteArray) (x1001 : Int) (x1002 : Bool) (x529_0 : Int) (x529_1 : Int) (x529_2 : ByteArray) (x529_3 : Bool) : spec_l3Set.j7v x4 x148 x1000 x1001 x1002 x529_0 x529_1 x529_2 x529_3 = (if x148 = true then (spec_l3Set.j8v x4 x1000 x1001 true x529_0 x529_1 x529_2 x529_3) else (spec_l3Set.j8v x4 x1000 x1001 x1002 x529_0 x529_1 x529_2 x529_3)) := by
  show lim spec_l3Set.B (.j7 x4 x148 x1000 x1001 x1002 x529_0 x529_1 x529_2 x529_3) = _
  rw [lim_eq, spec_l3Set.B]
  simp only [ev_ite, ev_opt, ev_ask, ev_to, ev_ret, ev_bad]
  try rfl
theorem spec_l3Set.l2v_eq (x4 : List Bool) (x9 : List Int) (x10 : Int) (x1000 : ByteArray) (x1001 : Int) (x1002 : Bool) (x529_0 : Int) (x529_1 : Int) (x529_2 : ByteArray) (x529_3 : Bool) : spec_l3Set.l2v x4 x9 x10 x1000 x1001 x1002 x529_0 x529_1 x529_2 x529_3 = (if x10 < 256 then (if 0 ≤ x10 then (if x10 < (x4.length : Int) then (if (rdOf false x4 x10) = true then (if x9.length < 140737488355328 then (spec_l3Set.l2v x4 ((x9 ++ [((x10) % 256)])) (wrap64 (x10 + 1)) x1000 x1001 x1002 x529_0 x529_1 x529_2 x529_3) else (none)) else (spec_l3Set.l2v x4 x9 (wrap64 (x10 + 1)) x1000 x1001 x1002 x529_0 x529_1 x529_2 x529_3)) else (none)) else (none)) else (some (x529_0, x529_1, (strOfNums x9), x529_3, ([] : List S24), x1000, x1001, x1002))) := by
  show lim spec_l3Set.B (.l2 x4 x9 x10 x1000 x1001 x1002 x529_0 x529_1 x529_2 x529_3) = _
  rw [lim_eq, spec_l3Set.B]
  simp only [ev_ite, ev_opt, ev_ask, ev_to, ev_ret, ev_bad]
  try rfl
inductive spec_l3Pattern.Q where
  | spec_l3Pattern_f (s0_0 : ByteArray) (s0_1 : Int) (s0_2 : Bool) (a1 : Int)
  | spec_l3Pattern_l0 (x1 : Int) (x5 : List S24) (x1000 : ByteArray) (x1001 : Int) (x1002 : Bool)
  | spec_l3Part_f (s0_0 : ByteArray) (s0_1 : Int) (s0_2 : Bool) (a1 : Int)
  | spec_l3Part_j1 (x5 : List S24) (x1000 : ByteArray) (x1001 : Int) (x1002 : Bool)
  | spec_l3Part_l0 (x1 : Int) (x5 : List S24) (x1000 : ByteArray) (x1001 : Int) (x1002 : Bool)
  | spec_l3Piece_f (s0_0 : ByteArray) (s0_1 : Int) (s0_2 : Bool) (a1 : Int)
  | spec_l3Piece_l0 (x1000 : ByteArray) (x1001 : Int) (x1002 : Bool) (x531_0 : Int) (x531_1 : Int) (x531_2 : ByteArray) (x531_3 : Bool) (x531_4 : List S24)
  | spec_l3Atom_f (s0_0 : ByteArray) (s0_1 : Int) (s0_2 : Bool) (a1 : Int)
  | spec_l3Atom_j0 (x1 : Int) (x26 : Bool) (x1000 : ByteArray) (x1001 : Int) (x1002 : Bool)
def spec_l3Pattern.B : spec_l3Pattern.Q → Pg spec_l3Pattern.Q (fun _ => Int × Int × ByteArray × Bool × (List S24) × ByteArray × Int × Bool) (Int × Int × ByteArray × Bool × (List S24) × ByteArray × Int × Bool)
  | .spec_l3Pattern_f s0_0 s0_1 s0_2 a1 => .ask (.spec_l3Part_f s0_0 s0_1 s0_2 a1) fun (t8 : Int × Int × ByteArray × Bool × (List S24) × ByteArray × Int × Bool) => (.to (.spec_l3Pattern_l0 a1 ([(⟨t8.1, t8.2.1, t8.2.2.1, t8.2.2.2.1, t8.2.2.2.2.1⟩ : S24)] : List S24) t8.2.2.2.2.2.1 t8.2.2.2.2.2.2.1 t8.2.2.2.2.2.2.2))
  | .spec_l3Pattern_l0 x1 x5 x1000 x1001 x1002 => .opt (spec_l3Now.f x1000 x1001 x1002 124) fun t11 => (if t11.1 = true then (.ask (.spec_l3Part_f t11.2.1 (wrap64 (t11.2.2.1 + 1)) t11.2.2.2 x1) fun (t22 : Int × Int × ByteArray × Bool × (List S24) × ByteArray × Int × Bool) => (if x5.length < 2199023255552 then (.to (.spec_l3Pattern_l0 x1 (x5 ++ [(⟨t22.1, t22.2.1, t22.2.2.1, t22.2.2.2.1, t22.2.2.2.2.1⟩ : S24)]) t22.2.2.2.2.2.1 t22.2.2.2.2.2.2.1 t22.2.2.2.2.2.2.2)) else (.bad))) else (if (x5.length : Int) = 1 then (if 0 < (x5.length : Int) then (.ret ((rd_T24 x5 0).f0, (rd_T24 x5 0).f1, (rd_T24 x5 0).f2, (rd_T24 x5 0).f3, (rd_T24 x5 0).f4, t11.2.1, t11.2.2.1, t11.2.2.2)) else (.bad)) else (.ret (7, 0, (⟨#[]⟩ : ByteArray), false, x5, t11.2.1, t11.2.2.1, t11.2.2.2))))
  | .spec_l3Part_f s0_0 s0_1 s0_2 a1 => .to (.spec_l3Part_l0 a1 ([] : List S24) s0_0 s0_1 s0_2)
  | .spec_l3Part_j1 x5 x1000 x1001 x1002 => if (x5.length : Int) = 0 then (.ret (11, 0, (⟨#[]⟩ : ByteArray), false, ([] : List S24), x1000, x1001, x1002)) else (if (x5.length : Int) = 1 then (if 0 < (x5.length : Int) then (.ret ((rd_T24 x5 0).f0, (rd_T24 x5 0).f1, (rd_T24 x5 0).f2, (rd_T24 x5 0).f3, (rd_T24 x5 0).f4, x1000, x1001, x1002)) else (.bad)) else (.ret (6, 0, (⟨#[]⟩ : ByteArray), false, x5, x1000, x1001, x1002)))
  | .spec_l3Part_l0 x1 x5 x1000 x1001 x1002 => if x1002 = true then (.to (.spec_l3Part_j1 x5 x1000 x1001 x1002)) else (if x1001 < (x1000.size : Int) then (if 0 ≤ x1001 then (if (bt x1000 x1001) = 124 then (.to (.spec_l3Part_j1 x5 x1000 x1001 x1002)) else (if (bt x1000 x1001) = 41 then (.to (.spec_l3Part_j1 x5 x1000 x1001 x1002)) else (.ask (.spec_l3Piece_f x1000 x1001 x1002 x1) fun (t51 : Int × Int × ByteArray × Bool × (List S24) × ByteArray × Int × Bool) => (if x5.length < 2199023255552 then (.to (.spec_l3Part_l0 x1 (x5 ++ [(⟨t51.1, t51.2.1, t51.2.2.1, t51.2.2.2.1, t51.2.2.2.2.1⟩ : S24)]) t51.2.2.2.2.2.1 t51.2.2.2.2.2.2.1 t51.2.2.2.2.2.2.2)) else (.bad))))) else (.bad)) else (.to (.spec_l3Part_j1 x5 x1000 x1001 x1002)))
  | .spec_l3Piece_f s0_0 s0_1 s0_2 a1 => .ask (.spec_l3Atom_f s0_0 s0_1 s0_2 a1) fun (t10 : Int × Int × ByteArray × Bool × (List S24) × ByteArray × Int × Bool) => (.to (.spec_l3Piece_l0 t10.2.2.2.2.2.1 t10.2.2.2.2.2.2.1 t10.2.2.2.2.2.2.2 t10.1 t10.2.1 t10.2.2.1 t10.2.2.2.1 t10.2.2.2.2.1))
  | .spec_l3Piece_l0 x1000 x1001 x1002 x531_0 x531_1 x531_2 x531_3 x531_4 => if x1002 = true then (.ret (x531_0, x531_1, x531_2, x531_3, x531_4, x1000, x1001, x1002)) else (.opt (spec_l3Now.f x1000 x1001 x1002 42) fun t18 => (if t18.1 = true then (if 8 = 0 then (.ret (x531_0, x531_1, x531_2, x531_3, x531_4, t18.2.1, t18.2.2.1, t18.2.2.2)) else (.to (.spec_l3Piece_l0 t18.2.1 (wrap64 (t18.2.2.1 + 1)) t18.2.2.2 8 0 (⟨#[]⟩ : ByteArray) false ([(⟨x531_0, x531_1, x531_2, x531_3, x531_4⟩ : S24)] : List S24)))) else (.opt (spec_l3Now.f t18.2.1 t18.2.2.1 t18.2.2.2 43) fun t21 => (if t21.1 = true then (if 9 = 0 then (.ret (x531_0, x531_1, x531_2, x531_3, x531_4, t21.2.1, t21.2.2.1, t21.2.2.2)) else (.to (.spec_l3Piece_l0 t21.2.1 (wrap64 (t21.2.2.1 + 1)) t21.2.2.2 9 0 (⟨#[]⟩ : ByteArray) false ([(⟨x531_0, x531_1, x531_2, x531_3, x531_4⟩ : S24)] : List S24)))) else (.opt (spec_l3Now.f t21.2.1 t21.2.2.1 t21.2.2.2 63) fun t24 => (if t24.1 = true then (if 10 = 0 then (.ret (x531_0, x531_1, x531_2, x531_3, x531_4, t24.2.1, t24.2.2.1, t24.2.2.2)) else (.to (.spec_l3Piece_l0 t24.2.1 (wrap64 (t24.2.2.1 + 1)) t24.2.2.2 10 0 (⟨#[]⟩ : ByteArray) false ([(⟨x531_0, x531_1, x531_2, x531_3, x531_4⟩ : S24)] : List S24)))) else (if 0 = 0 then (.ret (x531_0, x531_1, x531_2, x531_3, x531_4, t24.2.1, t24.2.2.1, t24.2.2.2)) else (.to (.spec_l3Piece_l0 t24.2.1 (wrap64 (t24.2.2.1 + 1)) t24.2.2.2 0 0 (⟨#[]⟩ : ByteArray) false ([(⟨x531_0, x531_1, x531_2, x531_3, x531_4⟩ : S24)] : List S24))))))))))
  | .spec_l3Atom_f s0_0 s0_1 s0_2 a1 => if s0_2 = true then (.to (.spec_l3Atom_j0 a1 true s0_0 s0_1 s0_2)) else (if s0_1 ≥ (s0_0.size : Int) then (.to (.spec_l3Atom_j0 a1 true s0_0 s0_1 s0_2)) else (.to (.spec_l3Atom_j0 a1 (decide (a1 > 40)) s0_0 s0_1 s0_2)))
  | .spec_l3Atom_j0 x1 x26 x1000 x1001 x1002 => if x26 = true then (.ret (0, 0, (⟨#[]⟩ : ByteArray), false, ([] : List S24), x1000, x1001, true)) else (if 0 ≤ x1001 then (if x1001 < (x1000.size : Int) then (if (bt x1000 x1001) = 40 then (.ask (.spec_l3Pattern_f x1000 (wrap64 (x1001 + 1)) x1002 (wrap64 (x1 + 1))) fun (t53 : Int × Int × ByteArray × Bool × (List S24) × ByteArray × Int × Bool) => (.opt (spec_l3Now.f t53.2.2.2.2.2.1 t53.2.2.2.2.2.2.1 t53.2.2.2.2.2.2.2 41) fun t55 => (if t55.1 = true then (.ret (t53.1, t53.2.1, t53.2.2.1, t53.2.2.2.1, t53.2.2.2.2.1, t55.2.1, (wrap64 (t55.2.2.1 + 1)), t55.2.2.2)) else (.ret (t53.1, t53.2.1, t53.2.2.1, t53.2.2.2.1, t53.2.2.2.2.1, t55.2.1, (wrap64 (t55.2.2.1 + 1)), true))))) else (if (bt x1000 x1001) = 46 then (.ret (2, 0, (⟨#[]⟩ : ByteArray), false, ([] : List S24), x1000, (wrap64 (x1001 + 1)), x1002)) else (if (bt x1000 x1001) = 94 then (.ret (4, 0, (⟨#[]⟩ : ByteArray), false, ([] : List S24), x1000, (wrap64 (x1001 + 1)), x1002)) else (if (bt x1000 x1001) = 36 then (.ret (5, 0, (⟨#[]⟩ : ByteArray), false, ([] : List S24), x1000, (wrap64 (x1001 + 1)), x1002)) else (if (bt x1000 x1001) = 91 then (.opt (spec_l3Set.fv x1000 (wrap64 (x1001 + 1)) x1002) fun t80 => (.ret (t80.1, t80.2.1, t80.2.2.1, t80.2.2.2.1, t80.2.2.2.2.1, t80.2.2.2.2.2.1, t80.2.2.2.2.2.2.1, t80.2.2.2.2.2.2.2))) else (if (bt x1000 x1001) = 92 then (if (wrap64 (x1001 + 1)) ≥ (x1000.size : Int) then (.ret (0, 0, (⟨#[]⟩ : ByteArray), false, ([] : List S24), x1000, (wrap64 (x1001 + 1)), true)) else (if 0 ≤ (wrap64 (x1001 + 1)) then (if (wrap64 (x1001 + 1)) < (x1000.size : Int) then (.ret (1, (wrap64 (bt x1000 (wrap64 (x1001 + 1)))), (⟨#[]⟩ : ByteArray), false, ([] : List S24), x1000, (wrap64 ((wrap64 (x1001 + 1)) + 1)), x1002)) else (.bad)) else (.bad))) else (if (bt x1000 x1001) = 42 then (.ret (1, (wrap64 (bt x1000 x1001)), (⟨#[]⟩ : ByteArray), false, ([] : List S24), x1000, (wrap64 (x1001 + 1)), true)) else (if (bt x1000 x1001) = 43 then (.ret (1, (wrap64 (bt x1000 x1001)), (⟨#[]⟩ : ByteArray), false, ([] : List S24), x1000, (wrap64 (x1001 + 1)), true)) else (if (bt x1000 x1001) = 63 then (.ret (1, (wrap64 (bt x1000 x1001)), (⟨#[]⟩ : ByteArray), false, ([] : List S24), x1000, (wrap64 (x1001 + 1)), true)) else (.ret (1, (wrap64 (bt x1000 x1001)), (⟨#[]⟩ : ByteArray), false, ([] : List S24), x1000, (wrap64 (x1001 + 1)), x1002))))))))))) else (.bad)) else (.bad))
def spec_l3Pattern.fv (s0_0 : ByteArray) (s0_1 : Int) (s0_2 : Bool) (a1 : Int) : Option (Int × Int × ByteArray × Bool × (List S24) × ByteArray × Int × Bool) := lim spec_l3Pattern.B (.spec_l3Pattern_f s0_0 s0_1 s0_2 a1)
def spec_l3Pattern.l0v (x1 : Int) (x5 : List S24) (x1000 : ByteArray) (x1001 : Int) (x1002 : Bool) : Option (Int × Int × ByteArray × Bool × (List S24) × ByteArray × Int × Bool) := lim spec_l3Pattern.B (.spec_l3Pattern_l0 x1 x5 x1000 x1001 x1002)
def spec_l3Part.fv (s0_0 : ByteArray) (s0_1 : Int) (s0_2 : Bool) (a1 : Int) : Option (Int × Int × ByteArray × Bool × (List S24) × ByteArray × Int × Bool) := lim spec_l3Pattern.B (.spec_l3Part_f s0_0 s0_1 s0_2 a1)
def spec_l3Part.j1v (x5 : List S24) (x1000 : ByteArray) (x1001 : Int) (x1002 : Bool) : Option (Int × Int × ByteArray × Bool × (List S24) × ByteArray × Int × Bool) := lim spec_l3Pattern.B (.spec_l3Part_j1 x5 x1000 x1001 x1002)
def spec_l3Part.l0v (x1 : Int) (x5 : List S24) (x1000 : ByteArray) (x1001 : Int) (x1002 : Bool) : Option (Int × Int × ByteArray × Bool × (List S24) × ByteArray × Int × Bool) := lim spec_l3Pattern.B (.spec_l3Part_l0 x1 x5 x1000 x1001 x1002)
def spec_l3Piece.fv (s0_0 : ByteArray) (s0_1 : Int) (s0_2 : Bool) (a1 : Int) : Option (Int × Int × ByteArray × Bool × (List S24) × ByteArray × Int × Bool) := lim spec_l3Pattern.B (.spec_l3Piece_f s0_0 s0_1 s0_2 a1)
def spec_l3Piece.l0v (x1000 : ByteArray) (x1001 : Int) (x1002 : Bool) (x531_0 : Int) (x531_1 : Int) (x531_2 : ByteArray) (x531_3 : Bool) (x531_4 : List S24) : Option (Int × Int × ByteArray × Bool × (List S24) × ByteArray × Int × Bool) := lim spec_l3Pattern.B (.spec_l3Piece_l0 x1000 x1001 x1002 x531_0 x531_1 x531_2 x531_3 x531_4)
def spec_l3Atom.fv (s0_0 : ByteArray) (s0_1 : Int) (s0_2 : Bool) (a1 : Int) : Option (Int × Int × ByteArray × Bool × (List S24) × ByteArray × Int × Bool) := lim spec_l3Pattern.B (.spec_l3Atom_f s0_0 s0_1 s0_2 a1)
def spec_l3Atom.j0v (x1 : Int) (x26 : Bool) (x1000 : ByteArray) (x1001 : Int) (x1002 : Bool) : Option (Int × Int × ByteArray × Bool × (List S24) × ByteArray × Int × Bool) := lim spec_l3Pattern.B (.spec_l3Atom_j0 x1 x26 x1000 x1001 x1002)
theorem spec_l3Pattern.fv_eq (s0_0 : ByteArray) (s0_1 : Int) (s0_2 : Bool) (a1 : Int) : spec_l3Pattern.fv s0_0 s0_1 s0_2 a1 = ((spec_l3Part.fv s0_0 s0_1 s0_2 a1).bind fun t8 => (spec_l3Pattern.l0v a1 ([(⟨t8.1, t8.2.1, t8.2.2.1, t8.2.2.2.1, t8.2.2.2.2.1⟩ : S24)] : List S24) t8.2.2.2.2.2.1 t8.2.2.2.2.2.2.1 t8.2.2.2.2.2.2.2)) := by
  show lim spec_l3Pattern.B (.spec_l3Pattern_f s0_0 s0_1 s0_2 a1) = _
  rw [lim_eq, spec_l3Pattern.B]
  simp only [ev_ite, ev_opt, ev_ask, ev_to, ev_ret, ev_bad]
  try rfl
theorem spec_l3Pattern.l0v_eq (x1 : Int) (x5 : List S24) (x1000 : ByteArray) (x1001 : Int) (x1002 : Bool) : spec_l3Pattern.l0v x1 x5 x1000 x1001 x1002 = ((spec_l3Now.f x1000 x1001 x1002 124).bind fun t11 => (if t11.1 = true then ((spec_l3Part.fv t11.2.1 (wrap64 (t11.2.2.1 + 1)) t11.2.2.2 x1).bind fun t22 => (if x5.length < 2199023255552 then (spec_l3Pattern.l0v x1 (x5 ++ [(⟨t22.1, t22.2.1, t22.2.2.1, t22.2.2.2.1, t22.2.2.2.2.1⟩ : S24)]) t22.2.2.2.2.2.1 t22.2.2.2.2.2.2.1 t22.2.2.2.2.2.2.2) else (none))) else (if (x5.length : Int) = 1 then (if 0 < (x5.length : Int) then (some ((rd_T24 x5 0).f0, (rd_T24 x5 0).f1, (rd_T24 x5 0).f2, (rd_T24 x5 0).f3, (rd_T24 x5 0).f4, t11.2.1, t11.2.2.1, t11.2.2.2)) else (none)) else (some (7, 0, (⟨#[]⟩ : ByteArray), false, x5, t11.2.1, t11.2.2.1, t11.2.2.2))))) := by
  show lim spec_l3Pattern.B (.spec_l3Pattern_l0 x1 x5 x1000 x1001 x1002) = _
  rw [lim_eq, spec_l3Pattern.B]
  simp only [ev_ite, ev_opt, ev_ask, ev_to, ev_ret, ev_bad]
  try rfl
theorem spec_l3Part.fv_eq (s0_0 : ByteArray) (s0_1 : Int) (s0_2 : Bool) (a1 : Int) : spec_l3Part.fv s0_0 s0_1 s0_2 a1 = (spec_l3Part.l0v a1 ([] : List S24) s0_0 s0_1 s0_2) := by
  show lim spec_l3Pattern.B (.spec_l3Part_f s0_0 s0_1 s0_2 a1) = _
  rw [lim_eq, spec_l3Pattern.B]
  simp only [ev_ite, ev_opt, ev_ask, ev_to, ev_ret, ev_bad]
  try rfl
theorem spec_l3Part.j1v_eq (x5 : List S24) (x1000 : ByteArray) (x1001 : Int) (x1002 : Bool) : spec_l3Part.j1v x5 x1000 x1001 x1002 = (if (x5.length : Int) = 0 then (some (11, 0, (⟨#[]⟩ : ByteArray), false, ([] : List S24), x1000, x1001, x1002)) else (if (x5.length : Int) = 1 then (if 0 < (x5.length : Int) then (some ((rd_T24 x5 0).f0, (rd_T24 x5 0).f1, (rd_T24 x5 0).f2, (rd_T24 x5 0).f3, (rd_T24 x5 0).f4, x1000, x1001, x1002)) else (none)) else (some (6, 0, (⟨#[]⟩ : ByteArray), false, x5, x1000, x1001, x1002)))) := by
  show lim spec_l3Pattern.B (.spec_l3Part_j1 x5 x1000 x1001 x1002) = _
  rw [lim_eq, spec_l3Pattern.B]
  simp only [ev_ite, ev_opt, ev_ask, ev_to, ev_ret, ev_bad]
  try rfl
theorem spec_l3Part.l0v_eq (x1 : Int) (x5 : List S24) (x1000 : ByteArray) (x1001 : Int) (x1002 : Bool) : spec_l3Part.l0v x1 x5 x1000 x1001 x1002 = (if x1002 = true then (spec_l3Part.j1v x5 x1000 x1001 x1002) else (if x1001 < (x1000.size : Int) then (if 0 ≤ x1001 then (if (bt x1000 x1001) = 124 then (spec_l3Part.j1v x5 x1000 x1001 x1002) else (if (bt x1000 x1001) = 41 then (spec_l3Part.j1v x5 x1000 x1001 x1002) else ((spec_l3Piece.fv x1000 x1001 x1002 x1).bind fun t51 => (if x5.length < 2199023255552 then (spec_l3Part.l0v x1 (x5 ++ [(⟨t51.1, t51.2.1, t51.2.2.1, t51.2.2.2.1, t51.2.2.2.2.1⟩ : S24)]) t51.2.2.2.2.2.1 t51.2.2.2.2.2.2.1 t51.2.2.2.2.2.2.2) else (none))))) else (none)) else (spec_l3Part.j1v x5 x1000 x1001 x1002))) := by
  show lim spec_l3Pattern.B (.spec_l3Part_l0 x1 x5 x1000 x1001 x1002) = _
  rw [lim_eq, spec_l3Pattern.B]
  simp only [ev_ite, ev_opt, ev_ask, ev_to, ev_ret, ev_bad]
  try rfl
theorem spec_l3Piece.fv_eq (s0_0 : ByteArray) (s0_1 : Int) (s0_2 : Bool) (a1 : Int) : spec_l3Piece.fv s0_0 s0_1 s0_2 a1 = ((spec_l3Atom.fv s0_0 s0_1 s0_2 a1).bind fun t10 => (spec_l3Piece.l0v t10.2.2.2.2.2.1 t10.2.2.2.2.2.2.1 t10.2.2.2.2.2.2.2 t10.1 t10.2.1 t10.2.2.1 t10.2.2.2.1 t10.2.2.2.2.1)) := by
  show lim spec_l3Pattern.B (.spec_l3Piece_f s0_0 s0_1 s0_2 a1) = _
  rw [lim_eq, spec_l3Pattern.B]
  simp only [ev_ite, ev_opt, ev_ask, ev_to, ev_ret, ev_bad]
  try rfl
theorem spec_l3Piece.l0v_eq (x1000 : ByteArray) (x1001 : Int) (x1002 : Bool) (x531_0 : Int) (x531_1 : Int) (x531_2 : ByteArray) (x531_3 : Bool) (x531_4 : List S24) : spec_l3Piece.l0v x1000 x1001 x1002 x531_0 x531_1 x531_2 x531_3 x531_4 = (if x1002 = true then (some (x531_0, x531_1, x531_2, x531_3, x531_4, x1000, x1001, x1002)) else ((spec_l3Now.f x1000 x1001 x1002 42).bind fun t18 => (if t18.1 = true then (if 8 = 0 then (some (x531_0, x531_1, x531_2, x531_3, x531_4, t18.2.1, t18.2.2.1, t18.2.2.2)) else (spec_l3Piece.l0v t18.2.1 (wrap64 (t18.2.2.1 + 1)) t18.2.2.2 8 0 (⟨#[]⟩ : ByteArray) false ([(⟨x531_0, x531_1, x531_2, x531_3, x531_4⟩ : S24)] : List S24))) else ((spec_l3Now.f t18.2.1 t18.2.2.1 t18.2.2.2 43).bind fun t21 => (if t21.1 = true then (if 9 = 0 then (some (x531_0, x531_1, x531_2, x531_3, x531_4, t21.2.1, t21.2.2.1, t21.2.2.2)) else (spec_l3Piece.l0v t21.2.1 (wrap64 (t21.2.2.1 + 1)) t21.2.2.2 9 0 (⟨#[]⟩ : ByteArray) false ([(⟨x531_0, x531_1, x531_2, x531_3, x531_4⟩ : S24)] : List S24))) else ((spec_l3Now.f t21.2.1 t21.2.2.1 t21.2.2.2 63).bind fun t24 => (if t24.1 = true then (if 10 = 0 then (some (x531_0, x531_1, x531_2, x531_3, x531_4, t24.2.1, t24.2.2.1, t24.2.2.2)) else (spec_l3Piece.l0v t24.2.1 (wrap64 (t24.2.2.1 + 1)) t24.2.2.2 10 0 (⟨#[]⟩ : ByteArray) false ([(⟨x531_0, x531_1, x531_2, x531_3, x531_4⟩ : S24)] : List S24))) else (if 0 = 0 then (some (x531_0, x531_1, x531_2, x531_3, x531_4, t24.2.1, t24.2.2.1, t24.2.2.2)) else (spec_l3Piece.l0v t24.2.1 (wrap64 (t24.2.2.1 + 1)) t24.2.2.2 0 0 (⟨#[]⟩ : ByteArray) false ([(⟨x531_0, x531_1, x531_2, x531_3, x531_4⟩ : S24)] : List S24)))))))))) := by
  show lim spec_l3Pattern.B (.spec_l3Piece_l0 x1000 x1001 x1002 x531_0 x531_1 x531_2 x531_3 x531_4) = _
  rw [lim_eq, spec_l3Pattern.B]
  simp only [ev_ite, ev_opt, ev_ask, ev_to, ev_ret, ev_bad]
  try rfl
theorem spec_l3Atom.fv_eq (s0_0 : ByteArray) (s0_1 : Int) (s0_2 : Bool) (a1 : Int) : spec_l3Atom.fv s0_0 s0_1 s0_2 a1 = (if s0_2 = true then (spec_l3Atom.j0v a1 true s0_0 s0_1 s0_2) else (if s0_1 ≥ (s0_0.size : Int) then (spec_l3Atom.j0v a1 true s0_0 s0_1 s0_2) else (spec_l3Atom.j0v a1 (decide (a1 > 40)) s0_0 s0_1 s0_2))) := by
  show lim spec_l3Pattern.B (.spec_l3Atom_f s0_0 s0_1 s0_2 a1) = _
  rw [lim_eq, spec_l3Pattern.B]
  simp only [ev_ite, ev_opt, ev_ask, ev_to, ev_ret, ev_bad]
  try rfl
theorem spec_l3Atom.j0v_eq (x1 : Int) (x26 : Bool) (x1000 : ByteArray) (x1001 : Int) (x1002 : Bool) : spec_l3Atom.j0v x1 x26 x1000 x1001 x1002 = (if x26 = true then (some (0, 0, (⟨#[]⟩ : ByteArray), false, ([] : List S24), x1000, x1001, true)) else (if 0 ≤ x1001 then (if x1001 < (x1000.size : Int) then (if (bt x1000 x1001) = 40 then ((spec_l3Pattern.fv x1000 (wrap64 (x1001 + 1)) x1002 (wrap64 (x1 + 1))).bind fun t53 => ((spec_l3Now.f t53.2.2.2.2.2.1 t53.2.2.2.2.2.2.1 t53.2.2.2.2.2.2.2 41).bind fun t55 => (if t55.1 = true then (some (t53.1, t53.2.1, t53.2.2.1, t53.2.2.2.1, t53.2.2.2.2.1, t55.2.1, (wrap64 (t55.2.2.1 + 1)), t55.2.2.2)) else (some (t53.1, t53.2.1, t53.2.2.1, t53.2.2.2.1, t53.2.2.2.2.1, t55.2.1, (wrap64 (t55.2.2.1 + 1)), true))))) else (if (bt x1000 x1001) = 46 then (some (2, 0, (⟨#[]⟩ : ByteArray), false, ([] : List S24), x1000, (wrap64 (x1001 + 1)), x1002)) else (if (bt x1000 x1001) = 94 then (some (4, 0, (⟨#[]⟩ : ByteArray), false, ([] : List S24), x1000, (wrap64 (x1001 + 1)), x1002)) else (if (bt x1000 x1001) = 36 then (some (5, 0, (⟨#[]⟩ : ByteArray), false, ([] : List S24), x1000, (wrap64 (x1001 + 1)), x1002)) else (if (bt x1000 x1001) = 91 then ((spec_l3Set.fv x1000 (wrap64 (x1001 + 1)) x1002).bind fun t80 => (some (t80.1, t80.2.1, t80.2.2.1, t80.2.2.2.1, t80.2.2.2.2.1, t80.2.2.2.2.2.1, t80.2.2.2.2.2.2.1, t80.2.2.2.2.2.2.2))) else (if (bt x1000 x1001) = 92 then (if (wrap64 (x1001 + 1)) ≥ (x1000.size : Int) then (some (0, 0, (⟨#[]⟩ : ByteArray), false, ([] : List S24), x1000, (wrap64 (x1001 + 1)), true)) else (if 0 ≤ (wrap64 (x1001 + 1)) then (if (wrap64 (x1001 + 1)) < (x1000.size : Int) then (some (1, (wrap64 (bt x1000 (wrap64 (x1001 + 1)))), (⟨#[]⟩ : ByteArray), false, ([] : List S24), x1000, (wrap64 ((wrap64 (x1001 + 1)) + 1)), x1002)) else (none)) else (none))) else (if (bt x1000 x1001) = 42 then (some (1, (wrap64 (bt x1000 x1001)), (⟨#[]⟩ : ByteArray), false, ([] : List S24), x1000, (wrap64 (x1001 + 1)), true)) else (if (bt x1000 x1001) = 43 then (some (1, (wrap64 (bt x1000 x1001)), (⟨#[]⟩ : ByteArray), false, ([] : List S24), x1000, (wrap64 (x1001 + 1)), true)) else (if (bt x1000 x1001) = 63 then (some (1, (wrap64 (bt x1000 x1001)), (⟨#[]⟩ : ByteArray), false, ([] : List S24), x1000, (wrap64 (x1001 + 1)), true)) else (some (1, (wrap64 (bt x1000 x1001)), (⟨#[]⟩ : ByteArray), false, ([] : List S24), x1000, (wrap64 (x1001 + 1)), x1002))))))))))) else (none)) else (none))) := by
  show lim spec_l3Pattern.B (.spec_l3Atom_j0 x1 x26 x1000 x1001 x1002) = _
  rw [lim_eq, spec_l3Pattern.B]
  simp only [ev_ite, ev_opt, ev_ask, ev_to, ev_ret, ev_bad]
  try rfl
def spec_l1Max.f (a0 : Int) (a1 : Int) : Option (Int) := if a0 > a1 then (some a0) else (some a1)
inductive spec_l3Deep.Q where
  | f (a0_0 : Int) (a0_1 : Int) (a0_2 : ByteArray) (a0_3 : Bool) (l0_4 : List S24)
  | l0 (x3 : Int) (x4 : Int) (x16_0 : Int) (x16_1 : Int) (x16_2 : ByteArray) (x16_3 : Bool) (x16_4 : List S24)
def spec_l3Deep.B : spec_l3Deep.Q → Pg spec_l3Deep.Q (fun _ => Int) (Int)
  | .f a0_0 a0_1 a0_2 a0_3 l0_4 => .to (.l0 0 0 a0_0 a0_1 a0_2 a0_3 l0_4)
  | .l0 x3 x4 x16_0 x16_1 x16_2 x16_3 x16_4 => if x4 < (x16_4.length : Int) then (if 0 ≤ x4 then (.ask (.f ((rd_T24 x16_4 x4).f0) ((rd_T24 x16_4 x4).f1) ((rd_T24 x16_4 x4).f2) ((rd_T24 x16_4 x4).f3) ((rd_T24 x16_4 x4).f4)) fun (t18 : Int) => (.opt (spec_l1Max.f x3 t18) fun t19 => (.to (.l0 t19 (wrap64 (x4 + 1)) x16_0 x16_1 x16_2 x16_3 x16_4)))) else (.bad)) else (.ret (wrap64 (x3 + 1)))
def spec_l3Deep.fv (a0_0 : Int) (a0_1 : Int) (a0_2 : ByteArray) (a0_3 : Bool) (l0_4 : List S24) : Option (Int) := lim spec_l3Deep.B (.f a0_0 a0_1 a0_2 a0_3 l0_4)
def spec_l3Deep.l0v (x3 : Int) (x4 : Int) (x16_0 : Int) (x16_1 : Int) (x16_2 : ByteArray) (x16_3 : Bool) (x16_4 : List S24) : Option (Int) := lim spec_l3Deep.B (.l0 x3 x4 x16_0 x16_1 x16_2 x16_3 x16_4)
theorem spec_l3Deep.fv_eq (a0_0 : Int) (a0_1 : Int) (a0_2 : ByteArray) (a0_3 : Bool) (l0_4 : List S24) : spec_l3Deep.fv a0_0 a0_1 a0_2 a0_3 l0_4 = (spec_l3Deep.l0v 0 0 a0_0 a0_1 a0_2 a0_3 l0_4) := by
  show lim spec_l3Deep.B (.f a0_0 a0_1 a0_2 a0_3 l0_4) = _
  rw [lim_eq, spec_l3Deep.B]
  simp only [ev_ite, ev_opt, ev_ask, ev_to, ev_ret, ev_bad]
  try rfl
theorem spec_l3Deep.l0v_eq (x3 : Int) (x4 : Int) (x16_0 : Int) (x16_1 : Int) (x16_2 : ByteArray) (x16_3 : Bool) (x16_4 : List S24) : spec_l3Deep.l0v x3 x4 x16_0 x16_1 x16_2 x16_3 x16_4 = (if x4 < (x16_4.length : Int) then (if 0 ≤ x4 then ((spec_l3Deep.fv ((rd_T24 x16_4 x4).f0) ((rd_T24 x16_4 x4).f1) ((rd_T24 x16_4 x4).f2) ((rd_T24 x16_4 x4).f3) ((rd_T24 x16_4 x4).f4)).bind fun t18 => ((spec_l1Max.f x3 t18).bind fun t19 => (spec_l3Deep.l0v t19 (wrap64 (x4 + 1)) x16_0 x16_1 x16_2 x16_3 x16_4))) else (none)) else (some (wrap64 (x3 + 1)))) := by
  show lim spec_l3Deep.B (.l0 x3 x4 x16_0 x16_1 x16_2 x16_3 x16_4) = _
  rw [lim_eq, spec_l3Deep.B]
  simp only [ev_ite, ev_opt, ev_ask, ev_to, ev_ret, ev_bad]
  try rfl
def spec_RexParse.fv (a0 : ByteArray) : Option (Int × Int × ByteArray × Bool × (List S24) × Bool) := if (a0.size : Int) > 60 then (some (0, 0, (⟨#[]⟩ : ByteArray), false, ([] : List S24), false)) else ((spec_l3Pattern.fv a0 0 false 0).bind fun t14 => (if t14.2.2.2.2.2.2.2 = true then (some (0, 0, (⟨#[]⟩ : ByteArray), false, ([] : List S24), false)) else (if t14.2.2.2.2.2.2.1 = (a0.size : Int) then ((spec_l3Deep.fv t14.1 t14.2.1 t14.2.2.1 t14.2.2.2.1 t14.2.2.2.2.1).bind fun t30 => (if t30 > 12 then (some (0, 0, (⟨#[]⟩ : ByteArray), false, ([] : List S24), false)) else (some (t14.1, t14.2.1, t14.2.2.1, t14.2.2.2.1, t14.2.2.2.2.1, true)))) else (some (0, 0, (⟨#[]⟩ : ByteArray), false, ([] : List S24), false)))))
theorem spec_RexParse.fv_eq (a0 : ByteArray) : spec_RexParse.fv a0 = (if (a0.size : Int) > 60 then (some (0, 0, (⟨#[]⟩ : ByteArray), false, ([] : List S24), false)) else ((spec_l3Pattern.fv a0 0 false 0).bind fun t14 => (if t14.2.2.2.2.2.2.2 = true then (some (0, 0, (⟨#[]⟩ : ByteArray), false, ([] : List S24), false)) else (if t14.2.2.2.2.2.2.1 = (a0.size : Int) then ((spec_l3Deep.fv t14.1 t14.2.1 t14.2.2.1 t14.2.2.2.1 t14.2.2.2.2.1).bind fun t30 => (if t30 > 12 then (some (0, 0, (⟨#[]⟩ : ByteArray), false, ([] : List S24), false)) else (some (t14.1, t14.2.1, t14.2.2.1, t14.2.2.2.1, t14.2.2.2.2.1, true)))) else (some (0, 0, (⟨#[]⟩ : ByteArray), false, ([] : List S24), false)))))) := by rw [spec_RexParse.fv]
def impl_rexReader_next.f (s0_0 : ByteArray) (s0_1 : Bool) : Option (Int × Bool × ByteArray × Bool) := if s0_0.toList = ([] : List UInt8) then (some (0, false, s0_0, s0_1)) else (if s0_1 = true then (some (0, false, s0_0, s0_1)) else (if 0 < (s0_0.size : Int) then (some ((bt s0_0 0), true, s0_0, s0_1)) else (none)))
def impl_rexReader_take.f (s0_0 : ByteArray) (s0_1 : Bool) (a1 : Int) : Option (Bool × ByteArray × Bool) := (impl_rexReader_next.f s0_0 s0_1).bind fun t9 => (if t9.2.1 = true then (if t9.1 = a1 then (if 1 ≤ (t9.2.2.1.size : Int) then (some (true, (t9.2.2.1.extract 1 t9.2.2.1.size), t9.2.2.2)) else (none)) else (some (false, t9.2.2.1, t9.2.2.2))) else (some (false, t9.2.2.1, t9.2.2.2)))
inductive impl_rexReader_set.Q where
  | f (s0_0 : ByteArray) (s0_1 : Bool)
  | l0 (x5 : ByteArray) (x6 : List Bool) (x7 : Int) (y2000008224 : List S24) (x1000 : ByteArray) (x1001 : Bool) (x531_0 : Int) (x531_1 : Int) (x531_2 : ByteArray) (x531_3 : Bool)
  | j2 (x5 : ByteArray) (x6 : List Bool) (x7 : Int) (x8 : Int) (x9 : Int) (y2000008224 : List S24) (x1000 : ByteArray) (x1001 : Bool) (x531_0 : Int) (x531_1 : Int) (x531_2 : ByteArray) (x531_3 : Bool)
  | j1 (x5 : ByteArray) (x6 : List Bool) (x7 : Int) (x8 : Int) (x9 : Int) (x70 : Bool) (y2000008224 : List S24) (x1000 : ByteArray) (x1001 : Bool) (x531_0 : Int) (x531_1 : Int) (x531_2 : ByteArray) (x531_3 : Bool)
  | l1 (x5 : ByteArray) (x6 : List Bool) (x7 : Int) (x9 : Int) (x10 : Int) (y2000008224 : List S24) (x1000 : ByteArray) (x1001 : Bool) (x531_0 : Int) (x531_1 : Int) (x531_2 : ByteArray) (x531_3 : Bool)
  | l2 (x11 : List Int) (x100 : List Bool) (x101 : Int) (x102 : Int) (y2000008224 : List S24) (x1000 : ByteArray) (x1001 : Bool) (x531_0 : Int) (x531_1 : Int) (x531_2 : ByteArray) (x531_3 : Bool)
def impl_rexReader_set.B : impl_rexReader_set.Q → Pg impl_rexReader_set.Q (fun _ => Int × Int × ByteArray × Bool × (List S24) × ByteArray × Bool) (Int × Int × ByteArray × Bool × (List S24) × ByteArray × Bool)
  | .f s0_0 s0_1 => .opt (impl_rexReader_take.f s0_0 s0_1 94) fun t15 => (.opt (strings_IndexByte.f t15.2.1 93) fun t21 => (if t21 < 1 then (.ret (0, 0, (⟨#[]⟩ : ByteArray), false, ([] : List S24), t15.2.1, true)) else (if 0 ≤ t21 then (if t21 ≤ (t15.2.1.size : Int) then (if 0 ≤ (wrap64 (t21 + 1)) then (if (wrap64 (t21 + 1)) ≤ (t15.2.1.size : Int) then (if 256 ≤ 281474976710656 then (.to (.l0 (t15.2.1.extract 0 (t21 : Int).toNat) (List.replicate 256 false) 0 ([] : List S24) ((t15.2.1.extract ((wrap64 (t21 + 1)) : Int).toNat t15.2.1.size)) t15.2.2 3 0 (⟨#[]⟩ : ByteArray) t15.1)) else (.bad)) else (.bad)) else (.bad)) else (.bad)) else (.bad))))
  | .l0 x5 x6 x7 y2000008224 x1000 x1001 x531_0 x531_1 x531_2 x531_3 => if x7 < (x5.size : Int) then (if 0 ≤ x7 then (if (wrap64 (x7 + 2)) < (x5.size : Int) then (if 0 ≤ (wrap64 (x7 + 1)) then (if (wrap64 (x7 + 1)) < (x5.size : Int) then (.to (.j1 x5 x6 x7 (wrap64 (bt x5 x7)) (wrap64 (bt x5 x7)) (((bt x5 (wrap64 (x7 + 1))) == 45)) y2000008224 x1000 x1001 x531_0 x531_1 x531_2 x531_3)) else (.bad)) else (.bad)) else (.to (.j1 x5 x6 x7 (wrap64 (bt x5 x7)) (wrap64 (bt x5 x7)) false y2000008224 x1000 x1001 x531_0 x531_1 x531_2 x531_3))) else (.bad)) else (.to (.l2 ([] : List Int) x6 (x6.length : Int) 0 y2000008224 x1000 x1001 x531_0 x531_1 x531_2 x531_3))
  | .j2 x5 x6 x7 x8 x9 y2000008224 x1000 x1001 x531_0 x531_1 x531_2 x531_3 => .to (.l1 x5 x6 x7 x9 x8 y2000008224 x1000 x1001 x531_0 x531_1 x531_2 x531_3)
  | .j1 x5 x6 x7 x8 x9 x70 y2000008224 x1000 x1001 x531_0 x531_1 x531_2 x531_3 => if x70 = true then (if 0 ≤ (wrap64 (x7 + 2)) then (if (wrap64 (x7 + 2)) < (x5.size : Int) then (if x1001 = true then (.to (.j2 x5 x6 (wrap64 (x7 + 2)) x8 ((wrap64 (bt x5 (wrap64 (x7 + 2))))) y2000008224 x1000 true x531_0 x531_1 x531_2 x531_3)) else (.to (.j2 x5 x6 (wrap64 (x7 + 2)) x8 ((wrap64 (bt x5 (wrap64 (x7 + 2))))) y2000008224 x1000 ((decide ((wrap64 (bt x5 (wrap64 (x7 + 2)))) < x8))) x531_0 x531_1 x531_2 x531_3))) else (.bad)) else (.bad)) else (.to (.j2 x5 x6 x7 x8 x9 y2000008224 x1000 x1001 x531_0 x531_1 x531_2 x531_3))
  | .l1 x5 x6 x7 x9 x10 y2000008224 x1000 x1001 x531_0 x531_1 x531_2 x531_3 => if x10 ≤ x9 then (if 0 ≤ x10 then (if x10 < (x6.length : Int) then (.to (.l1 x5 (x6.set (x10 : Int).toNat true) x7 x9 (wrap64 (x10 + 1)) y2000008224 x1000 x1001 x531_0 x531_1 x531_2 x531_3)) else (.bad)) else (.bad)) else (.to (.l0 x5 x6 (wrap64 (x7 + 1)) y2000008224 x1000 x1001 x531_0 x531_1 x531_2 x531_3))
  | .l2 x11 x100 x101 x102 y2000008224 x1000 x1001 x531_0 x531_1 x531_2 x531_3 => if x102 < x101 then (if 0 ≤ x102 then (if x102 < (x100.length : Int) then (if (rdOf false x100 x102) = true then (if x11.length < 140737488355328 then (.to (.l2 ((x11 ++ [((x102) % 256)])) x100 x101 (wrap64 (x102 + 1)) y2000008224 x1000 x1001 x531_0 x531_1 x531_2 x531_3)) else (.bad)) else (.to (.l2 x11 x100 x101 (wrap64 (x102 + 1)) y2000008224 x1000 x1001 x531_0 x531_1 x531_2 x531_3))) else (.bad)) else (.bad)) else (.ret (x531_0, x531_1, (strOfNums x11), x531_3, y2000008224, x1000, x1001))
def impl_rexReader_set.fv (s0_0 : ByteArray) (s0_1 : Bool) : Option (Int × Int × ByteArray × Bool × (List S24) × ByteArray × Bool) := lim impl_rexReader_set.B (.f s0_0 s0_1)
def impl_rexReader_set.l0v (x5 : ByteArray) (x6 : List Bool) (x7 : Int) (y2000008224 : List S24) (x1000 : ByteArray) (x1001 : Bool) (x531_0 : Int) (x531_1 : Int) (x531_2 : ByteArray) (x531_3 : Bool) : Option (Int × Int × ByteArray × Bool × (List S24) × ByteArray × Bool) := lim impl_rexReader_set.B (.l0 x5 x6 x7 y2000008224 x1000 x1001 x531_0 x531_1 x531_2 x531_3)
def impl_rexReader_set.j2v (x5 : ByteArray) (x6 : List Bool) (x7 : Int) (x8 : Int) (x9 : Int) (y2000008224 : List S24) (x1000 : ByteArray) (x1001 : Bool) (x531_0 : Int) (x531_1 : Int) (x531_2 : ByteArray) (x531_3 : Bool) : Option (Int × Int × ByteArray × Bool × (List S24) × ByteArray × Bool) := lim impl_rexReader_set.B (.j2 x5 x6 x7 x8 x9 y2000008224 x1000 x1001 x531_0 x531_1 x531_2 x531_3)
def impl_rexReader_set.j1v (x5 : ByteArray) (x6 : List Bool) (x7 : Int) (x8 : Int) (x9 : Int) (x70 : Bool) (y2000008224 : List S24) (x1000 : ByteArray) (x1001 : Bool) (x531_0 : Int) (x531_1 : Int) (x531_2 : ByteArray) (x531_3 : Bool) : Option (Int × Int × ByteArray × Bool × (List S24) × ByteArray × Bool) := lim impl_rexReader_set.B (.j1 x5 x6 x7 x8 x9 x70 y2000008224 x1000 x1001 x531_0 x531_1 x531_2 x531_3)
def impl_rexReader_set.l1v (x5 : ByteArray) (x6 : List Bool) (x7 : Int) (x9 : Int) (x10 : Int) (y2000008224 : List S24) (x1000 : ByteArray) (x1001 : Bool) (x531_0 : Int) (x531_1 : Int) (x531_2 : ByteArray) (x531_3 : Bool) : Option (Int × Int × ByteArray × Bool × (List S24) × ByteArray × Bool) := lim impl_rexReader_set.B (.l1 x5 x6 x7 x9 x10 y2000008224 x1000 x1001 x531_0 x531_1 x531_2 x531_3)
def impl_rexReader_set.l2v (x11 : List Int) (x100 : List Bool) (x101 : Int) (x102 : Int) (y2000008224 : List S24) (x1000 : ByteArray) (x1001 : Bool) (x531_0 : Int) (x531_1 : Int) (x531_2 : ByteArray) (x531_3 : Bool) : Option (Int × Int × ByteArray × Bool × (List S24) × ByteArray × Bool) := lim impl_rexReader_set.B (.l2 x11 x100 x101 x102 y2000008224 x1000 x1001 x531_0 x531_1 x531_2 x531_3)
theorem impl_rexReader_set.fv_eq (s0_0 : ByteArray) (s0_1 : Bool) : impl_rexReader_set.fv s0_0 s0_1 = ((impl_rexReader_take.f s0_0 s0_1 94).bind fun t15 => ((strings_IndexByte.f t15.2.1 93).bind fun t21 => (if t21 < 1 then (some (0, 0, (⟨#[]⟩ : ByteArray), false, ([] : List S24), t15.2.1, true)) else (if 0 ≤ t21 then (if t21 ≤ (t15.2.1.size : Int) then (if 0 ≤ (wrap64 (t21 + 1)) then (if (wrap64 (t21 + 1)) ≤ (t15.2.1.size : Int) then (if 256 ≤ 281474976710656 then (impl_rexReader_set.l0v (t15.2.1.extract 0 (t21 : Int).toNat) (List.replicate 256 false) 0 ([] : List S24) ((t15.2.1.extract ((wrap64 (t21 + 1)) : Int).toNat t15.2.1.size)) t15.2.2 3 0 (⟨#[]⟩ : ByteArray) t15.1) else (none)) else (none)) else (none)) else (none)) else (none))))) := by
  show lim impl_rexReader_set.B (.f s0_0 s0_1) = _
  rw [lim_eq, impl_rexReader_set.B]
  simp only [ev_ite, ev_opt, ev_ask, ev_to, ev_ret, ev_bad]
  try rfl
theorem impl_rexReader_set.l0v_eq (x5 : ByteArray) (x6 : List Bool) (x7 : Int) (y2000008224 : List S24) (x1000 : ByteArray) (x1001 : Bool) (x531_0 : Int) (x531_1 : Int) (x531_2 : ByteArray) (x531_3 : Bool) : impl_rexReader_set.l0v x5 x6 x7 y2000008224 x1000 x1001 x531_0 x531_1 x531_2 x531_3 = (if x7 < (x5.size : Int) then (if 0 ≤ x7 then (if (wrap64 (x7 + 2)) < (x5.size : Int) then (if 0 ≤ (wrap64 (x7 + 1)) then (if (wrap64 (x7 + 1)) < (x5.size : Int) then (impl_rexReader_set.j1v x5 x6 x7 (wrap64 (bt x5 x7)) (wrap64 (bt x5 x7)) (((bt x5 (wrap64 (x7 + 1))) == 45)) y2000008224 x1000 x1001 x531_0 x531_1 x531_2 x531_3) else (none)) else (none)) else (impl_rexReader_set.j1v x5 x6 x7 (wrap64 (bt x5 x7)) (wrap64 (bt x5 x7)) false y2000008224 x1000 x1001 x531_0 x531_1 x531_2 x531_3)) else (none)) else (impl_rexReader_set.l2v ([] : List Int) x6 (x6.length : Int) 0 y2000008224 x1000 x1001 x531_0 x531_1 x531_2 x531_3)) := by
  show lim impl_rexReader_set.B (.l0 x5 x6 x7 y2000008224 x1000 x1001 x531_0 x531_1 x531_2 x531_3) = _
  rw [lim_eq, impl_rexReader_set.B]
  simp only [ev_ite, ev_opt, ev_ask, ev_to, ev_ret, ev_bad]
  try rfl
theorem impl_rexReader_set.j2v_eq (x5 : ByteArray) (x6 : List Bool) (x7 : Int) (x8 : Int) (x9 : Int) (y2000008224 : List S24) (x1000 : ByteArray) (x1001 : Bool) (x531_0 : Int) (x531_1 : Int) (x531_2 : ByteArray) (x531_3 : Bool) : impl_rexReader_set.j2v x5 x6 x7 x8 x9 y2000008224 x1000 x1001 x531_0 x531_1 x531_2 x531_3 = (impl_rexReader_set.l1v x5 x6 x7 x9 x8 y2000008224 x1000 x1001 x531_0 x531_1 x531_2 x531_3) := by
  show lim impl_rexReader_set.B (.j2 x5 x6 x7 x8 x9 y2000008224 x1000 x1001 x531_0 x531_1 x531_2 x531_3) = _
  rw [lim_eq, impl_rexReader_set.B]
  simp only [ev_ite, ev_opt, ev_ask, ev_to, ev_ret, ev_bad]
  try rfl
theorem impl_rexReader_set.j1v_eq (x5 : ByteArray) (x6 : List Bool) (x7 : Int) (x8 : Int) (x9 : Int) (x70 : Bool) (y2000008224 : List S24) (x1000 : ByteArray) (x1001 : Bool) (x531_0 : Int) (x531_1 : Int) (x531_2 : ByteArray) (x531_3 : Bool) : impl_rexReader_set.j1v x5 x6 x7 x8 x9 x70 y2000008224 x1000 x1001 x531_0 x531_1 x531_2 x531_3 = (if x70 = true then (if 0 ≤ (wrap64 (x7 + 2)) then (if (wrap64 (x7 + 2)) < (x5.size : Int) then (if x1001 = true then (impl_rexReader_set.j2v x5 x6 (wrap64 (x7 + 2)) x8 ((wrap64 (bt x5 (wrap64 (x7 + 2))))) y2000008224 x1000 true x531_0 x531_1 x531_2 x531_3) else (impl_rexReader_set.j2v x5 x6 (wrap64 (x7 + 2)) x8 ((wrap64 (bt x5 (wrap64 (x7 + 2))))) y2000008224 x1000 ((decide ((wrap64 (bt x5 (wrap64 (x7 + 2)))) < x8))) x531_0 x531_1 x531_2 x531_3)) else (none)) else (none)) else (impl_rexReader_set.j2v x5 x6 x7 x8 x9 y2000008224 x1000 x1001 x531_0 x531_1 x531_2 x531_3)) := by
  show lim impl_rexReader_set.B (.j1 x5 x6 x7 x8 x9 x70 y2000008224 x1000 x1001 x531_0 x531_1 x531_2 x531_3) = _
  rw [lim_eq, impl_rexReader_set.B]
  simp only [ev_ite, ev_opt, ev_ask, ev_to, ev_ret, ev_bad]
  try rfl
theorem impl_rexReader_set.l1v_eq (x5 : ByteArray) (x6 : List Bool) (x7 : Int) (x9 : Int) (x10 : Int) (y2000008224 : List S24) (x1000 : ByteArray) (x1001 : Bool) (x531_0 : Int) (x531_1 : Int) (x531_2 : ByteArray) (x531_3 : Bool) : impl_rexReader_set.l1v x5 x6 x7 x9 x10 y2000008224 x1000 x1001 x531_0 x531_1 x531_2 x531_3 = (if x10 ≤ x9 then (if 0 ≤ x10 then (if x10 < (x6.length : Int) then (impl_rexReader_set.l1v x5 (x6.set (x10 : Int).toNat true) x7 x9 (wrap64 (x10 + 1)) y2000008224 x1000 x1001 x531_0 x531_1 x531_2 x531_3) else (none)) else (none)) else (impl_rexReader_set.l0v x5 x6 (wrap64 (x7 + 1)) y2000008224 x1000 x1001 x531_0 x531_1 x531_2 x531_3)) := by
  show lim impl_rexReader_set.B (.l1 x5 x6 x7 x9 x10 y2000008224 x1000 x1001 x531_0 x531_1 x531_2 x531_3) = _
  rw [lim_eq, impl_rexReader_set.B]
  simp only [ev_ite, ev_opt, ev_ask, ev_to, ev_ret, ev_bad]
  try rfl
theorem impl_rexReader_set.l2v_eq (x11 : List Int) (x100 : List Bool) (x101 : Int) (x102 : Int) (y2000008224 : List S24) (x1000 : ByteArray) (x1001 : Bool) (x531_0 : Int) (x531_1 : Int) (x531_2 : ByteArray) (x531_3 : Bool) : impl_rexReader_set.l2v x11 x100 x101 x102 y2000008224 x1000 x1001 x531_0 x531_1 x531_2 x531_3 = (if x102 < x101 then (if 0 ≤ x102 then (if x102 < (x100.length : Int) then (if (rdOf false x100 x102) = true then (if x11.length < 140737488355328 then (impl_rexReader_set.l2v ((x11 ++ [((x102) % 256)])) x100 x101 (wrap64 (x102 + 1)) y2000008224 x1000 x1001 x531_0 x531_1 x531_2 x531_3) else (none)) else (impl_rexReader_set.l2v x11 x100 x101 (wrap64 (x102 + 1)) y2000008224 x1000 x1001 x531_0 x531_1 x531_2 x531_3)) else (none)) else (none)) else (some (x531_0, x531_1, (strOfNums x11), x531_3, y2000008224, x1000, x1001))) := by
  show lim impl_rexReader_set.B (.l2 x11 x100 x101 x102 y2000008224 x1000 x1001 x531_0 x531_1 x531_2 x531_3) = _
  rw [lim_eq, impl_rexReader_set.B]
  simp only [ev_ite, ev_opt, ev_ask, ev_to, ev_ret, ev_bad]
  try rfl
def impl_repeatOf.f (a0 : Int) : Option (Int) := if a0 = 42 then (some 8) else (if a0 = 43 then (some 9) else (if a0 = 63 then (some 10) else (some 0)))
inductive impl_rexReader_pattern.Q where
  | impl_rexReader_pattern_f (s0_0 : ByteArray) (s0_1 : Bool)
  | impl_rexReader_pattern_l0 (x3 : List S24) (x1000 : ByteArray) (x1001 : Bool)
  | impl_rexReader_part_f (s0_0 : ByteArray) (s0_1 : Bool)
  | impl_rexReader_part_j1 (x3 : List S24) (x1000 : ByteArray) (x1001 : Bool)
  | impl_rexReader_part_l0 (x3 : List S24) (x1000 : ByteArray) (x1001 : Bool)
  | impl_rexReader_piece_f (s0_0 : ByteArray) (s0_1 : Bool)
  | impl_rexReader_piece_l0 (y1008209 : List S24) (x1000 : ByteArray) (x1001 : Bool) (x530_0 : Int) (x530_1 : Int) (x530_2 : ByteArray) (x530_3 : Bool)
  | impl_rexReader_atom_f (s0_0 : ByteArray) (s0_1 : Bool)
def impl_rexReader_pattern.B : impl_rexReader_pattern.Q → Pg impl_rexReader_pattern.Q (fun _ => Int × Int × ByteArray × Bool × (List S24) × ByteArray × Bool) (Int × Int × ByteArray × Bool × (List S24) × ByteArray × Bool)
  | .impl_rexReader_pattern_f s0_0 s0_1 => .ask (.impl_rexReader_part_f s0_0 s0_1) fun (t5 : Int × Int × ByteArray × Bool × (List S24) × ByteArray × Bool) => (.to (.impl_rexReader_pattern_l0 ([(⟨t5.1, t5.2.1, t5.2.2.1, t5.2.2.2.1, t5.2.2.2.2.1⟩ : S24)] : List S24) t5.2.2.2.2.2.1 t5.2.2.2.2.2.2))
  | .impl_rexReader_pattern_l0 x3 x1000 x1001 => .opt (impl_rexReader_take.f x1000 x1001 124) fun t8 => (if t8.1 = true then (.ask (.impl_rexReader_part_f t8.2.1 t8.2.2) fun (t11 : Int × Int × ByteArray × Bool × (List S24) × ByteArray × Bool) => (if x3.length < 2199023255552 then (.to (.impl_rexReader_pattern_l0 (x3 ++ [(⟨t11.1, t11.2.1, t11.2.2.1, t11.2.2.2.1, t11.2.2.2.2.1⟩ : S24)]) t11.2.2.2.2.2.1 t11.2.2.2.2.2.2)) else (.bad))) else (if (x3.length : Int) = 1 then (if 0 < (x3.length : Int) then (.ret ((rd_T24 x3 0).f0, (rd_T24 x3 0).f1, (rd_T24 x3 0).f2, (rd_T24 x3 0).f3, (rd_T24 x3 0).f4, t8.2.1, t8.2.2)) else (.bad)) else (.ret (7, 0, (⟨#[]⟩ : ByteArray), false, x3, t8.2.1, t8.2.2))))
  | .impl_rexReader_part_f s0_0 s0_1 => .to (.impl_rexReader_part_l0 ([] : List S24) s0_0 s0_1)
  | .impl_rexReader_part_j1 x3 x1000 x1001 => if (x3.length : Int) = 0 then (.ret (11, 0, (⟨#[]⟩ : ByteArray), false, ([] : List S24), x1000, x1001)) else (if (x3.length : Int) = 1 then (if 0 < (x3.length : Int) then (.ret ((rd_T24 x3 0).f0, (rd_T24 x3 0).f1, (rd_T24 x3 0).f2, (rd_T24 x3 0).f3, (rd_T24 x3 0).f4, x1000, x1001)) else (.bad)) else (.ret (6, 0, (⟨#[]⟩ : ByteArray), false, x3, x1000, x1001)))
  | .impl_rexReader_part_l0 x3 x1000 x1001 => .opt (impl_rexReader_next.f x1000 x1001) fun t9 => (if t9.2.1 = true then (if t9.1 = 124 then (.to (.impl_rexReader_part_j1 x3 t9.2.2.1 t9.2.2.2)) else (if t9.1 = 41 then (.to (.impl_rexReader_part_j1 x3 t9.2.2.1 t9.2.2.2)) else (.ask (.impl_rexReader_piece_f t9.2.2.1 t9.2.2.2) fun (t24 : Int × Int × ByteArray × Bool × (List S24) × ByteArray × Bool) => (if x3.length < 2199023255552 then (.to (.impl_rexReader_part_l0 (x3 ++ [(⟨t24.1, t24.2.1, t24.2.2.1, t24.2.2.2.1, t24.2.2.2.2.1⟩ : S24)]) t24.2.2.2.2.2.1 t24.2.2.2.2.2.2)) else (.bad))))) else (.to (.impl_rexReader_part_j1 x3 t9.2.2.1 t9.2.2.2)))
  | .impl_rexReader_piece_f s0_0 s0_1 => .ask (.impl_rexReader_atom_f s0_0 s0_1) fun (t7 : Int × Int × ByteArray × Bool × (List S24) × ByteArray × Bool) => (.to (.impl_rexReader_piece_l0 t7.2.2.2.2.1 t7.2.2.2.2.2.1 t7.2.2.2.2.2.2 t7.1 t7.2.1 t7.2.2.1 t7.2.2.2.1))
  | .impl_rexReader_piece_l0 y1008209 x1000 x1001 x530_0 x530_1 x530_2 x530_3 => .opt (impl_rexReader_next.f x1000 x1001) fun t10 => (if t10.2.1 = true then (.opt (impl_repeatOf.f t10.1) fun t17 => (if t17 = 0 then (.ret (x530_0, x530_1, x530_2, x530_3, y1008209, t10.2.2.1, t10.2.2.2)) else (if 1 ≤ (t10.2.2.1.size : Int) then (.opt (impl_repeatOf.f t10.1) fun t30 => (.to (.impl_rexReader_piece_l0 ([(⟨x530_0, x530_1, x530_2, x530_3, y1008209⟩ : S24)] : List S24) (t10.2.2.1.extract 1 t10.2.2.1.size) t10.2.2.2 t30 0 (⟨#[]⟩ : ByteArray) false))) else (.bad)))) else (.ret (x530_0, x530_1, x530_2, x530_3, y1008209, t10.2.2.1, t10.2.2.2)))
  | .impl_rexReader_atom_f s0_0 s0_1 => .opt (impl_rexReader_next.f s0_0 s0_1) fun t10 => (if 1 ≤ (t10.2.2.1.size : Int) then (if t10.1 = 40 then (.ask (.impl_rexReader_pattern_f (t10.2.2.1.extract 1 t10.2.2.1.size) t10.2.2.2) fun (t25 : Int × Int × ByteArray × Bool × (List S24) × ByteArray × Bool) => (.opt (impl_rexReader_take.f t25.2.2.2.2.2.1 t25.2.2.2.2.2.2 41) fun t27 => (if t27.1 = true then (.ret (t25.1, t25.2.1, t25.2.2.1, t25.2.2.2.1, t25.2.2.2.2.1, t27.2.1, t27.2.2)) else (.ret (t25.1, t25.2.1, t25.2.2.1, t25.2.2.2.1, t25.2.2.2.2.1, t27.2.1, true))))) else (if t10.1 = 46 then (.ret (2, 0, (⟨#[]⟩ : ByteArray), false, ([] : List S24), (t10.2.2.1.extract 1 t10.2.2.1.size), t10.2.2.2)) else (if t10.1 = 94 then (.ret (4, 0, (⟨#[]⟩ : ByteArray), false, ([] : List S24), (t10.2.2.1.extract 1 t10.2.2.1.size), t10.2.2.2)) else (if t10.1 = 36 then (.ret (5, 0, (⟨#[]⟩ : ByteArray), false, ([] : List S24), (t10.2.2.1.extract 1 t10.2.2.1.size), t10.2.2.2)) else (if t10.1 = 91 then (.opt (impl_rexReader_set.fv (t10.2.2.1.extract 1 t10.2.2.1.size) t10.2.2.2) fun t45 => (.ret (t45.1, t45.2.1, t45.2.2.1, t45.2.2.2.1, t45.2.2.2.2.1, t45.2.2.2.2.2.1, t45.2.2.2.2.2.2))) else (if t10.1 = 92 then (.opt (impl_rexReader_next.f (t10.2.2.1.extract 1 t10.2.2.1.size) t10.2.2.2) fun t50 => (if t50.2.1 = true then (if 1 ≤ (t50.2.2.1.size : Int) then (.ret (1, (wrap64 (t50.1)), (⟨#[]⟩ : ByteArray), false, ([] : List S24), (t50.2.2.1.extract 1 t50.2.2.1.size), t50.2.2.2)) else (.bad)) else (.ret (0, 0, (⟨#[]⟩ : ByteArray), false, ([] : List S24), t50.2.2.1, true)))) else (if t10.1 = 42 then (.ret (0, 0, (⟨#[]⟩ : ByteArray), false, ([] : List S24), (t10.2.2.1.extract 1 t10.2.2.1.size), true)) else (if t10.1 = 43 then (.ret (0, 0, (⟨#[]⟩ : ByteArray), false, ([] : List S24), (t10.2.2.1.extract 1 t10.2.2.1.size), true)) else (if t10.1 = 63 then (.ret (0, 0, (⟨#[]⟩ : ByteArray), false, ([] : List S24), (t10.2.2.1.extract 1 t10.2.2.1.size), true)) else (.ret (1, (wrap64 (t10.1)), (⟨#[]⟩ : ByteArray), false, ([] : List S24), (t10.2.2.1.extract 1 t10.2.2.1.size), t10.2.2.2))))))))))) else (.bad))
def impl_rexReader_pattern.fv (s0_0 : ByteArray) (s0_1 : Bool) : Option (Int × Int × ByteArray × Bool × (List S24) × ByteArray × Bool) := lim impl_rexReader_pattern.B (.impl_rexReader_pattern_f s0_0 s0_1)
def impl_rexReader_pattern.l0v (x3 : List S24) (x1000 : ByteArray) (x1001 : Bool) : Option (Int × Int × ByteArray × Bool × (List S24) × ByteArray × Bool) := lim impl_rexReader_pattern.B (.impl_rexReader_pattern_l0 x3 x1000 x1001)
def impl_rexReader_part.fv (s0_0 : ByteArray) (s0_1 : Bool) : Option (Int × Int × ByteArray × Bool × (List S24) × ByteArray × Bool) := lim impl_rexReader_pattern.B (.impl_rexReader_part_f s0_0 s0_1)
def impl_rexReader_part.j1v (x3 : List S24) (x1000 : ByteArray) (x1001 : Bool) : Option (Int × Int × ByteArray × Bool × (List S24) × ByteArray × Bool) := lim impl_rexReader_pattern.B (.impl_rexReader_part_j1 x3 x1000 x1001)
def impl_rexReader_part.l0v (x3 : List S24) (x1000 : ByteArray) (x1001 : Bool) : Option (Int × Int × ByteArray × Bool × (List S24) × ByteArray × Bool) := lim impl_rexReader_pattern.B (.impl_rexReader_part_l0 x3 x1000 x1001)
def impl_rexReader_piece.fv (s0_0 : ByteArray) (s0_1 : Bool) : Option (Int × Int × ByteArray × Bool × (List S24) × ByteArray × Bool) := lim impl_rexReader_pattern.B (.impl_rexReader_piece_f s0_0 s0_1)
def impl_rexReader_piece.l0v (y1008209 : List S24) (x1000 : ByteArray) (x1001 : Bool) (x530_0 : Int) (x530_1 : Int) (x530_2 : ByteArray) (x530_3 : Bool) : Option (Int × Int × ByteArray × Bool × (List S24) × ByteArray × Bool) := lim impl_rexReader_pattern.B (.impl_rexReader_piece_l0 y1008209 x1000 x1001 x530_0 x530_1 x530_2 x530_3)
def impl_rexReader_atom.fv (s0_0 : ByteArray) (s0_1 : Bool) : Option (Int × Int × ByteArray × Bool × (List S24) × ByteArray × Bool) := lim impl_rexReader_pattern.B (.impl_rexReader_atom_f s0_0 s0_1)
theorem impl_rexReader_pattern.fv_eq (s0_0 : ByteArray) (s0_1 : Bool) : impl_rexReader_pattern.fv s0_0 s0_1 = ((impl_rexReader_part.fv s0_0 s0_1).bind fun t5 => (impl_rexReader_pattern.l0v ([(⟨t5.1, t5.2.1, t5.2.2.1, t5.2.2.2.1, t5.2.2.2.2.1⟩ : S24)] : List S24) t5.2.2.2.2.2.1 t5.2.2.2.2.2.2)) := by
  show lim impl_rexReader_pattern.B (.impl_rexReader_pattern_f s0_0 s0_1) = _
  rw [lim_eq, impl_rexReader_pattern.B]
  simp only [ev_ite, ev_opt, ev_ask, ev_to, ev_ret, ev_bad]
  try rfl
theorem impl_rexReader_pattern.l0v_eq (x3 : List S24) (x1000 : ByteArray) (x1001 : Bool) : impl_rexReader_pattern.l0v x3 x1000 x1001 = ((impl_rexReader_take.f x1000 x1001 124).bind fun t8 => (if t8.1 = true then ((impl_rexReader_part.fv t8.2.1 t8.2.2).bind fun t11 => (if x3.length < 2199023255552 then (impl_rexReader_pattern.l0v (x3 ++ [(⟨t11.1, t11.2.1, t11.2.2.1, t11.2.2.2.1, t11.2.2.2.2.1⟩ : S24)]) t11.2.2.2.2.2.1 t11.2.2.2.2.2.2) else (none))) else (if (x3.length : Int) = 1 then (if 0 < (x3.length : Int) then (some ((rd_T24 x3 0).f0, (rd_T24 x3 0).f1, (rd_T24 x3 0).f2, (rd_T24 x3 0).f3, (rd_T24 x3 0).f4, t8.2.1, t8.2.2)) else (none)) else (some (7, 0, (⟨#[]⟩ : ByteArray), false, x3, t8.2.1, t8.2.2))))) := by
  show lim impl_rexReader_pattern.B (.impl_rexReader_pattern_l0 x3 x1000 x1001) = _
  rw [lim_eq, impl_rexReader_pattern.B]
  simp only [ev_ite, ev_opt, ev_ask, ev_to, ev_ret, ev_bad]
  try rfl
theorem impl_rexReader_part.fv_eq (s0_0 : ByteArray) (s0_1 : Bool) : impl_rexReader_part.fv s0_0 s0_1 = (impl_rexReader_part.l0v ([] : List S24) s0_0 s0_1) := by
  show lim impl_rexReader_pattern.B (.impl_rexReader_part_f s0_0 s0_1) = _
  rw [lim_eq, impl_rexReader_pattern.B]
  simp only [ev_ite, ev_opt, ev_ask, ev_to, ev_ret, ev_bad]
  try rfl
theorem impl_rexReader_part.j1v_eq (x3 : List S24) (x1000 : ByteArray) (x1001 : Bool) : impl_rexReader_part.j1v x3 x1000 x1001 = (if (x3.length : Int) = 0 then (some (11, 0, (⟨#[]⟩ : ByteArray), false, ([] : List S24), x1000, x1001)) else (if (x3.length : Int) = 1 then (if 0 < (x3.length : Int) then (some ((rd_T24 x3 0).f0, (rd_T24 x3 0).f1, (rd_T24 x3 0).f2, (rd_T24 x3 0).f3, (rd_T24 x3 0).f4, x1000, x1001)) else (none)) else (some (6, 0, (⟨#[]⟩ : ByteArray), false, x3, x1000, x1001)))) := by
  show lim impl_rexReader_pattern.B (.impl_rexReader_part_j1 x3 x1000 x1001) = _
  rw [lim_eq, impl_rexReader_pattern.B]
  simp only [ev_ite, ev_opt, ev_ask, ev_to, ev_ret, ev_bad]
  try rfl
theorem impl_rexReader_part.l0v_eq (x3 : List S24) (x1000 : ByteArray) (x1001 : Bool) : impl_rexReader_part.l0v x3 x1000 x1001 = ((impl_rexReader_next.f x1000 x1001).bind fun t9 => (if t9.2.1 = true then (if t9.1 = 124 then (impl_rexReader_part.j1v x3 t9.2.2.1 t9.2.2.2) else (if t9.1 = 41 then (impl_rexReader_part.j1v x3 t9.2.2.1 t9.2.2.2) else ((impl_rexReader_piece.fv t9.2.2.1 t9.2.2.2).bind fun t24 => (if x3.length < 2199023255552 then (impl_rexReader_part.l0v (x3 ++ [(⟨t24.1, t24.2.1, t24.2.2.1, t24.2.2.2.1, t24.2.2.2.2.1⟩ : S24)]) t24.2.2.2.2.2.1 t24.2.2.2.2.2.2) else (none))))) else (impl_rexReader_part.j1v x3 t9.2.2.1 t9.2.2.2))) := by
  show lim impl_rexReader_pattern.B (.impl_rexReader_part_l0 x3 x1000 x1001) = _
  rw [lim_eq, impl_rexReader_pattern.B]
  simp only [ev_ite, ev_opt, ev_ask, ev_to, ev_ret, ev_bad]
  try rfl
theorem impl_rexReader_piece.fv_eq (s0_0 : ByteArray) (s0_1 : Bool) : impl_rexReader_piece.fv s0_0 s0_1 = ((impl_rexReader_atom.fv s0_0 s0_1).bind fun t7 => (impl_rexReader_piece.l0v t7.2.2.2.2.1 t7.2.2.2.2.2.1 t7.2.2.2.2.2.2 t7.1 t7.2.1 t7.2.2.1 t7.2.2.2.1)) := by
  show lim impl_rexReader_pattern.B (.impl_rexReader_piece_f s0_0 s0_1) = _
  rw [lim_eq, impl_rexReader_pattern.B]
  simp only [ev_ite, ev_opt, ev_ask, ev_to, ev_ret, ev_bad]
  try rfl
theorem impl_rexReader_piece.l0v_eq (y1008209 : List S24) (x1000 : ByteArray) (x1001 : Bool) (x530_0 : Int) (x530_1 : Int) (x530_2 : ByteArray) (x530_3 : Bool) : impl_rexReader_piece.l0v y1008209 x1000 x1001 x530_0 x530_1 x530_2 x530_3 = ((impl_rexReader_next.f x1000 x1001).bind fun t10 => (if t10.2.1 = true then ((impl_repeatOf.f t10.1).bind fun t17 => (if t17 = 0 then (some (x530_0, x530_1, x530_2, x530_3, y1008209, t10.2.2.1, t10.2.2.2)) else (if 1 ≤ (t10.2.2.1.size : Int) then ((impl_repeatOf.f t10.1).bind fun t30 => (impl_rexReader_piece.l0v ([(⟨x530_0, x530_1, x530_2, x530_3, y1008209⟩ : S24)] : List S24) (t10.2.2.1.extract 1 t10.2.2.1.size) t10.2.2.2 t30 0 (⟨#[]⟩ : ByteArray) false)) else (none)))) else (some (x530_0, x530_1, x530_2, x530_3, y1008209, t10.2.2.1, t10.2.2.2)))) := by
  show lim impl_rexReader_pattern.B (.impl_rexReader_piece_l0 y1008209 x1000 x1001 x530_0 x530_1 x530_2 x530_3) = _
  rw [lim_eq, impl_rexReader_pattern.B]
  simp only [ev_ite, ev_opt, ev_ask, ev_to, ev_ret, ev_bad]
  try rfl
theorem impl_rexReader_atom.fv_eq (s0_0 : ByteArray) (s0_1 : Bool) : impl_rexReader_atom.fv s0_0 s0_1 = ((impl_rexReader_next.f s0_0 s0_1).bind fun t10 => (if 1 ≤ (t10.2.2.1.size : Int) then (if t10.1 = 40 then ((impl_rexReader_pattern.fv (t10.2.2.1.extract 1 t10.2.2.1.size) t10.2.2.2).bind fun t25 => ((impl_rexReader_take.f t25.2.2.2.2.2.1 t25.2.2.2.2.2.2 41).bind fun t27 => (if t27.1 = true then (some (t25.1, t25.2.1, t25.2.2.1, t25.2.2.2.1, t25.2.2.2.2.1, t27.2.1, t27.2.2)) else (some (t25.1, t25.2.1, t25.2.2.1, t25.2.2.2.1, t25.2.2.2.2.1, t27.2.1, true))))) else (if t10.1 = 46 then (some (2, 0, (⟨#[]⟩ : ByteArray), false, ([] : List S24), (t10.2.2.1.extract 1 t10.2.2.1.size), t10.2.2.2)) else (if t10.1 = 94 then (some (4, 0, (⟨#[]⟩ : ByteArray), false, ([] : List S24), (t10.2.2.1.extract 1 t10.2.2.1.size), t10.2.2.2)) else (if t10.1 = 36 then (some (5, 0, (⟨#[]⟩ : ByteArray), false, ([] : List S24), (t10.2.2.1.extract 1 t10.2.2.1.size), t10.2.2.2)) else (if t10.1 = 91 then ((impl_rexReader_set.fv (t10.2.2.1.extract 1 t10.2.2.1.size) t10.2.2.2).bind fun t45 => (some (t45.1, t45.2.1, t45.2.2.1, t45.2.2.2.1, t45.2.2.2.2.1, t45.2.2.2.2.2.1, t45.2.2.2.2.2.2))) else (if t10.1 = 92 then ((impl_rexReader_next.f (t10.2.2.1.extract 1 t10.2.2.1.size) t10.2.2.2).bind fun t50 => (if t50.2.1 = true then (if 1 ≤ (t50.2.2.1.size : Int) then (some (1, (wrap64 (t50.1)), (⟨#[]⟩ : ByteArray), false, ([] : List S24), (t50.2.2.1.extract 1 t50.2.2.1.size), t50.2.2.2)) else (none)) else (some (0, 0, (⟨#[]⟩ : ByteArray), false, ([] : List S24), t50.2.2.1, true)))) else (if t10.1 = 42 then (some (0, 0, (⟨#[]⟩ : ByteArray), false, ([] : List S24), (t10.2.2.1.extract 1 t10.2.2.1.size), true)) else (if t10.1 = 43 then (some (0, 0, (⟨#[]⟩ : ByteArray), false, ([] : List S24), (t10.2.2.1.extract 1 t10.2.2.1.size), true)) else (if t10.1 = 63 then (some (0, 0, (⟨#[]⟩ : ByteArray), false, ([] : List S24), (t10.2.2.1.extract 1 t10.2.2.1.size), true)) else (some (1, (wrap64 (t10.1)), (⟨#[]⟩ : ByteArray), false, ([] : List S24), (t10.2.2.1.extract 1 t10.2.2.1.size), t10.2.2.2))))))))))) else (none))) := by
  show lim impl_rexReader_pattern.B (.impl_rexReader_atom_f s0_0 s0_1) = _
  rw [lim_eq, impl_rexReader_pattern.B]
  simp only [ev_ite, ev_opt, ev_ask, ev_to, ev_ret, ev_bad]
  try rfl
inductive impl_rexDeep.Q where
  | f (a0_0 : Int) (a0_1 : Int) (a0_2 : ByteArray) (a0_3 : Bool) (l0_4 : List S24)
  | l0 (x3 : Int) (x7 : List S24) (x8 : Int) (x9 : Int)
def impl_rexDeep.B : impl_rexDeep.Q → Pg impl_rexDeep.Q (fun _ => Int) (Int)
  | .f a0_0 a0_1 a0_2 a0_3 l0_4 => .to (.l0 0 l0_4 (l0_4.length : Int) 0)
  | .l0 x3 x7 x8 x9 => if x9 < x8 then (if 0 ≤ x9 then (if x9 < (x7.length : Int) then (.ask (.f ((rd_T24 x7 x9).f0) ((rd_T24 x7 x9).f1) ((rd_T24 x7 x9).f2) ((rd_T24 x7 x9).f3) ((rd_T24 x7 x9).f4)) fun (t15 : Int) => (.to (.l0 (mx x3 t15) x7 x8 (wrap64 (x9 + 1))))) else (.bad)) else (.bad)) else (.ret (wrap64 (x3 + 1)))
def impl_rexDeep.fv (a0_0 : Int) (a0_1 : Int) (a0_2 : ByteArray) (a0_3 : Bool) (l0_4 : List S24) : Option (Int) := lim impl_rexDeep.B (.f a0_0 a0_1 a0_2 a0_3 l0_4)
def impl_rexDeep.l0v (x3 : Int) (x7 : List S24) (x8 : Int) (x9 : Int) : Option (Int) := lim impl_rexDeep.B (.l0 x3 x7 x8 x9)
theorem impl_rexDeep.fv_eq (a0_0 : Int) (a0_1 : Int) (a0_2 : ByteArray) (a0_3 : Bool) (l0_4 : List S24) : impl_rexDeep.fv a0_0 a0_1 a0_2 a0_3 l0_4 = (impl_rexDeep.l0v 0 l0_4 (l0_4.length : Int) 0) := by
  show lim impl_rexDeep.B (.f a0_0 a0_1 a0_2 a0_3 l0_4) = _
  rw [lim_eq, impl_rexDeep.B]
  simp only [ev_ite, ev_opt, ev_ask, ev_to, ev_ret, ev_bad]
  try rfl
theorem impl_rexDeep.l0v_eq (x3 : Int) (x7 : List S24) (x8 : Int) (x9 : Int) : impl_rexDeep.l0v x3 x7 x8 x9 = (if x9 < x8 then (if 0 ≤ x9 then (if x9 < (x7.length : Int) then ((impl_rexDeep.fv ((rd_T24 x7 x9).f0) ((rd_T24 x7 x9).f1) ((rd_T24 x7 x9).f2) ((rd_T24 x7 x9).f3) ((rd_T24 x7 x9).f4)).bind fun t15 => (impl_rexDeep.l0v (mx x3 t15) x7 x8 (wrap64 (x9 + 1)))) else (none)) else (none)) else (some (wrap64 (x3 + 1)))) := by
  show lim impl_rexDeep.B (.l0 x3 x7 x8 x9) = _
  rw [lim_eq, impl_rexDeep.B]
  simp only [ev_ite, ev_opt, ev_ask, ev_to, ev_ret, ev_bad]
  try rfl
def impl_RexParse.fv (a0 : ByteArray) : Option (Int × Int × ByteArray × Bool × (List S24) × Bool) := if (a0.size : Int) > 60 then (some (0, 0, (⟨#[]⟩ : ByteArray), false, ([] : List S24), false)) else ((impl_rexReader_pattern.fv a0 false).bind fun t14 => (if t14.2.2.2.2.2.2 = true then (some (0, 0, (⟨#[]⟩ : ByteArray), false, ([] : List S24), false)) else (if t14.2.2.2.2.2.1.toList = ([] : List UInt8) then ((impl_rexDeep.fv t14.1 t14.2.1 t14.2.2.1 t14.2.2.2.1 t14.2.2.2.2.1).bind fun t28 => (if t28 > 12 then (some (0, 0, (⟨#[]⟩ : ByteArray), false, ([] : List S24), false)) else (some (t14.1, t14.2.1, t14.2.2.1, t14.2.2.2.1, t14.2.2.2.2.1, true)))) else (some (0, 0, (⟨#[]⟩ : ByteArray), false, ([] : List S24), false)))))
theorem impl_RexParse.fv_eq (a0 : ByteArray) : impl_RexParse.fv a0 = (if (a0.size : Int) > 60 then (some (0, 0, (⟨#[]⟩ : ByteArray), false, ([] : List S24), false)) else ((impl_rexReader_pattern.fv a0 false).bind fun t14 => (if t14.2.2.2.2.2.2 = true then (some (0, 0, (⟨#[]⟩ : ByteArray), false, ([] : List S24), false)) else (if t14.2.2.2.2.2.1.toList = ([] : List UInt8) then ((impl_rexDeep.fv t14.1 t14.2.1 t14.2.2.1 t14.2.2.2.1 t14.2.2.2.2.1).bind fun t28 => (if t28 > 12 then (some (0, 0, (⟨#[]⟩ : ByteArray), false, ([] : List S24), false)) else (some (t14.1, t14.2.1, t14.2.2.1, t14.2.2.2.1, t14.2.2.2.2.1, true)))) else (some (0, 0, (⟨#[]⟩ : ByteArray), false, ([] : List S24), false)))))) := by rw [impl_RexParse.fv]
inductive laws_eqRex.Q where
  | laws_eqRex_f (a0_0 : Int) (a0_1 : Int) (a0_2 : ByteArray) (a0_3 : Bool) (l0_4 : List S24) (a1_0 : Int) (a1_1 : Int) (a1_2 : ByteArray) (a1_3 : Bool) (l1_4 : List S24)
  | laws_eqRexS_f (l0 : List S24) (l1 : List S24)
  | laws_eqRexS_l0 (x0 : List S24) (x1 : List S24) (x5 : Int)
def laws_eqRex.B : laws_eqRex.Q → Pg laws_eqRex.Q (fun _ => Bool) (Bool)
  | .laws_eqRex_f a0_0 a0_1 a0_2 a0_3 l0_4 a1_0 a1_1 a1_2 a1_3 l1_4 => if a0_0 = a1_0 then (if a0_1 = a1_1 then (if a0_2.toList = a1_2.toList then (if a0_3 = a1_3 then (.ask (.laws_eqRexS_f l0_4 l1_4) fun (t29 : Bool) => (if t29 = true then (.ret true) else (.ret false))) else (.ret false)) else (.ret false)) else (.ret false)) else (.ret false)
  | .laws_eqRexS_f l0 l1 => if (l0.length : Int) = (l1.length : Int) then (.to (.laws_eqRexS_l0 l0 l1 0)) else (.ret false)
  | .laws_eqRexS_l0 x0 x1 x5 => if x5 < (x0.length : Int) then (if 0 ≤ x5 then (if x5 < (x1.length : Int) then (.ask (.laws_eqRex_f ((rd_T24 x0 x5).f0) ((rd_T24 x0 x5).f1) ((rd_T24 x0 x5).f2) ((rd_T24 x0 x5).f3) ((rd_T24 x0 x5).f4) ((rd_T24 x1 x5).f0) ((rd_T24 x1 x5).f1) ((rd_T24 x1 x5).f2) ((rd_T24 x1 x5).f3) ((rd_T24 x1 x5).f4)) fun (t25 : Bool) => (if t25 = true then (.to (.laws_eqRexS_l0 x0 x1 (wrap64 (x5 + 1)))) else (.ret false))) else (.bad)) else (.bad)) else (.ret true)
def laws_eqRex.fv (a0_0 : Int) (a0_1 : Int) (a0_2 : ByteArray) (a0_3 : Bool) (l0_4 : List S24) (a1_0 : Int) (a1_1 : Int) (a1_2 : ByteArray) (a1_3 : Bool) (l1_4 : List S24) : Option (Bool) := lim laws_eqRex.B (.laws_eqRex_f a0_0 a0_1 a0_2 a0_3 l0_4 a1_0 a1_1 a1_2 a1_3 l1_4)
def laws_eqRexS.fv (l0 : List S24) (l1 : List S24) : Option (Bool) := lim laws_eqRex.B (.laws_eqRexS_f l0 l1)
def laws_eqRexS.l0v (x0 : List S24) (x1 : List S24) (x5 : Int) : Option (Bool) := lim laws_eqRex.B (.laws_eqRexS_l0 x0 x1 x5)
theorem laws_eqRex.fv_eq (a0_0 : Int) (a0_1 : Int) (a0_2 : ByteArray) (a0_3 : Bool) (l0_4 : List S24) (a1_0 : Int) (a1_1 : Int) (a1_2 : ByteArray) (a1_3 : Bool) (l1_4 : List S24) : laws_eqRex.fv a0_0 a0_1 a0_2 a0_3 l0_4 a1_0 a1_1 a1_2 a1_3 l1_4 = (if a0_0 = a1_0 then (if a0_1 = a1_1 then (if a0_2.toList = a1_2.toList then (if a0_3 = a1_3 then ((laws_eqRexS.fv l0_4 l1_4).bind fun t29 => (if t29 = true then (some true) else (some false))) else (some false)) else (some false)) else (some false)) else (some false)) := by
  show lim laws_eqRex.B (.laws_eqRex_f a0_0 a0_1 a0_2 a0_3 l0_4 a1_0 a1_1 a1_2 a1_3 l1_4) = _
  rw [lim_eq, laws_eqRex.B]
  simp only [ev_ite, ev_opt, ev_ask, ev_to, ev_ret, ev_bad]
  try rfl
theorem laws_eqRexS.fv_eq (l0 : List S24) (l1 : List S24) : laws_eqRexS.fv l0 l1 = (if (l0.length : Int) = (l1.length : Int) then (laws_eqRexS.l0v l0 l1 0) else (some false)) := by
  show lim laws_eqRex.B (.laws_eqRexS_f l0 l1) = _
  rw [lim_eq, laws_eqRex.B]
  simp only [ev_ite, ev_opt, ev_ask, ev_to, ev_ret, ev_bad]
  try rfl
theorem laws_eqRexS.l0v_eq (x0 : List S24) (x1 : List S24) (x5 : Int) : laws_eqRexS.l0v x0 x1 x5 = (if x5 < (x0.length : Int) then (if 0 ≤ x5 then (if x5 < (x1.length : Int) then ((laws_eqRex.fv ((rd_T24 x0 x5).f0) ((rd_T24 x0 x5).f1) ((rd_T24 x0 x5).f2) ((rd_T24 x0 x5).f3) ((rd_T24 x0 x5).f4) ((rd_T24 x1 x5).f0) ((rd_T24 x1 x5).f1) ((rd_T24 x1 x5).f2) ((rd_T24 x1 x5).f3) ((rd_T24 x1 x5).f4)).bind fun t25 => (if t25 = true then (laws_eqRexS.l0v x0 x1 (wrap64 (x5 + 1))) else (some false))) else (none)) else (none)) else (some true)) := by
  show lim laws_eqRex.B (.laws_eqRexS_l0 x0 x1 x5) = _
  rw [lim_eq, laws_eqRex.B]
  simp only [ev_ite, ev_opt, ev_ask, ev_to, ev_ret, ev_bad]
  try rfl
inductive laws_markText.Q where
  | f (a0 : Int)
  | l0 (x0 : Int) (x3 : ByteArray)
def laws_markText.B : laws_markText.Q → Pg laws_markText.Q (fun _ => ByteArray) (ByteArray)
  | .f a0 => if a0 ≤ 0 then (.ret (⟨#[109, 48]⟩ : ByteArray)) else (.to (.l0 a0 (⟨#[]⟩ : ByteArray)))
  | .l0 x0 x3 => if x0 > 0 then (if (strOfNums ([(((wrap64 (48 + (Int.tmod x0 10)))) % 256)] : List Int)).size + x3.size ≤ 9223372036854775807 then (.to (.l0 (wrap64 (Int.tdiv x0 10)) (((strOfNums ([(((wrap64 (48 + (Int.tmod x0 10)))) % 256)] : List Int)) ++ x3)))) else (.bad)) else (if (⟨#[109]⟩ : ByteArray).size + x3.size ≤ 9223372036854775807 then (.ret ((⟨#[109]⟩ : ByteArray) ++ x3)) else (.bad))
def laws_markText.fv (a0 : Int) : Option (ByteArray) := lim laws_markText.B (.f a0)
def laws_markText.l0v (x0 : Int) (x3 : ByteArray) : Option (ByteArray) := lim laws_markText.B (.l0 x0 x3)
theorem laws_markText.fv_eq (a0 : Int) : laws_markText.fv a0 = (if a0 ≤ 0 then (some (⟨#[109, 48]⟩ : ByteArray)) else (laws_markText.l0v a0 (⟨#[]⟩ : ByteArray))) := by
  show lim laws_markText.B (.f a0) = _
  rw [lim_eq, laws_markText.B]
  simp only [ev_ite, ev_opt, ev_ask, ev_to, ev_ret, ev_bad]
  try rfl
theorem laws_markText.l0v_eq (x0 : Int) (x3 : ByteArray) : laws_markText.l0v x0 x3 = (if x0 > 0 then (if (strOfNums ([(((wrap64 (48 + (Int.tmod x0 10)))) % 256)] : List Int)).size + x3.size ≤ 9223372036854775807 then (laws_markText.l0v (wrap64 (Int.tdiv x0 10)) (((strOfNums ([(((wrap64 (48 + (Int.tmod x0 10)))) % 256)] : List Int)) ++ x3))) else (none)) else (if (⟨#[109]⟩ : ByteArray).size + x3.size ≤ 9223372036854775807 then (some ((⟨#[109]⟩ : ByteArray) ++ x3)) else (none))) := by
  show lim laws_markText.B (.l0 x0 x3) = _
  rw [lim_eq, laws_markText.B]
  simp only [ev_ite, ev_opt, ev_ask, ev_to, ev_ret, ev_bad]
  try rfl
inductive laws_markRexS.Q where
  | f (l0 : List S24) (a1 : Int)
  | l0 (x0 : List S24) (x1 : Int) (x5 : Int)
def laws_markRexS.B : laws_markRexS.Q → Pg laws_markRexS.Q (fun _ => Int × (List S24)) (Int × (List S24))
  | .f l0 a1 => .to (.l0 l0 a1 0)
  | .l0 x0 x1 x5 => if x5 < (x0.length : Int) then (if 0 ≤ x5 then (.opt (some (x0.set (x5 : Int).toNat (⟨x1, (rd_T24 x0 x5).f1, (rd_T24 x0 x5).f2, (rd_T24 x0 x5).f3, (rd_T24 x0 x5).f4⟩ : S24))) fun y4_5 => (if x5 < (y4_5.length : Int) then (.opt (some (y4_5.set (x5 : Int).toNat (⟨(rd_T24 y4_5 x5).f0, (wrap64 (x1 + 1)), (rd_T24 y4_5 x5).f2, (rd_T24 y4_5 x5).f3, (rd_T24 y4_5 x5).f4⟩ : S24))) fun y6_5 => (.opt (laws_markText.fv ((wrap64 ((wrap64 (x1 + 1)) + 1)))) fun t29 => (if x5 < (y6_5.length : Int) then (.opt (some (y6_5.set (x5 : Int).toNat (⟨(rd_T24 y6_5 x5).f0, (rd_T24 y6_5 x5).f1, t29, (rd_T24 y6_5 x5).f3, (rd_T24 y6_5 x5).f4⟩ : S24))) fun y8_6 => (if x5 < (y8_6.length : Int) then (.opt (some (y8_6.set (x5 : Int).toNat (⟨(rd_T24 y8_6 x5).f0, (rd_T24 y8_6 x5).f1, (rd_T24 y8_6 x5).f2, ((Int.tmod (wrap64 ((wrap64 ((wrap64 (x1 + 1)) + 1)) + 1)) 3) == 0), (rd_T24 y8_6 x5).f4⟩ : S24))) fun y10_7 => (if x5 < (y10_7.length : Int) then (.ask (.f ((rd_T24 y10_7 x5).f4) ((wrap64 ((wrap64 ((wrap64 ((wrap64 (x1 + 1)) + 1)) + 1)) + 1)))) fun (t49 : Int × (List S24)) => (.opt (some (y10_7.set (x5 : Int).toNat (⟨(rd_T24 y10_7 x5).f0, (rd_T24 y10_7 x5).f1, (rd_T24 y10_7 x5).f2, (rd_T24 y10_7 x5).f3, t49.2⟩ : S24))) fun y12_6 => (.to (.l0 y12_6 t49.1 (wrap64 (x5 + 1)))))) else (.bad))) else (.bad))) else (.bad)))) else (.bad))) else (.bad)) else (.ret (x1, x0))
def laws_markRexS.fv (l0 : List S24) (a1 : Int) : Option (Int × (List S24)) := lim laws_markRexS.B (.f l0 a1)
def laws_markRexS.l0v (x0 : List S24) (x1 : Int) (x5 : Int) : Option (Int × (List S24)) := lim laws_markRexS.B (.l0 x0 x1 x5)
theorem laws_markRexS.fv_eq (l0 : List S24) (a1 : Int) : laws_markRexS.fv l0 a1 = (laws_markRexS.l0v l0 a1 0) := by
  show lim laws_markRexS.B (.f l0 a1) = _
  rw [lim_eq, laws_markRexS.B]
  simp only [ev_ite, ev_opt, ev_ask, ev_to, ev_ret, ev_bad]
  try rfl
theorem laws_markRexS.l0v_eq (x0 : List S24) (x1 : Int) (x5 : Int) : laws_markRexS.l0v x0 x1 x5 = (if x5 < (x0.length : Int) then (if 0 ≤ x5 then ((some (x0.set (x5 : Int).toNat (⟨x1, (rd_T24 x0 x5).f1, (rd_T24 x0 x5).f2, (rd_T24 x0 x5).f3, (rd_T24 x0 x5).f4⟩ : S24))).bind fun y4_5 => (if x5 < (y4_5.length : Int) then ((some (y4_5.set (x5 : Int).toNat (⟨(rd_T24 y4_5 x5).f0, (wrap64 (x1 + 1)), (rd_T24 y4_5 x5).f2, (rd_T24 y4_5 x5).f3, (rd_T24 y4_5 x5).f4⟩ : S24))).bind fun y6_5 => ((laws_markText.fv ((wrap64 ((wrap64 (x1 + 1)) + 1)))).bind fun t29 => (if x5 < (y6_5.length : Int) then ((some (y6_5.set (x5 : Int).toNat (⟨(rd_T24 y6_5 x5).f0, (rd_T24 y6_5 x5).f1, t29, (rd_T24 y6_5 x5).f3, (rd_T24 y6_5 x5).f4⟩ : S24))).bind fun y8_6 => (if x5 < (y8_6.length : Int) then ((some (y8_6.set (x5 : Int).toNat (⟨(rd_T24 y8_6 x5).f0, (rd_T24 y8_6 x5).f1, (rd_T24 y8_6 x5).f2, ((Int.tmod (wrap64 ((wrap64 ((wrap64 (x1 + 1)) + 1)) + 1)) 3) == 0), (rd_T24 y8_6 x5).f4⟩ : S24))).bind fun y10_7 => (if x5 < (y10_7.length : Int) then ((laws_markRexS.fv ((rd_T24 y10_7 x5).f4) ((wrap64 ((wrap64 ((wrap64 ((wrap64 (x1 + 1)) + 1)) + 1)) + 1)))).bind fun t49 => ((some (y10_7.set (x5 : Int).toNat (⟨(rd_T24 y10_7 x5).f0, (rd_T24 y10_7 x5).f1, (rd_T24 y10_7 x5).f2, (rd_T24 y10_7 x5).f3, t49.2⟩ : S24))).bind fun y12_6 => (laws_markRexS.l0v y12_6 t49.1 (wrap64 (x5 + 1))))) else (none))) else (none))) else (none)))) else (none))) else (none)) else (some (x1, x0))) := by
  show lim laws_markRexS.B (.l0 x0 x1 x5) = _
  rw [lim_eq, laws_markRexS.B]
  simp only [ev_ite, ev_opt, ev_ask, ev_to, ev_ret, ev_bad]
  try rfl
def laws_markRex.fv (s0_0 : Int) (s0_1 : Int) (s0_2 : ByteArray) (s0_3 : Bool) (l0_4 : List S24) (a1 : Int) : Option (Int × (List S24)) := (laws_markRexS.fv l0_4 a1).bind fun t8 => (some (t8.1, t8.2))
theorem laws_markRex.fv_eq (s0_0 : Int) (s0_1 : Int) (s0_2 : ByteArray) (s0_3 : Bool) (l0_4 : List S24) (a1 : Int) : laws_markRex.fv s0_0 s0_1 s0_2 s0_3 l0_4 a1 = ((laws_markRexS.fv l0_4 a1).bind fun t8 => (some (t8.1, t8.2))) := by rw [laws_markRex.fv]
inductive laws_heldRexS.Q where
  | f (l0 : List S24) (a1 : Int)
  | l0 (x0 : List S24) (x1 : Int) (x5 : Int)
def laws_heldRexS.B : laws_heldRexS.Q → Pg laws_heldRexS.Q (fun _ => Int) (Int)
  | .f l0 a1 => .to (.l0 l0 a1 0)
  | .l0 x0 x1 x5 => if x5 < (x0.length : Int) then (if 0 ≤ x5 then (if (rd_T24 x0 x5).f0 = x1 then (if (rd_T24 x0 x5).f1 = (wrap64 (x1 + 1)) then (.opt (laws_markText.fv ((wrap64 ((wrap64 (x1 + 1)) + 1)))) fun t36 => (if (rd_T24 x0 x5).f2.toList = t36.toList then (if (rd_T24 x0 x5).f3 = ((Int.tmod (wrap64 ((wrap64 ((wrap64 (x1 + 1)) + 1)) + 1)) 3) == 0) then (.ask (.f ((rd_T24 x0 x5).f4) ((wrap64 ((wrap64 ((wrap64 ((wrap64 (x1 + 1)) + 1)) + 1)) + 1)))) fun (t57 : Int) => (if t57 < 0 then (.ret (-1)) else (.to (.l0 x0 t57 (wrap64 (x5 + 1)))))) else (.ret (-1))) else (.ret (-1)))) else (.ret (-1))) else (.ret (-1))) else (.bad)) else (.ret x1)
def laws_heldRexS.fv (l0 : List S24) (a1 : Int) : Option (Int) := lim laws_heldRexS.B (.f l0 a1)
def laws_heldRexS.l0v (x0 : List S24) (x1 : Int) (x5 : Int) : Option (Int) := lim laws_heldRexS.B (.l0 x0 x1 x5)
theorem laws_heldRexS.fv_eq (l0 : List S24) (a1 : Int) : laws_heldRexS.fv l0 a1 = (laws_heldRexS.l0v l0 a1 0) := by
  show lim laws_heldRexS.B (.f l0 a1) = _
  rw [lim_eq, laws_heldRexS.B]
  simp only [ev_ite, ev_opt, ev_ask, ev_to, ev_ret, ev_bad]
  try rfl
theorem laws_heldRexS.l0v_eq (x0 : List S24) (x1 : Int) (x5 : Int) : laws_heldRexS.l0v x0 x1 x5 = (if x5 < (x0.length : Int) then (if 0 ≤ x5 then (if (rd_T24 x0 x5).f0 = x1 then (if (rd_T24 x0 x5).f1 = (wrap64 (x1 + 1)) then ((laws_markText.fv ((wrap64 ((wrap64 (x1 + 1)) + 1)))).bind fun t36 => (if (rd_T24 x0 x5).f2.toList = t36.toList then (if (rd_T24 x0 x5).f3 = ((Int.tmod (wrap64 ((wrap64 ((wrap64 (x1 + 1)) + 1)) + 1)) 3) == 0) then ((laws_heldRexS.fv ((rd_T24 x0 x5).f4) ((wrap64 ((wrap64 ((wrap64 ((wrap64 (x1 + 1)) + 1)) + 1)) + 1)))).bind fun t57 => (if t57 < 0 then (some (-1)) else (laws_heldRexS.l0v x0 t57 (wrap64 (x5 + 1))))) else (some (-1))) else (some (-1)))) else (some (-1))) else (some (-1))) else (none)) else (some x1)) := by
  show lim laws_heldRexS.B (.l0 x0 x1 x5) = _
  rw [lim_eq, laws_heldRexS.B]
  simp only [ev_ite, ev_opt, ev_ask, ev_to, ev_ret, ev_bad]
  try rfl
def laws_heldRex.fv (a0_0 : Int) (a0_1 : Int) (a0_2 : ByteArray) (a0_3 : Bool) (l0_4 : List S24) (a1 : Int) : Option (Int) := (laws_heldRexS.fv l0_4 a1).bind fun t8 => (if t8 < 0 then (some (-1)) else (some t8))
theorem laws_heldRex.fv_eq (a0_0 : Int) (a0_1 : Int) (a0_2 : ByteArray) (a0_3 : Bool) (l0_4 : List S24) (a1 : Int) : laws_heldRex.fv a0_0 a0_1 a0_2 a0_3 l0_4 a1 = ((laws_heldRexS.fv l0_4 a1).bind fun t8 => (if t8 < 0 then (some (-1)) else (some t8))) := by rw [laws_heldRex.fv]
inductive laws_FnExactRexParse.Q where
  | f (a0 : ByteArray)
  | j0 (x0 : ByteArray) (x4 : Bool) (y1032785 : List S24) (x1557_0 : Int) (x1557_1 : Int) (x1557_2 : ByteArray) (x1557_3 : Bool) (x1557_4 : List S24) (x2069_0 : Int) (x2069_1 : Int) (x2069_2 : ByteArray) (x2069_3 : Bool)
  | j1 (x0 : ByteArray) (x4 : Bool) (x32 : Bool) (y1032785 : List S24) (x1557_0 : Int) (x1557_1 : Int) (x1557_2 : ByteArray) (x1557_3 : Bool) (x1557_4 : List S24) (x2069_0 : Int) (x2069_1 : Int) (x2069_2 : ByteArray) (x2069_3 : Bool)
  | j2 (x7 : Int) (y1032785 : List S24) (x2069_0 : Int) (x2069_1 : Int) (x2069_2 : ByteArray) (x2069_3 : Bool)
  | j3 (x7 : Int) (x57 : Bool) (y1032785 : List S24) (x2069_0 : Int) (x2069_1 : Int) (x2069_2 : ByteArray) (x2069_3 : Bool)
def laws_FnExactRexParse.B : laws_FnExactRexParse.Q → Pg laws_FnExactRexParse.Q (fun _ => Bool) (Bool)
  | .f a0 => if (a0.size : Int) > 1048576 then (.ret true) else (.opt (spec_RexParse.fv a0) fun t16 => (.opt (impl_RexParse.fv a0) fun t21 => (.opt (laws_eqRex.fv t21.1 t21.2.1 t21.2.2.1 t21.2.2.2.1 t21.2.2.2.2.1 t16.1 t16.2.1 t16.2.2.1 t16.2.2.2.1 t16.2.2.2.2.1) fun t26 => (if t26 = true then (.to (.j1 a0 t16.2.2.2.2.2 (!(t21.2.2.2.2.2 == t16.2.2.2.2.2)) t21.2.2.2.2.1 t16.1 t16.2.1 t16.2.2.1 t16.2.2.2.1 t16.2.2.2.2.1 t21.1 t21.2.1 t21.2.2.1 t21.2.2.2.1)) else (.to (.j1 a0 t16.2.2.2.2.2 true t21.2.2.2.2.1 t16.1 t16.2.1 t16.2.2.1 t16.2.2.2.1 t16.2.2.2.2.1 t21.1 t21.2.1 t21.2.2.1 t21.2.2.2.1))))))
  | .j0 x0 x4 y1032785 x1557_0 x1557_1 x1557_2 x1557_3 x1557_4 x2069_0 x2069_1 x2069_2 x2069_3 => .opt (laws_markRex.fv x2069_0 x2069_1 x2069_2 x2069_3 y1032785 1) fun t35 => (.opt (laws_heldRex.fv x2069_0 x2069_1 x2069_2 x2069_3 t35.2 1) fun t38 => (if t38 < 0 then (.ret false) else (if t38 = t35.1 then (.opt (impl_RexParse.fv x0) fun t46 => (.opt (laws_eqRex.fv t46.1 t46.2.1 t46.2.2.1 t46.2.2.2.1 t46.2.2.2.2.1 x1557_0 x1557_1 x1557_2 x1557_3 x1557_4) fun t51 => (if t51 = true then (.to (.j3 t35.1 (!(t46.2.2.2.2.2 == x4)) t35.2 x2069_0 x2069_1 x2069_2 x2069_3)) else (.to (.j3 t35.1 true t35.2 x2069_0 x2069_1 x2069_2 x2069_3))))) else (.ret false))))
  | .j1 x0 x4 x32 y1032785 x1557_0 x1557_1 x1557_2 x1557_3 x1557_4 x2069_0 x2069_1 x2069_2 x2069_3 => if x32 = true then (.ret false) else (.to (.j0 x0 x4 y1032785 x1557_0 x1557_1 x1557_2 x1557_3 x1557_4 x2069_0 x2069_1 x2069_2 x2069_3))
  | .j2 x7 y1032785 x2069_0 x2069_1 x2069_2 x2069_3 => .opt (laws_heldRex.fv x2069_0 x2069_1 x2069_2 x2069_3 y1032785 1) fun t60 => (if t60 < 0 then (.ret false) else (if t60 = x7 then (.ret true) else (.ret false)))
  | .j3 x7 x57 y1032785 x2069_0 x2069_1 x2069_2 x2069_3 => if x57 = true then (.ret false) else (.to (.j2 x7 y1032785 x2069_0 x2069_1 x2069_2 x2069_3))
def laws_FnExactRexParse.fv (a0 : ByteArray) : Option (Bool) := lim laws_FnExactRexParse.B (.f a0)
def laws_FnExactRexParse.j0v (x0 : ByteArray) (x4 : Bool) (y1032785 : List S24) (x1557_0 : Int) (x1557_1 : Int) (x1557_2 : ByteArray) (x1557_3 : Bool) (x1557_4 : List S24) (x2069_0 : Int) (x2069_1 : Int) (x2069_2 : ByteArray) (x2069_3 : Bool) : Option (Bool) := lim laws_FnExactRexParse.B (.j0 x0 x4 y1032785 x1557_0 x1557_1 x1557_2 x1557_3 x1557_4 x2069_0 x2069_1 x2069_2 x2069_3)
def laws_FnExactRexParse.j1v (x0 : ByteArray) (x4 : Bool) (x32 : Bool) (y1032785 : List S24) (x1557_0 : Int) (x1557_1 : Int) (x1557_2 : ByteArray) (x1557_3 : Bool) (x1557_4 : List S24) (x2069_0 : Int) (x2069_1 : Int) (x2069_2 : ByteArray) (x2069_3 : Bool) : Option (Bool) := lim laws_FnExactRexParse.B (.j1 x0 x4 x32 y1032785 x1557_0 x1557_1 x1557_2 x1557_3 x1557_4 x2069_0 x2069_1 x2069_2 x2069_3)
def laws_FnExactRexParse.j2v (x7 : Int) (y1032785 : List S24) (x2069_0 : Int) (x2069_1 : Int) (x2069_2 : ByteArray) (x2069_3 : Bool) : Option (Bool) := lim laws_FnExactRexParse.B (.j2 x7 y1032785 x2069_0 x2069_1 x2069_2 x2069_3)
def laws_FnExactRexParse.j3v (x7 : Int) (x57 : Bool) (y1032785 : List S24) (x2069_0 : Int) (x2069_1 : Int) (x2069_2 : ByteArray) (x2069_3 : Bool) : Option (Bool) := lim laws_FnExactRexParse.B (.j3 x7 x57 y1032785 x2069_0 x2069_1 x2069_2 x2069_3)
theorem laws_FnExactRexParse.fv_eq (a0 : ByteArray) : laws_FnExactRexParse.fv a0 = (if (a0.size : Int) > 1048576 then (some true) else ((spec_RexParse.fv a0).bind fun t16 => ((impl_RexParse.fv a0).bind fun t21 => ((laws_eqRex.fv t21.1 t21.2.1 t21.2.2.1 t21.2.2.2.1 t21.2.2.2.2.1 t16.1 t16.2.1 t16.2.2.1 t16.2.2.2.1 t16.2.2.2.2.1).bind fun t26 => (if t26 = true then (laws_FnExactRexParse.j1v a0 t16.2.2.2.2.2 (!(t21.2.2.2.2.2 == t16.2.2.2.2.2)) t21.2.2.2.2.1 t16.1 t16.2.1 t16.2.2.1 t16.2.2.2.1 t16.2.2.2.2.1 t21.1 t21.2.1 t21.2.2.1 t21.2.2.2.1) else (laws_FnExactRexParse.j1v a0 t16.2.2.2.2.2 true t21.2.2.2.2.1 t16.1 t16.2.1 t16.2.2.1 t16.2.2.2.1 t16.2.2.2.2.1 t21.1 t21.2.1 t21.2.2.1 t21.2.2.2.1)))))) := by
  show lim laws_FnExactRexParse.B (.f a0) = _
  rw [lim_eq, laws_FnExactRexParse.B]
  simp only [ev_ite, ev_opt, ev_ask, ev_to, ev_ret, ev_bad]
  try rfl
theorem laws_FnExactRexParse.j0v_eq (x0 : ByteArray) (x4 : Bool) (y1032785 : List S24) (x1557_0 : Int) (x1557_1 : Int) (x1557_2 : ByteArray) (x1557_3 : Bool) (x1557_4 : List S24) (x2069_0 : Int) (x2069_1 : Int) (x2069_2 : ByteArray) (x2069_3 : Bool) : laws_FnExactRexParse.j0v x0 x4 y1032785 x1557_0 x1557_1 x1557_2 x1557_3 x1557_4 x2069_0 x2069_1 x2069_2 x2069_3 = ((laws_markRex.fv x2069_0 x2069_1 x2069_2 x2069_3 y1032785 1).bind fun t35 => ((laws_heldRex.fv x2069_0 x2069_1 x2069_2 x2069_3 t35.2 1).bind fun t38 => (if t38 < 0 then (some false) else (if t38 = t35.1 then ((impl_RexParse.fv x0).bind fun t46 => ((laws_eqRex.fv t46.1 t46.2.1 t46.2.2.1 t46.2.2.2.1 t46.2.2.2.2.1 x1557_0 x1557_1 x1557_2 x1557_3 x1557_4).bind fun t51 => (if t51 = true then (laws_FnExactRexParse.j3v t35.1 (!(t46.2.2.2.2.2 == x4)) t35.2 x2069_0 x2069_1 x2069_2 x2069_3) else (laws_FnExactRexParse.j3v t35.1 true t35.2 x2069_0 x2069_1 x2069_2 x2069_3)))) else (some false))))) := by
  show lim laws_FnExactRexParse.B (.j0 x0 x4 y1032785 x1557_0 x1557_1 x1557_2 x1557_3 x1557_4 x2069_0 x2069_1 x2069_2 x2069_3) = _
  rw [lim_eq, laws_FnExactRexParse.B]
  simp only [ev_ite, ev_opt, ev_ask, ev_to, ev_ret, ev_bad]
  try rfl
theorem laws_FnExactRexParse.j1v_eq (x0 : ByteArray) (x4 : Bool) (x32 : Bool) (y1032785 : List S24) (x1557_0 : Int) (x1557_1 : Int) (x1557_2 : ByteArray) (x1557_3 : Bool) (x1557_4 : List S24) (x2069_0 : Int) (x2069_1 : Int) (x2069_2 : ByteArray) (x2069_3 : Bool) : laws_FnExactRexParse.j1v x0 x4 x32 y1032785 x1557_0 x1557_1 x1557_2 x1557_3 x1557_4 x2069_0 x2069_1 x2069_2 x2069_3 = (if x32 = true then (some false) else (laws_FnExactRexParse.j0v x0 x4 y1032785 x1557_0 x1557_1 x1557_2 x1557_3 x1557_4 x2069_0 x2069_1 x2069_2 x2069_3)) := by
  show lim laws_FnExactRexParse.B (.j1 x0 x4 x32 y1032785 x1557_0 x1557_1 x1557_2 x1557_3 x1557_4 x2069_0 x2069_1 x2069_2 x2069_3) = _
  rw [lim_eq, laws_FnExactRexParse.B]
  simp only [ev_ite, ev_opt, ev_ask, ev_to, ev_ret, ev_bad]
  try rfl
theorem laws_FnExactRexParse.j2v_eq (x7 : Int) (y1032785 : List S24) (x2069_0 : Int) (x2069_1 : Int) (x2069_2 : ByteArray) (x2069_3 : Bool) : laws_FnExactRexParse.j2v x7 y1032785 x2069_0 x2069_1 x2069_2 x2069_3 = ((laws_heldRex.fv x2069_0 x2069_1 x2069_2 x2069_3 y1032785 1).bind fun t60 => (if t60 < 0 then (some false) else (if t60 = x7 then (some true) else (some false)))) := by
  show lim laws_FnExactRexParse.B (.j2 x7 y1032785 x2069_0 x2069_1 x2069_2 x2069_3) = _
  rw [lim_eq, laws_FnExactRexParse.B]
  simp only [ev_ite, ev_opt, ev_ask, ev_to, ev_ret, ev_bad]
  try rfl
theorem laws_FnExactRexParse.j3v_eq (x7 : Int) (x57 : Bool) (y1032785 : List S24) (x2069_0 : Int) (x2069_1 : Int) (x2069_2 : ByteArray) (x2069_3 : Bool) : laws_FnExactRexParse.j3v x7 x57 y1032785 x2069_0 x2069_1 x2069_2 x2069_3 = (if x57 = true then (some false) else (laws_FnExactRexParse.j2v x7 y1032785 x2069_0 x2069_1 x2069_2 x2069_3)) := by
  show lim laws_FnExactRexParse.B (.j3 x7 x57 y1032785 x2069_0 x2069_1 x2069_2 x2069_3) = _
  rw [lim_eq, laws_FnExactRexParse.B]
  simp only [ev_ite, ev_opt, ev_ask, ev_to, ev_ret, ev_bad]
  try rfl
def laws_FnExactRexParse.Pure : Prop := ∀ (x0 : ByteArray), x0.size ≤ maxLen → laws_FnExactRexParse.fv x0 = some true
end
end Go.Proofs.Ytccldchklemogaa.QFnExactRexParse
